import Derived.Test.YtipolnpffmfmmabKFnChecked5
/- Code that is drawn. -/
namespace Go.Ev
set_option linter.unusedVariables false
set_option linter.unusedSimpArgs false
open Go.Proofs
set_option maxRecDepth 100000
set_option linter.unusedVariables false
set_option linter.unusedSimpArgs false
set_option maxHeartbeats 4000000
abbrev sP : ByteArray := ⟨#[43]⟩
abbrev sT : ByteArray := ⟨#[42]⟩
abbrev sD : ByteArray := ⟨#[47]⟩
abbrev sM : ByteArray := ⟨#[37]⟩
abbrev sL : ByteArray := ⟨#[60]⟩
abbrev sE : ByteArray := ⟨#[61, 61]⟩
abbrev sS : ByteArray := ⟨#[60, 60]⟩
abbrev sA : ByteArray := ⟨#[38, 38]⟩
theorem takesC (o n : Int) (t : ByteArray) (f g : Int) (hf : mvOff o = f) (hg : mvOn o = g) : Ev pr (.call 103 [vs [.int .i64 o, .int .i64 n, .str t]] []) (.val (.tup [i64 f, i64 g]) []) := by
  subst hf
  subst hg
  exact l16Takes_ev ⟨o, n, t⟩
def bcSt (bs : List Int) (a s : Int) (l : List Bc) (n d : Int) (Z : Out) : Prop := Ev pr (.loop (lq pr 78 0) (at_ [(0, .ptr 0 1 0 0), (3, .vec 1 l.length 3 0 l.length), (4, i64 n), (5, i64 d)] [cuB bs a s, .vec true 3 (bcc l)] 1)) Z
theorem bcS1_ex (bs : List Int) (hb : okB bs) (a s a1 s1 : Int) (h0 : 0 ≤ a) (ha : a ≤ 40000000) (l : List Bc) (n d : Int) (hn : 0 ≤ n ∧ n ≤ 121) (hl : l.length < n) (hd : -1000 ≤ d ∧ d ≤ 1000) (ha1 : a ≤ a1 ∧ a1 ≤ a + 1)
    (e : Ev pr (.call 95 [.ptr 0 1 0 0, i64 8] [cuB bs a s]) (.val (i64 0) [cuB bs a1 s1])) :
    ∃ (x : Bc) (a' s' d' : Int), (a ≤ a' ∧ a' ≤ a + 5) ∧ (d - 3 ≤ d' ∧ d' ≤ d + 3) ∧ ∀ Z, bcSt bs a' s' (l ++ [x]) n d' Z → bcSt bs a s l n d Z := by
  have tkA := takesC 1 0 e0 0 1 rfl rfl
  by_cases c : 0 > d
  · obtain ⟨b, a2, s2, ha2, e2⟩ := one_ex bs hb a1 s1 (by omega) (by omega) 12 (by omega)
    cases b
    · have tkB := fun n t => takesC 1 n t 0 1 rfl rfl
      obtain ⟨w, a9, s9, hw, ha9, e9⟩ := pick_ex bs hb a2 s2 (by omega) (by omega) 9 (by omega)
      refine ⟨⟨1, w - 2, e0⟩, a9, s9, d + (1 - 0), by omega, by omega, fun Z ih => ?_⟩
      unfold bcSt cuB at *
      rw [List.length_append, List.length_singleton] at ih
      let t1 : Tp pr := .b (show (decide ((↑l.length : Int) < n)) = true by (simp; omega))
      let t3 : Tp pr := .i (rfl : ((1 : Int) : Int) = (1 : Int))
      let t5 : Tp pr := .b (show (decide ((0 : Int) > d)) = true by (simp; omega))
      let t10 : Tp pr := .i (wrap_i64 (a := w - (2 : Int)) (by omega) (by omega))
      let t11 : Tp pr := .a (tkB (w - (2 : Int)) (ByteArray.mk #[]))
      let t12 : Tp pr := .i (rfl : ((1 : Int) : Int) = (1 : Int))
      let t13 : Tp pr := .i (wrap_i64 (a := d + (1 : Int)) (by omega) (by omega))
      let t15 : Tp pr := .m (show (decide ((bcc l).length = l.length ∧ (0 : Nat) + l.length ≤ l.length ∧ l.length + (1 : Nat) ≤ (4294967296 : Nat))) = true by (simp; omega))
      let t16 : Tp pr := .b (show (decide (l.length + (1 : Nat) ≤ l.length)) = false by simp)
      let t18 : Tp pr := .n .crows (show ((List.take l.length (bcc l)).append (List.take (1 : Nat) (List.drop (0 : Nat) [[C.t (T.int IntKind.i64 (1 : Int)), C.t (T.int IntKind.i64 (w - (2 : Int))), C.t (T.str (ByteArray.mk #[]))]]))) = bcc (l ++ [Bc.mk (1 : Int) (w - (2 : Int)) (ByteArray.mk #[])]) by simp)
      exact .tp [.i (rfl : ((↑l.length : Int)) = _), t1, .a (e), t3, .a (tkA), t5, .a (e2), .b (rfl : true = true), .b (rfl : true = true), .a (e9), t10, t11, t12, t13, .m (rfl : true = true), t15, t16, .c (rfl : (l.length + (1 : Nat)) = _), t18, .a (ih)] (by kernel_rfl)
    · have tkB := fun n t => takesC 1 n t 0 1 rfl rfl
      obtain ⟨w, a9, s9, hw, ha9, e9⟩ := pick_ex bs hb a2 s2 (by omega) (by omega) 9 (by omega)
      refine ⟨⟨1, w - 2, e0⟩, a9, s9, d + (1 - 0), by omega, by omega, fun Z ih => ?_⟩
      unfold bcSt cuB at *
      rw [List.length_append, List.length_singleton] at ih
      let t1 : Tp pr := .b (show (decide ((↑l.length : Int) < n)) = true by (simp; omega))
      let t3 : Tp pr := .i (rfl : ((1 : Int) : Int) = (1 : Int))
      let t5 : Tp pr := .b (show (decide ((0 : Int) > d)) = true by (simp; omega))
      let t10 : Tp pr := .i (wrap_i64 (a := w - (2 : Int)) (by omega) (by omega))
      let t11 : Tp pr := .a (tkB (w - (2 : Int)) (ByteArray.mk #[]))
      let t12 : Tp pr := .i (rfl : ((1 : Int) : Int) = (1 : Int))
      let t13 : Tp pr := .i (wrap_i64 (a := d + (1 : Int)) (by omega) (by omega))
      let t15 : Tp pr := .m (show (decide ((bcc l).length = l.length ∧ (0 : Nat) + l.length ≤ l.length ∧ l.length + (1 : Nat) ≤ (4294967296 : Nat))) = true by (simp; omega))
      let t16 : Tp pr := .b (show (decide (l.length + (1 : Nat) ≤ l.length)) = false by simp)
      let t18 : Tp pr := .n .crows (show ((List.take l.length (bcc l)).append (List.take (1 : Nat) (List.drop (0 : Nat) [[C.t (T.int IntKind.i64 (1 : Int)), C.t (T.int IntKind.i64 (w - (2 : Int))), C.t (T.str (ByteArray.mk #[]))]]))) = bcc (l ++ [Bc.mk (1 : Int) (w - (2 : Int)) (ByteArray.mk #[])]) by simp)
      exact .tp [.i (rfl : ((↑l.length : Int)) = _), t1, .a (e), t3, .a (tkA), t5, .a (e2), .b (rfl : false = false), .b (rfl : true = true), .a (e9), t10, t11, t12, t13, .m (rfl : true = true), t15, t16, .c (rfl : (l.length + (1 : Nat)) = _), t18, .a (ih)] (by kernel_rfl)
  · have tkB := fun n t => takesC 1 n t 0 1 rfl rfl
    obtain ⟨w, a9, s9, hw, ha9, e9⟩ := pick_ex bs hb a1 s1 (by omega) (by omega) 9 (by omega)
    refine ⟨⟨1, w - 2, e0⟩, a9, s9, d + (1 - 0), by omega, by omega, fun Z ih => ?_⟩
    unfold bcSt cuB at *
    rw [List.length_append, List.length_singleton] at ih
    let t1 : Tp pr := .b (show (decide ((↑l.length : Int) < n)) = true by (simp; omega))
    let t3 : Tp pr := .i (rfl : ((1 : Int) : Int) = (1 : Int))
    let t5 : Tp pr := .b (show (decide ((0 : Int) > d)) = false by (simp; omega))
    let t9 : Tp pr := .i (wrap_i64 (a := w - (2 : Int)) (by omega) (by omega))
    let t10 : Tp pr := .a (tkB (w - (2 : Int)) (ByteArray.mk #[]))
    let t11 : Tp pr := .i (rfl : ((1 : Int) : Int) = (1 : Int))
    let t12 : Tp pr := .i (wrap_i64 (a := d + (1 : Int)) (by omega) (by omega))
    let t14 : Tp pr := .m (show (decide ((bcc l).length = l.length ∧ (0 : Nat) + l.length ≤ l.length ∧ l.length + (1 : Nat) ≤ (4294967296 : Nat))) = true by (simp; omega))
    let t15 : Tp pr := .b (show (decide (l.length + (1 : Nat) ≤ l.length)) = false by simp)
    let t17 : Tp pr := .n .crows (show ((List.take l.length (bcc l)).append (List.take (1 : Nat) (List.drop (0 : Nat) [[C.t (T.int IntKind.i64 (1 : Int)), C.t (T.int IntKind.i64 (w - (2 : Int))), C.t (T.str (ByteArray.mk #[]))]]))) = bcc (l ++ [Bc.mk (1 : Int) (w - (2 : Int)) (ByteArray.mk #[])]) by simp)
    exact .tp [.i (rfl : ((↑l.length : Int)) = _), t1, .a (e), t3, .a (tkA), t5, .b (rfl : false = false), .b (rfl : true = true), .a (e9), t9, t10, t11, t12, .m (rfl : true = true), t14, t15, .c (rfl : (l.length + (1 : Nat)) = _), t17, .a (ih)] (by kernel_rfl)
theorem bcS2_ex (bs : List Int) (hb : okB bs) (a s a1 s1 : Int) (h0 : 0 ≤ a) (ha : a ≤ 40000000) (l : List Bc) (n d : Int) (hn : 0 ≤ n ∧ n ≤ 121) (hl : l.length < n) (hd : -1000 ≤ d ∧ d ≤ 1000) (ha1 : a ≤ a1 ∧ a1 ≤ a + 1)
    (e : Ev pr (.call 95 [.ptr 0 1 0 0, i64 8] [cuB bs a s]) (.val (i64 1) [cuB bs a1 s1])) :
    ∃ (x : Bc) (a' s' d' : Int), (a ≤ a' ∧ a' ≤ a + 5) ∧ (d - 3 ≤ d' ∧ d' ≤ d + 3) ∧ ∀ Z, bcSt bs a' s' (l ++ [x]) n d' Z → bcSt bs a s l n d Z := by
  have tkA := takesC 2 0 e0 0 1 rfl rfl
  by_cases c : 0 > d
  · obtain ⟨b, a2, s2, ha2, e2⟩ := one_ex bs hb a1 s1 (by omega) (by omega) 12 (by omega)
    cases b
    · have tkB := fun n t => takesC 1 n t 0 1 rfl rfl
      obtain ⟨w, a9, s9, hw, ha9, e9⟩ := pick_ex bs hb a2 s2 (by omega) (by omega) 9 (by omega)
      refine ⟨⟨1, w - 2, e0⟩, a9, s9, d + (1 - 0), by omega, by omega, fun Z ih => ?_⟩
      unfold bcSt cuB at *
      rw [List.length_append, List.length_singleton] at ih
      let t1 : Tp pr := .b (show (decide ((↑l.length : Int) < n)) = true by (simp; omega))
      let t3 : Tp pr := .i (rfl : ((2 : Int) : Int) = (2 : Int))
      let t5 : Tp pr := .b (show (decide ((0 : Int) > d)) = true by (simp; omega))
      let t10 : Tp pr := .i (wrap_i64 (a := w - (2 : Int)) (by omega) (by omega))
      let t11 : Tp pr := .a (tkB (w - (2 : Int)) (ByteArray.mk #[]))
      let t12 : Tp pr := .i (rfl : ((1 : Int) : Int) = (1 : Int))
      let t13 : Tp pr := .i (wrap_i64 (a := d + (1 : Int)) (by omega) (by omega))
      let t15 : Tp pr := .m (show (decide ((bcc l).length = l.length ∧ (0 : Nat) + l.length ≤ l.length ∧ l.length + (1 : Nat) ≤ (4294967296 : Nat))) = true by (simp; omega))
      let t16 : Tp pr := .b (show (decide (l.length + (1 : Nat) ≤ l.length)) = false by simp)
      let t18 : Tp pr := .n .crows (show ((List.take l.length (bcc l)).append (List.take (1 : Nat) (List.drop (0 : Nat) [[C.t (T.int IntKind.i64 (1 : Int)), C.t (T.int IntKind.i64 (w - (2 : Int))), C.t (T.str (ByteArray.mk #[]))]]))) = bcc (l ++ [Bc.mk (1 : Int) (w - (2 : Int)) (ByteArray.mk #[])]) by simp)
      exact .tp [.i (rfl : ((↑l.length : Int)) = _), t1, .a (e), t3, .a (tkA), t5, .a (e2), .b (rfl : true = true), .b (rfl : true = true), .a (e9), t10, t11, t12, t13, .m (rfl : true = true), t15, t16, .c (rfl : (l.length + (1 : Nat)) = _), t18, .a (ih)] (by kernel_rfl)
    · have tkB := fun n t => takesC 2 n t 0 1 rfl rfl
      obtain ⟨w, a9, s9, hw, ha9, e9⟩ := pick_ex bs hb a2 s2 (by omega) (by omega) 10 (by omega)
      refine ⟨⟨2, w, e0⟩, a9, s9, d + (1 - 0), by omega, by omega, fun Z ih => ?_⟩
      unfold bcSt cuB at *
      rw [List.length_append, List.length_singleton] at ih
      let t1 : Tp pr := .b (show (decide ((↑l.length : Int) < n)) = true by (simp; omega))
      let t3 : Tp pr := .i (rfl : ((2 : Int) : Int) = (2 : Int))
      let t5 : Tp pr := .b (show (decide ((0 : Int) > d)) = true by (simp; omega))
      let t13 : Tp pr := .i (rfl : ((1 : Int) : Int) = (1 : Int))
      let t14 : Tp pr := .i (wrap_i64 (a := d + (1 : Int)) (by omega) (by omega))
      let t16 : Tp pr := .m (show (decide ((bcc l).length = l.length ∧ (0 : Nat) + l.length ≤ l.length ∧ l.length + (1 : Nat) ≤ (4294967296 : Nat))) = true by (simp; omega))
      let t17 : Tp pr := .b (show (decide (l.length + (1 : Nat) ≤ l.length)) = false by simp)
      let t19 : Tp pr := .n .crows (show ((List.take l.length (bcc l)).append (List.take (1 : Nat) (List.drop (0 : Nat) [[C.t (T.int IntKind.i64 (2 : Int)), C.t (T.int IntKind.i64 w), C.t (T.str (ByteArray.mk #[]))]]))) = bcc (l ++ [Bc.mk (2 : Int) w (ByteArray.mk #[])]) by simp)
      exact .tp [.i (rfl : ((↑l.length : Int)) = _), t1, .a (e), t3, .a (tkA), t5, .a (e2), .b (rfl : false = false), .b (rfl : false = false), .b (rfl : true = true), .b (rfl : true = true), .a (e9), .a (tkB (w) (ByteArray.mk #[])), t13, t14, .m (rfl : true = true), t16, t17, .c (rfl : (l.length + (1 : Nat)) = _), t19, .a (ih)] (by kernel_rfl)
  · have tkB := fun n t => takesC 2 n t 0 1 rfl rfl
    obtain ⟨w, a9, s9, hw, ha9, e9⟩ := pick_ex bs hb a1 s1 (by omega) (by omega) 10 (by omega)
    refine ⟨⟨2, w, e0⟩, a9, s9, d + (1 - 0), by omega, by omega, fun Z ih => ?_⟩
    unfold bcSt cuB at *
    rw [List.length_append, List.length_singleton] at ih
    let t1 : Tp pr := .b (show (decide ((↑l.length : Int) < n)) = true by (simp; omega))
    let t3 : Tp pr := .i (rfl : ((2 : Int) : Int) = (2 : Int))
    let t5 : Tp pr := .b (show (decide ((0 : Int) > d)) = false by (simp; omega))
    let t12 : Tp pr := .i (rfl : ((1 : Int) : Int) = (1 : Int))
    let t13 : Tp pr := .i (wrap_i64 (a := d + (1 : Int)) (by omega) (by omega))
    let t15 : Tp pr := .m (show (decide ((bcc l).length = l.length ∧ (0 : Nat) + l.length ≤ l.length ∧ l.length + (1 : Nat) ≤ (4294967296 : Nat))) = true by (simp; omega))
    let t16 : Tp pr := .b (show (decide (l.length + (1 : Nat) ≤ l.length)) = false by simp)
    let t18 : Tp pr := .n .crows (show ((List.take l.length (bcc l)).append (List.take (1 : Nat) (List.drop (0 : Nat) [[C.t (T.int IntKind.i64 (2 : Int)), C.t (T.int IntKind.i64 w), C.t (T.str (ByteArray.mk #[]))]]))) = bcc (l ++ [Bc.mk (2 : Int) w (ByteArray.mk #[])]) by simp)
    exact .tp [.i (rfl : ((↑l.length : Int)) = _), t1, .a (e), t3, .a (tkA), t5, .b (rfl : false = false), .b (rfl : false = false), .b (rfl : true = true), .b (rfl : true = true), .a (e9), .a (tkB (w) (ByteArray.mk #[])), t12, t13, .m (rfl : true = true), t15, t16, .c (rfl : (l.length + (1 : Nat)) = _), t18, .a (ih)] (by kernel_rfl)
theorem bcS3_ex (bs : List Int) (hb : okB bs) (a s a1 s1 : Int) (h0 : 0 ≤ a) (ha : a ≤ 40000000) (l : List Bc) (n d : Int) (hn : 0 ≤ n ∧ n ≤ 121) (hl : l.length < n) (hd : -1000 ≤ d ∧ d ≤ 1000) (ha1 : a ≤ a1 ∧ a1 ≤ a + 1)
    (e : Ev pr (.call 95 [.ptr 0 1 0 0, i64 8] [cuB bs a s]) (.val (i64 2) [cuB bs a1 s1])) :
    ∃ (x : Bc) (a' s' d' : Int), (a ≤ a' ∧ a' ≤ a + 5) ∧ (d - 3 ≤ d' ∧ d' ≤ d + 3) ∧ ∀ Z, bcSt bs a' s' (l ++ [x]) n d' Z → bcSt bs a s l n d Z := by
  have tkA := takesC 3 0 e0 1 0 rfl rfl
  by_cases c : 1 > d
  · obtain ⟨b, a2, s2, ha2, e2⟩ := one_ex bs hb a1 s1 (by omega) (by omega) 12 (by omega)
    cases b
    · have tkB := fun n t => takesC 1 n t 0 1 rfl rfl
      obtain ⟨w, a9, s9, hw, ha9, e9⟩ := pick_ex bs hb a2 s2 (by omega) (by omega) 9 (by omega)
      refine ⟨⟨1, w - 2, e0⟩, a9, s9, d + (1 - 0), by omega, by omega, fun Z ih => ?_⟩
      unfold bcSt cuB at *
      rw [List.length_append, List.length_singleton] at ih
      let t1 : Tp pr := .b (show (decide ((↑l.length : Int) < n)) = true by (simp; omega))
      let t3 : Tp pr := .i (rfl : ((3 : Int) : Int) = (3 : Int))
      let t5 : Tp pr := .b (show (decide ((1 : Int) > d)) = true by (simp; omega))
      let t10 : Tp pr := .i (wrap_i64 (a := w - (2 : Int)) (by omega) (by omega))
      let t11 : Tp pr := .a (tkB (w - (2 : Int)) (ByteArray.mk #[]))
      let t12 : Tp pr := .i (rfl : ((1 : Int) : Int) = (1 : Int))
      let t13 : Tp pr := .i (wrap_i64 (a := d + (1 : Int)) (by omega) (by omega))
      let t15 : Tp pr := .m (show (decide ((bcc l).length = l.length ∧ (0 : Nat) + l.length ≤ l.length ∧ l.length + (1 : Nat) ≤ (4294967296 : Nat))) = true by (simp; omega))
      let t16 : Tp pr := .b (show (decide (l.length + (1 : Nat) ≤ l.length)) = false by simp)
      let t18 : Tp pr := .n .crows (show ((List.take l.length (bcc l)).append (List.take (1 : Nat) (List.drop (0 : Nat) [[C.t (T.int IntKind.i64 (1 : Int)), C.t (T.int IntKind.i64 (w - (2 : Int))), C.t (T.str (ByteArray.mk #[]))]]))) = bcc (l ++ [Bc.mk (1 : Int) (w - (2 : Int)) (ByteArray.mk #[])]) by simp)
      exact .tp [.i (rfl : ((↑l.length : Int)) = _), t1, .a (e), t3, .a (tkA), t5, .a (e2), .b (rfl : true = true), .b (rfl : true = true), .a (e9), t10, t11, t12, t13, .m (rfl : true = true), t15, t16, .c (rfl : (l.length + (1 : Nat)) = _), t18, .a (ih)] (by kernel_rfl)
    · have tkB := fun n t => takesC 3 n t 1 0 rfl rfl
      obtain ⟨w, a9, s9, hw, ha9, e9⟩ := pick_ex bs hb a2 s2 (by omega) (by omega) 10 (by omega)
      refine ⟨⟨3, w, e0⟩, a9, s9, d + (0 - 1), by omega, by omega, fun Z ih => ?_⟩
      unfold bcSt cuB at *
      rw [List.length_append, List.length_singleton] at ih
      let t1 : Tp pr := .b (show (decide ((↑l.length : Int) < n)) = true by (simp; omega))
      let t3 : Tp pr := .i (rfl : ((3 : Int) : Int) = (3 : Int))
      let t5 : Tp pr := .b (show (decide ((1 : Int) > d)) = true by (simp; omega))
      let t13 : Tp pr := .i (rfl : ((-1 : Int) : Int) = (-1 : Int))
      let t14 : Tp pr := .i (wrap_i64 (a := d + (-1 : Int)) (by omega) (by omega))
      let t16 : Tp pr := .m (show (decide ((bcc l).length = l.length ∧ (0 : Nat) + l.length ≤ l.length ∧ l.length + (1 : Nat) ≤ (4294967296 : Nat))) = true by (simp; omega))
      let t17 : Tp pr := .b (show (decide (l.length + (1 : Nat) ≤ l.length)) = false by simp)
      let t19 : Tp pr := .n .crows (show ((List.take l.length (bcc l)).append (List.take (1 : Nat) (List.drop (0 : Nat) [[C.t (T.int IntKind.i64 (3 : Int)), C.t (T.int IntKind.i64 w), C.t (T.str (ByteArray.mk #[]))]]))) = bcc (l ++ [Bc.mk (3 : Int) w (ByteArray.mk #[])]) by simp)
      exact .tp [.i (rfl : ((↑l.length : Int)) = _), t1, .a (e), t3, .a (tkA), t5, .a (e2), .b (rfl : false = false), .b (rfl : false = false), .b (rfl : false = false), .b (rfl : true = true), .a (e9), .a (tkB (w) (ByteArray.mk #[])), t13, t14, .m (rfl : true = true), t16, t17, .c (rfl : (l.length + (1 : Nat)) = _), t19, .a (ih)] (by kernel_rfl)
  · have tkB := fun n t => takesC 3 n t 1 0 rfl rfl
    obtain ⟨w, a9, s9, hw, ha9, e9⟩ := pick_ex bs hb a1 s1 (by omega) (by omega) 10 (by omega)
    refine ⟨⟨3, w, e0⟩, a9, s9, d + (0 - 1), by omega, by omega, fun Z ih => ?_⟩
    unfold bcSt cuB at *
    rw [List.length_append, List.length_singleton] at ih
    let t1 : Tp pr := .b (show (decide ((↑l.length : Int) < n)) = true by (simp; omega))
    let t3 : Tp pr := .i (rfl : ((3 : Int) : Int) = (3 : Int))
    let t5 : Tp pr := .b (show (decide ((1 : Int) > d)) = false by (simp; omega))
    let t12 : Tp pr := .i (rfl : ((-1 : Int) : Int) = (-1 : Int))
    let t13 : Tp pr := .i (wrap_i64 (a := d + (-1 : Int)) (by omega) (by omega))
    let t15 : Tp pr := .m (show (decide ((bcc l).length = l.length ∧ (0 : Nat) + l.length ≤ l.length ∧ l.length + (1 : Nat) ≤ (4294967296 : Nat))) = true by (simp; omega))
    let t16 : Tp pr := .b (show (decide (l.length + (1 : Nat) ≤ l.length)) = false by simp)
    let t18 : Tp pr := .n .crows (show ((List.take l.length (bcc l)).append (List.take (1 : Nat) (List.drop (0 : Nat) [[C.t (T.int IntKind.i64 (3 : Int)), C.t (T.int IntKind.i64 w), C.t (T.str (ByteArray.mk #[]))]]))) = bcc (l ++ [Bc.mk (3 : Int) w (ByteArray.mk #[])]) by simp)
    exact .tp [.i (rfl : ((↑l.length : Int)) = _), t1, .a (e), t3, .a (tkA), t5, .b (rfl : false = false), .b (rfl : false = false), .b (rfl : false = false), .b (rfl : true = true), .a (e9), .a (tkB (w) (ByteArray.mk #[])), t12, t13, .m (rfl : true = true), t15, t16, .c (rfl : (l.length + (1 : Nat)) = _), t18, .a (ih)] (by kernel_rfl)
theorem bcS4_ex (bs : List Int) (hb : okB bs) (a s a1 s1 : Int) (h0 : 0 ≤ a) (ha : a ≤ 40000000) (l : List Bc) (n d : Int) (hn : 0 ≤ n ∧ n ≤ 121) (hl : l.length < n) (hd : -1000 ≤ d ∧ d ≤ 1000) (ha1 : a ≤ a1 ∧ a1 ≤ a + 1)
    (e : Ev pr (.call 95 [.ptr 0 1 0 0, i64 8] [cuB bs a s]) (.val (i64 3) [cuB bs a1 s1])) :
    ∃ (x : Bc) (a' s' d' : Int), (a ≤ a' ∧ a' ≤ a + 5) ∧ (d - 3 ≤ d' ∧ d' ≤ d + 3) ∧ ∀ Z, bcSt bs a' s' (l ++ [x]) n d' Z → bcSt bs a s l n d Z := by
  have tkA := takesC 4 0 e0 2 1 rfl rfl
  by_cases c : 2 > d
  · obtain ⟨b, a2, s2, ha2, e2⟩ := one_ex bs hb a1 s1 (by omega) (by omega) 12 (by omega)
    cases b
    · have tkB := fun n t => takesC 1 n t 0 1 rfl rfl
      obtain ⟨w, a9, s9, hw, ha9, e9⟩ := pick_ex bs hb a2 s2 (by omega) (by omega) 9 (by omega)
      refine ⟨⟨1, w - 2, e0⟩, a9, s9, d + (1 - 0), by omega, by omega, fun Z ih => ?_⟩
      unfold bcSt cuB at *
      rw [List.length_append, List.length_singleton] at ih
      let t1 : Tp pr := .b (show (decide ((↑l.length : Int) < n)) = true by (simp; omega))
      let t3 : Tp pr := .i (rfl : ((4 : Int) : Int) = (4 : Int))
      let t5 : Tp pr := .b (show (decide ((2 : Int) > d)) = true by (simp; omega))
      let t10 : Tp pr := .i (wrap_i64 (a := w - (2 : Int)) (by omega) (by omega))
      let t11 : Tp pr := .a (tkB (w - (2 : Int)) (ByteArray.mk #[]))
      let t12 : Tp pr := .i (rfl : ((1 : Int) : Int) = (1 : Int))
      let t13 : Tp pr := .i (wrap_i64 (a := d + (1 : Int)) (by omega) (by omega))
      let t15 : Tp pr := .m (show (decide ((bcc l).length = l.length ∧ (0 : Nat) + l.length ≤ l.length ∧ l.length + (1 : Nat) ≤ (4294967296 : Nat))) = true by (simp; omega))
      let t16 : Tp pr := .b (show (decide (l.length + (1 : Nat) ≤ l.length)) = false by simp)
      let t18 : Tp pr := .n .crows (show ((List.take l.length (bcc l)).append (List.take (1 : Nat) (List.drop (0 : Nat) [[C.t (T.int IntKind.i64 (1 : Int)), C.t (T.int IntKind.i64 (w - (2 : Int))), C.t (T.str (ByteArray.mk #[]))]]))) = bcc (l ++ [Bc.mk (1 : Int) (w - (2 : Int)) (ByteArray.mk #[])]) by simp)
      exact .tp [.i (rfl : ((↑l.length : Int)) = _), t1, .a (e), t3, .a (tkA), t5, .a (e2), .b (rfl : true = true), .b (rfl : true = true), .a (e9), t10, t11, t12, t13, .m (rfl : true = true), t15, t16, .c (rfl : (l.length + (1 : Nat)) = _), t18, .a (ih)] (by kernel_rfl)
    · have tkB := fun n t => takesC 4 n t 2 1 rfl rfl
      obtain ⟨t, a9, s9, ha9, e9⟩ := of_ex bs hb a2 s2 (by omega) (by omega) [sP, sMinus, sT, sD, sM, sL, sE, sS] (by simp) (by simp)
      refine ⟨⟨4, 0, t⟩, a9, s9, d + (1 - 2), by omega, by omega, fun Z ih => ?_⟩
      unfold bcSt cuB at *
      rw [List.length_append, List.length_singleton] at ih
      let t1 : Tp pr := .b (show (decide ((↑l.length : Int) < n)) = true by (simp; omega))
      let t3 : Tp pr := .i (rfl : ((4 : Int) : Int) = (4 : Int))
      let t5 : Tp pr := .b (show (decide ((2 : Int) > d)) = true by (simp; omega))
      let t13 : Tp pr := .n .rows (show (List.map (fun x => List.map C.fz x) (List.take (8 : Nat) (List.drop (0 : Nat) [[C.t (T.str (ByteArray.mk #[(43 : UInt8)]))], [C.t (T.str (ByteArray.mk #[(45 : UInt8)]))], [C.t (T.str (ByteArray.mk #[(42 : UInt8)]))], [C.t (T.str (ByteArray.mk #[(47 : UInt8)]))], [C.t (T.str (ByteArray.mk #[(37 : UInt8)]))], [C.t (T.str (ByteArray.mk #[(60 : UInt8)]))], [C.t (T.str (ByteArray.mk #[(61 : UInt8), (61 : UInt8)]))], [C.t (T.str (ByteArray.mk #[(60 : UInt8), (60 : UInt8)]))]]))) = [[(C.t (T.str (ByteArray.mk #[(43 : UInt8)]))).fz], [(C.t (T.str (ByteArray.mk #[(45 : UInt8)]))).fz], [(C.t (T.str (ByteArray.mk #[(42 : UInt8)]))).fz], [(C.t (T.str (ByteArray.mk #[(47 : UInt8)]))).fz], [(C.t (T.str (ByteArray.mk #[(37 : UInt8)]))).fz], [(C.t (T.str (ByteArray.mk #[(60 : UInt8)]))).fz], [(C.t (T.str (ByteArray.mk #[(61 : UInt8), (61 : UInt8)]))).fz], [(C.t (T.str (ByteArray.mk #[(60 : UInt8), (60 : UInt8)]))).fz]] by simp)
      let t16 : Tp pr := .i (rfl : ((-1 : Int) : Int) = (-1 : Int))
      let t17 : Tp pr := .i (wrap_i64 (a := d + (-1 : Int)) (by omega) (by omega))
      let t19 : Tp pr := .m (show (decide ((bcc l).length = l.length ∧ (0 : Nat) + l.length ≤ l.length ∧ l.length + (1 : Nat) ≤ (4294967296 : Nat))) = true by (simp; omega))
      let t20 : Tp pr := .b (show (decide (l.length + (1 : Nat) ≤ l.length)) = false by simp)
      let t22 : Tp pr := .n .crows (show ((List.take l.length (bcc l)).append (List.take (1 : Nat) (List.drop (0 : Nat) [[C.t (T.int IntKind.i64 (4 : Int)), C.t (T.int IntKind.i64 (0 : Int)), C.t (T.str t)]]))) = bcc (l ++ [Bc.mk (4 : Int) (0 : Int) t]) by simp)
      exact .tp [.i (rfl : ((↑l.length : Int)) = _), t1, .a (e), t3, .a (tkA), t5, .a (e2), .b (rfl : false = false), .b (rfl : false = false), .b (rfl : false = false), .b (rfl : false = false), .b (rfl : true = true), .m (rfl : true = true), t13, .a (e9), .a (tkB ((0 : Int)) (t)), t16, t17, .m (rfl : true = true), t19, t20, .c (rfl : (l.length + (1 : Nat)) = _), t22, .a (ih)] (by kernel_rfl)
  · have tkB := fun n t => takesC 4 n t 2 1 rfl rfl
    obtain ⟨t, a9, s9, ha9, e9⟩ := of_ex bs hb a1 s1 (by omega) (by omega) [sP, sMinus, sT, sD, sM, sL, sE, sS] (by simp) (by simp)
    refine ⟨⟨4, 0, t⟩, a9, s9, d + (1 - 2), by omega, by omega, fun Z ih => ?_⟩
    unfold bcSt cuB at *
    rw [List.length_append, List.length_singleton] at ih
    let t1 : Tp pr := .b (show (decide ((↑l.length : Int) < n)) = true by (simp; omega))
    let t3 : Tp pr := .i (rfl : ((4 : Int) : Int) = (4 : Int))
    let t5 : Tp pr := .b (show (decide ((2 : Int) > d)) = false by (simp; omega))
    let t12 : Tp pr := .n .rows (show (List.map (fun x => List.map C.fz x) (List.take (8 : Nat) (List.drop (0 : Nat) [[C.t (T.str (ByteArray.mk #[(43 : UInt8)]))], [C.t (T.str (ByteArray.mk #[(45 : UInt8)]))], [C.t (T.str (ByteArray.mk #[(42 : UInt8)]))], [C.t (T.str (ByteArray.mk #[(47 : UInt8)]))], [C.t (T.str (ByteArray.mk #[(37 : UInt8)]))], [C.t (T.str (ByteArray.mk #[(60 : UInt8)]))], [C.t (T.str (ByteArray.mk #[(61 : UInt8), (61 : UInt8)]))], [C.t (T.str (ByteArray.mk #[(60 : UInt8), (60 : UInt8)]))]]))) = [[(C.t (T.str (ByteArray.mk #[(43 : UInt8)]))).fz], [(C.t (T.str (ByteArray.mk #[(45 : UInt8)]))).fz], [(C.t (T.str (ByteArray.mk #[(42 : UInt8)]))).fz], [(C.t (T.str (ByteArray.mk #[(47 : UInt8)]))).fz], [(C.t (T.str (ByteArray.mk #[(37 : UInt8)]))).fz], [(C.t (T.str (ByteArray.mk #[(60 : UInt8)]))).fz], [(C.t (T.str (ByteArray.mk #[(61 : UInt8), (61 : UInt8)]))).fz], [(C.t (T.str (ByteArray.mk #[(60 : UInt8), (60 : UInt8)]))).fz]] by simp)
    let t15 : Tp pr := .i (rfl : ((-1 : Int) : Int) = (-1 : Int))
    let t16 : Tp pr := .i (wrap_i64 (a := d + (-1 : Int)) (by omega) (by omega))
    let t18 : Tp pr := .m (show (decide ((bcc l).length = l.length ∧ (0 : Nat) + l.length ≤ l.length ∧ l.length + (1 : Nat) ≤ (4294967296 : Nat))) = true by (simp; omega))
    let t19 : Tp pr := .b (show (decide (l.length + (1 : Nat) ≤ l.length)) = false by simp)
    let t21 : Tp pr := .n .crows (show ((List.take l.length (bcc l)).append (List.take (1 : Nat) (List.drop (0 : Nat) [[C.t (T.int IntKind.i64 (4 : Int)), C.t (T.int IntKind.i64 (0 : Int)), C.t (T.str t)]]))) = bcc (l ++ [Bc.mk (4 : Int) (0 : Int) t]) by simp)
    exact .tp [.i (rfl : ((↑l.length : Int)) = _), t1, .a (e), t3, .a (tkA), t5, .b (rfl : false = false), .b (rfl : false = false), .b (rfl : false = false), .b (rfl : false = false), .b (rfl : true = true), .m (rfl : true = true), t12, .a (e9), .a (tkB ((0 : Int)) (t)), t15, t16, .m (rfl : true = true), t18, t19, .c (rfl : (l.length + (1 : Nat)) = _), t21, .a (ih)] (by kernel_rfl)
theorem bcS5_ex (bs : List Int) (hb : okB bs) (a s a1 s1 : Int) (h0 : 0 ≤ a) (ha : a ≤ 40000000) (l : List Bc) (n d : Int) (hn : 0 ≤ n ∧ n ≤ 121) (hl : l.length < n) (hd : -1000 ≤ d ∧ d ≤ 1000) (ha1 : a ≤ a1 ∧ a1 ≤ a + 1)
    (e : Ev pr (.call 95 [.ptr 0 1 0 0, i64 8] [cuB bs a s]) (.val (i64 4) [cuB bs a1 s1])) :
    ∃ (x : Bc) (a' s' d' : Int), (a ≤ a' ∧ a' ≤ a + 5) ∧ (d - 3 ≤ d' ∧ d' ≤ d + 3) ∧ ∀ Z, bcSt bs a' s' (l ++ [x]) n d' Z → bcSt bs a s l n d Z := by
  have tkA := takesC 5 0 e0 1 1 rfl rfl
  by_cases c : 1 > d
  · obtain ⟨b, a2, s2, ha2, e2⟩ := one_ex bs hb a1 s1 (by omega) (by omega) 12 (by omega)
    cases b
    · have tkB := fun n t => takesC 1 n t 0 1 rfl rfl
      obtain ⟨w, a9, s9, hw, ha9, e9⟩ := pick_ex bs hb a2 s2 (by omega) (by omega) 9 (by omega)
      refine ⟨⟨1, w - 2, e0⟩, a9, s9, d + (1 - 0), by omega, by omega, fun Z ih => ?_⟩
      unfold bcSt cuB at *
      rw [List.length_append, List.length_singleton] at ih
      let t1 : Tp pr := .b (show (decide ((↑l.length : Int) < n)) = true by (simp; omega))
      let t3 : Tp pr := .i (rfl : ((5 : Int) : Int) = (5 : Int))
      let t5 : Tp pr := .b (show (decide ((1 : Int) > d)) = true by (simp; omega))
      let t10 : Tp pr := .i (wrap_i64 (a := w - (2 : Int)) (by omega) (by omega))
      let t11 : Tp pr := .a (tkB (w - (2 : Int)) (ByteArray.mk #[]))
      let t12 : Tp pr := .i (rfl : ((1 : Int) : Int) = (1 : Int))
      let t13 : Tp pr := .i (wrap_i64 (a := d + (1 : Int)) (by omega) (by omega))
      let t15 : Tp pr := .m (show (decide ((bcc l).length = l.length ∧ (0 : Nat) + l.length ≤ l.length ∧ l.length + (1 : Nat) ≤ (4294967296 : Nat))) = true by (simp; omega))
      let t16 : Tp pr := .b (show (decide (l.length + (1 : Nat) ≤ l.length)) = false by simp)
      let t18 : Tp pr := .n .crows (show ((List.take l.length (bcc l)).append (List.take (1 : Nat) (List.drop (0 : Nat) [[C.t (T.int IntKind.i64 (1 : Int)), C.t (T.int IntKind.i64 (w - (2 : Int))), C.t (T.str (ByteArray.mk #[]))]]))) = bcc (l ++ [Bc.mk (1 : Int) (w - (2 : Int)) (ByteArray.mk #[])]) by simp)
      exact .tp [.i (rfl : ((↑l.length : Int)) = _), t1, .a (e), t3, .a (tkA), t5, .a (e2), .b (rfl : true = true), .b (rfl : true = true), .a (e9), t10, t11, t12, t13, .m (rfl : true = true), t15, t16, .c (rfl : (l.length + (1 : Nat)) = _), t18, .a (ih)] (by kernel_rfl)
    · have tkB := fun n t => takesC 5 n t 1 1 rfl rfl
      obtain ⟨t, a9, s9, ha9, e9⟩ := of_ex bs hb a2 s2 (by omega) (by omega) [sMinus, sNot] (by simp) (by simp)
      refine ⟨⟨5, 0, t⟩, a9, s9, d + (1 - 1), by omega, by omega, fun Z ih => ?_⟩
      unfold bcSt cuB at *
      rw [List.length_append, List.length_singleton] at ih
      let t1 : Tp pr := .b (show (decide ((↑l.length : Int) < n)) = true by (simp; omega))
      let t3 : Tp pr := .i (rfl : ((5 : Int) : Int) = (5 : Int))
      let t5 : Tp pr := .b (show (decide ((1 : Int) > d)) = true by (simp; omega))
      let t14 : Tp pr := .n .rows (show (List.map (fun x => List.map C.fz x) (List.take (2 : Nat) (List.drop (0 : Nat) [[C.t (T.str (ByteArray.mk #[(45 : UInt8)]))], [C.t (T.str (ByteArray.mk #[(33 : UInt8)]))]]))) = [[(C.t (T.str (ByteArray.mk #[(45 : UInt8)]))).fz], [(C.t (T.str (ByteArray.mk #[(33 : UInt8)]))).fz]] by simp)
      let t17 : Tp pr := .i (rfl : ((0 : Int) : Int) = (0 : Int))
      let t18 : Tp pr := .i (wrap_i64 (a := d + (0 : Int)) (by omega) (by omega))
      let t20 : Tp pr := .m (show (decide ((bcc l).length = l.length ∧ (0 : Nat) + l.length ≤ l.length ∧ l.length + (1 : Nat) ≤ (4294967296 : Nat))) = true by (simp; omega))
      let t21 : Tp pr := .b (show (decide (l.length + (1 : Nat) ≤ l.length)) = false by simp)
      let t23 : Tp pr := .n .crows (show ((List.take l.length (bcc l)).append (List.take (1 : Nat) (List.drop (0 : Nat) [[C.t (T.int IntKind.i64 (5 : Int)), C.t (T.int IntKind.i64 (0 : Int)), C.t (T.str t)]]))) = bcc (l ++ [Bc.mk (5 : Int) (0 : Int) t]) by simp)
      exact .tp [.i (rfl : ((↑l.length : Int)) = _), t1, .a (e), t3, .a (tkA), t5, .a (e2), .b (rfl : false = false), .b (rfl : false = false), .b (rfl : false = false), .b (rfl : false = false), .b (rfl : false = false), .b (rfl : true = true), .m (rfl : true = true), t14, .a (e9), .a (tkB ((0 : Int)) (t)), t17, t18, .m (rfl : true = true), t20, t21, .c (rfl : (l.length + (1 : Nat)) = _), t23, .a (ih)] (by kernel_rfl)
  · have tkB := fun n t => takesC 5 n t 1 1 rfl rfl
    obtain ⟨t, a9, s9, ha9, e9⟩ := of_ex bs hb a1 s1 (by omega) (by omega) [sMinus, sNot] (by simp) (by simp)
    refine ⟨⟨5, 0, t⟩, a9, s9, d + (1 - 1), by omega, by omega, fun Z ih => ?_⟩
    unfold bcSt cuB at *
    rw [List.length_append, List.length_singleton] at ih
    let t1 : Tp pr := .b (show (decide ((↑l.length : Int) < n)) = true by (simp; omega))
    let t3 : Tp pr := .i (rfl : ((5 : Int) : Int) = (5 : Int))
    let t5 : Tp pr := .b (show (decide ((1 : Int) > d)) = false by (simp; omega))
    let t13 : Tp pr := .n .rows (show (List.map (fun x => List.map C.fz x) (List.take (2 : Nat) (List.drop (0 : Nat) [[C.t (T.str (ByteArray.mk #[(45 : UInt8)]))], [C.t (T.str (ByteArray.mk #[(33 : UInt8)]))]]))) = [[(C.t (T.str (ByteArray.mk #[(45 : UInt8)]))).fz], [(C.t (T.str (ByteArray.mk #[(33 : UInt8)]))).fz]] by simp)
    let t16 : Tp pr := .i (rfl : ((0 : Int) : Int) = (0 : Int))
    let t17 : Tp pr := .i (wrap_i64 (a := d + (0 : Int)) (by omega) (by omega))
    let t19 : Tp pr := .m (show (decide ((bcc l).length = l.length ∧ (0 : Nat) + l.length ≤ l.length ∧ l.length + (1 : Nat) ≤ (4294967296 : Nat))) = true by (simp; omega))
    let t20 : Tp pr := .b (show (decide (l.length + (1 : Nat) ≤ l.length)) = false by simp)
    let t22 : Tp pr := .n .crows (show ((List.take l.length (bcc l)).append (List.take (1 : Nat) (List.drop (0 : Nat) [[C.t (T.int IntKind.i64 (5 : Int)), C.t (T.int IntKind.i64 (0 : Int)), C.t (T.str t)]]))) = bcc (l ++ [Bc.mk (5 : Int) (0 : Int) t]) by simp)
    exact .tp [.i (rfl : ((↑l.length : Int)) = _), t1, .a (e), t3, .a (tkA), t5, .b (rfl : false = false), .b (rfl : false = false), .b (rfl : false = false), .b (rfl : false = false), .b (rfl : false = false), .b (rfl : true = true), .m (rfl : true = true), t13, .a (e9), .a (tkB ((0 : Int)) (t)), t16, t17, .m (rfl : true = true), t19, t20, .c (rfl : (l.length + (1 : Nat)) = _), t22, .a (ih)] (by kernel_rfl)
theorem bcS6_ex (bs : List Int) (hb : okB bs) (a s a1 s1 : Int) (h0 : 0 ≤ a) (ha : a ≤ 40000000) (l : List Bc) (n d : Int) (hn : 0 ≤ n ∧ n ≤ 121) (hl : l.length < n) (hd : -1000 ≤ d ∧ d ≤ 1000) (ha1 : a ≤ a1 ∧ a1 ≤ a + 1)
    (e : Ev pr (.call 95 [.ptr 0 1 0 0, i64 8] [cuB bs a s]) (.val (i64 5) [cuB bs a1 s1])) :
    ∃ (x : Bc) (a' s' d' : Int), (a ≤ a' ∧ a' ≤ a + 5) ∧ (d - 3 ≤ d' ∧ d' ≤ d + 3) ∧ ∀ Z, bcSt bs a' s' (l ++ [x]) n d' Z → bcSt bs a s l n d Z := by
  have tkA := takesC 6 0 e0 0 0 rfl rfl
  by_cases c : 0 > d
  · obtain ⟨b, a2, s2, ha2, e2⟩ := one_ex bs hb a1 s1 (by omega) (by omega) 12 (by omega)
    cases b
    · have tkB := fun n t => takesC 1 n t 0 1 rfl rfl
      obtain ⟨w, a9, s9, hw, ha9, e9⟩ := pick_ex bs hb a2 s2 (by omega) (by omega) 9 (by omega)
      refine ⟨⟨1, w - 2, e0⟩, a9, s9, d + (1 - 0), by omega, by omega, fun Z ih => ?_⟩
      unfold bcSt cuB at *
      rw [List.length_append, List.length_singleton] at ih
      let t1 : Tp pr := .b (show (decide ((↑l.length : Int) < n)) = true by (simp; omega))
      let t3 : Tp pr := .i (rfl : ((6 : Int) : Int) = (6 : Int))
      let t5 : Tp pr := .b (show (decide ((0 : Int) > d)) = true by (simp; omega))
      let t10 : Tp pr := .i (wrap_i64 (a := w - (2 : Int)) (by omega) (by omega))
      let t11 : Tp pr := .a (tkB (w - (2 : Int)) (ByteArray.mk #[]))
      let t12 : Tp pr := .i (rfl : ((1 : Int) : Int) = (1 : Int))
      let t13 : Tp pr := .i (wrap_i64 (a := d + (1 : Int)) (by omega) (by omega))
      let t15 : Tp pr := .m (show (decide ((bcc l).length = l.length ∧ (0 : Nat) + l.length ≤ l.length ∧ l.length + (1 : Nat) ≤ (4294967296 : Nat))) = true by (simp; omega))
      let t16 : Tp pr := .b (show (decide (l.length + (1 : Nat) ≤ l.length)) = false by simp)
      let t18 : Tp pr := .n .crows (show ((List.take l.length (bcc l)).append (List.take (1 : Nat) (List.drop (0 : Nat) [[C.t (T.int IntKind.i64 (1 : Int)), C.t (T.int IntKind.i64 (w - (2 : Int))), C.t (T.str (ByteArray.mk #[]))]]))) = bcc (l ++ [Bc.mk (1 : Int) (w - (2 : Int)) (ByteArray.mk #[])]) by simp)
      exact .tp [.i (rfl : ((↑l.length : Int)) = _), t1, .a (e), t3, .a (tkA), t5, .a (e2), .b (rfl : true = true), .b (rfl : true = true), .a (e9), t10, t11, t12, t13, .m (rfl : true = true), t15, t16, .c (rfl : (l.length + (1 : Nat)) = _), t18, .a (ih)] (by kernel_rfl)
    · have tkB := fun n t => takesC 6 n t 0 0 rfl rfl
      obtain ⟨w, a9, s9, hw, ha9, e9⟩ := pick_ex bs hb a2 s2 (by omega) (by omega) n (by omega)
      refine ⟨⟨6, w, e0⟩, a9, s9, d + (0 - 0), by omega, by omega, fun Z ih => ?_⟩
      unfold bcSt cuB at *
      rw [List.length_append, List.length_singleton] at ih
      let t1 : Tp pr := .b (show (decide ((↑l.length : Int) < n)) = true by (simp; omega))
      let t3 : Tp pr := .i (rfl : ((6 : Int) : Int) = (6 : Int))
      let t5 : Tp pr := .b (show (decide ((0 : Int) > d)) = true by (simp; omega))
      let t17 : Tp pr := .i (rfl : ((0 : Int) : Int) = (0 : Int))
      let t18 : Tp pr := .i (wrap_i64 (a := d + (0 : Int)) (by omega) (by omega))
      let t20 : Tp pr := .m (show (decide ((bcc l).length = l.length ∧ (0 : Nat) + l.length ≤ l.length ∧ l.length + (1 : Nat) ≤ (4294967296 : Nat))) = true by (simp; omega))
      let t21 : Tp pr := .b (show (decide (l.length + (1 : Nat) ≤ l.length)) = false by simp)
      let t23 : Tp pr := .n .crows (show ((List.take l.length (bcc l)).append (List.take (1 : Nat) (List.drop (0 : Nat) [[C.t (T.int IntKind.i64 (6 : Int)), C.t (T.int IntKind.i64 w), C.t (T.str (ByteArray.mk #[]))]]))) = bcc (l ++ [Bc.mk (6 : Int) w (ByteArray.mk #[])]) by simp)
      exact .tp [.i (rfl : ((↑l.length : Int)) = _), t1, .a (e), t3, .a (tkA), t5, .a (e2), .b (rfl : false = false), .b (rfl : false = false), .b (rfl : false = false), .b (rfl : false = false), .b (rfl : false = false), .b (rfl : false = false), .b (rfl : true = true), .b (rfl : true = true), .a (e9), .a (tkB (w) (ByteArray.mk #[])), t17, t18, .m (rfl : true = true), t20, t21, .c (rfl : (l.length + (1 : Nat)) = _), t23, .a (ih)] (by kernel_rfl)
  · have tkB := fun n t => takesC 6 n t 0 0 rfl rfl
    obtain ⟨w, a9, s9, hw, ha9, e9⟩ := pick_ex bs hb a1 s1 (by omega) (by omega) n (by omega)
    refine ⟨⟨6, w, e0⟩, a9, s9, d + (0 - 0), by omega, by omega, fun Z ih => ?_⟩
    unfold bcSt cuB at *
    rw [List.length_append, List.length_singleton] at ih
    let t1 : Tp pr := .b (show (decide ((↑l.length : Int) < n)) = true by (simp; omega))
    let t3 : Tp pr := .i (rfl : ((6 : Int) : Int) = (6 : Int))
    let t5 : Tp pr := .b (show (decide ((0 : Int) > d)) = false by (simp; omega))
    let t16 : Tp pr := .i (rfl : ((0 : Int) : Int) = (0 : Int))
    let t17 : Tp pr := .i (wrap_i64 (a := d + (0 : Int)) (by omega) (by omega))
    let t19 : Tp pr := .m (show (decide ((bcc l).length = l.length ∧ (0 : Nat) + l.length ≤ l.length ∧ l.length + (1 : Nat) ≤ (4294967296 : Nat))) = true by (simp; omega))
    let t20 : Tp pr := .b (show (decide (l.length + (1 : Nat) ≤ l.length)) = false by simp)
    let t22 : Tp pr := .n .crows (show ((List.take l.length (bcc l)).append (List.take (1 : Nat) (List.drop (0 : Nat) [[C.t (T.int IntKind.i64 (6 : Int)), C.t (T.int IntKind.i64 w), C.t (T.str (ByteArray.mk #[]))]]))) = bcc (l ++ [Bc.mk (6 : Int) w (ByteArray.mk #[])]) by simp)
    exact .tp [.i (rfl : ((↑l.length : Int)) = _), t1, .a (e), t3, .a (tkA), t5, .b (rfl : false = false), .b (rfl : false = false), .b (rfl : false = false), .b (rfl : false = false), .b (rfl : false = false), .b (rfl : false = false), .b (rfl : true = true), .b (rfl : true = true), .a (e9), .a (tkB (w) (ByteArray.mk #[])), t16, t17, .m (rfl : true = true), t19, t20, .c (rfl : (l.length + (1 : Nat)) = _), t22, .a (ih)] (by kernel_rfl)
theorem bcS7_ex (bs : List Int) (hb : okB bs) (a s a1 s1 : Int) (h0 : 0 ≤ a) (ha : a ≤ 40000000) (l : List Bc) (n d : Int) (hn : 0 ≤ n ∧ n ≤ 121) (hl : l.length < n) (hd : -1000 ≤ d ∧ d ≤ 1000) (ha1 : a ≤ a1 ∧ a1 ≤ a + 1)
    (e : Ev pr (.call 95 [.ptr 0 1 0 0, i64 8] [cuB bs a s]) (.val (i64 6) [cuB bs a1 s1])) :
    ∃ (x : Bc) (a' s' d' : Int), (a ≤ a' ∧ a' ≤ a + 5) ∧ (d - 3 ≤ d' ∧ d' ≤ d + 3) ∧ ∀ Z, bcSt bs a' s' (l ++ [x]) n d' Z → bcSt bs a s l n d Z := by
  have tkA := takesC 7 0 e0 1 0 rfl rfl
  by_cases c : 1 > d
  · obtain ⟨b, a2, s2, ha2, e2⟩ := one_ex bs hb a1 s1 (by omega) (by omega) 12 (by omega)
    cases b
    · have tkB := fun n t => takesC 1 n t 0 1 rfl rfl
      obtain ⟨w, a9, s9, hw, ha9, e9⟩ := pick_ex bs hb a2 s2 (by omega) (by omega) 9 (by omega)
      refine ⟨⟨1, w - 2, e0⟩, a9, s9, d + (1 - 0), by omega, by omega, fun Z ih => ?_⟩
      unfold bcSt cuB at *
      rw [List.length_append, List.length_singleton] at ih
      let t1 : Tp pr := .b (show (decide ((↑l.length : Int) < n)) = true by (simp; omega))
      let t3 : Tp pr := .i (rfl : ((7 : Int) : Int) = (7 : Int))
      let t5 : Tp pr := .b (show (decide ((1 : Int) > d)) = true by (simp; omega))
      let t10 : Tp pr := .i (wrap_i64 (a := w - (2 : Int)) (by omega) (by omega))
      let t11 : Tp pr := .a (tkB (w - (2 : Int)) (ByteArray.mk #[]))
      let t12 : Tp pr := .i (rfl : ((1 : Int) : Int) = (1 : Int))
      let t13 : Tp pr := .i (wrap_i64 (a := d + (1 : Int)) (by omega) (by omega))
      let t15 : Tp pr := .m (show (decide ((bcc l).length = l.length ∧ (0 : Nat) + l.length ≤ l.length ∧ l.length + (1 : Nat) ≤ (4294967296 : Nat))) = true by (simp; omega))
      let t16 : Tp pr := .b (show (decide (l.length + (1 : Nat) ≤ l.length)) = false by simp)
      let t18 : Tp pr := .n .crows (show ((List.take l.length (bcc l)).append (List.take (1 : Nat) (List.drop (0 : Nat) [[C.t (T.int IntKind.i64 (1 : Int)), C.t (T.int IntKind.i64 (w - (2 : Int))), C.t (T.str (ByteArray.mk #[]))]]))) = bcc (l ++ [Bc.mk (1 : Int) (w - (2 : Int)) (ByteArray.mk #[])]) by simp)
      exact .tp [.i (rfl : ((↑l.length : Int)) = _), t1, .a (e), t3, .a (tkA), t5, .a (e2), .b (rfl : true = true), .b (rfl : true = true), .a (e9), t10, t11, t12, t13, .m (rfl : true = true), t15, t16, .c (rfl : (l.length + (1 : Nat)) = _), t18, .a (ih)] (by kernel_rfl)
    · have tkB := fun n t => takesC 7 n t 1 0 rfl rfl
      obtain ⟨w, a9, s9, hw, ha9, e9⟩ := pick_ex bs hb a2 s2 (by omega) (by omega) n (by omega)
      refine ⟨⟨7, w, e0⟩, a9, s9, d + (0 - 1), by omega, by omega, fun Z ih => ?_⟩
      unfold bcSt cuB at *
      rw [List.length_append, List.length_singleton] at ih
      let t1 : Tp pr := .b (show (decide ((↑l.length : Int) < n)) = true by (simp; omega))
      let t3 : Tp pr := .i (rfl : ((7 : Int) : Int) = (7 : Int))
      let t5 : Tp pr := .b (show (decide ((1 : Int) > d)) = true by (simp; omega))
      let t17 : Tp pr := .i (rfl : ((-1 : Int) : Int) = (-1 : Int))
      let t18 : Tp pr := .i (wrap_i64 (a := d + (-1 : Int)) (by omega) (by omega))
      let t20 : Tp pr := .m (show (decide ((bcc l).length = l.length ∧ (0 : Nat) + l.length ≤ l.length ∧ l.length + (1 : Nat) ≤ (4294967296 : Nat))) = true by (simp; omega))
      let t21 : Tp pr := .b (show (decide (l.length + (1 : Nat) ≤ l.length)) = false by simp)
      let t23 : Tp pr := .n .crows (show ((List.take l.length (bcc l)).append (List.take (1 : Nat) (List.drop (0 : Nat) [[C.t (T.int IntKind.i64 (7 : Int)), C.t (T.int IntKind.i64 w), C.t (T.str (ByteArray.mk #[]))]]))) = bcc (l ++ [Bc.mk (7 : Int) w (ByteArray.mk #[])]) by simp)
      exact .tp [.i (rfl : ((↑l.length : Int)) = _), t1, .a (e), t3, .a (tkA), t5, .a (e2), .b (rfl : false = false), .b (rfl : false = false), .b (rfl : false = false), .b (rfl : false = false), .b (rfl : false = false), .b (rfl : false = false), .b (rfl : false = false), .b (rfl : true = true), .a (e9), .a (tkB (w) (ByteArray.mk #[])), t17, t18, .m (rfl : true = true), t20, t21, .c (rfl : (l.length + (1 : Nat)) = _), t23, .a (ih)] (by kernel_rfl)
  · have tkB := fun n t => takesC 7 n t 1 0 rfl rfl
    obtain ⟨w, a9, s9, hw, ha9, e9⟩ := pick_ex bs hb a1 s1 (by omega) (by omega) n (by omega)
    refine ⟨⟨7, w, e0⟩, a9, s9, d + (0 - 1), by omega, by omega, fun Z ih => ?_⟩
    unfold bcSt cuB at *
    rw [List.length_append, List.length_singleton] at ih
    let t1 : Tp pr := .b (show (decide ((↑l.length : Int) < n)) = true by (simp; omega))
    let t3 : Tp pr := .i (rfl : ((7 : Int) : Int) = (7 : Int))
    let t5 : Tp pr := .b (show (decide ((1 : Int) > d)) = false by (simp; omega))
    let t16 : Tp pr := .i (rfl : ((-1 : Int) : Int) = (-1 : Int))
    let t17 : Tp pr := .i (wrap_i64 (a := d + (-1 : Int)) (by omega) (by omega))
    let t19 : Tp pr := .m (show (decide ((bcc l).length = l.length ∧ (0 : Nat) + l.length ≤ l.length ∧ l.length + (1 : Nat) ≤ (4294967296 : Nat))) = true by (simp; omega))
    let t20 : Tp pr := .b (show (decide (l.length + (1 : Nat) ≤ l.length)) = false by simp)
    let t22 : Tp pr := .n .crows (show ((List.take l.length (bcc l)).append (List.take (1 : Nat) (List.drop (0 : Nat) [[C.t (T.int IntKind.i64 (7 : Int)), C.t (T.int IntKind.i64 w), C.t (T.str (ByteArray.mk #[]))]]))) = bcc (l ++ [Bc.mk (7 : Int) w (ByteArray.mk #[])]) by simp)
    exact .tp [.i (rfl : ((↑l.length : Int)) = _), t1, .a (e), t3, .a (tkA), t5, .b (rfl : false = false), .b (rfl : false = false), .b (rfl : false = false), .b (rfl : false = false), .b (rfl : false = false), .b (rfl : false = false), .b (rfl : false = false), .b (rfl : true = true), .a (e9), .a (tkB (w) (ByteArray.mk #[])), t16, t17, .m (rfl : true = true), t19, t20, .c (rfl : (l.length + (1 : Nat)) = _), t22, .a (ih)] (by kernel_rfl)
theorem bcS8_ex (bs : List Int) (hb : okB bs) (a s a1 s1 : Int) (h0 : 0 ≤ a) (ha : a ≤ 40000000) (l : List Bc) (n d : Int) (hn : 0 ≤ n ∧ n ≤ 121) (hl : l.length < n) (hd : -1000 ≤ d ∧ d ≤ 1000) (ha1 : a ≤ a1 ∧ a1 ≤ a + 1)
    (e : Ev pr (.call 95 [.ptr 0 1 0 0, i64 8] [cuB bs a s]) (.val (i64 7) [cuB bs a1 s1])) :
    ∃ (x : Bc) (a' s' d' : Int), (a ≤ a' ∧ a' ≤ a + 5) ∧ (d - 3 ≤ d' ∧ d' ≤ d + 3) ∧ ∀ Z, bcSt bs a' s' (l ++ [x]) n d' Z → bcSt bs a s l n d Z := by
  have tkA := takesC 8 0 e0 1 0 rfl rfl
  by_cases c : 1 > d
  · obtain ⟨b, a2, s2, ha2, e2⟩ := one_ex bs hb a1 s1 (by omega) (by omega) 12 (by omega)
    cases b
    · have tkB := fun n t => takesC 1 n t 0 1 rfl rfl
      obtain ⟨w, a9, s9, hw, ha9, e9⟩ := pick_ex bs hb a2 s2 (by omega) (by omega) 9 (by omega)
      refine ⟨⟨1, w - 2, e0⟩, a9, s9, d + (1 - 0), by omega, by omega, fun Z ih => ?_⟩
      unfold bcSt cuB at *
      rw [List.length_append, List.length_singleton] at ih
      let t1 : Tp pr := .b (show (decide ((↑l.length : Int) < n)) = true by (simp; omega))
      let t3 : Tp pr := .i (rfl : ((8 : Int) : Int) = (8 : Int))
      let t5 : Tp pr := .b (show (decide ((1 : Int) > d)) = true by (simp; omega))
      let t10 : Tp pr := .i (wrap_i64 (a := w - (2 : Int)) (by omega) (by omega))
      let t11 : Tp pr := .a (tkB (w - (2 : Int)) (ByteArray.mk #[]))
      let t12 : Tp pr := .i (rfl : ((1 : Int) : Int) = (1 : Int))
      let t13 : Tp pr := .i (wrap_i64 (a := d + (1 : Int)) (by omega) (by omega))
      let t15 : Tp pr := .m (show (decide ((bcc l).length = l.length ∧ (0 : Nat) + l.length ≤ l.length ∧ l.length + (1 : Nat) ≤ (4294967296 : Nat))) = true by (simp; omega))
      let t16 : Tp pr := .b (show (decide (l.length + (1 : Nat) ≤ l.length)) = false by simp)
      let t18 : Tp pr := .n .crows (show ((List.take l.length (bcc l)).append (List.take (1 : Nat) (List.drop (0 : Nat) [[C.t (T.int IntKind.i64 (1 : Int)), C.t (T.int IntKind.i64 (w - (2 : Int))), C.t (T.str (ByteArray.mk #[]))]]))) = bcc (l ++ [Bc.mk (1 : Int) (w - (2 : Int)) (ByteArray.mk #[])]) by simp)
      exact .tp [.i (rfl : ((↑l.length : Int)) = _), t1, .a (e), t3, .a (tkA), t5, .a (e2), .b (rfl : true = true), .b (rfl : true = true), .a (e9), t10, t11, t12, t13, .m (rfl : true = true), t15, t16, .c (rfl : (l.length + (1 : Nat)) = _), t18, .a (ih)] (by kernel_rfl)
    · have tkB := fun n t => takesC 8 n t 1 0 rfl rfl
      refine ⟨⟨8, 0, e0⟩, a2, s2, d + (0 - 1), by omega, by omega, fun Z ih => ?_⟩
      unfold bcSt cuB at *
      rw [List.length_append, List.length_singleton] at ih
      let t1 : Tp pr := .b (show (decide ((↑l.length : Int) < n)) = true by (simp; omega))
      let t3 : Tp pr := .i (rfl : ((8 : Int) : Int) = (8 : Int))
      let t5 : Tp pr := .b (show (decide ((1 : Int) > d)) = true by (simp; omega))
      let t16 : Tp pr := .i (rfl : ((-1 : Int) : Int) = (-1 : Int))
      let t17 : Tp pr := .i (wrap_i64 (a := d + (-1 : Int)) (by omega) (by omega))
      let t19 : Tp pr := .m (show (decide ((bcc l).length = l.length ∧ (0 : Nat) + l.length ≤ l.length ∧ l.length + (1 : Nat) ≤ (4294967296 : Nat))) = true by (simp; omega))
      let t20 : Tp pr := .b (show (decide (l.length + (1 : Nat) ≤ l.length)) = false by simp)
      let t22 : Tp pr := .n .crows (show ((List.take l.length (bcc l)).append (List.take (1 : Nat) (List.drop (0 : Nat) [[C.t (T.int IntKind.i64 (8 : Int)), C.t (T.int IntKind.i64 (0 : Int)), C.t (T.str (ByteArray.mk #[]))]]))) = bcc (l ++ [Bc.mk (8 : Int) (0 : Int) (ByteArray.mk #[])]) by simp)
      exact .tp [.i (rfl : ((↑l.length : Int)) = _), t1, .a (e), t3, .a (tkA), t5, .a (e2), .b (rfl : false = false), .b (rfl : false = false), .b (rfl : false = false), .b (rfl : false = false), .b (rfl : false = false), .b (rfl : false = false), .b (rfl : false = false), .b (rfl : false = false), .a (tkA), t16, t17, .m (rfl : true = true), t19, t20, .c (rfl : (l.length + (1 : Nat)) = _), t22, .a (ih)] (by kernel_rfl)
  · have tkB := fun n t => takesC 8 n t 1 0 rfl rfl
    refine ⟨⟨8, 0, e0⟩, a1, s1, d + (0 - 1), by omega, by omega, fun Z ih => ?_⟩
    unfold bcSt cuB at *
    rw [List.length_append, List.length_singleton] at ih
    let t1 : Tp pr := .b (show (decide ((↑l.length : Int) < n)) = true by (simp; omega))
    let t3 : Tp pr := .i (rfl : ((8 : Int) : Int) = (8 : Int))
    let t5 : Tp pr := .b (show (decide ((1 : Int) > d)) = false by (simp; omega))
    let t15 : Tp pr := .i (rfl : ((-1 : Int) : Int) = (-1 : Int))
    let t16 : Tp pr := .i (wrap_i64 (a := d + (-1 : Int)) (by omega) (by omega))
    let t18 : Tp pr := .m (show (decide ((bcc l).length = l.length ∧ (0 : Nat) + l.length ≤ l.length ∧ l.length + (1 : Nat) ≤ (4294967296 : Nat))) = true by (simp; omega))
    let t19 : Tp pr := .b (show (decide (l.length + (1 : Nat) ≤ l.length)) = false by simp)
    let t21 : Tp pr := .n .crows (show ((List.take l.length (bcc l)).append (List.take (1 : Nat) (List.drop (0 : Nat) [[C.t (T.int IntKind.i64 (8 : Int)), C.t (T.int IntKind.i64 (0 : Int)), C.t (T.str (ByteArray.mk #[]))]]))) = bcc (l ++ [Bc.mk (8 : Int) (0 : Int) (ByteArray.mk #[])]) by simp)
    exact .tp [.i (rfl : ((↑l.length : Int)) = _), t1, .a (e), t3, .a (tkA), t5, .b (rfl : false = false), .b (rfl : false = false), .b (rfl : false = false), .b (rfl : false = false), .b (rfl : false = false), .b (rfl : false = false), .b (rfl : false = false), .b (rfl : false = false), .a (tkA), t15, t16, .m (rfl : true = true), t18, t19, .c (rfl : (l.length + (1 : Nat)) = _), t21, .a (ih)] (by kernel_rfl)
theorem bcS_ex (bs : List Int) (hb : okB bs) (a s : Int) (h0 : 0 ≤ a) (ha : a ≤ 40000000) (l : List Bc) (n d : Int) (hn : 0 ≤ n ∧ n ≤ 121) (hl : l.length < n) (hd : -1000 ≤ d ∧ d ≤ 1000) :
    ∃ (x : Bc) (a' s' d' : Int), (a ≤ a' ∧ a' ≤ a + 5) ∧ (d - 3 ≤ d' ∧ d' ≤ d + 3) ∧ ∀ Z, bcSt bs a' s' (l ++ [x]) n d' Z → bcSt bs a s l n d Z := by
  obtain ⟨v, a1, s1, hv, ha1, e⟩ := pick_ex bs hb a s h0 (by omega) 8 (by omega)
  have hv8 : v = 0 ∨ v = 1 ∨ v = 2 ∨ v = 3 ∨ v = 4 ∨ v = 5 ∨ v = 6 ∨ v = 7 := by omega
  rcases hv8 with rfl | rfl | rfl | rfl | rfl | rfl | rfl | rfl
  · exact bcS1_ex bs hb a s a1 s1 h0 ha l n d hn hl hd ha1 e
  · exact bcS2_ex bs hb a s a1 s1 h0 ha l n d hn hl hd ha1 e
  · exact bcS3_ex bs hb a s a1 s1 h0 ha l n d hn hl hd ha1 e
  · exact bcS4_ex bs hb a s a1 s1 h0 ha l n d hn hl hd ha1 e
  · exact bcS5_ex bs hb a s a1 s1 h0 ha l n d hn hl hd ha1 e
  · exact bcS6_ex bs hb a s a1 s1 h0 ha l n d hn hl hd ha1 e
  · exact bcS7_ex bs hb a s a1 s1 h0 ha l n d hn hl hd ha1 e
  · exact bcS8_ex bs hb a s a1 s1 h0 ha l n d hn hl hd ha1 e
theorem bcL_ex (bs : List Int) (hb : okB bs) (n : Int) (hn : 0 ≤ n ∧ n ≤ 121) : ∀ (k : Nat) (l : List Bc) (a s d : Int), 0 ≤ a → a + 5 * k ≤ 30000000 → l.length + k = n → -3 * l.length ≤ d → d ≤ 3 * l.length →
    ∃ (l' : List Bc) (a' s' : Int), l'.length = n ∧ (a ≤ a' ∧ a' ≤ a + 5 * k) ∧ bcSt bs a s l n d (.exit 0 (at_ [(0, .ptr 0 1 0 0), (3, .vec 1 l'.length 3 0 l'.length)] [cuB bs a' s', .vec true 3 (bcc l')] 1))
  | 0, l, a, s, d, h0, h1, h2, h3, h4 => by
    refine ⟨l, a, s, by omega, by omega, ?_⟩
    unfold bcSt cuB
    let t1 : Tp pr := .b (show (decide ((↑l.length : Int) < n)) = false by (simp; omega))
    exact .tp [.i (rfl : ((↑l.length : Int)) = _), t1] (by kernel_rfl)
  | k + 1, l, a, s, d, h0, h1, h2, h3, h4 => by
    obtain ⟨x, a1, s1, d1, ha1, hd1, st⟩ := bcS_ex bs hb a s h0 (by omega) l n d hn (by omega) (by omega)
    obtain ⟨l', a', s', hl, ha, ih⟩ := bcL_ex bs hb n hn k (l ++ [x]) a1 s1 d1 (by omega) (by omega) (by simp; omega) (by simp; omega) (by simp; omega)
    exact ⟨l', a', s', hl, by omega, st _ ih⟩
end Go.Ev

/- Code that is drawn: the whole. -/
namespace Go.Ev
set_option linter.unusedVariables false
set_option linter.unusedSimpArgs false
open Go.Proofs
set_option maxRecDepth 100000
set_option linter.unusedVariables false
set_option linter.unusedSimpArgs false
set_option maxHeartbeats 4000000
theorem bcN_ex (bs : List Int) (hb : okB bs) (a s : Int) (h0 : 0 ≤ a) (h1 : a ≤ 1000000) : ∃ (n : Nat) (a' s' : Int) (one : Bool) (a1 s1 a2 s2 u v : Int), n ≤ 121 ∧ 1 ≤ n ∧ (a ≤ a' ∧ a' ≤ a + 3) ∧ (0 ≤ u ∧ u ≤ 14) ∧ (0 ≤ v ∧ v ≤ 1) ∧ (a ≤ a1 ∧ a1 ≤ a2 ∧ a2 ≤ a') ∧
    Ev pr (.call 95 [.ptr 0 1 0 0, i64 14] [cuB bs a s]) (.val (i64 u) [cuB bs a1 s1]) ∧ Ev pr (.call 79 [.ptr 0 1 0 0, i64 20] [cuB bs a1 s1]) (.val (bl one) [cuB bs a2 s2]) ∧
    ((one = true ∧ (n : Int) = 120 + v ∧ Ev pr (.call 95 [.ptr 0 1 0 0, i64 2] [cuB bs a2 s2]) (.val (i64 v) [cuB bs a' s'])) ∨ (one = false ∧ (n : Int) = 1 + u ∧ a' = a2 ∧ s' = s2)) := by
  obtain ⟨u, a1, s1, hu, ha1, e1⟩ := pick_ex bs hb a s h0 (by omega) 14 (by omega)
  obtain ⟨one, a2, s2, ha2, e2⟩ := one_ex bs hb a1 s1 (by omega) (by omega) 20 (by omega)
  cases one
  · exact ⟨(1 + u).toNat, a2, s2, false, a1, s1, a2, s2, u, 0, by omega, by omega, by omega, by omega, by omega, by omega, e1, e2, .inr ⟨rfl, by omega, rfl, rfl⟩⟩
  · obtain ⟨v, a3, s3, hv, ha3, e3⟩ := pick_ex bs hb a2 s2 (by omega) (by omega) 2 (by omega)
    exact ⟨(120 + v).toNat, a3, s3, true, a1, s1, a2, s2, u, v, by omega, by omega, by omega, by omega, by omega, by omega, e1, e2, .inl ⟨rfl, by omega, e3⟩⟩
theorem bc_getM {l : List Bc} {k : Nat} (h : k < l.length) : ∃ x : Bc, (bcc l)[k]? = some [C.t (.int .i64 x.op), C.t (.int .i64 x.n), C.t (.str x.text)] := ⟨l[k], by simp [bcc, h, Bc.cc]⟩
theorem bytecode_ex (bs : List Int) (hb : okB bs) (a s : Int) (h0 : 0 ≤ a) (h1 : a ≤ 1000000) :
    ∃ (l : List Bc) (a' s' : Int), l.length ≤ 122 ∧ (a ≤ a' ∧ a' ≤ a + 1000) ∧ Ev pr (.call 78 [.ptr 0 1 0 0] [cuB bs a s]) (.val (bcs l) [cuB bs a' s']) := by
  obtain ⟨n, a3, s3, one, a1, s1, a2, s2, u, v, hn, hn1, ha3, hu, hv, ha12, e1, e2, hc⟩ := bcN_ex bs hb a s h0 h1
  obtain ⟨l, a4, s4, hl, ha4, e4⟩ := bcL_ex bs hb n (by omega) n [] a3 s3 0 (by omega) (by omega) (by simp) (by simp) (by simp)
  obtain ⟨b, a5, s5, ha5, e5⟩ := one_ex bs hb a4 s4 (by omega) (by omega) 20 (by omega)
  unfold bcSt at e4
  rw [show bcc [] = [] from rfl, show (([] : List Bc).length) = 0 from rfl] at e4
  cases b
  · refine ⟨l ++ [(⟨9, 0, e0⟩ : Bc)], a5, s5, by simp; omega, by omega, ?_⟩
    unfold cuB at *
    rcases hc with ⟨rfl, hn2, e3⟩ | ⟨rfl, hn2, rfl, rfl⟩
    · rw [hn2] at e4
      let t1 : Tp pr := .i (wrap_i64 (a := (1 : Int) + u) (by omega) (by omega))
      let t5 : Tp pr := .i (wrap_i64 (a := (120 : Int) + v) (by omega) (by omega))
      let t8 : Tp pr := .m (show (decide ((bcc l).length = l.length ∧ (0 : Nat) + l.length ≤ l.length ∧ l.length + (1 : Nat) ≤ (4294967296 : Nat))) = true by (simp; omega))
      let t9 : Tp pr := .b (show (decide (l.length + (1 : Nat) ≤ l.length)) = false by simp)
      let t11 : Tp pr := .n .crows (show ((List.take l.length (bcc l)).append (List.take (1 : Nat) (List.drop (0 : Nat) [[C.t (T.int IntKind.i64 (9 : Int)), C.t (T.int IntKind.i64 (0 : Int)), C.t (T.str (ByteArray.mk #[]))]]))) = bcc (l ++ [Bc.mk (9 : Int) (0 : Int) (ByteArray.mk #[])]) by simp)
      let t14 : Tp pr := .m (show (decide ((bcc (l ++ [Bc.mk (9 : Int) (0 : Int) (ByteArray.mk #[])])).length = l.length + (1 : Nat) ∧ (0 : Nat) + (l.length + (1 : Nat)) ≤ l.length + (1 : Nat))) = true by simp)
      let t15 : Tp pr := .n .rows (show (List.map (fun x => List.map C.fz x) (List.take (l.length + (1 : Nat)) (List.drop (0 : Nat) (bcc (l ++ [Bc.mk (9 : Int) (0 : Int) (ByteArray.mk #[])]))))) = List.map Bc.ce l ++ [(Bc.mk (9 : Int) (0 : Int) (ByteArray.mk #[])).ce] by simp)
      exact .tpe [.a (e1), t1, .a (e2), .b (rfl : true = true), .a (e3), t5, .a (e4), .m (rfl : true = true), t8, t9, .c (rfl : (l.length + (1 : Nat)) = _), t11, .a (e5), .b (rfl : false = false), t14, t15] (Out.val (V.t (T.seq (3 : Nat) ((List.map Bc.ce l).append [[T.int IntKind.i64 (9 : Int), T.int IntKind.i64 (0 : Int), T.str (ByteArray.mk #[])]]))) [Ob.box [V.t (T.seq (1 : Nat) (List.map u8t bs)), V.t (T.int IntKind.i64 a5), V.t (T.int IntKind.u64 s5)]]) (by kernel_rfl) (congrArg (fun x => Out.val (V.t (T.seq (3 : Nat) x)) [Ob.box [V.t (T.seq (1 : Nat) (List.map u8t bs)), V.t (T.int IntKind.i64 a5), V.t (T.int IntKind.u64 s5)]]) (show ((List.map Bc.ce l).append [[T.int IntKind.i64 (9 : Int), T.int IntKind.i64 (0 : Int), T.str (ByteArray.mk #[])]]) = (List.map Bc.ce (l ++ [Bc.mk (9 : Int) (0 : Int) e0])) by simp [Bc.ce, e0]))
    · rw [hn2] at e4
      let t1 : Tp pr := .i (wrap_i64 (a := (1 : Int) + u) (by omega) (by omega))
      let t6 : Tp pr := .m (show (decide ((bcc l).length = l.length ∧ (0 : Nat) + l.length ≤ l.length ∧ l.length + (1 : Nat) ≤ (4294967296 : Nat))) = true by (simp; omega))
      let t7 : Tp pr := .b (show (decide (l.length + (1 : Nat) ≤ l.length)) = false by simp)
      let t9 : Tp pr := .n .crows (show ((List.take l.length (bcc l)).append (List.take (1 : Nat) (List.drop (0 : Nat) [[C.t (T.int IntKind.i64 (9 : Int)), C.t (T.int IntKind.i64 (0 : Int)), C.t (T.str (ByteArray.mk #[]))]]))) = bcc (l ++ [Bc.mk (9 : Int) (0 : Int) (ByteArray.mk #[])]) by simp)
      let t12 : Tp pr := .m (show (decide ((bcc (l ++ [Bc.mk (9 : Int) (0 : Int) (ByteArray.mk #[])])).length = l.length + (1 : Nat) ∧ (0 : Nat) + (l.length + (1 : Nat)) ≤ l.length + (1 : Nat))) = true by simp)
      let t13 : Tp pr := .n .rows (show (List.map (fun x => List.map C.fz x) (List.take (l.length + (1 : Nat)) (List.drop (0 : Nat) (bcc (l ++ [Bc.mk (9 : Int) (0 : Int) (ByteArray.mk #[])]))))) = List.map Bc.ce l ++ [(Bc.mk (9 : Int) (0 : Int) (ByteArray.mk #[])).ce] by simp)
      exact .tpe [.a (e1), t1, .a (e2), .b (rfl : false = false), .a (e4), .m (rfl : true = true), t6, t7, .c (rfl : (l.length + (1 : Nat)) = _), t9, .a (e5), .b (rfl : false = false), t12, t13] (Out.val (V.t (T.seq (3 : Nat) ((List.map Bc.ce l).append [[T.int IntKind.i64 (9 : Int), T.int IntKind.i64 (0 : Int), T.str (ByteArray.mk #[])]]))) [Ob.box [V.t (T.seq (1 : Nat) (List.map u8t bs)), V.t (T.int IntKind.i64 a5), V.t (T.int IntKind.u64 s5)]]) (by kernel_rfl) (congrArg (fun x => Out.val (V.t (T.seq (3 : Nat) x)) [Ob.box [V.t (T.seq (1 : Nat) (List.map u8t bs)), V.t (T.int IntKind.i64 a5), V.t (T.int IntKind.u64 s5)]]) (show ((List.map Bc.ce l).append [[T.int IntKind.i64 (9 : Int), T.int IntKind.i64 (0 : Int), T.str (ByteArray.mk #[])]]) = (List.map Bc.ce (l ++ [Bc.mk (9 : Int) (0 : Int) e0])) by simp [Bc.ce, e0]))
  · obtain ⟨k, a6, s6, hk, ha6, e6⟩ := pick_ex bs hb a5 s5 (by omega) (by omega) (l.length + 1) (by omega)
    obtain ⟨o, a7, s7, ho, ha7, e7⟩ := pick_ex bs hb a6 s6 (by omega) (by omega) 11 (by omega)
    obtain ⟨m, a8, s8, hm, ha8, e8⟩ := pick_ex bs hb a7 s7 (by omega) (by omega) 4 (by omega)
    obtain ⟨t, a9, s9, ha9, e9⟩ := of_ex bs hb a8 s8 (by omega) (by omega) [e0, sP, sA] (by simp) (by simp)
    obtain ⟨y, hy⟩ := bc_getM (l := l ++ [(⟨9, 0, e0⟩ : Bc)]) (k := k.toNat) (by simp; omega)
    refine ⟨(l ++ [(⟨9, 0, e0⟩ : Bc)]).set k.toNat ⟨o, m, t⟩, a9, s9, by simp; omega, by omega, ?_⟩
    have hll : (l ++ [(⟨9, 0, e0⟩ : Bc)]).length = l.length + 1 := by simp
    unfold cuB at *
    rcases hc with ⟨rfl, hn2, e3⟩ | ⟨rfl, hn2, rfl, rfl⟩
    · rw [hn2] at e4
      let t1 : Tp pr := .i (wrap_i64 (a := (1 : Int) + u) (by omega) (by omega))
      let t5 : Tp pr := .i (wrap_i64 (a := (120 : Int) + v) (by omega) (by omega))
      let t8 : Tp pr := .m (show (decide ((bcc l).length = l.length ∧ (0 : Nat) + l.length ≤ l.length ∧ l.length + (1 : Nat) ≤ (4294967296 : Nat))) = true by (simp; omega))
      let t9 : Tp pr := .b (show (decide (l.length + (1 : Nat) ≤ l.length)) = false by simp)
      let t11 : Tp pr := .n .crows (show ((List.take l.length (bcc l)).append (List.take (1 : Nat) (List.drop (0 : Nat) [[C.t (T.int IntKind.i64 (9 : Int)), C.t (T.int IntKind.i64 (0 : Int)), C.t (T.str (ByteArray.mk #[]))]]))) = bcc (l ++ [Bc.mk (9 : Int) (0 : Int) (ByteArray.mk #[])]) by simp)
      let t14 : Tp pr := .i (show ((↑(l.length + (1 : Nat)) : Int) : Int) = (↑l.length : Int) + (1 : Int) by omega)
      let t19 : Tp pr := .n .rows (show (List.map (fun x => List.map C.fz x) (List.take (3 : Nat) (List.drop (0 : Nat) [[C.t (T.str (ByteArray.mk #[]))], [C.t (T.str (ByteArray.mk #[(43 : UInt8)]))], [C.t (T.str (ByteArray.mk #[(38 : UInt8), (38 : UInt8)]))]]))) = [[(C.t (T.str (ByteArray.mk #[]))).fz], [(C.t (T.str (ByteArray.mk #[(43 : UInt8)]))).fz], [(C.t (T.str (ByteArray.mk #[(38 : UInt8), (38 : UInt8)]))).fz]] by simp)
      let t21 : Tp pr := .m (show (decide ((0 : Int) ≤ k ∧ k.toNat < l.length + (1 : Nat))) = true by (simp; omega))
      let t22 : Tp pr := .c (show ((0 : Nat) + k.toNat : Nat) = k.toNat by omega)
      let t23 : Tp pr := .m (show (decide ((bcc (l ++ [Bc.mk (9 : Int) (0 : Int) (ByteArray.mk #[])])).length = l.length + (1 : Nat))) = true by simp)
      let t24 : Tp pr := .g .crow (show ((bcc (l ++ [Bc.mk (9 : Int) (0 : Int) (ByteArray.mk #[])]))[k.toNat]?) = some ([C.t (T.int IntKind.i64 y.op), C.t (T.int IntKind.i64 y.n), C.t (T.str y.text)]) from hy)
      let t25 : Tp pr := .n .crows (show ((bcc (l ++ [Bc.mk (9 : Int) (0 : Int) (ByteArray.mk #[])])).set k.toNat [C.t (T.int IntKind.i64 o), C.t (T.int IntKind.i64 m), C.t (T.str t)]) = bcc ((l ++ [Bc.mk (9 : Int) (0 : Int) (ByteArray.mk #[])]).set k.toNat (Bc.mk o m t)) by simp)
      let t26 : Tp pr := .m (show (decide ((bcc ((l ++ [Bc.mk (9 : Int) (0 : Int) (ByteArray.mk #[])]).set k.toNat (Bc.mk o m t))).length = l.length + (1 : Nat) ∧ (0 : Nat) + (l.length + (1 : Nat)) ≤ l.length + (1 : Nat))) = true by simp)
      let t27 : Tp pr := .n .rows (show (List.map (fun x => List.map C.fz x) (List.take (l.length + (1 : Nat)) (List.drop (0 : Nat) (bcc ((l ++ [Bc.mk (9 : Int) (0 : Int) (ByteArray.mk #[])]).set k.toNat (Bc.mk o m t)))))) = (List.map Bc.ce l ++ [(Bc.mk (9 : Int) (0 : Int) (ByteArray.mk #[])).ce]).set k.toNat (Bc.mk o m t).ce by simp)
      exact .tpe [.a (e1), t1, .a (e2), .b (rfl : true = true), .a (e3), t5, .a (e4), .m (rfl : true = true), t8, t9, .c (rfl : (l.length + (1 : Nat)) = _), t11, .a (e5), .b (rfl : true = true), t14, .a (e6), .a (e7), .a (e8), .m (rfl : true = true), t19, .a (e9), t21, t22, t23, t24, t25, t26, t27] (Out.val (V.t (T.seq (3 : Nat) (((List.map Bc.ce l).append [[T.int IntKind.i64 (9 : Int), T.int IntKind.i64 (0 : Int), T.str (ByteArray.mk #[])]]).set k.toNat [T.int IntKind.i64 o, T.int IntKind.i64 m, T.str t]))) [Ob.box [V.t (T.seq (1 : Nat) (List.map u8t bs)), V.t (T.int IntKind.i64 a9), V.t (T.int IntKind.u64 s9)]]) (by kernel_rfl) (congrArg (fun x => Out.val (V.t (T.seq (3 : Nat) x)) [Ob.box [V.t (T.seq (1 : Nat) (List.map u8t bs)), V.t (T.int IntKind.i64 a9), V.t (T.int IntKind.u64 s9)]]) (show (((List.map Bc.ce l).append [[T.int IntKind.i64 (9 : Int), T.int IntKind.i64 (0 : Int), T.str (ByteArray.mk #[])]]).set k.toNat [T.int IntKind.i64 o, T.int IntKind.i64 m, T.str t]) = (List.map Bc.ce ((l ++ [Bc.mk (9 : Int) (0 : Int) e0]).set k.toNat (Bc.mk o m t))) by simp [Bc.ce, e0]))
    · rw [hn2] at e4
      let t1 : Tp pr := .i (wrap_i64 (a := (1 : Int) + u) (by omega) (by omega))
      let t6 : Tp pr := .m (show (decide ((bcc l).length = l.length ∧ (0 : Nat) + l.length ≤ l.length ∧ l.length + (1 : Nat) ≤ (4294967296 : Nat))) = true by (simp; omega))
      let t7 : Tp pr := .b (show (decide (l.length + (1 : Nat) ≤ l.length)) = false by simp)
      let t9 : Tp pr := .n .crows (show ((List.take l.length (bcc l)).append (List.take (1 : Nat) (List.drop (0 : Nat) [[C.t (T.int IntKind.i64 (9 : Int)), C.t (T.int IntKind.i64 (0 : Int)), C.t (T.str (ByteArray.mk #[]))]]))) = bcc (l ++ [Bc.mk (9 : Int) (0 : Int) (ByteArray.mk #[])]) by simp)
      let t12 : Tp pr := .i (show ((↑(l.length + (1 : Nat)) : Int) : Int) = (↑l.length : Int) + (1 : Int) by omega)
      let t17 : Tp pr := .n .rows (show (List.map (fun x => List.map C.fz x) (List.take (3 : Nat) (List.drop (0 : Nat) [[C.t (T.str (ByteArray.mk #[]))], [C.t (T.str (ByteArray.mk #[(43 : UInt8)]))], [C.t (T.str (ByteArray.mk #[(38 : UInt8), (38 : UInt8)]))]]))) = [[(C.t (T.str (ByteArray.mk #[]))).fz], [(C.t (T.str (ByteArray.mk #[(43 : UInt8)]))).fz], [(C.t (T.str (ByteArray.mk #[(38 : UInt8), (38 : UInt8)]))).fz]] by simp)
      let t19 : Tp pr := .m (show (decide ((0 : Int) ≤ k ∧ k.toNat < l.length + (1 : Nat))) = true by (simp; omega))
      let t20 : Tp pr := .c (show ((0 : Nat) + k.toNat : Nat) = k.toNat by omega)
      let t21 : Tp pr := .m (show (decide ((bcc (l ++ [Bc.mk (9 : Int) (0 : Int) (ByteArray.mk #[])])).length = l.length + (1 : Nat))) = true by simp)
      let t22 : Tp pr := .g .crow (show ((bcc (l ++ [Bc.mk (9 : Int) (0 : Int) (ByteArray.mk #[])]))[k.toNat]?) = some ([C.t (T.int IntKind.i64 y.op), C.t (T.int IntKind.i64 y.n), C.t (T.str y.text)]) from hy)
      let t23 : Tp pr := .n .crows (show ((bcc (l ++ [Bc.mk (9 : Int) (0 : Int) (ByteArray.mk #[])])).set k.toNat [C.t (T.int IntKind.i64 o), C.t (T.int IntKind.i64 m), C.t (T.str t)]) = bcc ((l ++ [Bc.mk (9 : Int) (0 : Int) (ByteArray.mk #[])]).set k.toNat (Bc.mk o m t)) by simp)
      let t24 : Tp pr := .m (show (decide ((bcc ((l ++ [Bc.mk (9 : Int) (0 : Int) (ByteArray.mk #[])]).set k.toNat (Bc.mk o m t))).length = l.length + (1 : Nat) ∧ (0 : Nat) + (l.length + (1 : Nat)) ≤ l.length + (1 : Nat))) = true by simp)
      let t25 : Tp pr := .n .rows (show (List.map (fun x => List.map C.fz x) (List.take (l.length + (1 : Nat)) (List.drop (0 : Nat) (bcc ((l ++ [Bc.mk (9 : Int) (0 : Int) (ByteArray.mk #[])]).set k.toNat (Bc.mk o m t)))))) = (List.map Bc.ce l ++ [(Bc.mk (9 : Int) (0 : Int) (ByteArray.mk #[])).ce]).set k.toNat (Bc.mk o m t).ce by simp)
      exact .tpe [.a (e1), t1, .a (e2), .b (rfl : false = false), .a (e4), .m (rfl : true = true), t6, t7, .c (rfl : (l.length + (1 : Nat)) = _), t9, .a (e5), .b (rfl : true = true), t12, .a (e6), .a (e7), .a (e8), .m (rfl : true = true), t17, .a (e9), t19, t20, t21, t22, t23, t24, t25] (Out.val (V.t (T.seq (3 : Nat) (((List.map Bc.ce l).append [[T.int IntKind.i64 (9 : Int), T.int IntKind.i64 (0 : Int), T.str (ByteArray.mk #[])]]).set k.toNat [T.int IntKind.i64 o, T.int IntKind.i64 m, T.str t]))) [Ob.box [V.t (T.seq (1 : Nat) (List.map u8t bs)), V.t (T.int IntKind.i64 a9), V.t (T.int IntKind.u64 s9)]]) (by kernel_rfl) (congrArg (fun x => Out.val (V.t (T.seq (3 : Nat) x)) [Ob.box [V.t (T.seq (1 : Nat) (List.map u8t bs)), V.t (T.int IntKind.i64 a9), V.t (T.int IntKind.u64 s9)]]) (show (((List.map Bc.ce l).append [[T.int IntKind.i64 (9 : Int), T.int IntKind.i64 (0 : Int), T.str (ByteArray.mk #[])]]).set k.toNat [T.int IntKind.i64 o, T.int IntKind.i64 m, T.str t]) = (List.map Bc.ce ((l ++ [Bc.mk (9 : Int) (0 : Int) e0]).set k.toNat (Bc.mk o m t))) by simp [Bc.ce, e0]))
end Go.Ev

/- The law of checked code. -/
namespace Go.Ev
set_option linter.unusedVariables false
set_option linter.unusedSimpArgs false
open Go.Proofs
set_option maxRecDepth 100000
set_option linter.unusedVariables false
set_option linter.unusedSimpArgs false
set_option maxHeartbeats 8000000
abbrev bsq (bs : List Int) : V := .t (.seq 1 (bs.map u8t))
theorem drawGC_ex (bs : List Int) (hb : okB bs) : ∃ l : List Bc, l.length ≤ 122 ∧ Ev pr (.call 72 [bsq bs] []) (.val (bcs l) []) := by
  obtain ⟨l, a1, s1, hl, ha1, e1⟩ := bytecode_ex bs hb 0 0 (by omega) (by omega)
  refine ⟨l, hl, ?_⟩
  unfold cuB at *
  exact .tp [.a (e1)] (by kernel_rfl)
theorem drawDC_ex (bs : List Int) (hb : okB bs) : ∃ l : List Bc, l.length ≤ 122 ∧ Ev pr (.call 48 [bsq bs] []) (.val (bcs l) []) := by
  obtain ⟨l, hl, e1⟩ := drawGC_ex bs hb
  refine ⟨l, hl, ?_⟩
  exact .tp [.a (e1)] (by kernel_rfl)
theorem drawRB_ex (bs : List Int) (hb : okB bs) : ∃ (l : List Bc) (lo : List Int) (f : Int), l.length ≤ 122 ∧ lo.length = 10 ∧ Ev pr (.call 44 [bsq bs] []) (.val (.tup [bcs l, isq lo, i64 f]) []) := by
  obtain ⟨l, a1, s1, hl, ha1, e1⟩ := bytecode_ex bs hb 0 0 (by omega) (by omega)
  obtain ⟨lo, a2, s2, hlo, ha2, e2⟩ := locals_ex bs hb a1 s1 (by omega) (by omega)
  obtain ⟨f, a3, s3, hf, ha3, e3⟩ := among_ex bs hb a2 s2 (by omega) (by omega) [-1, 0, 3, 30, 300, 2000, 2001] (by simp) (by simp)
  refine ⟨l, lo, f, hl, hlo, ?_⟩
  unfold cuB at *
  let t3 : Tp pr := .n .rows (show (List.map (fun x => List.map C.fz x) (List.take (7 : Nat) (List.drop (0 : Nat) [[C.t (T.int IntKind.i64 (-1 : Int))], [C.t (T.int IntKind.i64 (0 : Int))], [C.t (T.int IntKind.i64 (3 : Int))], [C.t (T.int IntKind.i64 (30 : Int))], [C.t (T.int IntKind.i64 (300 : Int))], [C.t (T.int IntKind.i64 (2000 : Int))], [C.t (T.int IntKind.i64 (2001 : Int))]]))) = [[(C.t (T.int IntKind.i64 (-1 : Int))).fz], [(C.t (T.int IntKind.i64 (0 : Int))).fz], [(C.t (T.int IntKind.i64 (3 : Int))).fz], [(C.t (T.int IntKind.i64 (30 : Int))).fz], [(C.t (T.int IntKind.i64 (300 : Int))).fz], [(C.t (T.int IntKind.i64 (2000 : Int))).fz], [(C.t (T.int IntKind.i64 (2001 : Int))).fz]] by simp)
  exact .tp [.a (e1), .a (e2), .m (rfl : true = true), t3, .a (e3)] (by kernel_rfl)
theorem sameIL_ev (l : List Int) (hl : l.length ≤ 1048576) : ∀ (r m : List Int), l = m ++ r →
    Ev pr (.loop (lq pr 12 0) (at_ [(0, isq l), (1, isq l), (12, i64 l.length), (13, i64 m.length)] [] 0)) (.exit 0 (at_ [] [] 0))
  | [], m, he => by
    have hll : (l.length : Int) = m.length := by simp [he]
    let t0 : Tp pr := .b (show (decide ((↑m.length : Int) < (↑l.length : Int))) = false by (simp; omega))
    exact .tp [t0] (by kernel_rfl)
  | x :: r, m, he => by
    have hll : (l.length : Int) = m.length + 1 + r.length := by simp [he]; omega
    have hg : lkp (l.map intt) (m.length : Int) = some [T.int .i64 x] := by rw [he]; simp [intt]
    have ih := sameIL_ev l hl r (m ++ [x]) (by simp [he])
    let t0 : Tp pr := .b (show (decide ((↑m.length : Int) < (↑l.length : Int))) = true by (simp; omega))
    let t3 : Tp pr := .g .row (show (lkp (List.map intt l) (↑m.length : Int)) = some ([T.int IntKind.i64 x]) from hg)
    let t8 : Tp pr := .g .row (show (lkp (List.map intt l) (↑m.length : Int)) = some ([T.int IntKind.i64 x]) from hg)
    let t13 : Tp pr := .i (wrap_i64 (a := (↑m.length : Int) + (1 : Int)) (by omega) (by omega))
    let t14 : Tp pr := .a (Ev.castq (congrArg (fun x => Q.loop (lq pr (12 : FuncId) (0 : Nat)) (at_ [((0 : Nat), isq l), ((1 : Nat), isq l), ((12 : Nat), i64 (↑l.length : Int)), ((13 : Nat), i64 x)] [] (0 : Nat))) (show ((↑(m ++ [x]).length : Int)) = ((↑m.length : Int) + (1 : Int)) by simp)) (ih))
    exact .tp [t0, .m (rfl : true = true), .m (rfl : true = true), t3, .m (rfl : true = true), .m (rfl : true = true), .m (rfl : true = true), .m (rfl : true = true), t8, .m (rfl : true = true), .m (rfl : true = true), .m (rfl : true = true), .b (show (x != x) = false by simp), t13, t14] (by kernel_rfl)
theorem sameInts_ev (l : List Int) (hl : l.length ≤ 1048576) : Ev pr (.call 12 [isq l, isq l] []) (.val (bl true) []) := by
  have g := sameIL_ev l hl l [] rfl
  let t0 : Tp pr := .i (show ((↑(List.map intt l).length : Int) : Int) = (↑l.length : Int) by simp)
  let t1 : Tp pr := .i (show ((↑(List.map intt l).length : Int) : Int) = (↑l.length : Int) by simp)
  let t2 : Tp pr := .b (show ((↑l.length : Int) != (↑l.length : Int)) = false by simp)
  let t3 : Tp pr := .i (show ((↑(List.map intt l).length : Int) : Int) = (↑l.length : Int) by simp)
  exact .tp [t0, t1, t2, t3, .a (g)] (by kernel_rfl)
theorem ckL_ev (o cs : List Int) (m : Int) (ho : o.length ≤ 1000) (hm : ∀ x ∈ o, x ≤ m ∧ -1 ≤ x) : ∀ (rest dn : List Int), o = dn ++ rest →
    Ev pr (.loop (lq pr 8 0) (at_ [(1, bsq cs), (22, i64 m), (154, isq o), (155, i64 o.length), (156, i64 dn.length)] [] 0)) (.exit 0 (at_ [(1, bsq cs)] [] 0))
  | [], dn, h => by
    have hll : (o.length : Int) = dn.length := by simp [h]
    let t0 : Tp pr := .b (show (decide ((↑dn.length : Int) < (↑o.length : Int))) = false by (simp; omega))
    exact .tp [t0] (by kernel_rfl)
  | x :: rest, dn, h => by
    have hll : (o.length : Int) = dn.length + 1 + rest.length := by simp [h]; omega
    have hg : lkp (o.map intt) (dn.length : Int) = some [T.int .i64 x] := by rw [h]; simp [intt]
    have hx := hm x (by simp [h])
    have ih := ckL_ev o cs m ho hm rest (dn ++ [x]) (by simp [h])
    let t0 : Tp pr := .b (show (decide ((↑dn.length : Int) < (↑o.length : Int))) = true by (simp; omega))
    let t1 : Tp pr := .g .row (show (lkp (List.map intt o) (↑dn.length : Int)) = some ([T.int IntKind.i64 x]) from hg)
    let t2 : Tp pr := .b (show (decide (x > m)) = false by (simp; omega))
    let t3 : Tp pr := .b (show (decide (x < (-1 : Int))) = false by (simp; omega))
    let t4 : Tp pr := .i (wrap_i64 (a := (↑dn.length : Int) + (1 : Int)) (by omega) (by omega))
    let t5 : Tp pr := .a (Ev.castq (congrArg (fun x => Q.loop (lq pr (8 : FuncId) (0 : Nat)) (at_ [((1 : Nat), bsq cs), ((22 : Nat), i64 m), ((154 : Nat), isq o), ((155 : Nat), i64 (↑o.length : Int)), ((156 : Nat), i64 x)] [] (0 : Nat))) (show ((↑(dn ++ [x]).length : Int)) = ((↑dn.length : Int) + (1 : Int)) by simp)) (ih))
    exact .tp [t0, t1, t2, t3, t4, t5] (by kernel_rfl)
theorem run_chk {l : List Bc} {o lo : List Int} {f : Int} {r : Int × Int × Int} (hg : goodCode l = true) (hd : depP l = some o) (h : runBc l lo f = some r) : r.1 ≠ 5 ∧ r.2.2 ≤ f := by
  have hc := dep_ok hg hd
  have hl := goodCode_len hg
  unfold runBc at h
  split at h
  · rename_i c
    obtain rfl := Option.some.inj h
    have := runA_chk (lo := lo) (st := []) (jk := []) hg hc f.toNat 0 (k := 0) (Int.le_refl _) (by omega) (by rw [hc.zero]; rfl)
    exact ⟨this.1, by have := this.2; omega⟩
  · cases h
theorem law0_ev (bs cs : List Int) (hb : ∀ b ∈ bs, 0 ≤ b ∧ b ≤ 255) (hc : ∀ b ∈ cs, 0 ≤ b ∧ b ≤ 255) (h1 : bs.length ≤ 9223372036854775807) (h2 : cs.length ≤ 9223372036854775807) :
    Ev pr (.call 8 [bsq bs, bsq cs] []) (.val (bl true) []) := by
  obtain ⟨sm, hw⟩ : ∃ m, m = IntKind.i64.wrap ((bs.length : Int) + cs.length) := ⟨_, rfl⟩
  have hw := hw.symm
  by_cases hlen : sm ≤ 1048576
  · obtain ⟨l, lo, f, hl, hlo, e1⟩ := drawRB_ex bs ⟨h1, hb⟩
    obtain ⟨x, hx, e2⟩ := drawDC_ex cs ⟨h2, hc⟩
    have d1 := DepthI_ev x (by omega)
    have d2 := DepthS_ev x (by omega)
    generalize depN x = D at *
    have r1 := RunBcI_ev l lo f (by omega) (by omega)
    have r2 := RunBcS_ev l lo f (by omega) (by omega)
    have gc := GoodCodeI_ev l (by omega)
    cases hg : goodCode l
    · rw [hg] at gc
      have hr : runBc l lo f = none := by unfold runBc; rw [if_neg (by simp [hg])]
      rw [hr] at r1 r2
      have k1 := CheckI0_ev l (by omega) hg
      have k2 := CheckS0_ev l (by omega) hg
      have k3 := sameInts_ev [] (by simp)
      let t0 : Tp pr := .i (show ((↑(List.map u8t bs).length : Int) : Int) = (↑bs.length : Int) by simp)
      let t1 : Tp pr := .i (show ((↑(List.map u8t cs).length : Int) : Int) = (↑cs.length : Int) by simp)
      let t2 : Tp pr := .i (show (IntKind.i64.wrap ((↑bs.length : Int) + (↑cs.length : Int)) : Int) = (sm : Int) from hw)
      let t3 : Tp pr := .b (show (decide (sm > (1048576 : Int))) = false by (simp; omega))
      let t27 : Tp pr := .b (show (decide (D.snd = D.snd)) = true by simp)
      exact .tpe [t0, t1, t2, t3, .a (e1), .a (r1), .a (r2), .a (k1), .a (k2), .b (rfl : false = false), .b (rfl : false = false), .b (rfl : false = false), .b (rfl : false = false), .b (rfl : false = false), .b (rfl : false = false), .a (k3), .b (rfl : false = false), .a (gc), .b (rfl : false = false), .b (rfl : false = false), .b (rfl : false = false), .b (rfl : false = false), .b (rfl : false = false), .b (rfl : false = false), .a (e2), .a (d1), .a (d2), t27] (Out.val (V.t (T.bool (decide (D.fst = D.fst)))) []) (by kernel_rfl) (congrArg (fun x => Out.val (V.t (T.bool x)) []) (show (decide (D.fst = D.fst)) = (true) by simp))
    · rw [hg] at gc
      cases hd : depP l with
      | none =>
        have k1 := CheckI1_ev l hg hd
        have k2 := CheckS1_ev l hg hd
        have k3 := sameInts_ev [] (by simp)
        cases hr : runBc l lo f with
        | none =>
          rw [hr] at r1 r2
          let t0 : Tp pr := .i (show ((↑(List.map u8t bs).length : Int) : Int) = (↑bs.length : Int) by simp)
          let t1 : Tp pr := .i (show ((↑(List.map u8t cs).length : Int) : Int) = (↑cs.length : Int) by simp)
          let t2 : Tp pr := .i (show (IntKind.i64.wrap ((↑bs.length : Int) + (↑cs.length : Int)) : Int) = (sm : Int) from hw)
          let t3 : Tp pr := .b (show (decide (sm > (1048576 : Int))) = false by (simp; omega))
          let t27 : Tp pr := .b (show (decide (D.snd = D.snd)) = true by simp)
          exact .tpe [t0, t1, t2, t3, .a (e1), .a (r1), .a (r2), .a (k1), .a (k2), .b (rfl : false = false), .b (rfl : false = false), .b (rfl : false = false), .b (rfl : false = false), .b (rfl : false = false), .b (rfl : false = false), .a (k3), .b (rfl : false = false), .a (gc), .b (rfl : false = false), .b (rfl : false = false), .b (rfl : false = false), .b (rfl : false = false), .b (rfl : true = true), .b (rfl : false = false), .a (e2), .a (d1), .a (d2), t27] (Out.val (V.t (T.bool (decide (D.fst = D.fst)))) []) (by kernel_rfl) (congrArg (fun x => Out.val (V.t (T.bool x)) []) (show (decide (D.fst = D.fst)) = (true) by simp))
        | some r =>
          rw [hr] at r1 r2
          dsimp only at r1 r2
          let t0 : Tp pr := .i (show ((↑(List.map u8t bs).length : Int) : Int) = (↑bs.length : Int) by simp)
          let t1 : Tp pr := .i (show ((↑(List.map u8t cs).length : Int) : Int) = (↑cs.length : Int) by simp)
          let t2 : Tp pr := .i (show (IntKind.i64.wrap ((↑bs.length : Int) + (↑cs.length : Int)) : Int) = (sm : Int) from hw)
          let t3 : Tp pr := .b (show (decide (sm > (1048576 : Int))) = false by (simp; omega))
          let t10 : Tp pr := .b (show (r.fst != r.fst) = false by simp)
          let t11 : Tp pr := .b (show (r.snd.fst != r.snd.fst) = false by simp)
          let t12 : Tp pr := .b (show (r.snd.snd != r.snd.snd) = false by simp)
          let t27 : Tp pr := .b (show (decide (D.snd = D.snd)) = true by simp)
          exact .tpe [t0, t1, t2, t3, .a (e1), .a (r1), .a (r2), .a (k1), .a (k2), .b (rfl : false = false), t10, t11, t12, .b (rfl : false = false), .b (rfl : false = false), .a (k3), .b (rfl : false = false), .a (gc), .b (rfl : false = false), .b (rfl : true = true), .b (rfl : false = false), .b (rfl : false = false), .b (rfl : true = true), .b (rfl : false = false), .a (e2), .a (d1), .a (d2), t27] (Out.val (V.t (T.bool (decide (D.fst = D.fst)))) []) (by kernel_rfl) (congrArg (fun x => Out.val (V.t (T.bool x)) []) (show (decide (D.fst = D.fst)) = (true) by simp))
      | some o =>
        have k1 := CheckI2_ev l o hg hd
        have k2 := CheckS2_ev l o hg hd
        have ck := dep_ok hg hd
        have ckl := ck.len
        have hlg := (goodCode_len hg).2
        have k3 := sameInts_ev o (by omega)
        obtain ⟨q, hq⟩ := chk_head hg ck
        have mb := mostI_bd ck
        have mb1 := mb.1
        have k4 := ckL_ev o cs (mostI o) (by omega) mb.2 o [] rfl
        have k5 := DepthI_ev l (by omega)
        rw [show depN l = (mostI o, true) by unfold depN; rw [if_pos hg, hd]] at k5
        dsimp only at k5
        have k6 : lkp (o.map intt) 0 = some [T.int .i64 0] := by rw [hq]; rfl
        have k7 : o.length = q.length + 1 := by rw [hq]; simp
        clear mb ck hq
        generalize mostI o = M at *
        cases hr : runBc l lo f with
        | none =>
          rw [hr] at r1 r2
          let t0 : Tp pr := .i (show ((↑(List.map u8t bs).length : Int) : Int) = (↑bs.length : Int) by simp)
          let t1 : Tp pr := .i (show ((↑(List.map u8t cs).length : Int) : Int) = (↑cs.length : Int) by simp)
          let t2 : Tp pr := .i (show (IntKind.i64.wrap ((↑bs.length : Int) + (↑cs.length : Int)) : Int) = (sm : Int) from hw)
          let t3 : Tp pr := .b (show (decide (sm > (1048576 : Int))) = false by (simp; omega))
          let t26 : Tp pr := .b (show (decide (M > (30 : Int))) = false by (simp; omega))
          let t27 : Tp pr := .i (show ((↑(List.map intt o).length : Int) : Int) = (↑o.length : Int) by simp)
          let t28 : Tp pr := .i (show ((↑(List.map Bc.ce l).length : Int) : Int) = (↑l.length : Int) by simp)
          let t29 : Tp pr := .b (show ((↑o.length : Int) != (↑l.length : Int)) = false by (simp; omega))
          let t30 : Tp pr := .g .row (show (lkp (List.map intt o) (0 : Int)) = some ([T.int IntKind.i64 (0 : Int)]) from k6)
          let t32 : Tp pr := .i (show ((↑(List.map intt o).length : Int) : Int) = (↑o.length : Int) by simp)
          let t37 : Tp pr := .b (show (decide (D.snd = D.snd)) = true by simp)
          exact .tpe [t0, t1, t2, t3, .a (e1), .a (r1), .a (r2), .a (k1), .a (k2), .b (rfl : false = false), .b (rfl : false = false), .b (rfl : false = false), .b (rfl : false = false), .b (rfl : false = false), .b (rfl : false = false), .a (k3), .b (rfl : false = false), .a (gc), .b (rfl : false = false), .b (rfl : false = false), .b (rfl : false = false), .b (rfl : false = false), .b (rfl : true = true), .b (rfl : true = true), .a (k5), .b (rfl : false = false), t26, t27, t28, t29, t30, .b (rfl : false = false), t32, .a (k4), .a (e2), .a (d1), .a (d2), t37] (Out.val (V.t (T.bool (decide (D.fst = D.fst)))) []) (by kernel_rfl) (congrArg (fun x => Out.val (V.t (T.bool x)) []) (show (decide (D.fst = D.fst)) = (true) by simp))
        | some r =>
          have rc := run_chk hg hd hr
          have rc1 := rc.1
          have rc2 := rc.2
          rw [hr] at r1 r2
          dsimp only at r1 r2
          let t0 : Tp pr := .i (show ((↑(List.map u8t bs).length : Int) : Int) = (↑bs.length : Int) by simp)
          let t1 : Tp pr := .i (show ((↑(List.map u8t cs).length : Int) : Int) = (↑cs.length : Int) by simp)
          let t2 : Tp pr := .i (show (IntKind.i64.wrap ((↑bs.length : Int) + (↑cs.length : Int)) : Int) = (sm : Int) from hw)
          let t3 : Tp pr := .b (show (decide (sm > (1048576 : Int))) = false by (simp; omega))
          let t10 : Tp pr := .b (show (r.fst != r.fst) = false by simp)
          let t11 : Tp pr := .b (show (r.snd.fst != r.snd.fst) = false by simp)
          let t12 : Tp pr := .b (show (r.snd.snd != r.snd.snd) = false by simp)
          let t21 : Tp pr := .b (show (decide (r.fst = (5 : Int))) = false by (simp; omega))
          let t22 : Tp pr := .b (show (decide (r.snd.snd > f)) = false by (simp; omega))
          let t27 : Tp pr := .b (show (decide (M > (30 : Int))) = false by (simp; omega))
          let t28 : Tp pr := .i (show ((↑(List.map intt o).length : Int) : Int) = (↑o.length : Int) by simp)
          let t29 : Tp pr := .i (show ((↑(List.map Bc.ce l).length : Int) : Int) = (↑l.length : Int) by simp)
          let t30 : Tp pr := .b (show ((↑o.length : Int) != (↑l.length : Int)) = false by (simp; omega))
          let t31 : Tp pr := .g .row (show (lkp (List.map intt o) (0 : Int)) = some ([T.int IntKind.i64 (0 : Int)]) from k6)
          let t33 : Tp pr := .i (show ((↑(List.map intt o).length : Int) : Int) = (↑o.length : Int) by simp)
          let t38 : Tp pr := .b (show (decide (D.snd = D.snd)) = true by simp)
          exact .tpe [t0, t1, t2, t3, .a (e1), .a (r1), .a (r2), .a (k1), .a (k2), .b (rfl : false = false), t10, t11, t12, .b (rfl : false = false), .b (rfl : false = false), .a (k3), .b (rfl : false = false), .a (gc), .b (rfl : false = false), .b (rfl : true = true), .b (rfl : true = true), t21, t22, .b (rfl : true = true), .b (rfl : true = true), .a (k5), .b (rfl : false = false), t27, t28, t29, t30, t31, .b (rfl : false = false), t33, .a (k4), .a (e2), .a (d1), .a (d2), t38] (Out.val (V.t (T.bool (decide (D.fst = D.fst)))) []) (by kernel_rfl) (congrArg (fun x => Out.val (V.t (T.bool x)) []) (show (decide (D.fst = D.fst)) = (true) by simp))
  · let t0 : Tp pr := .i (show ((↑(List.map u8t bs).length : Int) : Int) = (↑bs.length : Int) by simp)
    let t1 : Tp pr := .i (show ((↑(List.map u8t cs).length : Int) : Int) = (↑cs.length : Int) by simp)
    let t2 : Tp pr := .i (show (IntKind.i64.wrap ((↑bs.length : Int) + (↑cs.length : Int)) : Int) = (sm : Int) from hw)
    let t3 : Tp pr := .b (show (decide (sm > (1048576 : Int))) = true by (simp; omega))
    exact .tp [t0, t1, t2, t3] (by kernel_rfl)
theorem u8_bd {x : Int} (h : (Lit.int .u8 x).wf = true) : 0 ≤ x ∧ x ≤ 255 := by
  have e1 : IntKind.u8.min = 0 := by decide
  have e2 : IntKind.u8.max = 255 := by decide
  simp only [Lit.wf] at h
  rw [e1, e2] at h
  simpa using h
theorem law_ev (bs : List Int) (h1 : bs.length ≤ 9223372036854775807 ∧ ∀ x ∈ bs, (Lit.int .u8 x).wf = true) (cs : List Int) (h2 : cs.length ≤ 9223372036854775807 ∧ ∀ x ∈ cs, (Lit.int .u8 x).wf = true) :
    Ev pr (.call 8 [bsq bs, bsq cs] []) (.val (.t (.bool true)) []) :=
  law0_ev bs cs (fun b hb => u8_bd (h1.2 b hb)) (fun b hb => u8_bd (h2.2 b hb)) h1.1 h2.1
end Go.Ev
