import Derived.Test.YtipolnpffmfmmabKFnSpill5
/- Spans that are drawn with their places. -/
namespace Go.Ev
set_option linter.unusedVariables false
set_option linter.unusedSimpArgs false
open Go.Proofs
set_option maxRecDepth 100000
set_option linter.unusedVariables false
set_option linter.unusedSimpArgs false
set_option maxHeartbeats 2000000
abbrev bsq (bs : List Int) : V := .t (.seq 1 (bs.map u8t))
@[local simp] theorem ints_takeE (l : List Int) : List.take l.length (ints l) = ints l := List.take_of_length_le (by simp)
theorem mul01 {u v : Int} (hu : 0 ≤ u ∧ (u < 2 ∨ u = 0)) (hv : 0 ≤ v ∧ (v < 2 ∨ v = 0)) : 0 ≤ u * v ∧ u * v ≤ 1 := by
  have h1 : u = 0 ∨ u = 1 := by omega
  rcases h1 with rfl | rfl
  · simp
  · omega
theorem plL_ex (bs : List Int) (hb : okB bs) (l : List Span) (hl : l.length ≤ 31) : ∀ (k : Nat) (p : List Int) (a s : Int), 0 ≤ a → a + 3 * k ≤ 40000000 → p.length + k = l.length →
    ∃ (p' : List Int) (a' s' : Int), p'.length = l.length ∧ (a ≤ a' ∧ a' ≤ a + 3 * k) ∧
    Ev pr (.loop (lq pr 66 0) (at_ [(0, .ptr 0 1 0 0), (4, spq l), (5, .vec 1 p.length 1 0 p.length), (23, i64 l.length), (24, i64 p.length)] [cuB bs a s, .vec true 1 (ints p)] 1))
      (.exit 0 (at_ [(4, spq l), (5, .vec 1 p'.length 1 0 p'.length)] [cuB bs a' s', .vec true 1 (ints p')] 1))
  | 0, p, a, s, h0, h1, h2 => by
    refine ⟨p, a, s, by omega, by omega, ?_⟩
    unfold cuB
    let t0 : Tp pr := .b (show (decide ((↑p.length : Int) < (↑l.length : Int))) = false by (simp; omega))
    exact .tp [t0] (by kernel_rfl)
  | k + 1, p, a, s, h0, h1, h2 => by
    obtain ⟨u, a1, s1, hu, ha1, e1⟩ := pick_ex bs hb a s h0 (by omega) 5 (by omega)
    obtain ⟨v, a2, s2, hv, ha2, e2⟩ := pick_ex bs hb a1 s1 (by omega) (by omega) 2 (by omega)
    obtain ⟨w, a3, s3, hw, ha3, e3⟩ := pick_ex bs hb a2 s2 (by omega) (by omega) 2 (by omega)
    obtain ⟨p', a', s', hl2, ha, ih⟩ := plL_ex bs hb l hl k (p ++ [u - v * w]) a3 s3 (by omega) (by omega) (by simp; omega)
    have hvw := mul01 hv hw
    refine ⟨p', a', s', hl2, by omega, ?_⟩
    rw [ints_snocE, List.length_append, List.length_singleton] at ih
    unfold cuB at *
    let t0 : Tp pr := .b (show (decide ((↑p.length : Int) < (↑l.length : Int))) = true by (simp; omega))
    let t4 : Tp pr := .i (wrap_i64 (a := v * w) (by omega) (by omega))
    let t5 : Tp pr := .i (wrap_i64 (a := u - v * w) (by omega) (by omega))
    let t7 : Tp pr := .m (show (decide ((ints p).length = p.length ∧ (0 : Nat) + p.length ≤ p.length ∧ p.length + (1 : Nat) ≤ (4294967296 : Nat))) = true by (simp; omega))
    let t8 : Tp pr := .b (show (decide (p.length + (1 : Nat) ≤ p.length)) = false by simp)
    let t10 : Tp pr := .n .crows (show ((List.take p.length (ints p)).append (List.take (1 : Nat) (List.drop (0 : Nat) [[C.t (T.int IntKind.i64 (u - v * w))]]))) = ints p ++ [[C.t (T.int IntKind.i64 (u - v * w))]] by simp)
    let t11 : Tp pr := .i (wrap_i64 (a := (↑p.length : Int) + (1 : Int)) (by omega) (by omega))
    exact .tp [t0, .a (e1), .a (e2), .a (e3), t4, t5, .m (rfl : true = true), t7, t8, .c (rfl : (p.length + (1 : Nat)) = _), t10, t11, .a (ih)] (by kernel_rfl)
theorem placed_ex (bs : List Int) (hb : okB bs) (a s : Int) (h0 : 0 ≤ a) (h1 : a ≤ 1000000) :
    ∃ (l : List Span) (p : List Int) (a' s' : Int), l.length ≤ 31 ∧ p.length ≤ 31 ∧ (a ≤ a' ∧ a' ≤ a + 1000) ∧ Ev pr (.call 66 [.ptr 0 1 0 0] [cuB bs a s]) (.val (.tup [spq l, isq p]) [cuB bs a' s']) := by
  obtain ⟨l, a1, s1, hl, ha1, e1⟩ := spans_ex bs hb a s h0 h1
  cases hg : goodSp l
  · have g := ScanSn_ev l (by omega) hg
    obtain ⟨p, a2, s2, hp, ha2, e2⟩ := plL_ex bs hb l hl l.length [] a1 s1 (by omega) (by omega) (by simp)
    rw [show ints [] = [] from rfl, show (([] : List Int).length) = 0 from rfl] at e2
    refine ⟨l, p, a2, s2, hl, by omega, by omega, ?_⟩
    unfold cuB at *
    let t4 : Tp pr := .i (show ((↑(List.map Span.ce l).length : Int) : Int) = (↑l.length : Int) by simp)
    let t6 : Tp pr := .m (show (decide ((ints p).length = p.length ∧ (0 : Nat) + p.length ≤ p.length)) = true by simp)
    let t7 : Tp pr := .n .rows (show (List.map (fun x => List.map C.fz x) (List.take p.length (List.drop (0 : Nat) (ints p)))) = List.map intt p by simp)
    exact .tp [.a (e1), .a (g), .b (rfl : true = true), .b (rfl : true = true), t4, .a (e2), t6, t7] (by kernel_rfl)
  · have g := ScanS0_ev l (by omega) hg
    obtain ⟨b, a2, s2, ha2, e2⟩ := one_ex bs hb a1 s1 (by omega) (by omega) 4 (by omega)
    cases b
    · refine ⟨l, (scanS l).1, a2, s2, hl, ?_, by omega, ?_⟩
      · rw [scanS, scanGo_len]
        simpa using hl
      · generalize scanS l = Z at *
        unfold cuB at *
        exact .tp [.a (e1), .a (g), .b (rfl : false = false), .a (e2), .b (rfl : false = false)] (by kernel_rfl)
    · obtain ⟨p, a3, s3, hp, ha3, e3⟩ := plL_ex bs hb l hl l.length [] a2 s2 (by omega) (by omega) (by simp)
      rw [show ints [] = [] from rfl, show (([] : List Int).length) = 0 from rfl] at e3
      refine ⟨l, p, a3, s3, hl, by omega, by omega, ?_⟩
      generalize scanS l = Z at *
      unfold cuB at *
      let t5 : Tp pr := .i (show ((↑(List.map Span.ce l).length : Int) : Int) = (↑l.length : Int) by simp)
      let t7 : Tp pr := .m (show (decide ((ints p).length = p.length ∧ (0 : Nat) + p.length ≤ p.length)) = true by simp)
      let t8 : Tp pr := .n .rows (show (List.map (fun x => List.map C.fz x) (List.take p.length (List.drop (0 : Nat) (ints p)))) = List.map intt p by simp)
      exact .tp [.a (e1), .a (g), .b (rfl : false = false), .a (e2), .b (rfl : true = true), t5, .a (e3), t7, t8] (by kernel_rfl)
theorem drawGS_ex (bs : List Int) (hb : okB bs) : ∃ l : List Span, l.length ≤ 31 ∧ Ev pr (.call 63 [bsq bs] []) (.val (spq l) []) := by
  obtain ⟨l, a1, s1, hl, ha1, e1⟩ := spans_ex bs hb 0 0 (by omega) (by omega)
  refine ⟨l, hl, ?_⟩
  unfold cuB at *
  exact .tp [.a (e1)] (by kernel_rfl)
theorem drawSc_ex (bs : List Int) (hb : okB bs) : ∃ l : List Span, l.length ≤ 31 ∧ Ev pr (.call 16 [bsq bs] []) (.val (spq l) []) := by
  obtain ⟨l, hl, e1⟩ := drawGS_ex bs hb
  refine ⟨l, hl, ?_⟩
  exact .tp [.a (e1)] (by kernel_rfl)
theorem drawIP_ex (bs : List Int) (hb : okB bs) : ∃ (l : List Span) (p : List Int), l.length ≤ 31 ∧ p.length ≤ 31 ∧ Ev pr (.call 21 [bsq bs] []) (.val (.tup [spq l, isq p]) []) := by
  obtain ⟨l, p, a1, s1, hl, hp, ha1, e1⟩ := placed_ex bs hb 0 0 (by omega) (by omega)
  refine ⟨l, p, hl, hp, ?_⟩
  unfold cuB at *
  exact .tp [.a (e1)] (by kernel_rfl)
theorem drawFA_ex (bs : List Int) (hb : okB bs) : ∃ (l : List Span) (p : List Int) (w : Int), l.length ≤ 31 ∧ p.length ≤ 31 ∧ Ev pr (.call 23 [bsq bs] []) (.val (.tup [spq l, isq p, i64 w]) []) := by
  obtain ⟨l, p, a1, s1, hl, hp, ha1, e1⟩ := placed_ex bs hb 0 0 (by omega) (by omega)
  obtain ⟨w, a2, s2, hw, ha2, e2⟩ := among_ex bs hb a1 s1 (by omega) (by omega) [-1, 0, 5, 10, 15, 1000, 1001] (by simp) (by simp)
  refine ⟨l, p, w, hl, hp, ?_⟩
  unfold cuB at *
  let t2 : Tp pr := .n .rows (show (List.map (fun x => List.map C.fz x) (List.take (7 : Nat) (List.drop (0 : Nat) [[C.t (T.int IntKind.i64 (-1 : Int))], [C.t (T.int IntKind.i64 (0 : Int))], [C.t (T.int IntKind.i64 (5 : Int))], [C.t (T.int IntKind.i64 (10 : Int))], [C.t (T.int IntKind.i64 (15 : Int))], [C.t (T.int IntKind.i64 (1000 : Int))], [C.t (T.int IntKind.i64 (1001 : Int))]]))) = [[(C.t (T.int IntKind.i64 (-1 : Int))).fz], [(C.t (T.int IntKind.i64 (0 : Int))).fz], [(C.t (T.int IntKind.i64 (5 : Int))).fz], [(C.t (T.int IntKind.i64 (10 : Int))).fz], [(C.t (T.int IntKind.i64 (15 : Int))).fz], [(C.t (T.int IntKind.i64 (1000 : Int))).fz], [(C.t (T.int IntKind.i64 (1001 : Int))).fz]] by simp)
  exact .tp [.a (e1), .m (rfl : true = true), t2, .a (e2)] (by kernel_rfl)
theorem drawSp_ex (bs : List Int) (hb : okB bs) : ∃ (l : List Span) (m : Int), l.length ≤ 31 ∧ (0 ≤ m ∧ m ≤ 31) ∧ Ev pr (.call 9 [bsq bs] []) (.val (.tup [spq l, i64 m]) []) := by
  obtain ⟨l, a1, s1, hl, ha1, e1⟩ := spans_ex bs hb 0 0 (by omega) (by omega)
  obtain ⟨m, a2, s2, hm, ha2, e2⟩ := among_ex bs hb a1 s1 (by omega) (by omega) [0, 1, 2, 3, 30, 31] (by simp) (by simp)
  refine ⟨l, m, hl, by simp at hm; omega, ?_⟩
  unfold cuB at *
  let t2 : Tp pr := .n .rows (show (List.map (fun x => List.map C.fz x) (List.take (6 : Nat) (List.drop (0 : Nat) [[C.t (T.int IntKind.i64 (0 : Int))], [C.t (T.int IntKind.i64 (1 : Int))], [C.t (T.int IntKind.i64 (2 : Int))], [C.t (T.int IntKind.i64 (3 : Int))], [C.t (T.int IntKind.i64 (30 : Int))], [C.t (T.int IntKind.i64 (31 : Int))]]))) = [[(C.t (T.int IntKind.i64 (0 : Int))).fz], [(C.t (T.int IntKind.i64 (1 : Int))).fz], [(C.t (T.int IntKind.i64 (2 : Int))).fz], [(C.t (T.int IntKind.i64 (3 : Int))).fz], [(C.t (T.int IntKind.i64 (30 : Int))).fz], [(C.t (T.int IntKind.i64 (31 : Int))).fz]] by simp)
  exact .tp [.a (e1), .m (rfl : true = true), t2, .a (e2)] (by kernel_rfl)
end Go.Ev

/- Numbers az the laws compare them; what the law of places counts. -/
namespace Go.Ev
set_option linter.unusedVariables false
set_option linter.unusedSimpArgs false
open Go.Proofs
set_option maxRecDepth 100000
set_option linter.unusedVariables false
set_option linter.unusedSimpArgs false
set_option maxHeartbeats 2000000
theorem sameIL_ev (l : List Int) (hl : l.length ≤ 1048576) : ∀ (r m : List Int), l = m ++ r →
    Ev pr (.loop (lq pr 12 0) (at_ [(0, isq l), (1, isq l), (12, i64 l.length), (13, i64 m.length)] [] 0)) (.exit 0 (at_ [] [] 0))
  | [], m, he => by
    have hll : (l.length : Int) = m.length := by simp [he]
    let t0 : Tp pr := .b (show (decide ((↑m.length : Int) < (↑l.length : Int))) = false by (simp; omega))
    exact .tp [t0] (by kernel_rfl)
  | x :: r, m, he => by
    have hll : (l.length : Int) = m.length + 1 + r.length := by simp [he]; omega
    have hg : lkp (l.map intt) (m.length : Int) = some [T.int .i64 x] := by rw [he]; simp [intt]
    have ih := sameIL_ev l hl r (m ++ [x]) (by simp [he])
    let t0 : Tp pr := .b (show (decide ((↑m.length : Int) < (↑l.length : Int))) = true by (simp; omega))
    let t3 : Tp pr := .g .row (show (lkp (List.map intt l) (↑m.length : Int)) = some ([T.int IntKind.i64 x]) from hg)
    let t8 : Tp pr := .g .row (show (lkp (List.map intt l) (↑m.length : Int)) = some ([T.int IntKind.i64 x]) from hg)
    let t13 : Tp pr := .i (wrap_i64 (a := (↑m.length : Int) + (1 : Int)) (by omega) (by omega))
    let t14 : Tp pr := .a (Ev.castq (congrArg (fun x => Q.loop (lq pr (12 : FuncId) (0 : Nat)) (at_ [((0 : Nat), isq l), ((1 : Nat), isq l), ((12 : Nat), i64 (↑l.length : Int)), ((13 : Nat), i64 x)] [] (0 : Nat))) (show ((↑(m ++ [x]).length : Int)) = ((↑m.length : Int) + (1 : Int)) by simp)) (ih))
    exact .tp [t0, .m (rfl : true = true), .m (rfl : true = true), t3, .m (rfl : true = true), .m (rfl : true = true), .m (rfl : true = true), .m (rfl : true = true), t8, .m (rfl : true = true), .m (rfl : true = true), .m (rfl : true = true), .b (show (x != x) = false by simp), t13, t14] (by kernel_rfl)
theorem sameInts_ev (l : List Int) (hl : l.length ≤ 1048576) : Ev pr (.call 12 [isq l, isq l] []) (.val (bl true) []) := by
  have g := sameIL_ev l hl l [] rfl
  let t0 : Tp pr := .i (show ((↑(List.map intt l).length : Int) : Int) = (↑l.length : Int) by simp)
  let t1 : Tp pr := .i (show ((↑(List.map intt l).length : Int) : Int) = (↑l.length : Int) by simp)
  let t2 : Tp pr := .b (show ((↑l.length : Int) != (↑l.length : Int)) = false by simp)
  let t3 : Tp pr := .i (show ((↑(List.map intt l).length : Int) : Int) = (↑l.length : Int) by simp)
  exact .tp [t0, t1, t2, t3, .a (g)] (by kernel_rfl)
theorem sameILN_ev : Ev pr (.loop (lq pr 12 0) (at_ [(0, .t .nils), (1, isq []), (12, i64 0), (13, i64 0)] [] 0)) (.exit 0 (at_ [] [] 0)) := by
  exact .tp [.b (rfl : false = false)] (by kernel_rfl)
theorem sameIntsN_ev : Ev pr (.call 12 [.t .nils, isq []] []) (.val (bl true) []) := by
  have g := sameILN_ev
  let t0 : Tp pr := .i (rfl : ((0 : Int) : Int) = (0 : Int))
  let t1 : Tp pr := .i (rfl : ((0 : Int) : Int) = (0 : Int))
  let t3 : Tp pr := .i (rfl : ((0 : Int) : Int) = (0 : Int))
  exact .tp [t0, t1, .b (rfl : false = false), t3, .a (g)] (by kernel_rfl)
theorem hasL_ev (l : List Int) (n : Int) (hl : l.length ≤ 1048576) : ∀ (rest done : List Int), l = done ++ rest →
    Ev pr (.loop (lq pr 13 0) (at_ [(1, i64 n), (7, isq l), (8, i64 l.length), (9, i64 done.length)] [] 0))
      (bif rest.contains n then .ret (at_ [(4, bl true)] [] 0) else .exit 0 (at_ [] [] 0))
  | [], done, he => by
    have hll : (l.length : Int) = done.length := by simp [he]
    let t0 : Tp pr := .b (show (decide ((↑done.length : Int) < (↑l.length : Int))) = false by (simp; omega))
    exact .tp [t0] (by kernel_rfl)
  | x :: rest, done, he => by
    have hll : (l.length : Int) = done.length + 1 + rest.length := by simp [he]; omega
    have hg : lkp (l.map intt) (done.length : Int) = some [T.int .i64 x] := by subst he; simp [intt]
    have ih := hasL_ev l n hl rest (done ++ [x]) (by simp [he])
    by_cases hx : x = n
    · subst hx
      rw [show (x :: rest).contains x = true by simp]
      let t0 : Tp pr := .b (show (decide ((↑done.length : Int) < (↑l.length : Int))) = true by (simp; omega))
      let t1 : Tp pr := .g .row (show (lkp (List.map intt l) (↑done.length : Int)) = some ([T.int IntKind.i64 x]) from hg)
      let t2 : Tp pr := .b (show (decide (x = x)) = true by simp)
      exact .tp [t0, t1, t2] (by kernel_rfl)
    · have hx2 : ¬ n = x := fun e => hx e.symm
      rw [show (x :: rest).contains n = rest.contains n by simp [hx2]]
      cases hr : rest.contains n with
      | true => rw [hr] at ih; (
        let t0 : Tp pr := .b (show (decide ((↑done.length : Int) < (↑l.length : Int))) = true by (simp; omega))
        let t1 : Tp pr := .g .row (show (lkp (List.map intt l) (↑done.length : Int)) = some ([T.int IntKind.i64 x]) from hg)
        let t2 : Tp pr := .b (show (decide (x = n)) = false by (simp; omega))
        let t3 : Tp pr := .i (wrap_i64 (a := (↑done.length : Int) + (1 : Int)) (by omega) (by omega))
        let t4 : Tp pr := .a (Ev.castq (congrArg (fun x => Q.loop (lq pr (13 : FuncId) (0 : Nat)) (at_ [((1 : Nat), i64 n), ((7 : Nat), isq l), ((8 : Nat), i64 (↑l.length : Int)), ((9 : Nat), i64 x)] [] (0 : Nat))) (show ((↑(done ++ [x]).length : Int)) = ((↑done.length : Int) + (1 : Int)) by simp)) (ih))
        exact .tp [t0, t1, t2, t3, t4] (by kernel_rfl))
      | false => rw [hr] at ih; (
        let t0 : Tp pr := .b (show (decide ((↑done.length : Int) < (↑l.length : Int))) = true by (simp; omega))
        let t1 : Tp pr := .g .row (show (lkp (List.map intt l) (↑done.length : Int)) = some ([T.int IntKind.i64 x]) from hg)
        let t2 : Tp pr := .b (show (decide (x = n)) = false by (simp; omega))
        let t3 : Tp pr := .i (wrap_i64 (a := (↑done.length : Int) + (1 : Int)) (by omega) (by omega))
        let t4 : Tp pr := .a (Ev.castq (congrArg (fun x => Q.loop (lq pr (13 : FuncId) (0 : Nat)) (at_ [((1 : Nat), i64 n), ((7 : Nat), isq l), ((8 : Nat), i64 (↑l.length : Int)), ((9 : Nat), i64 x)] [] (0 : Nat))) (show ((↑(done ++ [x]).length : Int)) = ((↑done.length : Int) + (1 : Int)) by simp)) (ih))
        exact .tp [t0, t1, t2, t3, t4] (by kernel_rfl))
theorem has_ev (l : List Int) (n : Int) (hl : l.length ≤ 1048576) : Ev pr (.call 13 [isq l, i64 n] []) (.val (bl (l.contains n)) []) := by
  have h := hasL_ev l n hl l [] rfl
  cases hr : l.contains n with
  | true => rw [hr] at h; (
    let t0 : Tp pr := .i (show ((↑(List.map intt l).length : Int) : Int) = (↑l.length : Int) by simp)
    exact .tp [t0, .a (h)] (by kernel_rfl))
  | false => rw [hr] at h; (
    let t0 : Tp pr := .i (show ((↑(List.map intt l).length : Int) : Int) = (↑l.length : Int) by simp)
    exact .tp [t0, .a (h)] (by kernel_rfl))
end Go.Ev

/- The loops of the law of what is left out. -/
namespace Go.Ev
set_option linter.unusedVariables false
set_option linter.unusedSimpArgs false
open Go.Proofs
set_option maxRecDepth 100000
set_option linter.unusedVariables false
set_option linter.unusedSimpArgs false
set_option maxHeartbeats 2000000
def fsts (K : List (Span × Int)) : List Span := K.map fun a => a.1
def snds (K : List (Span × Int)) : List Int := K.map fun a => a.2
@[local simp] theorem fsts_len (K : List (Span × Int)) : (fsts K).length = K.length := by simp [fsts]
@[local simp] theorem snds_len (K : List (Span × Int)) : (snds K).length = K.length := by simp [snds]
theorem spc_fsts (K : List (Span × Int)) (x : Span) (q : Int) : spc (fsts (K ++ [(x, q)])) = (spc (fsts K)).append [[C.t (.int .i64 x.from_), C.t (.int .i64 x.to_)]] := by simp [fsts, spc, Span.cc]
theorem ints_snds (K : List (Span × Int)) (x : Span) (q : Int) : ints (snds (K ++ [(x, q)])) = (ints (snds K)).append [[C.t (.int .i64 q)]] := by simp [snds, ints, intc]
@[local simp] theorem take_fsts (K : List (Span × Int)) : List.take K.length (spc (fsts K)) = spc (fsts K) := List.take_of_length_le (by simp [fsts_len])
@[local simp] theorem take_snds (K : List (Span × Int)) : List.take K.length (ints (snds K)) = ints (snds K) := List.take_of_length_le (by simp [snds_len])
@[local simp] theorem len_fsts (K : List (Span × Int)) : (spc (fsts K)).length = K.length := by simp [fsts_len]
@[local simp] theorem len_snds (K : List (Span × Int)) : (ints (snds K)).length = K.length := by simp [snds_len]
attribute [local simp] ints_takeE
theorem spL0_ev (l : List Span) (p g cs : List Int) (most : Int) (hl : l.length ≤ 1000) (hp : p.length = l.length) (hgl : g.length ≤ 1000)
    (hg : ∀ i : Nat, i < l.length → g.contains (i : Int) = (p.getD i 0 == -1)) (hlt : ∀ i : Nat, i < l.length → (0 ≤ p.getD i 0 ∨ p.getD i 0 = -1) ∧ p.getD i 0 < most) : ∀ (rest pre : List Span) (rp pp : List Int) (K : List (Span × Int)),
    l = pre ++ rest → p = pp ++ rp → pp.length = pre.length → K.length ≤ pre.length →
    Ev pr (.loop (lq pr 3 0) (at_ [(1, bsq cs), (5, spq l), (6, i64 most), (7, .vec 0 p.length 1 0 p.length), (8, .vec 1 g.length 1 0 g.length), (13, .vec 2 K.length 2 0 K.length), (14, .vec 3 K.length 1 0 K.length), (70, spq l), (71, i64 l.length), (72, i64 pre.length)]
        [.vec true 1 (ints p), .vec true 1 (ints g), .vec true 2 (spc (fsts K)), .vec true 1 (ints (snds K))] 0))
      (.exit 0 (at_ [(1, bsq cs), (5, spq l), (6, i64 most), (13, .vec 0 (K ++ keptZ rest rp).length 2 0 (K ++ keptZ rest rp).length), (14, .vec 1 (K ++ keptZ rest rp).length 1 0 (K ++ keptZ rest rp).length)]
        [.vec true 2 (spc (fsts (K ++ keptZ rest rp))), .vec true 1 (ints (snds (K ++ keptZ rest rp)))] 0))
  | [], pre, rp, pp, K, h1, h2, h3, h4 => by
    have hll : (l.length : Int) = pre.length := by simp [h1]
    rw [show keptZ [] rp = [] from rfl, List.append_nil]
    let t0 : Tp pr := .b (show (decide ((↑pre.length : Int) < (↑l.length : Int))) = false by (simp; omega))
    exact .tp [t0] (by kernel_rfl)
  | x :: rest, pre, [], pp, K, h1, h2, h3, h4 => by
    rw [h1, h2] at hp
    simp at hp
    omega
  | x :: rest, pre, q :: rp, pp, K, h1, h2, h3, h4 => by
    have hll : (l.length : Int) = pre.length + 1 + rest.length := by simp [h1]; omega
    have hlp : pre.length < p.length := by omega
    have g1 : lkp (l.map Span.ce) (pre.length : Int) = some x.ce := by rw [h1]; simp
    have g2 : (ints p)[pre.length]? = some [C.t (.int .i64 q)] := by rw [h2, ← h3]; simp [ints, intc]
    have eq : p.getD pre.length 0 = q := by rw [h2, ← h3]; simp [List.getD_eq_getElem?_getD]
    have a1 := hg pre.length (by omega)
    have a2 := hlt pre.length (by omega)
    rw [eq] at a1 a2
    have hh := has_ev g pre.length (by omega)
    rw [a1] at hh
    rw [keptZ_cons]
    by_cases c : 0 ≤ q
    · have e1 : (q == -1) = false := by simp; omega
      have ih := spL0_ev l p g cs most hl hp hgl hg hlt rest (pre ++ [x]) rp (pp ++ [q]) (K ++ [(x, q)]) (by simp [h1]) (by simp [h2]) (by simp [h3]) (by simp; omega)
      rw [e1] at hh
      rw [if_pos c, show K ++ (x, q) :: keptZ rest rp = K ++ [(x, q)] ++ keptZ rest rp by simp]
      generalize K ++ [(x, q)] ++ keptZ rest rp = Z at *
      rw [spc_fsts, ints_snds, List.length_append, List.length_singleton] at ih
      let t0 : Tp pr := .b (show (decide ((↑pre.length : Int) < (↑l.length : Int))) = true by (simp; omega))
      let t1 : Tp pr := .g .row (show (lkp (List.map Span.ce l) (↑pre.length : Int)) = some (x.ce) from g1)
      let t4 : Tp pr := .m (show (decide ((ints g).length = g.length ∧ (0 : Nat) + g.length ≤ g.length)) = true by simp)
      let t5 : Tp pr := .n .rows (show (List.map (fun x => List.map C.fz x) (List.take g.length (List.drop (0 : Nat) (ints g)))) = List.map intt g by simp)
      let t11 : Tp pr := .m (show (decide ((0 : Int) ≤ (↑pre.length : Int) ∧ (↑pre.length : Int).toNat < p.length)) = true by simp [*])
      let t12 : Tp pr := .c (show ((0 : Nat) + (↑pre.length : Int).toNat : Nat) = pre.length by omega)
      let t14 : Tp pr := .m (show (decide ((ints p).length = p.length)) = true by simp)
      let t15 : Tp pr := .g .crow (show ((ints p)[pre.length]?) = some ([C.t (T.int IntKind.i64 q)]) from g2)
      let t20 : Tp pr := .b (show (!decide (false = decide (q = (-1 : Int)))) = false by (simp; omega))
      let t23 : Tp pr := .m (show (decide ((0 : Int) ≤ (↑pre.length : Int) ∧ (↑pre.length : Int).toNat < p.length)) = true by simp [*])
      let t24 : Tp pr := .c (show ((0 : Nat) + (↑pre.length : Int).toNat : Nat) = pre.length by omega)
      let t26 : Tp pr := .m (show (decide ((ints p).length = p.length)) = true by simp)
      let t27 : Tp pr := .g .crow (show ((ints p)[pre.length]?) = some ([C.t (T.int IntKind.i64 q)]) from g2)
      let t32 : Tp pr := .b (show (decide (q ≥ most)) = false by (simp; omega))
      let t33 : Tp pr := .m (show (decide ((0 : Int) ≤ (↑pre.length : Int) ∧ (↑pre.length : Int).toNat < p.length)) = true by simp [*])
      let t34 : Tp pr := .c (show ((0 : Nat) + (↑pre.length : Int).toNat : Nat) = pre.length by omega)
      let t35 : Tp pr := .m (show (decide ((ints p).length = p.length)) = true by simp)
      let t36 : Tp pr := .g .crow (show ((ints p)[pre.length]?) = some ([C.t (T.int IntKind.i64 q)]) from g2)
      let t37 : Tp pr := .b (show (decide (q ≥ (0 : Int))) = true by (simp; omega))
      let t39 : Tp pr := .m (show (decide ((spc (fsts K)).length = K.length ∧ (0 : Nat) + K.length ≤ K.length ∧ K.length + (1 : Nat) ≤ (4294967296 : Nat))) = true by (simp; omega))
      let t40 : Tp pr := .b (show (decide (K.length + (1 : Nat) ≤ K.length)) = false by simp)
      let t42 : Tp pr := .n .crows (show ((List.take K.length (spc (fsts K))).append (List.take (1 : Nat) (List.drop (0 : Nat) [[C.t (T.int IntKind.i64 x.from_), C.t (T.int IntKind.i64 x.to_)]]))) = spc (fsts K) ++ [[C.t (T.int IntKind.i64 x.from_), C.t (T.int IntKind.i64 x.to_)]] by simp)
      let t43 : Tp pr := .m (show (decide ((0 : Int) ≤ (↑pre.length : Int) ∧ (↑pre.length : Int).toNat < p.length)) = true by simp [*])
      let t44 : Tp pr := .c (show ((0 : Nat) + (↑pre.length : Int).toNat : Nat) = pre.length by omega)
      let t45 : Tp pr := .m (show (decide ((ints p).length = p.length)) = true by simp)
      let t46 : Tp pr := .g .crow (show ((ints p)[pre.length]?) = some ([C.t (T.int IntKind.i64 q)]) from g2)
      let t48 : Tp pr := .m (show (decide ((ints (snds K)).length = K.length ∧ (0 : Nat) + K.length ≤ K.length ∧ K.length + (1 : Nat) ≤ (4294967296 : Nat))) = true by (simp; omega))
      let t49 : Tp pr := .b (show (decide (K.length + (1 : Nat) ≤ K.length)) = false by simp)
      let t51 : Tp pr := .n .crows (show ((List.take K.length (ints (snds K))).append (List.take (1 : Nat) (List.drop (0 : Nat) [[C.t (T.int IntKind.i64 q)]]))) = ints (snds K) ++ [[C.t (T.int IntKind.i64 q)]] by simp)
      let t52 : Tp pr := .i (wrap_i64 (a := (↑pre.length : Int) + (1 : Int)) (by omega) (by omega))
      let t53 : Tp pr := .a (Ev.castq (congrArg (fun x_1 => Q.loop (lq pr (3 : FuncId) (0 : Nat)) (at_ [((1 : Nat), bsq cs), ((5 : Nat), spq l), ((6 : Nat), i64 most), ((7 : Nat), V.vec (0 : Nat) p.length (1 : Nat) (0 : Nat) p.length), ((8 : Nat), V.vec (1 : Nat) g.length (1 : Nat) (0 : Nat) g.length), ((13 : Nat), V.vec (2 : Nat) (K.length + (1 : Nat)) (2 : Nat) (0 : Nat) (K.length + (1 : Nat))), ((14 : Nat), V.vec (3 : Nat) (K.length + (1 : Nat)) (1 : Nat) (0 : Nat) (K.length + (1 : Nat))), ((70 : Nat), spq l), ((71 : Nat), i64 (↑l.length : Int)), ((72 : Nat), i64 x_1)] [Ob.vec true (1 : Nat) (ints p), Ob.vec true (1 : Nat) (ints g), Ob.vec true (2 : Nat) ((spc (fsts K)).append [[C.t (T.int IntKind.i64 x.from_), C.t (T.int IntKind.i64 x.to_)]]), Ob.vec true (1 : Nat) ((ints (snds K)).append [[C.t (T.int IntKind.i64 q)]])] (0 : Nat))) (show ((↑(pre ++ [x]).length : Int)) = ((↑pre.length : Int) + (1 : Int)) by simp)) (ih))
      exact .tp [t0, t1, .m (rfl : true = true), .m (rfl : true = true), t4, t5, .a (hh), .m (rfl : true = true), .m (rfl : true = true), .m (rfl : true = true), .m (rfl : true = true), t11, t12, .m (rfl : true = true), t14, t15, .m (rfl : true = true), .m (rfl : true = true), .m (rfl : true = true), .m (rfl : true = true), t20, .m (rfl : true = true), .m (rfl : true = true), t23, t24, .m (rfl : true = true), t26, t27, .m (rfl : true = true), .m (rfl : true = true), .m (rfl : true = true), .m (rfl : true = true), t32, t33, t34, t35, t36, t37, .m (rfl : true = true), t39, t40, .c (rfl : (K.length + (1 : Nat)) = _), t42, t43, t44, t45, t46, .m (rfl : true = true), t48, t49, .c (rfl : (K.length + (1 : Nat)) = _), t51, t52, t53] (by kernel_rfl)
    · have e0 : q = -1 := by omega
      have e1 : (q == -1) = true := by simp [e0]
      have ih := spL0_ev l p g cs most hl hp hgl hg hlt rest (pre ++ [x]) rp (pp ++ [q]) K (by simp [h1]) (by simp [h2]) (by simp [h3]) (by simp; omega)
      rw [e1] at hh
      rw [if_neg c]
      generalize K ++ keptZ rest rp = Z at *
      let t0 : Tp pr := .b (show (decide ((↑pre.length : Int) < (↑l.length : Int))) = true by (simp; omega))
      let t1 : Tp pr := .g .row (show (lkp (List.map Span.ce l) (↑pre.length : Int)) = some (x.ce) from g1)
      let t4 : Tp pr := .m (show (decide ((ints g).length = g.length ∧ (0 : Nat) + g.length ≤ g.length)) = true by simp)
      let t5 : Tp pr := .n .rows (show (List.map (fun x => List.map C.fz x) (List.take g.length (List.drop (0 : Nat) (ints g)))) = List.map intt g by simp)
      let t11 : Tp pr := .m (show (decide ((0 : Int) ≤ (↑pre.length : Int) ∧ (↑pre.length : Int).toNat < p.length)) = true by simp [*])
      let t12 : Tp pr := .c (show ((0 : Nat) + (↑pre.length : Int).toNat : Nat) = pre.length by omega)
      let t14 : Tp pr := .m (show (decide ((ints p).length = p.length)) = true by simp)
      let t15 : Tp pr := .g .crow (show ((ints p)[pre.length]?) = some ([C.t (T.int IntKind.i64 q)]) from g2)
      let t20 : Tp pr := .b (show (!decide (true = decide (q = (-1 : Int)))) = false by (simp; omega))
      let t23 : Tp pr := .m (show (decide ((0 : Int) ≤ (↑pre.length : Int) ∧ (↑pre.length : Int).toNat < p.length)) = true by simp [*])
      let t24 : Tp pr := .c (show ((0 : Nat) + (↑pre.length : Int).toNat : Nat) = pre.length by omega)
      let t26 : Tp pr := .m (show (decide ((ints p).length = p.length)) = true by simp)
      let t27 : Tp pr := .g .crow (show ((ints p)[pre.length]?) = some ([C.t (T.int IntKind.i64 q)]) from g2)
      let t32 : Tp pr := .b (show (decide (q ≥ most)) = false by (simp; omega))
      let t33 : Tp pr := .m (show (decide ((0 : Int) ≤ (↑pre.length : Int) ∧ (↑pre.length : Int).toNat < p.length)) = true by simp [*])
      let t34 : Tp pr := .c (show ((0 : Nat) + (↑pre.length : Int).toNat : Nat) = pre.length by omega)
      let t35 : Tp pr := .m (show (decide ((ints p).length = p.length)) = true by simp)
      let t36 : Tp pr := .g .crow (show ((ints p)[pre.length]?) = some ([C.t (T.int IntKind.i64 q)]) from g2)
      let t37 : Tp pr := .b (show (decide (q ≥ (0 : Int))) = false by (simp; omega))
      let t38 : Tp pr := .i (wrap_i64 (a := (↑pre.length : Int) + (1 : Int)) (by omega) (by omega))
      let t39 : Tp pr := .a (Ev.castq (congrArg (fun x => Q.loop (lq pr (3 : FuncId) (0 : Nat)) (at_ [((1 : Nat), bsq cs), ((5 : Nat), spq l), ((6 : Nat), i64 most), ((7 : Nat), V.vec (0 : Nat) p.length (1 : Nat) (0 : Nat) p.length), ((8 : Nat), V.vec (1 : Nat) g.length (1 : Nat) (0 : Nat) g.length), ((13 : Nat), V.vec (2 : Nat) K.length (2 : Nat) (0 : Nat) K.length), ((14 : Nat), V.vec (3 : Nat) K.length (1 : Nat) (0 : Nat) K.length), ((70 : Nat), spq l), ((71 : Nat), i64 (↑l.length : Int)), ((72 : Nat), i64 x)] [Ob.vec true (1 : Nat) (ints p), Ob.vec true (1 : Nat) (ints g), Ob.vec true (2 : Nat) (spc (fsts K)), Ob.vec true (1 : Nat) (ints (snds K))] (0 : Nat))) (show ((↑(pre ++ [x]).length : Int)) = ((↑pre.length : Int) + (1 : Int)) by simp)) (ih))
      exact .tp [t0, t1, .m (rfl : true = true), .m (rfl : true = true), t4, t5, .a (hh), .m (rfl : true = true), .m (rfl : true = true), .m (rfl : true = true), .m (rfl : true = true), t11, t12, .m (rfl : true = true), t14, t15, .m (rfl : true = true), .m (rfl : true = true), .m (rfl : true = true), .m (rfl : true = true), t20, .m (rfl : true = true), .m (rfl : true = true), t23, t24, .m (rfl : true = true), t26, t27, .m (rfl : true = true), .m (rfl : true = true), .m (rfl : true = true), .m (rfl : true = true), t32, t33, t34, t35, t36, t37, t38, t39] (by kernel_rfl)
theorem spL1_ev (l : List Span) (cs : List Int) (hcs : cs.length ≤ 9223372036854775807) (hcb : ∀ b ∈ cs, 0 ≤ b ∧ b ≤ 255) (most : Int) (N : Nat) (R : List (List C)) (hl : l.length ≤ 1000) : ∀ (rest pre out : List Span), l = pre ++ rest → out.length ≤ pre.length →
    Ev pr (.loop (lq pr 3 1) (at_ [(1, bsq cs), (6, i64 most), (13, .vec 0 N 2 0 N), (19, .vec 1 out.length 2 0 out.length), (123, spq l), (124, i64 l.length), (125, i64 pre.length)] [.vec true 2 R, .vec true 2 (spc out)] 0))
      (.exit 2 (at_ [(6, i64 most), (13, .vec 0 N 2 0 N), (19, .vec 1 (out ++ othG (moreB cs) rest pre.length).length 2 0 (out ++ othG (moreB cs) rest pre.length).length)] [.vec true 2 R, .vec true 2 (spc (out ++ othG (moreB cs) rest pre.length))] 0))
  | [], pre, out, h1, h2 => by
    have hll : (l.length : Int) = pre.length := by simp [h1]
    rw [show othG (moreB cs) [] pre.length = [] from rfl, List.append_nil]
    let t0 : Tp pr := .b (show (decide ((↑pre.length : Int) < (↑l.length : Int))) = false by (simp; omega))
    exact .tp [t0] (by kernel_rfl)
  | x :: rest, pre, out, h1, h2 => by
    have hll : (l.length : Int) = pre.length + 1 + rest.length := by simp [h1]; omega
    have g1 : lkp (l.map Span.ce) (pre.length : Int) = some x.ce := by rw [h1]; simp
    have ih1 := spL1_ev l cs hcs hcb most N R hl rest (pre ++ [x]) (out ++ [x]) (by simp [h1]) (by simp; omega)
    have ih2 := spL1_ev l cs hcs hcb most N R hl rest (pre ++ [x]) out (by simp [h1]) (by simp; omega)
    rw [show (pre ++ [x]).length = pre.length + 1 by simp] at ih1 ih2
    have ex : spc (out ++ [x]) = (spc out).append [[C.t (.int .i64 x.from_), C.t (.int .i64 x.to_)]] := by simp [spc, Span.cc]
    rw [othG]
    by_cases c1 : (pre.length : Int) ≥ cs.length
    · rw [if_pos (by simp [moreB, c1]), show out ++ x :: othG (moreB cs) rest (pre.length + 1) = out ++ [x] ++ othG (moreB cs) rest (pre.length + 1) by simp]
      generalize out ++ [x] ++ othG (moreB cs) rest (pre.length + 1) = Z at *
      rw [ex, List.length_append, List.length_singleton] at ih1
      let t0 : Tp pr := .b (show (decide ((↑pre.length : Int) < (↑l.length : Int))) = true by (simp; omega))
      let t1 : Tp pr := .g .row (show (lkp (List.map Span.ce l) (↑pre.length : Int)) = some (x.ce) from g1)
      let t2 : Tp pr := .i (show ((↑(List.map u8t cs).length : Int) : Int) = (↑cs.length : Int) by simp)
      let t3 : Tp pr := .b (show (decide ((↑pre.length : Int) ≥ (↑cs.length : Int))) = true by (simp; omega))
      let t6 : Tp pr := .m (show (decide ((spc out).length = out.length ∧ (0 : Nat) + out.length ≤ out.length ∧ out.length + (1 : Nat) ≤ (4294967296 : Nat))) = true by (simp; omega))
      let t7 : Tp pr := .b (show (decide (out.length + (1 : Nat) ≤ out.length)) = false by simp)
      let t9 : Tp pr := .n .crows (show ((List.take out.length (spc out)).append (List.take (1 : Nat) (List.drop (0 : Nat) [[C.t (T.int IntKind.i64 x.from_), C.t (T.int IntKind.i64 x.to_)]]))) = spc out ++ [[C.t (T.int IntKind.i64 x.from_), C.t (T.int IntKind.i64 x.to_)]] by simp)
      let t10 : Tp pr := .i (wrap_i64 (a := (↑pre.length : Int) + (1 : Int)) (by omega) (by omega))
      exact .tp [t0, t1, t2, t3, .b (rfl : true = true), .m (rfl : true = true), t6, t7, .c (rfl : (out.length + (1 : Nat)) = _), t9, t10, .a (ih1)] (by kernel_rfl)
    · have hlc : pre.length < cs.length := by omega
      have g2 : lkp (cs.map u8t) (pre.length : Int) = some [T.int .u8 cs[pre.length]] := by simp [lkp, u8t, hlc]
      have hb := hcb _ (List.getElem_mem hlc)
      have hd : cs.getD pre.length 0 = cs[pre.length] := by simp [List.getD_eq_getElem?_getD, hlc]
      have hmb : moreB cs (pre.length : Int) = decide (cs[pre.length].tmod 3 > 0) := by
        unfold moreB
        rw [show ((pre.length : Int)).toNat = pre.length by simp, hd]
        simp
        intro h
        omega
      rw [hmb]
      generalize cs[pre.length] = b at *
      have hm0 : 0 ≤ b.tmod 3 := Int.tmod_nonneg _ hb.1
      have hm1 : b.tmod 3 < 3 := Int.tmod_lt_of_pos _ (by omega)
      by_cases c2 : b.tmod 3 > 0
      · rw [if_pos (by simpa using c2), show out ++ x :: othG (moreB cs) rest (pre.length + 1) = out ++ [x] ++ othG (moreB cs) rest (pre.length + 1) by simp]
        generalize out ++ [x] ++ othG (moreB cs) rest (pre.length + 1) = Z at *
        rw [ex, List.length_append, List.length_singleton] at ih1
        let t0 : Tp pr := .b (show (decide ((↑pre.length : Int) < (↑l.length : Int))) = true by (simp; omega))
        let t1 : Tp pr := .g .row (show (lkp (List.map Span.ce l) (↑pre.length : Int)) = some (x.ce) from g1)
        let t2 : Tp pr := .i (show ((↑(List.map u8t cs).length : Int) : Int) = (↑cs.length : Int) by simp)
        let t3 : Tp pr := .b (show (decide ((↑pre.length : Int) ≥ (↑cs.length : Int))) = false by (simp; omega))
        let t4 : Tp pr := .g .row (show (lkp (List.map u8t cs) (↑pre.length : Int)) = some ([T.int IntKind.u8 b]) from g2)
        let t7 : Tp pr := .b (show (decide (b.tmod (3 : Int) > (0 : Int))) = true by (simp; omega))
        let t9 : Tp pr := .m (show (decide ((spc out).length = out.length ∧ (0 : Nat) + out.length ≤ out.length ∧ out.length + (1 : Nat) ≤ (4294967296 : Nat))) = true by (simp; omega))
        let t10 : Tp pr := .b (show (decide (out.length + (1 : Nat) ≤ out.length)) = false by simp)
        let t12 : Tp pr := .n .crows (show ((List.take out.length (spc out)).append (List.take (1 : Nat) (List.drop (0 : Nat) [[C.t (T.int IntKind.i64 x.from_), C.t (T.int IntKind.i64 x.to_)]]))) = spc out ++ [[C.t (T.int IntKind.i64 x.from_), C.t (T.int IntKind.i64 x.to_)]] by simp)
        let t13 : Tp pr := .i (wrap_i64 (a := (↑pre.length : Int) + (1 : Int)) (by omega) (by omega))
        exact .tp [t0, t1, t2, t3, t4, .m (rfl : true = true), .i (rfl : (b.tmod (3 : Int)) = _), t7, .m (rfl : true = true), t9, t10, .c (rfl : (out.length + (1 : Nat)) = _), t12, t13, .a (ih1)] (by kernel_rfl)
      · rw [if_neg (by simpa using c2)]
        generalize out ++ othG (moreB cs) rest (pre.length + 1) = Z at *
        let t0 : Tp pr := .b (show (decide ((↑pre.length : Int) < (↑l.length : Int))) = true by (simp; omega))
        let t1 : Tp pr := .g .row (show (lkp (List.map Span.ce l) (↑pre.length : Int)) = some (x.ce) from g1)
        let t2 : Tp pr := .i (show ((↑(List.map u8t cs).length : Int) : Int) = (↑cs.length : Int) by simp)
        let t3 : Tp pr := .b (show (decide ((↑pre.length : Int) ≥ (↑cs.length : Int))) = false by (simp; omega))
        let t4 : Tp pr := .g .row (show (lkp (List.map u8t cs) (↑pre.length : Int)) = some ([T.int IntKind.u8 b]) from g2)
        let t7 : Tp pr := .b (show (decide (b.tmod (3 : Int) > (0 : Int))) = false by (simp; omega))
        let t8 : Tp pr := .i (wrap_i64 (a := (↑pre.length : Int) + (1 : Int)) (by omega) (by omega))
        exact .tp [t0, t1, t2, t3, t4, .m (rfl : true = true), .i (rfl : (b.tmod (3 : Int)) = _), t7, t8, .a (ih2)] (by kernel_rfl)
end Go.Ev

/- The law of what is left out. -/
namespace Go.Ev
set_option linter.unusedVariables false
set_option linter.unusedSimpArgs false
open Go.Proofs
set_option maxRecDepth 100000
set_option linter.unusedVariables false
set_option linter.unusedSimpArgs false
set_option maxHeartbeats 8000000
attribute [local simp] ints_takeE take_fsts take_snds fsts_len snds_len
@[local simp] theorem spc_takeE (l : List Span) : List.take l.length (spc l) = spc l := List.take_of_length_le (by simp)
theorem law0_ev (bs cs : List Int) (hb : ∀ b ∈ bs, 0 ≤ b ∧ b ≤ 255) (hc : ∀ b ∈ cs, 0 ≤ b ∧ b ≤ 255) (h1 : bs.length ≤ 9223372036854775807) (h2 : cs.length ≤ 9223372036854775807) :
    Ev pr (.call 3 [bsq bs, bsq cs] []) (.val (bl true) []) := by
  obtain ⟨sm, hw⟩ : ∃ m, m = IntKind.i64.wrap ((bs.length : Int) + cs.length) := ⟨_, rfl⟩
  have hw := hw.symm
  by_cases hlen : sm ≤ 1048576
  · obtain ⟨l, most, hl, hmost, e1⟩ := drawSp_ex bs ⟨h1, hb⟩
    have nn := sameIntsN_ev
    by_cases g : goodSp l = true
    · cases hm : mostOk most
      · have a1 := SpillI2_ev l most (by omega) g hm
        have a2 := SpillS2_ev l most (by omega) g hm
        let t0 : Tp pr := .i (show ((↑(List.map u8t bs).length : Int) : Int) = (↑bs.length : Int) by simp)
        let t1 : Tp pr := .i (show ((↑(List.map u8t cs).length : Int) : Int) = (↑cs.length : Int) by simp)
        let t2 : Tp pr := .i (show (IntKind.i64.wrap ((↑bs.length : Int) + (↑cs.length : Int)) : Int) = (sm : Int) from hw)
        let t3 : Tp pr := .b (show (decide (sm > (1048576 : Int))) = false by (simp; omega))
        let t13 : Tp pr := .i (rfl : ((0 : Int) : Int) = (0 : Int))
        exact .tp [t0, t1, t2, t3, .a (e1), .a (a1), .a (a2), .b (rfl : false = false), .a (nn), .b (rfl : false = false), .a (nn), .b (rfl : false = false), .b (rfl : true = true), t13] (by kernel_rfl)
      · have a1 := SpillI0_ev l most (by omega) g hm
        have a2 := SpillS0_ev l most (by omega) g hm
        have hl30 := (good_of g).1
        have hpl := spillS_len l most
        have hgl := negsG_len (spillS l most) 0
        have a3 := sameInts_ev (spillS l most) (by omega)
        have a4 := sameInts_ev (negsG (spillS l most) 0) (by omega)
        have sf := spill_facts g hmost.1
        have hneg : ∀ i : Nat, i < l.length → (0 ≤ (spillS l most).getD i 0 ∨ (spillS l most).getD i 0 = -1) ∧ (spillS l most).getD i 0 < most := fun i hi => by
          have := sf.1 (i : Int) (by omega) (by omega)
          simpa [pa] using this
        have hgone : ∀ i : Nat, i < l.length → (negsG (spillS l most) 0).contains (i : Int) = ((spillS l most).getD i 0 == -1) := fun i hi => by
          have hn := (hneg i hi).1
          rw [Bool.eq_iff_iff, List.contains_iff_mem, negsG_mem, beq_iff_eq]
          constructor
          · rintro ⟨j, _, hj, hlt⟩
            obtain rfl : i = j := by omega
            omega
          · intro he
            exact ⟨i, by omega, by omega, by omega⟩
        have b1 := spL0_ev l (spillS l most) (negsG (spillS l most) 0) cs most (by omega) hpl (by omega) hgone hneg l [] (spillS l most) [] [] rfl rfl rfl (by simp)
        have hkl := (keptZ_sub hpl).length_le
        rw [List.length_map] at hkl
        have hkg : goodSp (fsts (keptZ l (spillS l most))) = true := good_sub (keptZ_sub hpl) g
        have b2 := IsPlI_ev (fsts (keptZ l (spillS l most))) (snds (keptZ l (spillS l most))) (by simp; omega) hkg (by simp)
        rw [show placedB (fsts (keptZ l (spillS l most))) (snds (keptZ l (spillS l most))) = true from spill_kept g hmost.1] at b2
        have b3 := spL1_ev l cs h2 hc most (keptZ l (spillS l most)).length (spc (fsts (keptZ l (spillS l most)))) (by omega) l [] [] rfl (by simp)
        have hog : goodSp (othG (moreB cs) l 0) = true := good_sub (othG_sub _ _ _) g
        have hol := othG_le (moreB cs) l 0
        have b4 := MostI_ev (othG (moreB cs) l 0) (by omega) hog
        have b5 := spill_law (most := most) g (moreB cs)
        have b6 := mostP_ok hog
        have b61 := b6.1
        rw [show ([] : List (Span × Int)) ++ keptZ l (spillS l most) = keptZ l (spillS l most) from rfl] at b1
        rw [show ([] : List Span) ++ othG (moreB cs) l ([] : List Span).length = othG (moreB cs) l 0 from rfl] at b3
        rw [show spc (fsts ([] : List (Span × Int))) = [] from rfl, show ints (snds ([] : List (Span × Int))) = [] from rfl] at b1
        rw [show spc ([] : List Span) = [] from rfl] at b3
        clear sf hneg hgone b6 hkg hog hkl
        generalize negsG (spillS l most) 0 = G at *
        generalize keptZ l (spillS l most) = K at *
        generalize spillS l most = P at *
        generalize mostP (othG (moreB cs) l 0) = Y at *
        generalize othG (moreB cs) l 0 = O at *
        by_cases c : Y.1 > most
        · let t0 : Tp pr := .i (show ((↑(List.map u8t bs).length : Int) : Int) = (↑bs.length : Int) by simp)
          let t1 : Tp pr := .i (show ((↑(List.map u8t cs).length : Int) : Int) = (↑cs.length : Int) by simp)
          let t2 : Tp pr := .i (show (IntKind.i64.wrap ((↑bs.length : Int) + (↑cs.length : Int)) : Int) = (sm : Int) from hw)
          let t3 : Tp pr := .b (show (decide (sm > (1048576 : Int))) = false by (simp; omega))
          let t8 : Tp pr := .m (show (decide ((ints P).length = P.length ∧ (0 : Nat) + P.length ≤ P.length)) = true by simp)
          let t9 : Tp pr := .n .rows (show (List.map (fun x => List.map C.fz x) (List.take P.length (List.drop (0 : Nat) (ints P)))) = List.map intt P by simp)
          let t13 : Tp pr := .m (show (decide ((ints G).length = G.length ∧ (0 : Nat) + G.length ≤ G.length)) = true by simp)
          let t14 : Tp pr := .n .rows (show (List.map (fun x => List.map C.fz x) (List.take G.length (List.drop (0 : Nat) (ints G)))) = List.map intt G by simp)
          let t19 : Tp pr := .i (show ((↑(List.map Span.ce l).length : Int) : Int) = (↑l.length : Int) by simp)
          let t21 : Tp pr := .m (show (decide ((spc (fsts K)).length = K.length ∧ (0 : Nat) + K.length ≤ K.length)) = true by simp)
          let t22 : Tp pr := .n .rows (show (List.map (fun x => List.map C.fz x) (List.take K.length (List.drop (0 : Nat) (spc (fsts K))))) = List.map Span.ce (fsts K) by simp)
          let t23 : Tp pr := .m (show (decide ((ints (snds K)).length = K.length ∧ (0 : Nat) + K.length ≤ K.length)) = true by simp)
          let t24 : Tp pr := .n .rows (show (List.map (fun x => List.map C.fz x) (List.take K.length (List.drop (0 : Nat) (ints (snds K))))) = List.map intt (snds K) by simp)
          let t29 : Tp pr := .i (show ((↑(List.map Span.ce l).length : Int) : Int) = (↑l.length : Int) by simp)
          let t31 : Tp pr := .m (show (decide ((spc O).length = O.length ∧ (0 : Nat) + O.length ≤ O.length)) = true by simp)
          let t32 : Tp pr := .n .rows (show (List.map (fun x => List.map C.fz x) (List.take O.length (List.drop (0 : Nat) (spc O)))) = List.map Span.ce O by simp)
          let t36 : Tp pr := .b (show (decide (Y.fst > most)) = true by (simp; omega))
          exact .tp [t0, t1, t2, t3, .a (e1), .a (a1), .a (a2), .b (rfl : false = false), t8, t9, .a (a3), .m (rfl : true = true), .b (rfl : false = false), t13, t14, .a (a4), .m (rfl : true = true), .b (rfl : false = false), .b (rfl : false = false), t19, .a (b1), t21, t22, t23, t24, .a (b2), .m (rfl : true = true), .b (rfl : false = false), .b (rfl : false = false), t29, .a (b3), t31, t32, .a (b4), .m (rfl : true = true), .b (rfl : true = true), t36] (by kernel_rfl)
        · have c2 : (O.length : Int) ≤ K.length := by omega
          let t0 : Tp pr := .i (show ((↑(List.map u8t bs).length : Int) : Int) = (↑bs.length : Int) by simp)
          let t1 : Tp pr := .i (show ((↑(List.map u8t cs).length : Int) : Int) = (↑cs.length : Int) by simp)
          let t2 : Tp pr := .i (show (IntKind.i64.wrap ((↑bs.length : Int) + (↑cs.length : Int)) : Int) = (sm : Int) from hw)
          let t3 : Tp pr := .b (show (decide (sm > (1048576 : Int))) = false by (simp; omega))
          let t8 : Tp pr := .m (show (decide ((ints P).length = P.length ∧ (0 : Nat) + P.length ≤ P.length)) = true by simp)
          let t9 : Tp pr := .n .rows (show (List.map (fun x => List.map C.fz x) (List.take P.length (List.drop (0 : Nat) (ints P)))) = List.map intt P by simp)
          let t13 : Tp pr := .m (show (decide ((ints G).length = G.length ∧ (0 : Nat) + G.length ≤ G.length)) = true by simp)
          let t14 : Tp pr := .n .rows (show (List.map (fun x => List.map C.fz x) (List.take G.length (List.drop (0 : Nat) (ints G)))) = List.map intt G by simp)
          let t19 : Tp pr := .i (show ((↑(List.map Span.ce l).length : Int) : Int) = (↑l.length : Int) by simp)
          let t21 : Tp pr := .m (show (decide ((spc (fsts K)).length = K.length ∧ (0 : Nat) + K.length ≤ K.length)) = true by simp)
          let t22 : Tp pr := .n .rows (show (List.map (fun x => List.map C.fz x) (List.take K.length (List.drop (0 : Nat) (spc (fsts K))))) = List.map Span.ce (fsts K) by simp)
          let t23 : Tp pr := .m (show (decide ((ints (snds K)).length = K.length ∧ (0 : Nat) + K.length ≤ K.length)) = true by simp)
          let t24 : Tp pr := .n .rows (show (List.map (fun x => List.map C.fz x) (List.take K.length (List.drop (0 : Nat) (ints (snds K))))) = List.map intt (snds K) by simp)
          let t29 : Tp pr := .i (show ((↑(List.map Span.ce l).length : Int) : Int) = (↑l.length : Int) by simp)
          let t31 : Tp pr := .m (show (decide ((spc O).length = O.length ∧ (0 : Nat) + O.length ≤ O.length)) = true by simp)
          let t32 : Tp pr := .n .rows (show (List.map (fun x => List.map C.fz x) (List.take O.length (List.drop (0 : Nat) (spc O)))) = List.map Span.ce O by simp)
          let t36 : Tp pr := .b (show (decide (Y.fst > most)) = false by (simp; omega))
          exact .tpe [t0, t1, t2, t3, .a (e1), .a (a1), .a (a2), .b (rfl : false = false), t8, t9, .a (a3), .m (rfl : true = true), .b (rfl : false = false), t13, t14, .a (a4), .m (rfl : true = true), .b (rfl : false = false), .b (rfl : false = false), t19, .a (b1), t21, t22, t23, t24, .a (b2), .m (rfl : true = true), .b (rfl : false = false), .b (rfl : false = false), t29, .a (b3), t31, t32, .a (b4), .m (rfl : true = true), .b (rfl : true = true), t36, .i (rfl : ((↑O.length : Int)) = _), .i (rfl : ((↑K.length : Int)) = _)] (Out.val (V.t (T.bool (decide ((↑O.length : Int) ≤ (↑K.length : Int))))) []) (by kernel_rfl) (congrArg (fun x => Out.val (V.t (T.bool x)) []) (show (decide ((↑O.length : Int) ≤ (↑K.length : Int))) = (true) by simp [*]))
    · have g : goodSp l = false := by simpa using g
      have a1 := SpillI1_ev l most (by omega) g
      have a2 := SpillS1_ev l most (by omega) g
      let t0 : Tp pr := .i (show ((↑(List.map u8t bs).length : Int) : Int) = (↑bs.length : Int) by simp)
      let t1 : Tp pr := .i (show ((↑(List.map u8t cs).length : Int) : Int) = (↑cs.length : Int) by simp)
      let t2 : Tp pr := .i (show (IntKind.i64.wrap ((↑bs.length : Int) + (↑cs.length : Int)) : Int) = (sm : Int) from hw)
      let t3 : Tp pr := .b (show (decide (sm > (1048576 : Int))) = false by (simp; omega))
      let t13 : Tp pr := .i (rfl : ((0 : Int) : Int) = (0 : Int))
      exact .tp [t0, t1, t2, t3, .a (e1), .a (a1), .a (a2), .b (rfl : false = false), .a (nn), .b (rfl : false = false), .a (nn), .b (rfl : false = false), .b (rfl : true = true), t13] (by kernel_rfl)
  · let t0 : Tp pr := .i (show ((↑(List.map u8t bs).length : Int) : Int) = (↑bs.length : Int) by simp)
    let t1 : Tp pr := .i (show ((↑(List.map u8t cs).length : Int) : Int) = (↑cs.length : Int) by simp)
    let t2 : Tp pr := .i (show (IntKind.i64.wrap ((↑bs.length : Int) + (↑cs.length : Int)) : Int) = (sm : Int) from hw)
    let t3 : Tp pr := .b (show (decide (sm > (1048576 : Int))) = true by (simp; omega))
    exact .tp [t0, t1, t2, t3] (by kernel_rfl)
theorem u8_bd {x : Int} (h : (Lit.int .u8 x).wf = true) : 0 ≤ x ∧ x ≤ 255 := by
  have e1 : IntKind.u8.min = 0 := by decide
  have e2 : IntKind.u8.max = 255 := by decide
  simp only [Lit.wf] at h
  rw [e1, e2] at h
  simpa using h
theorem law_ev (bs : List Int) (h1 : bs.length ≤ 9223372036854775807 ∧ ∀ x ∈ bs, (Lit.int .u8 x).wf = true) (cs : List Int) (h2 : cs.length ≤ 9223372036854775807 ∧ ∀ x ∈ cs, (Lit.int .u8 x).wf = true) :
    Ev pr (.call 3 [bsq bs, bsq cs] []) (.val (.t (.bool true)) []) :=
  law0_ev bs cs (fun b hb => u8_bd (h1.2 b hb)) (fun b hb => u8_bd (h2.2 b hb)) h1.1 h2.1
end Go.Ev
