-- WRITTEN BY mp.py, a program of this session, out of the translation's print. Not trusted: Lean checks it.
import Derived.Test.YtcbgiccgiegdbabPFnExactCodeBytesx0
import Derived.Test.YtcbgiccgiegdbabPFnExactCodeBytesx3
import Derived.Test.YtcbgiccgiegdbabPFnExactCodeBytesx4
namespace Go.Proofs.Ytcbgiccgiegdbab.PFnExactCodeBytes
open Go.RowKit Go.Proofs.YtcbgiccgiegdbabW.PrintWords Go.Proofs.YtcbgiccgiegdbabW.PrintLast Go.Proofs.YtcbgiccgiegdbabW.PrintMore
attribute [local go_sem] max2_int min2_int max_two min_two max_three min_three max_four min_four   -- for this text's walks alone
set_option linter.unusedVariables false
set_option linter.unusedSimpArgs false

/-! ### impl_GoodCode_1: function 68 -/
theorem bcell {W w1 : World} (hb : Below W.heap.size W w1) : (∀ b o, b < W.heap.size → w1.cell? ⟨b, o, none⟩ = W.cell? ⟨b, o, none⟩) ∧ (∀ b o, b < W.heap.size → w1.frozen? ⟨b, o, none⟩ = W.frozen? ⟨b, o, none⟩) :=
  ⟨fun b o h => hb.cell (p := ⟨b, o, none⟩) h, fun b o h => hb.frozen (p := ⟨b, o, none⟩) h⟩
def inB (a b c : Int) : Bool := decide (b ≤ a) && decide (a ≤ c)
theorem within_f (a b c : Int) : impl_within.f a b c = some (inB a b c) := by
  unfold impl_within.f inB
  by_cases h : a ≥ b <;> simp [h] <;> omega
def strengthL (t : List UInt8) : Int × Bool × Bool :=
  if t = [124, 124] then (1, false, true) else if t = [38, 38] then (2, false, true) else if t = [61, 61] then (3, false, true) else if t = [33, 61] then (3, false, true) else if t = [60] then (4, false, true) else if t = [60, 61] then (4, false, true) else if t = [43] then (5, false, true) else if t = [45] then (5, false, true) else if t = [42] then (6, false, true) else if t = [47] then (6, false, true) else if t = [37] then (6, false, true) else if t = [60, 60] then (7, true, true) else (0, false, false)
theorem impl_StrengthOf_f (k : Nat) (a0 : ByteArray) : impl_StrengthOf.f (k + 4) a0 = some (strengthL a0.toList) := by
  unfold strengthL
  by_cases h0 : a0.toList = [124, 124]
  · simp [impl_StrengthOf.f, impl_StrengthOf.j0, impl_StrengthOf.j1, impl_StrengthOf.j2, impl_StrengthOf.j3, h0]
  by_cases h1 : a0.toList = [38, 38]
  · simp [impl_StrengthOf.f, impl_StrengthOf.j0, impl_StrengthOf.j1, impl_StrengthOf.j2, impl_StrengthOf.j3, h1]
  by_cases h2 : a0.toList = [61, 61]
  · simp [impl_StrengthOf.f, impl_StrengthOf.j0, impl_StrengthOf.j1, impl_StrengthOf.j2, impl_StrengthOf.j3, h2]
  by_cases h3 : a0.toList = [33, 61]
  · simp [impl_StrengthOf.f, impl_StrengthOf.j0, impl_StrengthOf.j1, impl_StrengthOf.j2, impl_StrengthOf.j3, h3]
  by_cases h4 : a0.toList = [60]
  · simp [impl_StrengthOf.f, impl_StrengthOf.j0, impl_StrengthOf.j1, impl_StrengthOf.j2, impl_StrengthOf.j3, h4]
  by_cases h5 : a0.toList = [60, 61]
  · simp [impl_StrengthOf.f, impl_StrengthOf.j0, impl_StrengthOf.j1, impl_StrengthOf.j2, impl_StrengthOf.j3, h5]
  by_cases h6 : a0.toList = [43]
  · simp [impl_StrengthOf.f, impl_StrengthOf.j0, impl_StrengthOf.j1, impl_StrengthOf.j2, impl_StrengthOf.j3, h6]
  by_cases h7 : a0.toList = [45]
  · simp [impl_StrengthOf.f, impl_StrengthOf.j0, impl_StrengthOf.j1, impl_StrengthOf.j2, impl_StrengthOf.j3, h7]
  by_cases h8 : a0.toList = [42]
  · simp [impl_StrengthOf.f, impl_StrengthOf.j0, impl_StrengthOf.j1, impl_StrengthOf.j2, impl_StrengthOf.j3, h8]
  by_cases h9 : a0.toList = [47]
  · simp [impl_StrengthOf.f, impl_StrengthOf.j0, impl_StrengthOf.j1, impl_StrengthOf.j2, impl_StrengthOf.j3, h9]
  by_cases h10 : a0.toList = [37]
  · simp [impl_StrengthOf.f, impl_StrengthOf.j0, impl_StrengthOf.j1, impl_StrengthOf.j2, impl_StrengthOf.j3, h10]
  by_cases h11 : a0.toList = [60, 60]
  · simp [impl_StrengthOf.f, impl_StrengthOf.j0, impl_StrengthOf.j1, impl_StrengthOf.j2, impl_StrengthOf.j3, h11]
  simp [impl_StrengthOf.f, impl_StrengthOf.j0, impl_StrengthOf.j1, impl_StrengthOf.j2, impl_StrengthOf.j3, h0, h1, h2, h3, h4, h5, h6, h7, h8, h9, h10, h11]
def isTwoB (t : List UInt8) : Bool := (strengthL t).2.2 && t != [38, 38] && t != [124, 124]
theorem impl_isTwo_f (k : Nat) (a0 : ByteArray) : impl_isTwo.f (k + 4) a0 = some (isTwoB a0.toList) := by
  unfold impl_isTwo.f isTwoB
  rw [impl_StrengthOf_f, Option.bind_some]
  cases h : (strengthL a0.toList).2.2
  · simp
  · by_cases h1 : a0.toList = [38, 38]
    · simp [h1]
    · simp [h1]
def bcGood (n : Int) (x : S63) : Bool :=
  if x.f0 = 4 then decide (x.f1 = 0) && isTwoB x.f2.toList
  else if x.f0 = 5 then decide (x.f1 = 0) && (x.f2.toList == [45] || x.f2.toList == [33])
  else if x.f2.toList ≠ [] then false
  else if x.f0 = 1 then inB x.f1 (-1000000000) 1000000000
  else if x.f0 = 2 ∨ x.f0 = 3 then inB x.f1 0 9
  else if x.f0 = 6 ∨ x.f0 = 7 then inB x.f1 0 (wrap64 (n - 1))
  else (x.f0 == 8 || x.f0 == 9) && x.f1 == 0
def bcBad (n : Int) (x : S63) : Bool := !bcGood n x
theorem bcOk_ev (n : Int) (x : S63) : ∃ k, impl_bcOk.f k x.f0 x.f1 x.f2 n = some (bcGood n x) := by
  refine ⟨9, ?_⟩
  unfold impl_bcOk.f bcGood
  rw [impl_isTwo_f 5, within_f, Option.bind_some]
  by_cases h4 : x.f0 = 4
  · by_cases h : x.f1 = 0 <;> simp [h4, h]
  by_cases h5 : x.f0 = 5
  · by_cases h : x.f1 = 0
    · by_cases g : x.f2.toList = [45] <;> simp [h5, h, g]
    · simp [h5, h]
  by_cases hn : x.f2.toList = []
  · by_cases h1 : x.f0 = 1
    · simp [h1, hn]
    by_cases h2 : x.f0 = 2
    · simp [h2, hn, impl_bcOk.j0, within_f]
    by_cases h3 : x.f0 = 3
    · simp [h3, hn, impl_bcOk.j0, within_f]
    by_cases h6 : x.f0 = 6
    · simp [h6, hn, impl_bcOk.j0, within_f]
    by_cases h7 : x.f0 = 7
    · simp [h7, hn, impl_bcOk.j0, within_f]
    by_cases h8 : x.f0 = 8
    · simp [h8, hn, impl_bcOk.j0]
    by_cases h9 : x.f0 = 9
    · simp [h9, hn, impl_bcOk.j0]
    simp [h1, h2, h3, h4, h5, h6, h7, h8, h9, hn, impl_bcOk.j0]
  · simp [h4, h5, hn]
set_option maxHeartbeats 8000000 in
set_option maxRecDepth 100000 in
theorem impl_GoodCode_1.calls (x : S63) (A1 : Option Addr) (n c1 : Nat) (g : Nat) (w : World) (hg : w.cell? ⟨g, 0, none⟩ = some (.slice A1 n c1)) :
    Calls Try.prog 68 #[.agg #[.int .i64 x.f0, .int .i64 x.f1, .string x.f2], .pointer (some ⟨g, 0, none⟩)] w fun e w' => e = .returned (.bool (bcBad n x)) ∧ Below w.heap.size w w' := by
  have hlt := World.block_lt_of_cell? w _ hg
  obtain ⟨k, hk⟩ := bcOk_ev n x
  have HX := Aside0.mk (fun W => impl_bcOk.calls k x.f0 x.f1 x.f2 n _ W hk)
  have hgn : (w.alloc (.cells #[.int .i64 x.f0, .int .i64 x.f1, .string x.f2] 63)).cell? ⟨g, 0, none⟩ = some (.slice A1 n c1) := ((below_alloc (Below.refl w.heap.size w) _).cell hlt).trans hg
  clear hlt hk
  go_enter Try.func68, Try.ntmps68
  go_wp2_with (go_at_call 69; refine (HX.out _).mono ?_; rintro e w1 ⟨rfl, hb⟩)
  go_ret
  exact ⟨rfl, below_then (below_alloc (Below.refl _ _) _) (by first | (simp; done) | (simp; omega)) hb⟩

/-! ### impl_GoodCode: function 39 -/
theorem GoodCode_contains (A0 : Option Addr) (c0 : Nat) (l0 : List S63) (g : Nat) (W : World) (hg : W.cell? ⟨g, 0, none⟩ = some (.slice A0 l0.length c0)) (hr : Kd.C k63 W A0 l0.length l0) (hc : l0.length ≤ c0) (hl : l0.length < 4611686018427387904) :
    Calls Try.prog 67 #[.slice A0 l0.length c0, .func (.func 68) #[] #[.pointer (some ⟨g, 0, none⟩)]] W fun e w' => e = .returned (.bool (l0.any (bcBad l0.length))) ∧ Below W.heap.size W w' :=
  slices_ContainsFunc_T63.calls 68 #[.pointer (some ⟨g, 0, none⟩)] (fun args w => enters_ Try.func68 (by kernel_rfl) rfl args w) (bcBad l0.length) A0 c0 l0 W hr hc hl
    (fun i h0 h1 W' hb => impl_GoodCode_1.calls _ A0 l0.length c0 g W' ((hb.cell (World.block_lt_of_cell? W _ hg)).trans hg))
def impl_GoodCode.f (l0 : List S63) : Option Bool := some (inB l0.length 1 120 && !l0.any (bcBad l0.length))
set_option maxHeartbeats 8000000 in
set_option maxRecDepth 100000 in
theorem impl_GoodCode.calls (A0 : Option Addr) (c0 : Nat) (l0 : List S63) (r : Bool) (w : World) (hr0 : Kd.C k63 w A0 l0.length l0) (hc0 : l0.length ≤ c0) (h : impl_GoodCode.f l0 = some r) :
    Calls Try.prog 39 #[.slice A0 l0.length c0] w fun e w' => e = .returned (.bool r) ∧ Below w.heap.size w w' := by
  unfold impl_GoodCode.f at h
  obtain rfl := Option.some.inj h
  clear h
  have HR0 := Aside0.mk hr0
  have HC0 := Aside0.mk hc0
  have HX := Aside0.mk (fun W => impl_within.calls l0.length 1 120 _ W (within_f _ _ _))
  clear hr0 hc0
  cases hb : inB l0.length 1 120
  · have HXX : Aside0 (∀ W, Calls Try.prog 49 #[.int .i64 (l0.length : Int), .int .i64 1, .int .i64 120] W fun e w' => e = .returned (.bool false) ∧ Drawn0 W w') := ⟨fun W => hb ▸ HX.out W⟩
    clear hb HX
    go_enter Try.func39, Try.ntmps39
    go_wp2_with (go_at_call 49; refine (HXX.out _).mono ?_; rintro e w1 ⟨rfl, ⟨nd, rfl⟩⟩)
    go_ret
    exact ⟨by first | rfl | (simp; done), pw_below_drewN (below_alloc (Below.refl _ _) _) _⟩
  · have HXX : Aside0 (∀ W, Calls Try.prog 49 #[.int .i64 (l0.length : Int), .int .i64 1, .int .i64 120] W fun e w' => e = .returned (.bool true) ∧ Drawn0 W w') := ⟨fun W => hb ▸ HX.out W⟩
    have HN : Aside0 (l0.length < 4611686018427387904) := ⟨by
      unfold inB at hb
      simp at hb
      omega⟩
    clear hb HX
    go_enter Try.func39, Try.ntmps39
    go_wp2_with (first | (go_at_call 49; refine (HXX.out _).mono ?_; rintro e w1 ⟨rfl, ⟨nd, rfl⟩⟩) | (go_at_call 67; refine (GoodCode_contains A0 c0 l0 _ _ (by simp) (Kd.C_below HR0.out (by repeat (first | exact Below.refl _ _ | apply below_alloc | apply pw_below_drewN))) HC0.out HN.out).mono ?_; rintro e w2 ⟨rfl, hb2⟩))
    go_ret
    exact ⟨by first | rfl | (simp; done), below_then (by repeat (first | exact Below.refl _ _ | apply below_alloc | apply pw_below_drewN)) (by first | (simp; done) | (simp; omega)) hb2⟩

/-! ### slices_Index_string_string: function 40 -/
def slices_Index_string_string.l0 : Nat → List ByteArray → ByteArray → Int → Int → Option (Int)
  | 0, _, _, _, _ => none
  | k + 1, x0, x1, x7, x8 => if x8 < x7 then (if 0 ≤ x8 then (if x8 < (x0.length : Int) then (if x1.toList = (rdOf ByteArray.empty x0 x8).toList then (some x8) else (slices_Index_string_string.l0 k x0 x1 x7 (wrap64 (x8 + 1)))) else (none)) else (none)) else (some (-1))
def slices_Index_string_string.f (k : Nat) (l0 : List ByteArray) (a1 : ByteArray) : Option (Int) := slices_Index_string_string.l0 k l0 a1 (l0.length : Int) 0
theorem slices_Index_string_string.mono_l : ∀ k, (∀ y0 y1 y2 y3, LeO (slices_Index_string_string.l0 k y0 y1 y2 y3) (slices_Index_string_string.l0 (k + 1) y0 y1 y2 y3))
  | 0 => fun _ _ _ _ r h => by simp [slices_Index_string_string.l0] at h
  | k + 1 => by
    have ih0 := slices_Index_string_string.mono_l k
    · intro y0 y1 y2 y3
      unfold slices_Index_string_string.l0
      repeat' first
      | (with_reducible exact ih0 _ _ _ _)
      | (with_reducible exact LeO.refl _)
      | (with_reducible exact LeO.none _)
      | (with_reducible refine LeO.ite ?_ ?_)
      | (with_reducible refine LeO.bind ?_ (fun _ => ?_))
      | exact ih0 _ _ _ _
      | exact LeO.none _
      | refine LeO.ite ?_ ?_
      | refine LeO.bind ?_ (fun _ => ?_)
theorem slices_Index_string_string.mono : ∀ a0 a1 k, LeO (slices_Index_string_string.f k a0 a1) (slices_Index_string_string.f (k + 1) a0 a1) := by
  intro a0 a1 k
  have ih0 := slices_Index_string_string.mono_l k
  unfold slices_Index_string_string.f
  repeat' first
      | (with_reducible exact ih0 _ _ _ _)
      | (with_reducible exact LeO.refl _)
      | (with_reducible exact LeO.none _)
      | (with_reducible refine LeO.ite ?_ ?_)
      | (with_reducible refine LeO.bind ?_ (fun _ => ?_))
      | exact ih0 _ _ _ _
      | exact LeO.none _
      | refine LeO.ite ?_ ?_
      | refine LeO.bind ?_ (fun _ => ?_)
set_option maxHeartbeats 8000000 in
set_option maxRecDepth 100000 in
theorem slices_Index_string_string.calls (k : Nat) (A0 : Option Addr) (c0 : Nat) (l0 : List ByteArray) (a1 : ByteArray) (r : Int) (w : World) (hr0 : Kd.C Kd.string w A0 l0.length l0) (hc0 : l0.length ≤ c0) (h : slices_Index_string_string.f k l0 a1 = some r) :
    Calls Try.prog 40 #[.slice A0 l0.length c0, .string a1] w fun e w' => e = .returned (.int .i64 r) ∧ Drawn0 w w' := by
  have HR0 := Aside0.mk hr0
  have HC0 := Aside0.mk hc0
  clear hr0 hc0
  have H : (slices_Index_string_string.l0 k l0 a1 (l0.length : Int) 0) = some r := h
  clear h
  have H' := Aside0.mk H
  clear H
  go_enter Try.func40, Try.ntmps40
  go_wp2
  go_loopg [8] k (fun kq v8 w' => ∃ (x8_1 : Int), v8 = .int .i64 x8_1 ∧ Aside0 (slices_Index_string_string.l0 kq l0 a1 (l0.length : Int) x8_1 = some r) ∧ Aside0 (kq ≤ k) ∧ Drawn0 w w')
  case atStart => exact ⟨(0), (by first | rfl | (simp; done) | (simp [*]; done)), H', ⟨Nat.le_refl _⟩, by repeat (first | exact Drawn0.refl _ | apply Drawn0.step)⟩
  case round =>
    clear H'
    try clear p2
    obtain ⟨x8_1, rfl, HA, HK1, ⟨m1, rfl⟩⟩ := hrel
    cases gk with
    | zero => exact absurd HA.out (by simp [slices_Index_string_string.l0])
    | succ k1 =>
      have H := HA.out
      clear HA
      simp only [slices_Index_string_string.l0] at H
      by_cases c3 : x8_1 < (l0.length : Int)
      · rw [if_pos c3] at H
        have c3b0 : decide (x8_1 < (l0.length : Int)) = true := decide_eq_true c3
        clear c3
        by_cases c4 : 0 ≤ x8_1
        · rw [if_pos c4] at H
          have c4b0 : decide (0 ≤ x8_1) = true := decide_eq_true c4
          clear c4
          by_cases c5 : x8_1 < (l0.length : Int)
          · rw [if_pos c5] at H
            have c5b0 : decide (x8_1 < (l0.length : Int)) = true := decide_eq_true c5
            clear c5
            by_cases c6 : a1.toList = (rdOf ByteArray.empty l0 x8_1).toList
            · rw [if_pos c6] at H
              have c6b0 : (a1.toList == (rdOf ByteArray.empty l0 x8_1).toList) = true := beq_iff_eq.mpr c6
              have c6b1 : (a1.toList != (rdOf ByteArray.empty l0 x8_1).toList) = false := bne_eq_false_iff_eq.mpr c6
              clear c6
              obtain rfl := Option.some.inj H
              have p165 : 0 ≤ (x8_1 : Int) := of_decide_eq_true (by first | (with_reducible assumption) | assumption)
              have q165 : x8_1 < (l0.length : Int) := of_decide_eq_true (by first | (with_reducible assumption) | assumption)
              obtain ⟨ad165, e165, hx165_0⟩ := Kd.at_string HR0.out x8_1 p165 q165
              cases e165
              replace p165 := eq_true p165
              replace q165 := eq_true q165
              go_wp2
              go_ret
              exact ⟨by first | rfl | (simp; done) | (simp [*]; done), by repeat (first | exact Drawn0.refl _ | apply Drawn0.step)⟩
            · rw [if_neg c6] at H
              have c6b0 : (a1.toList == (rdOf ByteArray.empty l0 x8_1).toList) = false := beq_eq_false_iff_ne.mpr c6
              have c6b1 : (a1.toList != (rdOf ByteArray.empty l0 x8_1).toList) = true := bne_iff_ne.mpr c6
              have H' := Aside0.mk H
              clear H
              have p165 : 0 ≤ (x8_1 : Int) := of_decide_eq_true (by first | (with_reducible assumption) | assumption)
              have q165 : x8_1 < (l0.length : Int) := of_decide_eq_true (by first | (with_reducible assumption) | assumption)
              obtain ⟨ad165, e165, hx165_0⟩ := Kd.at_string HR0.out x8_1 p165 q165
              cases e165
              replace p165 := eq_true p165
              replace q165 := eq_true q165
              go_wp2
              go_roundg k1
              case measure => have := HK1.out; omega
              case rel => exact ⟨(wrap64 (x8_1 + 1)), (by first | rfl | (simp; done) | (simp [*]; done)), H', ⟨by have := HK1.out; omega⟩, by repeat (first | exact Drawn0.refl _ | apply Drawn0.step)⟩
          · rw [if_neg c5] at H
            exact absurd H (by simp)
        · rw [if_neg c4] at H
          exact absurd H (by simp)
      · rw [if_neg c3] at H
        have c3b0 : decide (x8_1 < (l0.length : Int)) = false := decide_eq_false c3
        clear c3
        obtain rfl := Option.some.inj H
        go_wp2
        go_ret
        exact ⟨by first | rfl | (simp; done) | (simp [*]; done), by repeat (first | exact Drawn0.refl _ | apply Drawn0.step)⟩

/-! ### impl_SignsOf: function 41 -/
def impl_SignsOf.f  : Option (List ByteArray) := some (([(⟨#[43]⟩ : ByteArray), (⟨#[45]⟩ : ByteArray), (⟨#[42]⟩ : ByteArray), (⟨#[47]⟩ : ByteArray), (⟨#[37]⟩ : ByteArray), (⟨#[60]⟩ : ByteArray), (⟨#[60, 61]⟩ : ByteArray), (⟨#[61, 61]⟩ : ByteArray), (⟨#[33, 61]⟩ : ByteArray), (⟨#[61]⟩ : ByteArray), (⟨#[38, 38]⟩ : ByteArray), (⟨#[124, 124]⟩ : ByteArray), (⟨#[33]⟩ : ByteArray), (⟨#[40]⟩ : ByteArray), (⟨#[41]⟩ : ByteArray), (⟨#[44]⟩ : ByteArray), (⟨#[59]⟩ : ByteArray), (⟨#[45, 62]⟩ : ByteArray), (⟨#[60, 60]⟩ : ByteArray)] : List ByteArray))
set_option maxHeartbeats 8000000 in
set_option maxRecDepth 100000 in
theorem impl_SignsOf.calls  (r : List ByteArray) (w : World) (h : impl_SignsOf.f  = some r) :
    Calls Try.prog 41 #[] w fun e w' => ∃ v0_ : Value, e = .returned (v0_) ∧ Kd.R Kd.string 9 w' w.heap.size (fun _ => True) v0_ r ∧ Below w.heap.size w w' := by
  have HB := Aside0.mk (Below.refl w.heap.size w)
  have H : (some (([(⟨#[43]⟩ : ByteArray), (⟨#[45]⟩ : ByteArray), (⟨#[42]⟩ : ByteArray), (⟨#[47]⟩ : ByteArray), (⟨#[37]⟩ : ByteArray), (⟨#[60]⟩ : ByteArray), (⟨#[60, 61]⟩ : ByteArray), (⟨#[61, 61]⟩ : ByteArray), (⟨#[33, 61]⟩ : ByteArray), (⟨#[61]⟩ : ByteArray), (⟨#[38, 38]⟩ : ByteArray), (⟨#[124, 124]⟩ : ByteArray), (⟨#[33]⟩ : ByteArray), (⟨#[40]⟩ : ByteArray), (⟨#[41]⟩ : ByteArray), (⟨#[44]⟩ : ByteArray), (⟨#[59]⟩ : ByteArray), (⟨#[45, 62]⟩ : ByteArray), (⟨#[60, 60]⟩ : ByteArray)] : List ByteArray))) = some r := h
  clear h
  obtain ⟨y166, hy166⟩ : ∃ y_ : List ByteArray, y_ = (([(⟨#[43]⟩ : ByteArray), (⟨#[45]⟩ : ByteArray), (⟨#[42]⟩ : ByteArray), (⟨#[47]⟩ : ByteArray), (⟨#[37]⟩ : ByteArray), (⟨#[60]⟩ : ByteArray), (⟨#[60, 61]⟩ : ByteArray), (⟨#[61, 61]⟩ : ByteArray), (⟨#[33, 61]⟩ : ByteArray), (⟨#[61]⟩ : ByteArray), (⟨#[38, 38]⟩ : ByteArray), (⟨#[124, 124]⟩ : ByteArray), (⟨#[33]⟩ : ByteArray), (⟨#[40]⟩ : ByteArray), (⟨#[41]⟩ : ByteArray), (⟨#[44]⟩ : ByteArray), (⟨#[59]⟩ : ByteArray), (⟨#[45, 62]⟩ : ByteArray), (⟨#[60, 60]⟩ : ByteArray)] : List ByteArray)) := ⟨_, rfl⟩
  replace H : (some y166) = some r := by first | (rw [hy166]; with_reducible exact H) | (have H2_ := (Option.bind_some _ _).symm.trans H; rw [hy166]; with_reducible exact H2_) | (have H2_ := (Option.bind_some _ _).symm.trans H; with_reducible exact H2_) | with_reducible exact H | (rw [hy166]; exact H) | exact H
  have Ny166 := Aside0.mk hy166
  clear hy166
  obtain rfl := Option.some.inj H
  go_enter Try.func41, Try.ntmps41
  go_wp2_with (first | ((with_reducible refine gate_dst (N := 1) rfl ?_); refine Kd.R_lit Kd.string _ 9 ?hg (N := 1) ?hd (xs := ([(⟨#[43]⟩ : ByteArray), (⟨#[45]⟩ : ByteArray), (⟨#[42]⟩ : ByteArray), (⟨#[47]⟩ : ByteArray), (⟨#[37]⟩ : ByteArray), (⟨#[60]⟩ : ByteArray), (⟨#[60, 61]⟩ : ByteArray), (⟨#[61, 61]⟩ : ByteArray), (⟨#[33, 61]⟩ : ByteArray), (⟨#[61]⟩ : ByteArray), (⟨#[38, 38]⟩ : ByteArray), (⟨#[124, 124]⟩ : ByteArray), (⟨#[33]⟩ : ByteArray), (⟨#[40]⟩ : ByteArray), (⟨#[41]⟩ : ByteArray), (⟨#[44]⟩ : ByteArray), (⟨#[59]⟩ : ByteArray), (⟨#[45, 62]⟩ : ByteArray), (⟨#[60, 60]⟩ : ByteArray)] : List ByteArray)) (inner := [.string (⟨#[43]⟩ : ByteArray), .string (⟨#[45]⟩ : ByteArray), .string (⟨#[42]⟩ : ByteArray), .string (⟨#[47]⟩ : ByteArray), .string (⟨#[37]⟩ : ByteArray), .string (⟨#[60]⟩ : ByteArray), .string (⟨#[60, 61]⟩ : ByteArray), .string (⟨#[61, 61]⟩ : ByteArray), .string (⟨#[33, 61]⟩ : ByteArray), .string (⟨#[61]⟩ : ByteArray), .string (⟨#[38, 38]⟩ : ByteArray), .string (⟨#[124, 124]⟩ : ByteArray), .string (⟨#[33]⟩ : ByteArray), .string (⟨#[40]⟩ : ByteArray), .string (⟨#[41]⟩ : ByteArray), .string (⟨#[44]⟩ : ByteArray), .string (⟨#[59]⟩ : ByteArray), .string (⟨#[45, 62]⟩ : ByteArray), .string (⟨#[60, 60]⟩ : ByteArray)]) (ok := fun _ => True) (okp := fun _ => True) ?hr ?hp (fun _ hk => hk) trivial (Below.refl _ _) (Nat.le_refl _) (by simp) ?_; (case hd => rfl); (case hg => rfl); (case hr => first | (go_simp; done) | (go_simp; rfl)); (case hp => exact (Reps.one (show Kd.M Kd.string _ _ _ (⟨#[43]⟩ : ByteArray) [.string (⟨#[43]⟩ : ByteArray)] from rfl) (Reps.one (show Kd.M Kd.string _ _ _ (⟨#[45]⟩ : ByteArray) [.string (⟨#[45]⟩ : ByteArray)] from rfl) (Reps.one (show Kd.M Kd.string _ _ _ (⟨#[42]⟩ : ByteArray) [.string (⟨#[42]⟩ : ByteArray)] from rfl) (Reps.one (show Kd.M Kd.string _ _ _ (⟨#[47]⟩ : ByteArray) [.string (⟨#[47]⟩ : ByteArray)] from rfl) (Reps.one (show Kd.M Kd.string _ _ _ (⟨#[37]⟩ : ByteArray) [.string (⟨#[37]⟩ : ByteArray)] from rfl) (Reps.one (show Kd.M Kd.string _ _ _ (⟨#[60]⟩ : ByteArray) [.string (⟨#[60]⟩ : ByteArray)] from rfl) (Reps.one (show Kd.M Kd.string _ _ _ (⟨#[60, 61]⟩ : ByteArray) [.string (⟨#[60, 61]⟩ : ByteArray)] from rfl) (Reps.one (show Kd.M Kd.string _ _ _ (⟨#[61, 61]⟩ : ByteArray) [.string (⟨#[61, 61]⟩ : ByteArray)] from rfl) (Reps.one (show Kd.M Kd.string _ _ _ (⟨#[33, 61]⟩ : ByteArray) [.string (⟨#[33, 61]⟩ : ByteArray)] from rfl) (Reps.one (show Kd.M Kd.string _ _ _ (⟨#[61]⟩ : ByteArray) [.string (⟨#[61]⟩ : ByteArray)] from rfl) (Reps.one (show Kd.M Kd.string _ _ _ (⟨#[38, 38]⟩ : ByteArray) [.string (⟨#[38, 38]⟩ : ByteArray)] from rfl) (Reps.one (show Kd.M Kd.string _ _ _ (⟨#[124, 124]⟩ : ByteArray) [.string (⟨#[124, 124]⟩ : ByteArray)] from rfl) (Reps.one (show Kd.M Kd.string _ _ _ (⟨#[33]⟩ : ByteArray) [.string (⟨#[33]⟩ : ByteArray)] from rfl) (Reps.one (show Kd.M Kd.string _ _ _ (⟨#[40]⟩ : ByteArray) [.string (⟨#[40]⟩ : ByteArray)] from rfl) (Reps.one (show Kd.M Kd.string _ _ _ (⟨#[41]⟩ : ByteArray) [.string (⟨#[41]⟩ : ByteArray)] from rfl) (Reps.one (show Kd.M Kd.string _ _ _ (⟨#[44]⟩ : ByteArray) [.string (⟨#[44]⟩ : ByteArray)] from rfl) (Reps.one (show Kd.M Kd.string _ _ _ (⟨#[59]⟩ : ByteArray) [.string (⟨#[59]⟩ : ByteArray)] from rfl) (Reps.one (show Kd.M Kd.string _ _ _ (⟨#[45, 62]⟩ : ByteArray) [.string (⟨#[45, 62]⟩ : ByteArray)] from rfl) (Reps.one (show Kd.M Kd.string _ _ _ (⟨#[60, 60]⟩ : ByteArray) [.string (⟨#[60, 60]⟩ : ByteArray)] from rfl) (Reps.none _ _))))))))))))))))))))); intro v167 w1 ho2 hb hg_ hnew_; clear hg_ hnew_; (first | rw [← Ny166.out] at ho2 | (simp only [Int.reduceToNat] at ho2; rw [← Ny166.out] at ho2)); have n0_ := Aside0.mk (Kd.R_lower ho2 (below_size (by repeat (first | (with_reducible first | exact HB.out | apply below_alloc | apply pw_below_drewN | apply below_drew1) | exact HB.out)))); have n1_ := Aside0.mk (below_step (by repeat (first | (with_reducible first | exact HB.out | apply below_alloc | apply pw_below_drewN | apply below_drew1) | exact HB.out)) hb); clear HB; have HO168 := n0_; have HB := n1_; clear n0_ n1_; clear hb ho2))
  go_ret
  exact ⟨_, by first | rfl | (simp [errW_none, errW_some] <;> rfl) | (simp [*, errW_none, errW_some] <;> rfl), by (with_reducible repeat (first | apply Kd.R_alloc | apply Kd.R_drewN | apply Kd.R_drew)); exact HO168.out, by repeat (first | (with_reducible first | exact HB.out | apply below_alloc | apply pw_below_drewN | apply below_drew1) | exact HB.out)⟩

end Go.Proofs.Ytcbgiccgiegdbab.PFnExactCodeBytes
