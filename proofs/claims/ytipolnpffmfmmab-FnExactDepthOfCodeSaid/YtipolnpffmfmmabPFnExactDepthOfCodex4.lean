-- WRITTEN BY mp.py, a program of this session, out of the translation's print. Not trusted: Lean checks it.
import Derived.Test.YtipolnpffmfmmabPFnExactDepthOfCodex0
import Derived.Test.YtipolnpffmfmmabPFnExactDepthOfCodex3
namespace Go.Proofs.Ytipolnpffmfmmab.PFnExactDepthOfCode
open Go.RowKit Go.Proofs.YtipolnpffmfmmabW.PrintWords Go.Proofs.YtipolnpffmfmmabW.PrintLast Go.Proofs.YtipolnpffmfmmabW.PrintMore
attribute [local go_sem] max2_int min2_int max_two min_two max_three min_three max_four min_four   -- for this text's walks alone
set_option linter.unusedVariables false
set_option linter.unusedSimpArgs false

/-! ### spec_l16Check: function 82 -/
mutual
def spec_l16Check.l0 : Nat → List (S90) → List Int → Int → Int → Option (List Int × Bool)
  | 0, _, _, _, _ => none
  | k + 1, x0, x4, x13, x14 => if x14 < x13 then (if x4.length < 17592186044416 then (spec_l16Check.l0 k x0 (x4 ++ [(-1)]) x13 (wrap64 (x14 + 1))) else (none)) else (if 0 < (x4.length : Int) then (spec_l16Check.l1 k x0 (x4.set (0 : Int).toNat 0) (([0] : List Int))) else (none))
def spec_l16Check.l1 : Nat → List (S90) → List Int → List Int → Option (List Int × Bool)
  | 0, _, _, _ => none
  | k + 1, x0, x4, x5 => if (x5.length : Int) > 0 then (if 0 < (x5.length : Int) then (if 1 ≤ (x5.length : Int) then ((some (x5.drop (1 : Int).toNat : List Int)).bind fun y135 => (if 0 ≤ (rd x5 0) then (if (rd x5 0) < (x0.length : Int) then ((spec_l16Takes.f k ((rd_T90 x0 (rd x5 0)).f0) ((rd_T90 x0 (rd x5 0)).f1) ((rd_T90 x0 (rd x5 0)).f2)).bind fun bt139 => (if (rd x5 0) < (x4.length : Int) then (if (rd x4 (rd x5 0)) < bt139.1 then (spec_l16Check.j2 k x0 x4 y135 (rd x5 0) (wrap64 ((wrap64 ((rd x4 (rd x5 0)) - bt139.1)) + bt139.2)) true) else (spec_l16Check.j2 k x0 x4 y135 (rd x5 0) (wrap64 ((wrap64 ((rd x4 (rd x5 0)) - bt139.1)) + bt139.2)) (decide ((wrap64 ((wrap64 ((rd x4 (rd x5 0)) - bt139.1)) + bt139.2)) > 30)))) else (none))) else (none)) else (none))) else (none)) else (none)) else (some (x4, true))
def spec_l16Check.j2 : Nat → List (S90) → List Int → List Int → Int → Int → Bool → Option (List Int × Bool)
  | 0, _, _, _, _, _, _ => none
  | k + 1, x0, x4, x5, x6, x9, x56 => if x56 = true then (some (([] : List Int), false)) else ((spec_l16Next.f x0 x6).bind fun t143 => (spec_l16Check.l2 k x0 x4 x5 x9 t143 (t143.length : Int) 0))
def spec_l16Check.l2 : Nat → List (S90) → List Int → List Int → Int → List Int → Int → Int → Option (List Int × Bool)
  | 0, _, _, _, _, _, _, _ => none
  | k + 1, x0, x4, x5, x9, x59, x60, x61 => if x61 < x60 then (if 0 ≤ x61 then (if x61 < (x59.length : Int) then (if (rd x59 x61) ≥ (x0.length : Int) then (spec_l16Check.j4 k x0 x4 x5 x9 (rd x59 x61) x59 x60 x61 true) else (if 0 ≤ (rd x59 x61) then (if (rd x59 x61) < (x4.length : Int) then (if (rd x4 (rd x59 x61)) ≥ 0 then (spec_l16Check.j4 k x0 x4 x5 x9 (rd x59 x61) x59 x60 x61 ((rd x4 (rd x59 x61)) != x9)) else (spec_l16Check.j4 k x0 x4 x5 x9 (rd x59 x61) x59 x60 x61 false)) else (none)) else (none))) else (none)) else (none)) else (spec_l16Check.l1 k x0 x4 x5)
def spec_l16Check.j4 : Nat → List (S90) → List Int → List Int → Int → Int → List Int → Int → Int → Bool → Option (List Int × Bool)
  | 0, _, _, _, _, _, _, _, _, _ => none
  | k + 1, x0, x4, x5, x9, x11, x59, x60, x61, x83 => if x83 = true then (some (([] : List Int), false)) else (if 0 ≤ x11 then (if x11 < (x4.length : Int) then (if (rd x4 x11) < 0 then ((some (([] : List Int) : List Int)).bind fun y151 => (if y151.length + x5.length < 17592186044416 then ((some (y151 ++ x5 : List Int)).bind fun y154 => (if y154.length < 17592186044416 then (spec_l16Check.l2 k x0 (x4.set (x11 : Int).toNat x9) (y154 ++ [x11]) x9 x59 x60 (wrap64 (x61 + 1))) else (none))) else (none))) else (spec_l16Check.l2 k x0 x4 x5 x9 x59 x60 (wrap64 (x61 + 1)))) else (none)) else (none))
end
def spec_l16Check.f (k : Nat) (l0 : List (S90)) : Option (List Int × Bool) := spec_l16Check.l0 k l0 ([] : List Int) (l0.length : Int) 0
theorem spec_l16Check.mono_l : ∀ k, (∀ y0 y1 y2 y3, LeO (spec_l16Check.l0 k y0 y1 y2 y3) (spec_l16Check.l0 (k + 1) y0 y1 y2 y3)) ∧ (∀ y0 y1 y2, LeO (spec_l16Check.l1 k y0 y1 y2) (spec_l16Check.l1 (k + 1) y0 y1 y2)) ∧ (∀ y0 y1 y2 y3 y4 y5, LeO (spec_l16Check.j2 k y0 y1 y2 y3 y4 y5) (spec_l16Check.j2 (k + 1) y0 y1 y2 y3 y4 y5)) ∧ (∀ y0 y1 y2 y3 y4 y5 y6, LeO (spec_l16Check.l2 k y0 y1 y2 y3 y4 y5 y6) (spec_l16Check.l2 (k + 1) y0 y1 y2 y3 y4 y5 y6)) ∧ (∀ y0 y1 y2 y3 y4 y5 y6 y7 y8, LeO (spec_l16Check.j4 k y0 y1 y2 y3 y4 y5 y6 y7 y8) (spec_l16Check.j4 (k + 1) y0 y1 y2 y3 y4 y5 y6 y7 y8))
  | 0 => ⟨fun _ _ _ _ r h => by simp [spec_l16Check.l0] at h, fun _ _ _ r h => by simp [spec_l16Check.l1] at h, fun _ _ _ _ _ _ r h => by simp [spec_l16Check.j2] at h, fun _ _ _ _ _ _ _ r h => by simp [spec_l16Check.l2] at h, fun _ _ _ _ _ _ _ _ _ r h => by simp [spec_l16Check.j4] at h⟩
  | k + 1 => by
    obtain ⟨ih0, ih1, ih2, ih3, ih4⟩ := spec_l16Check.mono_l k
    refine ⟨?_, ?_, ?_, ?_, ?_⟩
    · intro y0 y1 y2 y3
      unfold spec_l16Check.l0
      repeat' first
      | (with_reducible exact ih0 _ _ _ _)
      | (with_reducible exact ih1 _ _ _)
      | (with_reducible exact ih2 _ _ _ _ _ _)
      | (with_reducible exact ih3 _ _ _ _ _ _ _)
      | (with_reducible exact ih4 _ _ _ _ _ _ _ _ _)
      | (with_reducible exact spec_l16Takes.mono _ _ _ _)
      | (with_reducible exact LeO.refl _)
      | (with_reducible exact LeO.none _)
      | (with_reducible refine LeO.ite ?_ ?_)
      | (with_reducible refine LeO.bind ?_ (fun _ => ?_))
      | exact ih0 _ _ _ _
      | exact ih1 _ _ _
      | exact ih2 _ _ _ _ _ _
      | exact ih3 _ _ _ _ _ _ _
      | exact ih4 _ _ _ _ _ _ _ _ _
      | exact spec_l16Takes.mono _ _ _ _
      | exact LeO.none _
      | refine LeO.ite ?_ ?_
      | refine LeO.bind ?_ (fun _ => ?_)
    · intro y0 y1 y2
      unfold spec_l16Check.l1
      repeat' first
      | (with_reducible exact ih0 _ _ _ _)
      | (with_reducible exact ih1 _ _ _)
      | (with_reducible exact ih2 _ _ _ _ _ _)
      | (with_reducible exact ih3 _ _ _ _ _ _ _)
      | (with_reducible exact ih4 _ _ _ _ _ _ _ _ _)
      | (with_reducible exact spec_l16Takes.mono _ _ _ _)
      | (with_reducible exact LeO.refl _)
      | (with_reducible exact LeO.none _)
      | (with_reducible refine LeO.ite ?_ ?_)
      | (with_reducible refine LeO.bind ?_ (fun _ => ?_))
      | exact ih0 _ _ _ _
      | exact ih1 _ _ _
      | exact ih2 _ _ _ _ _ _
      | exact ih3 _ _ _ _ _ _ _
      | exact ih4 _ _ _ _ _ _ _ _ _
      | exact spec_l16Takes.mono _ _ _ _
      | exact LeO.none _
      | refine LeO.ite ?_ ?_
      | refine LeO.bind ?_ (fun _ => ?_)
    · intro y0 y1 y2 y3 y4 y5
      unfold spec_l16Check.j2
      repeat' first
      | (with_reducible exact ih0 _ _ _ _)
      | (with_reducible exact ih1 _ _ _)
      | (with_reducible exact ih2 _ _ _ _ _ _)
      | (with_reducible exact ih3 _ _ _ _ _ _ _)
      | (with_reducible exact ih4 _ _ _ _ _ _ _ _ _)
      | (with_reducible exact spec_l16Takes.mono _ _ _ _)
      | (with_reducible exact LeO.refl _)
      | (with_reducible exact LeO.none _)
      | (with_reducible refine LeO.ite ?_ ?_)
      | (with_reducible refine LeO.bind ?_ (fun _ => ?_))
      | exact ih0 _ _ _ _
      | exact ih1 _ _ _
      | exact ih2 _ _ _ _ _ _
      | exact ih3 _ _ _ _ _ _ _
      | exact ih4 _ _ _ _ _ _ _ _ _
      | exact spec_l16Takes.mono _ _ _ _
      | exact LeO.none _
      | refine LeO.ite ?_ ?_
      | refine LeO.bind ?_ (fun _ => ?_)
    · intro y0 y1 y2 y3 y4 y5 y6
      unfold spec_l16Check.l2
      repeat' first
      | (with_reducible exact ih0 _ _ _ _)
      | (with_reducible exact ih1 _ _ _)
      | (with_reducible exact ih2 _ _ _ _ _ _)
      | (with_reducible exact ih3 _ _ _ _ _ _ _)
      | (with_reducible exact ih4 _ _ _ _ _ _ _ _ _)
      | (with_reducible exact spec_l16Takes.mono _ _ _ _)
      | (with_reducible exact LeO.refl _)
      | (with_reducible exact LeO.none _)
      | (with_reducible refine LeO.ite ?_ ?_)
      | (with_reducible refine LeO.bind ?_ (fun _ => ?_))
      | exact ih0 _ _ _ _
      | exact ih1 _ _ _
      | exact ih2 _ _ _ _ _ _
      | exact ih3 _ _ _ _ _ _ _
      | exact ih4 _ _ _ _ _ _ _ _ _
      | exact spec_l16Takes.mono _ _ _ _
      | exact LeO.none _
      | refine LeO.ite ?_ ?_
      | refine LeO.bind ?_ (fun _ => ?_)
    · intro y0 y1 y2 y3 y4 y5 y6 y7 y8
      unfold spec_l16Check.j4
      repeat' first
      | (with_reducible exact ih0 _ _ _ _)
      | (with_reducible exact ih1 _ _ _)
      | (with_reducible exact ih2 _ _ _ _ _ _)
      | (with_reducible exact ih3 _ _ _ _ _ _ _)
      | (with_reducible exact ih4 _ _ _ _ _ _ _ _ _)
      | (with_reducible exact spec_l16Takes.mono _ _ _ _)
      | (with_reducible exact LeO.refl _)
      | (with_reducible exact LeO.none _)
      | (with_reducible refine LeO.ite ?_ ?_)
      | (with_reducible refine LeO.bind ?_ (fun _ => ?_))
      | exact ih0 _ _ _ _
      | exact ih1 _ _ _
      | exact ih2 _ _ _ _ _ _
      | exact ih3 _ _ _ _ _ _ _
      | exact ih4 _ _ _ _ _ _ _ _ _
      | exact spec_l16Takes.mono _ _ _ _
      | exact LeO.none _
      | refine LeO.ite ?_ ?_
      | refine LeO.bind ?_ (fun _ => ?_)
theorem spec_l16Check.mono : ∀ a0 k, LeO (spec_l16Check.f k a0) (spec_l16Check.f (k + 1) a0) := by
  intro a0 k
  obtain ⟨ih0, ih1, ih2, ih3, ih4⟩ := spec_l16Check.mono_l k
  unfold spec_l16Check.f
  repeat' first
      | (with_reducible exact ih0 _ _ _ _)
      | (with_reducible exact ih1 _ _ _)
      | (with_reducible exact ih2 _ _ _ _ _ _)
      | (with_reducible exact ih3 _ _ _ _ _ _ _)
      | (with_reducible exact ih4 _ _ _ _ _ _ _ _ _)
      | (with_reducible exact spec_l16Takes.mono _ _ _ _)
      | (with_reducible exact LeO.refl _)
      | (with_reducible exact LeO.none _)
      | (with_reducible refine LeO.ite ?_ ?_)
      | (with_reducible refine LeO.bind ?_ (fun _ => ?_))
      | exact ih0 _ _ _ _
      | exact ih1 _ _ _
      | exact ih2 _ _ _ _ _ _
      | exact ih3 _ _ _ _ _ _ _
      | exact ih4 _ _ _ _ _ _ _ _ _
      | exact spec_l16Takes.mono _ _ _ _
      | exact LeO.none _
      | refine LeO.ite ?_ ?_
      | refine LeO.bind ?_ (fun _ => ?_)
set_option maxHeartbeats 8000000 in
set_option maxRecDepth 100000 in
theorem spec_l16Check.calls (k : Nat) (A0 : Option Addr) (c0 : Nat) (l0 : List (S90)) (r1 : List Int) (r2 : Bool) (w : World) (hr0 : Kd.C k90 w A0 l0.length l0) (hc0 : l0.length ≤ c0) (h : spec_l16Check.f k l0 = some (r1, r2)) :
    Calls Try.prog 82 #[.slice A0 l0.length c0] w fun e w' => ∃ v0_ : Value, e = .returned (.tuple #[v0_, .bool r2]) ∧ Kd.R (Kd.int .i64) 3 w' w.heap.size (fun _ => True) v0_ r1 ∧ Below w.heap.size w w' := by
  have hu90 := Try.underlying90
  have HR0 := Aside0.mk hr0
  have HC0 := Aside0.mk hc0
  clear hr0 hc0
  have HB := Aside0.mk (Below.refl w.heap.size w)
  have H : (spec_l16Check.l0 k l0 ([] : List Int) (l0.length : Int) 0) = some (r1, r2) := h
  clear h
  have H' := Aside0.mk H
  clear H
  go_enter Try.func82, Try.ntmps82
  go_wp2
  go_loopg [4, 14] k (fun kq v4 v14 w' => ∃ (x4_1 : List Int) (x14_1 : Int), v14 = .int .i64 x14_1 ∧ Aside0 (spec_l16Check.l0 kq l0 x4_1 (l0.length : Int) x14_1 = some (r1, r2)) ∧ Aside0 (kq ≤ k) ∧ Aside0 (Kd.R (Kd.int .i64) 3 w' w.heap.size (fun _ => True) v4 x4_1) ∧ Aside0 (Below w.heap.size w w'))
  case atStart => exact ⟨(([] : List Int)), (0), (by first | rfl | (simp; done) | (simp [*]; done)), H', ⟨Nat.le_refl _⟩, ⟨by first | exact Kd.R_nil _ _ _ _ _ | exact Kd.N_nil _ _ _ _ _ | exact Kd.V_nil _ _ _ _ _ | exact Kd.Q_nil _ _ _ _ _ | exact Kd.S_nil _ _ _ _ _⟩, ⟨by repeat (first | (with_reducible first | exact HB.out | apply below_alloc | apply pw_below_drewN | apply below_drew1) | exact HB.out)⟩⟩
  case round =>
    clear H'
    obtain ⟨x4_1, x14_1, rfl, HA, HK1, HO_4, HB⟩ := hrel
    cases gk with
    | zero => exact absurd HA.out (by simp [spec_l16Check.l0])
    | succ k1 =>
      have H := HA.out
      clear HA
      simp only [spec_l16Check.l0] at H
      by_cases c2 : x14_1 < (l0.length : Int)
      · rw [if_pos c2] at H
        have c2b0 : decide (x14_1 < (l0.length : Int)) = true := decide_eq_true c2
        clear c2
        by_cases c3 : x4_1.length < 17592186044416
        · rw [if_pos c3] at H
          have LMc3 := Aside0.mk c3
          clear c3
          obtain ⟨y127, hy127⟩ : ∃ y_ : List Int, y_ = (x4_1 ++ [(-1)]) := ⟨_, rfl⟩
          replace H : (spec_l16Check.l0 k1 l0 y127 (l0.length : Int) (wrap64 (x14_1 + 1))) = some (r1, r2) := by first | (rw [hy127]; with_reducible exact H) | (have H2_ := (Option.bind_some _ _).symm.trans H; rw [hy127]; with_reducible exact H2_) | (have H2_ := (Option.bind_some _ _).symm.trans H; with_reducible exact H2_) | with_reducible exact H | (rw [hy127]; exact H) | exact H
          have Ny127 := Aside0.mk hy127
          clear hy127
          have H' := Aside0.mk H
          clear H
          go_wp2_with (first | ((with_reducible refine gate_builtin (b := .append) (xs := #[.tmp 16, .tmp 17]) rfl ?_); at_builtin; refine Kd.R_append (Kd.int .i64) (w0 := w) w.heap.size rfl (.tmp 16) (.tmp 17) 26 3 (.int .i64 0) 8 rfl Try.underlying26 info3 rfl (by decide) (by omega) u4 x4_1 (-1) [.int .i64 (-1)] (fun _ => True) (fun _ => False) rfl rfl ?aP (fun _ hk => hk.elim) ?aF ?aO ?aB ?aS ?aL ?_; (case aP => exact rfl); (case aB => exact (by repeat (first | (with_reducible first | exact HB.out | apply below_alloc | apply pw_below_drewN | apply below_drew1) | exact HB.out))); (case aF => exact (fun _ _ => trivial)); (case aO => exact (by (with_reducible repeat (first | apply Kd.R_alloc | apply Kd.R_drewN | apply Kd.R_drew)); exact HO_4.out)); (case aS => exact (below_size (by repeat (first | (with_reducible first | exact HB.out | apply below_alloc | apply pw_below_drewN | apply below_drew1) | exact HB.out)))); (case aL => have := LMc3.out; omega); intro v128 w4 ho hb hg hat; rw [← Ny127.out] at ho; have n0_ := Aside0.mk (hb); have n1_ := Aside0.mk (ho); clear HB; clear HO_4; have HB := n0_; have HO129 := n1_; clear n0_ n1_; clear ho hb hg hat))
          go_roundg k1
          case measure => have := HK1.out; omega
          case rel => exact ⟨(y127), (wrap64 (x14_1 + 1)), (by first | rfl | (simp; done) | (simp [*]; done)), H', ⟨by have := HK1.out; omega⟩, ⟨by (with_reducible repeat (first | apply Kd.R_alloc | apply Kd.R_drewN | apply Kd.R_drew)); exact HO129.out⟩, ⟨by repeat (first | (with_reducible first | exact HB.out | apply below_alloc | apply pw_below_drewN | apply below_drew1) | exact HB.out)⟩⟩
        · rw [if_neg c3] at H
          exact absurd H (by simp)
      · rw [if_neg c2] at H
        have c2b0 : decide (x14_1 < (l0.length : Int)) = false := decide_eq_false c2
        clear c2
        by_cases c5 : 0 < (x4_1.length : Int)
        · rw [if_pos c5] at H
          have c5b0 : decide (0 < (x4_1.length : Int)) = true := decide_eq_true c5
          have c5b1 : decide (0 < x4_1.length) = true := decide_eq_true (by omega)
          clear c5
          obtain ⟨y130, hy130⟩ : ∃ y_ : List Int, y_ = (x4_1.set (0 : Int).toNat 0) := ⟨_, rfl⟩
          replace H : (spec_l16Check.l1 k1 l0 y130 (([0] : List Int))) = some (r1, r2) := by first | (rw [hy130]; with_reducible exact H) | (have H2_ := (Option.bind_some _ _).symm.trans H; rw [hy130]; with_reducible exact H2_) | (have H2_ := (Option.bind_some _ _).symm.trans H; with_reducible exact H2_) | with_reducible exact H | (rw [hy130]; exact H) | exact H
          have Ny130 := Aside0.mk hy130
          clear hy130
          obtain ⟨y131, hy131⟩ : ∃ y_ : List Int, y_ = (([0] : List Int)) := ⟨_, rfl⟩
          replace H : (spec_l16Check.l1 k1 l0 y130 y131) = some (r1, r2) := by first | (rw [hy131]; with_reducible exact H) | (have H2_ := (Option.bind_some _ _).symm.trans H; rw [hy131]; with_reducible exact H2_) | (have H2_ := (Option.bind_some _ _).symm.trans H; with_reducible exact H2_) | with_reducible exact H | (rw [hy131]; exact H) | exact H
          have Ny131 := Aside0.mk hy131
          clear hy131
          have H' := Aside0.mk H
          clear H
          have p6 : 0 ≤ (0 : Int) := (by omega)
          have q6 : (0 : Int) < ((x4_1.length : Int) : Int) := of_decide_eq_true (by first | (with_reducible assumption) | assumption)
          have qi6 : (0 < x4_1.length) = True := eq_true (by omega)
          obtain ⟨go6, co6, eo6, gb6, gl6, cl6, HG6⟩ := Kd.R_form HO_4.out (by omega)
          (first | cases eo6 | (injection eo6 with ea_ en_ ec_; (first | subst ea_ | (injection ea_ with ea_; subst ea_)); subst ec_; clear en_))
          have GB6 := Aside0.mk gb6
          have GG6 := Aside0.mk HG6
          clear gb6 gl6 HG6
          obtain ⟨hx6_0, hf6_0⟩ := Kd.R_celln 0 HO_4.out (0 : Int) p6 q6
          (try rw [show ((0 : Int)).toNat = 0 from rfl] at hx6_0)
          (try simp only [Nat.reduceMul, Nat.zero_mul, Nat.zero_add, Nat.reduceAdd] at hx6_0)
          (try rw [show ((0 : Int)).toNat = 0 from rfl] at hf6_0)
          (try simp only [Nat.reduceMul, Nat.zero_mul, Nat.zero_add, Nat.reduceAdd] at hf6_0)
          replace p6 := eq_true p6
          replace q6 := eq_true q6
          have HP7 := Kd.R_putg HO_4.out (0 : Int) 0
          go_wp2_with (first | ((with_reducible refine gate_store (t := 3) (p := 21) rfl ?_); refine store_event (t := 3) (p := 21) (v := ?vo_w8) (w1 := (wr.setCell ⟨go6, (0 : Int).toNat, none⟩ (.int .i64 0))) ?hg ?ho ?hn ?hr ?_; (case ho => rfl); (case hg => rfl); (case hn => rfl); (case hr => first | (go_simp; done) | (go_simp; rfl)); intro w8 hw; have hg : wr.grownBy w8 (some go6) := (by rw [hw]; exact HP7.2); have hp_ : Kd.R (Kd.int .i64) 3 w8 w.heap.size (fun _ => True) (.slice (some ⟨go6, 0, none⟩) x4_1.length co6) y130 := (by rw [hw, Ny130.out]; exact HP7.1); clear HP7; have n0_ := Aside0.mk (hp_); have n1_ := Aside0.mk ((by rw [hw]; exact below_set (HB.out) GB6.out : Below w.heap.size w w8)); clear HO_4; clear HB; have HO_4 := n0_; have HB := n1_; clear n0_ n1_; clear hg hw hp_) | ((with_reducible refine gate_dst (N := 22) rfl ?_); refine Kd.R_lit (Kd.int .i64) _ 3 ?hg (N := 22) ?hd (xs := ([0] : List Int)) (inner := [.int .i64 0]) (ok := fun _ => True) (okp := fun _ => True) ?hr ?hp (fun _ hk => hk) trivial (Below.refl _ _) (Nat.le_refl _) (by simp) ?_; (case hd => rfl); (case hg => rfl); (case hr => first | (go_simp; done) | (go_simp; rfl)); (case hp => exact (Reps.one (show Kd.M (Kd.int .i64) _ _ _ 0 [.int .i64 0] from rfl) (Reps.none _ _))); intro v132 w9 ho10 hb hg_ hnew_; clear hg_ hnew_; (first | rw [← Ny131.out] at ho10 | (simp only [Int.reduceToNat] at ho10; rw [← Ny131.out] at ho10)); have n0_ := Aside0.mk (Kd.R_elder' (by (with_reducible repeat (first | apply Kd.R_alloc | apply Kd.R_drewN | apply Kd.R_drew)); exact HO_4.out) (Kd.R_base ho10) hb); have n1_ := Aside0.mk (Kd.R_lower (Kd.R_new' ho10 (Kd.R_lt (by (with_reducible repeat (first | apply Kd.R_alloc | apply Kd.R_drewN | apply Kd.R_drew)); exact HO_4.out))) (below_size (by repeat (first | (with_reducible first | exact HB.out | apply below_alloc | apply pw_below_drewN | apply below_drew1) | exact HB.out)))); have n2_ := Aside0.mk (below_step (by repeat (first | (with_reducible first | exact HB.out | apply below_alloc | apply pw_below_drewN | apply below_drew1) | exact HB.out)) hb); clear HO_4; clear HB; have HO_4 := n0_; have HO133 := n1_; have HB := n2_; clear n0_ n1_ n2_; clear hb ho10))
          go_loopg [5] k1 (fun kq v5 w' => ∃ (x4_2 : List Int) (x5_2 : List Int), Aside0 (spec_l16Check.l1 kq l0 x4_2 x5_2 = some (r1, r2)) ∧ Aside0 (kq ≤ k1) ∧ Aside0 (Kd.R (Kd.int .i64) 3 w' w.heap.size (fun k_ => some k_ ≠ (v5 : Value).ownBlock) (.slice (some ⟨go6, 0, none⟩) x4_1.length co6) x4_2) ∧ Aside0 (Kd.Q (Kd.int .i64) 3 w' w.heap.size (fun k_ => some k_ ≠ ((.slice (some ⟨go6, 0, none⟩) x4_1.length co6) : Value).ownBlock) v5 x5_2) ∧ Aside0 (Below w.heap.size w w'))
          case atStart => exact ⟨(y130), (y131), H', ⟨Nat.le_refl _⟩, ⟨by (with_reducible repeat (first | apply Kd.R_alloc | apply Kd.R_drewN | apply Kd.R_drew)); exact Kd.R_mono HO_4.out (fun _ hk => hk.2)⟩, ⟨Kd.Q_of_R (by (with_reducible repeat (first | apply Kd.R_alloc | apply Kd.R_drewN | apply Kd.R_drew)); exact Kd.R_mono HO133.out (fun _ hk => hk.2))⟩, ⟨by repeat (first | (with_reducible first | exact HB.out | apply below_alloc | apply pw_below_drewN | apply below_drew1) | exact HB.out)⟩⟩
          case round =>
            clear H'
            try clear c2
            try clear c2b0
            try clear p2
            try clear c3
            try clear c5
            try clear c5b0
            try clear c5b1
            try clear p6
            try clear q6
            try clear hx6
            try clear qi6
            try clear hf6
            try clear c8
            try clear hx6_0
            try clear p6
            try clear q6
            obtain ⟨x4_2, x5_2, HA, HK2, HO_4, HO_5, HB⟩ := hrel
            have hl4_2 := (Kd.R_reads' HO_4.out).1
            rw [hl4_2] at HO_4
            (try simp only [hl4_2])
            (try simp only [hl4_2] at HO_5)
            cases gk with
            | zero => exact absurd HA.out (by simp [spec_l16Check.l1])
            | succ k2 =>
              have H := HA.out
              clear HA
              simp only [spec_l16Check.l1] at H
              by_cases c11 : (x5_2.length : Int) > 0
              · rw [if_pos c11] at H
                have c11b0 : decide (0 < (x5_2.length : Int)) = true := decide_eq_true c11
                have c11b1 : decide (0 < x5_2.length) = true := decide_eq_true (by omega)
                clear c11
                by_cases c12 : 0 < (x5_2.length : Int)
                · rw [if_pos c12] at H
                  have c12b0 : decide (0 < (x5_2.length : Int)) = true := decide_eq_true c12
                  have c12b1 : decide (0 < x5_2.length) = true := decide_eq_true (by omega)
                  clear c12
                  by_cases c13 : 1 ≤ (x5_2.length : Int)
                  · rw [if_pos c13] at H
                    have c13b0 := eq_true c13
                    have c13b1 : decide (1 ≤ (x5_2.length : Int)) = true := decide_eq_true c13
                    clear c13
                    obtain ⟨y135, hy135⟩ : ∃ y_ : List Int, y_ = (x5_2.drop (1 : Int).toNat) := ⟨_, rfl⟩
                    replace H : (if 0 ≤ (rd x5_2 0) then (if (rd x5_2 0) < (l0.length : Int) then ((spec_l16Takes.f k2 ((rd_T90 l0 (rd x5_2 0)).f0) ((rd_T90 l0 (rd x5_2 0)).f1) ((rd_T90 l0 (rd x5_2 0)).f2)).bind fun bt139 => (if (rd x5_2 0) < (x4_2.length : Int) then (if (rd x4_2 (rd x5_2 0)) < bt139.1 then (spec_l16Check.j2 k2 l0 x4_2 y135 (rd x5_2 0) (wrap64 ((wrap64 ((rd x4_2 (rd x5_2 0)) - bt139.1)) + bt139.2)) true) else (spec_l16Check.j2 k2 l0 x4_2 y135 (rd x5_2 0) (wrap64 ((wrap64 ((rd x4_2 (rd x5_2 0)) - bt139.1)) + bt139.2)) (decide ((wrap64 ((wrap64 ((rd x4_2 (rd x5_2 0)) - bt139.1)) + bt139.2)) > 30)))) else (none))) else (none)) else (none)) = some (r1, r2) := by first | (rw [hy135]; with_reducible exact H) | (have H2_ := (Option.bind_some _ _).symm.trans H; rw [hy135]; with_reducible exact H2_) | (have H2_ := (Option.bind_some _ _).symm.trans H; with_reducible exact H2_) | with_reducible exact H | (rw [hy135]; exact H) | exact H
                    have Ny135 := Aside0.mk hy135
                    clear hy135
                    by_cases c14 : 0 ≤ (rd x5_2 0)
                    · rw [if_pos c14] at H
                      have c14b0 : decide (0 ≤ (rd x5_2 0)) = true := decide_eq_true c14
                      clear c14
                      by_cases c15 : (rd x5_2 0) < (l0.length : Int)
                      · rw [if_pos c15] at H
                        have c15b0 : decide ((rd x5_2 0) < (l0.length : Int)) = true := decide_eq_true c15
                        clear c15
                        replace H := Option.bind_eq_some_iff.mp H
                        obtain ⟨⟨t139, t140⟩, A160, H⟩ := H
                        replace H : (if (rd x5_2 0) < (x4_2.length : Int) then (if (rd x4_2 (rd x5_2 0)) < t139 then (spec_l16Check.j2 k2 l0 x4_2 y135 (rd x5_2 0) (wrap64 ((wrap64 ((rd x4_2 (rd x5_2 0)) - t139)) + t140)) true) else (spec_l16Check.j2 k2 l0 x4_2 y135 (rd x5_2 0) (wrap64 ((wrap64 ((rd x4_2 (rd x5_2 0)) - t139)) + t140)) (decide ((wrap64 ((wrap64 ((rd x4_2 (rd x5_2 0)) - t139)) + t140)) > 30)))) else (none)) = some (r1, r2) := H
                        have A16 := Aside0.mk A160
                        clear A160
                        by_cases c17 : (rd x5_2 0) < (x4_2.length : Int)
                        · rw [if_pos c17] at H
                          have c17b0 : decide ((rd x5_2 0) < (x4_2.length : Int)) = true := decide_eq_true c17
                          clear c17
                          have HC18 := Aside0.mk H
                          clear H
                          obtain ⟨Ao19, co19, eo19, _⟩ := Kd.Q_slice HO_5.out
                          subst eo19
                          have p134 : 0 ≤ (0 : Int) := (by omega)
                          have q134 : 0 < (x5_2.length : Int) := of_decide_eq_true (by first | (with_reducible assumption) | assumption)
                          obtain ⟨ad134, e134, hx134_0⟩ := Kd.at_int (Kd.Q_reads' HO_5.out).2.2 0 p134 q134
                          cases e134
                          have qi134 : (0 < x5_2.length) = True := eq_true (by omega)
                          (try rw [show ((0 : Int)).toNat = 0 from rfl] at hx134_0)
                          (try rw [Addr.add_zero'] at hx134_0)
                          replace p134 := eq_true p134
                          replace q134 := eq_true q134
                          have q20 : (1 : Int) ≤ ((x5_2.length : Int) : Int) := of_decide_eq_true (by first | (with_reducible assumption) | assumption)
                          obtain ⟨i020, hi020, _, hsz20, _⟩ := info_parts info3
                          have hcut20 := cut_from (P := Try.prog) 26 3 .i64 Try.underlying26 hi020 1 hsz20 (some ad134) x5_2.length co19 1 (by omega) q20
                          have hr20 := Kd.Q_drop (k := (1 : Int).toNat) HO_5.out (by omega)
                          obtain ⟨A20, hA20⟩ : ∃ A1, A1 = (if co19 = (1 : Int).toNat then (some ad134) else ((some ad134) : Option Addr).map (·.add ((1 : Int).toNat * 1))) := ⟨_, rfl⟩
                          obtain ⟨c20, hc20⟩ : ∃ c1, c1 = co19 - (1 : Int).toNat := ⟨_, rfl⟩
                          have hy20 : y135.length = x5_2.length - (1 : Int).toNat := (by rw [Ny135.out, List.length_drop])
                          rw [← Ny135.out] at hr20
                          rw [← hy20, ← hA20, ← hc20] at hcut20
                          replace hr20 : Kd.Q (Kd.int .i64) 3 wr w.heap.size (fun k_ => some k_ ≠ (.slice (some ⟨go6, 0, none⟩) x4_2.length co6 : Value).ownBlock) (.slice A20 y135.length c20) y135 := (by rw [hA20, hc20, hy20]; exact hr20)
                          have HE20 : Aside0 ((Value.slice A20 y135.length c20).ownBlock = (.slice (some ad134) x5_2.length co19 : Value).ownBlock) := ⟨by rw [hA20]; split <;> (cases ((some ad134) : Option Addr) <;> rfl)⟩
                          clear hy20 hi020 hsz20 HO_5 hA20 hc20
                          have HO137 := Aside0.mk hr20
                          clear hr20
                          replace q20 := eq_true q20
                          have n_ := Aside0.mk (Kd.R_mono (ok' := fun k_ => some k_ ≠ (.slice A20 y135.length c20 : Value).ownBlock) HO_4.out (fun k_ hk => (by rw [HE20.out]; exact hk)))
                          clear HO_4
                          have HO_4 := n_
                          clear n_
                          have p138 : 0 ≤ ((rd x5_2 0) : Int) := of_decide_eq_true (by first | (with_reducible assumption) | assumption)
                          have q138 : (rd x5_2 0) < (l0.length : Int) := of_decide_eq_true (by first | (with_reducible assumption) | assumption)
                          obtain ⟨ad138, e138, hx138_0, hx138_1, hx138_2⟩ := at_T90 HR0.out (rd x5_2 0) p138 q138
                          cases e138
                          replace hx138_0 := (HB.out.cell (World.block_lt_of_cell? w _ hx138_0)).trans hx138_0
                          replace hx138_1 := (HB.out.cell (World.block_lt_of_cell? w _ hx138_1)).trans hx138_1
                          replace hx138_2 := (HB.out.cell (World.block_lt_of_cell? w _ hx138_2)).trans hx138_2
                          replace p138 := eq_true p138
                          replace q138 := eq_true q138
                          go_upto_region 13 with (first | ((with_reducible refine gate_callee (f := 103) rfl ?_); refine goesL_ (some 36) rfl rfl Try.func103 (by kernel_rfl) rfl #[.agg #[.int .i64 ((rd_T90 l0 (rd x5_2 0)).f0), .int .i64 ((rd_T90 l0 (rd x5_2 0)).f1), .string ((rd_T90 l0 (rd x5_2 0)).f2)]] rfl (by (try simp only [List.map_toArray, List.map_cons, List.map_nil]); first | done | rfl | (simp only [List.length_drop, List.length_take]; rfl)) ?_; (with_reducible refine (spec_l16Takes.calls k2 ((rd_T90 l0 (rd x5_2 0)).f0) ((rd_T90 l0 (rd x5_2 0)).f1) ((rd_T90 l0 (rd x5_2 0)).f2) t139 t140 _ A16.out).mono ?_); rintro e w21 ⟨rfl, hb⟩; refine ⟨_, rfl, ?_⟩; have n0_ := Aside0.mk (Kd.R_below (by (with_reducible repeat (first | apply Kd.R_alloc | apply Kd.R_drewN | apply Kd.R_drew)); exact HO_4.out) hb); have n1_ := Aside0.mk (Kd.Q_below (by (with_reducible repeat (first | apply Kd.Q_alloc | apply Kd.Q_drewN | apply Kd.Q_drew)); exact HO137.out) hb); have n2_ := Aside0.mk (below_step (by repeat (first | (with_reducible first | exact HB.out | apply below_alloc | apply pw_below_drewN | apply below_drew1) | exact HB.out)) hb); clear HO_4; clear HO137; clear HB; have HO_4 := n0_; have HO137 := n1_; have HB := n2_; clear n0_ n1_ n2_; (try clear hb); (try clear hb2); (try clear hk); (try clear hi); have p141 : 0 ≤ ((rd x5_2 0) : Int) := of_decide_eq_true (by first | (with_reducible assumption) | assumption); have q141 : (rd x5_2 0) < (x4_2.length : Int) := of_decide_eq_true (by first | (with_reducible assumption) | assumption); obtain ⟨ad141, e141, hx141_0⟩ := Kd.at_int (Kd.R_reads' HO_4.out).2.2 (rd x5_2 0) p141 q141; obtain rfl : (⟨go6, 0, none⟩ : Addr) = ad141 := (by injection e141); (first | simp only [add_plain] at hx141_0 | simp only [add_at] at hx141_0 | simp only [Addr.add, Nat.zero_add] at hx141_0 | skip); replace p141 := eq_true p141; replace q141 := eq_true q141))
                          (try simp only [Act.put, List.setIfInBounds_toArray, List.set_cons_zero, List.set_cons_succ])
                          go_cut [56] (fun v56 wc => ∃ (kq : Nat) (x56_17 : Bool), v56 = .bool x56_17 ∧ Aside0 (spec_l16Check.j2 kq l0 x4_2 y135 (rd x5_2 0) (wrap64 ((wrap64 ((rd x4_2 (rd x5_2 0)) - t139)) + t140)) x56_17 = some (r1, r2)) ∧ Aside0 (kq ≤ k2) ∧ Aside0 (Kd.R (Kd.int .i64) 3 wc w.heap.size (fun k_ => some k_ ≠ ((.slice A20 y135.length c20) : Value).ownBlock) (.slice (some ⟨go6, 0, none⟩) x4_2.length co6) x4_2) ∧ Aside0 (Kd.Q (Kd.int .i64) 3 wc w.heap.size (fun k_ => some k_ ≠ ((.slice (some ⟨go6, 0, none⟩) x4_2.length co6) : Value).ownBlock) (.slice A20 y135.length c20) y135) ∧ Aside0 (Below w.heap.size w wc))
                          case first =>
                            have H := HC18.out
                            clear HC18
                            by_cases c22 : (rd x4_2 (rd x5_2 0)) < t139
                            · rw [if_pos c22] at H
                              have c22b0 : decide ((rd x4_2 (rd x5_2 0)) < t139) = true := decide_eq_true c22
                              clear c22
                              (first | rw [c22b0] | (simp only [i64_w, i32_w]; rw [c22b0]) | skip)
                              have H' := Aside0.mk H
                              clear H
                              have p142 : 0 ≤ ((rd x5_2 0) : Int) := of_decide_eq_true (by first | (with_reducible assumption) | assumption)
                              have q142 : (rd x5_2 0) < (x4_2.length : Int) := of_decide_eq_true (by first | (with_reducible assumption) | assumption)
                              obtain ⟨ad142, e142, hx142_0⟩ := Kd.at_int (Kd.R_reads' HO_4.out).2.2 (rd x5_2 0) p142 q142
                              obtain rfl : (⟨go6, 0, none⟩ : Addr) = ad142 := (by injection e142)
                              (first | simp only [add_plain] at hx142_0 | simp only [add_at] at hx142_0 | simp only [Addr.add, Nat.zero_add] at hx142_0 | skip)
                              replace p142 := eq_true p142
                              replace q142 := eq_true q142
                              go_wp2
                              go_meet
                              case rel => exact ⟨_, (true), (by first | rfl | (simp; done) | (simp [*]; done)), H', ⟨by have := HK1.out; have := HK2.out; first | omega | exact Nat.le_refl _⟩, ⟨by (try simp only [hl4_2]); (with_reducible repeat (first | apply Kd.R_alloc | apply Kd.R_drewN | apply Kd.R_drew)); exact HO_4.out⟩, ⟨by (try simp only [hl4_2]); (with_reducible repeat (first | apply Kd.Q_alloc | apply Kd.Q_drewN | apply Kd.Q_drew)); exact HO137.out⟩, ⟨by repeat (first | (with_reducible first | exact HB.out | apply below_alloc | apply pw_below_drewN | apply below_drew1) | exact HB.out)⟩⟩
                            · rw [if_neg c22] at H
                              have c22b0 : decide ((rd x4_2 (rd x5_2 0)) < t139) = false := decide_eq_false c22
                              clear c22
                              (first | rw [c22b0] | (simp only [i64_w, i32_w]; rw [c22b0]) | skip)
                              have H' := Aside0.mk H
                              clear H
                              have p142 : 0 ≤ ((rd x5_2 0) : Int) := of_decide_eq_true (by first | (with_reducible assumption) | assumption)
                              have q142 : (rd x5_2 0) < (x4_2.length : Int) := of_decide_eq_true (by first | (with_reducible assumption) | assumption)
                              obtain ⟨ad142, e142, hx142_0⟩ := Kd.at_int (Kd.R_reads' HO_4.out).2.2 (rd x5_2 0) p142 q142
                              obtain rfl : (⟨go6, 0, none⟩ : Addr) = ad142 := (by injection e142)
                              (first | simp only [add_plain] at hx142_0 | simp only [add_at] at hx142_0 | simp only [Addr.add, Nat.zero_add] at hx142_0 | skip)
                              replace p142 := eq_true p142
                              replace q142 := eq_true q142
                              go_wp2
                              go_meet
                              case rel => exact ⟨_, (decide ((wrap64 ((wrap64 ((rd x4_2 (rd x5_2 0)) - t139)) + t140)) > 30)), (by first | rfl | (simp; done) | (simp [*]; done)), H', ⟨by have := HK1.out; have := HK2.out; first | omega | exact Nat.le_refl _⟩, ⟨by (try simp only [hl4_2]); (with_reducible repeat (first | apply Kd.R_alloc | apply Kd.R_drewN | apply Kd.R_drew)); exact HO_4.out⟩, ⟨by (try simp only [hl4_2]); (with_reducible repeat (first | apply Kd.Q_alloc | apply Kd.Q_drewN | apply Kd.Q_drew)); exact HO137.out⟩, ⟨by repeat (first | (with_reducible first | exact HB.out | apply below_alloc | apply pw_below_drewN | apply below_drew1) | exact HB.out)⟩⟩
                          case rest =>
                            clear HC18
                            try clear c1
                            try clear p1
                            try clear q1
                            try clear hx1
                            try clear qi1
                            try clear c2
                            try clear c2b0
                            try clear p2
                            try clear q2
                            try clear c3
                            try clear c5
                            try clear c5b0
                            try clear c5b1
                            try clear p6
                            try clear q6
                            try clear hx6
                            try clear qi6
                            try clear hf6
                            try clear c8
                            try clear c10
                            try clear c11
                            try clear c11b0
                            try clear c11b1
                            try clear c12
                            try clear c12b0
                            try clear c12b1
                            try clear c13
                            try clear c13b0
                            try clear c13b1
                            try clear p13
                            try clear q13
                            try clear hx13
                            try clear qi13
                            try clear c14
                            try clear c14b0
                            try clear p14
                            try clear q14
                            try clear hx14
                            try clear c15
                            try clear c15b0
                            try clear c17
                            try clear c17b0
                            try clear c20
                            try clear q20
                            try clear c22
                            try clear c22b0
                            try clear hx134_0
                            try clear hx138_0
                            try clear hx138_1
                            try clear hx138_2
                            try clear hx141_0
                            try clear hx142_0
                            try clear hx6_0
                            try clear p134
                            try clear p138
                            try clear p141
                            try clear p142
                            try clear p2
                            try clear p6
                            try clear q134
                            try clear q138
                            try clear q141
                            try clear q142
                            try clear q20
                            try clear q6
                            obtain ⟨kq, x56_17, rfl, HA, HJ17, HO_4, HO_5, HB⟩ := hcut
                            cases kq with
                            | zero => exact absurd HA.out (by simp [spec_l16Check.j2])
                            | succ kj17 =>
                              have H := HA.out
                              clear HA
                              simp only [spec_l16Check.j2] at H
                              by_cases c23 : x56_17 = true
                              · subst c23
                                have H1 : (some (([] : List Int), false)) = some (r1, r2) := by rw [if_pos rfl] at H; exact H
                                clear H
                                have H := H1
                                clear H1
                                simp only [Option.some.injEq, Prod.mk.injEq] at H
                                obtain ⟨rfl, rfl⟩ := H
                                go_wp2
                                go_ret2
                                exact ⟨_, by first | rfl | (simp [errW_none, errW_some] <;> rfl) | (simp [*, errW_none, errW_some] <;> rfl), by first | exact Kd.R_nil _ _ _ _ _ | exact Kd.N_nil _ _ _ _ _ | exact Kd.V_nil _ _ _ _ _ | exact Kd.Q_nil _ _ _ _ _ | exact Kd.S_nil _ _ _ _ _, by repeat (first | (with_reducible first | exact HB.out | apply below_alloc | apply pw_below_drewN | apply below_drew1) | exact HB.out)⟩
                              · replace c23 := Bool.eq_false_iff.mpr c23
                                subst c23
                                have H1 : ((spec_l16Next.f l0 (rd x5_2 0)).bind fun t143 => (spec_l16Check.l2 kj17 l0 x4_2 y135 (wrap64 ((wrap64 ((rd x4_2 (rd x5_2 0)) - t139)) + t140)) t143 (t143.length : Int) 0)) = some (r1, r2) := by rw [if_neg (show ¬ (false = true) by decide)] at H; exact H
                                clear H
                                have H := H1
                                clear H1
                                replace H := Option.bind_eq_some_iff.mp H
                                obtain ⟨t143, A240, H⟩ := H
                                replace H : (spec_l16Check.l2 kj17 l0 x4_2 y135 (wrap64 ((wrap64 ((rd x4_2 (rd x5_2 0)) - t139)) + t140)) t143 (t143.length : Int) 0) = some (r1, r2) := H
                                have A24 := Aside0.mk A240
                                clear A240
                                have H' := Aside0.mk H
                                clear H
                                go_wp2_with (first | ((with_reducible refine gate_callee (f := 105) rfl ?_); refine goesL_ (some 59) rfl rfl Try.func105 (by kernel_rfl) rfl #[.slice (some ad138) l0.length c0, .int .i64 (rd x5_2 0)] rfl (by (try simp only [List.map_toArray, List.map_cons, List.map_nil]); first | done | rfl | (simp only [List.length_drop, List.length_take]; rfl)) ?_; (with_reducible refine (spec_l16Next.calls _ _ l0 (rd x5_2 0) t143 _ ?side1 ?side2 A24.out).mono ?_); (case side1 => repeat (first | exact (Kd.C_below HR0.out HB.out) | (with_reducible refine Kd.C_alloc ?_ _) | (with_reducible refine Kd.C_drewN ?_ _) | (with_reducible refine Kd.C_drew ?_))); (case side2 => exact HC0.out); rintro e w25 ⟨v144, rfl, ho0, hb⟩; refine ⟨_, rfl, ?_⟩; have n0_ := Aside0.mk (Kd.R_elder' (by (with_reducible repeat (first | apply Kd.R_alloc | apply Kd.R_drewN | apply Kd.R_drew)); exact HO_4.out) (Kd.R_base ho0) hb); have n1_ := Aside0.mk (Kd.Q_elder' (by (with_reducible repeat (first | apply Kd.Q_alloc | apply Kd.Q_drewN | apply Kd.Q_drew)); exact HO_5.out) (Kd.R_base ho0) hb); have n2_ := Aside0.mk (Kd.R_lower (Kd.R_new' (Kd.R_new' ho0 (Kd.R_lt (by (with_reducible repeat (first | apply Kd.R_alloc | apply Kd.R_drewN | apply Kd.R_drew)); exact HO_4.out))) (Kd.Q_lt (by (with_reducible repeat (first | apply Kd.Q_alloc | apply Kd.Q_drewN | apply Kd.Q_drew)); exact HO_5.out))) (below_size (by repeat (first | (with_reducible first | exact HB.out | apply below_alloc | apply pw_below_drewN | apply below_drew1) | exact HB.out)))); have n3_ := Aside0.mk (below_step (by repeat (first | (with_reducible first | exact HB.out | apply below_alloc | apply pw_below_drewN | apply below_drew1) | exact HB.out)) hb); clear HO_4; clear HO_5; clear HB; have HO_4 := n0_; have HO_5 := n1_; have HO145 := n2_; have HB := n3_; clear n0_ n1_ n2_ n3_; (try clear hb); (try clear hb2); (try clear hk); (try clear hi); (try clear ho0); obtain ⟨Ao26, co26, eo26⟩ := Kd.R_slice HO145.out; subst eo26))
                                go_loopg [5, 61] kj17 (fun kq v5 v61 w' => ∃ (x4_4 : List Int) (x5_4 : List Int) (x61_4 : Int), v61 = .int .i64 x61_4 ∧ Aside0 (spec_l16Check.l2 kq l0 x4_4 x5_4 (wrap64 ((wrap64 ((rd x4_2 (rd x5_2 0)) - t139)) + t140)) t143 (t143.length : Int) x61_4 = some (r1, r2)) ∧ Aside0 (kq ≤ kj17) ∧ Aside0 (Kd.R (Kd.int .i64) 3 w' w.heap.size (fun k_ => some k_ ≠ (v5 : Value).ownBlock ∧ some k_ ≠ ((.slice Ao26 t143.length co26) : Value).ownBlock) (.slice (some ⟨go6, 0, none⟩) x4_2.length co6) x4_4) ∧ Aside0 (Kd.Q (Kd.int .i64) 3 w' w.heap.size (fun k_ => some k_ ≠ ((.slice (some ⟨go6, 0, none⟩) x4_2.length co6) : Value).ownBlock ∧ some k_ ≠ ((.slice Ao26 t143.length co26) : Value).ownBlock) v5 x5_4) ∧ Aside0 (Kd.R (Kd.int .i64) 3 w' w.heap.size (fun k_ => some k_ ≠ ((.slice (some ⟨go6, 0, none⟩) x4_2.length co6) : Value).ownBlock ∧ some k_ ≠ (v5 : Value).ownBlock) (.slice Ao26 t143.length co26) t143) ∧ Aside0 (Below w.heap.size w w'))
                                case atStart => exact ⟨(x4_2), (y135), (0), (by first | rfl | (simp; done) | (simp [*]; done)), H', ⟨Nat.le_refl _⟩, ⟨by (try simp only [hl4_2]); (with_reducible repeat (first | apply Kd.R_alloc | apply Kd.R_drewN | apply Kd.R_drew)); exact HO_4.out⟩, ⟨by (try simp only [hl4_2]); (with_reducible repeat (first | apply Kd.Q_alloc | apply Kd.Q_drewN | apply Kd.Q_drew)); exact HO_5.out⟩, ⟨by (try simp only [hl4_2]); (with_reducible repeat (first | apply Kd.R_alloc | apply Kd.R_drewN | apply Kd.R_drew)); exact Kd.R_mono HO145.out (fun _ hk => ⟨hk.1.2, hk.2⟩)⟩, ⟨by repeat (first | (with_reducible first | exact HB.out | apply below_alloc | apply pw_below_drewN | apply below_drew1) | exact HB.out)⟩⟩
                                case round =>
                                  clear H'
                                  try clear c1
                                  try clear p1
                                  try clear q1
                                  try clear hx1
                                  try clear qi1
                                  try clear c2
                                  try clear c2b0
                                  try clear p2
                                  try clear q2
                                  try clear c3
                                  try clear c5
                                  try clear c5b0
                                  try clear c5b1
                                  try clear p6
                                  try clear q6
                                  try clear hx6
                                  try clear qi6
                                  try clear hf6
                                  try clear c8
                                  try clear c10
                                  try clear c11
                                  try clear c11b0
                                  try clear c11b1
                                  try clear c12
                                  try clear c12b0
                                  try clear c12b1
                                  try clear c13
                                  try clear c13b0
                                  try clear c13b1
                                  try clear p13
                                  try clear q13
                                  try clear hx13
                                  try clear qi13
                                  try clear c14
                                  try clear c14b0
                                  try clear p14
                                  try clear q14
                                  try clear hx14
                                  try clear c15
                                  try clear c15b0
                                  try clear c17
                                  try clear c17b0
                                  try clear c20
                                  try clear q20
                                  try clear c22
                                  try clear c22b0
                                  try clear c23
                                  try clear hx134_0
                                  try clear hx138_0
                                  try clear hx138_1
                                  try clear hx138_2
                                  try clear hx141_0
                                  try clear hx142_0
                                  try clear hx6_0
                                  try clear p1
                                  try clear p13
                                  try clear p134
                                  try clear p138
                                  try clear p14
                                  try clear p141
                                  try clear p142
                                  try clear p2
                                  try clear p6
                                  try clear q1
                                  try clear q13
                                  try clear q134
                                  try clear q138
                                  try clear q14
                                  try clear q141
                                  try clear q142
                                  try clear q2
                                  try clear q20
                                  try clear q6
                                  obtain ⟨x4_4, x5_4, x61_4, rfl, HA, HK4, HO_4, HO_5, HO_59, HB⟩ := hrel
                                  have hl4_4 := (Kd.R_reads' HO_4.out).1
                                  rw [hl4_4] at HO_4
                                  (try simp only [hl4_4])
                                  (try simp only [hl4_4] at HO_5)
                                  (try simp only [hl4_4] at HO_59)
                                  cases gk with
                                  | zero => exact absurd HA.out (by simp [spec_l16Check.l2])
                                  | succ k4 =>
                                    have H := HA.out
                                    clear HA
                                    simp only [spec_l16Check.l2] at H
                                    by_cases c27 : x61_4 < (t143.length : Int)
                                    · rw [if_pos c27] at H
                                      have c27b0 : decide (x61_4 < (t143.length : Int)) = true := decide_eq_true c27
                                      clear c27
                                      by_cases c28 : 0 ≤ x61_4
                                      · rw [if_pos c28] at H
                                        have c28b0 : decide (0 ≤ x61_4) = true := decide_eq_true c28
                                        clear c28
                                        by_cases c29 : x61_4 < (t143.length : Int)
                                        · rw [if_pos c29] at H
                                          have c29b0 : decide (x61_4 < (t143.length : Int)) = true := decide_eq_true c29
                                          clear c29
                                          have HC30 := Aside0.mk H
                                          clear H
                                          have p146 : 0 ≤ (x61_4 : Int) := of_decide_eq_true (by first | (with_reducible assumption) | assumption)
                                          have q146 : x61_4 < (t143.length : Int) := of_decide_eq_true (by first | (with_reducible assumption) | assumption)
                                          obtain ⟨ad146, e146, hx146_0⟩ := Kd.at_int (Kd.R_reads' HO_59.out).2.2 x61_4 p146 q146
                                          cases e146
                                          replace p146 := eq_true p146
                                          replace q146 := eq_true q146
                                          go_upto_region 18 with (fail)
                                          go_cut [83] (fun v83 wc => ∃ (kq : Nat) (x83_29 : Bool), v83 = .bool x83_29 ∧ Aside0 (spec_l16Check.j4 kq l0 x4_4 x5_4 (wrap64 ((wrap64 ((rd x4_2 (rd x5_2 0)) - t139)) + t140)) (rd t143 x61_4) t143 (t143.length : Int) x61_4 x83_29 = some (r1, r2)) ∧ Aside0 (kq ≤ k4) ∧ Aside0 (Kd.R (Kd.int .i64) 3 wc w.heap.size (fun k_ => some k_ ≠ (u5 : Value).ownBlock ∧ some k_ ≠ ((.slice (some ad146) t143.length co26) : Value).ownBlock) (.slice (some ⟨go6, 0, none⟩) x4_4.length co6) x4_4) ∧ Aside0 (Kd.Q (Kd.int .i64) 3 wc w.heap.size (fun k_ => some k_ ≠ ((.slice (some ⟨go6, 0, none⟩) x4_4.length co6) : Value).ownBlock ∧ some k_ ≠ ((.slice (some ad146) t143.length co26) : Value).ownBlock) u5 x5_4) ∧ Aside0 (Kd.R (Kd.int .i64) 3 wc w.heap.size (fun k_ => some k_ ≠ ((.slice (some ⟨go6, 0, none⟩) x4_4.length co6) : Value).ownBlock ∧ some k_ ≠ (u5 : Value).ownBlock) (.slice (some ad146) t143.length co26) t143) ∧ Aside0 (Below w.heap.size w wc))
                                          case first =>
                                            have H := HC30.out
                                            clear HC30
                                            by_cases c31 : (rd t143 x61_4) ≥ (l0.length : Int)
                                            · rw [if_pos c31] at H
                                              have c31b0 : decide ((l0.length : Int) ≤ (rd t143 x61_4)) = true := decide_eq_true c31
                                              clear c31
                                              (first | rw [c31b0] | (simp only [i64_w, i32_w]; rw [c31b0]) | skip)
                                              have H' := Aside0.mk H
                                              clear H
                                              go_wp2
                                              go_meet
                                              case rel => exact ⟨_, (true), (by first | rfl | (simp; done) | (simp [*]; done)), H', ⟨by have := HK1.out; have := HK2.out; have := HJ17.out; have := HK4.out; first | omega | exact Nat.le_refl _⟩, ⟨by (try simp only [hl4_2]); (try simp only [hl4_4]); (with_reducible repeat (first | apply Kd.R_alloc | apply Kd.R_drewN | apply Kd.R_drew)); exact HO_4.out⟩, ⟨by (try simp only [hl4_2]); (try simp only [hl4_4]); (with_reducible repeat (first | apply Kd.Q_alloc | apply Kd.Q_drewN | apply Kd.Q_drew)); exact HO_5.out⟩, ⟨by (try simp only [hl4_2]); (try simp only [hl4_4]); (with_reducible repeat (first | apply Kd.R_alloc | apply Kd.R_drewN | apply Kd.R_drew)); exact HO_59.out⟩, ⟨by repeat (first | (with_reducible first | exact HB.out | apply below_alloc | apply pw_below_drewN | apply below_drew1) | exact HB.out)⟩⟩
                                            · rw [if_neg c31] at H
                                              have c31b0 : decide ((l0.length : Int) ≤ (rd t143 x61_4)) = false := decide_eq_false c31
                                              clear c31
                                              (first | rw [c31b0] | (simp only [i64_w, i32_w]; rw [c31b0]) | skip)
                                              by_cases c32 : 0 ≤ (rd t143 x61_4)
                                              · rw [if_pos c32] at H
                                                have c32b0 : decide (0 ≤ (rd t143 x61_4)) = true := decide_eq_true c32
                                                clear c32
                                                by_cases c33 : (rd t143 x61_4) < (x4_4.length : Int)
                                                · rw [if_pos c33] at H
                                                  have c33b0 : decide ((rd t143 x61_4) < (x4_4.length : Int)) = true := decide_eq_true c33
                                                  clear c33
                                                  by_cases c34 : (rd x4_4 (rd t143 x61_4)) ≥ 0
                                                  · rw [if_pos c34] at H
                                                    have c34b0 : decide (0 ≤ (rd x4_4 (rd t143 x61_4))) = true := decide_eq_true c34
                                                    clear c34
                                                    have H' := Aside0.mk H
                                                    clear H
                                                    have p147 : 0 ≤ ((rd t143 x61_4) : Int) := of_decide_eq_true (by first | (with_reducible assumption) | assumption)
                                                    have q147 : (rd t143 x61_4) < (x4_4.length : Int) := of_decide_eq_true (by first | (with_reducible assumption) | assumption)
                                                    obtain ⟨ad147, e147, hx147_0⟩ := Kd.at_int (Kd.R_reads' HO_4.out).2.2 (rd t143 x61_4) p147 q147
                                                    obtain rfl : (⟨go6, 0, none⟩ : Addr) = ad147 := (by injection e147)
                                                    (first | simp only [add_plain] at hx147_0 | simp only [add_at] at hx147_0 | simp only [Addr.add, Nat.zero_add] at hx147_0 | skip)
                                                    replace p147 := eq_true p147
                                                    replace q147 := eq_true q147
                                                    have p148 : 0 ≤ ((rd t143 x61_4) : Int) := of_decide_eq_true (by first | (with_reducible assumption) | assumption)
                                                    have q148 : (rd t143 x61_4) < (x4_4.length : Int) := of_decide_eq_true (by first | (with_reducible assumption) | assumption)
                                                    obtain ⟨ad148, e148, hx148_0⟩ := Kd.at_int (Kd.R_reads' HO_4.out).2.2 (rd t143 x61_4) p148 q148
                                                    obtain rfl : (⟨go6, 0, none⟩ : Addr) = ad148 := (by injection e148)
                                                    (first | simp only [add_plain] at hx148_0 | simp only [add_at] at hx148_0 | simp only [Addr.add, Nat.zero_add] at hx148_0 | skip)
                                                    replace p148 := eq_true p148
                                                    replace q148 := eq_true q148
                                                    go_wp2
                                                    go_meet
                                                    case rel => exact ⟨_, (((rd x4_4 (rd t143 x61_4)) != (wrap64 ((wrap64 ((rd x4_2 (rd x5_2 0)) - t139)) + t140)))), (by first | rfl | (simp; done) | (simp [*]; done)), H', ⟨by have := HK1.out; have := HK2.out; have := HJ17.out; have := HK4.out; first | omega | exact Nat.le_refl _⟩, ⟨by (try simp only [hl4_2]); (try simp only [hl4_4]); (with_reducible repeat (first | apply Kd.R_alloc | apply Kd.R_drewN | apply Kd.R_drew)); exact HO_4.out⟩, ⟨by (try simp only [hl4_2]); (try simp only [hl4_4]); (with_reducible repeat (first | apply Kd.Q_alloc | apply Kd.Q_drewN | apply Kd.Q_drew)); exact HO_5.out⟩, ⟨by (try simp only [hl4_2]); (try simp only [hl4_4]); (with_reducible repeat (first | apply Kd.R_alloc | apply Kd.R_drewN | apply Kd.R_drew)); exact HO_59.out⟩, ⟨by repeat (first | (with_reducible first | exact HB.out | apply below_alloc | apply pw_below_drewN | apply below_drew1) | exact HB.out)⟩⟩
                                                  · rw [if_neg c34] at H
                                                    have c34b0 : decide (0 ≤ (rd x4_4 (rd t143 x61_4))) = false := decide_eq_false c34
                                                    clear c34
                                                    have H' := Aside0.mk H
                                                    clear H
                                                    have p147 : 0 ≤ ((rd t143 x61_4) : Int) := of_decide_eq_true (by first | (with_reducible assumption) | assumption)
                                                    have q147 : (rd t143 x61_4) < (x4_4.length : Int) := of_decide_eq_true (by first | (with_reducible assumption) | assumption)
                                                    obtain ⟨ad147, e147, hx147_0⟩ := Kd.at_int (Kd.R_reads' HO_4.out).2.2 (rd t143 x61_4) p147 q147
                                                    obtain rfl : (⟨go6, 0, none⟩ : Addr) = ad147 := (by injection e147)
                                                    (first | simp only [add_plain] at hx147_0 | simp only [add_at] at hx147_0 | simp only [Addr.add, Nat.zero_add] at hx147_0 | skip)
                                                    replace p147 := eq_true p147
                                                    replace q147 := eq_true q147
                                                    go_wp2
                                                    go_meet
                                                    case rel => exact ⟨_, (false), (by first | rfl | (simp; done) | (simp [*]; done)), H', ⟨by have := HK1.out; have := HK2.out; have := HJ17.out; have := HK4.out; first | omega | exact Nat.le_refl _⟩, ⟨by (try simp only [hl4_2]); (try simp only [hl4_4]); (with_reducible repeat (first | apply Kd.R_alloc | apply Kd.R_drewN | apply Kd.R_drew)); exact HO_4.out⟩, ⟨by (try simp only [hl4_2]); (try simp only [hl4_4]); (with_reducible repeat (first | apply Kd.Q_alloc | apply Kd.Q_drewN | apply Kd.Q_drew)); exact HO_5.out⟩, ⟨by (try simp only [hl4_2]); (try simp only [hl4_4]); (with_reducible repeat (first | apply Kd.R_alloc | apply Kd.R_drewN | apply Kd.R_drew)); exact HO_59.out⟩, ⟨by repeat (first | (with_reducible first | exact HB.out | apply below_alloc | apply pw_below_drewN | apply below_drew1) | exact HB.out)⟩⟩
                                                · rw [if_neg c33] at H
                                                  exact absurd H (by simp)
                                              · rw [if_neg c32] at H
                                                exact absurd H (by simp)
                                          case rest =>
                                            clear HC30
                                            try clear c1
                                            try clear p1
                                            try clear q1
                                            try clear hx1
                                            try clear qi1
                                            try clear c2
                                            try clear c2b0
                                            try clear p2
                                            try clear q2
                                            try clear c3
                                            try clear c5
                                            try clear c5b0
                                            try clear c5b1
                                            try clear p6
                                            try clear q6
                                            try clear hx6
                                            try clear qi6
                                            try clear hf6
                                            try clear c8
                                            try clear c10
                                            try clear c11
                                            try clear c11b0
                                            try clear c11b1
                                            try clear c12
                                            try clear c12b0
                                            try clear c12b1
                                            try clear c13
                                            try clear c13b0
                                            try clear c13b1
                                            try clear p13
                                            try clear q13
                                            try clear hx13
                                            try clear qi13
                                            try clear c14
                                            try clear c14b0
                                            try clear p14
                                            try clear q14
                                            try clear hx14
                                            try clear c15
                                            try clear c15b0
                                            try clear c17
                                            try clear c17b0
                                            try clear c20
                                            try clear q20
                                            try clear c22
                                            try clear c22b0
                                            try clear c23
                                            try clear c27
                                            try clear c27b0
                                            try clear c28
                                            try clear c28b0
                                            try clear c29
                                            try clear c29b0
                                            try clear c31
                                            try clear c31b0
                                            try clear c32
                                            try clear c32b0
                                            try clear c33
                                            try clear c33b0
                                            try clear c34
                                            try clear c34b0
                                            try clear hx134_0
                                            try clear hx138_0
                                            try clear hx138_1
                                            try clear hx138_2
                                            try clear hx141_0
                                            try clear hx142_0
                                            try clear hx146_0
                                            try clear hx147_0
                                            try clear hx148_0
                                            try clear hx6_0
                                            try clear p1
                                            try clear p13
                                            try clear p134
                                            try clear p138
                                            try clear p14
                                            try clear p141
                                            try clear p142
                                            try clear p146
                                            try clear p147
                                            try clear p148
                                            try clear p2
                                            try clear p6
                                            try clear q1
                                            try clear q13
                                            try clear q134
                                            try clear q138
                                            try clear q14
                                            try clear q141
                                            try clear q142
                                            try clear q146
                                            try clear q147
                                            try clear q148
                                            try clear q2
                                            try clear q20
                                            try clear q6
                                            obtain ⟨kq, x83_29, rfl, HA, HJ29, HO_4, HO_5, HO_59, HB⟩ := hcut
                                            cases kq with
                                            | zero => exact absurd HA.out (by simp [spec_l16Check.j4])
                                            | succ kj29 =>
                                              have H := HA.out
                                              clear HA
                                              simp only [spec_l16Check.j4] at H
                                              by_cases c35 : x83_29 = true
                                              · subst c35
                                                have H1 : (some (([] : List Int), false)) = some (r1, r2) := by rw [if_pos rfl] at H; exact H
                                                clear H
                                                have H := H1
                                                clear H1
                                                simp only [Option.some.injEq, Prod.mk.injEq] at H
                                                obtain ⟨rfl, rfl⟩ := H
                                                go_wp2
                                                go_ret2
                                                exact ⟨_, by first | rfl | (simp [errW_none, errW_some] <;> rfl) | (simp [*, errW_none, errW_some] <;> rfl), by first | exact Kd.R_nil _ _ _ _ _ | exact Kd.N_nil _ _ _ _ _ | exact Kd.V_nil _ _ _ _ _ | exact Kd.Q_nil _ _ _ _ _ | exact Kd.S_nil _ _ _ _ _, by repeat (first | (with_reducible first | exact HB.out | apply below_alloc | apply pw_below_drewN | apply below_drew1) | exact HB.out)⟩
                                              · replace c35 := Bool.eq_false_iff.mpr c35
                                                subst c35
                                                have H1 : (if 0 ≤ (rd t143 x61_4) then (if (rd t143 x61_4) < (x4_4.length : Int) then (if (rd x4_4 (rd t143 x61_4)) < 0 then ((some (([] : List Int) : List Int)).bind fun y151 => (if y151.length + x5_4.length < 17592186044416 then ((some (y151 ++ x5_4 : List Int)).bind fun y154 => (if y154.length < 17592186044416 then (spec_l16Check.l2 kj29 l0 (x4_4.set ((rd t143 x61_4) : Int).toNat (wrap64 ((wrap64 ((rd x4_2 (rd x5_2 0)) - t139)) + t140))) (y154 ++ [(rd t143 x61_4)]) (wrap64 ((wrap64 ((rd x4_2 (rd x5_2 0)) - t139)) + t140)) t143 (t143.length : Int) (wrap64 (x61_4 + 1))) else (none))) else (none))) else (spec_l16Check.l2 kj29 l0 x4_4 x5_4 (wrap64 ((wrap64 ((rd x4_2 (rd x5_2 0)) - t139)) + t140)) t143 (t143.length : Int) (wrap64 (x61_4 + 1)))) else (none)) else (none)) = some (r1, r2) := by rw [if_neg (show ¬ (false = true) by decide)] at H; exact H
                                                clear H
                                                have H := H1
                                                clear H1
                                                by_cases c36 : 0 ≤ (rd t143 x61_4)
                                                · rw [if_pos c36] at H
                                                  have c36b0 : decide (0 ≤ (rd t143 x61_4)) = true := decide_eq_true c36
                                                  clear c36
                                                  by_cases c37 : (rd t143 x61_4) < (x4_4.length : Int)
                                                  · rw [if_pos c37] at H
                                                    have c37b0 : decide ((rd t143 x61_4) < (x4_4.length : Int)) = true := decide_eq_true c37
                                                    clear c37
                                                    by_cases c38 : (rd x4_4 (rd t143 x61_4)) < 0
                                                    · rw [if_pos c38] at H
                                                      have c38b0 : decide ((rd x4_4 (rd t143 x61_4)) < 0) = true := decide_eq_true c38
                                                      clear c38
                                                      obtain ⟨y150, hy150⟩ : ∃ y_ : List Int, y_ = (x4_4.set ((rd t143 x61_4) : Int).toNat (wrap64 ((wrap64 ((rd x4_2 (rd x5_2 0)) - t139)) + t140))) := ⟨_, rfl⟩
                                                      replace H : ((some (([] : List Int) : List Int)).bind fun y151 => (if y151.length + x5_4.length < 17592186044416 then ((some (y151 ++ x5_4 : List Int)).bind fun y154 => (if y154.length < 17592186044416 then (spec_l16Check.l2 kj29 l0 y150 (y154 ++ [(rd t143 x61_4)]) (wrap64 ((wrap64 ((rd x4_2 (rd x5_2 0)) - t139)) + t140)) t143 (t143.length : Int) (wrap64 (x61_4 + 1))) else (none))) else (none))) = some (r1, r2) := by first | (rw [hy150]; with_reducible exact H) | (have H2_ := (Option.bind_some _ _).symm.trans H; rw [hy150]; with_reducible exact H2_) | (have H2_ := (Option.bind_some _ _).symm.trans H; with_reducible exact H2_) | with_reducible exact H | (rw [hy150]; exact H) | exact H
                                                      have Ny150 := Aside0.mk hy150
                                                      clear hy150
                                                      obtain ⟨y151, hy151⟩ : ∃ y_ : List Int, y_ = (([] : List Int)) := ⟨_, rfl⟩
                                                      replace H : (if y151.length + x5_4.length < 17592186044416 then ((some (y151 ++ x5_4 : List Int)).bind fun y154 => (if y154.length < 17592186044416 then (spec_l16Check.l2 kj29 l0 y150 (y154 ++ [(rd t143 x61_4)]) (wrap64 ((wrap64 ((rd x4_2 (rd x5_2 0)) - t139)) + t140)) t143 (t143.length : Int) (wrap64 (x61_4 + 1))) else (none))) else (none)) = some (r1, r2) := by first | (rw [hy151]; with_reducible exact H) | (have H2_ := (Option.bind_some _ _).symm.trans H; rw [hy151]; with_reducible exact H2_) | (have H2_ := (Option.bind_some _ _).symm.trans H; with_reducible exact H2_) | with_reducible exact H | (rw [hy151]; exact H) | exact H
                                                      have Ny151 := Aside0.mk hy151
                                                      clear hy151
                                                      by_cases c40 : y151.length + x5_4.length < 17592186044416
                                                      · rw [if_pos c40] at H
                                                        have LMc40 := Aside0.mk c40
                                                        clear c40
                                                        obtain ⟨y154, hy154⟩ : ∃ y_ : List Int, y_ = (y151 ++ x5_4) := ⟨_, rfl⟩
                                                        replace H : (if y154.length < 17592186044416 then (spec_l16Check.l2 kj29 l0 y150 (y154 ++ [(rd t143 x61_4)]) (wrap64 ((wrap64 ((rd x4_2 (rd x5_2 0)) - t139)) + t140)) t143 (t143.length : Int) (wrap64 (x61_4 + 1))) else (none)) = some (r1, r2) := by first | (rw [hy154]; with_reducible exact H) | (have H2_ := (Option.bind_some _ _).symm.trans H; rw [hy154]; with_reducible exact H2_) | (have H2_ := (Option.bind_some _ _).symm.trans H; with_reducible exact H2_) | with_reducible exact H | (rw [hy154]; exact H) | exact H
                                                        have Ny154 := Aside0.mk hy154
                                                        clear hy154
                                                        by_cases c41 : y154.length < 17592186044416
                                                        · rw [if_pos c41] at H
                                                          have LMc41 := Aside0.mk c41
                                                          clear c41
                                                          obtain ⟨y157, hy157⟩ : ∃ y_ : List Int, y_ = (y154 ++ [(rd t143 x61_4)]) := ⟨_, rfl⟩
                                                          replace H : (spec_l16Check.l2 kj29 l0 y150 y157 (wrap64 ((wrap64 ((rd x4_2 (rd x5_2 0)) - t139)) + t140)) t143 (t143.length : Int) (wrap64 (x61_4 + 1))) = some (r1, r2) := by first | (rw [hy157]; with_reducible exact H) | (have H2_ := (Option.bind_some _ _).symm.trans H; rw [hy157]; with_reducible exact H2_) | (have H2_ := (Option.bind_some _ _).symm.trans H; with_reducible exact H2_) | with_reducible exact H | (rw [hy157]; exact H) | exact H
                                                          have Ny157 := Aside0.mk hy157
                                                          clear hy157
                                                          have H' := Aside0.mk H
                                                          clear H
                                                          have p149 : 0 ≤ ((rd t143 x61_4) : Int) := of_decide_eq_true (by first | (with_reducible assumption) | assumption)
                                                          have q149 : (rd t143 x61_4) < (x4_4.length : Int) := of_decide_eq_true (by first | (with_reducible assumption) | assumption)
                                                          obtain ⟨ad149, e149, hx149_0⟩ := Kd.at_int (Kd.R_reads' HO_4.out).2.2 (rd t143 x61_4) p149 q149
                                                          obtain rfl : (⟨go6, 0, none⟩ : Addr) = ad149 := (by injection e149)
                                                          (first | simp only [add_plain] at hx149_0 | simp only [add_at] at hx149_0 | simp only [Addr.add, Nat.zero_add] at hx149_0 | skip)
                                                          replace p149 := eq_true p149
                                                          replace q149 := eq_true q149
                                                          have p39 : 0 ≤ ((rd t143 x61_4) : Int) := of_decide_eq_true (by first | (with_reducible assumption) | assumption)
                                                          have q39 : ((rd t143 x61_4) : Int) < ((x4_4.length : Int) : Int) := of_decide_eq_true (by first | (with_reducible assumption) | assumption)
                                                          obtain ⟨hx39_0, hf39_0⟩ := Kd.R_celln 0 HO_4.out ((rd t143 x61_4) : Int) p39 q39
                                                          replace p39 := eq_true p39
                                                          replace q39 := eq_true q39
                                                          have HP42 := Kd.R_putg HO_4.out ((rd t143 x61_4) : Int) (wrap64 ((wrap64 ((rd x4_2 (rd x5_2 0)) - t139)) + t140))
                                                          go_wp2_with (first | ((with_reducible refine gate_store (t := 3) (p := 92) rfl ?_); refine store_event (t := 3) (p := 92) (v := ?vo_w43) (w1 := (wc.setCell ⟨go6, ((rd t143 x61_4) : Int).toNat, none⟩ (.int .i64 (wrap64 ((wrap64 ((rd x4_2 (rd x5_2 0)) - t139)) + t140))))) ?hg ?ho ?hn ?hr ?_; (case ho => rfl); (case hg => rfl); (case hn => rfl); (case hr => first | (go_simp; done) | (go_simp; rfl)); intro w43 hw; have hg : wc.grownBy w43 (some go6) := (by rw [hw]; exact HP42.2); have hp_ : Kd.R (Kd.int .i64) 3 w43 w.heap.size (fun k_ => some k_ ≠ (u5 : Value).ownBlock ∧ some k_ ≠ (.slice (some ad146) t143.length co26 : Value).ownBlock) (.slice (some ⟨go6, 0, none⟩) x4_4.length co6) y150 := (by rw [hw, Ny150.out]; exact HP42.1); clear HP42; have n0_ := Aside0.mk (hp_); have n1_ := Aside0.mk (Kd.Q_after (v := (.slice (some ⟨go6, 0, none⟩) x4_4.length co6)) (v1 := (.slice (some ⟨go6, 0, none⟩) x4_4.length co6)) (ok := (fun k_ => some k_ ≠ (.slice (some ad146) t143.length co26 : Value).ownBlock)) (by (with_reducible repeat (first | apply Kd.Q_alloc | apply Kd.Q_drewN | apply Kd.Q_drew)); exact Kd.Q_mono HO_5.out (fun _ hk => ⟨hk.2, hk.1⟩)) hg (.inl rfl)); have n2_ := Aside0.mk (Kd.R_after (v := (.slice (some ⟨go6, 0, none⟩) x4_4.length co6)) (v1 := (.slice (some ⟨go6, 0, none⟩) x4_4.length co6)) (ok := (fun k_ => some k_ ≠ (u5 : Value).ownBlock)) (by (with_reducible repeat (first | apply Kd.R_alloc | apply Kd.R_drewN | apply Kd.R_drew)); exact Kd.R_mono HO_59.out (fun _ hk => ⟨hk.2, hk.1⟩)) hg (.inl rfl)); have n3_ := Aside0.mk ((by rw [hw]; exact below_set (HB.out) GB6.out : Below w.heap.size w w43)); clear HO_4; clear HO_5; clear HO_59; clear HB; have HO_4 := n0_; have HO_5 := n1_; have HO_59 := n2_; have HB := n3_; clear n0_ n1_ n2_ n3_; clear hg hw hp_) | ((with_reducible refine gate_dst (N := 93) rfl ?_); refine Kd.R_lit (Kd.int .i64) _ 3 ?hg (N := 93) ?hd (xs := ([] : List Int)) (inner := []) (ok := fun _ => True) (okp := fun _ => True) ?hr ?hp (fun _ hk => hk) trivial (Below.refl _ _) (Nat.le_refl _) (by simp) ?_; (case hd => rfl); (case hg => rfl); (case hr => first | (go_simp; done) | (go_simp; rfl)); (case hp => exact (Reps.none _ _)); intro v152 w44 ho45 hb hg_ hnew_; clear hg_ hnew_; (first | rw [← Ny151.out] at ho45 | (simp only [Int.reduceToNat] at ho45; rw [← Ny151.out] at ho45)); have n0_ := Aside0.mk (Kd.R_elder' (by (with_reducible repeat (first | apply Kd.R_alloc | apply Kd.R_drewN | apply Kd.R_drew)); exact HO_4.out) (Kd.R_base ho45) hb); have n1_ := Aside0.mk (Kd.Q_elder' (by (with_reducible repeat (first | apply Kd.Q_alloc | apply Kd.Q_drewN | apply Kd.Q_drew)); exact HO_5.out) (Kd.R_base ho45) hb); have n2_ := Aside0.mk (Kd.R_elder' (by (with_reducible repeat (first | apply Kd.R_alloc | apply Kd.R_drewN | apply Kd.R_drew)); exact HO_59.out) (Kd.R_base ho45) hb); have n3_ := Aside0.mk (Kd.R_lower (Kd.R_new' (Kd.R_new' (Kd.R_new' ho45 (Kd.R_lt (by (with_reducible repeat (first | apply Kd.R_alloc | apply Kd.R_drewN | apply Kd.R_drew)); exact HO_4.out))) (Kd.Q_lt (by (with_reducible repeat (first | apply Kd.Q_alloc | apply Kd.Q_drewN | apply Kd.Q_drew)); exact HO_5.out))) (Kd.R_lt (by (with_reducible repeat (first | apply Kd.R_alloc | apply Kd.R_drewN | apply Kd.R_drew)); exact HO_59.out))) (below_size (by repeat (first | (with_reducible first | exact HB.out | apply below_alloc | apply pw_below_drewN | apply below_drew1) | exact HB.out)))); have n4_ := Aside0.mk (below_step (by repeat (first | (with_reducible first | exact HB.out | apply below_alloc | apply pw_below_drewN | apply below_drew1) | exact HB.out)) hb); clear HO_4; clear HO_5; clear HO_59; clear HB; have HO_4 := n0_; have HO_5 := n1_; have HO_59 := n2_; have HO153 := n3_; have HB := n4_; clear n0_ n1_ n2_ n3_ n4_; clear hb ho45; obtain ⟨Ao47, co47, eo47, _⟩ := Kd.Q_slice HO_5.out; subst eo47) | ((with_reducible refine gate_builtin (b := .append) (xs := #[.tmp 93, .tmp 94]) rfl ?_); at_builtin; refine Kd.R_append_rows (Kd.int .i64) (w0 := w) w.heap.size rfl (.tmp 93) (.tmp 94) 26 3 (.int .i64 0) 8 rfl Try.underlying26 info3 rfl (by decide) (by omega) v152 y151 x5_4 _ _ _ (fun k_ => some k_ ≠ (.slice (some ⟨go6, 0, none⟩) x4_4.length co6 : Value).ownBlock ∧ some k_ ≠ (.slice Ao47 x5_4.length co47 : Value).ownBlock ∧ some k_ ≠ (.slice (some ad146) t143.length co26 : Value).ownBlock) (fun _ => False) rfl rfl ?aO ?aR (fun _ _ h => h) (fun _ h => h.elim) ?aF ?aB ?aS ?aL ?_; (case aR => repeat (first | exact (Kd.Q_reads' HO_5.out).2.2 | (with_reducible refine Kd.C_alloc ?_ _) | (with_reducible refine Kd.C_drewN ?_ _) | (with_reducible refine Kd.C_drew ?_))); (case aB => exact (by repeat (first | (with_reducible first | exact HB.out | apply below_alloc | apply pw_below_drewN | apply below_drew1) | exact HB.out))); (case aF => exact (fun k_ hk => ⟨Kd.fresh' (Kd.R_lt (by (with_reducible repeat (first | apply Kd.R_alloc | apply Kd.R_drewN | apply Kd.R_drew)); exact HO_4.out)) k_ hk, Kd.fresh' (Kd.Q_lt (by (with_reducible repeat (first | apply Kd.Q_alloc | apply Kd.Q_drewN | apply Kd.Q_drew)); exact HO_5.out)) k_ hk, Kd.fresh' (Kd.R_lt (by (with_reducible repeat (first | apply Kd.R_alloc | apply Kd.R_drewN | apply Kd.R_drew)); exact HO_59.out)) k_ hk⟩)); (case aO => exact (by (with_reducible repeat (first | apply Kd.R_alloc | apply Kd.R_drewN | apply Kd.R_drew)); exact Kd.R_mono HO153.out (fun _ hk => ⟨hk.1.1.2, ⟨hk.1.2, hk.2⟩⟩))); (case aS => exact (below_size (by repeat (first | (with_reducible first | exact HB.out | apply below_alloc | apply pw_below_drewN | apply below_drew1) | exact HB.out)))); (case aL => have := LMc40.out; omega); intro v155 w46 ho hb hg hat; rw [← Ny154.out] at ho; have n0_ := Aside0.mk (Kd.R_after (ok := (fun k_ => some k_ ≠ (.slice Ao47 x5_4.length co47 : Value).ownBlock ∧ some k_ ≠ (.slice (some ad146) t143.length co26 : Value).ownBlock)) (by (with_reducible repeat (first | apply Kd.R_alloc | apply Kd.R_drewN | apply Kd.R_drew)); exact HO_4.out) hg hat); have n1_ := Aside0.mk (Kd.Q_after (ok := (fun k_ => some k_ ≠ (.slice (some ⟨go6, 0, none⟩) x4_4.length co6 : Value).ownBlock ∧ some k_ ≠ (.slice (some ad146) t143.length co26 : Value).ownBlock)) (by (with_reducible repeat (first | apply Kd.Q_alloc | apply Kd.Q_drewN | apply Kd.Q_drew)); exact Kd.Q_mono HO_5.out (fun _ hk => ⟨⟨hk.1.2, hk.1.1⟩, hk.2⟩)) hg hat); have n2_ := Aside0.mk (Kd.R_after (ok := (fun k_ => some k_ ≠ (.slice (some ⟨go6, 0, none⟩) x4_4.length co6 : Value).ownBlock ∧ some k_ ≠ (.slice Ao47 x5_4.length co47 : Value).ownBlock)) (by (with_reducible repeat (first | apply Kd.R_alloc | apply Kd.R_drewN | apply Kd.R_drew)); exact Kd.R_mono HO_59.out (fun _ hk => ⟨⟨hk.1.2, hk.1.1⟩, hk.2⟩)) hg hat); have n3_ := Aside0.mk (hb); have n4_ := Aside0.mk (ho); clear HO_4; clear HO_5; clear HO_59; clear HB; clear HO153; have HO_4 := n0_; have HO_5 := n1_; have HO_59 := n2_; have HB := n3_; have HO156 := n4_; clear n0_ n1_ n2_ n3_ n4_; clear ho hb hg hat) | ((with_reducible refine gate_builtin (b := .append) (xs := #[.tmp 95, .tmp 97]) rfl ?_); at_builtin; refine Kd.R_append (Kd.int .i64) (w0 := w) w.heap.size rfl (.tmp 95) (.tmp 97) 26 3 (.int .i64 0) 8 rfl Try.underlying26 info3 rfl (by decide) (by omega) v155 y154 (rd t143 x61_4) [.int .i64 (rd t143 x61_4)] (fun k_ => some k_ ≠ (.slice (some ⟨go6, 0, none⟩) x4_4.length co6 : Value).ownBlock ∧ some k_ ≠ (.slice Ao47 x5_4.length co47 : Value).ownBlock ∧ some k_ ≠ (.slice (some ad146) t143.length co26 : Value).ownBlock) (fun _ => False) rfl rfl ?aP (fun _ hk => hk.elim) ?aF ?aO ?aB ?aS ?aL ?_; (case aP => exact rfl); (case aB => exact (by repeat (first | (with_reducible first | exact HB.out | apply below_alloc | apply pw_below_drewN | apply below_drew1) | exact HB.out))); (case aF => exact (fun k_ hk => ⟨Kd.fresh' (Kd.R_lt (by (with_reducible repeat (first | apply Kd.R_alloc | apply Kd.R_drewN | apply Kd.R_drew)); exact HO_4.out)) k_ hk, Kd.fresh' (Kd.Q_lt (by (with_reducible repeat (first | apply Kd.Q_alloc | apply Kd.Q_drewN | apply Kd.Q_drew)); exact HO_5.out)) k_ hk, Kd.fresh' (Kd.R_lt (by (with_reducible repeat (first | apply Kd.R_alloc | apply Kd.R_drewN | apply Kd.R_drew)); exact HO_59.out)) k_ hk⟩)); (case aO => exact (by (with_reducible repeat (first | apply Kd.R_alloc | apply Kd.R_drewN | apply Kd.R_drew)); exact HO156.out)); (case aS => exact (below_size (by repeat (first | (with_reducible first | exact HB.out | apply below_alloc | apply pw_below_drewN | apply below_drew1) | exact HB.out)))); (case aL => have := LMc41.out; omega); intro v158 w48 ho hb hg hat; rw [← Ny157.out] at ho; have n0_ := Aside0.mk (Kd.R_after (ok := (fun k_ => some k_ ≠ (.slice Ao47 x5_4.length co47 : Value).ownBlock ∧ some k_ ≠ (.slice (some ad146) t143.length co26 : Value).ownBlock)) (by (with_reducible repeat (first | apply Kd.R_alloc | apply Kd.R_drewN | apply Kd.R_drew)); exact HO_4.out) hg hat); have n1_ := Aside0.mk (Kd.Q_after (ok := (fun k_ => some k_ ≠ (.slice (some ⟨go6, 0, none⟩) x4_4.length co6 : Value).ownBlock ∧ some k_ ≠ (.slice (some ad146) t143.length co26 : Value).ownBlock)) (by (with_reducible repeat (first | apply Kd.Q_alloc | apply Kd.Q_drewN | apply Kd.Q_drew)); exact HO_5.out) hg hat); have n2_ := Aside0.mk (Kd.R_after (ok := (fun k_ => some k_ ≠ (.slice (some ⟨go6, 0, none⟩) x4_4.length co6 : Value).ownBlock ∧ some k_ ≠ (.slice Ao47 x5_4.length co47 : Value).ownBlock)) (by (with_reducible repeat (first | apply Kd.R_alloc | apply Kd.R_drewN | apply Kd.R_drew)); exact HO_59.out) hg hat); have n3_ := Aside0.mk (hb); have n4_ := Aside0.mk (ho); clear HO_4; clear HO_5; clear HO_59; clear HB; clear HO156; have HO_4 := n0_; have HO_5 := n1_; have HO_59 := n2_; have HB := n3_; have HO159 := n4_; clear n0_ n1_ n2_ n3_ n4_; clear ho hb hg hat))
                                                          (try simp only [← hl4_4])
                                                          go_roundg kj29
                                                          case measure => have := HK1.out; have := HK2.out; have := HJ17.out; have := HK4.out; have := HJ29.out; omega
                                                          case rel => exact ⟨(y150), (y157), (wrap64 (x61_4 + 1)), (by first | rfl | (simp; done) | (simp [*]; done)), H', ⟨by have := HK1.out; have := HK2.out; have := HJ17.out; have := HK4.out; have := HJ29.out; omega⟩, ⟨by (try simp only [hl4_2]); (try simp only [hl4_4]); (with_reducible repeat (first | apply Kd.R_alloc | apply Kd.R_drewN | apply Kd.R_drew)); exact Kd.R_mono HO_4.out (fun _ hk => ⟨hk.2, hk.1.2⟩)⟩, ⟨Kd.Q_of_R (by (try simp only [hl4_2]); (try simp only [hl4_4]); (with_reducible repeat (first | apply Kd.R_alloc | apply Kd.R_drewN | apply Kd.R_drew)); exact Kd.R_mono HO159.out (fun _ hk => ⟨hk.1, hk.2.2⟩))⟩, ⟨by (try simp only [hl4_2]); (try simp only [hl4_4]); (with_reducible repeat (first | apply Kd.R_alloc | apply Kd.R_drewN | apply Kd.R_drew)); exact Kd.R_mono HO_59.out (fun _ hk => ⟨hk.1.1, hk.2⟩)⟩, ⟨by repeat (first | (with_reducible first | exact HB.out | apply below_alloc | apply pw_below_drewN | apply below_drew1) | exact HB.out)⟩⟩
                                                        · rw [if_neg c41] at H
                                                          exact absurd H (by simp)
                                                      · rw [if_neg c40] at H
                                                        exact absurd H (by simp)
                                                    · rw [if_neg c38] at H
                                                      have c38b0 : decide ((rd x4_4 (rd t143 x61_4)) < 0) = false := decide_eq_false c38
                                                      clear c38
                                                      have H' := Aside0.mk H
                                                      clear H
                                                      have p149 : 0 ≤ ((rd t143 x61_4) : Int) := of_decide_eq_true (by first | (with_reducible assumption) | assumption)
                                                      have q149 : (rd t143 x61_4) < (x4_4.length : Int) := of_decide_eq_true (by first | (with_reducible assumption) | assumption)
                                                      obtain ⟨ad149, e149, hx149_0⟩ := Kd.at_int (Kd.R_reads' HO_4.out).2.2 (rd t143 x61_4) p149 q149
                                                      obtain rfl : (⟨go6, 0, none⟩ : Addr) = ad149 := (by injection e149)
                                                      (first | simp only [add_plain] at hx149_0 | simp only [add_at] at hx149_0 | simp only [Addr.add, Nat.zero_add] at hx149_0 | skip)
                                                      replace p149 := eq_true p149
                                                      replace q149 := eq_true q149
                                                      go_wp2
                                                      (try simp only [← hl4_4])
                                                      go_roundg kj29
                                                      case measure => have := HK1.out; have := HK2.out; have := HJ17.out; have := HK4.out; have := HJ29.out; omega
                                                      case rel => exact ⟨(x4_4), (x5_4), (wrap64 (x61_4 + 1)), (by first | rfl | (simp; done) | (simp [*]; done)), H', ⟨by have := HK1.out; have := HK2.out; have := HJ17.out; have := HK4.out; have := HJ29.out; omega⟩, ⟨by (try simp only [hl4_2]); (try simp only [hl4_4]); (with_reducible repeat (first | apply Kd.R_alloc | apply Kd.R_drewN | apply Kd.R_drew)); exact HO_4.out⟩, ⟨by (try simp only [hl4_2]); (try simp only [hl4_4]); (with_reducible repeat (first | apply Kd.Q_alloc | apply Kd.Q_drewN | apply Kd.Q_drew)); exact HO_5.out⟩, ⟨by (try simp only [hl4_2]); (try simp only [hl4_4]); (with_reducible repeat (first | apply Kd.R_alloc | apply Kd.R_drewN | apply Kd.R_drew)); exact HO_59.out⟩, ⟨by repeat (first | (with_reducible first | exact HB.out | apply below_alloc | apply pw_below_drewN | apply below_drew1) | exact HB.out)⟩⟩
                                                  · rw [if_neg c37] at H
                                                    exact absurd H (by simp)
                                                · rw [if_neg c36] at H
                                                  exact absurd H (by simp)
                                        · rw [if_neg c29] at H
                                          exact absurd H (by simp)
                                      · rw [if_neg c28] at H
                                        exact absurd H (by simp)
                                    · rw [if_neg c27] at H
                                      have c27b0 : decide (x61_4 < (t143.length : Int)) = false := decide_eq_false c27
                                      clear c27
                                      have H' := Aside0.mk H
                                      clear H
                                      go_wp2
                                      (try simp only [← hl4_2, ← hl4_4])
                                      go_roundg k4
                                      case measure => have := HK1.out; have := HK2.out; have := HJ17.out; have := HK4.out; omega
                                      case rel => exact ⟨(x4_4), (x5_4), H', ⟨by have := HK1.out; have := HK2.out; have := HJ17.out; have := HK4.out; omega⟩, ⟨by (try simp only [hl4_2]); (try simp only [hl4_4]); (with_reducible repeat (first | apply Kd.R_alloc | apply Kd.R_drewN | apply Kd.R_drew)); exact Kd.R_mono HO_4.out (fun _ hk => hk.1)⟩, ⟨by (try simp only [hl4_2]); (try simp only [hl4_4]); (with_reducible repeat (first | apply Kd.Q_alloc | apply Kd.Q_drewN | apply Kd.Q_drew)); exact Kd.Q_mono HO_5.out (fun _ hk => hk.1)⟩, ⟨by repeat (first | (with_reducible first | exact HB.out | apply below_alloc | apply pw_below_drewN | apply below_drew1) | exact HB.out)⟩⟩
                        · rw [if_neg c17] at H
                          exact absurd H (by simp)
                      · rw [if_neg c15] at H
                        exact absurd H (by simp)
                    · rw [if_neg c14] at H
                      exact absurd H (by simp)
                  · rw [if_neg c13] at H
                    exact absurd H (by simp)
                · rw [if_neg c12] at H
                  exact absurd H (by simp)
              · rw [if_neg c11] at H
                have c11b0 : decide (0 < (x5_2.length : Int)) = false := decide_eq_false c11
                have c11b1 : decide (0 < x5_2.length) = false := decide_eq_false (by omega)
                clear c11
                simp only [Option.some.injEq, Prod.mk.injEq] at H
                obtain ⟨rfl, rfl⟩ := H
                obtain ⟨Ao49, co49, eo49, _⟩ := Kd.Q_slice HO_5.out
                subst eo49
                go_wp2
                go_ret2
                exact ⟨_, by first | rfl | (simp [errW_none, errW_some] <;> rfl) | (simp [*, errW_none, errW_some] <;> rfl), by (with_reducible repeat (first | apply Kd.R_alloc | apply Kd.R_drewN | apply Kd.R_drew)); exact Kd.R_mono HO_4.out (fun _ hk => trivial), by repeat (first | (with_reducible first | exact HB.out | apply below_alloc | apply pw_below_drewN | apply below_drew1) | exact HB.out)⟩
        · rw [if_neg c5] at H
          exact absurd H (by simp)

end Go.Proofs.Ytipolnpffmfmmab.PFnExactDepthOfCode
