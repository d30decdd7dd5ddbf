-- WRITTEN BY mp.py, a program of this session, out of the translation's print. Not trusted: Lean checks it.
import Derived.Test.YtipolnpffmfmmabPFnExactDepthOfCodex0
import Derived.Test.YtipolnpffmfmmabPFnExactDepthOfCodex7
import Derived.Test.YtipolnpffmfmmabPFnExactDepthOfCodex8
namespace Go.Proofs.Ytipolnpffmfmmab.PFnExactDepthOfCode
open Go.RowKit Go.Proofs.YtipolnpffmfmmabW.PrintWords Go.Proofs.YtipolnpffmfmmabW.PrintLast Go.Proofs.YtipolnpffmfmmabW.PrintMore
attribute [local go_sem] max2_int min2_int max_two min_two max_three min_three max_four min_four   -- for this text's walks alone
set_option linter.unusedVariables false
set_option linter.unusedSimpArgs false

/-! ### impl_depths: function 83 -/
mutual
def impl_depths.l0 : Nat → List (S90) → List Int → List Int → Option (List Int × Bool)
  | 0, _, _, _ => none
  | k + 1, x0, x4, x5 => if (x5.length : Int) > 0 then (if 0 < (x5.length : Int) then (if 0 ≤ (rd x5 0) then (if (rd x5 0) < (x0.length : Int) then ((impl_Bc_moves.f k ((rd_T90 x0 (rd x5 0)).f0) ((rd_T90 x0 (rd x5 0)).f1) ((rd_T90 x0 (rd x5 0)).f2)).bind fun bt216 => (if (rd x5 0) < (x4.length : Int) then (if (rd x4 (rd x5 0)) < bt216.1 then (impl_depths.j1 k x0 x4 x5 (rd x5 0) bt216.1 bt216.2 true) else (impl_depths.j1 k x0 x4 x5 (rd x5 0) bt216.1 bt216.2 (decide ((wrap64 ((wrap64 ((rd x4 (rd x5 0)) - bt216.1)) + bt216.2)) > 30)))) else (none))) else (none)) else (none)) else (none)) else (some (x4, true))
def impl_depths.j1 : Nat → List (S90) → List Int → List Int → Int → Int → Int → Bool → Option (List Int × Bool)
  | 0, _, _, _, _, _, _, _ => none
  | k + 1, x0, x4, x5, x6, x7, x8, x50 => if x50 = true then (some (([] : List Int), false)) else (if 0 ≤ x6 then (if x6 < (x0.length : Int) then ((impl_Bc_goesTo.f ((rd_T90 x0 x6).f0) ((rd_T90 x0 x6).f1) ((rd_T90 x0 x6).f2) x6).bind fun t221 => (impl_depths.l1 k x0 x4 x5 x6 x7 x8 t221 (t221.length : Int) 0)) else (none)) else (none))
def impl_depths.l1 : Nat → List (S90) → List Int → List Int → Int → Int → Int → List Int → Int → Int → Option (List Int × Bool)
  | 0, _, _, _, _, _, _, _, _, _ => none
  | k + 1, x0, x4, x5, x6, x7, x8, x56, x57, x58 => if x58 < x57 then (if 0 ≤ x58 then (if x58 < (x56.length : Int) then (if (rd x56 x58) = (x0.length : Int) then (impl_depths.j3 k x0 x4 x5 x6 x7 x8 (rd x56 x58) x56 x57 x58 true) else (if 0 ≤ (rd x56 x58) then (if (rd x56 x58) < (x4.length : Int) then (if (rd x4 (rd x56 x58)) ≥ 0 then (if 0 ≤ x6 then (if x6 < (x4.length : Int) then (impl_depths.j3 k x0 x4 x5 x6 x7 x8 (rd x56 x58) x56 x57 x58 ((rd x4 (rd x56 x58)) != (wrap64 ((wrap64 ((rd x4 x6) - x7)) + x8)))) else (none)) else (none)) else (impl_depths.j3 k x0 x4 x5 x6 x7 x8 (rd x56 x58) x56 x57 x58 false)) else (none)) else (none))) else (none)) else (none)) else (if 1 ≤ (x5.length : Int) then (impl_depths.l0 k x0 x4 (x5.drop (1 : Int).toNat)) else (none))
def impl_depths.j3 : Nat → List (S90) → List Int → List Int → Int → Int → Int → Int → List Int → Int → Int → Bool → Option (List Int × Bool)
  | 0, _, _, _, _, _, _, _, _, _, _, _ => none
  | k + 1, x0, x4, x5, x6, x7, x8, x10, x56, x57, x58, x87 => if x87 = true then (some (([] : List Int), false)) else (if 0 ≤ x10 then (if x10 < (x4.length : Int) then (if (rd x4 x10) < 0 then (if 0 ≤ x6 then (if x6 < (x4.length : Int) then (if x5.length < 17592186044416 then (impl_depths.l1 k x0 (x4.set (x10 : Int).toNat (wrap64 ((wrap64 ((rd x4 x6) - x7)) + x8))) (x5 ++ [x10]) x6 x7 x8 x56 x57 (wrap64 (x58 + 1))) else (none)) else (none)) else (none)) else (impl_depths.l1 k x0 x4 x5 x6 x7 x8 x56 x57 (wrap64 (x58 + 1)))) else (none)) else (none))
end
def impl_depths.f (k : Nat) (l0 : List (S90)) : Option (List Int × Bool) := (slices_Repeat_int_int.f (([(-1)] : List Int)) (l0.length : Int)).bind fun t207 => (if 0 < (t207.length : Int) then (impl_depths.l0 k l0 (t207.set (0 : Int).toNat 0) (([0] : List Int))) else (none))
theorem impl_depths.mono_l : ∀ k, (∀ y0 y1 y2, LeO (impl_depths.l0 k y0 y1 y2) (impl_depths.l0 (k + 1) y0 y1 y2)) ∧ (∀ y0 y1 y2 y3 y4 y5 y6, LeO (impl_depths.j1 k y0 y1 y2 y3 y4 y5 y6) (impl_depths.j1 (k + 1) y0 y1 y2 y3 y4 y5 y6)) ∧ (∀ y0 y1 y2 y3 y4 y5 y6 y7 y8, LeO (impl_depths.l1 k y0 y1 y2 y3 y4 y5 y6 y7 y8) (impl_depths.l1 (k + 1) y0 y1 y2 y3 y4 y5 y6 y7 y8)) ∧ (∀ y0 y1 y2 y3 y4 y5 y6 y7 y8 y9 y10, LeO (impl_depths.j3 k y0 y1 y2 y3 y4 y5 y6 y7 y8 y9 y10) (impl_depths.j3 (k + 1) y0 y1 y2 y3 y4 y5 y6 y7 y8 y9 y10))
  | 0 => ⟨fun _ _ _ r h => by simp [impl_depths.l0] at h, fun _ _ _ _ _ _ _ r h => by simp [impl_depths.j1] at h, fun _ _ _ _ _ _ _ _ _ r h => by simp [impl_depths.l1] at h, fun _ _ _ _ _ _ _ _ _ _ _ r h => by simp [impl_depths.j3] at h⟩
  | k + 1 => by
    obtain ⟨ih0, ih1, ih2, ih3⟩ := impl_depths.mono_l k
    refine ⟨?_, ?_, ?_, ?_⟩
    · intro y0 y1 y2
      unfold impl_depths.l0
      repeat' first
      | (with_reducible exact ih0 _ _ _)
      | (with_reducible exact ih1 _ _ _ _ _ _ _)
      | (with_reducible exact ih2 _ _ _ _ _ _ _ _ _)
      | (with_reducible exact ih3 _ _ _ _ _ _ _ _ _ _ _)
      | (with_reducible exact impl_Bc_moves.mono _ _ _ _)
      | (with_reducible exact LeO.refl _)
      | (with_reducible exact LeO.none _)
      | (with_reducible refine LeO.ite ?_ ?_)
      | (with_reducible refine LeO.bind ?_ (fun _ => ?_))
      | exact ih0 _ _ _
      | exact ih1 _ _ _ _ _ _ _
      | exact ih2 _ _ _ _ _ _ _ _ _
      | exact ih3 _ _ _ _ _ _ _ _ _ _ _
      | exact impl_Bc_moves.mono _ _ _ _
      | exact LeO.none _
      | refine LeO.ite ?_ ?_
      | refine LeO.bind ?_ (fun _ => ?_)
    · intro y0 y1 y2 y3 y4 y5 y6
      unfold impl_depths.j1
      repeat' first
      | (with_reducible exact ih0 _ _ _)
      | (with_reducible exact ih1 _ _ _ _ _ _ _)
      | (with_reducible exact ih2 _ _ _ _ _ _ _ _ _)
      | (with_reducible exact ih3 _ _ _ _ _ _ _ _ _ _ _)
      | (with_reducible exact impl_Bc_moves.mono _ _ _ _)
      | (with_reducible exact LeO.refl _)
      | (with_reducible exact LeO.none _)
      | (with_reducible refine LeO.ite ?_ ?_)
      | (with_reducible refine LeO.bind ?_ (fun _ => ?_))
      | exact ih0 _ _ _
      | exact ih1 _ _ _ _ _ _ _
      | exact ih2 _ _ _ _ _ _ _ _ _
      | exact ih3 _ _ _ _ _ _ _ _ _ _ _
      | exact impl_Bc_moves.mono _ _ _ _
      | exact LeO.none _
      | refine LeO.ite ?_ ?_
      | refine LeO.bind ?_ (fun _ => ?_)
    · intro y0 y1 y2 y3 y4 y5 y6 y7 y8
      unfold impl_depths.l1
      repeat' first
      | (with_reducible exact ih0 _ _ _)
      | (with_reducible exact ih1 _ _ _ _ _ _ _)
      | (with_reducible exact ih2 _ _ _ _ _ _ _ _ _)
      | (with_reducible exact ih3 _ _ _ _ _ _ _ _ _ _ _)
      | (with_reducible exact impl_Bc_moves.mono _ _ _ _)
      | (with_reducible exact LeO.refl _)
      | (with_reducible exact LeO.none _)
      | (with_reducible refine LeO.ite ?_ ?_)
      | (with_reducible refine LeO.bind ?_ (fun _ => ?_))
      | exact ih0 _ _ _
      | exact ih1 _ _ _ _ _ _ _
      | exact ih2 _ _ _ _ _ _ _ _ _
      | exact ih3 _ _ _ _ _ _ _ _ _ _ _
      | exact impl_Bc_moves.mono _ _ _ _
      | exact LeO.none _
      | refine LeO.ite ?_ ?_
      | refine LeO.bind ?_ (fun _ => ?_)
    · intro y0 y1 y2 y3 y4 y5 y6 y7 y8 y9 y10
      unfold impl_depths.j3
      repeat' first
      | (with_reducible exact ih0 _ _ _)
      | (with_reducible exact ih1 _ _ _ _ _ _ _)
      | (with_reducible exact ih2 _ _ _ _ _ _ _ _ _)
      | (with_reducible exact ih3 _ _ _ _ _ _ _ _ _ _ _)
      | (with_reducible exact impl_Bc_moves.mono _ _ _ _)
      | (with_reducible exact LeO.refl _)
      | (with_reducible exact LeO.none _)
      | (with_reducible refine LeO.ite ?_ ?_)
      | (with_reducible refine LeO.bind ?_ (fun _ => ?_))
      | exact ih0 _ _ _
      | exact ih1 _ _ _ _ _ _ _
      | exact ih2 _ _ _ _ _ _ _ _ _
      | exact ih3 _ _ _ _ _ _ _ _ _ _ _
      | exact impl_Bc_moves.mono _ _ _ _
      | exact LeO.none _
      | refine LeO.ite ?_ ?_
      | refine LeO.bind ?_ (fun _ => ?_)
theorem impl_depths.mono : ∀ a0 k, LeO (impl_depths.f k a0) (impl_depths.f (k + 1) a0) := by
  intro a0 k
  obtain ⟨ih0, ih1, ih2, ih3⟩ := impl_depths.mono_l k
  unfold impl_depths.f
  repeat' first
      | (with_reducible exact ih0 _ _ _)
      | (with_reducible exact ih1 _ _ _ _ _ _ _)
      | (with_reducible exact ih2 _ _ _ _ _ _ _ _ _)
      | (with_reducible exact ih3 _ _ _ _ _ _ _ _ _ _ _)
      | (with_reducible exact impl_Bc_moves.mono _ _ _ _)
      | (with_reducible exact LeO.refl _)
      | (with_reducible exact LeO.none _)
      | (with_reducible refine LeO.ite ?_ ?_)
      | (with_reducible refine LeO.bind ?_ (fun _ => ?_))
      | exact ih0 _ _ _
      | exact ih1 _ _ _ _ _ _ _
      | exact ih2 _ _ _ _ _ _ _ _ _
      | exact ih3 _ _ _ _ _ _ _ _ _ _ _
      | exact impl_Bc_moves.mono _ _ _ _
      | exact LeO.none _
      | refine LeO.ite ?_ ?_
      | refine LeO.bind ?_ (fun _ => ?_)
set_option maxHeartbeats 8000000 in
set_option maxRecDepth 100000 in
theorem impl_depths.calls (k : Nat) (A0 : Option Addr) (c0 : Nat) (l0 : List (S90)) (r1 : List Int) (r2 : Bool) (w : World) (hr0 : Kd.C k90 w A0 l0.length l0) (hc0 : l0.length ≤ c0) (h : impl_depths.f k l0 = some (r1, r2)) :
    Calls Try.prog 83 #[.slice A0 l0.length c0] w fun e w' => ∃ v0_ : Value, e = .returned (.tuple #[v0_, .bool r2]) ∧ Kd.R (Kd.int .i64) 3 w' w.heap.size (fun _ => True) v0_ r1 ∧ Below w.heap.size w w' := by
  have hu90 := Try.underlying90
  have HR0 := Aside0.mk hr0
  have HC0 := Aside0.mk hc0
  clear hr0 hc0
  have HB := Aside0.mk (Below.refl w.heap.size w)
  have H : ((slices_Repeat_int_int.f (([(-1)] : List Int)) (l0.length : Int)).bind fun t207 => (if 0 < (t207.length : Int) then (impl_depths.l0 k l0 (t207.set (0 : Int).toNat 0) (([0] : List Int))) else (none))) = some (r1, r2) := h
  clear h
  obtain ⟨y204, hy204⟩ : ∃ y_ : List Int, y_ = (([(-1)] : List Int)) := ⟨_, rfl⟩
  replace H : ((slices_Repeat_int_int.f y204 (l0.length : Int)).bind fun t207 => (if 0 < (t207.length : Int) then (impl_depths.l0 k l0 (t207.set (0 : Int).toNat 0) (([0] : List Int))) else (none))) = some (r1, r2) := by first | (rw [hy204]; with_reducible exact H) | (have H2_ := (Option.bind_some _ _).symm.trans H; rw [hy204]; with_reducible exact H2_) | (have H2_ := (Option.bind_some _ _).symm.trans H; with_reducible exact H2_) | with_reducible exact H | (rw [hy204]; exact H) | exact H
  have Ny204 := Aside0.mk hy204
  clear hy204
  replace H := Option.bind_eq_some_iff.mp H
  obtain ⟨t207, A20, H⟩ := H
  replace H : (if 0 < (t207.length : Int) then (impl_depths.l0 k l0 (t207.set (0 : Int).toNat 0) (([0] : List Int))) else (none)) = some (r1, r2) := H
  have A2 := Aside0.mk A20
  clear A20
  by_cases c3 : 0 < (t207.length : Int)
  · rw [if_pos c3] at H
    have c3b0 : decide (0 < (t207.length : Int)) = true := decide_eq_true c3
    have c3b1 : decide (0 < t207.length) = true := decide_eq_true (by omega)
    clear c3
    obtain ⟨y210, hy210⟩ : ∃ y_ : List Int, y_ = (t207.set (0 : Int).toNat 0) := ⟨_, rfl⟩
    replace H : (impl_depths.l0 k l0 y210 (([0] : List Int))) = some (r1, r2) := by first | (rw [hy210]; with_reducible exact H) | (have H2_ := (Option.bind_some _ _).symm.trans H; rw [hy210]; with_reducible exact H2_) | (have H2_ := (Option.bind_some _ _).symm.trans H; with_reducible exact H2_) | with_reducible exact H | (rw [hy210]; exact H) | exact H
    have Ny210 := Aside0.mk hy210
    clear hy210
    obtain ⟨y211, hy211⟩ : ∃ y_ : List Int, y_ = (([0] : List Int)) := ⟨_, rfl⟩
    replace H : (impl_depths.l0 k l0 y210 y211) = some (r1, r2) := by first | (rw [hy211]; with_reducible exact H) | (have H2_ := (Option.bind_some _ _).symm.trans H; rw [hy211]; with_reducible exact H2_) | (have H2_ := (Option.bind_some _ _).symm.trans H; with_reducible exact H2_) | with_reducible exact H | (rw [hy211]; exact H) | exact H
    have Ny211 := Aside0.mk hy211
    clear hy211
    have H' := Aside0.mk H
    clear H
    go_enter Try.func83, Try.ntmps83
    go_wp2_with (first | ((with_reducible refine gate_dst (N := 11) rfl ?_); refine Kd.R_lit (Kd.int .i64) _ 3 ?hg (N := 11) ?hd (xs := ([(-1)] : List Int)) (inner := [.int .i64 (-1)]) (ok := fun _ => True) (okp := fun _ => True) ?hr ?hp (fun _ hk => hk) trivial (Below.refl _ _) (Nat.le_refl _) (by simp) ?_; (case hd => rfl); (case hg => rfl); (case hr => first | (go_simp; done) | (go_simp; rfl)); (case hp => exact (Reps.one (show Kd.M (Kd.int .i64) _ _ _ (-1) [.int .i64 (-1)] from rfl) (Reps.none _ _))); intro v205 w5 ho6 hb hg_ hnew_; clear hg_ hnew_; (first | rw [← Ny204.out] at ho6 | (simp only [Int.reduceToNat] at ho6; rw [← Ny204.out] at ho6)); have n0_ := Aside0.mk (Kd.R_lower ho6 (below_size (by repeat (first | (with_reducible first | exact HB.out | apply below_alloc | apply pw_below_drewN | apply below_drew1) | exact HB.out)))); have n1_ := Aside0.mk (below_step (by repeat (first | (with_reducible first | exact HB.out | apply below_alloc | apply pw_below_drewN | apply below_drew1) | exact HB.out)) hb); clear HB; have HO206 := n0_; have HB := n1_; clear n0_ n1_; clear hb ho6; obtain ⟨Ao7, co7, eo7⟩ := Kd.R_slice HO206.out; subst eo7) | (go_at_call 96; (with_reducible refine (slices_Repeat_int_int.calls _ _ y204 (l0.length : Int) t207 _ ?side1 ?side2 A2.out).mono ?_); (case side1 => repeat (first | exact (Kd.R_reads' HO206.out).2.2 | (with_reducible refine Kd.C_alloc ?_ _) | (with_reducible refine Kd.C_drewN ?_ _) | (with_reducible refine Kd.C_drew ?_))); (case side2 => exact (Kd.R_reads' HO206.out).2.1); rintro e w8 ⟨v208, rfl, ho0, hb⟩; have n0_ := Aside0.mk (Kd.R_elder' (by (with_reducible repeat (first | apply Kd.R_alloc | apply Kd.R_drewN | apply Kd.R_drew)); exact HO206.out) (Kd.R_base ho0) hb); have n1_ := Aside0.mk (Kd.R_lower (Kd.R_new' ho0 (Kd.R_lt (by (with_reducible repeat (first | apply Kd.R_alloc | apply Kd.R_drewN | apply Kd.R_drew)); exact HO206.out))) (below_size (by repeat (first | (with_reducible first | exact HB.out | apply below_alloc | apply pw_below_drewN | apply below_drew1) | exact HB.out)))); have n2_ := Aside0.mk (below_step (by repeat (first | (with_reducible first | exact HB.out | apply below_alloc | apply pw_below_drewN | apply below_drew1) | exact HB.out)) hb); clear HO206; clear HB; have HO206 := n0_; have HO209 := n1_; have HB := n2_; clear n0_ n1_ n2_; (try clear hb); (try clear hb2); (try clear hk); (try clear hi); (try clear ho0); have p4 : 0 ≤ (0 : Int) := (by omega); have q4 : (0 : Int) < ((t207.length : Int) : Int) := of_decide_eq_true (by first | (with_reducible assumption) | assumption); have qi4 : (0 < t207.length) = True := eq_true (by omega); obtain ⟨go4, co4, eo4, gb4, gl4, cl4, HG4⟩ := Kd.R_form HO209.out (by omega); (first | cases eo4 | (injection eo4 with ea_ en_ ec_; (first | subst ea_ | (injection ea_ with ea_; subst ea_)); subst ec_; clear en_)); have GB4 := Aside0.mk gb4; have GG4 := Aside0.mk HG4; clear gb4 gl4 HG4; obtain ⟨hx4_0, hf4_0⟩ := Kd.R_celln 0 HO209.out (0 : Int) p4 q4; (try rw [show ((0 : Int)).toNat = 0 from rfl] at hx4_0); (try simp only [Nat.reduceMul, Nat.zero_mul, Nat.zero_add, Nat.reduceAdd] at hx4_0); (try rw [show ((0 : Int)).toNat = 0 from rfl] at hf4_0); (try simp only [Nat.reduceMul, Nat.zero_mul, Nat.zero_add, Nat.reduceAdd] at hf4_0); replace p4 := eq_true p4; replace q4 := eq_true q4; have n_ := Aside0.mk (Kd.R_mono (ok' := (fun k_ => some k_ ≠ (.slice Ao7 y204.length co7 : Value).ownBlock)) HO209.out (fun k_ hk => hk.2)); clear HO209; have HO209 := n_; clear n_; obtain ⟨hy9_, hz9_⟩ := Kd.R_celln 0 HO209.out (0 : Int) (by omega) (of_decide_eq_true (by first | (with_reducible assumption) | assumption)); (try simp only [Int.reduceToNat, Int.toNat_zero, Int.toNat_ofNat, Nat.reduceMul, Nat.zero_mul, Nat.zero_add] at hy9_ hz9_); (try rw [show ((0 : Int)).toNat = 0 from rfl] at hy9_); (try rw [show ((0 : Int)).toNat = 0 from rfl] at hz9_); have HP9 := Kd.R_putg HO209.out (0 : Int) 0) | ((with_reducible refine gate_store (t := 3) (p := 16) rfl ?_); (try (rw [drewN_self w8]; generalize hq_ : World.drewN w8 _ = w8; have n0_ := Aside0.mk (Kd.R_at hq_ HO206.out); have n1_ := Aside0.mk (Kd.R_at hq_ HO209.out); have n2_ := Aside0.mk (below_at hq_ HB.out); clear hq_ HO206 HO209 HB; have HO206 := n0_; have HO209 := n1_; have HB := n2_; clear n0_ n1_ n2_; (try (have n_ := Aside0.mk (Kd.R_mono (ok' := (fun k_ => some k_ ≠ (.slice Ao7 y204.length co7 : Value).ownBlock)) HO209.out (fun k_ hk => hk.2)); clear HO209; have HO209 := n_; clear n_)); (try (obtain ⟨hy9_, hz9_⟩ := Kd.R_celln 0 HO209.out (0 : Int) (by omega) (of_decide_eq_true (by first | (with_reducible assumption) | assumption)))); (try (try simp only [Int.reduceToNat, Int.toNat_zero, Int.toNat_ofNat, Nat.reduceMul, Nat.zero_mul, Nat.zero_add] at hy9_ hz9_)); (try (try rw [show ((0 : Int)).toNat = 0 from rfl] at hy9_)); (try (try rw [show ((0 : Int)).toNat = 0 from rfl] at hz9_)); (try (have HP9 := Kd.R_putg HO209.out (0 : Int) 0)))); refine store_event (t := 3) (p := 16) (v := ?vo_w10) (w1 := (w8.setCell ⟨go4, (0 : Int).toNat, none⟩ (.int .i64 0))) ?hg ?ho ?hn ?hr ?_; (case ho => rfl); (case hg => rfl); (case hn => rfl); (case hr => first | (go_simp; done) | (go_simp; rfl)); intro w10 hw; have hg : w8.grownBy w10 (some go4) := (by rw [hw]; exact HP9.2); have hp_ : Kd.R (Kd.int .i64) 3 w10 w.heap.size (fun k_ => some k_ ≠ (.slice Ao7 y204.length co7 : Value).ownBlock) (.slice (some ⟨go4, 0, none⟩) t207.length co4) y210 := (by rw [hw, Ny210.out]; exact HP9.1); clear HP9; have n0_ := Aside0.mk (Kd.R_after (v := (.slice (some ⟨go4, 0, none⟩) t207.length co4)) (v1 := (.slice (some ⟨go4, 0, none⟩) t207.length co4)) (ok := (fun _ => True)) (by (with_reducible repeat (first | apply Kd.R_alloc | apply Kd.R_drewN | apply Kd.R_drew)); exact HO206.out) hg (.inl rfl)); have n1_ := Aside0.mk (hp_); have n2_ := Aside0.mk ((by rw [hw]; exact below_set (HB.out) GB4.out : Below w.heap.size w w10)); clear HO206; clear HO209; clear HB; have HO206 := n0_; have HO209 := n1_; have HB := n2_; clear n0_ n1_ n2_; clear hg hw hp_) | ((with_reducible refine gate_dst (N := 17) rfl ?_); refine Kd.R_lit (Kd.int .i64) _ 3 ?hg (N := 17) ?hd (xs := ([0] : List Int)) (inner := [.int .i64 0]) (ok := fun _ => True) (okp := fun _ => True) ?hr ?hp (fun _ hk => hk) trivial (Below.refl _ _) (Nat.le_refl _) (by simp) ?_; (case hd => rfl); (case hg => rfl); (case hr => first | (go_simp; done) | (go_simp; rfl)); (case hp => exact (Reps.one (show Kd.M (Kd.int .i64) _ _ _ 0 [.int .i64 0] from rfl) (Reps.none _ _))); intro v212 w11 ho12 hb hg_ hnew_; clear hg_ hnew_; (first | rw [← Ny211.out] at ho12 | (simp only [Int.reduceToNat] at ho12; rw [← Ny211.out] at ho12)); have n0_ := Aside0.mk (Kd.R_elder' (by (with_reducible repeat (first | apply Kd.R_alloc | apply Kd.R_drewN | apply Kd.R_drew)); exact HO206.out) (Kd.R_base ho12) hb); have n1_ := Aside0.mk (Kd.R_elder' (by (with_reducible repeat (first | apply Kd.R_alloc | apply Kd.R_drewN | apply Kd.R_drew)); exact HO209.out) (Kd.R_base ho12) hb); have n2_ := Aside0.mk (Kd.R_lower (Kd.R_new' (Kd.R_new' ho12 (Kd.R_lt (by (with_reducible repeat (first | apply Kd.R_alloc | apply Kd.R_drewN | apply Kd.R_drew)); exact HO206.out))) (Kd.R_lt (by (with_reducible repeat (first | apply Kd.R_alloc | apply Kd.R_drewN | apply Kd.R_drew)); exact HO209.out))) (below_size (by repeat (first | (with_reducible first | exact HB.out | apply below_alloc | apply pw_below_drewN | apply below_drew1) | exact HB.out)))); have n3_ := Aside0.mk (below_step (by repeat (first | (with_reducible first | exact HB.out | apply below_alloc | apply pw_below_drewN | apply below_drew1) | exact HB.out)) hb); clear HO206; clear HO209; clear HB; have HO206 := n0_; have HO209 := n1_; have HO213 := n2_; have HB := n3_; clear n0_ n1_ n2_ n3_; clear hb ho12))
    repeat (go_quiet (first | ((with_reducible refine gate_dst (N := 11) rfl ?_); refine Kd.R_lit (Kd.int .i64) _ 3 ?hg (N := 11) ?hd (xs := ([(-1)] : List Int)) (inner := [.int .i64 (-1)]) (ok := fun _ => True) (okp := fun _ => True) ?hr ?hp (fun _ hk => hk) trivial (Below.refl _ _) (Nat.le_refl _) (by simp) ?_; (case hd => rfl); (case hg => rfl); (case hr => first | (go_simp; done) | (go_simp; rfl)); (case hp => exact (Reps.one (show Kd.M (Kd.int .i64) _ _ _ (-1) [.int .i64 (-1)] from rfl) (Reps.none _ _))); intro v205 w5 ho6 hb hg_ hnew_; clear hg_ hnew_; (first | rw [← Ny204.out] at ho6 | (simp only [Int.reduceToNat] at ho6; rw [← Ny204.out] at ho6)); have n0_ := Aside0.mk (Kd.R_lower ho6 (below_size (by repeat (first | (with_reducible first | exact HB.out | apply below_alloc | apply pw_below_drewN | apply below_drew1) | exact HB.out)))); have n1_ := Aside0.mk (below_step (by repeat (first | (with_reducible first | exact HB.out | apply below_alloc | apply pw_below_drewN | apply below_drew1) | exact HB.out)) hb); clear HB; have HO206 := n0_; have HB := n1_; clear n0_ n1_; clear hb ho6; obtain ⟨Ao7, co7, eo7⟩ := Kd.R_slice HO206.out; subst eo7) | (go_at_call 96; (with_reducible refine (slices_Repeat_int_int.calls _ _ y204 (l0.length : Int) t207 _ ?side1 ?side2 A2.out).mono ?_); (case side1 => repeat (first | exact (Kd.R_reads' HO206.out).2.2 | (with_reducible refine Kd.C_alloc ?_ _) | (with_reducible refine Kd.C_drewN ?_ _) | (with_reducible refine Kd.C_drew ?_))); (case side2 => exact (Kd.R_reads' HO206.out).2.1); rintro e w8 ⟨v208, rfl, ho0, hb⟩; have n0_ := Aside0.mk (Kd.R_elder' (by (with_reducible repeat (first | apply Kd.R_alloc | apply Kd.R_drewN | apply Kd.R_drew)); exact HO206.out) (Kd.R_base ho0) hb); have n1_ := Aside0.mk (Kd.R_lower (Kd.R_new' ho0 (Kd.R_lt (by (with_reducible repeat (first | apply Kd.R_alloc | apply Kd.R_drewN | apply Kd.R_drew)); exact HO206.out))) (below_size (by repeat (first | (with_reducible first | exact HB.out | apply below_alloc | apply pw_below_drewN | apply below_drew1) | exact HB.out)))); have n2_ := Aside0.mk (below_step (by repeat (first | (with_reducible first | exact HB.out | apply below_alloc | apply pw_below_drewN | apply below_drew1) | exact HB.out)) hb); clear HO206; clear HB; have HO206 := n0_; have HO209 := n1_; have HB := n2_; clear n0_ n1_ n2_; (try clear hb); (try clear hb2); (try clear hk); (try clear hi); (try clear ho0); have p4 : 0 ≤ (0 : Int) := (by omega); have q4 : (0 : Int) < ((t207.length : Int) : Int) := of_decide_eq_true (by first | (with_reducible assumption) | assumption); have qi4 : (0 < t207.length) = True := eq_true (by omega); obtain ⟨go4, co4, eo4, gb4, gl4, cl4, HG4⟩ := Kd.R_form HO209.out (by omega); (first | cases eo4 | (injection eo4 with ea_ en_ ec_; (first | subst ea_ | (injection ea_ with ea_; subst ea_)); subst ec_; clear en_)); have GB4 := Aside0.mk gb4; have GG4 := Aside0.mk HG4; clear gb4 gl4 HG4; obtain ⟨hx4_0, hf4_0⟩ := Kd.R_celln 0 HO209.out (0 : Int) p4 q4; (try rw [show ((0 : Int)).toNat = 0 from rfl] at hx4_0); (try simp only [Nat.reduceMul, Nat.zero_mul, Nat.zero_add, Nat.reduceAdd] at hx4_0); (try rw [show ((0 : Int)).toNat = 0 from rfl] at hf4_0); (try simp only [Nat.reduceMul, Nat.zero_mul, Nat.zero_add, Nat.reduceAdd] at hf4_0); replace p4 := eq_true p4; replace q4 := eq_true q4; have n_ := Aside0.mk (Kd.R_mono (ok' := (fun k_ => some k_ ≠ (.slice Ao7 y204.length co7 : Value).ownBlock)) HO209.out (fun k_ hk => hk.2)); clear HO209; have HO209 := n_; clear n_; obtain ⟨hy9_, hz9_⟩ := Kd.R_celln 0 HO209.out (0 : Int) (by omega) (of_decide_eq_true (by first | (with_reducible assumption) | assumption)); (try simp only [Int.reduceToNat, Int.toNat_zero, Int.toNat_ofNat, Nat.reduceMul, Nat.zero_mul, Nat.zero_add] at hy9_ hz9_); (try rw [show ((0 : Int)).toNat = 0 from rfl] at hy9_); (try rw [show ((0 : Int)).toNat = 0 from rfl] at hz9_); have HP9 := Kd.R_putg HO209.out (0 : Int) 0) | ((with_reducible refine gate_store (t := 3) (p := 16) rfl ?_); (try (rw [drewN_self w8]; generalize hq_ : World.drewN w8 _ = w8; have n0_ := Aside0.mk (Kd.R_at hq_ HO206.out); have n1_ := Aside0.mk (Kd.R_at hq_ HO209.out); have n2_ := Aside0.mk (below_at hq_ HB.out); clear hq_ HO206 HO209 HB; have HO206 := n0_; have HO209 := n1_; have HB := n2_; clear n0_ n1_ n2_; (try (have n_ := Aside0.mk (Kd.R_mono (ok' := (fun k_ => some k_ ≠ (.slice Ao7 y204.length co7 : Value).ownBlock)) HO209.out (fun k_ hk => hk.2)); clear HO209; have HO209 := n_; clear n_)); (try (obtain ⟨hy9_, hz9_⟩ := Kd.R_celln 0 HO209.out (0 : Int) (by omega) (of_decide_eq_true (by first | (with_reducible assumption) | assumption)))); (try (try simp only [Int.reduceToNat, Int.toNat_zero, Int.toNat_ofNat, Nat.reduceMul, Nat.zero_mul, Nat.zero_add] at hy9_ hz9_)); (try (try rw [show ((0 : Int)).toNat = 0 from rfl] at hy9_)); (try (try rw [show ((0 : Int)).toNat = 0 from rfl] at hz9_)); (try (have HP9 := Kd.R_putg HO209.out (0 : Int) 0)))); refine store_event (t := 3) (p := 16) (v := ?vo_w10) (w1 := (w8.setCell ⟨go4, (0 : Int).toNat, none⟩ (.int .i64 0))) ?hg ?ho ?hn ?hr ?_; (case ho => rfl); (case hg => rfl); (case hn => rfl); (case hr => first | (go_simp; done) | (go_simp; rfl)); intro w10 hw; have hg : w8.grownBy w10 (some go4) := (by rw [hw]; exact HP9.2); have hp_ : Kd.R (Kd.int .i64) 3 w10 w.heap.size (fun k_ => some k_ ≠ (.slice Ao7 y204.length co7 : Value).ownBlock) (.slice (some ⟨go4, 0, none⟩) t207.length co4) y210 := (by rw [hw, Ny210.out]; exact HP9.1); clear HP9; have n0_ := Aside0.mk (Kd.R_after (v := (.slice (some ⟨go4, 0, none⟩) t207.length co4)) (v1 := (.slice (some ⟨go4, 0, none⟩) t207.length co4)) (ok := (fun _ => True)) (by (with_reducible repeat (first | apply Kd.R_alloc | apply Kd.R_drewN | apply Kd.R_drew)); exact HO206.out) hg (.inl rfl)); have n1_ := Aside0.mk (hp_); have n2_ := Aside0.mk ((by rw [hw]; exact below_set (HB.out) GB4.out : Below w.heap.size w w10)); clear HO206; clear HO209; clear HB; have HO206 := n0_; have HO209 := n1_; have HB := n2_; clear n0_ n1_ n2_; clear hg hw hp_) | ((with_reducible refine gate_dst (N := 17) rfl ?_); refine Kd.R_lit (Kd.int .i64) _ 3 ?hg (N := 17) ?hd (xs := ([0] : List Int)) (inner := [.int .i64 0]) (ok := fun _ => True) (okp := fun _ => True) ?hr ?hp (fun _ hk => hk) trivial (Below.refl _ _) (Nat.le_refl _) (by simp) ?_; (case hd => rfl); (case hg => rfl); (case hr => first | (go_simp; done) | (go_simp; rfl)); (case hp => exact (Reps.one (show Kd.M (Kd.int .i64) _ _ _ 0 [.int .i64 0] from rfl) (Reps.none _ _))); intro v212 w11 ho12 hb hg_ hnew_; clear hg_ hnew_; (first | rw [← Ny211.out] at ho12 | (simp only [Int.reduceToNat] at ho12; rw [← Ny211.out] at ho12)); have n0_ := Aside0.mk (Kd.R_elder' (by (with_reducible repeat (first | apply Kd.R_alloc | apply Kd.R_drewN | apply Kd.R_drew)); exact HO206.out) (Kd.R_base ho12) hb); have n1_ := Aside0.mk (Kd.R_elder' (by (with_reducible repeat (first | apply Kd.R_alloc | apply Kd.R_drewN | apply Kd.R_drew)); exact HO209.out) (Kd.R_base ho12) hb); have n2_ := Aside0.mk (Kd.R_lower (Kd.R_new' (Kd.R_new' ho12 (Kd.R_lt (by (with_reducible repeat (first | apply Kd.R_alloc | apply Kd.R_drewN | apply Kd.R_drew)); exact HO206.out))) (Kd.R_lt (by (with_reducible repeat (first | apply Kd.R_alloc | apply Kd.R_drewN | apply Kd.R_drew)); exact HO209.out))) (below_size (by repeat (first | (with_reducible first | exact HB.out | apply below_alloc | apply pw_below_drewN | apply below_drew1) | exact HB.out)))); have n3_ := Aside0.mk (below_step (by repeat (first | (with_reducible first | exact HB.out | apply below_alloc | apply pw_below_drewN | apply below_drew1) | exact HB.out)) hb); clear HO206; clear HO209; clear HB; have HO206 := n0_; have HO209 := n1_; have HO213 := n2_; have HB := n3_; clear n0_ n1_ n2_ n3_; clear hb ho12)); try go_wp2_with (first | ((with_reducible refine gate_dst (N := 11) rfl ?_); refine Kd.R_lit (Kd.int .i64) _ 3 ?hg (N := 11) ?hd (xs := ([(-1)] : List Int)) (inner := [.int .i64 (-1)]) (ok := fun _ => True) (okp := fun _ => True) ?hr ?hp (fun _ hk => hk) trivial (Below.refl _ _) (Nat.le_refl _) (by simp) ?_; (case hd => rfl); (case hg => rfl); (case hr => first | (go_simp; done) | (go_simp; rfl)); (case hp => exact (Reps.one (show Kd.M (Kd.int .i64) _ _ _ (-1) [.int .i64 (-1)] from rfl) (Reps.none _ _))); intro v205 w5 ho6 hb hg_ hnew_; clear hg_ hnew_; (first | rw [← Ny204.out] at ho6 | (simp only [Int.reduceToNat] at ho6; rw [← Ny204.out] at ho6)); have n0_ := Aside0.mk (Kd.R_lower ho6 (below_size (by repeat (first | (with_reducible first | exact HB.out | apply below_alloc | apply pw_below_drewN | apply below_drew1) | exact HB.out)))); have n1_ := Aside0.mk (below_step (by repeat (first | (with_reducible first | exact HB.out | apply below_alloc | apply pw_below_drewN | apply below_drew1) | exact HB.out)) hb); clear HB; have HO206 := n0_; have HB := n1_; clear n0_ n1_; clear hb ho6; obtain ⟨Ao7, co7, eo7⟩ := Kd.R_slice HO206.out; subst eo7) | (go_at_call 96; (with_reducible refine (slices_Repeat_int_int.calls _ _ y204 (l0.length : Int) t207 _ ?side1 ?side2 A2.out).mono ?_); (case side1 => repeat (first | exact (Kd.R_reads' HO206.out).2.2 | (with_reducible refine Kd.C_alloc ?_ _) | (with_reducible refine Kd.C_drewN ?_ _) | (with_reducible refine Kd.C_drew ?_))); (case side2 => exact (Kd.R_reads' HO206.out).2.1); rintro e w8 ⟨v208, rfl, ho0, hb⟩; have n0_ := Aside0.mk (Kd.R_elder' (by (with_reducible repeat (first | apply Kd.R_alloc | apply Kd.R_drewN | apply Kd.R_drew)); exact HO206.out) (Kd.R_base ho0) hb); have n1_ := Aside0.mk (Kd.R_lower (Kd.R_new' ho0 (Kd.R_lt (by (with_reducible repeat (first | apply Kd.R_alloc | apply Kd.R_drewN | apply Kd.R_drew)); exact HO206.out))) (below_size (by repeat (first | (with_reducible first | exact HB.out | apply below_alloc | apply pw_below_drewN | apply below_drew1) | exact HB.out)))); have n2_ := Aside0.mk (below_step (by repeat (first | (with_reducible first | exact HB.out | apply below_alloc | apply pw_below_drewN | apply below_drew1) | exact HB.out)) hb); clear HO206; clear HB; have HO206 := n0_; have HO209 := n1_; have HB := n2_; clear n0_ n1_ n2_; (try clear hb); (try clear hb2); (try clear hk); (try clear hi); (try clear ho0); have p4 : 0 ≤ (0 : Int) := (by omega); have q4 : (0 : Int) < ((t207.length : Int) : Int) := of_decide_eq_true (by first | (with_reducible assumption) | assumption); have qi4 : (0 < t207.length) = True := eq_true (by omega); obtain ⟨go4, co4, eo4, gb4, gl4, cl4, HG4⟩ := Kd.R_form HO209.out (by omega); (first | cases eo4 | (injection eo4 with ea_ en_ ec_; (first | subst ea_ | (injection ea_ with ea_; subst ea_)); subst ec_; clear en_)); have GB4 := Aside0.mk gb4; have GG4 := Aside0.mk HG4; clear gb4 gl4 HG4; obtain ⟨hx4_0, hf4_0⟩ := Kd.R_celln 0 HO209.out (0 : Int) p4 q4; (try rw [show ((0 : Int)).toNat = 0 from rfl] at hx4_0); (try simp only [Nat.reduceMul, Nat.zero_mul, Nat.zero_add, Nat.reduceAdd] at hx4_0); (try rw [show ((0 : Int)).toNat = 0 from rfl] at hf4_0); (try simp only [Nat.reduceMul, Nat.zero_mul, Nat.zero_add, Nat.reduceAdd] at hf4_0); replace p4 := eq_true p4; replace q4 := eq_true q4; have n_ := Aside0.mk (Kd.R_mono (ok' := (fun k_ => some k_ ≠ (.slice Ao7 y204.length co7 : Value).ownBlock)) HO209.out (fun k_ hk => hk.2)); clear HO209; have HO209 := n_; clear n_; obtain ⟨hy9_, hz9_⟩ := Kd.R_celln 0 HO209.out (0 : Int) (by omega) (of_decide_eq_true (by first | (with_reducible assumption) | assumption)); (try simp only [Int.reduceToNat, Int.toNat_zero, Int.toNat_ofNat, Nat.reduceMul, Nat.zero_mul, Nat.zero_add] at hy9_ hz9_); (try rw [show ((0 : Int)).toNat = 0 from rfl] at hy9_); (try rw [show ((0 : Int)).toNat = 0 from rfl] at hz9_); have HP9 := Kd.R_putg HO209.out (0 : Int) 0) | ((with_reducible refine gate_store (t := 3) (p := 16) rfl ?_); (try (rw [drewN_self w8]; generalize hq_ : World.drewN w8 _ = w8; have n0_ := Aside0.mk (Kd.R_at hq_ HO206.out); have n1_ := Aside0.mk (Kd.R_at hq_ HO209.out); have n2_ := Aside0.mk (below_at hq_ HB.out); clear hq_ HO206 HO209 HB; have HO206 := n0_; have HO209 := n1_; have HB := n2_; clear n0_ n1_ n2_; (try (have n_ := Aside0.mk (Kd.R_mono (ok' := (fun k_ => some k_ ≠ (.slice Ao7 y204.length co7 : Value).ownBlock)) HO209.out (fun k_ hk => hk.2)); clear HO209; have HO209 := n_; clear n_)); (try (obtain ⟨hy9_, hz9_⟩ := Kd.R_celln 0 HO209.out (0 : Int) (by omega) (of_decide_eq_true (by first | (with_reducible assumption) | assumption)))); (try (try simp only [Int.reduceToNat, Int.toNat_zero, Int.toNat_ofNat, Nat.reduceMul, Nat.zero_mul, Nat.zero_add] at hy9_ hz9_)); (try (try rw [show ((0 : Int)).toNat = 0 from rfl] at hy9_)); (try (try rw [show ((0 : Int)).toNat = 0 from rfl] at hz9_)); (try (have HP9 := Kd.R_putg HO209.out (0 : Int) 0)))); refine store_event (t := 3) (p := 16) (v := ?vo_w10) (w1 := (w8.setCell ⟨go4, (0 : Int).toNat, none⟩ (.int .i64 0))) ?hg ?ho ?hn ?hr ?_; (case ho => rfl); (case hg => rfl); (case hn => rfl); (case hr => first | (go_simp; done) | (go_simp; rfl)); intro w10 hw; have hg : w8.grownBy w10 (some go4) := (by rw [hw]; exact HP9.2); have hp_ : Kd.R (Kd.int .i64) 3 w10 w.heap.size (fun k_ => some k_ ≠ (.slice Ao7 y204.length co7 : Value).ownBlock) (.slice (some ⟨go4, 0, none⟩) t207.length co4) y210 := (by rw [hw, Ny210.out]; exact HP9.1); clear HP9; have n0_ := Aside0.mk (Kd.R_after (v := (.slice (some ⟨go4, 0, none⟩) t207.length co4)) (v1 := (.slice (some ⟨go4, 0, none⟩) t207.length co4)) (ok := (fun _ => True)) (by (with_reducible repeat (first | apply Kd.R_alloc | apply Kd.R_drewN | apply Kd.R_drew)); exact HO206.out) hg (.inl rfl)); have n1_ := Aside0.mk (hp_); have n2_ := Aside0.mk ((by rw [hw]; exact below_set (HB.out) GB4.out : Below w.heap.size w w10)); clear HO206; clear HO209; clear HB; have HO206 := n0_; have HO209 := n1_; have HB := n2_; clear n0_ n1_ n2_; clear hg hw hp_) | ((with_reducible refine gate_dst (N := 17) rfl ?_); refine Kd.R_lit (Kd.int .i64) _ 3 ?hg (N := 17) ?hd (xs := ([0] : List Int)) (inner := [.int .i64 0]) (ok := fun _ => True) (okp := fun _ => True) ?hr ?hp (fun _ hk => hk) trivial (Below.refl _ _) (Nat.le_refl _) (by simp) ?_; (case hd => rfl); (case hg => rfl); (case hr => first | (go_simp; done) | (go_simp; rfl)); (case hp => exact (Reps.one (show Kd.M (Kd.int .i64) _ _ _ 0 [.int .i64 0] from rfl) (Reps.none _ _))); intro v212 w11 ho12 hb hg_ hnew_; clear hg_ hnew_; (first | rw [← Ny211.out] at ho12 | (simp only [Int.reduceToNat] at ho12; rw [← Ny211.out] at ho12)); have n0_ := Aside0.mk (Kd.R_elder' (by (with_reducible repeat (first | apply Kd.R_alloc | apply Kd.R_drewN | apply Kd.R_drew)); exact HO206.out) (Kd.R_base ho12) hb); have n1_ := Aside0.mk (Kd.R_elder' (by (with_reducible repeat (first | apply Kd.R_alloc | apply Kd.R_drewN | apply Kd.R_drew)); exact HO209.out) (Kd.R_base ho12) hb); have n2_ := Aside0.mk (Kd.R_lower (Kd.R_new' (Kd.R_new' ho12 (Kd.R_lt (by (with_reducible repeat (first | apply Kd.R_alloc | apply Kd.R_drewN | apply Kd.R_drew)); exact HO206.out))) (Kd.R_lt (by (with_reducible repeat (first | apply Kd.R_alloc | apply Kd.R_drewN | apply Kd.R_drew)); exact HO209.out))) (below_size (by repeat (first | (with_reducible first | exact HB.out | apply below_alloc | apply pw_below_drewN | apply below_drew1) | exact HB.out)))); have n3_ := Aside0.mk (below_step (by repeat (first | (with_reducible first | exact HB.out | apply below_alloc | apply pw_below_drewN | apply below_drew1) | exact HB.out)) hb); clear HO206; clear HO209; clear HB; have HO206 := n0_; have HO209 := n1_; have HO213 := n2_; have HB := n3_; clear n0_ n1_ n2_ n3_; clear hb ho12)))
    go_loopg [5] k (fun kq v5 w' => ∃ (x4_1 : List Int) (x5_1 : List Int), Aside0 (impl_depths.l0 kq l0 x4_1 x5_1 = some (r1, r2)) ∧ Aside0 (kq ≤ k) ∧ Aside0 (Kd.R (Kd.int .i64) 3 w' w.heap.size (fun k_ => some k_ ≠ (v5 : Value).ownBlock) (.slice (some ⟨go4, 0, none⟩) t207.length co4) x4_1) ∧ Aside0 (Kd.Q (Kd.int .i64) 3 w' w.heap.size (fun k_ => some k_ ≠ ((.slice (some ⟨go4, 0, none⟩) t207.length co4) : Value).ownBlock) v5 x5_1) ∧ Aside0 (Below w.heap.size w w'))
    case atStart => exact ⟨(y210), (y211), H', ⟨Nat.le_refl _⟩, ⟨by (with_reducible repeat (first | apply Kd.R_alloc | apply Kd.R_drewN | apply Kd.R_drew)); exact Kd.R_mono HO209.out (fun _ hk => hk.2)⟩, ⟨Kd.Q_of_R (by (with_reducible repeat (first | apply Kd.R_alloc | apply Kd.R_drewN | apply Kd.R_drew)); exact Kd.R_mono HO213.out (fun _ hk => hk.2))⟩, ⟨by repeat (first | (with_reducible first | exact HB.out | apply below_alloc | apply pw_below_drewN | apply below_drew1) | exact HB.out)⟩⟩
    case round =>
      clear H'
      try clear p2
      try clear c3
      try clear c3b0
      try clear c3b1
      try clear p4
      try clear q4
      try clear hx4
      try clear qi4
      try clear hf4
      try clear c8
      try clear hx4_0
      try clear p4
      try clear q4
      obtain ⟨x4_1, x5_1, HA, HK1, HO_4, HO_5, HB⟩ := hrel
      have hl4_1 := (Kd.R_reads' HO_4.out).1
      rw [hl4_1] at HO_4
      (try simp only [hl4_1])
      (try simp only [hl4_1] at HO_5)
      cases gk with
      | zero => exact absurd HA.out (by simp [impl_depths.l0])
      | succ k1 =>
        have H := HA.out
        clear HA
        simp only [impl_depths.l0] at H
        by_cases c13 : (x5_1.length : Int) > 0
        · rw [if_pos c13] at H
          have c13b0 : decide (0 < (x5_1.length : Int)) = true := decide_eq_true c13
          have c13b1 : decide (0 < x5_1.length) = true := decide_eq_true (by omega)
          clear c13
          by_cases c14 : 0 < (x5_1.length : Int)
          · rw [if_pos c14] at H
            have c14b0 : decide (0 < (x5_1.length : Int)) = true := decide_eq_true c14
            have c14b1 : decide (0 < x5_1.length) = true := decide_eq_true (by omega)
            clear c14
            by_cases c15 : 0 ≤ (rd x5_1 0)
            · rw [if_pos c15] at H
              have c15b0 : decide (0 ≤ (rd x5_1 0)) = true := decide_eq_true c15
              clear c15
              by_cases c16 : (rd x5_1 0) < (l0.length : Int)
              · rw [if_pos c16] at H
                have c16b0 : decide ((rd x5_1 0) < (l0.length : Int)) = true := decide_eq_true c16
                clear c16
                replace H := Option.bind_eq_some_iff.mp H
                obtain ⟨⟨t216, t217⟩, A170, H⟩ := H
                replace H : (if (rd x5_1 0) < (x4_1.length : Int) then (if (rd x4_1 (rd x5_1 0)) < t216 then (impl_depths.j1 k1 l0 x4_1 x5_1 (rd x5_1 0) t216 t217 true) else (impl_depths.j1 k1 l0 x4_1 x5_1 (rd x5_1 0) t216 t217 (decide ((wrap64 ((wrap64 ((rd x4_1 (rd x5_1 0)) - t216)) + t217)) > 30)))) else (none)) = some (r1, r2) := H
                have A17 := Aside0.mk A170
                clear A170
                have HC18 := Aside0.mk H
                clear H
                obtain ⟨Ao19, co19, eo19, _⟩ := Kd.Q_slice HO_5.out
                subst eo19
                have p214 : 0 ≤ (0 : Int) := (by omega)
                have q214 : 0 < (x5_1.length : Int) := of_decide_eq_true (by first | (with_reducible assumption) | assumption)
                obtain ⟨ad214, e214, hx214_0⟩ := Kd.at_int (Kd.Q_reads' HO_5.out).2.2 0 p214 q214
                cases e214
                have qi214 : (0 < x5_1.length) = True := eq_true (by omega)
                (try rw [show ((0 : Int)).toNat = 0 from rfl] at hx214_0)
                (try rw [Addr.add_zero'] at hx214_0)
                replace p214 := eq_true p214
                replace q214 := eq_true q214
                have p215 : 0 ≤ ((rd x5_1 0) : Int) := of_decide_eq_true (by first | (with_reducible assumption) | assumption)
                have q215 : (rd x5_1 0) < (l0.length : Int) := of_decide_eq_true (by first | (with_reducible assumption) | assumption)
                obtain ⟨ad215, e215, hx215_0, hx215_1, hx215_2⟩ := at_T90 HR0.out (rd x5_1 0) p215 q215
                cases e215
                replace hx215_0 := (HB.out.cell (World.block_lt_of_cell? w _ hx215_0)).trans hx215_0
                replace hx215_1 := (HB.out.cell (World.block_lt_of_cell? w _ hx215_1)).trans hx215_1
                replace hx215_2 := (HB.out.cell (World.block_lt_of_cell? w _ hx215_2)).trans hx215_2
                replace p215 := eq_true p215
                replace q215 := eq_true q215
                go_upto_region 8 with (first | (go_at_call 106; (with_reducible refine (impl_Bc_moves.calls k1 ((rd_T90 l0 (rd x5_1 0)).f0) ((rd_T90 l0 (rd x5_1 0)).f1) ((rd_T90 l0 (rd x5_1 0)).f2) t216 t217 _ A17.out).mono ?_); rintro e w20 ⟨rfl, hb⟩; have n0_ := Aside0.mk (Kd.R_below (by (with_reducible repeat (first | apply Kd.R_alloc | apply Kd.R_drewN | apply Kd.R_drew)); exact HO_4.out) hb); have n1_ := Aside0.mk (Kd.Q_below (by (with_reducible repeat (first | apply Kd.Q_alloc | apply Kd.Q_drewN | apply Kd.Q_drew)); exact HO_5.out) hb); have n2_ := Aside0.mk (below_step (by repeat (first | (with_reducible first | exact HB.out | apply below_alloc | apply pw_below_drewN | apply below_drew1) | exact HB.out)) hb); clear HO_4; clear HO_5; clear HB; have HO_4 := n0_; have HO_5 := n1_; have HB := n2_; clear n0_ n1_ n2_; (try clear hb); (try clear hb2); (try clear hk); (try clear hi)))
                repeat (go_quiet (first | (go_at_call 106; (with_reducible refine (impl_Bc_moves.calls k1 ((rd_T90 l0 (rd x5_1 0)).f0) ((rd_T90 l0 (rd x5_1 0)).f1) ((rd_T90 l0 (rd x5_1 0)).f2) t216 t217 _ A17.out).mono ?_); rintro e w20 ⟨rfl, hb⟩; have n0_ := Aside0.mk (Kd.R_below (by (with_reducible repeat (first | apply Kd.R_alloc | apply Kd.R_drewN | apply Kd.R_drew)); exact HO_4.out) hb); have n1_ := Aside0.mk (Kd.Q_below (by (with_reducible repeat (first | apply Kd.Q_alloc | apply Kd.Q_drewN | apply Kd.Q_drew)); exact HO_5.out) hb); have n2_ := Aside0.mk (below_step (by repeat (first | (with_reducible first | exact HB.out | apply below_alloc | apply pw_below_drewN | apply below_drew1) | exact HB.out)) hb); clear HO_4; clear HO_5; clear HB; have HO_4 := n0_; have HO_5 := n1_; have HB := n2_; clear n0_ n1_ n2_; (try clear hb); (try clear hb2); (try clear hk); (try clear hi))); go_upto_region 8 with (first | (go_at_call 106; (with_reducible refine (impl_Bc_moves.calls k1 ((rd_T90 l0 (rd x5_1 0)).f0) ((rd_T90 l0 (rd x5_1 0)).f1) ((rd_T90 l0 (rd x5_1 0)).f2) t216 t217 _ A17.out).mono ?_); rintro e w20 ⟨rfl, hb⟩; have n0_ := Aside0.mk (Kd.R_below (by (with_reducible repeat (first | apply Kd.R_alloc | apply Kd.R_drewN | apply Kd.R_drew)); exact HO_4.out) hb); have n1_ := Aside0.mk (Kd.Q_below (by (with_reducible repeat (first | apply Kd.Q_alloc | apply Kd.Q_drewN | apply Kd.Q_drew)); exact HO_5.out) hb); have n2_ := Aside0.mk (below_step (by repeat (first | (with_reducible first | exact HB.out | apply below_alloc | apply pw_below_drewN | apply below_drew1) | exact HB.out)) hb); clear HO_4; clear HO_5; clear HB; have HO_4 := n0_; have HO_5 := n1_; have HB := n2_; clear n0_ n1_ n2_; (try clear hb); (try clear hb2); (try clear hk); (try clear hi))))
                (try simp only [Act.put, List.setIfInBounds_toArray, List.set_cons_zero, List.set_cons_succ])
                go_cut [50] (fun v50 wc => ∃ (kq : Nat) (x50_17 : Bool), v50 = .bool x50_17 ∧ Aside0 (impl_depths.j1 kq l0 x4_1 x5_1 (rd x5_1 0) t216 t217 x50_17 = some (r1, r2)) ∧ Aside0 (kq ≤ k1) ∧ Aside0 (Kd.R (Kd.int .i64) 3 wc w.heap.size (fun k_ => some k_ ≠ ((.slice (some ad214) x5_1.length co19) : Value).ownBlock) (.slice (some ⟨go4, 0, none⟩) x4_1.length co4) x4_1) ∧ Aside0 (Kd.Q (Kd.int .i64) 3 wc w.heap.size (fun k_ => some k_ ≠ ((.slice (some ⟨go4, 0, none⟩) x4_1.length co4) : Value).ownBlock) (.slice (some ad214) x5_1.length co19) x5_1) ∧ Aside0 (Below w.heap.size w wc))
                case first =>
                  have H := HC18.out
                  clear HC18
                  by_cases c21 : (rd x5_1 0) < (x4_1.length : Int)
                  · rw [if_pos c21] at H
                    have c21b0 : decide ((rd x5_1 0) < (x4_1.length : Int)) = true := decide_eq_true c21
                    clear c21
                    (first | rw [c21b0] | (simp only [i64_w, i32_w]; rw [c21b0]) | skip)
                    by_cases c22 : (rd x4_1 (rd x5_1 0)) < t216
                    · rw [if_pos c22] at H
                      have c22b0 : decide ((rd x4_1 (rd x5_1 0)) < t216) = true := decide_eq_true c22
                      clear c22
                      have H' := Aside0.mk H
                      clear H
                      have p218 : 0 ≤ ((rd x5_1 0) : Int) := of_decide_eq_true (by first | (with_reducible assumption) | assumption)
                      have q218 : (rd x5_1 0) < (x4_1.length : Int) := of_decide_eq_true (by first | (with_reducible assumption) | assumption)
                      obtain ⟨ad218, e218, hx218_0⟩ := Kd.at_int (Kd.R_reads' HO_4.out).2.2 (rd x5_1 0) p218 q218
                      obtain rfl : (⟨go4, 0, none⟩ : Addr) = ad218 := (by injection e218)
                      (first | simp only [add_plain] at hx218_0 | simp only [add_at] at hx218_0 | simp only [Addr.add, Nat.zero_add] at hx218_0 | skip)
                      replace p218 := eq_true p218
                      replace q218 := eq_true q218
                      go_wp2
                      repeat (go_quiet (fail); try go_wp2)
                      go_meet
                      case rel => exact ⟨_, (true), (by first | rfl | (simp; done) | (simp [*]; done)), H', ⟨by have := HK1.out; first | omega | exact Nat.le_refl _⟩, ⟨by (try simp only [hl4_1]); (with_reducible repeat (first | apply Kd.R_alloc | apply Kd.R_drewN | apply Kd.R_drew)); exact HO_4.out⟩, ⟨by (try simp only [hl4_1]); (with_reducible repeat (first | apply Kd.Q_alloc | apply Kd.Q_drewN | apply Kd.Q_drew)); exact HO_5.out⟩, ⟨by repeat (first | (with_reducible first | exact HB.out | apply below_alloc | apply pw_below_drewN | apply below_drew1) | exact HB.out)⟩⟩
                    · rw [if_neg c22] at H
                      have c22b0 : decide ((rd x4_1 (rd x5_1 0)) < t216) = false := decide_eq_false c22
                      clear c22
                      have H' := Aside0.mk H
                      clear H
                      have p218 : 0 ≤ ((rd x5_1 0) : Int) := of_decide_eq_true (by first | (with_reducible assumption) | assumption)
                      have q218 : (rd x5_1 0) < (x4_1.length : Int) := of_decide_eq_true (by first | (with_reducible assumption) | assumption)
                      obtain ⟨ad218, e218, hx218_0⟩ := Kd.at_int (Kd.R_reads' HO_4.out).2.2 (rd x5_1 0) p218 q218
                      obtain rfl : (⟨go4, 0, none⟩ : Addr) = ad218 := (by injection e218)
                      (first | simp only [add_plain] at hx218_0 | simp only [add_at] at hx218_0 | simp only [Addr.add, Nat.zero_add] at hx218_0 | skip)
                      replace p218 := eq_true p218
                      replace q218 := eq_true q218
                      have p219 : 0 ≤ ((rd x5_1 0) : Int) := of_decide_eq_true (by first | (with_reducible assumption) | assumption)
                      have q219 : (rd x5_1 0) < (x4_1.length : Int) := of_decide_eq_true (by first | (with_reducible assumption) | assumption)
                      obtain ⟨ad219, e219, hx219_0⟩ := Kd.at_int (Kd.R_reads' HO_4.out).2.2 (rd x5_1 0) p219 q219
                      obtain rfl : (⟨go4, 0, none⟩ : Addr) = ad219 := (by injection e219)
                      (first | simp only [add_plain] at hx219_0 | simp only [add_at] at hx219_0 | simp only [Addr.add, Nat.zero_add] at hx219_0 | skip)
                      replace p219 := eq_true p219
                      replace q219 := eq_true q219
                      go_wp2
                      repeat (go_quiet (fail); try go_wp2)
                      go_meet
                      case rel => exact ⟨_, (decide ((wrap64 ((wrap64 ((rd x4_1 (rd x5_1 0)) - t216)) + t217)) > 30)), (by first | rfl | (simp; done) | (simp [*]; done)), H', ⟨by have := HK1.out; first | omega | exact Nat.le_refl _⟩, ⟨by (try simp only [hl4_1]); (with_reducible repeat (first | apply Kd.R_alloc | apply Kd.R_drewN | apply Kd.R_drew)); exact HO_4.out⟩, ⟨by (try simp only [hl4_1]); (with_reducible repeat (first | apply Kd.Q_alloc | apply Kd.Q_drewN | apply Kd.Q_drew)); exact HO_5.out⟩, ⟨by repeat (first | (with_reducible first | exact HB.out | apply below_alloc | apply pw_below_drewN | apply below_drew1) | exact HB.out)⟩⟩
                  · rw [if_neg c21] at H
                    exact absurd H (by simp)
                case rest =>
                  clear HC18
                  try clear c1
                  try clear c2
                  try clear p2
                  try clear q2
                  try clear hx2
                  try clear qi2
                  try clear c3
                  try clear c3b0
                  try clear c3b1
                  try clear p4
                  try clear q4
                  try clear hx4
                  try clear qi4
                  try clear hf4
                  try clear p6
                  try clear c8
                  try clear c13
                  try clear c13b0
                  try clear c13b1
                  try clear c14
                  try clear c14b0
                  try clear c14b1
                  try clear c15
                  try clear c15b0
                  try clear c16
                  try clear c16b0
                  try clear c21
                  try clear c21b0
                  try clear p21
                  try clear q21
                  try clear hx21
                  try clear qi21
                  try clear c22
                  try clear c22b0
                  try clear hx214_0
                  try clear hx215_0
                  try clear hx215_1
                  try clear hx215_2
                  try clear hx218_0
                  try clear hx219_0
                  try clear hx4_0
                  try clear p2
                  try clear p214
                  try clear p215
                  try clear p218
                  try clear p219
                  try clear p4
                  try clear q214
                  try clear q215
                  try clear q218
                  try clear q219
                  try clear q4
                  obtain ⟨kq, x50_17, rfl, HA, HJ17, HO_4, HO_5, HB⟩ := hcut
                  cases kq with
                  | zero => exact absurd HA.out (by simp [impl_depths.j1])
                  | succ kj17 =>
                    have H := HA.out
                    clear HA
                    simp only [impl_depths.j1] at H
                    by_cases c23 : x50_17 = true
                    · subst c23
                      have H1 : (some (([] : List Int), false)) = some (r1, r2) := by rw [if_pos rfl] at H; exact H
                      clear H
                      have H := H1
                      clear H1
                      simp only [Option.some.injEq, Prod.mk.injEq] at H
                      obtain ⟨rfl, rfl⟩ := H
                      go_wp2
                      repeat (go_quiet (fail); try go_wp2)
                      go_ret2
                      exact ⟨_, by first | rfl | (simp [errW_none, errW_some] <;> rfl) | (simp [*, errW_none, errW_some] <;> rfl), by first | exact Kd.R_nil _ _ _ _ _ | exact Kd.N_nil _ _ _ _ _ | exact Kd.V_nil _ _ _ _ _ | exact Kd.Q_nil _ _ _ _ _ | exact Kd.S_nil _ _ _ _ _, by repeat (first | (with_reducible first | exact HB.out | apply below_alloc | apply pw_below_drewN | apply below_drew1) | exact HB.out)⟩
                    · replace c23 := Bool.eq_false_iff.mpr c23
                      subst c23
                      have H1 : (if 0 ≤ (rd x5_1 0) then (if (rd x5_1 0) < (l0.length : Int) then ((impl_Bc_goesTo.f ((rd_T90 l0 (rd x5_1 0)).f0) ((rd_T90 l0 (rd x5_1 0)).f1) ((rd_T90 l0 (rd x5_1 0)).f2) (rd x5_1 0)).bind fun t221 => (impl_depths.l1 kj17 l0 x4_1 x5_1 (rd x5_1 0) t216 t217 t221 (t221.length : Int) 0)) else (none)) else (none)) = some (r1, r2) := by rw [if_neg (show ¬ (false = true) by decide)] at H; exact H
                      clear H
                      have H := H1
                      clear H1
                      by_cases c24 : 0 ≤ (rd x5_1 0)
                      · rw [if_pos c24] at H
                        have c24b0 : decide (0 ≤ (rd x5_1 0)) = true := decide_eq_true c24
                        clear c24
                        by_cases c25 : (rd x5_1 0) < (l0.length : Int)
                        · rw [if_pos c25] at H
                          have c25b0 : decide ((rd x5_1 0) < (l0.length : Int)) = true := decide_eq_true c25
                          clear c25
                          replace H := Option.bind_eq_some_iff.mp H
                          obtain ⟨t221, A260, H⟩ := H
                          replace H : (impl_depths.l1 kj17 l0 x4_1 x5_1 (rd x5_1 0) t216 t217 t221 (t221.length : Int) 0) = some (r1, r2) := H
                          have A26 := Aside0.mk A260
                          clear A260
                          have H' := Aside0.mk H
                          clear H
                          have p220 : 0 ≤ ((rd x5_1 0) : Int) := of_decide_eq_true (by first | (with_reducible assumption) | assumption)
                          have q220 : (rd x5_1 0) < (l0.length : Int) := of_decide_eq_true (by first | (with_reducible assumption) | assumption)
                          obtain ⟨ad220, e220, hx220_0, hx220_1, hx220_2⟩ := at_T90 HR0.out (rd x5_1 0) p220 q220
                          obtain rfl : ad215 = ad220 := (by injection e220)
                          replace hx220_0 := (HB.out.cell (World.block_lt_of_cell? w _ hx220_0)).trans hx220_0
                          replace hx220_1 := (HB.out.cell (World.block_lt_of_cell? w _ hx220_1)).trans hx220_1
                          replace hx220_2 := (HB.out.cell (World.block_lt_of_cell? w _ hx220_2)).trans hx220_2
                          replace p220 := eq_true p220
                          replace q220 := eq_true q220
                          go_wp2_with (first | (go_at_call 107; (with_reducible refine (impl_Bc_goesTo.calls ((rd_T90 l0 (rd x5_1 0)).f0) ((rd_T90 l0 (rd x5_1 0)).f1) ((rd_T90 l0 (rd x5_1 0)).f2) (rd x5_1 0) t221 _ A26.out).mono ?_); rintro e w27 ⟨v222, rfl, ho0, hb⟩; have n0_ := Aside0.mk (Kd.R_elder' (by (with_reducible repeat (first | apply Kd.R_alloc | apply Kd.R_drewN | apply Kd.R_drew)); exact HO_4.out) (Kd.R_base ho0) hb); have n1_ := Aside0.mk (Kd.Q_elder' (by (with_reducible repeat (first | apply Kd.Q_alloc | apply Kd.Q_drewN | apply Kd.Q_drew)); exact HO_5.out) (Kd.R_base ho0) hb); have n2_ := Aside0.mk (Kd.R_lower (Kd.R_new' (Kd.R_new' ho0 (Kd.R_lt (by (with_reducible repeat (first | apply Kd.R_alloc | apply Kd.R_drewN | apply Kd.R_drew)); exact HO_4.out))) (Kd.Q_lt (by (with_reducible repeat (first | apply Kd.Q_alloc | apply Kd.Q_drewN | apply Kd.Q_drew)); exact HO_5.out))) (below_size (by repeat (first | (with_reducible first | exact HB.out | apply below_alloc | apply pw_below_drewN | apply below_drew1) | exact HB.out)))); have n3_ := Aside0.mk (below_step (by repeat (first | (with_reducible first | exact HB.out | apply below_alloc | apply pw_below_drewN | apply below_drew1) | exact HB.out)) hb); clear HO_4; clear HO_5; clear HB; have HO_4 := n0_; have HO_5 := n1_; have HO223 := n2_; have HB := n3_; clear n0_ n1_ n2_ n3_; (try clear hb); (try clear hb2); (try clear hk); (try clear hi); (try clear ho0); obtain ⟨Ao28, co28, eo28⟩ := Kd.R_slice HO223.out; subst eo28))
                          repeat (go_quiet (first | (go_at_call 107; (with_reducible refine (impl_Bc_goesTo.calls ((rd_T90 l0 (rd x5_1 0)).f0) ((rd_T90 l0 (rd x5_1 0)).f1) ((rd_T90 l0 (rd x5_1 0)).f2) (rd x5_1 0) t221 _ A26.out).mono ?_); rintro e w27 ⟨v222, rfl, ho0, hb⟩; have n0_ := Aside0.mk (Kd.R_elder' (by (with_reducible repeat (first | apply Kd.R_alloc | apply Kd.R_drewN | apply Kd.R_drew)); exact HO_4.out) (Kd.R_base ho0) hb); have n1_ := Aside0.mk (Kd.Q_elder' (by (with_reducible repeat (first | apply Kd.Q_alloc | apply Kd.Q_drewN | apply Kd.Q_drew)); exact HO_5.out) (Kd.R_base ho0) hb); have n2_ := Aside0.mk (Kd.R_lower (Kd.R_new' (Kd.R_new' ho0 (Kd.R_lt (by (with_reducible repeat (first | apply Kd.R_alloc | apply Kd.R_drewN | apply Kd.R_drew)); exact HO_4.out))) (Kd.Q_lt (by (with_reducible repeat (first | apply Kd.Q_alloc | apply Kd.Q_drewN | apply Kd.Q_drew)); exact HO_5.out))) (below_size (by repeat (first | (with_reducible first | exact HB.out | apply below_alloc | apply pw_below_drewN | apply below_drew1) | exact HB.out)))); have n3_ := Aside0.mk (below_step (by repeat (first | (with_reducible first | exact HB.out | apply below_alloc | apply pw_below_drewN | apply below_drew1) | exact HB.out)) hb); clear HO_4; clear HO_5; clear HB; have HO_4 := n0_; have HO_5 := n1_; have HO223 := n2_; have HB := n3_; clear n0_ n1_ n2_ n3_; (try clear hb); (try clear hb2); (try clear hk); (try clear hi); (try clear ho0); obtain ⟨Ao28, co28, eo28⟩ := Kd.R_slice HO223.out; subst eo28)); try go_wp2_with (first | (go_at_call 107; (with_reducible refine (impl_Bc_goesTo.calls ((rd_T90 l0 (rd x5_1 0)).f0) ((rd_T90 l0 (rd x5_1 0)).f1) ((rd_T90 l0 (rd x5_1 0)).f2) (rd x5_1 0) t221 _ A26.out).mono ?_); rintro e w27 ⟨v222, rfl, ho0, hb⟩; have n0_ := Aside0.mk (Kd.R_elder' (by (with_reducible repeat (first | apply Kd.R_alloc | apply Kd.R_drewN | apply Kd.R_drew)); exact HO_4.out) (Kd.R_base ho0) hb); have n1_ := Aside0.mk (Kd.Q_elder' (by (with_reducible repeat (first | apply Kd.Q_alloc | apply Kd.Q_drewN | apply Kd.Q_drew)); exact HO_5.out) (Kd.R_base ho0) hb); have n2_ := Aside0.mk (Kd.R_lower (Kd.R_new' (Kd.R_new' ho0 (Kd.R_lt (by (with_reducible repeat (first | apply Kd.R_alloc | apply Kd.R_drewN | apply Kd.R_drew)); exact HO_4.out))) (Kd.Q_lt (by (with_reducible repeat (first | apply Kd.Q_alloc | apply Kd.Q_drewN | apply Kd.Q_drew)); exact HO_5.out))) (below_size (by repeat (first | (with_reducible first | exact HB.out | apply below_alloc | apply pw_below_drewN | apply below_drew1) | exact HB.out)))); have n3_ := Aside0.mk (below_step (by repeat (first | (with_reducible first | exact HB.out | apply below_alloc | apply pw_below_drewN | apply below_drew1) | exact HB.out)) hb); clear HO_4; clear HO_5; clear HB; have HO_4 := n0_; have HO_5 := n1_; have HO223 := n2_; have HB := n3_; clear n0_ n1_ n2_ n3_; (try clear hb); (try clear hb2); (try clear hk); (try clear hi); (try clear ho0); obtain ⟨Ao28, co28, eo28⟩ := Kd.R_slice HO223.out; subst eo28)))
                          go_loopg [5, 58] kj17 (fun kq v5 v58 w' => ∃ (x4_3 : List Int) (x5_3 : List Int) (x58_3 : Int), v58 = .int .i64 x58_3 ∧ Aside0 (impl_depths.l1 kq l0 x4_3 x5_3 (rd x5_1 0) t216 t217 t221 (t221.length : Int) x58_3 = some (r1, r2)) ∧ Aside0 (kq ≤ kj17) ∧ Aside0 (Kd.R (Kd.int .i64) 3 w' w.heap.size (fun k_ => some k_ ≠ (v5 : Value).ownBlock ∧ some k_ ≠ ((.slice Ao28 t221.length co28) : Value).ownBlock) (.slice (some ⟨go4, 0, none⟩) x4_1.length co4) x4_3) ∧ Aside0 (Kd.Q (Kd.int .i64) 3 w' w.heap.size (fun k_ => some k_ ≠ ((.slice (some ⟨go4, 0, none⟩) x4_1.length co4) : Value).ownBlock ∧ some k_ ≠ ((.slice Ao28 t221.length co28) : Value).ownBlock) v5 x5_3) ∧ Aside0 (Kd.R (Kd.int .i64) 3 w' w.heap.size (fun k_ => some k_ ≠ ((.slice (some ⟨go4, 0, none⟩) x4_1.length co4) : Value).ownBlock ∧ some k_ ≠ (v5 : Value).ownBlock) (.slice Ao28 t221.length co28) t221) ∧ Aside0 (Below w.heap.size w w'))
                          case atStart => exact ⟨(x4_1), (x5_1), (0), (by first | rfl | (simp; done) | (simp [*]; done)), H', ⟨Nat.le_refl _⟩, ⟨by (try simp only [hl4_1]); (with_reducible repeat (first | apply Kd.R_alloc | apply Kd.R_drewN | apply Kd.R_drew)); exact HO_4.out⟩, ⟨by (try simp only [hl4_1]); (with_reducible repeat (first | apply Kd.Q_alloc | apply Kd.Q_drewN | apply Kd.Q_drew)); exact HO_5.out⟩, ⟨by (try simp only [hl4_1]); (with_reducible repeat (first | apply Kd.R_alloc | apply Kd.R_drewN | apply Kd.R_drew)); exact Kd.R_mono HO223.out (fun _ hk => ⟨hk.1.2, hk.2⟩)⟩, ⟨by repeat (first | (with_reducible first | exact HB.out | apply below_alloc | apply pw_below_drewN | apply below_drew1) | exact HB.out)⟩⟩
                          case round =>
                            clear H'
                            try clear c1
                            try clear c2
                            try clear p2
                            try clear q2
                            try clear hx2
                            try clear qi2
                            try clear c3
                            try clear c3b0
                            try clear c3b1
                            try clear p4
                            try clear q4
                            try clear hx4
                            try clear qi4
                            try clear hf4
                            try clear p6
                            try clear c8
                            try clear c13
                            try clear c13b0
                            try clear c13b1
                            try clear c14
                            try clear c14b0
                            try clear c14b1
                            try clear c15
                            try clear c15b0
                            try clear c16
                            try clear c16b0
                            try clear c21
                            try clear c21b0
                            try clear p21
                            try clear q21
                            try clear hx21
                            try clear qi21
                            try clear c22
                            try clear c22b0
                            try clear p22
                            try clear q22
                            try clear hx22
                            try clear c23
                            try clear c24
                            try clear c24b0
                            try clear c25
                            try clear c25b0
                            try clear hx214_0
                            try clear hx215_0
                            try clear hx215_1
                            try clear hx215_2
                            try clear hx218_0
                            try clear hx219_0
                            try clear hx220_0
                            try clear hx220_1
                            try clear hx220_2
                            try clear hx4_0
                            try clear p2
                            try clear p21
                            try clear p214
                            try clear p215
                            try clear p218
                            try clear p219
                            try clear p220
                            try clear p4
                            try clear p6
                            try clear q2
                            try clear q21
                            try clear q214
                            try clear q215
                            try clear q218
                            try clear q219
                            try clear q220
                            try clear q4
                            obtain ⟨x4_3, x5_3, x58_3, rfl, HA, HK3, HO_4, HO_5, HO_56, HB⟩ := hrel
                            have hl4_3 := (Kd.R_reads' HO_4.out).1
                            rw [hl4_3] at HO_4
                            (try simp only [hl4_3])
                            (try simp only [hl4_3] at HO_5)
                            (try simp only [hl4_3] at HO_56)
                            cases gk with
                            | zero => exact absurd HA.out (by simp [impl_depths.l1])
                            | succ k3 =>
                              have H := HA.out
                              clear HA
                              simp only [impl_depths.l1] at H
                              by_cases c29 : x58_3 < (t221.length : Int)
                              · rw [if_pos c29] at H
                                have c29b0 : decide (x58_3 < (t221.length : Int)) = true := decide_eq_true c29
                                clear c29
                                by_cases c30 : 0 ≤ x58_3
                                · rw [if_pos c30] at H
                                  have c30b0 : decide (0 ≤ x58_3) = true := decide_eq_true c30
                                  clear c30
                                  by_cases c31 : x58_3 < (t221.length : Int)
                                  · rw [if_pos c31] at H
                                    have c31b0 : decide (x58_3 < (t221.length : Int)) = true := decide_eq_true c31
                                    clear c31
                                    have HC32 := Aside0.mk H
                                    clear H
                                    have p227 : 0 ≤ (x58_3 : Int) := of_decide_eq_true (by first | (with_reducible assumption) | assumption)
                                    have q227 : x58_3 < (t221.length : Int) := of_decide_eq_true (by first | (with_reducible assumption) | assumption)
                                    obtain ⟨ad227, e227, hx227_0⟩ := Kd.at_int (Kd.R_reads' HO_56.out).2.2 x58_3 p227 q227
                                    cases e227
                                    replace p227 := eq_true p227
                                    replace q227 := eq_true q227
                                    go_upto_region 13 with (fail)
                                    repeat (go_quiet (fail); go_upto_region 13 with (fail))
                                    go_cut [87] (fun v87 wc => ∃ (kq : Nat) (x87_31 : Bool), v87 = .bool x87_31 ∧ Aside0 (impl_depths.j3 kq l0 x4_3 x5_3 (rd x5_1 0) t216 t217 (rd t221 x58_3) t221 (t221.length : Int) x58_3 x87_31 = some (r1, r2)) ∧ Aside0 (kq ≤ k3) ∧ Aside0 (Kd.R (Kd.int .i64) 3 wc w.heap.size (fun k_ => some k_ ≠ (u5 : Value).ownBlock ∧ some k_ ≠ ((.slice (some ad227) t221.length co28) : Value).ownBlock) (.slice (some ⟨go4, 0, none⟩) x4_3.length co4) x4_3) ∧ Aside0 (Kd.Q (Kd.int .i64) 3 wc w.heap.size (fun k_ => some k_ ≠ ((.slice (some ⟨go4, 0, none⟩) x4_3.length co4) : Value).ownBlock ∧ some k_ ≠ ((.slice (some ad227) t221.length co28) : Value).ownBlock) u5 x5_3) ∧ Aside0 (Kd.R (Kd.int .i64) 3 wc w.heap.size (fun k_ => some k_ ≠ ((.slice (some ⟨go4, 0, none⟩) x4_3.length co4) : Value).ownBlock ∧ some k_ ≠ (u5 : Value).ownBlock) (.slice (some ad227) t221.length co28) t221) ∧ Aside0 (Below w.heap.size w wc))
                                    case first =>
                                      have H := HC32.out
                                      clear HC32
                                      by_cases c33 : (rd t221 x58_3) = (l0.length : Int)
                                      · rw [if_pos c33] at H
                                        have c33b0 : ((rd t221 x58_3) == (l0.length : Int)) = true := beq_iff_eq.mpr c33
                                        have c33b1 : ((rd t221 x58_3) != (l0.length : Int)) = false := bne_eq_false_iff_eq.mpr c33
                                        clear c33
                                        (first | rw [c33b0] | (simp only [i64_w, i32_w]; rw [c33b0]) | skip)
                                        have H' := Aside0.mk H
                                        clear H
                                        go_wp2
                                        repeat (go_quiet (fail); try go_wp2)
                                        go_meet
                                        case rel => exact ⟨_, (true), (by first | rfl | (simp; done) | (simp [*]; done)), H', ⟨by have := HK1.out; have := HJ17.out; have := HK3.out; first | omega | exact Nat.le_refl _⟩, ⟨by (try simp only [hl4_1]); (try simp only [hl4_3]); (with_reducible repeat (first | apply Kd.R_alloc | apply Kd.R_drewN | apply Kd.R_drew)); exact HO_4.out⟩, ⟨by (try simp only [hl4_1]); (try simp only [hl4_3]); (with_reducible repeat (first | apply Kd.Q_alloc | apply Kd.Q_drewN | apply Kd.Q_drew)); exact HO_5.out⟩, ⟨by (try simp only [hl4_1]); (try simp only [hl4_3]); (with_reducible repeat (first | apply Kd.R_alloc | apply Kd.R_drewN | apply Kd.R_drew)); exact HO_56.out⟩, ⟨by repeat (first | (with_reducible first | exact HB.out | apply below_alloc | apply pw_below_drewN | apply below_drew1) | exact HB.out)⟩⟩
                                      · rw [if_neg c33] at H
                                        have c33b0 : ((rd t221 x58_3) == (l0.length : Int)) = false := beq_eq_false_iff_ne.mpr c33
                                        have c33b1 : ((rd t221 x58_3) != (l0.length : Int)) = true := bne_iff_ne.mpr c33
                                        (first | rw [c33b0] | (simp only [i64_w, i32_w]; rw [c33b0]) | skip)
                                        by_cases c34 : 0 ≤ (rd t221 x58_3)
                                        · rw [if_pos c34] at H
                                          have c34b0 : decide (0 ≤ (rd t221 x58_3)) = true := decide_eq_true c34
                                          clear c34
                                          by_cases c35 : (rd t221 x58_3) < (x4_3.length : Int)
                                          · rw [if_pos c35] at H
                                            have c35b0 : decide ((rd t221 x58_3) < (x4_3.length : Int)) = true := decide_eq_true c35
                                            clear c35
                                            by_cases c36 : (rd x4_3 (rd t221 x58_3)) ≥ 0
                                            · rw [if_pos c36] at H
                                              have c36b0 : decide (0 ≤ (rd x4_3 (rd t221 x58_3))) = true := decide_eq_true c36
                                              clear c36
                                              by_cases c37 : 0 ≤ (rd x5_1 0)
                                              · rw [if_pos c37] at H
                                                have c37b0 : decide (0 ≤ (rd x5_1 0)) = true := decide_eq_true c37
                                                clear c37
                                                by_cases c38 : (rd x5_1 0) < (x4_3.length : Int)
                                                · rw [if_pos c38] at H
                                                  have c38b0 : decide ((rd x5_1 0) < (x4_3.length : Int)) = true := decide_eq_true c38
                                                  clear c38
                                                  have H' := Aside0.mk H
                                                  clear H
                                                  have p228 : 0 ≤ ((rd t221 x58_3) : Int) := of_decide_eq_true (by first | (with_reducible assumption) | assumption)
                                                  have q228 : (rd t221 x58_3) < (x4_3.length : Int) := of_decide_eq_true (by first | (with_reducible assumption) | assumption)
                                                  obtain ⟨ad228, e228, hx228_0⟩ := Kd.at_int (Kd.R_reads' HO_4.out).2.2 (rd t221 x58_3) p228 q228
                                                  obtain rfl : (⟨go4, 0, none⟩ : Addr) = ad228 := (by injection e228)
                                                  (first | simp only [add_plain] at hx228_0 | simp only [add_at] at hx228_0 | simp only [Addr.add, Nat.zero_add] at hx228_0 | skip)
                                                  replace p228 := eq_true p228
                                                  replace q228 := eq_true q228
                                                  have p229 : 0 ≤ ((rd t221 x58_3) : Int) := of_decide_eq_true (by first | (with_reducible assumption) | assumption)
                                                  have q229 : (rd t221 x58_3) < (x4_3.length : Int) := of_decide_eq_true (by first | (with_reducible assumption) | assumption)
                                                  obtain ⟨ad229, e229, hx229_0⟩ := Kd.at_int (Kd.R_reads' HO_4.out).2.2 (rd t221 x58_3) p229 q229
                                                  obtain rfl : (⟨go4, 0, none⟩ : Addr) = ad229 := (by injection e229)
                                                  (first | simp only [add_plain] at hx229_0 | simp only [add_at] at hx229_0 | simp only [Addr.add, Nat.zero_add] at hx229_0 | skip)
                                                  replace p229 := eq_true p229
                                                  replace q229 := eq_true q229
                                                  have p230 : 0 ≤ ((rd x5_1 0) : Int) := of_decide_eq_true (by first | (with_reducible assumption) | assumption)
                                                  have q230 : (rd x5_1 0) < (x4_3.length : Int) := of_decide_eq_true (by first | (with_reducible assumption) | assumption)
                                                  obtain ⟨ad230, e230, hx230_0⟩ := Kd.at_int (Kd.R_reads' HO_4.out).2.2 (rd x5_1 0) p230 q230
                                                  obtain rfl : (⟨go4, 0, none⟩ : Addr) = ad230 := (by injection e230)
                                                  (first | simp only [add_plain] at hx230_0 | simp only [add_at] at hx230_0 | simp only [Addr.add, Nat.zero_add] at hx230_0 | skip)
                                                  replace p230 := eq_true p230
                                                  replace q230 := eq_true q230
                                                  go_wp2
                                                  repeat (go_quiet (fail); try go_wp2)
                                                  go_meet
                                                  case rel => exact ⟨_, (((rd x4_3 (rd t221 x58_3)) != (wrap64 ((wrap64 ((rd x4_3 (rd x5_1 0)) - t216)) + t217)))), (by first | rfl | (simp; done) | (simp [*]; done)), H', ⟨by have := HK1.out; have := HJ17.out; have := HK3.out; first | omega | exact Nat.le_refl _⟩, ⟨by (try simp only [hl4_1]); (try simp only [hl4_3]); (with_reducible repeat (first | apply Kd.R_alloc | apply Kd.R_drewN | apply Kd.R_drew)); exact HO_4.out⟩, ⟨by (try simp only [hl4_1]); (try simp only [hl4_3]); (with_reducible repeat (first | apply Kd.Q_alloc | apply Kd.Q_drewN | apply Kd.Q_drew)); exact HO_5.out⟩, ⟨by (try simp only [hl4_1]); (try simp only [hl4_3]); (with_reducible repeat (first | apply Kd.R_alloc | apply Kd.R_drewN | apply Kd.R_drew)); exact HO_56.out⟩, ⟨by repeat (first | (with_reducible first | exact HB.out | apply below_alloc | apply pw_below_drewN | apply below_drew1) | exact HB.out)⟩⟩
                                                · rw [if_neg c38] at H
                                                  exact absurd H (by simp)
                                              · rw [if_neg c37] at H
                                                exact absurd H (by simp)
                                            · rw [if_neg c36] at H
                                              have c36b0 : decide (0 ≤ (rd x4_3 (rd t221 x58_3))) = false := decide_eq_false c36
                                              clear c36
                                              have H' := Aside0.mk H
                                              clear H
                                              have p228 : 0 ≤ ((rd t221 x58_3) : Int) := of_decide_eq_true (by first | (with_reducible assumption) | assumption)
                                              have q228 : (rd t221 x58_3) < (x4_3.length : Int) := of_decide_eq_true (by first | (with_reducible assumption) | assumption)
                                              obtain ⟨ad228, e228, hx228_0⟩ := Kd.at_int (Kd.R_reads' HO_4.out).2.2 (rd t221 x58_3) p228 q228
                                              obtain rfl : (⟨go4, 0, none⟩ : Addr) = ad228 := (by injection e228)
                                              (first | simp only [add_plain] at hx228_0 | simp only [add_at] at hx228_0 | simp only [Addr.add, Nat.zero_add] at hx228_0 | skip)
                                              replace p228 := eq_true p228
                                              replace q228 := eq_true q228
                                              go_wp2
                                              repeat (go_quiet (fail); try go_wp2)
                                              go_meet
                                              case rel => exact ⟨_, (false), (by first | rfl | (simp; done) | (simp [*]; done)), H', ⟨by have := HK1.out; have := HJ17.out; have := HK3.out; first | omega | exact Nat.le_refl _⟩, ⟨by (try simp only [hl4_1]); (try simp only [hl4_3]); (with_reducible repeat (first | apply Kd.R_alloc | apply Kd.R_drewN | apply Kd.R_drew)); exact HO_4.out⟩, ⟨by (try simp only [hl4_1]); (try simp only [hl4_3]); (with_reducible repeat (first | apply Kd.Q_alloc | apply Kd.Q_drewN | apply Kd.Q_drew)); exact HO_5.out⟩, ⟨by (try simp only [hl4_1]); (try simp only [hl4_3]); (with_reducible repeat (first | apply Kd.R_alloc | apply Kd.R_drewN | apply Kd.R_drew)); exact HO_56.out⟩, ⟨by repeat (first | (with_reducible first | exact HB.out | apply below_alloc | apply pw_below_drewN | apply below_drew1) | exact HB.out)⟩⟩
                                          · rw [if_neg c35] at H
                                            exact absurd H (by simp)
                                        · rw [if_neg c34] at H
                                          exact absurd H (by simp)
                                    case rest =>
                                      clear HC32
                                      try clear c1
                                      try clear c2
                                      try clear p2
                                      try clear q2
                                      try clear hx2
                                      try clear qi2
                                      try clear c3
                                      try clear c3b0
                                      try clear c3b1
                                      try clear p4
                                      try clear q4
                                      try clear hx4
                                      try clear qi4
                                      try clear hf4
                                      try clear p6
                                      try clear c8
                                      try clear c13
                                      try clear c13b0
                                      try clear c13b1
                                      try clear c14
                                      try clear c14b0
                                      try clear c14b1
                                      try clear c15
                                      try clear c15b0
                                      try clear c16
                                      try clear c16b0
                                      try clear c21
                                      try clear c21b0
                                      try clear p21
                                      try clear q21
                                      try clear hx21
                                      try clear qi21
                                      try clear c22
                                      try clear c22b0
                                      try clear p22
                                      try clear q22
                                      try clear hx22
                                      try clear c23
                                      try clear p23
                                      try clear q23
                                      try clear hx23
                                      try clear c24
                                      try clear c24b0
                                      try clear c25
                                      try clear c25b0
                                      try clear c29
                                      try clear c29b0
                                      try clear c30
                                      try clear c30b0
                                      try clear c31
                                      try clear c31b0
                                      try clear c33
                                      try clear c33b0
                                      try clear c33b1
                                      try clear c34
                                      try clear c34b0
                                      try clear c35
                                      try clear c35b0
                                      try clear c36
                                      try clear c36b0
                                      try clear c37
                                      try clear c37b0
                                      try clear c38
                                      try clear c38b0
                                      try clear hx214_0
                                      try clear hx215_0
                                      try clear hx215_1
                                      try clear hx215_2
                                      try clear hx218_0
                                      try clear hx219_0
                                      try clear hx220_0
                                      try clear hx220_1
                                      try clear hx220_2
                                      try clear hx227_0
                                      try clear hx228_0
                                      try clear hx229_0
                                      try clear hx230_0
                                      try clear hx4_0
                                      try clear p2
                                      try clear p21
                                      try clear p214
                                      try clear p215
                                      try clear p218
                                      try clear p219
                                      try clear p22
                                      try clear p220
                                      try clear p227
                                      try clear p228
                                      try clear p229
                                      try clear p230
                                      try clear p4
                                      try clear p6
                                      try clear q2
                                      try clear q21
                                      try clear q214
                                      try clear q215
                                      try clear q218
                                      try clear q219
                                      try clear q22
                                      try clear q220
                                      try clear q227
                                      try clear q228
                                      try clear q229
                                      try clear q230
                                      try clear q4
                                      obtain ⟨kq, x87_31, rfl, HA, HJ31, HO_4, HO_5, HO_56, HB⟩ := hcut
                                      cases kq with
                                      | zero => exact absurd HA.out (by simp [impl_depths.j3])
                                      | succ kj31 =>
                                        have H := HA.out
                                        clear HA
                                        simp only [impl_depths.j3] at H
                                        by_cases c39 : x87_31 = true
                                        · subst c39
                                          have H1 : (some (([] : List Int), false)) = some (r1, r2) := by rw [if_pos rfl] at H; exact H
                                          clear H
                                          have H := H1
                                          clear H1
                                          simp only [Option.some.injEq, Prod.mk.injEq] at H
                                          obtain ⟨rfl, rfl⟩ := H
                                          go_wp2
                                          repeat (go_quiet (fail); try go_wp2)
                                          go_ret2
                                          exact ⟨_, by first | rfl | (simp [errW_none, errW_some] <;> rfl) | (simp [*, errW_none, errW_some] <;> rfl), by first | exact Kd.R_nil _ _ _ _ _ | exact Kd.N_nil _ _ _ _ _ | exact Kd.V_nil _ _ _ _ _ | exact Kd.Q_nil _ _ _ _ _ | exact Kd.S_nil _ _ _ _ _, by repeat (first | (with_reducible first | exact HB.out | apply below_alloc | apply pw_below_drewN | apply below_drew1) | exact HB.out)⟩
                                        · replace c39 := Bool.eq_false_iff.mpr c39
                                          subst c39
                                          have H1 : (if 0 ≤ (rd t221 x58_3) then (if (rd t221 x58_3) < (x4_3.length : Int) then (if (rd x4_3 (rd t221 x58_3)) < 0 then (if 0 ≤ (rd x5_1 0) then (if (rd x5_1 0) < (x4_3.length : Int) then (if x5_3.length < 17592186044416 then (impl_depths.l1 kj31 l0 (x4_3.set ((rd t221 x58_3) : Int).toNat (wrap64 ((wrap64 ((rd x4_3 (rd x5_1 0)) - t216)) + t217))) (x5_3 ++ [(rd t221 x58_3)]) (rd x5_1 0) t216 t217 t221 (t221.length : Int) (wrap64 (x58_3 + 1))) else (none)) else (none)) else (none)) else (impl_depths.l1 kj31 l0 x4_3 x5_3 (rd x5_1 0) t216 t217 t221 (t221.length : Int) (wrap64 (x58_3 + 1)))) else (none)) else (none)) = some (r1, r2) := by rw [if_neg (show ¬ (false = true) by decide)] at H; exact H
                                          clear H
                                          have H := H1
                                          clear H1
                                          by_cases c40 : 0 ≤ (rd t221 x58_3)
                                          · rw [if_pos c40] at H
                                            have c40b0 : decide (0 ≤ (rd t221 x58_3)) = true := decide_eq_true c40
                                            clear c40
                                            by_cases c41 : (rd t221 x58_3) < (x4_3.length : Int)
                                            · rw [if_pos c41] at H
                                              have c41b0 : decide ((rd t221 x58_3) < (x4_3.length : Int)) = true := decide_eq_true c41
                                              clear c41
                                              by_cases c42 : (rd x4_3 (rd t221 x58_3)) < 0
                                              · rw [if_pos c42] at H
                                                have c42b0 : decide ((rd x4_3 (rd t221 x58_3)) < 0) = true := decide_eq_true c42
                                                clear c42
                                                by_cases c43 : 0 ≤ (rd x5_1 0)
                                                · rw [if_pos c43] at H
                                                  have c43b0 : decide (0 ≤ (rd x5_1 0)) = true := decide_eq_true c43
                                                  clear c43
                                                  by_cases c44 : (rd x5_1 0) < (x4_3.length : Int)
                                                  · rw [if_pos c44] at H
                                                    have c44b0 : decide ((rd x5_1 0) < (x4_3.length : Int)) = true := decide_eq_true c44
                                                    clear c44
                                                    obtain ⟨y233, hy233⟩ : ∃ y_ : List Int, y_ = (x4_3.set ((rd t221 x58_3) : Int).toNat (wrap64 ((wrap64 ((rd x4_3 (rd x5_1 0)) - t216)) + t217))) := ⟨_, rfl⟩
                                                    replace H : (if x5_3.length < 17592186044416 then (impl_depths.l1 kj31 l0 y233 (x5_3 ++ [(rd t221 x58_3)]) (rd x5_1 0) t216 t217 t221 (t221.length : Int) (wrap64 (x58_3 + 1))) else (none)) = some (r1, r2) := by first | (rw [hy233]; with_reducible exact H) | (have H2_ := (Option.bind_some _ _).symm.trans H; rw [hy233]; with_reducible exact H2_) | (have H2_ := (Option.bind_some _ _).symm.trans H; with_reducible exact H2_) | with_reducible exact H | (rw [hy233]; exact H) | exact H
                                                    have Ny233 := Aside0.mk hy233
                                                    clear hy233
                                                    by_cases c46 : x5_3.length < 17592186044416
                                                    · rw [if_pos c46] at H
                                                      have LMc46 := Aside0.mk c46
                                                      clear c46
                                                      obtain ⟨y234, hy234⟩ : ∃ y_ : List Int, y_ = (x5_3 ++ [(rd t221 x58_3)]) := ⟨_, rfl⟩
                                                      replace H : (impl_depths.l1 kj31 l0 y233 y234 (rd x5_1 0) t216 t217 t221 (t221.length : Int) (wrap64 (x58_3 + 1))) = some (r1, r2) := by first | (rw [hy234]; with_reducible exact H) | (have H2_ := (Option.bind_some _ _).symm.trans H; rw [hy234]; with_reducible exact H2_) | (have H2_ := (Option.bind_some _ _).symm.trans H; with_reducible exact H2_) | with_reducible exact H | (rw [hy234]; exact H) | exact H
                                                      have Ny234 := Aside0.mk hy234
                                                      clear hy234
                                                      have H' := Aside0.mk H
                                                      clear H
                                                      have p231 : 0 ≤ ((rd t221 x58_3) : Int) := of_decide_eq_true (by first | (with_reducible assumption) | assumption)
                                                      have q231 : (rd t221 x58_3) < (x4_3.length : Int) := of_decide_eq_true (by first | (with_reducible assumption) | assumption)
                                                      obtain ⟨ad231, e231, hx231_0⟩ := Kd.at_int (Kd.R_reads' HO_4.out).2.2 (rd t221 x58_3) p231 q231
                                                      obtain rfl : (⟨go4, 0, none⟩ : Addr) = ad231 := (by injection e231)
                                                      (first | simp only [add_plain] at hx231_0 | simp only [add_at] at hx231_0 | simp only [Addr.add, Nat.zero_add] at hx231_0 | skip)
                                                      replace p231 := eq_true p231
                                                      replace q231 := eq_true q231
                                                      have p232 : 0 ≤ ((rd x5_1 0) : Int) := of_decide_eq_true (by first | (with_reducible assumption) | assumption)
                                                      have q232 : (rd x5_1 0) < (x4_3.length : Int) := of_decide_eq_true (by first | (with_reducible assumption) | assumption)
                                                      obtain ⟨ad232, e232, hx232_0⟩ := Kd.at_int (Kd.R_reads' HO_4.out).2.2 (rd x5_1 0) p232 q232
                                                      obtain rfl : (⟨go4, 0, none⟩ : Addr) = ad232 := (by injection e232)
                                                      (first | simp only [add_plain] at hx232_0 | simp only [add_at] at hx232_0 | simp only [Addr.add, Nat.zero_add] at hx232_0 | skip)
                                                      replace p232 := eq_true p232
                                                      replace q232 := eq_true q232
                                                      have p45 : 0 ≤ ((rd t221 x58_3) : Int) := of_decide_eq_true (by first | (with_reducible assumption) | assumption)
                                                      have q45 : ((rd t221 x58_3) : Int) < ((x4_3.length : Int) : Int) := of_decide_eq_true (by first | (with_reducible assumption) | assumption)
                                                      obtain ⟨hx45_0, hf45_0⟩ := Kd.R_celln 0 HO_4.out ((rd t221 x58_3) : Int) p45 q45
                                                      replace p45 := eq_true p45
                                                      replace q45 := eq_true q45
                                                      have HP47 := Kd.R_putg HO_4.out ((rd t221 x58_3) : Int) (wrap64 ((wrap64 ((rd x4_3 (rd x5_1 0)) - t216)) + t217))
                                                      go_wp2_with (first | ((with_reducible refine gate_store (t := 3) (p := 103) rfl ?_); (try (rw [drewN_self wc]; generalize hq_ : World.drewN wc _ = wc; have n0_ := Aside0.mk (Kd.R_at hq_ HO_4.out); have n1_ := Aside0.mk (Kd.Q_at hq_ HO_5.out); have n2_ := Aside0.mk (Kd.R_at hq_ HO_56.out); have n3_ := Aside0.mk (below_at hq_ HB.out); clear hq_ HO_4 HO_5 HO_56 HB; have HO_4 := n0_; have HO_5 := n1_; have HO_56 := n2_; have HB := n3_; clear n0_ n1_ n2_ n3_; (try (have HP47 := Kd.R_putg HO_4.out ((rd t221 x58_3) : Int) (wrap64 ((wrap64 ((rd x4_3 (rd x5_1 0)) - t216)) + t217)))))); refine store_event (t := 3) (p := 103) (v := ?vo_w48) (w1 := (wc.setCell ⟨go4, ((rd t221 x58_3) : Int).toNat, none⟩ (.int .i64 (wrap64 ((wrap64 ((rd x4_3 (rd x5_1 0)) - t216)) + t217))))) ?hg ?ho ?hn ?hr ?_; (case ho => rfl); (case hg => rfl); (case hn => rfl); (case hr => first | (go_simp; done) | (go_simp; rfl)); intro w48 hw; have hg : wc.grownBy w48 (some go4) := (by rw [hw]; exact HP47.2); have hp_ : Kd.R (Kd.int .i64) 3 w48 w.heap.size (fun k_ => some k_ ≠ (u5 : Value).ownBlock ∧ some k_ ≠ (.slice (some ad227) t221.length co28 : Value).ownBlock) (.slice (some ⟨go4, 0, none⟩) x4_3.length co4) y233 := (by rw [hw, Ny233.out]; exact HP47.1); clear HP47; have n0_ := Aside0.mk (hp_); have n1_ := Aside0.mk (Kd.Q_after (v := (.slice (some ⟨go4, 0, none⟩) x4_3.length co4)) (v1 := (.slice (some ⟨go4, 0, none⟩) x4_3.length co4)) (ok := (fun k_ => some k_ ≠ (.slice (some ad227) t221.length co28 : Value).ownBlock)) (by (with_reducible repeat (first | apply Kd.Q_alloc | apply Kd.Q_drewN | apply Kd.Q_drew)); exact Kd.Q_mono HO_5.out (fun _ hk => ⟨hk.2, hk.1⟩)) hg (.inl rfl)); have n2_ := Aside0.mk (Kd.R_after (v := (.slice (some ⟨go4, 0, none⟩) x4_3.length co4)) (v1 := (.slice (some ⟨go4, 0, none⟩) x4_3.length co4)) (ok := (fun k_ => some k_ ≠ (u5 : Value).ownBlock)) (by (with_reducible repeat (first | apply Kd.R_alloc | apply Kd.R_drewN | apply Kd.R_drew)); exact Kd.R_mono HO_56.out (fun _ hk => ⟨hk.2, hk.1⟩)) hg (.inl rfl)); have n3_ := Aside0.mk ((by rw [hw]; exact below_set (HB.out) GB4.out : Below w.heap.size w w48)); clear HO_4; clear HO_5; clear HO_56; clear HB; have HO_4 := n0_; have HO_5 := n1_; have HO_56 := n2_; have HB := n3_; clear n0_ n1_ n2_ n3_; clear hg hw hp_) | ((with_reducible refine gate_builtin (b := .append) (xs := #[.tmp 104, .tmp 106]) rfl ?_); at_builtin; refine Kd.Q_append (Kd.int .i64) (w0 := w) w.heap.size rfl (.tmp 104) (.tmp 106) 26 3 (.int .i64 0) 8 rfl Try.underlying26 info3 rfl (by decide) (by omega) u5 x5_3 (rd t221 x58_3) [.int .i64 (rd t221 x58_3)] (fun k_ => some k_ ≠ (.slice (some ⟨go4, 0, none⟩) x4_3.length co4 : Value).ownBlock ∧ some k_ ≠ (.slice (some ad227) t221.length co28 : Value).ownBlock) (fun _ => False) rfl rfl ?aP (fun _ hk => hk.elim) ?aF ?aO ?aB ?aS ?aL ?_; (case aP => exact rfl); (case aB => exact (by repeat (first | (with_reducible first | exact HB.out | apply below_alloc | apply pw_below_drewN | apply below_drew1) | exact HB.out))); (case aF => exact (fun k_ hk => ⟨Kd.fresh' (Kd.R_lt (by (with_reducible repeat (first | apply Kd.R_alloc | apply Kd.R_drewN | apply Kd.R_drew)); exact HO_4.out)) k_ hk, Kd.fresh' (Kd.R_lt (by (with_reducible repeat (first | apply Kd.R_alloc | apply Kd.R_drewN | apply Kd.R_drew)); exact HO_56.out)) k_ hk⟩)); (case aO => exact (by (with_reducible repeat (first | apply Kd.Q_alloc | apply Kd.Q_drewN | apply Kd.Q_drew)); exact Kd.Q_mono HO_5.out (fun _ hk => ⟨hk.2, hk.1⟩))); (case aS => exact (below_size (by repeat (first | (with_reducible first | exact HB.out | apply below_alloc | apply pw_below_drewN | apply below_drew1) | exact HB.out)))); (case aL => have := LMc46.out; omega); intro v235 w49 ho hb hg hat; rw [← Ny234.out] at ho; have n0_ := Aside0.mk (Kd.R_after (ok := (fun k_ => some k_ ≠ (.slice (some ad227) t221.length co28 : Value).ownBlock)) (by (with_reducible repeat (first | apply Kd.R_alloc | apply Kd.R_drewN | apply Kd.R_drew)); exact Kd.R_mono HO_4.out (fun _ hk => ⟨hk.2, hk.1⟩)) hg hat); have n1_ := Aside0.mk (Kd.R_after (ok := (fun k_ => some k_ ≠ (.slice (some ⟨go4, 0, none⟩) x4_3.length co4 : Value).ownBlock)) (by (with_reducible repeat (first | apply Kd.R_alloc | apply Kd.R_drewN | apply Kd.R_drew)); exact Kd.R_mono HO_56.out (fun _ hk => ⟨hk.2, hk.1⟩)) hg hat); have n2_ := Aside0.mk (hb); have n3_ := Aside0.mk (ho); clear HO_4; clear HO_56; clear HB; clear HO_5; have HO_4 := n0_; have HO_56 := n1_; have HB := n2_; have HO236 := n3_; clear n0_ n1_ n2_ n3_; clear ho hb hg hat))
                                                      repeat (go_quiet (first | ((with_reducible refine gate_store (t := 3) (p := 103) rfl ?_); (try (rw [drewN_self wc]; generalize hq_ : World.drewN wc _ = wc; have n0_ := Aside0.mk (Kd.R_at hq_ HO_4.out); have n1_ := Aside0.mk (Kd.Q_at hq_ HO_5.out); have n2_ := Aside0.mk (Kd.R_at hq_ HO_56.out); have n3_ := Aside0.mk (below_at hq_ HB.out); clear hq_ HO_4 HO_5 HO_56 HB; have HO_4 := n0_; have HO_5 := n1_; have HO_56 := n2_; have HB := n3_; clear n0_ n1_ n2_ n3_; (try (have HP47 := Kd.R_putg HO_4.out ((rd t221 x58_3) : Int) (wrap64 ((wrap64 ((rd x4_3 (rd x5_1 0)) - t216)) + t217)))))); refine store_event (t := 3) (p := 103) (v := ?vo_w48) (w1 := (wc.setCell ⟨go4, ((rd t221 x58_3) : Int).toNat, none⟩ (.int .i64 (wrap64 ((wrap64 ((rd x4_3 (rd x5_1 0)) - t216)) + t217))))) ?hg ?ho ?hn ?hr ?_; (case ho => rfl); (case hg => rfl); (case hn => rfl); (case hr => first | (go_simp; done) | (go_simp; rfl)); intro w48 hw; have hg : wc.grownBy w48 (some go4) := (by rw [hw]; exact HP47.2); have hp_ : Kd.R (Kd.int .i64) 3 w48 w.heap.size (fun k_ => some k_ ≠ (u5 : Value).ownBlock ∧ some k_ ≠ (.slice (some ad227) t221.length co28 : Value).ownBlock) (.slice (some ⟨go4, 0, none⟩) x4_3.length co4) y233 := (by rw [hw, Ny233.out]; exact HP47.1); clear HP47; have n0_ := Aside0.mk (hp_); have n1_ := Aside0.mk (Kd.Q_after (v := (.slice (some ⟨go4, 0, none⟩) x4_3.length co4)) (v1 := (.slice (some ⟨go4, 0, none⟩) x4_3.length co4)) (ok := (fun k_ => some k_ ≠ (.slice (some ad227) t221.length co28 : Value).ownBlock)) (by (with_reducible repeat (first | apply Kd.Q_alloc | apply Kd.Q_drewN | apply Kd.Q_drew)); exact Kd.Q_mono HO_5.out (fun _ hk => ⟨hk.2, hk.1⟩)) hg (.inl rfl)); have n2_ := Aside0.mk (Kd.R_after (v := (.slice (some ⟨go4, 0, none⟩) x4_3.length co4)) (v1 := (.slice (some ⟨go4, 0, none⟩) x4_3.length co4)) (ok := (fun k_ => some k_ ≠ (u5 : Value).ownBlock)) (by (with_reducible repeat (first | apply Kd.R_alloc | apply Kd.R_drewN | apply Kd.R_drew)); exact Kd.R_mono HO_56.out (fun _ hk => ⟨hk.2, hk.1⟩)) hg (.inl rfl)); have n3_ := Aside0.mk ((by rw [hw]; exact below_set (HB.out) GB4.out : Below w.heap.size w w48)); clear HO_4; clear HO_5; clear HO_56; clear HB; have HO_4 := n0_; have HO_5 := n1_; have HO_56 := n2_; have HB := n3_; clear n0_ n1_ n2_ n3_; clear hg hw hp_) | ((with_reducible refine gate_builtin (b := .append) (xs := #[.tmp 104, .tmp 106]) rfl ?_); at_builtin; refine Kd.Q_append (Kd.int .i64) (w0 := w) w.heap.size rfl (.tmp 104) (.tmp 106) 26 3 (.int .i64 0) 8 rfl Try.underlying26 info3 rfl (by decide) (by omega) u5 x5_3 (rd t221 x58_3) [.int .i64 (rd t221 x58_3)] (fun k_ => some k_ ≠ (.slice (some ⟨go4, 0, none⟩) x4_3.length co4 : Value).ownBlock ∧ some k_ ≠ (.slice (some ad227) t221.length co28 : Value).ownBlock) (fun _ => False) rfl rfl ?aP (fun _ hk => hk.elim) ?aF ?aO ?aB ?aS ?aL ?_; (case aP => exact rfl); (case aB => exact (by repeat (first | (with_reducible first | exact HB.out | apply below_alloc | apply pw_below_drewN | apply below_drew1) | exact HB.out))); (case aF => exact (fun k_ hk => ⟨Kd.fresh' (Kd.R_lt (by (with_reducible repeat (first | apply Kd.R_alloc | apply Kd.R_drewN | apply Kd.R_drew)); exact HO_4.out)) k_ hk, Kd.fresh' (Kd.R_lt (by (with_reducible repeat (first | apply Kd.R_alloc | apply Kd.R_drewN | apply Kd.R_drew)); exact HO_56.out)) k_ hk⟩)); (case aO => exact (by (with_reducible repeat (first | apply Kd.Q_alloc | apply Kd.Q_drewN | apply Kd.Q_drew)); exact Kd.Q_mono HO_5.out (fun _ hk => ⟨hk.2, hk.1⟩))); (case aS => exact (below_size (by repeat (first | (with_reducible first | exact HB.out | apply below_alloc | apply pw_below_drewN | apply below_drew1) | exact HB.out)))); (case aL => have := LMc46.out; omega); intro v235 w49 ho hb hg hat; rw [← Ny234.out] at ho; have n0_ := Aside0.mk (Kd.R_after (ok := (fun k_ => some k_ ≠ (.slice (some ad227) t221.length co28 : Value).ownBlock)) (by (with_reducible repeat (first | apply Kd.R_alloc | apply Kd.R_drewN | apply Kd.R_drew)); exact Kd.R_mono HO_4.out (fun _ hk => ⟨hk.2, hk.1⟩)) hg hat); have n1_ := Aside0.mk (Kd.R_after (ok := (fun k_ => some k_ ≠ (.slice (some ⟨go4, 0, none⟩) x4_3.length co4 : Value).ownBlock)) (by (with_reducible repeat (first | apply Kd.R_alloc | apply Kd.R_drewN | apply Kd.R_drew)); exact Kd.R_mono HO_56.out (fun _ hk => ⟨hk.2, hk.1⟩)) hg hat); have n2_ := Aside0.mk (hb); have n3_ := Aside0.mk (ho); clear HO_4; clear HO_56; clear HB; clear HO_5; have HO_4 := n0_; have HO_56 := n1_; have HB := n2_; have HO236 := n3_; clear n0_ n1_ n2_ n3_; clear ho hb hg hat)); try go_wp2_with (first | ((with_reducible refine gate_store (t := 3) (p := 103) rfl ?_); (try (rw [drewN_self wc]; generalize hq_ : World.drewN wc _ = wc; have n0_ := Aside0.mk (Kd.R_at hq_ HO_4.out); have n1_ := Aside0.mk (Kd.Q_at hq_ HO_5.out); have n2_ := Aside0.mk (Kd.R_at hq_ HO_56.out); have n3_ := Aside0.mk (below_at hq_ HB.out); clear hq_ HO_4 HO_5 HO_56 HB; have HO_4 := n0_; have HO_5 := n1_; have HO_56 := n2_; have HB := n3_; clear n0_ n1_ n2_ n3_; (try (have HP47 := Kd.R_putg HO_4.out ((rd t221 x58_3) : Int) (wrap64 ((wrap64 ((rd x4_3 (rd x5_1 0)) - t216)) + t217)))))); refine store_event (t := 3) (p := 103) (v := ?vo_w48) (w1 := (wc.setCell ⟨go4, ((rd t221 x58_3) : Int).toNat, none⟩ (.int .i64 (wrap64 ((wrap64 ((rd x4_3 (rd x5_1 0)) - t216)) + t217))))) ?hg ?ho ?hn ?hr ?_; (case ho => rfl); (case hg => rfl); (case hn => rfl); (case hr => first | (go_simp; done) | (go_simp; rfl)); intro w48 hw; have hg : wc.grownBy w48 (some go4) := (by rw [hw]; exact HP47.2); have hp_ : Kd.R (Kd.int .i64) 3 w48 w.heap.size (fun k_ => some k_ ≠ (u5 : Value).ownBlock ∧ some k_ ≠ (.slice (some ad227) t221.length co28 : Value).ownBlock) (.slice (some ⟨go4, 0, none⟩) x4_3.length co4) y233 := (by rw [hw, Ny233.out]; exact HP47.1); clear HP47; have n0_ := Aside0.mk (hp_); have n1_ := Aside0.mk (Kd.Q_after (v := (.slice (some ⟨go4, 0, none⟩) x4_3.length co4)) (v1 := (.slice (some ⟨go4, 0, none⟩) x4_3.length co4)) (ok := (fun k_ => some k_ ≠ (.slice (some ad227) t221.length co28 : Value).ownBlock)) (by (with_reducible repeat (first | apply Kd.Q_alloc | apply Kd.Q_drewN | apply Kd.Q_drew)); exact Kd.Q_mono HO_5.out (fun _ hk => ⟨hk.2, hk.1⟩)) hg (.inl rfl)); have n2_ := Aside0.mk (Kd.R_after (v := (.slice (some ⟨go4, 0, none⟩) x4_3.length co4)) (v1 := (.slice (some ⟨go4, 0, none⟩) x4_3.length co4)) (ok := (fun k_ => some k_ ≠ (u5 : Value).ownBlock)) (by (with_reducible repeat (first | apply Kd.R_alloc | apply Kd.R_drewN | apply Kd.R_drew)); exact Kd.R_mono HO_56.out (fun _ hk => ⟨hk.2, hk.1⟩)) hg (.inl rfl)); have n3_ := Aside0.mk ((by rw [hw]; exact below_set (HB.out) GB4.out : Below w.heap.size w w48)); clear HO_4; clear HO_5; clear HO_56; clear HB; have HO_4 := n0_; have HO_5 := n1_; have HO_56 := n2_; have HB := n3_; clear n0_ n1_ n2_ n3_; clear hg hw hp_) | ((with_reducible refine gate_builtin (b := .append) (xs := #[.tmp 104, .tmp 106]) rfl ?_); at_builtin; refine Kd.Q_append (Kd.int .i64) (w0 := w) w.heap.size rfl (.tmp 104) (.tmp 106) 26 3 (.int .i64 0) 8 rfl Try.underlying26 info3 rfl (by decide) (by omega) u5 x5_3 (rd t221 x58_3) [.int .i64 (rd t221 x58_3)] (fun k_ => some k_ ≠ (.slice (some ⟨go4, 0, none⟩) x4_3.length co4 : Value).ownBlock ∧ some k_ ≠ (.slice (some ad227) t221.length co28 : Value).ownBlock) (fun _ => False) rfl rfl ?aP (fun _ hk => hk.elim) ?aF ?aO ?aB ?aS ?aL ?_; (case aP => exact rfl); (case aB => exact (by repeat (first | (with_reducible first | exact HB.out | apply below_alloc | apply pw_below_drewN | apply below_drew1) | exact HB.out))); (case aF => exact (fun k_ hk => ⟨Kd.fresh' (Kd.R_lt (by (with_reducible repeat (first | apply Kd.R_alloc | apply Kd.R_drewN | apply Kd.R_drew)); exact HO_4.out)) k_ hk, Kd.fresh' (Kd.R_lt (by (with_reducible repeat (first | apply Kd.R_alloc | apply Kd.R_drewN | apply Kd.R_drew)); exact HO_56.out)) k_ hk⟩)); (case aO => exact (by (with_reducible repeat (first | apply Kd.Q_alloc | apply Kd.Q_drewN | apply Kd.Q_drew)); exact Kd.Q_mono HO_5.out (fun _ hk => ⟨hk.2, hk.1⟩))); (case aS => exact (below_size (by repeat (first | (with_reducible first | exact HB.out | apply below_alloc | apply pw_below_drewN | apply below_drew1) | exact HB.out)))); (case aL => have := LMc46.out; omega); intro v235 w49 ho hb hg hat; rw [← Ny234.out] at ho; have n0_ := Aside0.mk (Kd.R_after (ok := (fun k_ => some k_ ≠ (.slice (some ad227) t221.length co28 : Value).ownBlock)) (by (with_reducible repeat (first | apply Kd.R_alloc | apply Kd.R_drewN | apply Kd.R_drew)); exact Kd.R_mono HO_4.out (fun _ hk => ⟨hk.2, hk.1⟩)) hg hat); have n1_ := Aside0.mk (Kd.R_after (ok := (fun k_ => some k_ ≠ (.slice (some ⟨go4, 0, none⟩) x4_3.length co4 : Value).ownBlock)) (by (with_reducible repeat (first | apply Kd.R_alloc | apply Kd.R_drewN | apply Kd.R_drew)); exact Kd.R_mono HO_56.out (fun _ hk => ⟨hk.2, hk.1⟩)) hg hat); have n2_ := Aside0.mk (hb); have n3_ := Aside0.mk (ho); clear HO_4; clear HO_56; clear HB; clear HO_5; have HO_4 := n0_; have HO_56 := n1_; have HB := n2_; have HO236 := n3_; clear n0_ n1_ n2_ n3_; clear ho hb hg hat)))
                                                      (try simp only [← hl4_3])
                                                      go_roundg kj31
                                                      case measure => have := HK1.out; have := HJ17.out; have := HK3.out; have := HJ31.out; omega
                                                      case rel => exact ⟨(y233), (y234), (wrap64 (x58_3 + 1)), (by first | rfl | (simp; done) | (simp [*]; done)), H', ⟨by have := HK1.out; have := HJ17.out; have := HK3.out; have := HJ31.out; omega⟩, ⟨by (try simp only [hl4_1]); (try simp only [hl4_3]); (with_reducible repeat (first | apply Kd.R_alloc | apply Kd.R_drewN | apply Kd.R_drew)); exact Kd.R_mono HO_4.out (fun _ hk => ⟨hk.2, hk.1⟩)⟩, ⟨by (try simp only [hl4_1]); (try simp only [hl4_3]); (with_reducible repeat (first | apply Kd.Q_alloc | apply Kd.Q_drewN | apply Kd.Q_drew)); exact HO236.out⟩, ⟨by (try simp only [hl4_1]); (try simp only [hl4_3]); (with_reducible repeat (first | apply Kd.R_alloc | apply Kd.R_drewN | apply Kd.R_drew)); exact HO_56.out⟩, ⟨by repeat (first | (with_reducible first | exact HB.out | apply below_alloc | apply pw_below_drewN | apply below_drew1) | exact HB.out)⟩⟩
                                                    · rw [if_neg c46] at H
                                                      exact absurd H (by simp)
                                                  · rw [if_neg c44] at H
                                                    exact absurd H (by simp)
                                                · rw [if_neg c43] at H
                                                  exact absurd H (by simp)
                                              · rw [if_neg c42] at H
                                                have c42b0 : decide ((rd x4_3 (rd t221 x58_3)) < 0) = false := decide_eq_false c42
                                                clear c42
                                                have H' := Aside0.mk H
                                                clear H
                                                have p231 : 0 ≤ ((rd t221 x58_3) : Int) := of_decide_eq_true (by first | (with_reducible assumption) | assumption)
                                                have q231 : (rd t221 x58_3) < (x4_3.length : Int) := of_decide_eq_true (by first | (with_reducible assumption) | assumption)
                                                obtain ⟨ad231, e231, hx231_0⟩ := Kd.at_int (Kd.R_reads' HO_4.out).2.2 (rd t221 x58_3) p231 q231
                                                obtain rfl : (⟨go4, 0, none⟩ : Addr) = ad231 := (by injection e231)
                                                (first | simp only [add_plain] at hx231_0 | simp only [add_at] at hx231_0 | simp only [Addr.add, Nat.zero_add] at hx231_0 | skip)
                                                replace p231 := eq_true p231
                                                replace q231 := eq_true q231
                                                go_wp2
                                                repeat (go_quiet (fail); try go_wp2)
                                                (try simp only [← hl4_3])
                                                go_roundg kj31
                                                case measure => have := HK1.out; have := HJ17.out; have := HK3.out; have := HJ31.out; omega
                                                case rel => exact ⟨(x4_3), (x5_3), (wrap64 (x58_3 + 1)), (by first | rfl | (simp; done) | (simp [*]; done)), H', ⟨by have := HK1.out; have := HJ17.out; have := HK3.out; have := HJ31.out; omega⟩, ⟨by (try simp only [hl4_1]); (try simp only [hl4_3]); (with_reducible repeat (first | apply Kd.R_alloc | apply Kd.R_drewN | apply Kd.R_drew)); exact HO_4.out⟩, ⟨by (try simp only [hl4_1]); (try simp only [hl4_3]); (with_reducible repeat (first | apply Kd.Q_alloc | apply Kd.Q_drewN | apply Kd.Q_drew)); exact HO_5.out⟩, ⟨by (try simp only [hl4_1]); (try simp only [hl4_3]); (with_reducible repeat (first | apply Kd.R_alloc | apply Kd.R_drewN | apply Kd.R_drew)); exact HO_56.out⟩, ⟨by repeat (first | (with_reducible first | exact HB.out | apply below_alloc | apply pw_below_drewN | apply below_drew1) | exact HB.out)⟩⟩
                                            · rw [if_neg c41] at H
                                              exact absurd H (by simp)
                                          · rw [if_neg c40] at H
                                            exact absurd H (by simp)
                                  · rw [if_neg c31] at H
                                    exact absurd H (by simp)
                                · rw [if_neg c30] at H
                                  exact absurd H (by simp)
                              · rw [if_neg c29] at H
                                have c29b0 : decide (x58_3 < (t221.length : Int)) = false := decide_eq_false c29
                                clear c29
                                by_cases c50 : 1 ≤ (x5_3.length : Int)
                                · rw [if_pos c50] at H
                                  have c50b0 := eq_true c50
                                  have c50b1 : decide (1 ≤ (x5_3.length : Int)) = true := decide_eq_true c50
                                  clear c50
                                  obtain ⟨y224, hy224⟩ : ∃ y_ : List Int, y_ = (x5_3.drop (1 : Int).toNat) := ⟨_, rfl⟩
                                  replace H : (impl_depths.l0 k3 l0 x4_3 y224) = some (r1, r2) := by first | (rw [hy224]; with_reducible exact H) | (have H2_ := (Option.bind_some _ _).symm.trans H; rw [hy224]; with_reducible exact H2_) | (have H2_ := (Option.bind_some _ _).symm.trans H; with_reducible exact H2_) | with_reducible exact H | (rw [hy224]; exact H) | exact H
                                  have Ny224 := Aside0.mk hy224
                                  clear hy224
                                  have H' := Aside0.mk H
                                  clear H
                                  obtain ⟨Ao51, co51, eo51, _⟩ := Kd.Q_slice HO_5.out
                                  subst eo51
                                  have q52 : (1 : Int) ≤ ((x5_3.length : Int) : Int) := of_decide_eq_true (by first | (with_reducible assumption) | assumption)
                                  obtain ⟨i052, hi052, _, hsz52, _⟩ := info_parts info3
                                  have hcut52 := cut_from (P := Try.prog) 26 3 .i64 Try.underlying26 hi052 1 hsz52 Ao51 x5_3.length co51 1 (by omega) q52
                                  have hr52 := Kd.Q_drop (k := (1 : Int).toNat) HO_5.out (by omega)
                                  obtain ⟨A52, hA52⟩ : ∃ A1, A1 = (if co51 = (1 : Int).toNat then Ao51 else (Ao51 : Option Addr).map (·.add ((1 : Int).toNat * 1))) := ⟨_, rfl⟩
                                  obtain ⟨c52, hc52⟩ : ∃ c1, c1 = co51 - (1 : Int).toNat := ⟨_, rfl⟩
                                  have hy52 : y224.length = x5_3.length - (1 : Int).toNat := (by rw [Ny224.out, List.length_drop])
                                  rw [← Ny224.out] at hr52
                                  rw [← hy52, ← hA52, ← hc52] at hcut52
                                  replace hr52 : Kd.Q (Kd.int .i64) 3 wr w.heap.size (fun k_ => some k_ ≠ (.slice (some ⟨go4, 0, none⟩) x4_3.length co4 : Value).ownBlock ∧ some k_ ≠ (.slice Ao28 t221.length co28 : Value).ownBlock) (.slice A52 y224.length c52) y224 := (by rw [hA52, hc52, hy52]; exact hr52)
                                  have HE52 : Aside0 ((Value.slice A52 y224.length c52).ownBlock = (.slice Ao51 x5_3.length co51 : Value).ownBlock) := ⟨by rw [hA52]; split <;> (cases (Ao51 : Option Addr) <;> rfl)⟩
                                  clear hy52 hi052 hsz52 HO_5 hA52 hc52
                                  have HO226 := Aside0.mk hr52
                                  clear hr52
                                  replace q52 := eq_true q52
                                  have n_ := Aside0.mk (Kd.R_mono (ok' := fun k_ => (some k_ ≠ (.slice A52 y224.length c52 : Value).ownBlock ∧ some k_ ≠ (.slice Ao28 t221.length co28 : Value).ownBlock)) HO_4.out (fun k_ hk => ⟨(by rw [HE52.out]; exact hk.1), hk.2⟩))
                                  clear HO_4
                                  have HO_4 := n_
                                  clear n_
                                  have n_ := Aside0.mk (Kd.R_mono (ok' := fun k_ => (some k_ ≠ (.slice (some ⟨go4, 0, none⟩) x4_3.length co4 : Value).ownBlock ∧ some k_ ≠ (.slice A52 y224.length c52 : Value).ownBlock)) HO_56.out (fun k_ hk => ⟨hk.1, (by rw [HE52.out]; exact hk.2)⟩))
                                  clear HO_56
                                  have HO_56 := n_
                                  clear n_
                                  go_wp2
                                  repeat (go_quiet (fail); try go_wp2)
                                  (try simp only [← hl4_1, ← hl4_3])
                                  go_roundg k3
                                  case measure => have := HK1.out; have := HJ17.out; have := HK3.out; omega
                                  case rel => exact ⟨(x4_3), (y224), H', ⟨by have := HK1.out; have := HJ17.out; have := HK3.out; omega⟩, ⟨by (try simp only [hl4_1]); (try simp only [hl4_3]); (with_reducible repeat (first | apply Kd.R_alloc | apply Kd.R_drewN | apply Kd.R_drew)); exact Kd.R_mono HO_4.out (fun _ hk => hk.1)⟩, ⟨by (try simp only [hl4_1]); (try simp only [hl4_3]); (with_reducible repeat (first | apply Kd.Q_alloc | apply Kd.Q_drewN | apply Kd.Q_drew)); exact Kd.Q_mono HO226.out (fun _ hk => hk.1)⟩, ⟨by repeat (first | (with_reducible first | exact HB.out | apply below_alloc | apply pw_below_drewN | apply below_drew1) | exact HB.out)⟩⟩
                                · rw [if_neg c50] at H
                                  exact absurd H (by simp)
                        · rw [if_neg c25] at H
                          exact absurd H (by simp)
                      · rw [if_neg c24] at H
                        exact absurd H (by simp)
              · rw [if_neg c16] at H
                exact absurd H (by simp)
            · rw [if_neg c15] at H
              exact absurd H (by simp)
          · rw [if_neg c14] at H
            exact absurd H (by simp)
        · rw [if_neg c13] at H
          have c13b0 : decide (0 < (x5_1.length : Int)) = false := decide_eq_false c13
          have c13b1 : decide (0 < x5_1.length) = false := decide_eq_false (by omega)
          clear c13
          simp only [Option.some.injEq, Prod.mk.injEq] at H
          obtain ⟨rfl, rfl⟩ := H
          obtain ⟨Ao53, co53, eo53, _⟩ := Kd.Q_slice HO_5.out
          subst eo53
          go_wp2
          repeat (go_quiet (fail); try go_wp2)
          go_ret2
          exact ⟨_, by first | rfl | (simp [errW_none, errW_some] <;> rfl) | (simp [*, errW_none, errW_some] <;> rfl), by (with_reducible repeat (first | apply Kd.R_alloc | apply Kd.R_drewN | apply Kd.R_drew)); exact Kd.R_mono HO_4.out (fun _ hk => trivial), by repeat (first | (with_reducible first | exact HB.out | apply below_alloc | apply pw_below_drewN | apply below_drew1) | exact HB.out)⟩
  · rw [if_neg c3] at H
    exact absurd H (by simp)

end Go.Proofs.Ytipolnpffmfmmab.PFnExactDepthOfCode
