/- FnExactIsPlaced: at all spans and numbers IsPlaced of the program answers as IsPlaced of the reference, and leaves its arguments as they were; no condition. -/
import Derived.Test.YtcbgiccgiegdbaaDFnExactIsPlaced
namespace Go.Proofs.Ytcbgiccgiegdbaa.Pure
open Go.RowKit Go.Proofs.Ytcbgiccgiegdbaa.PFnExactIsPlaced Go.Proofs.YtcbgiccgiegdbaaW.PrintWords Go.Proofs.YtcbgiccgiegdbaaW.PrintLast Go.Proofs.YtcbgiccgiegdbaaO
set_option linter.unusedVariables false
set_option linter.unusedSimpArgs false
theorem wrap_id {n : Int} (h0 : -9223372036854775808 ≤ n) (h1 : n ≤ 9223372036854775807) : wrap64 n = n := by
  unfold wrap64
  omega
theorem take_set_succ {α : Type} (l : List α) (i : Nat) (y : α) (h : i < l.length) : (l.set i y).take (i + 1) = l.take i ++ [y] := by
  rw [List.take_succ_eq_append_getElem (by simpa using h), List.take_set_of_le (Nat.le_refl i)]
  simp
theorem nat_set {α : Type} (l : List α) (i : Int) (y : α) (h0 : 0 ≤ i) (h : i < (l.length : Int)) : (l.set i.toNat y).take (i + 1).toNat = l.take i.toNat ++ [y] := by
  rw [show (i + 1).toNat = i.toNat + 1 by omega]
  exact take_set_succ l i.toNat y (by omega)
theorem drop_getD {α : Type} (l : List α) (d : α) (i : Int) (h0 : 0 ≤ i) (h : i < (l.length : Int)) : l.drop i.toNat = l.getD i.toNat d :: l.drop (i + 1).toNat := by
  rw [show (i + 1).toNat = i.toNat + 1 by omega]
  have h1 : i.toNat < l.length := by omega
  rw [List.drop_eq_getElem_cons h1, List.getD_eq_getElem?_getD, List.getElem?_eq_getElem h1]
  rfl
theorem getD_mem {α : Type} (l : List α) (d : α) (i : Int) (h0 : 0 ≤ i) (h : i < (l.length : Int)) : l.getD i.toNat d ∈ l := by
  have h1 : i.toNat < l.length := by omega
  rw [List.getD_eq_getElem?_getD, List.getElem?_eq_getElem h1]
  exact List.getElem_mem h1
theorem ev_if_pos {α : Type} {c : Prop} [Decidable c] {f g : Nat → Option α} {r : α} (h : c) (e : Ev f r) : Ev (fun k => if c then f k else g k) r := by
  simp only [if_pos h]
  exact e
theorem ev_if_neg {α : Type} {c : Prop} [Decidable c] {f g : Nat → Option α} {r : α} (h : ¬ c) (e : Ev g r) : Ev (fun k => if c then f k else g k) r := by
  simp only [if_neg h]
  exact e
theorem Ev.eq {α : Type} {g : Nat → Option α} {r s : α} (h : Ev g r) (e : r = s) : Ev g s := e ▸ h

theorem szSpanS_ev (l : (List (S64))) (left : Int) (h0 : 0 ≤ left) (h1 : left ≤ 1048576) (hl : l.length ≤ 9223372036854775807) :
    ∃ v, Ev (fun k => laws_szSpanS.f l left) v ∧ v ≤ left ∧ (0 ≤ v → (l.length : Int) ≤ left) := by
  unfold laws_szSpanS.f
  have hw : wrap64 (left - (l.length : Int)) = left - (l.length : Int) := wrap_id (by omega) (by omega)
  simp only [hw]
  by_cases c : left - (l.length : Int) < 0
  · exact ⟨-1, ev_if_pos c (Ev.now _), by omega, fun h => absurd h (by omega)⟩
  · exact ⟨left - (l.length : Int), ev_if_neg c (Ev.now _), by omega, fun h => by omega⟩

def cv_Span (x : S64) : S61 := ⟨x.f0, x.f1⟩

theorem toSpan_ev (x : S64) : Ev (fun k => laws_toSpan.f x.f0 x.f1) ((cv_Span (x)).f0, (cv_Span (x)).f1) := by
  unfold laws_toSpan.f
  exact Ev.now _

theorem toSpanS_l0 (l : (List (S64))) (hl : (l.length : Int) ≤ 1048576) : ∀ (d : Nat) (i : Int) (acc : (List (S61))), 0 ≤ i → i + d = l.length → acc.length = l.length →
    Ev (fun k => laws_toSpanS.l0 k l acc i) (acc.take i.toNat ++ (l.drop i.toNat).map cv_Span)
  | 0, i, acc, h0, h1, h2 => by
    have c : ¬ i < (l.length : Int) := by omega
    refine Ev.eq (Ev.step (f := fun _ => some acc) (fun k => by rw [laws_toSpanS.l0, if_neg c]) (Ev.now _)) ?_
    rw [List.take_of_length_le (by omega), List.drop_eq_nil_of_le (by omega)]
    simp
  | d + 1, i, acc, h0, h1, h2 => by
    have c : i < (l.length : Int) := by omega
    have c' : i < (acc.length : Int) := by omega
    have hm : rd_T64 l i ∈ l := getD_mem l _ i h0 c
    have hw : wrap64 (i + 1) = i + 1 := wrap_id (by omega) (by omega)
    have ih := toSpanS_l0 l hl  d (i + 1) (acc.set i.toNat (cv_Span (rd_T64 l i))) (by omega) (by omega) (by rw [List.length_set]; exact h2)
    rw [nat_set acc i _ h0 c', List.append_assoc] at ih
    have hd := drop_getD l z64 i h0 c
    refine Ev.eq ?_ (show acc.take i.toNat ++ ([cv_Span (rd_T64 l i)] ++ (l.drop (i + 1).toNat).map cv_Span) = _ by rw [hd]; rfl)
    refine Ev.step (fun k => by rw [laws_toSpanS.l0, if_pos c, if_pos h0]) (Ev.bind (toSpan_ev (rd_T64 l i) ) ?_)
    refine ev_if_pos c' ?_
    rw [hw]
    exact ih
theorem toSpanS_ev (l : (List (S64))) (hl : (l.length : Int) ≤ 1048576) : Ev (fun k => laws_toSpanS.f k l) (l.map cv_Span) := by
  unfold laws_toSpanS.f
  refine ev_if_pos (by omega) (ev_if_pos (by omega) ?_)
  refine Ev.eq (toSpanS_l0 l hl  l.length 0 _ (by omega) (by omega) (by rw [List.length_replicate]; omega)) ?_
  simp

theorem eqSpan_ev (x : S61) : Ev (fun k => laws_eqSpan.f x.f0 x.f1 x.f0 x.f1) true := by
  unfold laws_eqSpan.f
  refine ev_if_pos (by first | rfl | simp) ?_
  refine ev_if_pos (by first | rfl | simp) ?_
  exact Ev.now _

theorem eqSpanS_l0 (l : (List (S61))) (hl : (l.length : Int) ≤ 1048576) : ∀ (d : Nat) (i : Int), 0 ≤ i → i + d = l.length → Ev (fun k => laws_eqSpanS.l0 k l l i) true
  | 0, i, h0, h1 => by
    have c : ¬ i < (l.length : Int) := by omega
    exact Ev.step (f := fun _ => some true) (fun k => by rw [laws_eqSpanS.l0, if_neg c]) (Ev.now _)
  | d + 1, i, h0, h1 => by
    have c : i < (l.length : Int) := by omega
    have hm : rd_T61 l i ∈ l := getD_mem l _ i h0 c
    have hw : wrap64 (i + 1) = i + 1 := wrap_id (by omega) (by omega)
    have ih := eqSpanS_l0 l hl  d (i + 1) (by omega) (by omega)
    refine Ev.step (fun k => by rw [laws_eqSpanS.l0, if_pos c, if_pos h0, if_pos c]) (Ev.bind (eqSpan_ev (rd_T61 l i) ) (ev_if_pos rfl ?_))
    rw [hw]
    exact ih
theorem eqSpanS_ev (l : (List (S61))) (hl : (l.length : Int) ≤ 1048576) : Ev (fun k => laws_eqSpanS.f k l l) true := by
  unfold laws_eqSpanS.f
  exact ev_if_pos rfl (eqSpanS_l0 l hl  l.length 0 (by omega) (by omega))

theorem toIntS_l0 (l : (List Int)) (hl : (l.length : Int) ≤ 1048576) : ∀ (d : Nat) (i : Int) (acc : (List Int)), 0 ≤ i → i + d = l.length → acc.length = l.length →
    Ev (fun k => laws_toIntS.l0 k l acc i) (acc.take i.toNat ++ (l.drop i.toNat))
  | 0, i, acc, h0, h1, h2 => by
    have c : ¬ i < (l.length : Int) := by omega
    refine Ev.eq (Ev.step (f := fun _ => some acc) (fun k => by rw [laws_toIntS.l0, if_neg c]) (Ev.now _)) ?_
    rw [List.take_of_length_le (by omega), List.drop_eq_nil_of_le (by omega)]
    simp
  | d + 1, i, acc, h0, h1, h2 => by
    have c : i < (l.length : Int) := by omega
    have c' : i < (acc.length : Int) := by omega
    have hm : rd l i ∈ l := getD_mem l _ i h0 c
    have hw : wrap64 (i + 1) = i + 1 := wrap_id (by omega) (by omega)
    have ih := toIntS_l0 l hl  d (i + 1) (acc.set i.toNat (rd l i)) (by omega) (by omega) (by rw [List.length_set]; exact h2)
    rw [nat_set acc i _ h0 c', List.append_assoc] at ih
    have hd := drop_getD l 0 i h0 c
    refine Ev.eq ?_ (show acc.take i.toNat ++ ([rd l i] ++ (l.drop (i + 1).toNat)) = _ by rw [hd]; rfl)
    refine Ev.step (fun k => by rw [laws_toIntS.l0, if_pos c, if_pos h0, if_pos c', hw]) ih
theorem toIntS_ev (l : (List Int)) (hl : (l.length : Int) ≤ 1048576) : Ev (fun k => laws_toIntS.f k l) (l) := by
  unfold laws_toIntS.f
  refine ev_if_pos (by omega) (ev_if_pos (by omega) ?_)
  refine Ev.eq (toIntS_l0 l hl  l.length 0 _ (by omega) (by omega) (by rw [List.length_replicate]; omega)) ?_
  simp

theorem eqIntS_l0 (l : (List Int)) (hl : (l.length : Int) ≤ 1048576) : ∀ (d : Nat) (i : Int), 0 ≤ i → i + d = l.length → Ev (fun k => laws_eqIntS.l0 k l l i) true
  | 0, i, h0, h1 => by
    have c : ¬ i < (l.length : Int) := by omega
    exact Ev.step (f := fun _ => some true) (fun k => by rw [laws_eqIntS.l0, if_neg c]) (Ev.now _)
  | d + 1, i, h0, h1 => by
    have c : i < (l.length : Int) := by omega
    have hm : rd l i ∈ l := getD_mem l _ i h0 c
    have hw : wrap64 (i + 1) = i + 1 := wrap_id (by omega) (by omega)
    have ih := eqIntS_l0 l hl  d (i + 1) (by omega) (by omega)
    refine Ev.step (fun k => by rw [laws_eqIntS.l0, if_pos c, if_pos h0, if_pos c, if_pos rfl, hw]) ih
theorem eqIntS_ev (l : (List Int)) (hl : (l.length : Int) ≤ 1048576) : Ev (fun k => laws_eqIntS.f k l l) true := by
  unfold laws_eqIntS.f
  exact ev_if_pos rfl (eqIntS_l0 l hl  l.length 0 (by omega) (by omega))

theorem spec_GoodSpans_l0 (l : List S61) (hl : (l.length : Int) ≤ 1048576) : ∀ (d : Nat) (i : Int), 0 ≤ i → i + d = l.length →
    Ev (fun k => spec_GoodSpans.l0 k l l l.length i) (!(l.drop i.toNat).any spanBad && decide (l.length ≤ 30))
  | 0, i, h0, h1 => by
    have c : ¬ i < (l.length : Int) := by omega
    refine Ev.eq (Ev.step (f := fun _ => some (decide ((l.length : Int) ≤ 30))) (fun k => by rw [spec_GoodSpans.l0, if_neg c]) (Ev.now _)) ?_
    rw [List.drop_eq_nil_of_le (by omega)]
    simp
    omega
  | d + 1, i, h0, h1 => by
    have c : i < (l.length : Int) := by omega
    have hw : wrap64 (i + 1) = i + 1 := wrap_id (by omega) (by omega)
    have hd : l.drop i.toNat = rd_T61 l i :: l.drop (i + 1).toNat := drop_getD l _ i h0 c
    have ih := spec_GoodSpans_l0 l hl d (i + 1) (by omega) (by omega)
    rw [hd, List.any_cons]
    by_cases c1 : (rd_T61 l i).f0 < 0
    · refine Ev.eq (Ev.step (f := fun _ => some false) (fun k => by rw [spec_GoodSpans.l0, if_pos c, if_pos h0, if_pos c, if_pos c1]) (Ev.now _)) ?_
      simp [spanBad, c1]
    · by_cases c2 : (rd_T61 l i).f0 ≥ (rd_T61 l i).f1
      · refine Ev.eq (Ev.step (f := fun _ => some false) (fun k => by rw [spec_GoodSpans.l0, if_pos c, if_pos h0, if_pos c, if_neg c1, if_pos c2]) (Ev.now _)) ?_
        simp [spanBad, c2]
      · by_cases c3 : (rd_T61 l i).f1 > 1000
        · refine Ev.eq (Ev.step (f := fun _ => some false) (fun k => by rw [spec_GoodSpans.l0, if_pos c, if_pos h0, if_pos c, if_neg c1, if_neg c2, if_pos c3]) (Ev.now _)) ?_
          simp [spanBad, c3]
        · have hb : spanBad (rd_T61 l i) = false := by simp [spanBad]; omega
          rw [hb, Bool.false_or]
          refine Ev.step (fun k => by rw [spec_GoodSpans.l0, if_pos c, if_pos h0, if_pos c, if_neg c1, if_neg c2, if_neg c3, hw]) ih
theorem spec_GoodSpans_ev (l : List S61) (hl : (l.length : Int) ≤ 1048576) : Ev (fun k => spec_GoodSpans.f k l) (decide (l.length ≤ 30) && !l.any spanBad) := by
  refine Ev.eq (spec_GoodSpans_l0 l hl l.length 0 (by omega) (by omega)) ?_
  rw [Bool.and_comm]
  rfl
/-- The two loops over spans that are held, side by side: the inner one. -/
theorem placed_l1 (l : List S61) (p : List Int) (hl : (l.length : Int) ≤ 1048576) (hp : p.length = l.length) (i : Int) (h0 : 0 ≤ i) (h1 : i < (l.length : Int))
    (H : ∃ b, Ev (fun k => impl_placed.l0 k l p l l.length (i + 1)) b ∧ Ev (fun k => spec_IsPlaced.l0 k l p l l.length (i + 1)) (b, true)) (y : List S61) (hy : y.length = i.toNat) :
    ∀ (d : Nat) (j : Int), 0 ≤ j → j + d = y.length →
      ∃ b, Ev (fun k => impl_placed.l1 k l p i l l.length i y y.length j (rd_T61 l i).f0 (rd_T61 l i).f1) b ∧
        Ev (fun k => spec_IsPlaced.l1 k l p i l l.length i y y.length j (rd_T61 l i).f0 (rd_T61 l i).f1) (b, true)
  | 0, j, g0, g1 => by
    have c : ¬ j < (y.length : Int) := by omega
    have hw : wrap64 (i + 1) = i + 1 := wrap_id (by omega) (by omega)
    obtain ⟨b, e1, e2⟩ := H
    exact ⟨b, Ev.step (fun k => by rw [impl_placed.l1, if_neg c, hw]) e1, Ev.step (fun k => by rw [spec_IsPlaced.l1, if_neg c, hw]) e2⟩
  | d + 1, j, g0, g1 => by
    have c : j < (y.length : Int) := by omega
    have cp : j < (p.length : Int) := by omega
    have ci : i < (p.length : Int) := by omega
    have hw : wrap64 (j + 1) = j + 1 := wrap_id (by omega) (by omega)
    obtain ⟨b, e1, e2⟩ := placed_l1 l p hl hp i h0 h1 H y hy d (j + 1) (by omega) (by omega)
    by_cases c1 : rd p i = rd p j
    · by_cases c2 : (rd_T61 l i).f0 < (rd_T61 y j).f1
      · by_cases c3 : (rd_T61 y j).f0 < (rd_T61 l i).f1
        · refine ⟨false, Ev.step (f := fun _ => some false) (fun k => by rw [impl_placed.l1, if_pos c, if_pos g0, if_pos c, if_pos cp, if_pos h0, if_pos ci, if_pos c1.symm, if_pos c2, if_pos c3]) (Ev.now _),
            Ev.step (f := fun _ => some (false, true)) (fun k => by rw [spec_IsPlaced.l1, if_pos c, if_pos g0, if_pos c, if_pos h0, if_pos ci, if_pos cp, if_pos c1]; simp [spec_l14Meet.f, c2, c3]) (Ev.now _)⟩
        · refine ⟨b, Ev.step (fun k => by rw [impl_placed.l1, if_pos c, if_pos g0, if_pos c, if_pos cp, if_pos h0, if_pos ci, if_pos c1.symm, if_pos c2, if_neg c3, hw]) e1,
            Ev.step (f := fun k => spec_IsPlaced.l1 k l p i l l.length i y y.length (j + 1) (rd_T61 l i).f0 (rd_T61 l i).f1) (fun k => by rw [spec_IsPlaced.l1, if_pos c, if_pos g0, if_pos c, if_pos h0, if_pos ci, if_pos cp, if_pos c1, hw]; simp [spec_l14Meet.f, c2, c3]) e2⟩
      · refine ⟨b, Ev.step (fun k => by rw [impl_placed.l1, if_pos c, if_pos g0, if_pos c, if_pos cp, if_pos h0, if_pos ci, if_pos c1.symm, if_neg c2, hw]) e1,
            Ev.step (f := fun k => spec_IsPlaced.l1 k l p i l l.length i y y.length (j + 1) (rd_T61 l i).f0 (rd_T61 l i).f1) (fun k => by rw [spec_IsPlaced.l1, if_pos c, if_pos g0, if_pos c, if_pos h0, if_pos ci, if_pos cp, if_pos c1, hw]; simp [spec_l14Meet.f, c2]) e2⟩
    · exact ⟨b, Ev.step (fun k => by rw [impl_placed.l1, if_pos c, if_pos g0, if_pos c, if_pos cp, if_pos h0, if_pos ci, if_neg (fun e => c1 e.symm), hw]) e1,
        Ev.step (fun k => by rw [spec_IsPlaced.l1, if_pos c, if_pos g0, if_pos c, if_pos h0, if_pos ci, if_pos cp, if_neg c1, hw]) e2⟩
theorem placed_l0 (l : List S61) (p : List Int) (hl : (l.length : Int) ≤ 1048576) (hp : p.length = l.length) : ∀ (d : Nat) (i : Int), 0 ≤ i → i + d = l.length →
    ∃ b, Ev (fun k => impl_placed.l0 k l p l l.length i) b ∧ Ev (fun k => spec_IsPlaced.l0 k l p l l.length i) (b, true)
  | 0, i, h0, h1 => by
    have c : ¬ i < (l.length : Int) := by omega
    exact ⟨true, Ev.step (f := fun _ => some true) (fun k => by rw [impl_placed.l0, if_neg c]) (Ev.now _), Ev.step (f := fun _ => some (true, true)) (fun k => by rw [spec_IsPlaced.l0, if_neg c]) (Ev.now _)⟩
  | d + 1, i, h0, h1 => by
    have c : i < (l.length : Int) := by omega
    have cp : i < (p.length : Int) := by omega
    by_cases c1 : rd p i < 0
    · exact ⟨false, Ev.step (f := fun _ => some false) (fun k => by rw [impl_placed.l0, if_pos c, if_pos h0, if_pos c, if_pos cp, if_pos c1]) (Ev.now _),
        Ev.step (f := fun _ => some (false, true)) (fun k => by rw [spec_IsPlaced.l0, if_pos c, if_pos h0, if_pos c, if_pos cp, if_pos c1]) (Ev.now _)⟩
    · have H := placed_l0 l p hl hp d (i + 1) (by omega) (by omega)
      have hy : (l.take i.toNat).length = i.toNat := by rw [List.length_take]; omega
      have ci : i ≤ (l.length : Int) := by omega
      obtain ⟨b, e1, e2⟩ := placed_l1 l p hl hp i h0 c H (l.take i.toNat) hy i.toNat 0 (by omega) (by omega)
      exact ⟨b, Ev.step (fun k => by rw [impl_placed.l0, if_pos c, if_pos h0, if_pos c, if_pos cp, if_neg c1, if_pos ci]; rfl) e1,
        Ev.step (fun k => by rw [spec_IsPlaced.l0, if_pos c, if_pos h0, if_pos c, if_pos cp, if_neg c1, if_pos ci]; rfl) e2⟩
/-- IsPlaced of both. -/
theorem isplaced_both (l : List S61) (p : List Int) (hl : (l.length : Int) ≤ 1048576) : ∃ r, Ev (fun k => impl_IsPlaced.f k l p) r ∧ Ev (fun k => spec_IsPlaced.f k l p) r := by
  unfold impl_IsPlaced.f spec_IsPlaced.f impl_GoodSpans.f
  by_cases c1 : (decide (l.length ≤ 30) && !l.any spanBad) = true
  · by_cases c2 : (p.length : Int) = (l.length : Int)
    · obtain ⟨b, e1, e2⟩ := placed_l0 l p hl (by omega) l.length 0 (by omega) (by omega)
      refine ⟨(b, true), Ev.bind (Ev.now _) (ev_if_pos c1 (ev_if_pos c2 (Ev.bind e1 (Ev.now _)))), Ev.bind (spec_GoodSpans_ev l hl) (ev_if_pos c1 ?_)⟩
      exact Ev.step (fun k => by rw [spec_IsPlaced.j0, if_neg (by simp; omega)]) e2
    · refine ⟨(false, false), Ev.bind (Ev.now _) (ev_if_pos c1 (ev_if_neg c2 (Ev.now _))), Ev.bind (spec_GoodSpans_ev l hl) (ev_if_pos c1 ?_)⟩
      exact Ev.step (f := fun _ => some (false, false)) (fun k => by rw [spec_IsPlaced.j0, if_pos (by simp; omega)]) (Ev.now _)
  · refine ⟨(false, false), Ev.bind (Ev.now _) (ev_if_neg c1 (Ev.now _)), Ev.bind (spec_GoodSpans_ev l hl) (ev_if_neg c1 ?_)⟩
    exact Ev.step (f := fun _ => some (false, false)) (fun k => by rw [spec_IsPlaced.j0, if_pos rfl]) (Ev.now _)
theorem FnExactIsPlaced : laws_FnExactIsPlaced.Pure0 := by
  intro l0 l1 h0 h1
  apply Ev.rounds
  unfold laws_FnExactIsPlaced.f
  by_cases c1 : (l1.length : Int) > 1048576
  · exact ev_if_pos c1 (Ev.now _)
  refine ev_if_neg c1 ?_
  obtain ⟨v, ev, hv, hb⟩ := szSpanS_ev l0 1048576 (by omega) (by omega) h0.1
  refine Ev.bind ev ?_
  by_cases c2 : v < 0
  · exact ev_if_pos c2 (Ev.now _)
  have hl := hb (by omega)
  refine ev_if_neg c2 (Ev.bind (toSpanS_ev l0 hl) (Ev.bind (toIntS_ev l1 (by omega)) ?_))
  have hl' : ((l0.map cv_Span).length : Int) ≤ 1048576 := by rw [List.length_map]; exact hl
  obtain ⟨r, e1, e2⟩ := isplaced_both (l0.map cv_Span) l1 hl'
  refine Ev.bind e2 (Ev.bind (toSpanS_ev l0 hl) (Ev.bind (toIntS_ev l1 (by omega)) (Ev.bind e1 ?_)))
  have j : Ev (fun k => laws_FnExactIsPlaced.j0 k l0 l1 (l0.map cv_Span) l1 false) true := by
    refine Ev.step (fun k => by rw [laws_FnExactIsPlaced.j0, if_neg (by simp)]) ?_
    exact Ev.bind (toSpanS_ev l0 hl) (Ev.bind (eqSpanS_ev _ hl') (ev_if_pos rfl (Ev.bind (toIntS_ev l1 (by omega)) (Ev.bind (eqIntS_ev l1 (by omega)) (ev_if_pos rfl (Ev.now _))))))
  refine ev_if_neg (by simp) ?_
  rw [bne_self_eq_false]
  exact j
end Go.Proofs.Ytcbgiccgiegdbaa.Pure
