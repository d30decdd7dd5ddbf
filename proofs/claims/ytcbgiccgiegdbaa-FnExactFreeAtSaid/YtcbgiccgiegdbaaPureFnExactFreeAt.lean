/- FnExactFreeAt: at all spans, numbers and moments FreeAt of the program answers as FreeAt of the reference, and leaves its arguments as they were; no condition. -/
import Derived.Test.YtcbgiccgiegdbaaDFnExactFreeAt
namespace Go.Proofs.Ytcbgiccgiegdbaa.Pure
open Go.RowKit Go.Proofs.Ytcbgiccgiegdbaa.PFnExactFreeAt Go.Proofs.YtcbgiccgiegdbaaW.PrintWords Go.Proofs.YtcbgiccgiegdbaaW.PrintLast Go.Proofs.YtcbgiccgiegdbaaO
set_option linter.unusedVariables false
set_option linter.unusedSimpArgs false
theorem wrap_id {n : Int} (h0 : -9223372036854775808 ≤ n) (h1 : n ≤ 9223372036854775807) : wrap64 n = n := by
  unfold wrap64
  omega
theorem take_set_succ {α : Type} (l : List α) (i : Nat) (y : α) (h : i < l.length) : (l.set i y).take (i + 1) = l.take i ++ [y] := by
  rw [List.take_succ_eq_append_getElem (by simpa using h), List.take_set_of_le (Nat.le_refl i)]
  simp
theorem nat_set {α : Type} (l : List α) (i : Int) (y : α) (h0 : 0 ≤ i) (h : i < (l.length : Int)) : (l.set i.toNat y).take (i + 1).toNat = l.take i.toNat ++ [y] := by
  rw [show (i + 1).toNat = i.toNat + 1 by omega]
  exact take_set_succ l i.toNat y (by omega)
theorem drop_getD {α : Type} (l : List α) (d : α) (i : Int) (h0 : 0 ≤ i) (h : i < (l.length : Int)) : l.drop i.toNat = l.getD i.toNat d :: l.drop (i + 1).toNat := by
  rw [show (i + 1).toNat = i.toNat + 1 by omega]
  have h1 : i.toNat < l.length := by omega
  rw [List.drop_eq_getElem_cons h1, List.getD_eq_getElem?_getD, List.getElem?_eq_getElem h1]
  rfl
theorem getD_mem {α : Type} (l : List α) (d : α) (i : Int) (h0 : 0 ≤ i) (h : i < (l.length : Int)) : l.getD i.toNat d ∈ l := by
  have h1 : i.toNat < l.length := by omega
  rw [List.getD_eq_getElem?_getD, List.getElem?_eq_getElem h1]
  exact List.getElem_mem h1
theorem ev_if_pos {α : Type} {c : Prop} [Decidable c] {f g : Nat → Option α} {r : α} (h : c) (e : Ev f r) : Ev (fun k => if c then f k else g k) r := by
  simp only [if_pos h]
  exact e
theorem ev_if_neg {α : Type} {c : Prop} [Decidable c] {f g : Nat → Option α} {r : α} (h : ¬ c) (e : Ev g r) : Ev (fun k => if c then f k else g k) r := by
  simp only [if_neg h]
  exact e
theorem Ev.eq {α : Type} {g : Nat → Option α} {r s : α} (h : Ev g r) (e : r = s) : Ev g s := e ▸ h

theorem szSpanS_ev (l : (List (S64))) (left : Int) (h0 : 0 ≤ left) (h1 : left ≤ 1048576) (hl : l.length ≤ 9223372036854775807) :
    ∃ v, Ev (fun k => laws_szSpanS.f l left) v ∧ v ≤ left ∧ (0 ≤ v → (l.length : Int) ≤ left) := by
  unfold laws_szSpanS.f
  have hw : wrap64 (left - (l.length : Int)) = left - (l.length : Int) := wrap_id (by omega) (by omega)
  simp only [hw]
  by_cases c : left - (l.length : Int) < 0
  · exact ⟨-1, ev_if_pos c (Ev.now _), by omega, fun h => absurd h (by omega)⟩
  · exact ⟨left - (l.length : Int), ev_if_neg c (Ev.now _), by omega, fun h => by omega⟩

def cv_Span (x : S64) : S61 := ⟨x.f0, x.f1⟩

theorem toSpan_ev (x : S64) : Ev (fun k => laws_toSpan.f x.f0 x.f1) ((cv_Span (x)).f0, (cv_Span (x)).f1) := by
  unfold laws_toSpan.f
  exact Ev.now _

theorem toSpanS_l0 (l : (List (S64))) (hl : (l.length : Int) ≤ 1048576) : ∀ (d : Nat) (i : Int) (acc : (List (S61))), 0 ≤ i → i + d = l.length → acc.length = l.length →
    Ev (fun k => laws_toSpanS.l0 k l acc i) (acc.take i.toNat ++ (l.drop i.toNat).map cv_Span)
  | 0, i, acc, h0, h1, h2 => by
    have c : ¬ i < (l.length : Int) := by omega
    refine Ev.eq (Ev.step (f := fun _ => some acc) (fun k => by rw [laws_toSpanS.l0, if_neg c]) (Ev.now _)) ?_
    rw [List.take_of_length_le (by omega), List.drop_eq_nil_of_le (by omega)]
    simp
  | d + 1, i, acc, h0, h1, h2 => by
    have c : i < (l.length : Int) := by omega
    have c' : i < (acc.length : Int) := by omega
    have hm : rd_T64 l i ∈ l := getD_mem l _ i h0 c
    have hw : wrap64 (i + 1) = i + 1 := wrap_id (by omega) (by omega)
    have ih := toSpanS_l0 l hl  d (i + 1) (acc.set i.toNat (cv_Span (rd_T64 l i))) (by omega) (by omega) (by rw [List.length_set]; exact h2)
    rw [nat_set acc i _ h0 c', List.append_assoc] at ih
    have hd := drop_getD l z64 i h0 c
    refine Ev.eq ?_ (show acc.take i.toNat ++ ([cv_Span (rd_T64 l i)] ++ (l.drop (i + 1).toNat).map cv_Span) = _ by rw [hd]; rfl)
    refine Ev.step (fun k => by rw [laws_toSpanS.l0, if_pos c, if_pos h0]) (Ev.bind (toSpan_ev (rd_T64 l i) ) ?_)
    refine ev_if_pos c' ?_
    rw [hw]
    exact ih
theorem toSpanS_ev (l : (List (S64))) (hl : (l.length : Int) ≤ 1048576) : Ev (fun k => laws_toSpanS.f k l) (l.map cv_Span) := by
  unfold laws_toSpanS.f
  refine ev_if_pos (by omega) (ev_if_pos (by omega) ?_)
  refine Ev.eq (toSpanS_l0 l hl  l.length 0 _ (by omega) (by omega) (by rw [List.length_replicate]; omega)) ?_
  simp

theorem eqSpan_ev (x : S61) : Ev (fun k => laws_eqSpan.f x.f0 x.f1 x.f0 x.f1) true := by
  unfold laws_eqSpan.f
  refine ev_if_pos (by first | rfl | simp) ?_
  refine ev_if_pos (by first | rfl | simp) ?_
  exact Ev.now _

theorem eqSpanS_l0 (l : (List (S61))) (hl : (l.length : Int) ≤ 1048576) : ∀ (d : Nat) (i : Int), 0 ≤ i → i + d = l.length → Ev (fun k => laws_eqSpanS.l0 k l l i) true
  | 0, i, h0, h1 => by
    have c : ¬ i < (l.length : Int) := by omega
    exact Ev.step (f := fun _ => some true) (fun k => by rw [laws_eqSpanS.l0, if_neg c]) (Ev.now _)
  | d + 1, i, h0, h1 => by
    have c : i < (l.length : Int) := by omega
    have hm : rd_T61 l i ∈ l := getD_mem l _ i h0 c
    have hw : wrap64 (i + 1) = i + 1 := wrap_id (by omega) (by omega)
    have ih := eqSpanS_l0 l hl  d (i + 1) (by omega) (by omega)
    refine Ev.step (fun k => by rw [laws_eqSpanS.l0, if_pos c, if_pos h0, if_pos c]) (Ev.bind (eqSpan_ev (rd_T61 l i) ) (ev_if_pos rfl ?_))
    rw [hw]
    exact ih
theorem eqSpanS_ev (l : (List (S61))) (hl : (l.length : Int) ≤ 1048576) : Ev (fun k => laws_eqSpanS.f k l l) true := by
  unfold laws_eqSpanS.f
  exact ev_if_pos rfl (eqSpanS_l0 l hl  l.length 0 (by omega) (by omega))

theorem toIntS_l0 (l : (List Int)) (hl : (l.length : Int) ≤ 1048576) : ∀ (d : Nat) (i : Int) (acc : (List Int)), 0 ≤ i → i + d = l.length → acc.length = l.length →
    Ev (fun k => laws_toIntS.l0 k l acc i) (acc.take i.toNat ++ (l.drop i.toNat))
  | 0, i, acc, h0, h1, h2 => by
    have c : ¬ i < (l.length : Int) := by omega
    refine Ev.eq (Ev.step (f := fun _ => some acc) (fun k => by rw [laws_toIntS.l0, if_neg c]) (Ev.now _)) ?_
    rw [List.take_of_length_le (by omega), List.drop_eq_nil_of_le (by omega)]
    simp
  | d + 1, i, acc, h0, h1, h2 => by
    have c : i < (l.length : Int) := by omega
    have c' : i < (acc.length : Int) := by omega
    have hm : rd l i ∈ l := getD_mem l _ i h0 c
    have hw : wrap64 (i + 1) = i + 1 := wrap_id (by omega) (by omega)
    have ih := toIntS_l0 l hl  d (i + 1) (acc.set i.toNat (rd l i)) (by omega) (by omega) (by rw [List.length_set]; exact h2)
    rw [nat_set acc i _ h0 c', List.append_assoc] at ih
    have hd := drop_getD l 0 i h0 c
    refine Ev.eq ?_ (show acc.take i.toNat ++ ([rd l i] ++ (l.drop (i + 1).toNat)) = _ by rw [hd]; rfl)
    refine Ev.step (fun k => by rw [laws_toIntS.l0, if_pos c, if_pos h0, if_pos c', hw]) ih
theorem toIntS_ev (l : (List Int)) (hl : (l.length : Int) ≤ 1048576) : Ev (fun k => laws_toIntS.f k l) (l) := by
  unfold laws_toIntS.f
  refine ev_if_pos (by omega) (ev_if_pos (by omega) ?_)
  refine Ev.eq (toIntS_l0 l hl  l.length 0 _ (by omega) (by omega) (by rw [List.length_replicate]; omega)) ?_
  simp

theorem eqIntS_l0 (l : (List Int)) (hl : (l.length : Int) ≤ 1048576) : ∀ (d : Nat) (i : Int), 0 ≤ i → i + d = l.length → Ev (fun k => laws_eqIntS.l0 k l l i) true
  | 0, i, h0, h1 => by
    have c : ¬ i < (l.length : Int) := by omega
    exact Ev.step (f := fun _ => some true) (fun k => by rw [laws_eqIntS.l0, if_neg c]) (Ev.now _)
  | d + 1, i, h0, h1 => by
    have c : i < (l.length : Int) := by omega
    have hm : rd l i ∈ l := getD_mem l _ i h0 c
    have hw : wrap64 (i + 1) = i + 1 := wrap_id (by omega) (by omega)
    have ih := eqIntS_l0 l hl  d (i + 1) (by omega) (by omega)
    refine Ev.step (fun k => by rw [laws_eqIntS.l0, if_pos c, if_pos h0, if_pos c, if_pos rfl, hw]) ih
theorem eqIntS_ev (l : (List Int)) (hl : (l.length : Int) ≤ 1048576) : Ev (fun k => laws_eqIntS.f k l l) true := by
  unfold laws_eqIntS.f
  exact ev_if_pos rfl (eqIntS_l0 l hl  l.length 0 (by omega) (by omega))

theorem spec_GoodSpans_l0 (l : List S61) (hl : (l.length : Int) ≤ 1048576) : ∀ (d : Nat) (i : Int), 0 ≤ i → i + d = l.length →
    Ev (fun k => spec_GoodSpans.l0 k l l l.length i) (!(l.drop i.toNat).any spanBad && decide (l.length ≤ 30))
  | 0, i, h0, h1 => by
    have c : ¬ i < (l.length : Int) := by omega
    refine Ev.eq (Ev.step (f := fun _ => some (decide ((l.length : Int) ≤ 30))) (fun k => by rw [spec_GoodSpans.l0, if_neg c]) (Ev.now _)) ?_
    rw [List.drop_eq_nil_of_le (by omega)]
    simp
    omega
  | d + 1, i, h0, h1 => by
    have c : i < (l.length : Int) := by omega
    have hw : wrap64 (i + 1) = i + 1 := wrap_id (by omega) (by omega)
    have hd : l.drop i.toNat = rd_T61 l i :: l.drop (i + 1).toNat := drop_getD l _ i h0 c
    have ih := spec_GoodSpans_l0 l hl d (i + 1) (by omega) (by omega)
    rw [hd, List.any_cons]
    by_cases c1 : (rd_T61 l i).f0 < 0
    · refine Ev.eq (Ev.step (f := fun _ => some false) (fun k => by rw [spec_GoodSpans.l0, if_pos c, if_pos h0, if_pos c, if_pos c1]) (Ev.now _)) ?_
      simp [spanBad, c1]
    · by_cases c2 : (rd_T61 l i).f0 ≥ (rd_T61 l i).f1
      · refine Ev.eq (Ev.step (f := fun _ => some false) (fun k => by rw [spec_GoodSpans.l0, if_pos c, if_pos h0, if_pos c, if_neg c1, if_pos c2]) (Ev.now _)) ?_
        simp [spanBad, c2]
      · by_cases c3 : (rd_T61 l i).f1 > 1000
        · refine Ev.eq (Ev.step (f := fun _ => some false) (fun k => by rw [spec_GoodSpans.l0, if_pos c, if_pos h0, if_pos c, if_neg c1, if_neg c2, if_pos c3]) (Ev.now _)) ?_
          simp [spanBad, c3]
        · have hb : spanBad (rd_T61 l i) = false := by simp [spanBad]; omega
          rw [hb, Bool.false_or]
          refine Ev.step (fun k => by rw [spec_GoodSpans.l0, if_pos c, if_pos h0, if_pos c, if_neg c1, if_neg c2, if_neg c3, hw]) ih
theorem spec_GoodSpans_ev (l : List S61) (hl : (l.length : Int) ≤ 1048576) : Ev (fun k => spec_GoodSpans.f k l) (decide (l.length ≤ 30) && !l.any spanBad) := by
  refine Ev.eq (spec_GoodSpans_l0 l hl l.length 0 (by omega) (by omega)) ?_
  rw [Bool.and_comm]
  rfl
/-- The two loops over spans that are held, side by side: the inner one. -/
theorem placed_l1 (l : List S61) (p : List Int) (hl : (l.length : Int) ≤ 1048576) (hp : p.length = l.length) (i : Int) (h0 : 0 ≤ i) (h1 : i < (l.length : Int))
    (H : ∃ b, Ev (fun k => impl_placed.l0 k l p l l.length (i + 1)) b ∧ Ev (fun k => spec_IsPlaced.l0 k l p l l.length (i + 1)) (b, true)) (y : List S61) (hy : y.length = i.toNat) :
    ∀ (d : Nat) (j : Int), 0 ≤ j → j + d = y.length →
      ∃ b, Ev (fun k => impl_placed.l1 k l p i l l.length i y y.length j (rd_T61 l i).f0 (rd_T61 l i).f1) b ∧
        Ev (fun k => spec_IsPlaced.l1 k l p i l l.length i y y.length j (rd_T61 l i).f0 (rd_T61 l i).f1) (b, true)
  | 0, j, g0, g1 => by
    have c : ¬ j < (y.length : Int) := by omega
    have hw : wrap64 (i + 1) = i + 1 := wrap_id (by omega) (by omega)
    obtain ⟨b, e1, e2⟩ := H
    exact ⟨b, Ev.step (fun k => by rw [impl_placed.l1, if_neg c, hw]) e1, Ev.step (fun k => by rw [spec_IsPlaced.l1, if_neg c, hw]) e2⟩
  | d + 1, j, g0, g1 => by
    have c : j < (y.length : Int) := by omega
    have cp : j < (p.length : Int) := by omega
    have ci : i < (p.length : Int) := by omega
    have hw : wrap64 (j + 1) = j + 1 := wrap_id (by omega) (by omega)
    obtain ⟨b, e1, e2⟩ := placed_l1 l p hl hp i h0 h1 H y hy d (j + 1) (by omega) (by omega)
    by_cases c1 : rd p i = rd p j
    · by_cases c2 : (rd_T61 l i).f0 < (rd_T61 y j).f1
      · by_cases c3 : (rd_T61 y j).f0 < (rd_T61 l i).f1
        · refine ⟨false, Ev.step (f := fun _ => some false) (fun k => by rw [impl_placed.l1, if_pos c, if_pos g0, if_pos c, if_pos cp, if_pos h0, if_pos ci, if_pos c1.symm, if_pos c2, if_pos c3]) (Ev.now _),
            Ev.step (f := fun _ => some (false, true)) (fun k => by rw [spec_IsPlaced.l1, if_pos c, if_pos g0, if_pos c, if_pos h0, if_pos ci, if_pos cp, if_pos c1]; simp [spec_l14Meet.f, c2, c3]) (Ev.now _)⟩
        · refine ⟨b, Ev.step (fun k => by rw [impl_placed.l1, if_pos c, if_pos g0, if_pos c, if_pos cp, if_pos h0, if_pos ci, if_pos c1.symm, if_pos c2, if_neg c3, hw]) e1,
            Ev.step (f := fun k => spec_IsPlaced.l1 k l p i l l.length i y y.length (j + 1) (rd_T61 l i).f0 (rd_T61 l i).f1) (fun k => by rw [spec_IsPlaced.l1, if_pos c, if_pos g0, if_pos c, if_pos h0, if_pos ci, if_pos cp, if_pos c1, hw]; simp [spec_l14Meet.f, c2, c3]) e2⟩
      · refine ⟨b, Ev.step (fun k => by rw [impl_placed.l1, if_pos c, if_pos g0, if_pos c, if_pos cp, if_pos h0, if_pos ci, if_pos c1.symm, if_neg c2, hw]) e1,
            Ev.step (f := fun k => spec_IsPlaced.l1 k l p i l l.length i y y.length (j + 1) (rd_T61 l i).f0 (rd_T61 l i).f1) (fun k => by rw [spec_IsPlaced.l1, if_pos c, if_pos g0, if_pos c, if_pos h0, if_pos ci, if_pos cp, if_pos c1, hw]; simp [spec_l14Meet.f, c2]) e2⟩
    · exact ⟨b, Ev.step (fun k => by rw [impl_placed.l1, if_pos c, if_pos g0, if_pos c, if_pos cp, if_pos h0, if_pos ci, if_neg (fun e => c1 e.symm), hw]) e1,
        Ev.step (fun k => by rw [spec_IsPlaced.l1, if_pos c, if_pos g0, if_pos c, if_pos h0, if_pos ci, if_pos cp, if_neg c1, hw]) e2⟩
theorem placed_l0 (l : List S61) (p : List Int) (hl : (l.length : Int) ≤ 1048576) (hp : p.length = l.length) : ∀ (d : Nat) (i : Int), 0 ≤ i → i + d = l.length →
    ∃ b, Ev (fun k => impl_placed.l0 k l p l l.length i) b ∧ Ev (fun k => spec_IsPlaced.l0 k l p l l.length i) (b, true)
  | 0, i, h0, h1 => by
    have c : ¬ i < (l.length : Int) := by omega
    exact ⟨true, Ev.step (f := fun _ => some true) (fun k => by rw [impl_placed.l0, if_neg c]) (Ev.now _), Ev.step (f := fun _ => some (true, true)) (fun k => by rw [spec_IsPlaced.l0, if_neg c]) (Ev.now _)⟩
  | d + 1, i, h0, h1 => by
    have c : i < (l.length : Int) := by omega
    have cp : i < (p.length : Int) := by omega
    by_cases c1 : rd p i < 0
    · exact ⟨false, Ev.step (f := fun _ => some false) (fun k => by rw [impl_placed.l0, if_pos c, if_pos h0, if_pos c, if_pos cp, if_pos c1]) (Ev.now _),
        Ev.step (f := fun _ => some (false, true)) (fun k => by rw [spec_IsPlaced.l0, if_pos c, if_pos h0, if_pos c, if_pos cp, if_pos c1]) (Ev.now _)⟩
    · have H := placed_l0 l p hl hp d (i + 1) (by omega) (by omega)
      have hy : (l.take i.toNat).length = i.toNat := by rw [List.length_take]; omega
      have ci : i ≤ (l.length : Int) := by omega
      obtain ⟨b, e1, e2⟩ := placed_l1 l p hl hp i h0 c H (l.take i.toNat) hy i.toNat 0 (by omega) (by omega)
      exact ⟨b, Ev.step (fun k => by rw [impl_placed.l0, if_pos c, if_pos h0, if_pos c, if_pos cp, if_neg c1, if_pos ci]; rfl) e1,
        Ev.step (fun k => by rw [spec_IsPlaced.l0, if_pos c, if_pos h0, if_pos c, if_pos cp, if_neg c1, if_pos ci]; rfl) e2⟩
/-- IsPlaced of both. -/
theorem isplaced_both2 (l : List S61) (p : List Int) (hl : (l.length : Int) ≤ 1048576) : ∃ r : Bool × Bool, Ev (fun k => impl_IsPlaced.f k l p) r ∧ Ev (fun k => spec_IsPlaced.f k l p) r ∧ (r.2 = true → p.length = l.length) := by
  unfold impl_IsPlaced.f spec_IsPlaced.f impl_GoodSpans.f
  by_cases c1 : (decide (l.length ≤ 30) && !l.any spanBad) = true
  · by_cases c2 : (p.length : Int) = (l.length : Int)
    · obtain ⟨b, e1, e2⟩ := placed_l0 l p hl (by omega) l.length 0 (by omega) (by omega)
      refine ⟨(b, true), Ev.bind (Ev.now _) (ev_if_pos c1 (ev_if_pos c2 (Ev.bind e1 (Ev.now _)))), Ev.bind (spec_GoodSpans_ev l hl) (ev_if_pos c1 ?_), fun _ => by omega⟩
      exact Ev.step (fun k => by rw [spec_IsPlaced.j0, if_neg (by simp; omega)]) e2
    · refine ⟨(false, false), Ev.bind (Ev.now _) (ev_if_pos c1 (ev_if_neg c2 (Ev.now _))), Ev.bind (spec_GoodSpans_ev l hl) (ev_if_pos c1 ?_), fun h => by simp at h⟩
      exact Ev.step (f := fun _ => some (false, false)) (fun k => by rw [spec_IsPlaced.j0, if_pos (by simp; omega)]) (Ev.now _)
  · refine ⟨(false, false), Ev.bind (Ev.now _) (ev_if_neg c1 (Ev.now _)), Ev.bind (spec_GoodSpans_ev l hl) (ev_if_neg c1 ?_), fun h => by simp at h⟩
    exact Ev.step (f := fun _ => some (false, false)) (fun k => by rw [spec_IsPlaced.j0, if_pos rfl]) (Ev.now _)
theorem isplaced_both (l : List S61) (p : List Int) (hl : (l.length : Int) ≤ 1048576) : ∃ r, Ev (fun k => impl_IsPlaced.f k l p) r ∧ Ev (fun k => spec_IsPlaced.f k l p) r := by
  obtain ⟨r, e1, e2, _⟩ := isplaced_both2 l p hl
  exact ⟨r, e1, e2⟩
theorem within0_f (a b c : Int) : impl_within.f a b c = some (decide (b ≤ a) && decide (a ≤ c)) := by
  unfold impl_within.f
  by_cases h : a ≥ b <;> simp [h] <;> omega
theorem l1In0_f (a b c : Int) : spec_l1In.f a b c = some (decide (b ≤ a) && decide (a ≤ c)) := by
  unfold spec_l1In.f
  by_cases h : a ≥ b <;> simp [h] <;> omega
/-- Number n is held at a moment. -/
def HeldAt (l : List S61) (p : List Int) (at_ n : Int) (j : Int) : Prop := rd p j = n ∧ (rd_T61 l j).f0 ≤ at_ ∧ at_ < (rd_T61 l j).f1
def Held (l : List S61) (p : List Int) (at_ n : Int) : Prop := ∃ j : Int, 0 ≤ j ∧ j < l.length ∧ HeldAt l p at_ n j
def Least (l : List S61) (p : List Int) (at_ n : Int) : Prop := 0 ≤ n ∧ ¬ Held l p at_ n ∧ ∀ m, 0 ≤ m → m < n → Held l p at_ m
theorem least_one {l : List S61} {p : List Int} {at_ n m : Int} (h : Least l p at_ n) (g : Least l p at_ m) : n = m := by
  rcases Int.lt_trichotomy n m with c | c | c
  · exact absurd (g.2.2 n h.1 c) h.2.1
  · exact c
  · exact absurd (h.2.2 m g.1 c) g.2.1
theorem pigeon : ∀ (n : Nat) (p : List Int), (∀ m : Int, 0 ≤ m → m < n → m ∈ p) → n ≤ p.length
  | 0, _, _ => Nat.zero_le _
  | n + 1, p, h => by
    have hm : (n : Int) ∈ p := h n (by omega) (by omega)
    have ih := pigeon n (p.erase n) (fun m h0 h1 => (List.mem_erase_of_ne (by omega)).2 (h m h0 (by omega)))
    have := List.length_erase_of_mem hm
    have := List.length_pos_of_mem hm
    omega
theorem held_many {l : List S61} {p : List Int} (hp : p.length = l.length) {at_ : Int} {n : Int} (h0 : 0 ≤ n) (h : ∀ m, 0 ≤ m → m < n → Held l p at_ m) : n ≤ l.length := by
  have := pigeon n.toNat p (fun m g0 g1 => by
    obtain ⟨j, j0, j1, e, _⟩ := h m g0 (by omega)
    rw [← e]
    exact getD_mem p 0 j j0 (by omega))
  omega
theorem impl_least_l1 (l : List S61) (p : List Int) (hl : (l.length : Int) ≤ 1048576) (hp : p.length = l.length) (at_ n r : Int) (hn : wrap64 (n + 1) = n + 1)
    (H : Held l p at_ n → Ev (fun k => impl_least.l0 k l p at_ (n + 1)) r) (H0 : ¬ Held l p at_ n → r = n) : ∀ (d : Nat) (j : Int) (b : Bool), 0 ≤ j → j + d = l.length →
    (b = true ↔ ∃ q : Int, 0 ≤ q ∧ q < j ∧ HeldAt l p at_ n q) → Ev (fun k => impl_least.l1 k l p at_ n b l l.length j) r
  | 0, j, b, h0, h1, hb => by
    have c : ¬ j < (l.length : Int) := by omega
    cases b
    · have hno : ¬ Held l p at_ n := fun ⟨q, q0, q1, hq⟩ => by simpa using hb.2 ⟨q, q0, by omega, hq⟩
      rw [H0 hno]
      exact Ev.step (f := fun _ => some n) (fun k => by rw [impl_least.l1, if_neg c, if_neg (by simp)]) (Ev.now _)
    · obtain ⟨q, q0, q1, hq⟩ := hb.1 rfl
      exact Ev.step (fun k => by rw [impl_least.l1, if_neg c, if_pos rfl, hn]) (H ⟨q, q0, by omega, hq⟩)
  | d + 1, j, b, h0, h1, hb => by
    have c : j < (l.length : Int) := by omega
    have cp : j < (p.length : Int) := by omega
    have hw : wrap64 (j + 1) = j + 1 := wrap_id (by omega) (by omega)
    have up : ∀ b' : Bool, (b' = true ↔ (b = true ∨ HeldAt l p at_ n j)) → (b' = true ↔ ∃ q : Int, 0 ≤ q ∧ q < j + 1 ∧ HeldAt l p at_ n q) := by
      intro b' e
      rw [e, hb]
      constructor
      · rintro (⟨q, q0, q1, hq⟩ | hq)
        · exact ⟨q, q0, by omega, hq⟩
        · exact ⟨j, h0, by omega, hq⟩
      · rintro ⟨q, q0, q1, hq⟩
        by_cases e : q = j
        · exact .inr (e ▸ hq)
        · exact .inl ⟨q, q0, by omega, hq⟩
    cases b
    · by_cases e : rd p j = n
      · have hh : ∀ b', impl_Span_held.f (rd_T61 l j).f0 (rd_T61 l j).f1 at_ = some b' → (b' = true ↔ (false = true ∨ HeldAt l p at_ n j)) := by
          intro b' hb'
          unfold impl_Span_held.f at hb'
          unfold HeldAt
          by_cases c1 : (rd_T61 l j).f0 ≤ at_
          · rw [if_pos c1] at hb'
            obtain rfl := Option.some.inj hb'
            simp [e, c1]
          · rw [if_neg c1] at hb'
            obtain rfl := Option.some.inj hb'
            simp [c1]
        obtain ⟨b', hb'⟩ : ∃ b', impl_Span_held.f (rd_T61 l j).f0 (rd_T61 l j).f1 at_ = some b' := by
          unfold impl_Span_held.f
          split <;> exact ⟨_, rfl⟩
        have ih := impl_least_l1 l p hl hp at_ n r hn H H0 d (j + 1) b' (by omega) (by omega) (up b' (hh b' hb'))
        exact Ev.step (fun k => by rw [impl_least.l1, if_pos c, if_pos h0, if_pos c, if_neg (by simp), if_pos cp, if_pos e, hb', hw] <;> rfl) ih
      · have ih := impl_least_l1 l p hl hp at_ n r hn H H0 d (j + 1) false (by omega) (by omega) (up false (by simp [HeldAt, e]))
        exact Ev.step (fun k => by rw [impl_least.l1, if_pos c, if_pos h0, if_pos c, if_neg (by simp), if_pos cp, if_neg e, hw]) ih
    · have ih := impl_least_l1 l p hl hp at_ n r hn H H0 d (j + 1) true (by omega) (by omega) (up true (by simp))
      exact Ev.step (fun k => by rw [impl_least.l1, if_pos c, if_pos h0, if_pos c, if_pos rfl, hw]) ih
theorem impl_least_l0 (l : List S61) (p : List Int) (hl : (l.length : Int) ≤ 1048576) (hp : p.length = l.length) (at_ : Int) : ∀ (D : Nat) (n : Int), 0 ≤ n → n + D = l.length + 1 →
    (∀ m, 0 ≤ m → m < n → Held l p at_ m) → ∃ r, Least l p at_ r ∧ Ev (fun k => impl_least.l0 k l p at_ n) r
  | 0, n, h0, h1, hm => by
    have := held_many hp h0 hm
    omega
  | D + 1, n, h0, h1, hm => by
    have hn : wrap64 (n + 1) = n + 1 := wrap_id (by omega) (by omega)
    by_cases hh : Held l p at_ n
    · obtain ⟨r, hr, e⟩ := impl_least_l0 l p hl hp at_ D (n + 1) (by omega) (by omega) (fun m m0 m1 => by
        by_cases e : m = n
        · exact e ▸ hh
        · exact hm m m0 (by omega))
      exact ⟨r, hr, Ev.step (fun k => by rw [impl_least.l0]) (impl_least_l1 l p hl hp at_ n r hn (fun _ => e) (fun h => absurd hh h) l.length 0 false (by omega) (by omega) (by simp; intro q q0 q1; omega))⟩
    · exact ⟨n, ⟨h0, hh, hm⟩, Ev.step (fun k => by rw [impl_least.l0]) (impl_least_l1 l p hl hp at_ n n hn (fun h => absurd h hh) (fun _ => rfl) l.length 0 false (by omega) (by omega) (by simp; intro q q0 q1; omega))⟩
theorem spec_least_l1 (l : List S61) (p : List Int) (hl : (l.length : Int) ≤ 1048576) (hp : p.length = l.length) (at_ n : Int)
    (IH : ∀ n', n < n' → (∀ m, 0 ≤ m → m < n' → Held l p at_ m) → ∃ r, Least l p at_ r ∧ Ev (fun k => spec_l14Least.l0 k l p at_ n' true) r) : ∀ (d : Nat) (j n' : Int) (b : Bool), 0 ≤ j → j + d = l.length →
    0 ≤ n' → (∀ m, 0 ≤ m → m < n' → Held l p at_ m) → (b = true → n < n') → (b = false → n' = n ∧ ∀ q : Int, 0 ≤ q → q < j → ¬ HeldAt l p at_ n q) →
    ∃ r, Least l p at_ r ∧ Ev (fun k => spec_l14Least.l1 k l p at_ n' b l l.length j) r
  | 0, j, n', b, h0, h1, g0, hm, ht, hf => by
    have c : ¬ j < (l.length : Int) := by omega
    cases b
    · obtain ⟨rfl, hno⟩ := hf rfl
      exact ⟨n', ⟨g0, fun ⟨q, q0, q1, hq⟩ => hno q q0 (by omega) hq, hm⟩, Ev.step (f := fun k => spec_l14Least.l0 k l p at_ n' false) (fun k => by rw [spec_l14Least.l1, if_neg c]) (Ev.step (f := fun _ => some n') (fun k => by rw [spec_l14Least.l0, if_neg (by simp)]) (Ev.now _))⟩
    · obtain ⟨r, hr, e⟩ := IH n' (ht rfl) hm
      exact ⟨r, hr, Ev.step (fun k => by rw [spec_l14Least.l1, if_neg c]) e⟩
  | d + 1, j, n', b, h0, h1, g0, hm, ht, hf => by
    have c : j < (l.length : Int) := by omega
    have cp : j < (p.length : Int) := by omega
    have hw : wrap64 (j + 1) = j + 1 := wrap_id (by omega) (by omega)
    have hle := held_many hp g0 hm
    by_cases hh : HeldAt l p at_ n' j
    · obtain ⟨c1, c2, c3⟩ := hh
      have hn : wrap64 (n' + 1) = n' + 1 := wrap_id (by omega) (by omega)
      obtain ⟨r, hr, e⟩ := spec_least_l1 l p hl hp at_ n IH d (j + 1) (n' + 1) true (by omega) (by omega) (by omega) (fun m m0 m1 => by
        by_cases e : m = n'
        · exact ⟨j, h0, c, by rw [e]; exact ⟨c1, c2, c3⟩⟩
        · exact hm m m0 (by omega)) (fun _ => by
          cases b
          · have := (hf rfl).1; omega
          · have := ht rfl; omega) (fun h => by simp at h)
      exact ⟨r, hr, Ev.step (fun k => by rw [spec_l14Least.l1, if_pos c, if_pos h0, if_pos c, if_pos cp, if_pos c1, if_pos c2, if_pos c3, hn, hw]) e⟩
    · obtain ⟨r, hr, e⟩ := spec_least_l1 l p hl hp at_ n IH d (j + 1) n' b (by omega) (by omega) g0 hm ht (fun hb => ⟨(hf hb).1, fun q q0 q1 => by
        by_cases e : q = j
        · rw [e, ← (hf hb).1]; exact hh
        · exact (hf hb).2 q q0 (by omega)⟩)
      refine ⟨r, hr, ?_⟩
      by_cases c1 : rd p j = n'
      · by_cases c2 : (rd_T61 l j).f0 ≤ at_
        · by_cases c3 : at_ < (rd_T61 l j).f1
          · exact absurd ⟨c1, c2, c3⟩ hh
          · exact Ev.step (fun k => by rw [spec_l14Least.l1, if_pos c, if_pos h0, if_pos c, if_pos cp, if_pos c1, if_pos c2, if_neg c3, hw]) e
        · exact Ev.step (fun k => by rw [spec_l14Least.l1, if_pos c, if_pos h0, if_pos c, if_pos cp, if_pos c1, if_neg c2, hw]) e
      · exact Ev.step (fun k => by rw [spec_l14Least.l1, if_pos c, if_pos h0, if_pos c, if_pos cp, if_neg c1, hw]) e
theorem spec_least_l0 (l : List S61) (p : List Int) (hl : (l.length : Int) ≤ 1048576) (hp : p.length = l.length) (at_ : Int) : ∀ (D : Nat) (n : Int), 0 ≤ n → l.length + 1 - n ≤ D →
    (∀ m, 0 ≤ m → m < n → Held l p at_ m) → ∃ r, Least l p at_ r ∧ Ev (fun k => spec_l14Least.l0 k l p at_ n true) r
  | 0, n, h0, h1, hm => by
    have := held_many hp h0 hm
    omega
  | D + 1, n, h0, h1, hm => by
    obtain ⟨r, hr, e⟩ := spec_least_l1 l p hl hp at_ n (fun n' hn hm' => spec_least_l0 l p hl hp at_ D n' (by omega) (by omega) hm') l.length 0 n false (by omega) (by omega) h0 hm (fun h => by simp at h) (fun _ => ⟨rfl, fun q q0 q1 => by omega⟩)
    exact ⟨r, hr, Ev.step (fun k => by rw [spec_l14Least.l0, if_pos rfl]) e⟩
theorem least_both (l : List S61) (p : List Int) (hl : (l.length : Int) ≤ 1048576) (hp : p.length = l.length) (at_ : Int) : ∃ r, Least l p at_ r ∧ Ev (fun k => impl_least.f k l p at_) r ∧ Ev (fun k => spec_l14Least.f k l p at_) r := by
  obtain ⟨r, hr, e1⟩ := impl_least_l0 l p hl hp at_ (l.length + 1) 0 (by omega) (by omega) (fun m m0 m1 => by omega)
  obtain ⟨q, hq, e2⟩ := spec_least_l0 l p hl hp at_ (l.length + 1) 0 (by omega) (by omega) (fun m m0 m1 => by omega)
  exact ⟨r, hr, e1, least_one hq hr ▸ e2⟩
theorem freeat_both (l : List S61) (p : List Int) (at_ : Int) (hl : (l.length : Int) ≤ 1048576) : ∃ r, Ev (fun k => impl_FreeAt.f k l p at_) r ∧ Ev (fun k => spec_FreeAt.f k l p at_) r := by
  obtain ⟨⟨b1, b2⟩, e1, e2, hb⟩ := isplaced_both2 l p hl
  unfold impl_FreeAt.f spec_FreeAt.f
  cases b1
  · exact ⟨(0, false), Ev.bind e1 (ev_if_neg (by simp) (Ev.now _)), Ev.bind e2 (ev_if_neg (by simp) (Ev.now _))⟩
  · cases b2
    · exact ⟨(0, false), Ev.bind e1 (ev_if_pos rfl (ev_if_neg (by simp) (Ev.now _))), Ev.bind e2 (ev_if_pos rfl (ev_if_neg (by simp) (Ev.now _)))⟩
    · rw [within0_f, l1In0_f]
      cases hw : (decide (0 ≤ at_) && decide (at_ ≤ 1000))
      · exact ⟨(0, false), Ev.bind e1 (ev_if_pos rfl (ev_if_pos rfl (Ev.bind (Ev.now _) (ev_if_neg (by simp) (Ev.now _))))), Ev.bind e2 (ev_if_pos rfl (ev_if_pos rfl (Ev.bind (Ev.now _) (ev_if_neg (by simp) (Ev.now _)))))⟩
      · obtain ⟨r, _, f1, f2⟩ := least_both l p hl (hb rfl) at_
        exact ⟨(r, true), Ev.bind e1 (ev_if_pos rfl (ev_if_pos rfl (Ev.bind (Ev.now _) (ev_if_pos rfl (Ev.bind f1 (Ev.now _)))))), Ev.bind e2 (ev_if_pos rfl (ev_if_pos rfl (Ev.bind (Ev.now _) (ev_if_pos rfl (Ev.bind f2 (Ev.now _))))))⟩
theorem FnExactFreeAt : laws_FnExactFreeAt.Pure0 := by
  intro l0 l1 a2 h0 h1 h2
  apply Ev.rounds
  unfold laws_FnExactFreeAt.f
  by_cases c1 : (l1.length : Int) > 1048576
  · exact ev_if_pos c1 (Ev.now _)
  refine ev_if_neg c1 ?_
  obtain ⟨v, ev, hv, hb⟩ := szSpanS_ev l0 1048576 (by omega) (by omega) h0.1
  refine Ev.bind ev ?_
  by_cases c2 : v < 0
  · exact ev_if_pos c2 (Ev.now _)
  have hl := hb (by omega)
  refine ev_if_neg c2 (Ev.bind (toSpanS_ev l0 hl) (Ev.bind (toIntS_ev l1 (by omega)) ?_))
  have hl' : ((l0.map cv_Span).length : Int) ≤ 1048576 := by rw [List.length_map]; exact hl
  obtain ⟨r, e1, e2⟩ := freeat_both (l0.map cv_Span) l1 a2 hl'
  refine Ev.bind e2 (Ev.bind (toSpanS_ev l0 hl) (Ev.bind (toIntS_ev l1 (by omega)) (Ev.bind e1 ?_)))
  have j : Ev (fun k => laws_FnExactFreeAt.j0 k l0 l1 (l0.map cv_Span) l1 false) true := by
    refine Ev.step (fun k => by rw [laws_FnExactFreeAt.j0, if_neg (by simp)]) ?_
    exact Ev.bind (toSpanS_ev l0 hl) (Ev.bind (eqSpanS_ev _ hl') (ev_if_pos rfl (Ev.bind (toIntS_ev l1 (by omega)) (Ev.bind (eqIntS_ev l1 (by omega)) (ev_if_pos rfl (Ev.now _))))))
  refine ev_if_pos rfl ?_
  rw [bne_self_eq_false]
  exact j
end Go.Proofs.Ytcbgiccgiegdbaa.Pure
