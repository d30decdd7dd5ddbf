/- FnExactDepthOfCode: at all code DepthOfCode of the program answers as DepthOfCode of the reference, and leaves its argument as it was; no condition. -/
import Derived.Test.YtipolnpffmfmmabDFnExactDepthOfCode
namespace Go.Proofs.Ytipolnpffmfmmab.Pure
open Go.RowKit Go.Proofs.Ytipolnpffmfmmab.PFnExactDepthOfCode Go.Proofs.YtipolnpffmfmmabW.PrintWords Go.Proofs.YtipolnpffmfmmabW.PrintLast Go.Proofs.YtipolnpffmfmmabO
set_option linter.unusedVariables false
set_option linter.unusedSimpArgs false
theorem wrap_id {n : Int} (h0 : -9223372036854775808 ≤ n) (h1 : n ≤ 9223372036854775807) : wrap64 n = n := by
  unfold wrap64
  omega
theorem take_set_succ {α : Type} (l : List α) (i : Nat) (y : α) (h : i < l.length) : (l.set i y).take (i + 1) = l.take i ++ [y] := by
  rw [List.take_succ_eq_append_getElem (by simpa using h), List.take_set_of_le (Nat.le_refl i)]
  simp
theorem nat_set {α : Type} (l : List α) (i : Int) (y : α) (h0 : 0 ≤ i) (h : i < (l.length : Int)) : (l.set i.toNat y).take (i + 1).toNat = l.take i.toNat ++ [y] := by
  rw [show (i + 1).toNat = i.toNat + 1 by omega]
  exact take_set_succ l i.toNat y (by omega)
theorem drop_getD {α : Type} (l : List α) (d : α) (i : Int) (h0 : 0 ≤ i) (h : i < (l.length : Int)) : l.drop i.toNat = l.getD i.toNat d :: l.drop (i + 1).toNat := by
  rw [show (i + 1).toNat = i.toNat + 1 by omega]
  have h1 : i.toNat < l.length := by omega
  rw [List.drop_eq_getElem_cons h1, List.getD_eq_getElem?_getD, List.getElem?_eq_getElem h1]
  rfl
theorem getD_mem {α : Type} (l : List α) (d : α) (i : Int) (h0 : 0 ≤ i) (h : i < (l.length : Int)) : l.getD i.toNat d ∈ l := by
  have h1 : i.toNat < l.length := by omega
  rw [List.getD_eq_getElem?_getD, List.getElem?_eq_getElem h1]
  exact List.getElem_mem h1
theorem ev_if_pos {α : Type} {c : Prop} [Decidable c] {f g : Nat → Option α} {r : α} (h : c) (e : Ev f r) : Ev (fun k => if c then f k else g k) r := by
  simp only [if_pos h]
  exact e
theorem ev_if_neg {α : Type} {c : Prop} [Decidable c] {f g : Nat → Option α} {r : α} (h : ¬ c) (e : Ev g r) : Ev (fun k => if c then f k else g k) r := by
  simp only [if_neg h]
  exact e
theorem Ev.eq {α : Type} {g : Nat → Option α} {r s : α} (h : Ev g r) (e : r = s) : Ev g s := e ▸ h

def Bdl_Bc (n : Int) (x : S89) : Prop := ((x.f2.size : Int) ≤ n)

theorem Bdl_Bc_mono {n m : Int} (h : n ≤ m) {x : S89} (b : Bdl_Bc n x) : Bdl_Bc m x := by
  unfold Bdl_Bc at *
  exact (Int.le_trans b h)

theorem szBc_ev (x : S89) (left : Int) (h0 : 0 ≤ left) (h1 : left ≤ 1048576) (hl : Ok89 x) :
    ∃ v, Ev (fun k => laws_szBc.f x.f0 x.f1 x.f2 left) v ∧ v ≤ left ∧ (0 ≤ v → Bdl_Bc left x) := by
  unfold laws_szBc.f
  have w0 : wrap64 (left - (x.f2.size : Int)) = left - (x.f2.size : Int) := wrap_id (by have := hl.2.2; omega) (by omega)
  simp only [w0]
  by_cases c0 : left - (x.f2.size : Int) < 0
  · exact ⟨-1, ev_if_pos c0 (Ev.now _), by omega, fun h => absurd h (by omega)⟩
  · exact ⟨(left - (x.f2.size : Int)), ev_if_neg c0 (Ev.now _), by omega, fun _ => (show (x.f2.size : Int) ≤ left by omega)⟩

theorem szBcS_l0 (l : (List (S89))) (hl : l.length ≤ 1048576) (hok : ∀ y_ ∈ l, Ok89 y_) (n : Int) (hn : n ≤ 1048576) : ∀ (d : Nat) (i left : Int), 0 ≤ i → i + d = l.length → 0 ≤ left → left ≤ n → (∀ y_ ∈ l.take i.toNat, Bdl_Bc n y_) →
    ∃ v, Ev (fun k => laws_szBcS.l0 k l left i) v ∧ v ≤ left ∧ (0 ≤ v → ∀ y_ ∈ l, Bdl_Bc n y_)
  | 0, i, left, h0, h1, h2, h3, hb => by
    have c : ¬ i < (l.length : Int) := by omega
    refine ⟨left, Ev.step (f := fun _ => some left) (fun k => by rw [laws_szBcS.l0, if_neg c]) (Ev.now _), Int.le_refl _, fun _ y hy => hb y ?_⟩
    rw [List.take_of_length_le (by omega)]
    exact hy
  | d + 1, i, left, h0, h1, h2, h3, hb => by
    have c : i < (l.length : Int) := by omega
    have hm : rd_T89 l i ∈ l := getD_mem l _ i h0 c
    obtain ⟨v, e, hv, hbv⟩ := szBc_ev (rd_T89 l i) left h2 (by omega) (hok _ hm)
    by_cases c2 : v < 0
    · exact ⟨-1, Ev.step (fun k => by rw [laws_szBcS.l0, if_pos c, if_pos h0]) (Ev.bind e (ev_if_pos c2 (Ev.now _))), by omega, fun h => absurd h (by omega)⟩
    · have hw : wrap64 (i + 1) = i + 1 := wrap_id (by omega) (by omega)
      have hb' : ∀ y_ ∈ l.take (i + 1).toNat, Bdl_Bc n y_ := by
        intro y hy
        rw [show (i + 1).toNat = i.toNat + 1 by omega, List.take_succ_eq_append_getElem (by omega)] at hy
        rcases List.mem_append.1 hy with hy | hy
        · exact hb y hy
        · have e2 : y = rd_T89 l i := by
            rw [List.mem_singleton.1 hy]
            unfold rd_T89
            rw [List.getD_eq_getElem?_getD, List.getElem?_eq_getElem (by omega)]
            rfl
          rw [e2]
          exact (Bdl_Bc_mono h3 (hbv (by omega)))
      obtain ⟨u, eu, hu, hbu⟩ := szBcS_l0 l hl hok n hn d (i + 1) v (by omega) (by omega) (by omega) (by omega) hb'
      refine ⟨u, Ev.step (fun k => by rw [laws_szBcS.l0, if_pos c, if_pos h0]) (Ev.bind e (ev_if_neg c2 ?_)), by omega, hbu⟩
      rw [hw]
      exact eu
theorem szBcS_ev (l : (List (S89))) (left : Int) (h0 : 0 ≤ left) (h1 : left ≤ 1048576) (hl : l.length ≤ 9223372036854775807 ∧ ∀ y_ ∈ l, Ok89 y_) :
    ∃ v, Ev (fun k => laws_szBcS.f k l left) v ∧ v ≤ left ∧ (0 ≤ v → (l.length : Int) ≤ left ∧ ∀ y_ ∈ l, Bdl_Bc left y_) := by
  unfold laws_szBcS.f
  have hw : wrap64 (left - (l.length : Int)) = left - (l.length : Int) := wrap_id (by have := hl.1; omega) (by omega)
  simp only [hw]
  by_cases c : left - (l.length : Int) < 0
  · exact ⟨-1, ev_if_pos c (Ev.now _), by omega, fun h => absurd h (by omega)⟩
  · obtain ⟨v, e, hv, hb⟩ := szBcS_l0 l (by omega) hl.2 left h1 l.length 0 (left - (l.length : Int)) (by omega) (by omega) (by omega) (by omega) (fun y hy => by simp at hy)
    exact ⟨v, ev_if_neg c e, by omega, fun h => ⟨by omega, hb h⟩⟩

def cv_Bc (x : S89) : S90 := ⟨x.f0, x.f1, x.f2⟩

theorem toBc_ev (x : S89) (hb : Bdl_Bc 1048576 x) : Ev (fun k => laws_toBc.f x.f0 x.f1 x.f2) ((cv_Bc (x)).f0, (cv_Bc (x)).f1, (cv_Bc (x)).f2) := by
  unfold laws_toBc.f
  unfold Bdl_Bc at hb
  exact Ev.now _

theorem toBcS_l0 (l : (List (S89))) (hl : (l.length : Int) ≤ 1048576) (hb : ∀ y_ ∈ l, Bdl_Bc 1048576 y_) : ∀ (d : Nat) (i : Int) (acc : (List (S90))), 0 ≤ i → i + d = l.length → acc.length = l.length →
    Ev (fun k => laws_toBcS.l0 k l acc i) (acc.take i.toNat ++ (l.drop i.toNat).map cv_Bc)
  | 0, i, acc, h0, h1, h2 => by
    have c : ¬ i < (l.length : Int) := by omega
    refine Ev.eq (Ev.step (f := fun _ => some acc) (fun k => by rw [laws_toBcS.l0, if_neg c]) (Ev.now _)) ?_
    rw [List.take_of_length_le (by omega), List.drop_eq_nil_of_le (by omega)]
    simp
  | d + 1, i, acc, h0, h1, h2 => by
    have c : i < (l.length : Int) := by omega
    have c' : i < (acc.length : Int) := by omega
    have hm : rd_T89 l i ∈ l := getD_mem l _ i h0 c
    have hw : wrap64 (i + 1) = i + 1 := wrap_id (by omega) (by omega)
    have ih := toBcS_l0 l hl hb d (i + 1) (acc.set i.toNat (cv_Bc (rd_T89 l i))) (by omega) (by omega) (by rw [List.length_set]; exact h2)
    rw [nat_set acc i _ h0 c', List.append_assoc] at ih
    have hd := drop_getD l z89 i h0 c
    refine Ev.eq ?_ (show acc.take i.toNat ++ ([cv_Bc (rd_T89 l i)] ++ (l.drop (i + 1).toNat).map cv_Bc) = _ by rw [hd]; rfl)
    refine Ev.step (fun k => by rw [laws_toBcS.l0, if_pos c, if_pos h0]) (Ev.bind (toBc_ev (rd_T89 l i) (hb _ hm)) ?_)
    refine ev_if_pos c' ?_
    rw [hw]
    exact ih
theorem toBcS_ev (l : (List (S89))) (hl : (l.length : Int) ≤ 1048576) (hb : ∀ y_ ∈ l, Bdl_Bc 1048576 y_) : Ev (fun k => laws_toBcS.f k l) (l.map cv_Bc) := by
  unfold laws_toBcS.f
  refine ev_if_pos (by omega) (ev_if_pos (by omega) ?_)
  refine Ev.eq (toBcS_l0 l hl hb l.length 0 _ (by omega) (by omega) (by rw [List.length_replicate]; omega)) ?_
  simp

def Bdx_Bc (n : Int) (x : S90) : Prop := ((x.f2.size : Int) ≤ n)

theorem Bdx_Bc_mono {n m : Int} (h : n ≤ m) {x : S90} (b : Bdx_Bc n x) : Bdx_Bc m x := by
  unfold Bdx_Bc at *
  exact (Int.le_trans b h)

theorem eqBc_ev (x : S90) (hb : Bdx_Bc 1048576 x) : Ev (fun k => laws_eqBc.f x.f0 x.f1 x.f2 x.f0 x.f1 x.f2) true := by
  unfold laws_eqBc.f
  unfold Bdx_Bc at hb
  refine ev_if_pos (by first | rfl | simp) ?_
  refine ev_if_pos (by first | rfl | simp) ?_
  refine ev_if_pos (by first | rfl | simp) ?_
  exact Ev.now _

theorem eqBcS_l0 (l : (List (S90))) (hl : (l.length : Int) ≤ 1048576) (hb : ∀ y_ ∈ l, Bdx_Bc 1048576 y_) : ∀ (d : Nat) (i : Int), 0 ≤ i → i + d = l.length → Ev (fun k => laws_eqBcS.l0 k l l i) true
  | 0, i, h0, h1 => by
    have c : ¬ i < (l.length : Int) := by omega
    exact Ev.step (f := fun _ => some true) (fun k => by rw [laws_eqBcS.l0, if_neg c]) (Ev.now _)
  | d + 1, i, h0, h1 => by
    have c : i < (l.length : Int) := by omega
    have hm : rd_T90 l i ∈ l := getD_mem l _ i h0 c
    have hw : wrap64 (i + 1) = i + 1 := wrap_id (by omega) (by omega)
    have ih := eqBcS_l0 l hl hb d (i + 1) (by omega) (by omega)
    refine Ev.step (fun k => by rw [laws_eqBcS.l0, if_pos c, if_pos h0, if_pos c]) (Ev.bind (eqBc_ev (rd_T90 l i) (hb _ hm)) (ev_if_pos rfl ?_))
    rw [hw]
    exact ih
theorem eqBcS_ev (l : (List (S90))) (hl : (l.length : Int) ≤ 1048576) (hb : ∀ y_ ∈ l, Bdx_Bc 1048576 y_) : Ev (fun k => laws_eqBcS.f k l l) true := by
  unfold laws_eqBcS.f
  exact ev_if_pos rfl (eqBcS_l0 l hl hb l.length 0 (by omega) (by omega))

theorem bcv_Bc {n : Int} {x : S89} (hb : Bdl_Bc n x) : Bdx_Bc n (cv_Bc x) := by
  unfold Bdl_Bc at hb
  unfold Bdx_Bc cv_Bc
  exact hb

theorem spec_l2Strength_f (k : Nat) (a0 : ByteArray) : spec_l2Strength.f (k + 4) a0 = some (strengthL a0.toList).1 := by
  unfold strengthL
  by_cases h0 : a0.toList = [124, 124]
  · simp [spec_l2Strength.f, spec_l2Strength.j0, spec_l2Strength.j1, spec_l2Strength.j2, spec_l2Strength.j3, h0]
  by_cases h1 : a0.toList = [38, 38]
  · simp [spec_l2Strength.f, spec_l2Strength.j0, spec_l2Strength.j1, spec_l2Strength.j2, spec_l2Strength.j3, h1]
  by_cases h2 : a0.toList = [61, 61]
  · simp [spec_l2Strength.f, spec_l2Strength.j0, spec_l2Strength.j1, spec_l2Strength.j2, spec_l2Strength.j3, h2]
  by_cases h3 : a0.toList = [33, 61]
  · simp [spec_l2Strength.f, spec_l2Strength.j0, spec_l2Strength.j1, spec_l2Strength.j2, spec_l2Strength.j3, h3]
  by_cases h4 : a0.toList = [60]
  · simp [spec_l2Strength.f, spec_l2Strength.j0, spec_l2Strength.j1, spec_l2Strength.j2, spec_l2Strength.j3, h4]
  by_cases h5 : a0.toList = [60, 61]
  · simp [spec_l2Strength.f, spec_l2Strength.j0, spec_l2Strength.j1, spec_l2Strength.j2, spec_l2Strength.j3, h5]
  by_cases h6 : a0.toList = [43]
  · simp [spec_l2Strength.f, spec_l2Strength.j0, spec_l2Strength.j1, spec_l2Strength.j2, spec_l2Strength.j3, h6]
  by_cases h7 : a0.toList = [45]
  · simp [spec_l2Strength.f, spec_l2Strength.j0, spec_l2Strength.j1, spec_l2Strength.j2, spec_l2Strength.j3, h7]
  by_cases h8 : a0.toList = [42]
  · simp [spec_l2Strength.f, spec_l2Strength.j0, spec_l2Strength.j1, spec_l2Strength.j2, spec_l2Strength.j3, h8]
  by_cases h9 : a0.toList = [47]
  · simp [spec_l2Strength.f, spec_l2Strength.j0, spec_l2Strength.j1, spec_l2Strength.j2, spec_l2Strength.j3, h9]
  by_cases h10 : a0.toList = [37]
  · simp [spec_l2Strength.f, spec_l2Strength.j0, spec_l2Strength.j1, spec_l2Strength.j2, spec_l2Strength.j3, h10]
  by_cases h11 : a0.toList = [60, 60]
  · simp [spec_l2Strength.f, spec_l2Strength.j0, spec_l2Strength.j1, spec_l2Strength.j2, spec_l2Strength.j3, h11]
  simp [spec_l2Strength.f, spec_l2Strength.j0, spec_l2Strength.j1, spec_l2Strength.j2, spec_l2Strength.j3, h0, h1, h2, h3, h4, h5, h6, h7, h8, h9, h10, h11]
theorem isTwoB_lt (t : List UInt8) : decide ((strengthL t).1 > 2) = isTwoB t := by
  unfold isTwoB strengthL
  by_cases h0 : t = [124, 124]
  · simp [h0]
  by_cases h1 : t = [38, 38]
  · simp [h1]
  by_cases h2 : t = [61, 61]
  · simp [h2]
  by_cases h3 : t = [33, 61]
  · simp [h3]
  by_cases h4 : t = [60]
  · simp [h4]
  by_cases h5 : t = [60, 61]
  · simp [h5]
  by_cases h6 : t = [43]
  · simp [h6]
  by_cases h7 : t = [45]
  · simp [h7]
  by_cases h8 : t = [42]
  · simp [h8]
  by_cases h9 : t = [47]
  · simp [h9]
  by_cases h10 : t = [37]
  · simp [h10]
  by_cases h11 : t = [60, 60]
  · simp [h11]
  simp [h0, h1, h2, h3, h4, h5, h6, h7, h8, h9, h10, h11]
theorem l1In_f (a b c : Int) : spec_l1In.f a b c = some (inB a b c) := by
  unfold spec_l1In.f inB
  by_cases h : a ≥ b <;> simp [h] <;> omega
theorem spec_l16One_ev (n : Int) (h0 : 0 ≤ n) (h1 : n ≤ 1048576) (x : S90) : Ev (fun k => spec_l16One.f k x.f0 x.f1 x.f2 n) (bcGood n x) := by
  refine ⟨9, fun k hk => ?_⟩
  obtain ⟨m, rfl⟩ : ∃ m, k = m + 9 := ⟨k - 9, by omega⟩
  have hw : wrap64 (n - 1) = n - 1 := wrap_id (by omega) (by omega)
  unfold spec_l16One.f bcGood spec_l2Bound.f
  rw [hw, l1In_f, Option.bind_some, Option.bind_some]
  by_cases h4 : x.f0 = 4
  · by_cases h : x.f1 = 0 <;> simp [h4, h, spec_l16One.j0, spec_l16Two.f, spec_l2Strength_f (m + 4), ← isTwoB_lt]
  by_cases h5 : x.f0 = 5
  · by_cases h : x.f1 = 0
    · by_cases g : x.f2.toList = [45] <;> simp [h5, h, g, spec_l16One.j0]
    · simp [h5, h, spec_l16One.j0]
  by_cases hn : x.f2.toList = []
  · by_cases g1 : x.f0 = 1
    · cases hi : inB x.f1 (-1000000000) 1000000000 <;> simp [g1, hn]
    by_cases g2 : x.f0 = 2
    · cases hi : inB x.f1 0 9 <;> simp [g2, hn, spec_l16One.j0, l1In_f, hi]
    by_cases g3 : x.f0 = 3
    · cases hi : inB x.f1 0 9 <;> simp [g3, hn, spec_l16One.j0, l1In_f, hi]
    by_cases g6 : x.f0 = 6
    · by_cases c1 : x.f1 ≥ 0
      · by_cases c2 : x.f1 < n
        · have e : inB x.f1 0 (n - 1) = true := by simp [inB]; omega
          simp [g6, hn, spec_l16One.j0, spec_l16One.j1, c1, c2, e]
        · have e : inB x.f1 0 (n - 1) = false := by simp [inB]; omega
          simp [g6, hn, spec_l16One.j0, spec_l16One.j1, c1, c2, e]
      · have e : inB x.f1 0 (n - 1) = false := by simp [inB]; omega
        simp [g6, hn, spec_l16One.j0, spec_l16One.j1, c1, e]
    by_cases g7 : x.f0 = 7
    · by_cases c1 : x.f1 ≥ 0
      · by_cases c2 : x.f1 < n
        · have e : inB x.f1 0 (n - 1) = true := by simp [inB]; omega
          simp [g7, hn, spec_l16One.j0, spec_l16One.j1, c1, c2, e]
        · have e : inB x.f1 0 (n - 1) = false := by simp [inB]; omega
          simp [g7, hn, spec_l16One.j0, spec_l16One.j1, c1, c2, e]
      · have e : inB x.f1 0 (n - 1) = false := by simp [inB]; omega
        simp [g7, hn, spec_l16One.j0, spec_l16One.j1, c1, e]
    by_cases g8 : x.f0 = 8
    · by_cases h : x.f1 = 0 <;> simp [g8, hn, h, spec_l16One.j0, spec_l16One.j1]
    by_cases g9 : x.f0 = 9
    · by_cases h : x.f1 = 0 <;> simp [g9, hn, h, spec_l16One.j0, spec_l16One.j1]
    simp [g1, g2, g3, h4, h5, g6, g7, g8, g9, hn, spec_l16One.j0, spec_l16One.j1]
  · by_cases g1 : x.f0 = 1
    · cases hi : inB x.f1 (-1000000000) 1000000000 <;> simp [g1, hn]
    by_cases g2 : x.f0 = 2
    · cases hi : inB x.f1 0 9 <;> simp [g2, hn, spec_l16One.j0, l1In_f, hi]
    by_cases g3 : x.f0 = 3
    · cases hi : inB x.f1 0 9 <;> simp [g3, hn, spec_l16One.j0, l1In_f, hi]
    by_cases g6 : x.f0 = 6
    · by_cases c1 : x.f1 ≥ 0 <;> by_cases c2 : x.f1 < n <;> simp [g6, hn, spec_l16One.j0, spec_l16One.j1, c1, c2]
    by_cases g7 : x.f0 = 7
    · by_cases c1 : x.f1 ≥ 0 <;> by_cases c2 : x.f1 < n <;> simp [g7, hn, spec_l16One.j0, spec_l16One.j1, c1, c2]
    by_cases g8 : x.f0 = 8
    · by_cases h : x.f1 = 0 <;> simp [g8, hn, h, spec_l16One.j0, spec_l16One.j1]
    by_cases g9 : x.f0 = 9
    · by_cases h : x.f1 = 0 <;> simp [g9, hn, h, spec_l16One.j0, spec_l16One.j1]
    simp [g1, g2, g3, h4, h5, g6, g7, g8, g9, hn, spec_l16One.j0, spec_l16One.j1]
theorem spec_GoodCode_l0 (l : List S90) (hl : (l.length : Int) ≤ 1048576) : ∀ (d : Nat) (i : Int), 0 ≤ i → i + d = l.length →
    Ev (fun k => spec_GoodCode.l0 k l l l.length i) (!(l.drop i.toNat).any (bcBad l.length) && inB l.length 1 120)
  | 0, i, h0, h1 => by
    have c : ¬ i < (l.length : Int) := by omega
    refine Ev.eq (Ev.step (f := fun _ => some (inB l.length 1 120)) (fun k => by rw [spec_GoodCode.l0, if_neg c, l1In_f] <;> rfl) (Ev.now _)) ?_
    rw [List.drop_eq_nil_of_le (by omega)]
    rfl
  | d + 1, i, h0, h1 => by
    have c : i < (l.length : Int) := by omega
    have hw : wrap64 (i + 1) = i + 1 := wrap_id (by omega) (by omega)
    have hd : l.drop i.toNat = rd_T90 l i :: l.drop (i + 1).toNat := drop_getD l _ i h0 c
    have ih := spec_GoodCode_l0 l hl d (i + 1) (by omega) (by omega)
    have e := spec_l16One_ev l.length (by omega) hl (rd_T90 l i)
    rw [hd, List.any_cons]
    cases hb : bcGood l.length (rd_T90 l i)
    · rw [hb] at e
      refine Ev.eq (r := false) (Ev.step (fun k => by rw [spec_GoodCode.l0, if_pos c, if_pos h0, if_pos c]) ?_) (by simp [bcBad, hb])
      exact Ev.bind e (ev_if_neg Bool.false_ne_true (Ev.now _))
    · rw [hb] at e
      refine Ev.eq (r := !(l.drop (i + 1).toNat).any (bcBad l.length) && inB l.length 1 120) (Ev.step (fun k => by rw [spec_GoodCode.l0, if_pos c, if_pos h0, if_pos c, hw]) ?_) (by simp [bcBad, hb])
      exact Ev.bind e (ev_if_pos rfl ih)
def goodCode (l : List S90) : Bool := inB l.length 1 120 && !l.any (bcBad l.length)
theorem spec_GoodCode_ev (l : List S90) (hl : (l.length : Int) ≤ 1048576) : Ev (fun k => spec_GoodCode.f k l) (goodCode l) := by
  refine Ev.eq (spec_GoodCode_l0 l hl l.length 0 (by omega) (by omega)) ?_
  unfold goodCode
  rw [Bool.and_comm]
  rfl
theorem impl_GoodCode_f (l : List S90) : impl_GoodCode.f l = some (goodCode l) := rfl
/-- How many a step takes off, and puts on. -/
def takes (op : Int) : Int × Int := if op = 1 ∨ op = 2 then (0, 1) else if op = 3 ∨ op = 7 ∨ op = 8 then (1, 0) else if op = 4 then (2, 1) else if op = 5 ∨ op = 9 then (1, 1) else (0, 0)
theorem takes_bd (op : Int) : 0 ≤ (takes op).1 ∧ (takes op).1 ≤ 2 ∧ 0 ≤ (takes op).2 ∧ (takes op).2 ≤ 1 := by
  unfold takes
  repeat' split
  all_goals simp
theorem spec_takes_f (k : Nat) (a b : Int) (s : ByteArray) : spec_l16Takes.f (k + 2) a b s = some (takes a) := by
  unfold takes
  by_cases h1 : a = 1
  · simp [spec_l16Takes.f, spec_l16Takes.j0, h1]
  by_cases h2 : a = 2
  · simp [spec_l16Takes.f, spec_l16Takes.j0, h2]
  by_cases h3 : a = 3
  · simp [spec_l16Takes.f, spec_l16Takes.j0, spec_l16Takes.j1, h3]
  by_cases h7 : a = 7
  · simp [spec_l16Takes.f, spec_l16Takes.j0, spec_l16Takes.j1, h7]
  by_cases h8 : a = 8
  · simp [spec_l16Takes.f, spec_l16Takes.j0, spec_l16Takes.j1, h8]
  by_cases h4 : a = 4
  · simp [spec_l16Takes.f, spec_l16Takes.j0, spec_l16Takes.j1, h4]
  by_cases h5 : a = 5
  · simp [spec_l16Takes.f, spec_l16Takes.j0, spec_l16Takes.j1, h5]
  by_cases h9 : a = 9
  · simp [spec_l16Takes.f, spec_l16Takes.j0, spec_l16Takes.j1, h9]
  simp [spec_l16Takes.f, spec_l16Takes.j0, spec_l16Takes.j1, h1, h2, h3, h4, h5, h7, h8, h9]
theorem impl_moves_f (k : Nat) (a b : Int) (s : ByteArray) : impl_Bc_moves.f (k + 2) a b s = some (takes a) := by
  unfold takes
  by_cases h1 : a = 1
  · simp [impl_Bc_moves.f, impl_Bc_moves.j0, h1]
  by_cases h2 : a = 2
  · simp [impl_Bc_moves.f, impl_Bc_moves.j0, h2]
  by_cases h3 : a = 3
  · simp [impl_Bc_moves.f, impl_Bc_moves.j0, impl_Bc_moves.j1, h3]
  by_cases h7 : a = 7
  · simp [impl_Bc_moves.f, impl_Bc_moves.j0, impl_Bc_moves.j1, h7]
  by_cases h8 : a = 8
  · simp [impl_Bc_moves.f, impl_Bc_moves.j0, impl_Bc_moves.j1, h8]
  by_cases h4 : a = 4
  · simp [impl_Bc_moves.f, impl_Bc_moves.j0, impl_Bc_moves.j1, h4]
  by_cases h5 : a = 5
  · simp [impl_Bc_moves.f, impl_Bc_moves.j0, impl_Bc_moves.j1, h5]
  by_cases h9 : a = 9
  · simp [impl_Bc_moves.f, impl_Bc_moves.j0, impl_Bc_moves.j1, h9]
  simp [impl_Bc_moves.f, impl_Bc_moves.j0, impl_Bc_moves.j1, h1, h2, h3, h4, h5, h7, h8, h9]
theorem Ev.at2 {α : Type} {g : Nat → Option α} {r : α} (h : ∀ k, g (k + 2) = some r) : Ev g r := ⟨2, fun k hk => by
  obtain ⟨m, rfl⟩ : ∃ m, k = m + 2 := ⟨k - 2, by omega⟩
  exact h m⟩
theorem spec_takes_ev (a b : Int) (s : ByteArray) : Ev (fun k => spec_l16Takes.f k a b s) (takes a) := Ev.at2 (fun k => spec_takes_f k a b s)
theorem impl_moves_ev (a b : Int) (s : ByteArray) : Ev (fun k => impl_Bc_moves.f k a b s) (takes a) := Ev.at2 (fun k => impl_moves_f k a b s)
def negs : List Int → Nat
  | [] => 0
  | x :: d => (if x < 0 then 1 else 0) + negs d
theorem negs_le : ∀ d : List Int, negs d ≤ d.length
  | [] => Nat.le_refl _
  | x :: d => by
    have := negs_le d
    unfold negs
    rw [List.length_cons]
    split <;> omega
theorem negs_set : ∀ (d : List Int) (j : Nat) (n : Int), j < d.length → d.getD j 0 < 0 → 0 ≤ n → negs (d.set j n) + 1 = negs d
  | [], j, n, h, _, _ => by simp at h
  | x :: d, 0, n, _, h1, h2 => by
    have h3 : x < 0 := h1
    simp [negs, h3, Int.not_lt.2 h2]
    omega
  | x :: d, j + 1, n, h, h1, h2 => by
    have ih := negs_set d j n (by simpa using h) h1 h2
    simp only [List.set_cons_succ, negs]
    omega
theorem rd_set (d : List Int) (i j n : Int) (hi : 0 ≤ i) (hj : 0 ≤ j) (h : j < (d.length : Int)) : rd (d.set j.toNat n) i = if i = j then n else rd d i := by
  unfold rd
  rw [List.getD_eq_getElem?_getD, List.getElem?_set, List.getD_eq_getElem?_getD]
  by_cases e : i = j
  · rw [if_pos (by omega), if_pos (by omega), if_pos e]
    rfl
  · rw [if_neg (by omega), if_neg e]
/-- To where a step goes on. -/
def nexts (x : S90) (at_ : Int) : List Int := if x.f0 = 6 then [x.f1] else if x.f0 = 7 then [at_ + 1, x.f1] else if x.f0 = 9 then [] else [at_ + 1]
theorem good_jump {l : List S90} (hg : goodCode l = true) {x : S90} (hx : x ∈ l) (h : x.f0 = 6 ∨ x.f0 = 7) : 0 ≤ x.f1 ∧ x.f1 < (l.length : Int) := by
  unfold goodCode at hg
  simp only [Bool.and_eq_true] at hg
  have hb : bcBad l.length x = false := by
    cases e : bcBad l.length x
    · rfl
    · rw [List.any_eq_true.2 ⟨x, hx, e⟩] at hg
      simp at hg
  have hlen : 1 ≤ (l.length : Int) ∧ (l.length : Int) ≤ 120 := by
    have := hg.1
    unfold inB at this
    simpa using this
  unfold bcBad bcGood at hb
  rw [wrap_id (show -9223372036854775808 ≤ (l.length : Int) - 1 by omega) (by omega)] at hb
  rcases h with h | h
  · simp [h] at hb
    have := hb.2
    unfold inB at this
    simp at this
    omega
  · simp [h] at hb
    have := hb.2
    unfold inB at this
    simp at this
    omega
theorem good_len {l : List S90} (hg : goodCode l = true) : 1 ≤ (l.length : Int) ∧ (l.length : Int) ≤ 120 := by
  unfold goodCode at hg
  simp only [Bool.and_eq_true] at hg
  have := hg.1
  unfold inB at this
  simpa using this
theorem nexts_in {l : List S90} (hg : goodCode l = true) {at_ : Int} (h0 : 0 ≤ at_) (h1 : at_ < (l.length : Int)) : ∀ t ∈ nexts (rd_T90 l at_) at_, 0 ≤ t ∧ t ≤ (l.length : Int) := by
  have hm : rd_T90 l at_ ∈ l := getD_mem l _ at_ h0 h1
  intro t ht
  unfold nexts at ht
  split at ht
  · rename_i h
    have := good_jump hg hm (.inl h)
    rw [List.mem_singleton.1 ht]
    omega
  · split at ht
    · rename_i h
      have := good_jump hg hm (.inr h)
      simp at ht
      rcases ht with rfl | rfl <;> omega
    · split at ht
      · simp at ht
      · rw [List.mem_singleton.1 ht]
        omega
theorem nexts_len (x : S90) (at_ : Int) : ((nexts x at_).length : Int) ≤ 1048576 := by
  unfold nexts
  repeat' split
  all_goals simp
theorem impl_goesTo_f (x : S90) (at_ : Int) (h0 : 0 ≤ at_) (h1 : at_ ≤ 1048576) : impl_Bc_goesTo.f x.f0 x.f1 x.f2 at_ = some (nexts x at_) := by
  unfold impl_Bc_goesTo.f nexts
  rw [wrap_id (show -9223372036854775808 ≤ at_ + 1 by omega) (by omega)]
  by_cases h6 : x.f0 = 6
  · simp [h6]
  by_cases h7 : x.f0 = 7
  · simp [h7]
  by_cases h9 : x.f0 = 9
  · simp [h9]
  simp [h6, h7, h9]
theorem spec_next_f (l : List S90) (at_ : Int) (h0 : 0 ≤ at_) (h1 : at_ < (l.length : Int)) (h2 : at_ ≤ 1048576) : spec_l16Next.f l at_ = some (nexts (rd_T90 l at_) at_) := by
  unfold spec_l16Next.f nexts
  rw [wrap_id (show -9223372036854775808 ≤ at_ + 1 by omega) (by omega), if_pos h0, if_pos h1]
  by_cases h6 : (rd_T90 l at_).f0 = 6
  · simp [h6]
  by_cases h7 : (rd_T90 l at_).f0 = 7
  · simp [h7]
  by_cases h9 : (rd_T90 l at_).f0 = 9
  · simp [h9]
  simp [h6, h7, h9]
/-- What holds of the depths and of what is to be done. -/
structure CInv (l : List S90) (d q : List Int) : Prop where
  len : d.length = l.length
  rng : ∀ i : Int, 0 ≤ i → -1 ≤ rd d i ∧ rd d i ≤ 30
  que : ∀ a ∈ q, 0 ≤ a ∧ a < (l.length : Int) ∧ 0 ≤ rd d a
  fst : 0 ≤ rd d 0
/-- What is known of an answer. -/
structure COut (l : List S90) (r : List Int × Bool) : Prop where
  bad : r.2 = false → r.1 = []
  len : r.1.length ≤ l.length
  ok : r.2 = true → r.1.length = l.length ∧ (∀ i : Int, 0 ≤ i → -1 ≤ rd r.1 i ∧ rd r.1 i ≤ 30) ∧ 0 ≤ rd r.1 0
theorem cout_bad (l : List S90) : COut l ([], false) := ⟨fun _ => rfl, by simp, fun h => by simp at h⟩
theorem cout_ok {l : List S90} {d q : List Int} (h : CInv l d q) : COut l (d, true) := ⟨fun e => by simp at e, by rw [h.len]; exact Nat.le_refl _, fun _ => ⟨h.len, h.rng, h.fst⟩⟩
theorem CInv.tail {l : List S90} {d q : List Int} {a : Int} (h : CInv l d (a :: q)) : CInv l d q := ⟨h.len, h.rng, fun b hb => h.que b (List.mem_cons_of_mem _ hb), h.fst⟩
theorem CInv.put {l : List S90} {d q : List Int} (h : CInv l d q) {t n : Int} (t0 : 0 ≤ t) (t1 : t < (l.length : Int)) (n0 : 0 ≤ n) (n1 : n ≤ 30) (hn : rd d t < 0) : CInv l (d.set t.toNat n) (q ++ [t]) := by
  have hl := h.len
  refine ⟨by rw [List.length_set]; exact hl, fun i hi => ?_, fun a ha => ?_, ?_⟩
  · rw [rd_set d i t n hi t0 (by omega)]
    split
    · omega
    · exact h.rng i hi
  · rcases List.mem_append.1 ha with ha | ha
    · obtain ⟨a0, a1, a2⟩ := h.que a ha
      rw [rd_set d a t n a0 t0 (by omega), if_neg (fun e => by rw [e] at a2; omega)]
      exact ⟨a0, a1, a2⟩
    · rw [List.mem_singleton.1 ha, rd_set d t t n t0 t0 (by omega), if_pos rfl]
      exact ⟨t0, t1, n0⟩
  · rw [rd_set d 0 t n (by omega) t0 (by omega)]
    split
    · exact n0
    · exact h.fst
theorem check_inner (l : List S90) (hg : goodCode l = true) (a off on : Int) (a0 : 0 ≤ a) (a1 : a < (l.length : Int)) (t : List Int) (ht : ∀ x ∈ t, 0 ≤ x ∧ x ≤ (l.length : Int)) (htl : (t.length : Int) ≤ 1048576) (M : Nat) (hM : M ≤ 1000)
    (b0 : 0 ≤ off) (b1 : off ≤ 2) (b2 : 0 ≤ on) (b3 : on ≤ 1) (n : Int) (n0 : 0 ≤ n) (n1 : n ≤ 30)
    (IH : ∀ d q, CInv l d q → negs d + q.length ≤ M → ∃ r, COut l r ∧ Ev (fun k => impl_depths.l0 k l d q) r ∧ Ev (fun k => spec_l16Check.l1 k l d q) r) :
    ∀ (e : Nat) (j : Int) (d q : List Int), 0 ≤ j → j + e = t.length → CInv l d (a :: q) → rd d a - off + on = n → negs d + q.length ≤ M →
      ∃ r, COut l r ∧ Ev (fun k => impl_depths.l1 k l d (a :: q) a off on t t.length j) r ∧ Ev (fun k => spec_l16Check.l2 k l d q n t t.length j) r
  | 0, j, d, q, h0, h1, hI, hn, hm => by
    have c : ¬ j < (t.length : Int) := by omega
    obtain ⟨r, hr, e1, e2⟩ := IH d q hI.tail hm
    refine ⟨r, hr, Ev.step (f := fun k => impl_depths.l0 k l d q) (fun k => ?_) e1, Ev.step (fun k => by rw [spec_l16Check.l2, if_neg c]) e2⟩
    rw [impl_depths.l1, if_neg c, if_pos (by rw [List.length_cons]; omega)]
    rfl
  | e + 1, j, d, q, h0, h1, hI, hn, hm => by
    have c : j < (t.length : Int) := by omega
    have hw : wrap64 (j + 1) = j + 1 := wrap_id (by omega) (by omega)
    have hgl := good_len hg
    obtain ⟨t0, t1⟩ := ht (rd t j) (getD_mem t 0 j h0 c)
    have hra := hI.rng a a0
    have ad : a < (d.length : Int) := by rw [hI.len]; exact a1
    have hnw : wrap64 (wrap64 (rd d a - off) + on) = n := by
      rw [wrap_id (show -9223372036854775808 ≤ rd d a - off by omega) (by omega), hn]
      exact wrap_id (by omega) (by omega)
    by_cases c1 : rd t j = (l.length : Int)
    · refine ⟨([], false), cout_bad l, Ev.step (f := fun k => impl_depths.j3 k l d (a :: q) a off on (rd t j) t t.length j true) (fun k => by rw [impl_depths.l1, if_pos c, if_pos h0, if_pos c, if_pos c1]) (Ev.step (f := fun _ => some ([], false)) (fun k => by rw [impl_depths.j3, if_pos rfl]) (Ev.now _)),
        Ev.step (f := fun k => spec_l16Check.j4 k l d q n (rd t j) t t.length j true) (fun k => by rw [spec_l16Check.l2, if_pos c, if_pos h0, if_pos c, if_pos (by omega)]) (Ev.step (f := fun _ => some ([], false)) (fun k => by rw [spec_l16Check.j4, if_pos rfl]) (Ev.now _))⟩
    have t2 : rd t j < (l.length : Int) := by omega
    have td : rd t j < (d.length : Int) := by rw [hI.len]; exact t2
    by_cases c2 : rd d (rd t j) ≥ 0
    · by_cases c3 : rd d (rd t j) = n
      · obtain ⟨r, hr, e1, e2⟩ := check_inner l hg a off on a0 a1 t ht htl M hM b0 b1 b2 b3 n n0 n1 IH e (j + 1) d q (by omega) (by omega) hI hn hm
        have hneg : ¬ rd d (rd t j) < 0 := by omega
        refine ⟨r, hr, Ev.step (f := fun k => impl_depths.j3 k l d (a :: q) a off on (rd t j) t t.length j false) (fun k => by rw [impl_depths.l1, if_pos c, if_pos h0, if_pos c, if_neg c1, if_pos t0, if_pos td, if_pos c2, if_pos a0, if_pos ad, hnw, c3, bne_self_eq_false]) (Ev.step (fun k => by rw [impl_depths.j3, if_neg (by simp), if_pos t0, if_pos td, if_neg hneg, hw]) e1),
          Ev.step (f := fun k => spec_l16Check.j4 k l d q n (rd t j) t t.length j false) (fun k => by rw [spec_l16Check.l2, if_pos c, if_pos h0, if_pos c, if_neg (by omega), if_pos t0, if_pos td, if_pos c2, c3, bne_self_eq_false]) (Ev.step (fun k => by rw [spec_l16Check.j4, if_neg (by simp), if_pos t0, if_pos td, if_neg hneg, hw]) e2)⟩
      · have hb : (rd d (rd t j) != n) = true := bne_iff_ne.2 c3
        refine ⟨([], false), cout_bad l, Ev.step (f := fun k => impl_depths.j3 k l d (a :: q) a off on (rd t j) t t.length j true) (fun k => by rw [impl_depths.l1, if_pos c, if_pos h0, if_pos c, if_neg c1, if_pos t0, if_pos td, if_pos c2, if_pos a0, if_pos ad, hnw, hb]) (Ev.step (f := fun _ => some ([], false)) (fun k => by rw [impl_depths.j3, if_pos rfl]) (Ev.now _)),
          Ev.step (f := fun k => spec_l16Check.j4 k l d q n (rd t j) t t.length j true) (fun k => by rw [spec_l16Check.l2, if_pos c, if_pos h0, if_pos c, if_neg (by omega), if_pos t0, if_pos td, if_pos c2, hb]) (Ev.step (f := fun _ => some ([], false)) (fun k => by rw [spec_l16Check.j4, if_pos rfl]) (Ev.now _))⟩
    · have hneg : rd d (rd t j) < 0 := by omega
      have hne : a ≠ rd t j := fun e => by
        have := (hI.que a List.mem_cons_self).2.2
        rw [e] at this
        omega
      have hI2 : CInv l (d.set (rd t j).toNat n) (a :: (q ++ [rd t j])) := by
        have := hI.put t0 t2 n0 n1 hneg
        simpa using this
      have hs := negs_set d (rd t j).toNat n (by omega) hneg n0
      have hq1 : (a :: q).length < 17592186044416 := by rw [List.length_cons]; omega
      have hq2 : ([] : List Int).length + q.length < 17592186044416 := by simp; omega
      have hq3 : ([] ++ q).length < 17592186044416 := by simp; omega
      obtain ⟨r, hr, e1, e2⟩ := check_inner l hg a off on a0 a1 t ht htl M hM b0 b1 b2 b3 n n0 n1 IH e (j + 1) (d.set (rd t j).toNat n) (q ++ [rd t j]) (by omega) (by omega) hI2
        (by rw [rd_set d a _ n a0 t0 td, if_neg hne]; exact hn) (by rw [List.length_append, List.length_singleton]; omega)
      refine ⟨r, hr, Ev.step (f := fun k => impl_depths.j3 k l d (a :: q) a off on (rd t j) t t.length j false) (fun k => by rw [impl_depths.l1, if_pos c, if_pos h0, if_pos c, if_neg c1, if_pos t0, if_pos td, if_neg c2]) (Ev.step (fun k => by rw [impl_depths.j3, if_neg (by simp), if_pos t0, if_pos td, if_pos hneg, if_pos a0, if_pos ad, if_pos hq1, hnw, hw]; rfl) e1),
        Ev.step (f := fun k => spec_l16Check.j4 k l d q n (rd t j) t t.length j false) (fun k => by rw [spec_l16Check.l2, if_pos c, if_pos h0, if_pos c, if_neg (by omega), if_pos t0, if_pos td, if_neg c2]) (Ev.step (fun k => ?_) e2)⟩
      rw [spec_l16Check.j4, if_neg (by simp), if_pos t0, if_pos td, if_pos hneg]
      simp only [Option.bind_some]
      rw [if_pos hq2, if_pos hq3, hw, List.nil_append]
theorem check_outer (l : List S90) (hg : goodCode l = true) : ∀ (M : Nat), M ≤ 1000 → ∀ d q, CInv l d q → negs d + q.length ≤ M → ∃ r, COut l r ∧ Ev (fun k => impl_depths.l0 k l d q) r ∧ Ev (fun k => spec_l16Check.l1 k l d q) r
  | M, hM, d, [], hI, hm => ⟨(d, true), cout_ok hI, Ev.step (f := fun _ => some (d, true)) (fun k => by rw [impl_depths.l0, if_neg (by simp)]) (Ev.now _), Ev.step (f := fun _ => some (d, true)) (fun k => by rw [spec_l16Check.l1, if_neg (by simp)]) (Ev.now _)⟩
  | 0, hM, d, a :: q, hI, hm => by simp at hm
  | M + 1, hM, d, a :: q, hI, hm => by
    obtain ⟨a0, a1, a2⟩ := hI.que a List.mem_cons_self
    have hgl := good_len hg
    have hr0 : rd (a :: q) 0 = a := rfl
    have ad : a < (d.length : Int) := by rw [hI.len]; exact a1
    have hra := hI.rng a a0
    have tb := takes_bd (rd_T90 l a).f0
    have hp1 : ((a :: q).length : Int) > 0 := by rw [List.length_cons]; omega
    have hp2 : 0 < ((a :: q).length : Int) := hp1
    have hp3 : 1 ≤ ((a :: q).length : Int) := by rw [List.length_cons]; omega
    have m1 := impl_moves_ev (rd_T90 l a).f0 (rd_T90 l a).f1 (rd_T90 l a).f2
    have m2 := spec_takes_ev (rd_T90 l a).f0 (rd_T90 l a).f1 (rd_T90 l a).f2
    generalize takes (rd_T90 l a).f0 = tk at tb m1 m2
    obtain ⟨off, on⟩ := tk
    simp only at tb
    have hw : wrap64 (wrap64 (rd d a - off) + on) = rd d a - off + on := by
      rw [wrap_id (show -9223372036854775808 ≤ rd d a - off by omega) (by omega)]
      exact wrap_id (by omega) (by omega)
    have i1 : ∀ r, Ev (fun k => if rd d a < off then impl_depths.j1 k l d (a :: q) a off on true else impl_depths.j1 k l d (a :: q) a off on (decide (rd d a - off + on > 30))) r → Ev (fun k => impl_depths.l0 k l d (a :: q)) r := by
      intro r h
      refine Ev.step (fun k => by rw [impl_depths.l0, if_pos hp1, if_pos hp2, hr0, if_pos a0, if_pos a1]) ?_
      refine Ev.bind m1 (ev_if_pos ad ?_)
      simp only [hw]
      exact h
    have i2 : ∀ r, Ev (fun k => if rd d a < off then spec_l16Check.j2 k l d q a (rd d a - off + on) true else spec_l16Check.j2 k l d q a (rd d a - off + on) (decide (rd d a - off + on > 30))) r → Ev (fun k => spec_l16Check.l1 k l d (a :: q)) r := by
      intro r h
      refine Ev.step (f := fun k => (spec_l16Takes.f k (rd_T90 l a).f0 (rd_T90 l a).f1 (rd_T90 l a).f2).bind fun bt => if a < (d.length : Int) then (if rd d a < bt.1 then spec_l16Check.j2 k l d q a (wrap64 (wrap64 (rd d a - bt.1) + bt.2)) true else spec_l16Check.j2 k l d q a (wrap64 (wrap64 (rd d a - bt.1) + bt.2)) (decide (wrap64 (wrap64 (rd d a - bt.1) + bt.2) > 30))) else none) (fun k => ?_) ?_
      · rw [spec_l16Check.l1, if_pos hp1, if_pos hp2, if_pos hp3, hr0]
        simp only [Option.bind_some]
        rw [if_pos a0, if_pos a1]
        rfl
      · refine Ev.bind m2 (ev_if_pos ad ?_)
        simp only [hw]
        exact h
    have bad : ∃ r, COut l r ∧ Ev (fun k => impl_depths.j1 k l d (a :: q) a off on true) r ∧ Ev (fun k => spec_l16Check.j2 k l d q a (rd d a - off + on) true) r :=
      ⟨([], false), cout_bad l, Ev.step (f := fun _ => some ([], false)) (fun k => by rw [impl_depths.j1, if_pos rfl]) (Ev.now _), Ev.step (f := fun _ => some ([], false)) (fun k => by rw [spec_l16Check.j2, if_pos rfl]) (Ev.now _)⟩
    obtain ⟨rb, hrb, eb1, eb2⟩ := bad
    by_cases c1 : rd d a < off
    · exact ⟨rb, hrb, i1 rb (ev_if_pos c1 eb1), i2 rb (ev_if_pos c1 eb2)⟩
    · by_cases c2 : rd d a - off + on > 30
      · have hd : decide (rd d a - off + on > 30) = true := decide_eq_true c2
        refine ⟨rb, hrb, i1 rb (ev_if_neg c1 ?_), i2 rb (ev_if_neg c1 ?_)⟩
        · rw [hd]; exact eb1
        · rw [hd]; exact eb2
      · have hd : decide (rd d a - off + on > 30) = false := decide_eq_false c2
        obtain ⟨r, hr, e1, e2⟩ := check_inner l hg a off on a0 a1 (nexts (rd_T90 l a) a) (nexts_in hg a0 a1) (nexts_len _ _) M (by omega) (by omega) (by omega) (by omega) (by omega) (rd d a - off + on) (by omega) (by omega)
          (check_outer l hg M (by omega)) (nexts (rd_T90 l a) a).length 0 d q (by omega) (by omega) hI rfl (by rw [List.length_cons] at hm; omega)
        refine ⟨r, hr, i1 r (ev_if_neg c1 ?_), i2 r (ev_if_neg c1 ?_)⟩
        · rw [hd]
          exact Ev.step (fun k => by rw [impl_depths.j1, if_neg (by simp), if_pos a0, if_pos a1, impl_goesTo_f _ _ a0 (by omega), Option.bind_some]) e1
        · rw [hd]
          exact Ev.step (fun k => by rw [spec_l16Check.j2, if_neg (by simp), spec_next_f l a a0 a1 (by omega), Option.bind_some]) e2
theorem spec_fill (l : List S90) (hl : (l.length : Int) ≤ 1048576) (r : List Int × Bool) (hp : 0 < l.length) (H : Ev (fun k => spec_l16Check.l1 k l ((List.replicate l.length (-1)).set 0 0) [0]) r) : ∀ (e : Nat) (j : Int), 0 ≤ j → j + e = l.length → Ev (fun k => spec_l16Check.l0 k l (List.replicate j.toNat (-1)) l.length j) r
  | 0, j, h0, h1 => by
    have c : ¬ j < (l.length : Int) := by omega
    have e : j.toNat = l.length := by omega
    rw [e]
    exact Ev.step (fun k => by rw [spec_l16Check.l0, if_neg c, if_pos (by rw [List.length_replicate]; omega)]; rfl) H
  | e + 1, j, h0, h1 => by
    have c : j < (l.length : Int) := by omega
    have hw : wrap64 (j + 1) = j + 1 := wrap_id (by omega) (by omega)
    have ih := spec_fill l hl r hp H e (j + 1) (by omega) (by omega)
    rw [show (j + 1).toNat = j.toNat + 1 by omega, List.replicate_succ'] at ih
    exact Ev.step (fun k => by rw [spec_l16Check.l0, if_pos c, if_pos (by rw [List.length_replicate]; omega), hw]) ih
theorem check_both (l : List S90) (hg : goodCode l = true) : ∃ r, COut l r ∧ Ev (fun k => impl_depths.f k l) r ∧ Ev (fun k => spec_l16Check.f k l) r := by
  have hgl := good_len hg
  have hI : CInv l ((List.replicate l.length (-1)).set 0 0) [0] := by
    have hr : ∀ i : Int, 0 ≤ i → rd ((List.replicate l.length (-1)).set 0 0) i = if i = 0 then 0 else rd (List.replicate l.length (-1)) i := fun i hi => rd_set _ i 0 0 hi (by omega) (by rw [List.length_replicate]; omega)
    have hrr : ∀ i : Int, -1 ≤ rd (List.replicate l.length (-1)) i ∧ rd (List.replicate l.length (-1)) i ≤ 30 := by
      intro i
      unfold rd
      rw [List.getD_eq_getElem?_getD, List.getElem?_replicate]
      split <;> simp
    refine ⟨by simp, fun i hi => ?_, fun a ha => ?_, by rw [hr 0 (by omega), if_pos rfl]; omega⟩
    · rw [hr i hi]
      split
      · omega
      · exact hrr i
    · rw [List.mem_singleton.1 ha, hr 0 (by omega), if_pos rfl]
      omega
  have hn := negs_le ((List.replicate l.length (-1)).set 0 0)
  rw [List.length_set, List.length_replicate] at hn
  obtain ⟨r, hr, e1, e2⟩ := check_outer l hg 1000 (by omega) _ _ hI (by rw [List.length_singleton]; omega)
  refine ⟨r, hr, ?_, ?_⟩
  · unfold impl_depths.f slices_Repeat_int_int.f
    rw [if_pos ⟨rfl, by omega, by omega⟩]
    refine Ev.bind (Ev.now _) ?_
    refine ev_if_pos (by rw [List.length_replicate]; omega) ?_
    exact e1
  · exact spec_fill l (by omega) r (by omega) e2 l.length 0 (by omega) (by omega)
def checkOf (r : List Int × Bool) : List Int × Bool × Bool := (r.1, r.2, true)
/-- CheckCode of both. -/
theorem CheckCode_both (l : List S90) (hl : (l.length : Int) ≤ 1048576) : ∃ q : List Int × Bool × Bool, q.1.length ≤ l.length ∧ (q.2.1 = true → goodCode l = true ∧ q.2.2 = true ∧ COut l (q.1, q.2.1)) ∧ Ev (fun k => impl_CheckCode.f k l) q ∧ Ev (fun k => spec_CheckCode.f k l) q := by
  unfold impl_CheckCode.f spec_CheckCode.f
  have hs := spec_GoodCode_ev l hl
  have hi : Ev (fun _ => impl_GoodCode.f l) (goodCode l) := Ev.now _
  by_cases c : goodCode l = true
  · rw [c] at hs hi
    obtain ⟨r, hr, e1, e2⟩ := check_both l c
    refine ⟨(r.1, r.2, true), hr.len, fun h => ⟨c, rfl, hr⟩, Ev.bind hi (ev_if_pos rfl (Ev.bind e1 (Ev.now _))), Ev.bind hs (ev_if_pos rfl (Ev.bind e2 ?_))⟩
    by_cases c2 : r.2 = true
    · refine ev_if_pos c2 ?_
      rw [c2]
      exact Ev.now _
    · have c3 : r.2 = false := Bool.eq_false_iff.2 c2
      refine ev_if_neg c2 ?_
      rw [c3, hr.bad c3]
      exact Ev.now _
  · rw [Bool.eq_false_iff.2 c] at hs hi
    exact ⟨([], false, false), by simp, fun h => by simp at h, Ev.bind hi (ev_if_neg (by simp) (Ev.now _)), Ev.bind hs (ev_if_neg (by simp) (Ev.now _))⟩
theorem max_both (q : List Int) (hq : (q.length : Int) ≤ 1048576) : ∀ (d : Nat) (i m : Int), 0 ≤ i → i + d = q.length → ∃ v, Ev (fun k => slices_Max_int_int.l0 k q m i) v ∧ Ev (fun k => spec_DepthOfCode.l0 k m q q.length i) (v, true)
  | 0, i, m, h0, h1 => by
    have c : ¬ i < (q.length : Int) := by omega
    exact ⟨m, Ev.step (f := fun _ => some m) (fun k => by rw [slices_Max_int_int.l0, if_neg c]) (Ev.now _), Ev.step (f := fun _ => some (m, true)) (fun k => by rw [spec_DepthOfCode.l0, if_neg c]) (Ev.now _)⟩
  | d + 1, i, m, h0, h1 => by
    have c : i < (q.length : Int) := by omega
    have hw : wrap64 (i + 1) = i + 1 := wrap_id (by omega) (by omega)
    obtain ⟨v, e1, e2⟩ := max_both q hq d (i + 1) (mx m (rd q i)) (by omega) (by omega)
    refine ⟨v, Ev.step (fun k => by rw [slices_Max_int_int.l0, if_pos c, if_pos h0, hw]) e1, ?_⟩
    by_cases g : rd q i > m
    · have e : mx m (rd q i) = rd q i := by unfold mx; split <;> omega
      rw [e] at e2
      exact Ev.step (fun k => by rw [spec_DepthOfCode.l0, if_pos c, if_pos h0, if_pos c, if_pos g, hw]) e2
    · have e : mx m (rd q i) = m := by unfold mx; split <;> omega
      rw [e] at e2
      exact Ev.step (fun k => by rw [spec_DepthOfCode.l0, if_pos c, if_pos h0, if_pos c, if_neg g, hw]) e2
theorem DepthOfCode_both (l : List S90) (hl : (l.length : Int) ≤ 1048576) : ∃ r, Ev (fun k => impl_DepthOfCode.f k l) r ∧ Ev (fun k => spec_DepthOfCode.f k l) r := by
  unfold impl_DepthOfCode.f spec_DepthOfCode.f
  obtain ⟨⟨q1, q2, q3⟩, hq1, hq2, e1, e2⟩ := CheckCode_both l hl
  have bad : Ev (fun k => spec_DepthOfCode.j0 k q1 true) (0, false) := Ev.step (f := fun _ => some (0, false)) (fun k => by rw [spec_DepthOfCode.j0, if_pos rfl]) (Ev.now _)
  cases q2
  · exact ⟨(0, false), Ev.bind e1 (ev_if_neg (by simp) (Ev.now _)), Ev.bind e2 (ev_if_neg (by simp) bad)⟩
  · obtain ⟨hg, h3, ho⟩ := hq2 rfl
    simp only at h3
    subst h3
    obtain ⟨hlen, _, hf⟩ := ho.ok rfl
    simp only at hlen hf
    have hgl := good_len hg
    have c0 : (0 : Int) < (q1.length : Int) := by omega
    obtain ⟨v, f1, f2⟩ := max_both q1 (by omega) (q1.length - 1) 1 (rd q1 0) (by omega) (by omega)
    have hw : wrap64 (0 + 1) = 1 := wrap_id (by omega) (by omega)
    have g2 : Ev (fun k => spec_DepthOfCode.l0 k 0 q1 q1.length 0) (v, true) := by
      by_cases g : rd q1 0 > 0
      · exact Ev.step (f := fun k => spec_DepthOfCode.l0 k (rd q1 0) q1 q1.length 1) (fun k => by rw [spec_DepthOfCode.l0, if_pos c0, if_pos (by omega), if_pos c0, if_pos g, hw]) f2
      · have e : rd q1 0 = 0 := by omega
        rw [e] at f2
        exact Ev.step (f := fun k => spec_DepthOfCode.l0 k 0 q1 q1.length 1) (fun k => by rw [spec_DepthOfCode.l0, if_pos c0, if_pos (by omega), if_pos c0, if_neg g, hw]) f2
    refine ⟨(v, true), Ev.bind e1 (ev_if_pos rfl (ev_if_pos rfl (Ev.bind ?_ (Ev.now _)))), Ev.bind e2 (ev_if_pos rfl ?_)⟩
    · unfold slices_Max_int_int.f
      exact ev_if_neg (by simp only []; omega) (ev_if_pos c0 f1)
    · exact Ev.step (fun k => by rw [spec_DepthOfCode.j0, if_neg (by simp)]) g2
theorem FnExactDepthOfCode : laws_FnExactDepthOfCode.Pure0 := by
  intro l0 h0
  apply Ev.rounds
  unfold laws_FnExactDepthOfCode.f
  obtain ⟨v, ev, hv, hb⟩ := szBcS_ev l0 1048576 (by omega) (by omega) h0
  refine Ev.bind ev ?_
  by_cases c2 : v < 0
  · exact ev_if_pos c2 (Ev.now _)
  have hl := hb (by omega)
  have ht := toBcS_ev l0 hl.1 hl.2
  have hl' : ((l0.map cv_Bc).length : Int) ≤ 1048576 := by rw [List.length_map]; exact hl.1
  have hx : ∀ y_ ∈ l0.map cv_Bc, Bdx_Bc 1048576 y_ := by
    intro y_ hy
    obtain ⟨z, hz, rfl⟩ := List.mem_map.1 hy
    exact bcv_Bc (hl.2 z hz)
  have hq := eqBcS_ev _ hl' hx
  obtain ⟨r, e1, e2⟩ := DepthOfCode_both (l0.map cv_Bc) hl'
  refine ev_if_neg c2 (Ev.bind ht (Ev.bind e2 (Ev.bind ht (Ev.bind e1 (ev_if_pos rfl ?_)))))
  rw [bne_self_eq_false]
  refine Ev.step (fun k => by rw [laws_FnExactDepthOfCode.j0, if_neg (by simp)]) ?_
  exact Ev.bind ht (Ev.bind hq (ev_if_pos rfl (Ev.now _)))
end Go.Proofs.Ytipolnpffmfmmab.Pure
