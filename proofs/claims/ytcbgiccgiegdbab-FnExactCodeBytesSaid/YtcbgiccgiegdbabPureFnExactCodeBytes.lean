/- FnExactCodeBytes: at all code CodeBytes of the program answers as CodeBytes of the reference, and leaves its argument as it was; no condition. -/
import Derived.Test.YtcbgiccgiegdbabDFnExactCodeBytes
namespace Go.Proofs.Ytcbgiccgiegdbab.Pure
open Go.RowKit Go.Proofs.Ytcbgiccgiegdbab.PFnExactCodeBytes Go.Proofs.YtcbgiccgiegdbabW.PrintWords Go.Proofs.YtcbgiccgiegdbabW.PrintLast Go.Proofs.YtcbgiccgiegdbabO
set_option linter.unusedVariables false
set_option linter.unusedSimpArgs false
theorem wrap_id {n : Int} (h0 : -9223372036854775808 ≤ n) (h1 : n ≤ 9223372036854775807) : wrap64 n = n := by
  unfold wrap64
  omega
theorem take_set_succ {α : Type} (l : List α) (i : Nat) (y : α) (h : i < l.length) : (l.set i y).take (i + 1) = l.take i ++ [y] := by
  rw [List.take_succ_eq_append_getElem (by simpa using h), List.take_set_of_le (Nat.le_refl i)]
  simp
theorem nat_set {α : Type} (l : List α) (i : Int) (y : α) (h0 : 0 ≤ i) (h : i < (l.length : Int)) : (l.set i.toNat y).take (i + 1).toNat = l.take i.toNat ++ [y] := by
  rw [show (i + 1).toNat = i.toNat + 1 by omega]
  exact take_set_succ l i.toNat y (by omega)
theorem drop_getD {α : Type} (l : List α) (d : α) (i : Int) (h0 : 0 ≤ i) (h : i < (l.length : Int)) : l.drop i.toNat = l.getD i.toNat d :: l.drop (i + 1).toNat := by
  rw [show (i + 1).toNat = i.toNat + 1 by omega]
  have h1 : i.toNat < l.length := by omega
  rw [List.drop_eq_getElem_cons h1, List.getD_eq_getElem?_getD, List.getElem?_eq_getElem h1]
  rfl
theorem getD_mem {α : Type} (l : List α) (d : α) (i : Int) (h0 : 0 ≤ i) (h : i < (l.length : Int)) : l.getD i.toNat d ∈ l := by
  have h1 : i.toNat < l.length := by omega
  rw [List.getD_eq_getElem?_getD, List.getElem?_eq_getElem h1]
  exact List.getElem_mem h1
theorem ev_if_pos {α : Type} {c : Prop} [Decidable c] {f g : Nat → Option α} {r : α} (h : c) (e : Ev f r) : Ev (fun k => if c then f k else g k) r := by
  simp only [if_pos h]
  exact e
theorem ev_if_neg {α : Type} {c : Prop} [Decidable c] {f g : Nat → Option α} {r : α} (h : ¬ c) (e : Ev g r) : Ev (fun k => if c then f k else g k) r := by
  simp only [if_neg h]
  exact e
theorem Ev.eq {α : Type} {g : Nat → Option α} {r s : α} (h : Ev g r) (e : r = s) : Ev g s := e ▸ h

def Bdl_Bc (n : Int) (x : S60) : Prop := ((x.f2.size : Int) ≤ n)

theorem Bdl_Bc_mono {n m : Int} (h : n ≤ m) {x : S60} (b : Bdl_Bc n x) : Bdl_Bc m x := by
  unfold Bdl_Bc at *
  exact (Int.le_trans b h)

theorem szBc_ev (x : S60) (left : Int) (h0 : 0 ≤ left) (h1 : left ≤ 1048576) (hl : Ok60 x) :
    ∃ v, Ev (fun k => laws_szBc.f x.f0 x.f1 x.f2 left) v ∧ v ≤ left ∧ (0 ≤ v → Bdl_Bc left x) := by
  unfold laws_szBc.f
  have w0 : wrap64 (left - (x.f2.size : Int)) = left - (x.f2.size : Int) := wrap_id (by have := hl.2.2; omega) (by omega)
  simp only [w0]
  by_cases c0 : left - (x.f2.size : Int) < 0
  · exact ⟨-1, ev_if_pos c0 (Ev.now _), by omega, fun h => absurd h (by omega)⟩
  · exact ⟨(left - (x.f2.size : Int)), ev_if_neg c0 (Ev.now _), by omega, fun _ => (show (x.f2.size : Int) ≤ left by omega)⟩

theorem szBcS_l0 (l : (List (S60))) (hl : l.length ≤ 1048576) (hok : ∀ y_ ∈ l, Ok60 y_) (n : Int) (hn : n ≤ 1048576) : ∀ (d : Nat) (i left : Int), 0 ≤ i → i + d = l.length → 0 ≤ left → left ≤ n → (∀ y_ ∈ l.take i.toNat, Bdl_Bc n y_) →
    ∃ v, Ev (fun k => laws_szBcS.l0 k l left i) v ∧ v ≤ left ∧ (0 ≤ v → ∀ y_ ∈ l, Bdl_Bc n y_)
  | 0, i, left, h0, h1, h2, h3, hb => by
    have c : ¬ i < (l.length : Int) := by omega
    refine ⟨left, Ev.step (f := fun _ => some left) (fun k => by rw [laws_szBcS.l0, if_neg c]) (Ev.now _), Int.le_refl _, fun _ y hy => hb y ?_⟩
    rw [List.take_of_length_le (by omega)]
    exact hy
  | d + 1, i, left, h0, h1, h2, h3, hb => by
    have c : i < (l.length : Int) := by omega
    have hm : rd_T60 l i ∈ l := getD_mem l _ i h0 c
    obtain ⟨v, e, hv, hbv⟩ := szBc_ev (rd_T60 l i) left h2 (by omega) (hok _ hm)
    by_cases c2 : v < 0
    · exact ⟨-1, Ev.step (fun k => by rw [laws_szBcS.l0, if_pos c, if_pos h0]) (Ev.bind e (ev_if_pos c2 (Ev.now _))), by omega, fun h => absurd h (by omega)⟩
    · have hw : wrap64 (i + 1) = i + 1 := wrap_id (by omega) (by omega)
      have hb' : ∀ y_ ∈ l.take (i + 1).toNat, Bdl_Bc n y_ := by
        intro y hy
        rw [show (i + 1).toNat = i.toNat + 1 by omega, List.take_succ_eq_append_getElem (by omega)] at hy
        rcases List.mem_append.1 hy with hy | hy
        · exact hb y hy
        · have e2 : y = rd_T60 l i := by
            rw [List.mem_singleton.1 hy]
            unfold rd_T60
            rw [List.getD_eq_getElem?_getD, List.getElem?_eq_getElem (by omega)]
            rfl
          rw [e2]
          exact (Bdl_Bc_mono h3 (hbv (by omega)))
      obtain ⟨u, eu, hu, hbu⟩ := szBcS_l0 l hl hok n hn d (i + 1) v (by omega) (by omega) (by omega) (by omega) hb'
      refine ⟨u, Ev.step (fun k => by rw [laws_szBcS.l0, if_pos c, if_pos h0]) (Ev.bind e (ev_if_neg c2 ?_)), by omega, hbu⟩
      rw [hw]
      exact eu
theorem szBcS_ev (l : (List (S60))) (left : Int) (h0 : 0 ≤ left) (h1 : left ≤ 1048576) (hl : l.length ≤ 9223372036854775807 ∧ ∀ y_ ∈ l, Ok60 y_) :
    ∃ v, Ev (fun k => laws_szBcS.f k l left) v ∧ v ≤ left ∧ (0 ≤ v → (l.length : Int) ≤ left ∧ ∀ y_ ∈ l, Bdl_Bc left y_) := by
  unfold laws_szBcS.f
  have hw : wrap64 (left - (l.length : Int)) = left - (l.length : Int) := wrap_id (by have := hl.1; omega) (by omega)
  simp only [hw]
  by_cases c : left - (l.length : Int) < 0
  · exact ⟨-1, ev_if_pos c (Ev.now _), by omega, fun h => absurd h (by omega)⟩
  · obtain ⟨v, e, hv, hb⟩ := szBcS_l0 l (by omega) hl.2 left h1 l.length 0 (left - (l.length : Int)) (by omega) (by omega) (by omega) (by omega) (fun y hy => by simp at hy)
    exact ⟨v, ev_if_neg c e, by omega, fun h => ⟨by omega, hb h⟩⟩

def cv_Bc (x : S60) : S63 := ⟨x.f0, x.f1, x.f2⟩

theorem toBc_ev (x : S60) (hb : Bdl_Bc 1048576 x) : Ev (fun k => laws_toBc.f x.f0 x.f1 x.f2) ((cv_Bc (x)).f0, (cv_Bc (x)).f1, (cv_Bc (x)).f2) := by
  unfold laws_toBc.f
  unfold Bdl_Bc at hb
  exact Ev.now _

theorem toBcS_l0 (l : (List (S60))) (hl : (l.length : Int) ≤ 1048576) (hb : ∀ y_ ∈ l, Bdl_Bc 1048576 y_) : ∀ (d : Nat) (i : Int) (acc : (List (S63))), 0 ≤ i → i + d = l.length → acc.length = l.length →
    Ev (fun k => laws_toBcS.l0 k l acc i) (acc.take i.toNat ++ (l.drop i.toNat).map cv_Bc)
  | 0, i, acc, h0, h1, h2 => by
    have c : ¬ i < (l.length : Int) := by omega
    refine Ev.eq (Ev.step (f := fun _ => some acc) (fun k => by rw [laws_toBcS.l0, if_neg c]) (Ev.now _)) ?_
    rw [List.take_of_length_le (by omega), List.drop_eq_nil_of_le (by omega)]
    simp
  | d + 1, i, acc, h0, h1, h2 => by
    have c : i < (l.length : Int) := by omega
    have c' : i < (acc.length : Int) := by omega
    have hm : rd_T60 l i ∈ l := getD_mem l _ i h0 c
    have hw : wrap64 (i + 1) = i + 1 := wrap_id (by omega) (by omega)
    have ih := toBcS_l0 l hl hb d (i + 1) (acc.set i.toNat (cv_Bc (rd_T60 l i))) (by omega) (by omega) (by rw [List.length_set]; exact h2)
    rw [nat_set acc i _ h0 c', List.append_assoc] at ih
    have hd := drop_getD l z60 i h0 c
    refine Ev.eq ?_ (show acc.take i.toNat ++ ([cv_Bc (rd_T60 l i)] ++ (l.drop (i + 1).toNat).map cv_Bc) = _ by rw [hd]; rfl)
    refine Ev.step (fun k => by rw [laws_toBcS.l0, if_pos c, if_pos h0]) (Ev.bind (toBc_ev (rd_T60 l i) (hb _ hm)) ?_)
    refine ev_if_pos c' ?_
    rw [hw]
    exact ih
theorem toBcS_ev (l : (List (S60))) (hl : (l.length : Int) ≤ 1048576) (hb : ∀ y_ ∈ l, Bdl_Bc 1048576 y_) : Ev (fun k => laws_toBcS.f k l) (l.map cv_Bc) := by
  unfold laws_toBcS.f
  refine ev_if_pos (by omega) (ev_if_pos (by omega) ?_)
  refine Ev.eq (toBcS_l0 l hl hb l.length 0 _ (by omega) (by omega) (by rw [List.length_replicate]; omega)) ?_
  simp

def Bdx_Bc (n : Int) (x : S63) : Prop := ((x.f2.size : Int) ≤ n)

theorem Bdx_Bc_mono {n m : Int} (h : n ≤ m) {x : S63} (b : Bdx_Bc n x) : Bdx_Bc m x := by
  unfold Bdx_Bc at *
  exact (Int.le_trans b h)

theorem eqBc_ev (x : S63) (hb : Bdx_Bc 1048576 x) : Ev (fun k => laws_eqBc.f x.f0 x.f1 x.f2 x.f0 x.f1 x.f2) true := by
  unfold laws_eqBc.f
  unfold Bdx_Bc at hb
  refine ev_if_pos (by first | rfl | simp) ?_
  refine ev_if_pos (by first | rfl | simp) ?_
  refine ev_if_pos (by first | rfl | simp) ?_
  exact Ev.now _

theorem eqBcS_l0 (l : (List (S63))) (hl : (l.length : Int) ≤ 1048576) (hb : ∀ y_ ∈ l, Bdx_Bc 1048576 y_) : ∀ (d : Nat) (i : Int), 0 ≤ i → i + d = l.length → Ev (fun k => laws_eqBcS.l0 k l l i) true
  | 0, i, h0, h1 => by
    have c : ¬ i < (l.length : Int) := by omega
    exact Ev.step (f := fun _ => some true) (fun k => by rw [laws_eqBcS.l0, if_neg c]) (Ev.now _)
  | d + 1, i, h0, h1 => by
    have c : i < (l.length : Int) := by omega
    have hm : rd_T63 l i ∈ l := getD_mem l _ i h0 c
    have hw : wrap64 (i + 1) = i + 1 := wrap_id (by omega) (by omega)
    have ih := eqBcS_l0 l hl hb d (i + 1) (by omega) (by omega)
    refine Ev.step (fun k => by rw [laws_eqBcS.l0, if_pos c, if_pos h0, if_pos c]) (Ev.bind (eqBc_ev (rd_T63 l i) (hb _ hm)) (ev_if_pos rfl ?_))
    rw [hw]
    exact ih
theorem eqBcS_ev (l : (List (S63))) (hl : (l.length : Int) ≤ 1048576) (hb : ∀ y_ ∈ l, Bdx_Bc 1048576 y_) : Ev (fun k => laws_eqBcS.f k l l) true := by
  unfold laws_eqBcS.f
  exact ev_if_pos rfl (eqBcS_l0 l hl hb l.length 0 (by omega) (by omega))

theorem bcv_Bc {n : Int} {x : S60} (hb : Bdl_Bc n x) : Bdx_Bc n (cv_Bc x) := by
  unfold Bdl_Bc at hb
  unfold Bdx_Bc cv_Bc
  exact hb

theorem spec_l2Strength_f (k : Nat) (a0 : ByteArray) : spec_l2Strength.f (k + 4) a0 = some (strengthL a0.toList).1 := by
  unfold strengthL
  by_cases h0 : a0.toList = [124, 124]
  · simp [spec_l2Strength.f, spec_l2Strength.j0, spec_l2Strength.j1, spec_l2Strength.j2, spec_l2Strength.j3, h0]
  by_cases h1 : a0.toList = [38, 38]
  · simp [spec_l2Strength.f, spec_l2Strength.j0, spec_l2Strength.j1, spec_l2Strength.j2, spec_l2Strength.j3, h1]
  by_cases h2 : a0.toList = [61, 61]
  · simp [spec_l2Strength.f, spec_l2Strength.j0, spec_l2Strength.j1, spec_l2Strength.j2, spec_l2Strength.j3, h2]
  by_cases h3 : a0.toList = [33, 61]
  · simp [spec_l2Strength.f, spec_l2Strength.j0, spec_l2Strength.j1, spec_l2Strength.j2, spec_l2Strength.j3, h3]
  by_cases h4 : a0.toList = [60]
  · simp [spec_l2Strength.f, spec_l2Strength.j0, spec_l2Strength.j1, spec_l2Strength.j2, spec_l2Strength.j3, h4]
  by_cases h5 : a0.toList = [60, 61]
  · simp [spec_l2Strength.f, spec_l2Strength.j0, spec_l2Strength.j1, spec_l2Strength.j2, spec_l2Strength.j3, h5]
  by_cases h6 : a0.toList = [43]
  · simp [spec_l2Strength.f, spec_l2Strength.j0, spec_l2Strength.j1, spec_l2Strength.j2, spec_l2Strength.j3, h6]
  by_cases h7 : a0.toList = [45]
  · simp [spec_l2Strength.f, spec_l2Strength.j0, spec_l2Strength.j1, spec_l2Strength.j2, spec_l2Strength.j3, h7]
  by_cases h8 : a0.toList = [42]
  · simp [spec_l2Strength.f, spec_l2Strength.j0, spec_l2Strength.j1, spec_l2Strength.j2, spec_l2Strength.j3, h8]
  by_cases h9 : a0.toList = [47]
  · simp [spec_l2Strength.f, spec_l2Strength.j0, spec_l2Strength.j1, spec_l2Strength.j2, spec_l2Strength.j3, h9]
  by_cases h10 : a0.toList = [37]
  · simp [spec_l2Strength.f, spec_l2Strength.j0, spec_l2Strength.j1, spec_l2Strength.j2, spec_l2Strength.j3, h10]
  by_cases h11 : a0.toList = [60, 60]
  · simp [spec_l2Strength.f, spec_l2Strength.j0, spec_l2Strength.j1, spec_l2Strength.j2, spec_l2Strength.j3, h11]
  simp [spec_l2Strength.f, spec_l2Strength.j0, spec_l2Strength.j1, spec_l2Strength.j2, spec_l2Strength.j3, h0, h1, h2, h3, h4, h5, h6, h7, h8, h9, h10, h11]
theorem isTwoB_lt (t : List UInt8) : decide ((strengthL t).1 > 2) = isTwoB t := by
  unfold isTwoB strengthL
  by_cases h0 : t = [124, 124]
  · simp [h0]
  by_cases h1 : t = [38, 38]
  · simp [h1]
  by_cases h2 : t = [61, 61]
  · simp [h2]
  by_cases h3 : t = [33, 61]
  · simp [h3]
  by_cases h4 : t = [60]
  · simp [h4]
  by_cases h5 : t = [60, 61]
  · simp [h5]
  by_cases h6 : t = [43]
  · simp [h6]
  by_cases h7 : t = [45]
  · simp [h7]
  by_cases h8 : t = [42]
  · simp [h8]
  by_cases h9 : t = [47]
  · simp [h9]
  by_cases h10 : t = [37]
  · simp [h10]
  by_cases h11 : t = [60, 60]
  · simp [h11]
  simp [h0, h1, h2, h3, h4, h5, h6, h7, h8, h9, h10, h11]
theorem l1In_f (a b c : Int) : spec_l1In.f a b c = some (inB a b c) := by
  unfold spec_l1In.f inB
  by_cases h : a ≥ b <;> simp [h] <;> omega
theorem spec_l16One_ev (n : Int) (h0 : 0 ≤ n) (h1 : n ≤ 1048576) (x : S63) : Ev (fun k => spec_l16One.f k x.f0 x.f1 x.f2 n) (bcGood n x) := by
  refine ⟨9, fun k hk => ?_⟩
  obtain ⟨m, rfl⟩ : ∃ m, k = m + 9 := ⟨k - 9, by omega⟩
  have hw : wrap64 (n - 1) = n - 1 := wrap_id (by omega) (by omega)
  unfold spec_l16One.f bcGood spec_l2Bound.f
  rw [hw, l1In_f, Option.bind_some, Option.bind_some]
  by_cases h4 : x.f0 = 4
  · by_cases h : x.f1 = 0 <;> simp [h4, h, spec_l16One.j0, spec_l16Two.f, spec_l2Strength_f (m + 4), ← isTwoB_lt]
  by_cases h5 : x.f0 = 5
  · by_cases h : x.f1 = 0
    · by_cases g : x.f2.toList = [45] <;> simp [h5, h, g, spec_l16One.j0]
    · simp [h5, h, spec_l16One.j0]
  by_cases hn : x.f2.toList = []
  · by_cases g1 : x.f0 = 1
    · cases hi : inB x.f1 (-1000000000) 1000000000 <;> simp [g1, hn]
    by_cases g2 : x.f0 = 2
    · cases hi : inB x.f1 0 9 <;> simp [g2, hn, spec_l16One.j0, l1In_f, hi]
    by_cases g3 : x.f0 = 3
    · cases hi : inB x.f1 0 9 <;> simp [g3, hn, spec_l16One.j0, l1In_f, hi]
    by_cases g6 : x.f0 = 6
    · by_cases c1 : x.f1 ≥ 0
      · by_cases c2 : x.f1 < n
        · have e : inB x.f1 0 (n - 1) = true := by simp [inB]; omega
          simp [g6, hn, spec_l16One.j0, spec_l16One.j1, c1, c2, e]
        · have e : inB x.f1 0 (n - 1) = false := by simp [inB]; omega
          simp [g6, hn, spec_l16One.j0, spec_l16One.j1, c1, c2, e]
      · have e : inB x.f1 0 (n - 1) = false := by simp [inB]; omega
        simp [g6, hn, spec_l16One.j0, spec_l16One.j1, c1, e]
    by_cases g7 : x.f0 = 7
    · by_cases c1 : x.f1 ≥ 0
      · by_cases c2 : x.f1 < n
        · have e : inB x.f1 0 (n - 1) = true := by simp [inB]; omega
          simp [g7, hn, spec_l16One.j0, spec_l16One.j1, c1, c2, e]
        · have e : inB x.f1 0 (n - 1) = false := by simp [inB]; omega
          simp [g7, hn, spec_l16One.j0, spec_l16One.j1, c1, c2, e]
      · have e : inB x.f1 0 (n - 1) = false := by simp [inB]; omega
        simp [g7, hn, spec_l16One.j0, spec_l16One.j1, c1, e]
    by_cases g8 : x.f0 = 8
    · by_cases h : x.f1 = 0 <;> simp [g8, hn, h, spec_l16One.j0, spec_l16One.j1]
    by_cases g9 : x.f0 = 9
    · by_cases h : x.f1 = 0 <;> simp [g9, hn, h, spec_l16One.j0, spec_l16One.j1]
    simp [g1, g2, g3, h4, h5, g6, g7, g8, g9, hn, spec_l16One.j0, spec_l16One.j1]
  · by_cases g1 : x.f0 = 1
    · cases hi : inB x.f1 (-1000000000) 1000000000 <;> simp [g1, hn]
    by_cases g2 : x.f0 = 2
    · cases hi : inB x.f1 0 9 <;> simp [g2, hn, spec_l16One.j0, l1In_f, hi]
    by_cases g3 : x.f0 = 3
    · cases hi : inB x.f1 0 9 <;> simp [g3, hn, spec_l16One.j0, l1In_f, hi]
    by_cases g6 : x.f0 = 6
    · by_cases c1 : x.f1 ≥ 0 <;> by_cases c2 : x.f1 < n <;> simp [g6, hn, spec_l16One.j0, spec_l16One.j1, c1, c2]
    by_cases g7 : x.f0 = 7
    · by_cases c1 : x.f1 ≥ 0 <;> by_cases c2 : x.f1 < n <;> simp [g7, hn, spec_l16One.j0, spec_l16One.j1, c1, c2]
    by_cases g8 : x.f0 = 8
    · by_cases h : x.f1 = 0 <;> simp [g8, hn, h, spec_l16One.j0, spec_l16One.j1]
    by_cases g9 : x.f0 = 9
    · by_cases h : x.f1 = 0 <;> simp [g9, hn, h, spec_l16One.j0, spec_l16One.j1]
    simp [g1, g2, g3, h4, h5, g6, g7, g8, g9, hn, spec_l16One.j0, spec_l16One.j1]
theorem spec_GoodCode_l0 (l : List S63) (hl : (l.length : Int) ≤ 1048576) : ∀ (d : Nat) (i : Int), 0 ≤ i → i + d = l.length →
    Ev (fun k => spec_GoodCode.l0 k l l l.length i) (!(l.drop i.toNat).any (bcBad l.length) && inB l.length 1 120)
  | 0, i, h0, h1 => by
    have c : ¬ i < (l.length : Int) := by omega
    refine Ev.eq (Ev.step (f := fun _ => some (inB l.length 1 120)) (fun k => by rw [spec_GoodCode.l0, if_neg c, l1In_f] <;> rfl) (Ev.now _)) ?_
    rw [List.drop_eq_nil_of_le (by omega)]
    rfl
  | d + 1, i, h0, h1 => by
    have c : i < (l.length : Int) := by omega
    have hw : wrap64 (i + 1) = i + 1 := wrap_id (by omega) (by omega)
    have hd : l.drop i.toNat = rd_T63 l i :: l.drop (i + 1).toNat := drop_getD l _ i h0 c
    have ih := spec_GoodCode_l0 l hl d (i + 1) (by omega) (by omega)
    have e := spec_l16One_ev l.length (by omega) hl (rd_T63 l i)
    rw [hd, List.any_cons]
    cases hb : bcGood l.length (rd_T63 l i)
    · rw [hb] at e
      refine Ev.eq (r := false) (Ev.step (fun k => by rw [spec_GoodCode.l0, if_pos c, if_pos h0, if_pos c]) ?_) (by simp [bcBad, hb])
      exact Ev.bind e (ev_if_neg Bool.false_ne_true (Ev.now _))
    · rw [hb] at e
      refine Ev.eq (r := !(l.drop (i + 1).toNat).any (bcBad l.length) && inB l.length 1 120) (Ev.step (fun k => by rw [spec_GoodCode.l0, if_pos c, if_pos h0, if_pos c, hw]) ?_) (by simp [bcBad, hb])
      exact Ev.bind e (ev_if_pos rfl ih)
def goodCode (l : List S63) : Bool := inB l.length 1 120 && !l.any (bcBad l.length)
theorem spec_GoodCode_ev (l : List S63) (hl : (l.length : Int) ≤ 1048576) : Ev (fun k => spec_GoodCode.f k l) (goodCode l) := by
  refine Ev.eq (spec_GoodCode_l0 l hl l.length 0 (by omega) (by omega)) ?_
  unfold goodCode
  rw [Bool.and_comm]
  rfl
theorem impl_GoodCode_f (l : List S63) : impl_GoodCode.f l = some (goodCode l) := rfl
def signs : List ByteArray := [⟨#[43]⟩, ⟨#[45]⟩, ⟨#[42]⟩, ⟨#[47]⟩, ⟨#[37]⟩, ⟨#[60]⟩, ⟨#[60, 61]⟩, ⟨#[61, 61]⟩, ⟨#[33, 61]⟩, ⟨#[61]⟩, ⟨#[38, 38]⟩, ⟨#[124, 124]⟩, ⟨#[33]⟩, ⟨#[40]⟩, ⟨#[41]⟩, ⟨#[44]⟩, ⟨#[59]⟩, ⟨#[45, 62]⟩, ⟨#[60, 60]⟩]
theorem spec_signs : spec_l1Signs.f = some signs := rfl
theorem impl_signs : impl_SignsOf.f = some signs := rfl
def signIdx (t : List UInt8) : Int := idxB (fun z : ByteArray => z.toList == t) signs 0
theorem spec_sign_l0 (s : ByteArray) (l : List ByteArray) (hl : (l.length : Int) ≤ 1048576) : ∀ (d : Nat) (i : Int), 0 ≤ i → i + d = l.length →
    Ev (fun k => spec_l16Sign.l0 k s l l.length i) (idxB (fun z : ByteArray => z.toList == s.toList) (l.drop i.toNat) i)
  | 0, i, h0, h1 => by
    have c : ¬ i < (l.length : Int) := by omega
    rw [List.drop_eq_nil_of_le (by omega)]
    exact Ev.step (f := fun _ => some (-1)) (fun k => by rw [spec_l16Sign.l0, if_neg c]) (Ev.now _)
  | d + 1, i, h0, h1 => by
    have c : i < (l.length : Int) := by omega
    have hw : wrap64 (i + 1) = i + 1 := wrap_id (by omega) (by omega)
    have hd : l.drop i.toNat = rdOf ByteArray.empty l i :: l.drop (i + 1).toNat := drop_getD l _ i h0 c
    have ih := spec_sign_l0 s l hl d (i + 1) (by omega) (by omega)
    rw [hd, idxB]
    by_cases e : (rdOf ByteArray.empty l i).toList = s.toList
    · rw [if_pos (by simp [e])]
      exact Ev.step (f := fun _ => some i) (fun k => by rw [spec_l16Sign.l0, if_pos c, if_pos h0, if_pos c, if_pos e]) (Ev.now _)
    · rw [if_neg (by simp [e])]
      exact Ev.step (fun k => by rw [spec_l16Sign.l0, if_pos c, if_pos h0, if_pos c, if_neg e, hw]) ih
theorem spec_sign_ev (s : ByteArray) : Ev (fun k => spec_l16Sign.f k s) (signIdx s.toList) := by
  unfold spec_l16Sign.f
  rw [spec_signs]
  exact spec_sign_l0 s signs (by decide) signs.length 0 (by omega) (by omega)
theorem index_l0 (s : ByteArray) (l : List ByteArray) (hl : (l.length : Int) ≤ 1048576) : ∀ (d : Nat) (i : Int), 0 ≤ i → i + d = l.length →
    Ev (fun k => slices_Index_string_string.l0 k l s l.length i) (idxB (fun z : ByteArray => z.toList == s.toList) (l.drop i.toNat) i)
  | 0, i, h0, h1 => by
    have c : ¬ i < (l.length : Int) := by omega
    rw [List.drop_eq_nil_of_le (by omega)]
    exact Ev.step (f := fun _ => some (-1)) (fun k => by rw [slices_Index_string_string.l0, if_neg c]) (Ev.now _)
  | d + 1, i, h0, h1 => by
    have c : i < (l.length : Int) := by omega
    have hw : wrap64 (i + 1) = i + 1 := wrap_id (by omega) (by omega)
    have hd : l.drop i.toNat = rdOf ByteArray.empty l i :: l.drop (i + 1).toNat := drop_getD l _ i h0 c
    have ih := index_l0 s l hl d (i + 1) (by omega) (by omega)
    rw [hd, idxB]
    by_cases e : s.toList = (rdOf ByteArray.empty l i).toList
    · rw [if_pos (by simp [e])]
      exact Ev.step (f := fun _ => some i) (fun k => by rw [slices_Index_string_string.l0, if_pos c, if_pos h0, if_pos c, if_pos e]) (Ev.now _)
    · rw [if_neg (by simp [Ne.symm e])]
      exact Ev.step (fun k => by rw [slices_Index_string_string.l0, if_pos c, if_pos h0, if_pos c, if_neg e, hw]) ih
theorem index_ev (s : ByteArray) : Ev (fun k => slices_Index_string_string.f k signs s) (signIdx s.toList) := index_l0 s signs (by decide) signs.length 0 (by omega) (by omega)
/-- The bytes of a step. -/
def encBc (x : S63) : List Int := [x.f0 % 256] ++
  (if x.f0 = 1 then [(wrap64 (x.f1 + 1000000000) / 4294967296) % 256, (wrap64 (x.f1 + 1000000000) / 16777216) % 256, (wrap64 (x.f1 + 1000000000) / 65536) % 256, (wrap64 (x.f1 + 1000000000) / 256) % 256, wrap64 (x.f1 + 1000000000) % 256]
  else if x.f0 = 2 ∨ x.f0 = 3 ∨ x.f0 = 6 ∨ x.f0 = 7 then [x.f1 % 256] else if x.f0 = 4 ∨ x.f0 = 5 then [signIdx x.f2.toList % 256] else [])
theorem encBc_le (x : S63) : (encBc x).length ≤ 6 := by
  unfold encBc
  split
  · simp
  · split
    · simp
    · split <;> simp
theorem spec_bytes_step (l : List S63) (hl : (l.length : Int) ≤ 1048576) (i : Int) (h0 : 0 ≤ i) (c : i < (l.length : Int)) (acc : List Int) (ha : acc.length ≤ 6 * l.length) (r : ByteArray)
    (H : Ev (fun k => spec_l16Bytes.l0 k (acc ++ encBc (rd_T63 l i)) l l.length (i + 1)) r) : Ev (fun k => spec_l16Bytes.l0 k acc l l.length i) r := by
  have hw : wrap64 (i + 1) = i + 1 := wrap_id (by omega) (by omega)
  have c1 : acc.length < 140737488355328 := by omega
  generalize hx : rd_T63 l i = x at H
  have c2 : (acc ++ [x.f0 % 256]).length < 140737488355328 := by rw [List.length_append, List.length_singleton]; omega
  by_cases g1 : x.f0 = 1
  · have he : acc ++ encBc x = acc ++ [x.f0 % 256] ++ [(wrap64 (x.f1 + 1000000000) / 4294967296) % 256, (wrap64 (x.f1 + 1000000000) / 16777216) % 256, (wrap64 (x.f1 + 1000000000) / 65536) % 256, (wrap64 (x.f1 + 1000000000) / 256) % 256, wrap64 (x.f1 + 1000000000) % 256] := by unfold encBc; rw [if_pos g1, List.append_assoc]
    rw [he] at H
    refine Ev.step (fun k => ?_) H
    rw [spec_l16Bytes.l0, if_pos c, if_pos h0, if_pos c, if_pos c1, hx]
    simp only [Option.bind_some]
    rw [if_pos g1, if_pos (by simp; omega), hw]
  · have tail : ∀ b : Bool, (b = true ↔ (x.f0 = 2 ∨ x.f0 = 3 ∨ x.f0 = 6 ∨ x.f0 = 7)) → Ev (fun k => spec_l16Bytes.j1 k (acc ++ [x.f0 % 256]) l l.length i x.f0 b x.f0 x.f1 x.f2) r := by
      intro b hb
      cases b
      · have hno : ¬ (x.f0 = 2 ∨ x.f0 = 3 ∨ x.f0 = 6 ∨ x.f0 = 7) := fun h => by simpa using hb.2 h
        by_cases g4 : x.f0 = 4
        · have he : acc ++ encBc x = acc ++ [x.f0 % 256] ++ [signIdx x.f2.toList % 256] := by unfold encBc; rw [if_neg g1, if_neg hno, if_pos (.inl g4), List.append_assoc]
          rw [he] at H
          refine Ev.step (fun k => by rw [spec_l16Bytes.j1, if_neg (by simp), if_pos g4]) ?_
          refine Ev.bind (spec_sign_ev x.f2) (ev_if_pos c2 ?_)
          rw [hw]
          exact H
        · by_cases g5 : x.f0 = 5
          · have he : acc ++ encBc x = acc ++ [x.f0 % 256] ++ [signIdx x.f2.toList % 256] := by unfold encBc; rw [if_neg g1, if_neg hno, if_pos (.inr g5), List.append_assoc]
            rw [he] at H
            refine Ev.step (fun k => by rw [spec_l16Bytes.j1, if_neg (by simp), if_neg g4, if_pos g5]) ?_
            refine Ev.bind (spec_sign_ev x.f2) (ev_if_pos c2 ?_)
            rw [hw]
            exact H
          · have he : acc ++ encBc x = acc ++ [x.f0 % 256] := by unfold encBc; rw [if_neg g1, if_neg hno, if_neg (by omega), List.append_nil]
            rw [he] at H
            exact Ev.step (fun k => by rw [spec_l16Bytes.j1, if_neg (by simp), if_neg g4, if_neg g5, hw]) H
      · have hy := hb.1 rfl
        have he : acc ++ encBc x = acc ++ [x.f0 % 256] ++ [x.f1 % 256] := by unfold encBc; rw [if_neg g1, if_pos hy, List.append_assoc]
        rw [he] at H
        exact Ev.step (fun k => by rw [spec_l16Bytes.j1, if_pos rfl, if_pos c2, hw]) H
    have go : ∀ b : Bool, (∀ k, spec_l16Bytes.l0 (k + 1) acc l l.length i = spec_l16Bytes.j1 k (acc ++ [x.f0 % 256]) l l.length i x.f0 b x.f0 x.f1 x.f2) → (b = true ↔ (x.f0 = 2 ∨ x.f0 = 3 ∨ x.f0 = 6 ∨ x.f0 = 7)) → Ev (fun k => spec_l16Bytes.l0 k acc l l.length i) r :=
      fun b e hb => Ev.step e (tail b hb)
    by_cases g2 : x.f0 = 2
    · refine go (x.f0 == 2) (fun k => ?_) (by simp [g2])
      rw [spec_l16Bytes.l0, if_pos c, if_pos h0, if_pos c, if_pos c1, hx]
      simp only [Option.bind_some]
      rw [if_neg g1, if_pos g2]
    by_cases g3 : x.f0 = 3
    · refine go (x.f0 == 3) (fun k => ?_) (by simp [g3])
      rw [spec_l16Bytes.l0, if_pos c, if_pos h0, if_pos c, if_pos c1, hx]
      simp only [Option.bind_some]
      rw [if_neg g1, if_neg g2, if_pos g3]
    by_cases g6 : x.f0 = 6
    · refine go (x.f0 == 6) (fun k => ?_) (by simp [g6])
      rw [spec_l16Bytes.l0, if_pos c, if_pos h0, if_pos c, if_pos c1, hx]
      simp only [Option.bind_some]
      rw [if_neg g1, if_neg g2, if_neg g3, if_pos g6]
    · refine go (x.f0 == 7) (fun k => ?_) (by simp [g2, g3, g6])
      rw [spec_l16Bytes.l0, if_pos c, if_pos h0, if_pos c, if_pos c1, hx]
      simp only [Option.bind_some]
      rw [if_neg g1, if_neg g2, if_neg g3, if_neg g6]
theorem spec_bytes_l0 (l : List S63) (hl : (l.length : Int) ≤ 1048576) : ∀ (d : Nat) (i : Int) (acc : List Int), 0 ≤ i → i + d = l.length → acc.length ≤ 6 * i.toNat →
    Ev (fun k => spec_l16Bytes.l0 k acc l l.length i) (strOfNums (acc ++ (l.drop i.toNat).flatMap encBc))
  | 0, i, acc, h0, h1, ha => by
    have c : ¬ i < (l.length : Int) := by omega
    rw [List.drop_eq_nil_of_le (by omega), List.flatMap_nil, List.append_nil]
    exact Ev.step (f := fun _ => some (strOfNums acc)) (fun k => by rw [spec_l16Bytes.l0, if_neg c]) (Ev.now _)
  | d + 1, i, acc, h0, h1, ha => by
    have c : i < (l.length : Int) := by omega
    have hd : l.drop i.toNat = rd_T63 l i :: l.drop (i + 1).toNat := drop_getD l _ i h0 c
    have hle := encBc_le (rd_T63 l i)
    have ih := spec_bytes_l0 l hl d (i + 1) (acc ++ encBc (rd_T63 l i)) (by omega) (by omega) (by rw [List.length_append]; omega)
    rw [hd, List.flatMap_cons, ← List.append_assoc]
    exact spec_bytes_step l hl i h0 c acc (by omega) _ ih
def codeBytes (l : List S63) : ByteArray := strOfNums (l.flatMap encBc)
theorem spec_bytes_ev (l : List S63) (hl : (l.length : Int) ≤ 1048576) : Ev (fun k => spec_l16Bytes.f k l) (codeBytes l) := spec_bytes_l0 l hl l.length 0 [] (by omega) (by omega) (by simp)
theorem impl_bytes_step (l : List S63) (hl : (l.length : Int) ≤ 1048576) (i : Int) (h0 : 0 ≤ i) (c : i < (l.length : Int)) (acc : List Int) (ha : acc.length ≤ 6 * l.length) (r : ByteArray × Bool)
    (H : Ev (fun k => impl_CodeBytes.l0 k (acc ++ encBc (rd_T63 l i)) l l.length (i + 1)) r) : Ev (fun k => impl_CodeBytes.l0 k acc l l.length i) r := by
  have hw : wrap64 (i + 1) = i + 1 := wrap_id (by omega) (by omega)
  have c1 : acc.length < 140737488355328 := by omega
  generalize hx : rd_T63 l i = x at H
  have c2 : (acc ++ [x.f0 % 256]).length < 140737488355328 := by rw [List.length_append, List.length_singleton]; omega
  by_cases g1 : x.f0 = 1
  · have he : acc ++ encBc x = acc ++ [x.f0 % 256] ++ [(wrap64 (x.f1 + 1000000000) / 4294967296) % 256, (wrap64 (x.f1 + 1000000000) / 16777216) % 256, (wrap64 (x.f1 + 1000000000) / 65536) % 256, (wrap64 (x.f1 + 1000000000) / 256) % 256, wrap64 (x.f1 + 1000000000) % 256] := by unfold encBc; rw [if_pos g1, List.append_assoc]
    rw [he] at H
    refine Ev.step (fun k => ?_) H
    rw [impl_CodeBytes.l0, if_pos c, if_pos h0, if_pos c, if_pos c1, hx]
    simp only [Option.bind_some]
    rw [if_pos g1, if_pos (by simp; omega), hw]
  · have tail2 : ∀ b : Bool, ¬ (x.f0 = 2 ∨ x.f0 = 3 ∨ x.f0 = 6 ∨ x.f0 = 7) → (b = true ↔ (x.f0 = 4 ∨ x.f0 = 5)) → Ev (fun k => impl_CodeBytes.j2 k (acc ++ [x.f0 % 256]) l l.length i b x.f0 x.f1 x.f2) r := by
      intro b hno hb
      cases b
      · have hn2 : ¬ (x.f0 = 4 ∨ x.f0 = 5) := fun h => by simpa using hb.2 h
        have he : acc ++ encBc x = acc ++ [x.f0 % 256] := by unfold encBc; rw [if_neg g1, if_neg hno, if_neg hn2, List.append_nil]
        rw [he] at H
        exact Ev.step (fun k => by rw [impl_CodeBytes.j2, if_neg (by simp), hw]) H
      · have he : acc ++ encBc x = acc ++ [x.f0 % 256] ++ [signIdx x.f2.toList % 256] := by unfold encBc; rw [if_neg g1, if_neg hno, if_pos (hb.1 rfl), List.append_assoc]
        rw [he] at H
        refine Ev.step (fun k => by rw [impl_CodeBytes.j2, if_pos rfl, impl_signs, Option.bind_some]) ?_
        refine Ev.bind (index_ev x.f2) (ev_if_pos c2 ?_)
        rw [hw]
        exact H
    have tail : ∀ b : Bool, (b = true ↔ (x.f0 = 2 ∨ x.f0 = 3 ∨ x.f0 = 6 ∨ x.f0 = 7)) → Ev (fun k => impl_CodeBytes.j1 k (acc ++ [x.f0 % 256]) l l.length i x.f0 b x.f0 x.f1 x.f2) r := by
      intro b hb
      cases b
      · have hno : ¬ (x.f0 = 2 ∨ x.f0 = 3 ∨ x.f0 = 6 ∨ x.f0 = 7) := fun h => by simpa using hb.2 h
        by_cases g4 : x.f0 = 4
        · exact Ev.step (fun k => by rw [impl_CodeBytes.j1, if_neg (by simp), if_pos g4]) (tail2 (x.f0 == 4) hno (by simp [g4]))
        · exact Ev.step (fun k => by rw [impl_CodeBytes.j1, if_neg (by simp), if_neg g4]) (tail2 (x.f0 == 5) hno (by simp [g4]))
      · have hy := hb.1 rfl
        have he : acc ++ encBc x = acc ++ [x.f0 % 256] ++ [x.f1 % 256] := by unfold encBc; rw [if_neg g1, if_pos hy, List.append_assoc]
        rw [he] at H
        exact Ev.step (fun k => by rw [impl_CodeBytes.j1, if_pos rfl, if_pos c2, hw]) H
    have go : ∀ b : Bool, (∀ k, impl_CodeBytes.l0 (k + 1) acc l l.length i = impl_CodeBytes.j1 k (acc ++ [x.f0 % 256]) l l.length i x.f0 b x.f0 x.f1 x.f2) → (b = true ↔ (x.f0 = 2 ∨ x.f0 = 3 ∨ x.f0 = 6 ∨ x.f0 = 7)) → Ev (fun k => impl_CodeBytes.l0 k acc l l.length i) r :=
      fun b e hb => Ev.step e (tail b hb)
    by_cases g2 : x.f0 = 2
    · refine go (x.f0 == 2) (fun k => ?_) (by simp [g2])
      rw [impl_CodeBytes.l0, if_pos c, if_pos h0, if_pos c, if_pos c1, hx]
      simp only [Option.bind_some]
      rw [if_neg g1, if_pos g2]
    by_cases g3 : x.f0 = 3
    · refine go (x.f0 == 3) (fun k => ?_) (by simp [g3])
      rw [impl_CodeBytes.l0, if_pos c, if_pos h0, if_pos c, if_pos c1, hx]
      simp only [Option.bind_some]
      rw [if_neg g1, if_neg g2, if_pos g3]
    by_cases g6 : x.f0 = 6
    · refine go (x.f0 == 6) (fun k => ?_) (by simp [g6])
      rw [impl_CodeBytes.l0, if_pos c, if_pos h0, if_pos c, if_pos c1, hx]
      simp only [Option.bind_some]
      rw [if_neg g1, if_neg g2, if_neg g3, if_pos g6]
    · refine go (x.f0 == 7) (fun k => ?_) (by simp [g2, g3, g6])
      rw [impl_CodeBytes.l0, if_pos c, if_pos h0, if_pos c, if_pos c1, hx]
      simp only [Option.bind_some]
      rw [if_neg g1, if_neg g2, if_neg g3, if_neg g6]
theorem impl_bytes_l0 (l : List S63) (hl : (l.length : Int) ≤ 1048576) : ∀ (d : Nat) (i : Int) (acc : List Int), 0 ≤ i → i + d = l.length → acc.length ≤ 6 * i.toNat →
    Ev (fun k => impl_CodeBytes.l0 k acc l l.length i) (strOfNums (acc ++ (l.drop i.toNat).flatMap encBc), true)
  | 0, i, acc, h0, h1, ha => by
    have c : ¬ i < (l.length : Int) := by omega
    rw [List.drop_eq_nil_of_le (by omega), List.flatMap_nil, List.append_nil]
    exact Ev.step (f := fun _ => some (strOfNums acc, true)) (fun k => by rw [impl_CodeBytes.l0, if_neg c]) (Ev.now _)
  | d + 1, i, acc, h0, h1, ha => by
    have c : i < (l.length : Int) := by omega
    have hd : l.drop i.toNat = rd_T63 l i :: l.drop (i + 1).toNat := drop_getD l _ i h0 c
    have hle := encBc_le (rd_T63 l i)
    have ih := impl_bytes_l0 l hl d (i + 1) (acc ++ encBc (rd_T63 l i)) (by omega) (by omega) (by rw [List.length_append]; omega)
    rw [hd, List.flatMap_cons, ← List.append_assoc]
    exact impl_bytes_step l hl i h0 c acc (by omega) _ ih
def codeBytesOf (l : List S63) : ByteArray × Bool := if goodCode l = true then (codeBytes l, true) else (⟨#[]⟩, false)
theorem spec_CodeBytes_ev (l : List S63) (hl : (l.length : Int) ≤ 1048576) : Ev (fun k => spec_CodeBytes.f k l) (codeBytesOf l) := by
  unfold spec_CodeBytes.f codeBytesOf
  have hs := spec_GoodCode_ev l hl
  by_cases c : goodCode l = true
  · rw [if_pos c]
    rw [c] at hs
    exact Ev.bind hs (ev_if_pos rfl (Ev.bind (spec_bytes_ev l hl) (Ev.now _)))
  · rw [if_neg c]
    rw [Bool.eq_false_iff.2 c] at hs
    exact Ev.bind hs (ev_if_neg (by simp) (Ev.now _))
theorem impl_CodeBytes_ev (l : List S63) (hl : (l.length : Int) ≤ 1048576) : Ev (fun k => impl_CodeBytes.f k l) (codeBytesOf l) := by
  unfold impl_CodeBytes.f codeBytesOf
  have hs : Ev (fun _ => impl_GoodCode.f l) (goodCode l) := Ev.now _
  by_cases c : goodCode l = true
  · rw [if_pos c]
    rw [c] at hs
    refine Ev.bind hs (ev_if_pos rfl ?_)
    exact impl_bytes_l0 l hl l.length 0 [] (by omega) (by omega) (by simp)
  · rw [if_neg c]
    rw [Bool.eq_false_iff.2 c] at hs
    exact Ev.bind hs (ev_if_neg (by simp) (Ev.now _))
theorem FnExactCodeBytes : laws_FnExactCodeBytes.Pure0 := by
  intro l0 h0
  apply Ev.rounds
  unfold laws_FnExactCodeBytes.f
  obtain ⟨v, ev, hv, hb⟩ := szBcS_ev l0 1048576 (by omega) (by omega) h0
  refine Ev.bind ev ?_
  by_cases c2 : v < 0
  · exact ev_if_pos c2 (Ev.now _)
  have hl := hb (by omega)
  have ht := toBcS_ev l0 hl.1 hl.2
  have hl' : ((l0.map cv_Bc).length : Int) ≤ 1048576 := by rw [List.length_map]; exact hl.1
  have hx : ∀ y_ ∈ l0.map cv_Bc, Bdx_Bc 1048576 y_ := by
    intro y_ hy
    obtain ⟨z, hz, rfl⟩ := List.mem_map.1 hy
    exact bcv_Bc (hl.2 z hz)
  have hq := eqBcS_ev _ hl' hx
  refine ev_if_neg c2 (Ev.bind ht (Ev.bind (spec_CodeBytes_ev _ hl') (Ev.bind ht (Ev.bind (impl_CodeBytes_ev _ hl') (ev_if_pos rfl ?_)))))
  rw [bne_self_eq_false]
  refine Ev.step (fun k => by rw [laws_FnExactCodeBytes.j0, if_neg (by simp)]) ?_
  exact Ev.bind ht (Ev.bind hq (ev_if_pos rfl (Ev.now _)))
end Go.Proofs.Ytcbgiccgiegdbab.Pure
