/- FnExactFollowPath: at every heap, root and path FollowPath of the program answers as FollowPath of the reference, and leaves its arguments as they were; no condition. -/
import Derived.Test.YtcbgiccgiegdbaaDFnExactFollowPath
namespace Go.Proofs.Ytcbgiccgiegdbaa.Pure
open Go.RowKit Go.Proofs.Ytcbgiccgiegdbaa.PFnExactFollowPath Go.Proofs.YtcbgiccgiegdbaaW.PrintWords Go.Proofs.YtcbgiccgiegdbaaW.PrintLast Go.Proofs.YtcbgiccgiegdbaaO
set_option linter.unusedVariables false
set_option linter.unusedSimpArgs false
theorem wrap_id {n : Int} (h0 : -9223372036854775808 ≤ n) (h1 : n ≤ 9223372036854775807) : wrap64 n = n := by
  unfold wrap64
  omega
theorem take_set_succ {α : Type} (l : List α) (i : Nat) (y : α) (h : i < l.length) : (l.set i y).take (i + 1) = l.take i ++ [y] := by
  rw [List.take_succ_eq_append_getElem (by simpa using h), List.take_set_of_le (Nat.le_refl i)]
  simp
theorem nat_set {α : Type} (l : List α) (i : Int) (y : α) (h0 : 0 ≤ i) (h : i < (l.length : Int)) : (l.set i.toNat y).take (i + 1).toNat = l.take i.toNat ++ [y] := by
  rw [show (i + 1).toNat = i.toNat + 1 by omega]
  exact take_set_succ l i.toNat y (by omega)
theorem drop_getD {α : Type} (l : List α) (d : α) (i : Int) (h0 : 0 ≤ i) (h : i < (l.length : Int)) : l.drop i.toNat = l.getD i.toNat d :: l.drop (i + 1).toNat := by
  rw [show (i + 1).toNat = i.toNat + 1 by omega]
  have h1 : i.toNat < l.length := by omega
  rw [List.drop_eq_getElem_cons h1, List.getD_eq_getElem?_getD, List.getElem?_eq_getElem h1]
  rfl
theorem getD_mem {α : Type} (l : List α) (d : α) (i : Int) (h0 : 0 ≤ i) (h : i < (l.length : Int)) : l.getD i.toNat d ∈ l := by
  have h1 : i.toNat < l.length := by omega
  rw [List.getD_eq_getElem?_getD, List.getElem?_eq_getElem h1]
  exact List.getElem_mem h1
theorem ev_if_pos {α : Type} {c : Prop} [Decidable c] {f g : Nat → Option α} {r : α} (h : c) (e : Ev f r) : Ev (fun k => if c then f k else g k) r := by
  simp only [if_pos h]
  exact e
theorem ev_if_neg {α : Type} {c : Prop} [Decidable c] {f g : Nat → Option α} {r : α} (h : ¬ c) (e : Ev g r) : Ev (fun k => if c then f k else g k) r := by
  simp only [if_neg h]
  exact e
theorem Ev.eq {α : Type} {g : Nat → Option α} {r s : α} (h : Ev g r) (e : r = s) : Ev g s := e ▸ h

def Bdl_Object (n : Int) (x : S90) : Prop := ((x.f1.length : Int) ≤ n)

theorem Bdl_Object_mono {n m : Int} (h : n ≤ m) {x : S90} (b : Bdl_Object n x) : Bdl_Object m x := by
  unfold Bdl_Object at *
  exact (Int.le_trans b h)

def Bdl_Heap (n : Int) (x : S38) : Prop := ((x.f0.length : Int) ≤ n ∧ ∀ y_ ∈ x.f0, Bdl_Object n y_) ∧ ((x.f1.length : Int) ≤ n)

theorem Bdl_Heap_mono {n m : Int} (h : n ≤ m) {x : S38} (b : Bdl_Heap n x) : Bdl_Heap m x := by
  unfold Bdl_Heap at *
  exact ⟨⟨Int.le_trans b.1.1 h, fun y_ hy_ => (Bdl_Object_mono h (b.1.2 y_ hy_))⟩, (Int.le_trans b.2 h)⟩

theorem szIntS_ev (l : (List Int)) (left : Int) (h0 : 0 ≤ left) (h1 : left ≤ 1048576) (hl : l.length ≤ 9223372036854775807) :
    ∃ v, Ev (fun k => laws_szIntS.f l left) v ∧ v ≤ left ∧ (0 ≤ v → (l.length : Int) ≤ left) := by
  unfold laws_szIntS.f
  have hw : wrap64 (left - (l.length : Int)) = left - (l.length : Int) := wrap_id (by omega) (by omega)
  simp only [hw]
  by_cases c : left - (l.length : Int) < 0
  · exact ⟨-1, ev_if_pos c (Ev.now _), by omega, fun h => absurd h (by omega)⟩
  · exact ⟨left - (l.length : Int), ev_if_neg c (Ev.now _), by omega, fun h => by omega⟩

theorem szObject_ev (x : S90) (left : Int) (h0 : 0 ≤ left) (h1 : left ≤ 1048576) (hl : Ok90 x) :
    ∃ v, Ev (fun k => laws_szObject.f x.f0 x.f1 left) v ∧ v ≤ left ∧ (0 ≤ v → Bdl_Object left x) := by
  unfold laws_szObject.f
  obtain ⟨v0, e0, hv0, hb0⟩ := szIntS_ev x.f1 left (by omega) (by omega) hl.2.1
  by_cases c0 : v0 < 0
  · exact ⟨-1, Ev.bind e0 (ev_if_pos c0 (Ev.now _)), by omega, fun h => absurd h (by omega)⟩
  · exact ⟨v0, Ev.bind e0 (ev_if_neg c0 (Ev.now _)), by omega, fun _ => (Int.le_trans (hb0 (by omega)) (by omega : _ ≤ left))⟩

theorem szObjectS_l0 (l : (List (S90))) (hl : l.length ≤ 1048576) (hok : ∀ y_ ∈ l, Ok90 y_) (n : Int) (hn : n ≤ 1048576) : ∀ (d : Nat) (i left : Int), 0 ≤ i → i + d = l.length → 0 ≤ left → left ≤ n → (∀ y_ ∈ l.take i.toNat, Bdl_Object n y_) →
    ∃ v, Ev (fun k => laws_szObjectS.l0 k l left i) v ∧ v ≤ left ∧ (0 ≤ v → ∀ y_ ∈ l, Bdl_Object n y_)
  | 0, i, left, h0, h1, h2, h3, hb => by
    have c : ¬ i < (l.length : Int) := by omega
    refine ⟨left, Ev.step (f := fun _ => some left) (fun k => by rw [laws_szObjectS.l0, if_neg c]) (Ev.now _), Int.le_refl _, fun _ y hy => hb y ?_⟩
    rw [List.take_of_length_le (by omega)]
    exact hy
  | d + 1, i, left, h0, h1, h2, h3, hb => by
    have c : i < (l.length : Int) := by omega
    have hm : rd_T90 l i ∈ l := getD_mem l _ i h0 c
    obtain ⟨v, e, hv, hbv⟩ := szObject_ev (rd_T90 l i) left h2 (by omega) (hok _ hm)
    by_cases c2 : v < 0
    · exact ⟨-1, Ev.step (fun k => by rw [laws_szObjectS.l0, if_pos c, if_pos h0]) (Ev.bind e (ev_if_pos c2 (Ev.now _))), by omega, fun h => absurd h (by omega)⟩
    · have hw : wrap64 (i + 1) = i + 1 := wrap_id (by omega) (by omega)
      have hb' : ∀ y_ ∈ l.take (i + 1).toNat, Bdl_Object n y_ := by
        intro y hy
        rw [show (i + 1).toNat = i.toNat + 1 by omega, List.take_succ_eq_append_getElem (by omega)] at hy
        rcases List.mem_append.1 hy with hy | hy
        · exact hb y hy
        · have e2 : y = rd_T90 l i := by
            rw [List.mem_singleton.1 hy]
            unfold rd_T90
            rw [List.getD_eq_getElem?_getD, List.getElem?_eq_getElem (by omega)]
            rfl
          rw [e2]
          exact (Bdl_Object_mono h3 (hbv (by omega)))
      obtain ⟨u, eu, hu, hbu⟩ := szObjectS_l0 l hl hok n hn d (i + 1) v (by omega) (by omega) (by omega) (by omega) hb'
      refine ⟨u, Ev.step (fun k => by rw [laws_szObjectS.l0, if_pos c, if_pos h0]) (Ev.bind e (ev_if_neg c2 ?_)), by omega, hbu⟩
      rw [hw]
      exact eu
theorem szObjectS_ev (l : (List (S90))) (left : Int) (h0 : 0 ≤ left) (h1 : left ≤ 1048576) (hl : l.length ≤ 9223372036854775807 ∧ ∀ y_ ∈ l, Ok90 y_) :
    ∃ v, Ev (fun k => laws_szObjectS.f k l left) v ∧ v ≤ left ∧ (0 ≤ v → (l.length : Int) ≤ left ∧ ∀ y_ ∈ l, Bdl_Object left y_) := by
  unfold laws_szObjectS.f
  have hw : wrap64 (left - (l.length : Int)) = left - (l.length : Int) := wrap_id (by have := hl.1; omega) (by omega)
  simp only [hw]
  by_cases c : left - (l.length : Int) < 0
  · exact ⟨-1, ev_if_pos c (Ev.now _), by omega, fun h => absurd h (by omega)⟩
  · obtain ⟨v, e, hv, hb⟩ := szObjectS_l0 l (by omega) hl.2 left h1 l.length 0 (left - (l.length : Int)) (by omega) (by omega) (by omega) (by omega) (fun y hy => by simp at hy)
    exact ⟨v, ev_if_neg c e, by omega, fun h => ⟨by omega, hb h⟩⟩

theorem szHeap_ev (x : S38) (left : Int) (h0 : 0 ≤ left) (h1 : left ≤ 1048576) (hl : Ok38 x) :
    ∃ v, Ev (fun k => laws_szHeap.f k x.f0 x.f1 left) v ∧ v ≤ left ∧ (0 ≤ v → Bdl_Heap left x) := by
  unfold laws_szHeap.f
  obtain ⟨v0, e0, hv0, hb0⟩ := szObjectS_ev x.f0 left (by omega) (by omega) hl.1
  by_cases c0 : v0 < 0
  · exact ⟨-1, Ev.bind e0 (ev_if_pos c0 (Ev.now _)), by omega, fun h => absurd h (by omega)⟩
  · obtain ⟨v1, e1, hv1, hb1⟩ := szIntS_ev x.f1 v0 (by omega) (by omega) hl.2.1
    by_cases c1 : v1 < 0
    · exact ⟨-1, Ev.bind e0 (ev_if_neg c0 (Ev.bind e1 (ev_if_pos c1 (Ev.now _)))), by omega, fun h => absurd h (by omega)⟩
    · exact ⟨v1, Ev.bind e0 (ev_if_neg c0 (Ev.bind e1 (ev_if_neg c1 (Ev.now _)))), by omega, fun _ => ⟨⟨Int.le_trans (hb0 (by omega)).1 (by omega : _ ≤ left), fun y_ hy_ => (Bdl_Object_mono (by omega : _ ≤ left) ((hb0 (by omega)).2 y_ hy_))⟩, (Int.le_trans (hb1 (by omega)) (by omega : _ ≤ left))⟩⟩

def cv_Object (x : S90) : S69 := ⟨x.f0, x.f1⟩

def cv_Heap (x : S38) : S43 := ⟨(fun l_ => l_.map cv_Object) x.f0, x.f1⟩

theorem toIntS_l0 (l : (List Int)) (hl : (l.length : Int) ≤ 1048576) : ∀ (d : Nat) (i : Int) (acc : (List Int)), 0 ≤ i → i + d = l.length → acc.length = l.length →
    Ev (fun k => laws_toIntS.l0 k l acc i) (acc.take i.toNat ++ (l.drop i.toNat))
  | 0, i, acc, h0, h1, h2 => by
    have c : ¬ i < (l.length : Int) := by omega
    refine Ev.eq (Ev.step (f := fun _ => some acc) (fun k => by rw [laws_toIntS.l0, if_neg c]) (Ev.now _)) ?_
    rw [List.take_of_length_le (by omega), List.drop_eq_nil_of_le (by omega)]
    simp
  | d + 1, i, acc, h0, h1, h2 => by
    have c : i < (l.length : Int) := by omega
    have c' : i < (acc.length : Int) := by omega
    have hm : rd l i ∈ l := getD_mem l _ i h0 c
    have hw : wrap64 (i + 1) = i + 1 := wrap_id (by omega) (by omega)
    have ih := toIntS_l0 l hl  d (i + 1) (acc.set i.toNat (rd l i)) (by omega) (by omega) (by rw [List.length_set]; exact h2)
    rw [nat_set acc i _ h0 c', List.append_assoc] at ih
    have hd := drop_getD l 0 i h0 c
    refine Ev.eq ?_ (show acc.take i.toNat ++ ([rd l i] ++ (l.drop (i + 1).toNat)) = _ by rw [hd]; rfl)
    refine Ev.step (fun k => by rw [laws_toIntS.l0, if_pos c, if_pos h0, if_pos c', hw]) ih
theorem toIntS_ev (l : (List Int)) (hl : (l.length : Int) ≤ 1048576) : Ev (fun k => laws_toIntS.f k l) (l) := by
  unfold laws_toIntS.f
  refine ev_if_pos (by omega) (ev_if_pos (by omega) ?_)
  refine Ev.eq (toIntS_l0 l hl  l.length 0 _ (by omega) (by omega) (by rw [List.length_replicate]; omega)) ?_
  simp

theorem toObject_ev (x : S90) (hb : Bdl_Object 1048576 x) : Ev (fun k => laws_toObject.f k x.f0 x.f1) ((cv_Object (x)).f0, (cv_Object (x)).f1) := by
  unfold laws_toObject.f
  unfold Bdl_Object at hb
  refine Ev.bind (toIntS_ev x.f1 hb) ?_
  exact Ev.now _

theorem toObjectS_l0 (l : (List (S90))) (hl : (l.length : Int) ≤ 1048576) (hb : ∀ y_ ∈ l, Bdl_Object 1048576 y_) : ∀ (d : Nat) (i : Int) (acc : (List (S69))), 0 ≤ i → i + d = l.length → acc.length = l.length →
    Ev (fun k => laws_toObjectS.l0 k l acc i) (acc.take i.toNat ++ (l.drop i.toNat).map cv_Object)
  | 0, i, acc, h0, h1, h2 => by
    have c : ¬ i < (l.length : Int) := by omega
    refine Ev.eq (Ev.step (f := fun _ => some acc) (fun k => by rw [laws_toObjectS.l0, if_neg c]) (Ev.now _)) ?_
    rw [List.take_of_length_le (by omega), List.drop_eq_nil_of_le (by omega)]
    simp
  | d + 1, i, acc, h0, h1, h2 => by
    have c : i < (l.length : Int) := by omega
    have c' : i < (acc.length : Int) := by omega
    have hm : rd_T90 l i ∈ l := getD_mem l _ i h0 c
    have hw : wrap64 (i + 1) = i + 1 := wrap_id (by omega) (by omega)
    have ih := toObjectS_l0 l hl hb d (i + 1) (acc.set i.toNat (cv_Object (rd_T90 l i))) (by omega) (by omega) (by rw [List.length_set]; exact h2)
    rw [nat_set acc i _ h0 c', List.append_assoc] at ih
    have hd := drop_getD l z90 i h0 c
    refine Ev.eq ?_ (show acc.take i.toNat ++ ([cv_Object (rd_T90 l i)] ++ (l.drop (i + 1).toNat).map cv_Object) = _ by rw [hd]; rfl)
    refine Ev.step (fun k => by rw [laws_toObjectS.l0, if_pos c, if_pos h0]) (Ev.bind (toObject_ev (rd_T90 l i) (hb _ hm)) ?_)
    refine ev_if_pos c' ?_
    rw [hw]
    exact ih
theorem toObjectS_ev (l : (List (S90))) (hl : (l.length : Int) ≤ 1048576) (hb : ∀ y_ ∈ l, Bdl_Object 1048576 y_) : Ev (fun k => laws_toObjectS.f k l) (l.map cv_Object) := by
  unfold laws_toObjectS.f
  refine ev_if_pos (by omega) (ev_if_pos (by omega) ?_)
  refine Ev.eq (toObjectS_l0 l hl hb l.length 0 _ (by omega) (by omega) (by rw [List.length_replicate]; omega)) ?_
  simp

theorem toHeap_ev (x : S38) (hb : Bdl_Heap 1048576 x) : Ev (fun k => laws_toHeap.f k x.f0 x.f1) ((cv_Heap (x)).f0, (cv_Heap (x)).f1) := by
  unfold laws_toHeap.f
  unfold Bdl_Heap at hb
  refine Ev.bind (toObjectS_ev x.f0 hb.1.1 hb.1.2) ?_
  refine Ev.bind (toIntS_ev x.f1 hb.2) ?_
  exact Ev.now _

def Bdx_Object (n : Int) (x : S69) : Prop := ((x.f1.length : Int) ≤ n)

theorem Bdx_Object_mono {n m : Int} (h : n ≤ m) {x : S69} (b : Bdx_Object n x) : Bdx_Object m x := by
  unfold Bdx_Object at *
  exact (Int.le_trans b h)

def Bdx_Heap (n : Int) (x : S43) : Prop := ((x.f0.length : Int) ≤ n ∧ ∀ y_ ∈ x.f0, Bdx_Object n y_) ∧ ((x.f1.length : Int) ≤ n)

theorem Bdx_Heap_mono {n m : Int} (h : n ≤ m) {x : S43} (b : Bdx_Heap n x) : Bdx_Heap m x := by
  unfold Bdx_Heap at *
  exact ⟨⟨Int.le_trans b.1.1 h, fun y_ hy_ => (Bdx_Object_mono h (b.1.2 y_ hy_))⟩, (Int.le_trans b.2 h)⟩

theorem eqIntS_l0 (l : (List Int)) (hl : (l.length : Int) ≤ 1048576) : ∀ (d : Nat) (i : Int), 0 ≤ i → i + d = l.length → Ev (fun k => laws_eqIntS.l0 k l l i) true
  | 0, i, h0, h1 => by
    have c : ¬ i < (l.length : Int) := by omega
    exact Ev.step (f := fun _ => some true) (fun k => by rw [laws_eqIntS.l0, if_neg c]) (Ev.now _)
  | d + 1, i, h0, h1 => by
    have c : i < (l.length : Int) := by omega
    have hm : rd l i ∈ l := getD_mem l _ i h0 c
    have hw : wrap64 (i + 1) = i + 1 := wrap_id (by omega) (by omega)
    have ih := eqIntS_l0 l hl  d (i + 1) (by omega) (by omega)
    refine Ev.step (fun k => by rw [laws_eqIntS.l0, if_pos c, if_pos h0, if_pos c, if_pos rfl, hw]) ih
theorem eqIntS_ev (l : (List Int)) (hl : (l.length : Int) ≤ 1048576) : Ev (fun k => laws_eqIntS.f k l l) true := by
  unfold laws_eqIntS.f
  exact ev_if_pos rfl (eqIntS_l0 l hl  l.length 0 (by omega) (by omega))

theorem eqObject_ev (x : S69) (hb : Bdx_Object 1048576 x) : Ev (fun k => laws_eqObject.f k x.f0 x.f1 x.f0 x.f1) true := by
  unfold laws_eqObject.f
  unfold Bdx_Object at hb
  refine ev_if_pos (by first | rfl | simp) ?_
  refine Ev.bind (eqIntS_ev x.f1 hb) (ev_if_pos rfl ?_)
  exact Ev.now _

theorem eqObjectS_l0 (l : (List (S69))) (hl : (l.length : Int) ≤ 1048576) (hb : ∀ y_ ∈ l, Bdx_Object 1048576 y_) : ∀ (d : Nat) (i : Int), 0 ≤ i → i + d = l.length → Ev (fun k => laws_eqObjectS.l0 k l l i) true
  | 0, i, h0, h1 => by
    have c : ¬ i < (l.length : Int) := by omega
    exact Ev.step (f := fun _ => some true) (fun k => by rw [laws_eqObjectS.l0, if_neg c]) (Ev.now _)
  | d + 1, i, h0, h1 => by
    have c : i < (l.length : Int) := by omega
    have hm : rd_T69 l i ∈ l := getD_mem l _ i h0 c
    have hw : wrap64 (i + 1) = i + 1 := wrap_id (by omega) (by omega)
    have ih := eqObjectS_l0 l hl hb d (i + 1) (by omega) (by omega)
    refine Ev.step (fun k => by rw [laws_eqObjectS.l0, if_pos c, if_pos h0, if_pos c]) (Ev.bind (eqObject_ev (rd_T69 l i) (hb _ hm)) (ev_if_pos rfl ?_))
    rw [hw]
    exact ih
theorem eqObjectS_ev (l : (List (S69))) (hl : (l.length : Int) ≤ 1048576) (hb : ∀ y_ ∈ l, Bdx_Object 1048576 y_) : Ev (fun k => laws_eqObjectS.f k l l) true := by
  unfold laws_eqObjectS.f
  exact ev_if_pos rfl (eqObjectS_l0 l hl hb l.length 0 (by omega) (by omega))

theorem eqHeap_ev (x : S43) (hb : Bdx_Heap 1048576 x) : Ev (fun k => laws_eqHeap.f k x.f0 x.f1 x.f0 x.f1) true := by
  unfold laws_eqHeap.f
  unfold Bdx_Heap at hb
  refine Ev.bind (eqObjectS_ev x.f0 hb.1.1 hb.1.2) (ev_if_pos rfl ?_)
  refine Ev.bind (eqIntS_ev x.f1 hb.2) (ev_if_pos rfl ?_)
  exact Ev.now _

theorem bcv_Object {n : Int} {x : S90} (hb : Bdl_Object n x) : Bdx_Object n (cv_Object x) := by
  unfold Bdl_Object at hb
  unfold Bdx_Object cv_Object
  exact hb

theorem bcv_Heap {n : Int} {x : S38} (hb : Bdl_Heap n x) : Bdx_Heap n (cv_Heap x) := by
  unfold Bdl_Heap at hb
  unfold Bdx_Heap cv_Heap
  exact ⟨⟨by rw [show (List.map cv_Object _).length = _ from List.length_map _]; exact hb.1.1, fun y_ hy_ => by obtain ⟨z_, hz_, rfl⟩ := List.mem_map.1 hy_; exact (bcv_Object (hb.1.2 z_ hz_))⟩, hb.2⟩

theorem l15Object_f (k m : Int) (h0 : 0 ≤ m) (h1 : m ≤ 1048576) : spec_l15Object.f k m = some (!linkBad m k) := by
  unfold spec_l15Object.f linkBad inB
  rw [wrap_id (show -9223372036854775808 ≤ m - 1 by omega) (by omega)]
  by_cases h : k ≥ -1
  · rw [if_pos h]
    have e : decide (-1 ≤ k) = true := decide_eq_true h
    rw [e]
    simp
    omega
  · rw [if_neg h]
    have e : decide (-1 ≤ k) = false := decide_eq_false (by omega)
    rw [e]
    simp
theorem l1In_f (a b c : Int) : spec_l1In.f a b c = some (inB a b c) := by
  unfold spec_l1In.f inB
  by_cases h : a ≥ b <;> simp [h] <;> omega
theorem spec_GoodHeap_l2 (l : List S69) (r : List Int) (hl : (l.length : Int) ≤ 1048576) (hr : (r.length : Int) ≤ 1048576) : ∀ (d : Nat) (i : Int), 0 ≤ i → i + d = r.length →
    Ev (fun k => spec_GoodHeap.l2 k r r.length i l r) (!(r.drop i.toNat).any (linkBad l.length) && (decide (l.length ≤ 40) && decide (r.length ≤ 10)))
  | 0, i, h0, h1 => by
    have c : ¬ i < (r.length : Int) := by omega
    by_cases c2 : (l.length : Int) ≤ 40
    · refine Ev.eq (Ev.step (f := fun _ => some (decide ((r.length : Int) ≤ 10))) (fun k => by rw [spec_GoodHeap.l2, if_neg c, if_pos c2]) (Ev.now _)) ?_
      rw [List.drop_eq_nil_of_le (by omega)]
      have : decide (l.length ≤ 40) = true := decide_eq_true (by omega)
      rw [this]
      simp
      omega
    · refine Ev.eq (Ev.step (f := fun _ => some false) (fun k => by rw [spec_GoodHeap.l2, if_neg c, if_neg c2]) (Ev.now _)) ?_
      have : decide (l.length ≤ 40) = false := decide_eq_false (by omega)
      rw [this]
      simp
  | d + 1, i, h0, h1 => by
    have c : i < (r.length : Int) := by omega
    have hw : wrap64 (i + 1) = i + 1 := wrap_id (by omega) (by omega)
    have hd : r.drop i.toNat = rd r i :: r.drop (i + 1).toNat := drop_getD r 0 i h0 c
    have ih := spec_GoodHeap_l2 l r hl hr d (i + 1) (by omega) (by omega)
    rw [hd, List.any_cons]
    cases hb : linkBad l.length (rd r i)
    · rw [Bool.false_or]
      exact Ev.step (fun k => by rw [spec_GoodHeap.l2, if_pos c, if_pos h0, if_pos c, l15Object_f _ _ (by omega) (by omega), hb, hw] <;> rfl) ih
    · exact Ev.step (f := fun _ => some false) (fun k => by rw [spec_GoodHeap.l2, if_pos c, if_pos h0, if_pos c, l15Object_f _ _ (by omega) (by omega), hb] <;> rfl) (Ev.now _)
theorem spec_GoodHeap_l1 (l : List S69) (r : List Int) (hl : (l.length : Int) ≤ 1048576) (b : Bool) (i : Int) (h0 : 0 ≤ i) (hi : i < l.length) (H : Ev (fun k => spec_GoodHeap.l0 k l l.length (i + 1) l r) b) (q : List Int) (hq : (q.length : Int) ≤ 1048576) : ∀ (d : Nat) (j : Int), 0 ≤ j → j + d = q.length →
    Ev (fun k => spec_GoodHeap.l1 k l l.length i q q.length j l r) (!(q.drop j.toNat).any (linkBad l.length) && b)
  | 0, j, g0, g1 => by
    have c : ¬ j < (q.length : Int) := by omega
    have hw : wrap64 (i + 1) = i + 1 := wrap_id (by omega) (by omega)
    rw [List.drop_eq_nil_of_le (by omega)]
    exact Ev.step (fun k => by rw [spec_GoodHeap.l1, if_neg c, hw]) H
  | d + 1, j, g0, g1 => by
    have c : j < (q.length : Int) := by omega
    have hw : wrap64 (j + 1) = j + 1 := wrap_id (by omega) (by omega)
    have hd : q.drop j.toNat = rd q j :: q.drop (j + 1).toNat := drop_getD q 0 j g0 c
    have ih := spec_GoodHeap_l1 l r hl b i h0 hi H q hq d (j + 1) (by omega) (by omega)
    rw [hd, List.any_cons]
    cases hb : linkBad l.length (rd q j)
    · rw [Bool.false_or]
      exact Ev.step (fun k => by rw [spec_GoodHeap.l1, if_pos c, if_pos g0, if_pos c, l15Object_f _ _ (by omega) (by omega), hb, hw] <;> rfl) ih
    · exact Ev.step (f := fun _ => some false) (fun k => by rw [spec_GoodHeap.l1, if_pos c, if_pos g0, if_pos c, l15Object_f _ _ (by omega) (by omega), hb] <;> rfl) (Ev.now _)
theorem spec_GoodHeap_l0 (l : List S69) (r : List Int) (hl : (l.length : Int) ≤ 1048576) (hb : ∀ y_ ∈ l, Bdx_Object 1048576 y_) (hr : (r.length : Int) ≤ 1048576) : ∀ (d : Nat) (i : Int), 0 ≤ i → i + d = l.length →
    Ev (fun k => spec_GoodHeap.l0 k l l.length i l r) (!(l.drop i.toNat).any (objBad l.length) && (!r.any (linkBad l.length) && (decide (l.length ≤ 40) && decide (r.length ≤ 10))))
  | 0, i, h0, h1 => by
    have c : ¬ i < (l.length : Int) := by omega
    rw [List.drop_eq_nil_of_le (by omega)]
    exact Ev.step (fun k => by rw [spec_GoodHeap.l0, if_neg c]) (spec_GoodHeap_l2 l r hl hr r.length 0 (by omega) (by omega))
  | d + 1, i, h0, h1 => by
    have c : i < (l.length : Int) := by omega
    have hd : l.drop i.toNat = rd_T69 l i :: l.drop (i + 1).toNat := drop_getD l _ i h0 c
    have hm : rd_T69 l i ∈ l := getD_mem l _ i h0 c
    have ih := spec_GoodHeap_l0 l r hl hb hr d (i + 1) (by omega) (by omega)
    have hbm := hb _ hm
    unfold Bdx_Object at hbm
    rw [hd, List.any_cons]
    cases h1 : inB (rd_T69 l i).f0 0 1000
    · refine Ev.eq (r := false) (Ev.step (f := fun k => spec_GoodHeap.j1 k l l.length i true l r (rd_T69 l i).f0 (rd_T69 l i).f1) (fun k => by rw [spec_GoodHeap.l0, if_pos c, if_pos h0, if_pos c, l1In_f, h1] <;> rfl) (Ev.step (f := fun _ => some false) (fun k => by simp [spec_GoodHeap.j1]) (Ev.now _))) ?_
      simp [objBad, h1]
    · by_cases c4 : (rd_T69 l i).f1.length ≤ 4
      · have e4 : decide (((rd_T69 l i).f1.length : Int) > 4) = false := decide_eq_false (by omega)
        refine Ev.eq (Ev.step (f := fun k => spec_GoodHeap.j1 k l l.length i false l r (rd_T69 l i).f0 (rd_T69 l i).f1) (fun k => by rw [spec_GoodHeap.l0, if_pos c, if_pos h0, if_pos c, l1In_f, h1, e4] <;> rfl) (Ev.step (fun k => by rw [spec_GoodHeap.j1, if_neg (by simp)]) (spec_GoodHeap_l1 l r hl _ i h0 c ih (rd_T69 l i).f1 hbm (rd_T69 l i).f1.length 0 (by omega) (by omega)))) ?_
        have e4' : decide ((rd_T69 l i).f1.length ≤ 4) = true := decide_eq_true c4
        have eo : objBad l.length (rd_T69 l i) = (rd_T69 l i).f1.any (linkBad l.length) := by
          unfold objBad linksB
          rw [h1, e4']
          simp
        rw [eo, Bool.not_or, Bool.and_assoc]
        rfl
      · have e4 : decide (((rd_T69 l i).f1.length : Int) > 4) = true := decide_eq_true (by omega)
        have e4' : decide ((rd_T69 l i).f1.length ≤ 4) = false := decide_eq_false c4
        refine Ev.eq (r := false) (Ev.step (f := fun k => spec_GoodHeap.j1 k l l.length i true l r (rd_T69 l i).f0 (rd_T69 l i).f1) (fun k => by rw [spec_GoodHeap.l0, if_pos c, if_pos h0, if_pos c, l1In_f, h1, e4] <;> rfl) (Ev.step (f := fun _ => some false) (fun k => by simp [spec_GoodHeap.j1]) (Ev.now _))) ?_
        simp [objBad, linksB, e4', h1]
def goodHeap (l : List S69) (r : List Int) : Bool := decide (l.length ≤ 40) && linksB r l.length 10 && !l.any (objBad l.length)
/-- The reference's GoodHeap is the program's. -/
theorem spec_GoodHeap_ev (l : List S69) (r : List Int) (hl : (l.length : Int) ≤ 1048576) (hb : ∀ y_ ∈ l, Bdx_Object 1048576 y_) (hr : (r.length : Int) ≤ 1048576) : Ev (fun k => spec_GoodHeap.f k l r) (goodHeap l r) := by
  refine Ev.eq (spec_GoodHeap_l0 l r hl hb hr l.length 0 (by omega) (by omega)) ?_
  unfold goodHeap linksB
  rw [show l.drop (0 : Int).toNat = l from rfl]
  cases l.any (objBad l.length) <;> cases r.any (linkBad l.length) <;> cases decide (l.length ≤ 40) <;> cases decide (r.length ≤ 10) <;> rfl
theorem impl_GoodHeap_f (l : List S69) (r : List Int) : impl_GoodHeap.f l r = some (goodHeap l r) := rfl
theorem goodHeap_links {l : List S69} {r : List Int} (h : goodHeap l r = true) (hl : (l.length : Int) ≤ 1048576) :
    (∀ x ∈ l, ∀ k ∈ x.f1, -1 ≤ k ∧ k < (l.length : Int)) ∧ (∀ k ∈ r, -1 ≤ k ∧ k < (l.length : Int)) := by
  have bad : ∀ k : Int, linkBad l.length k = false → -1 ≤ k ∧ k < (l.length : Int) := by
    intro k hk
    unfold linkBad inB at hk
    rw [wrap_id (show -9223372036854775808 ≤ (l.length : Int) - 1 by omega) (by omega)] at hk
    simp at hk
    omega
  unfold goodHeap at h
  simp only [Bool.and_eq_true] at h
  obtain ⟨⟨_, h1⟩, h2⟩ := h
  refine ⟨fun x hx k hk => ?_, fun k hk => ?_⟩
  · have h3 : objBad l.length x = false := by
      cases e : objBad l.length x
      · rfl
      · rw [List.any_eq_true.2 ⟨x, hx, e⟩] at h2
        simp at h2
    unfold objBad linksB at h3
    cases e : linkBad l.length k
    · exact bad k e
    · rw [List.any_eq_true.2 ⟨k, hk, e⟩] at h3
      simp at h3
  · unfold linksB at h1
    cases e : linkBad l.length k
    · exact bad k e
    · rw [List.any_eq_true.2 ⟨k, hk, e⟩] at h1
      simp at h1
theorem path_l0 (l : List S69) (r p : List Int) (hl : (l.length : Int) ≤ 1048576) (hb : ∀ y_ ∈ l, Bdx_Object 1048576 y_) (hp : (p.length : Int) ≤ 1048576) (hg : ∀ x ∈ l, ∀ k ∈ x.f1, -1 ≤ k ∧ k < (l.length : Int)) : ∀ (d : Nat) (i at_ : Int), 0 ≤ i → i + d = p.length → -1 ≤ at_ → at_ < l.length →
    ∃ q, Ev (fun k => impl_FollowPath.l0 k at_ p p.length i l r) q ∧ Ev (fun k => spec_FollowPath.l0 k at_ p p.length i l r) q
  | 0, i, at_, h0, h1, a0, a1 => by
    have c : ¬ i < (p.length : Int) := by omega
    by_cases c1 : at_ < 0
    · exact ⟨(0, false), Ev.step (f := fun _ => some (0, false)) (fun k => by rw [impl_FollowPath.l0, if_neg c, if_pos c1]) (Ev.now _), Ev.step (f := fun _ => some (0, false)) (fun k => by rw [spec_FollowPath.l0, if_neg c, if_pos c1]) (Ev.now _)⟩
    · have c2 : 0 ≤ at_ := by omega
      exact ⟨((rd_T69 l at_).f0, true), Ev.step (f := fun _ => some ((rd_T69 l at_).f0, true)) (fun k => by rw [impl_FollowPath.l0, if_neg c, if_neg c1, if_pos c2, if_pos a1]) (Ev.now _), Ev.step (f := fun _ => some ((rd_T69 l at_).f0, true)) (fun k => by rw [spec_FollowPath.l0, if_neg c, if_neg c1, if_pos c2, if_pos a1]) (Ev.now _)⟩
  | d + 1, i, at_, h0, h1, a0, a1 => by
    have c : i < (p.length : Int) := by omega
    have hw : wrap64 (i + 1) = i + 1 := wrap_id (by omega) (by omega)
    by_cases c1 : at_ < 0
    · exact ⟨(0, false), Ev.step (f := fun _ => some (0, false)) (fun k => by rw [impl_FollowPath.l0, if_pos c, if_pos h0, if_pos c, if_pos c1]) (Ev.now _), Ev.step (f := fun _ => some (0, false)) (fun k => by rw [spec_FollowPath.l0, if_pos c, if_pos h0, if_pos c, if_pos c1]) (Ev.now _)⟩
    · have c2 : 0 ≤ at_ := by omega
      have hm : rd_T69 l at_ ∈ l := getD_mem l _ at_ c2 a1
      have hbm := hb _ hm
      unfold Bdx_Object at hbm
      have hwl : wrap64 (((rd_T69 l at_).f1.length : Int) - 1) = ((rd_T69 l at_).f1.length : Int) - 1 := wrap_id (by omega) (by omega)
      by_cases c3 : rd p i < 0
      · refine ⟨(0, false), Ev.step (f := fun _ => some (0, false)) (fun k => ?_) (Ev.now _), Ev.step (f := fun _ => some (0, false)) (fun k => by rw [spec_FollowPath.l0, if_pos c, if_pos h0, if_pos c, if_neg c1, if_pos c3]) (Ev.now _)⟩
        have e : inB (rd p i) 0 ((rd_T69 l at_).f1.length - 1) = false := by simp [inB]; omega
        rw [impl_FollowPath.l0, if_pos c, if_pos h0, if_pos c, if_neg c1, if_pos c2, if_pos a1, hwl, within_f, e] <;> rfl
      · by_cases c4 : rd p i < ((rd_T69 l at_).f1.length : Int)
        · have e : inB (rd p i) 0 ((rd_T69 l at_).f1.length - 1) = true := by simp [inB]; omega
          have c5 : 0 ≤ rd p i := by omega
          have c6 : ¬ rd p i ≥ ((rd_T69 l at_).f1.length : Int) := by omega
          have hk := hg _ hm (rd (rd_T69 l at_).f1 (rd p i)) (getD_mem _ 0 _ c5 c4)
          obtain ⟨q, e1, e2⟩ := path_l0 l r p hl hb hp hg d (i + 1) (rd (rd_T69 l at_).f1 (rd p i)) (by omega) (by omega) hk.1 hk.2
          refine ⟨q, Ev.step (fun k => ?_) e1, Ev.step (fun k => by rw [spec_FollowPath.l0, if_pos c, if_pos h0, if_pos c, if_neg c1, if_neg c3, if_pos c2, if_pos a1, if_neg c6, if_pos c5, if_pos c4, hw]) e2⟩
          rw [impl_FollowPath.l0, if_pos c, if_pos h0, if_pos c, if_neg c1, if_pos c2, if_pos a1, hwl, within_f, e, hw, Option.bind_some, if_pos rfl, if_pos c5, if_pos c4]
        · have e : inB (rd p i) 0 ((rd_T69 l at_).f1.length - 1) = false := by simp [inB]; omega
          have c6 : rd p i ≥ ((rd_T69 l at_).f1.length : Int) := by omega
          refine ⟨(0, false), Ev.step (f := fun _ => some (0, false)) (fun k => ?_) (Ev.now _), Ev.step (f := fun _ => some (0, false)) (fun k => by rw [spec_FollowPath.l0, if_pos c, if_pos h0, if_pos c, if_neg c1, if_neg c3, if_pos c2, if_pos a1, if_pos c6]) (Ev.now _)⟩
          rw [impl_FollowPath.l0, if_pos c, if_pos h0, if_pos c, if_neg c1, if_pos c2, if_pos a1, hwl, within_f, e] <;> rfl
theorem path_j0 (l : List S69) (r p : List Int) (a : Int) : Ev (fun k => impl_FollowPath.j0 k a p true l r) (0, false) ∧ Ev (fun k => spec_FollowPath.j0 k a p true l r) (0, false) :=
  ⟨Ev.step (f := fun _ => some (0, false)) (fun k => by rw [impl_FollowPath.j0, if_pos rfl]) (Ev.now _), Ev.step (f := fun _ => some (0, false)) (fun k => by rw [spec_FollowPath.j0, if_pos rfl]) (Ev.now _)⟩
theorem path_both (l : List S69) (r p : List Int) (a : Int) (hl : (l.length : Int) ≤ 1048576) (hb : ∀ y_ ∈ l, Bdx_Object 1048576 y_) (hr : (r.length : Int) ≤ 1048576) (hp : (p.length : Int) ≤ 1048576) :
    ∃ q, Ev (fun k => impl_FollowPath.f k l r a p) q ∧ Ev (fun k => spec_FollowPath.f k l r a p) q := by
  unfold impl_FollowPath.f spec_FollowPath.f
  have hs := spec_GoodHeap_ev l r hl hb hr
  have hi : Ev (fun _ => impl_GoodHeap.f l r) (goodHeap l r) := Ev.now _
  have hwl : wrap64 ((r.length : Int) - 1) = (r.length : Int) - 1 := wrap_id (by omega) (by omega)
  obtain ⟨j1, j2⟩ := path_j0 l r p a
  cases hg : goodHeap l r
  · rw [hg] at hs hi
    exact ⟨(0, false), Ev.bind hi (ev_if_neg (by simp) j1), Ev.bind hs (ev_if_neg (by simp) j2)⟩
  · have hk := goodHeap_links hg hl
    rw [hg] at hs hi
    rw [hwl, within_f]
    by_cases c1 : a < 0
    · have e : inB a 0 (r.length - 1) = false := by simp [inB]; omega
      rw [e]
      exact ⟨(0, false), Ev.bind hi (ev_if_pos rfl (Ev.bind (Ev.now _) (ev_if_neg (by simp) j1))), Ev.bind hs (ev_if_pos rfl (ev_if_pos c1 j2))⟩
    · by_cases c2 : a ≥ (r.length : Int)
      · have e : inB a 0 (r.length - 1) = false := by simp [inB]; omega
        rw [e]
        exact ⟨(0, false), Ev.bind hi (ev_if_pos rfl (Ev.bind (Ev.now _) (ev_if_neg (by simp) j1))), Ev.bind hs (ev_if_pos rfl (ev_if_neg c1 (ev_if_pos c2 j2)))⟩
      · have e : inB a 0 (r.length - 1) = true := by simp [inB]; omega
        rw [e]
        by_cases c3 : (p.length : Int) > 40
        · have e3 : decide ((p.length : Int) > 40) = true := decide_eq_true c3
          rw [e3]
          exact ⟨(0, false), Ev.bind hi (ev_if_pos rfl (Ev.bind (Ev.now _) (ev_if_pos rfl j1))), Ev.bind hs (ev_if_pos rfl (ev_if_neg c1 (ev_if_neg c2 j2)))⟩
        · have e3 : decide ((p.length : Int) > 40) = false := decide_eq_false c3
          have c4 : 0 ≤ a := by omega
          have c5 : a < (r.length : Int) := by omega
          have hka := hk.2 (rd r a) (getD_mem r 0 a c4 c5)
          obtain ⟨q, e1, e2⟩ := path_l0 l r p hl hb hp hk.1 p.length 0 (rd r a) (by omega) (by omega) hka.1 hka.2
          rw [e3]
          have f1 : Ev (fun k => impl_FollowPath.j0 k a p false l r) q := Ev.step (fun k => by rw [impl_FollowPath.j0, if_neg (by simp), if_pos c4, if_pos c5]) e1
          have f2 : Ev (fun k => spec_FollowPath.j0 k a p false l r) q := Ev.step (fun k => by rw [spec_FollowPath.j0, if_neg (by simp), if_pos c4, if_pos c5]) e2
          exact ⟨q, Ev.bind hi (ev_if_pos rfl (Ev.bind (Ev.now _) (ev_if_pos rfl f1))), Ev.bind hs (ev_if_pos rfl (ev_if_neg c1 (ev_if_neg c2 f2)))⟩
theorem FnExactFollowPath : laws_FnExactFollowPath.Pure0 := by
  intro l0 l1 a p h0 h1 ha h2
  apply Ev.rounds
  unfold laws_FnExactFollowPath.f
  by_cases c1 : (p.length : Int) > 1048576
  · exact ev_if_pos c1 (Ev.now _)
  refine ev_if_neg c1 ?_
  obtain ⟨v, ev, hv, hb⟩ := szHeap_ev ⟨l0, l1⟩ 1048576 (by omega) (by omega) ⟨h0, h1⟩
  refine Ev.bind ev ?_
  by_cases c2 : v < 0
  · exact ev_if_pos c2 (Ev.now _)
  have hl := hb (by omega)
  have hx := bcv_Heap hl
  have ht := toHeap_ev _ hl
  have hq := eqHeap_ev _ hx
  have hp := toIntS_ev p (by omega)
  unfold Bdx_Heap at hx
  obtain ⟨q, e1, e2⟩ := path_both (cv_Heap ⟨l0, l1⟩).f0 (cv_Heap ⟨l0, l1⟩).f1 p a hx.1.1 hx.1.2 hx.2 (by omega)
  refine ev_if_neg c2 (Ev.bind ht (Ev.bind hp (Ev.bind e2 (Ev.bind ht (Ev.bind hp (Ev.bind e1 (ev_if_pos rfl ?_)))))))
  rw [bne_self_eq_false]
  refine Ev.step (fun k => by rw [laws_FnExactFollowPath.j0, if_neg (by simp)]) ?_
  exact Ev.bind ht (Ev.bind hq (ev_if_pos rfl (Ev.bind hp (Ev.bind (eqIntS_ev p (by omega)) (ev_if_pos rfl (Ev.now _))))))
end Go.Proofs.Ytcbgiccgiegdbaa.Pure
