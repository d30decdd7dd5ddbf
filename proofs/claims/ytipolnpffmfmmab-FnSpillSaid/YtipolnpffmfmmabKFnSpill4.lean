import Derived.Test.YtipolnpffmfmmabKFnSpill3
/- Spans that are placed and spilt, in plain words: az few numbers az are held at once, az few left out az can be. -/
namespace Go.Ev
set_option linter.unusedVariables false
set_option linter.unusedSimpArgs false
set_option linter.unusedVariables false
set_option linter.unusedSimpArgs false
def pa (p : List Int) (i : Int) : Int := p.getD i.toNat 0
theorem pa_set {p : List Int} {k : Int} (v : Int) {j : Int} (k0 : 0 ≤ k) (k1 : k < p.length) (j0 : 0 ≤ j) : pa (p.set k.toNat v) j = if j = k then v else pa p j := by
  unfold pa
  rw [getD_set p _ _ _ (by omega)]
  by_cases c : j = k
  · rw [if_pos c, if_pos (by omega)]
  · rw [if_neg c, if_neg (by omega)]
theorem heldN_ex : ∀ (l : List Span) (p : List Int) (t n : Int), heldN l p t n = true ↔ ∃ i : Nat, i < l.length ∧ i < p.length ∧ p.getD i 0 = n ∧ heldS (l.getD i ⟨0, 0⟩) t = true
  | [], p, t, n => by simp [heldN]
  | s :: l, [], t, n => by simp [heldN]
  | s :: l, q :: p, t, n => by
    rw [heldN, Bool.or_eq_true, heldN_ex l p t n]
    constructor
    · rintro (h | ⟨i, a, b, c, d⟩)
      · simp only [Bool.and_eq_true, beq_iff_eq] at h
        exact ⟨0, by simp, by simp, by simpa using h.1, by simpa using h.2⟩
      · exact ⟨i + 1, by simpa using a, by simpa using b, by simpa using c, by simpa using d⟩
    · rintro ⟨i, a, b, c, d⟩
      cases i with
      | zero => left; simp at c d; simp [c, d]
      | succ i => right; exact ⟨i, by simpa using a, by simpa using b, by simpa using c, by simpa using d⟩
theorem heldN_pa {l : List Span} {p : List Int} {t n : Int} (hl : p.length = l.length) : heldN l p t n = true ↔ ∃ i : Int, 0 ≤ i ∧ i < l.length ∧ pa p i = n ∧ heldS (spAt l i) t = true := by
  rw [heldN_ex]
  constructor
  · rintro ⟨i, a, b, c, d⟩
    exact ⟨(i : Int), by omega, by omega, by simpa [pa] using c, by simpa [spAt] using d⟩
  · rintro ⟨i, a, b, c, d⟩
    exact ⟨i.toNat, by omega, by omega, by simpa [pa] using c, by simpa [spAt] using d⟩
theorem orderS_srt {l : List Span} (hg : l.length ≤ 30) : (orderS l).Pairwise fun a b => (spAt l a).from_ ≤ (spAt l b).from_ := by
  have h : Srt (keyW l) (orderS l) := by
    refine isort_srt ?_
    refine List.Pairwise.imp_of_mem ?_ (upN_lt l.length)
    intro a b ha hb hab
    rw [upN_mem] at ha hb
    unfold keyW
    omega
  refine List.Pairwise.imp_of_mem ?_ h
  intro a b ha hb hab
  rw [orderS_mem] at ha hb
  unfold keyW at hab
  omega
theorem spAt_good {l : List Span} (h : goodSp l = true) {i : Int} (h0 : 0 ≤ i) (h1 : i < l.length) : 0 ≤ (spAt l i).from_ ∧ (spAt l i).from_ < (spAt l i).to_ ∧ (spAt l i).to_ ≤ 1000 := by
  refine (good_of h).2 _ ?_
  have hk : i.toNat < l.length := by omega
  unfold spAt
  rw [List.getD_eq_getElem?_getD, List.getElem?_eq_getElem hk]
  exact List.getElem_mem hk
structure PlInv (l : List Span) (D p : List Int) : Prop where
  len : p.length = l.length
  out : ∀ j : Int, 0 ≤ j → j < l.length → j ∉ D → pa p j = -1
  bd : ∀ j ∈ D, 0 ≤ j ∧ j < l.length
  ap : ∀ i ∈ D, ∀ j ∈ D, i ≠ j → 0 ≤ pa p i → pa p i = pa p j → meetB (spAt l i) (spAt l j) = false
theorem meet_held {a b : Span} (h : a.from_ ≤ b.from_) (hm : meetB a b = true) : heldS a b.from_ = true := by
  simp [meetB] at hm
  simp [heldS]
  omega
theorem plInv_step {l : List Span} {D p p' : List Int} {k : Int} (h : PlInv l D p) (k0 : 0 ≤ k) (k1 : k < l.length) (hl : p'.length = l.length)
    (hs : ∀ i ∈ D, (spAt l i).from_ ≤ (spAt l k).from_) (hp : ∀ j : Int, 0 ≤ j → j < l.length → j ≠ k → pa p' j = pa p j ∨ pa p' j = -1)
    (hv : 0 ≤ pa p' k → ∀ i ∈ D, i ≠ k → pa p' i = pa p' k → heldS (spAt l i) (spAt l k).from_ = false) : PlInv l (k :: D) p' := by
  have one : ∀ i ∈ D, i ≠ k → 0 ≤ pa p' k → pa p' i = pa p' k → meetB (spAt l i) (spAt l k) = false := fun i hi ne h0 e => by
    cases c : meetB (spAt l i) (spAt l k)
    · rfl
    · have := meet_held (hs i hi) c
      rw [hv h0 i hi ne e] at this
      cases this
  refine ⟨hl, fun j j0 j1 hj => ?_, fun j hj => ?_, fun i hi j hj ne h0 e => ?_⟩
  · have hk : j ≠ k := fun e => hj (by simp [e])
    have hd : j ∉ D := fun e => hj (by simp [e])
    have := h.out j j0 j1 hd
    rcases hp j j0 j1 hk with e | e
    · rw [e, this]
    · exact e
  · rcases List.mem_cons.1 hj with rfl | hj
    · exact ⟨k0, k1⟩
    · exact h.bd j hj
  · by_cases ci : i = k
    · subst ci
      rcases List.mem_cons.1 hj with rfl | hj
      · exact absurd rfl ne
      · rw [meetB_comm]
        exact one j hj (fun e => ne e.symm) h0 e.symm
    · have hi2 : i ∈ D := by simpa [ci] using hi
      by_cases cj : j = k
      · subst cj
        exact one i hi2 ne (by omega) e
      · have hj2 : j ∈ D := by simpa [cj] using hj
        have bi := h.bd i hi2
        have bj := h.bd j hj2
        have ei := hp i bi.1 bi.2 ci
        have ej := hp j bj.1 bj.2 cj
        exact h.ap i hi2 j hj2 ne (by omega) (by omega)
theorem least_load {l : List Span} {D p : List Int} {k : Int} (hg : goodSp l = true) (h : PlInv l D p) (k0 : 0 ≤ k) (k1 : k < l.length) (hk : k ∉ D) : leastN l p (spAt l k).from_ + 1 ≤ loadN l (spAt l k).from_ := by
  have hL := leastN_least l p (spAt l k).from_
  generalize leastN l p (spAt l k).from_ = n at *
  rw [← heldPl_len l p _ h.len]
  have h0 := hL.h0
  have hn : ((-1 : Int) :: upN n.toNat).Nodup := by
    refine List.nodup_cons.2 ⟨fun hm => ?_, List.Pairwise.imp (fun h => by omega) (upN_lt _)⟩
    have := upN_mem.1 hm
    omega
  have := nodup_le _ (heldPl l p (spAt l k).from_) hn fun x hx => by
    rw [← heldN_iff]
    rcases List.mem_cons.1 hx with rfl | hx
    · refine (heldN_pa h.len).2 ⟨k, k0, k1, h.out k k0 k1 hk, ?_⟩
      have := spAt_good hg k0 k1
      simp [heldS]
      omega
    · have := upN_mem.1 hx
      exact hL.all x (by omega) (by omega)
  simp [upN_len] at this
  omega
structure ScInv (l : List Span) (D p : List Int) (m : Int) : Prop where
  pl : PlInv l D p
  lt : ∀ i ∈ D, 0 ≤ pa p i ∧ pa p i < m
  m0 : 0 ≤ m
  le : m ≤ (mostP l).1
theorem scInv_step {l : List Span} {D p : List Int} {m k : Int} (hg : goodSp l = true) (h : ScInv l D p m) (k0 : 0 ≤ k) (k1 : k < l.length) (hk : k ∉ D) (hs : ∀ i ∈ D, (spAt l i).from_ ≤ (spAt l k).from_) :
    ScInv l (k :: D) (p.set k.toNat (leastN l p (spAt l k).from_)) (if leastN l p (spAt l k).from_ + 1 > m then leastN l p (spAt l k).from_ + 1 else m) := by
  have hb := least_load hg h.pl k0 k1 hk
  have hm := (mostP_ok hg).2.1 (spAt l k).from_
  have hL := leastN_least l p (spAt l k).from_
  generalize leastN l p (spAt l k).from_ = n at *
  have hlen := h.pl.len
  have hle := h.le
  have hm0 := h.m0
  have h0 := hL.h0
  have e : ∀ j : Int, 0 ≤ j → pa (p.set k.toNat n) j = if j = k then n else pa p j := fun j j0 => pa_set n k0 (by omega) j0
  refine ⟨plInv_step h.pl k0 k1 (by simp [hlen]) hs (fun j j0 j1 ne => .inl (by rw [e j j0, if_neg ne])) (fun _ i hi ne he => ?_), fun i hi => ?_, ?_, ?_⟩
  · have bi := h.pl.bd i hi
    rw [e i bi.1, if_neg ne, e k k0, if_pos rfl] at he
    cases c : heldS (spAt l i) (spAt l k).from_
    · rfl
    · have := (heldN_pa hlen).2 ⟨i, bi.1, bi.2, he, c⟩
      rw [hL.no] at this
      cases this
  · by_cases ci : i = k
    · subst ci
      rw [e i k0, if_pos rfl]
      split <;> omega
    · have hi2 : i ∈ D := by simpa [ci] using hi
      have := h.lt i hi2
      rw [e i (h.pl.bd i hi2).1, if_neg ci]
      split <;> omega
  · split <;> omega
  · split <;> omega
theorem scInv_all {l : List Span} (hg : goodSp l = true) : ∀ (r D p : List Int) (m : Int), ScInv l D p m → (D.reverse ++ r).Nodup → (∀ x ∈ r, 0 ≤ x ∧ x < l.length) →
    (D.reverse ++ r).Pairwise (fun a b => (spAt l a).from_ ≤ (spAt l b).from_) → ScInv l (r.reverse ++ D) (scanGo l r p m).1 (scanGo l r p m).2
  | [], D, p, m, h, hn, hb, hs => by simpa [scanGo] using h
  | k :: r, D, p, m, h, hn, hb, hs => by
    have hk := hb k (by simp)
    have hkD : k ∉ D := fun hd => (List.nodup_append.1 hn).2.2 k (by simpa using hd) k (by simp) rfl
    have hsk : ∀ i ∈ D, (spAt l i).from_ ≤ (spAt l k).from_ := fun i hi => (List.pairwise_append.1 hs).2.2 i (by simpa using hi) k (by simp)
    have ih := scInv_all hg r (k :: D) _ _ (scInv_step hg h hk.1 hk.2 hkD hsk) (by simpa using hn) (fun x hx => hb x (by simp [hx])) (by simpa using hs)
    rw [scanGo]
    simpa using ih
theorem none_getD {n : Nat} {j : Int} (h0 : 0 ≤ j) (h1 : j < n) : pa (List.replicate n (-1)) j = -1 := by
  unfold pa
  rw [List.getD_eq_getElem?_getD, List.getElem?_replicate, if_pos (by omega)]
  rfl
theorem plInv_nil (l : List Span) : PlInv l [] (List.replicate l.length (-1)) := ⟨by simp, fun j h0 h1 _ => none_getD h0 h1, by simp, by simp⟩
theorem scan_inv {l : List Span} (hg : goodSp l = true) : ScInv l (orderS l).reverse (scanS l).1 (scanS l).2 := by
  have := scInv_all hg (orderS l) [] _ 0 ⟨plInv_nil l, by simp, by omega, (mostP_ok hg).1.1⟩ (by simpa using orderS_nodup l) (fun x hx => orderS_mem.1 hx) (by simpa using orderS_srt (good_of hg).1)
  simpa [scanS] using this
/-- What has numbers of its own is placed. -/
theorem placedZ_of {l : List Span} {D p : List Int} (h : PlInv l D p) (hD : ∀ j : Int, 0 ≤ j → j < l.length → j ∈ D) : PlacedZ ((l.zip p).filter fun a => decide (0 ≤ a.2)) := by
  refine ⟨fun a ha => by simpa using (List.mem_filter.1 ha).2, ?_⟩
  refine List.pairwise_filter.2 ?_
  rw [List.pairwise_iff_getElem]
  intro i j hi hj hij h1 h2 e
  have hlen := h.len
  simp only [List.length_zip] at hi hj
  simp only [List.getElem_zip] at h1 h2 e ⊢
  have g : ∀ (k : Nat) (hk : k < l.length), spAt l (k : Int) = l[k] := fun k hk => by simp [spAt, List.getD_eq_getElem?_getD, hk]
  have g2 : ∀ (k : Nat) (hk : k < p.length), pa p (k : Int) = p[k] := fun k hk => by simp [pa, List.getD_eq_getElem?_getD, hk]
  have := h.ap (i : Int) (hD _ (by omega) (by omega)) (j : Int) (hD _ (by omega) (by omega)) (by omega) (by rw [g2 i (by omega)]; simpa using h1) (by rw [g2 i (by omega), g2 j (by omega)]; exact e)
  rwa [g i (by omega), g j (by omega)] at this
theorem order_all {l : List Span} (j : Int) (h0 : 0 ≤ j) (h1 : j < l.length) : j ∈ (orderS l).reverse := by simpa using orderS_mem.2 ⟨h0, h1⟩
theorem pa_mem {l : List Span} {p : List Int} {P : Int → Prop} (hl : p.length = l.length) (h : ∀ j : Int, 0 ≤ j → j < l.length → P (pa p j)) : ∀ x ∈ p, P x := fun x hx => by
  obtain ⟨i, hi, rfl⟩ := List.mem_iff_getElem.1 hx
  have := h (i : Int) (by omega) (by omega)
  simpa [pa, List.getD_eq_getElem?_getD, hi] using this
theorem scan_placed {l : List Span} (hg : goodSp l = true) : placedB l (scanS l).1 = true := by
  have h := scan_inv hg
  rw [placedB_iff]
  have hz := placedZ_of h.pl order_all
  rwa [List.filter_eq_self.2] at hz
  intro a ha
  have := pa_mem (P := fun x => 0 ≤ x) h.pl.len (fun j h0 h1 => (h.lt j (order_all j h0 h1)).1) a.2 (List.of_mem_zip ha).2
  simpa using this
theorem scan_most {l : List Span} (hg : goodSp l = true) : (scanS l).2 = (mostP l).1 := by
  have h := scan_inv hg
  have hle := h.le
  have hp := heldPl_nodup ((placedB_iff l _).1 (scan_placed hg)) (mostP l).2
  have hlen := heldPl_len l (scanS l).1 (mostP l).2 h.pl.len
  rw [(mostP_ok hg).2.2] at hlen
  have m0 := h.m0
  have := nodup_bd (M := (scanS l).2.toNat) hp fun x hx => by
    unfold heldPl at hx
    obtain ⟨a, ha, rfl⟩ := List.mem_map.1 hx
    have := pa_mem (P := fun x => 0 ≤ x ∧ x < (scanS l).2) h.pl.len (fun j h0 h1 => h.lt j (order_all j h0 h1)) a.2 (List.of_mem_zip (List.mem_filter.1 ha).1).2
    omega
  omega
end Go.Ev

/- No choice that can be placed keeps more, in plain words. -/
namespace Go.Ev
set_option linter.unusedVariables false
set_option linter.unusedSimpArgs false
set_option linter.unusedVariables false
set_option linter.unusedSimpArgs false
theorem worstGo_max (l : List Span) (p : List Int) (t : Int) : ∀ (r : List Span) (o : Nat) (w : Int), r = l.drop o →
    (spAt l w).to_ ≤ (spAt l (worstGo l p t r o w)).to_ ∧ (∀ j : Nat, o ≤ j → j < l.length → 0 ≤ p.getD j 0 → heldS (spAt l j) t = true → (spAt l j).to_ ≤ (spAt l (worstGo l p t r o w)).to_) ∧
    (worstGo l p t r o w = w ∨ (0 ≤ worstGo l p t r o w ∧ worstGo l p t r o w < l.length ∧ 0 ≤ pa p (worstGo l p t r o w) ∧ heldS (spAt l (worstGo l p t r o w)) t = true))
  | [], o, w, h => by
    have hl : l.length ≤ o := by
      have := congrArg List.length h
      simp at this
      omega
    exact ⟨Int.le_refl _, fun j a b => by omega, .inl rfl⟩
  | s :: r, o, w, h => by
    have ho : o < l.length := by
      have := congrArg List.length h
      simp at this
      omega
    rw [List.drop_eq_getElem_cons ho] at h
    obtain ⟨hs, hr⟩ := List.cons.inj h
    have e : s = spAt l (o : Int) := by simp [spAt, List.getD_eq_getElem?_getD, ho, hs]
    rw [worstGo]
    by_cases c : 0 ≤ p.getD o 0 ∧ heldS s t = true ∧ s.to_ > (spAt l w).to_
    · rw [if_pos c]
      obtain ⟨a, b, d⟩ := worstGo_max l p t r (o + 1) (o : Int) hr
      generalize worstGo l p t r (o + 1) (o : Int) = W at *
      rw [← e] at a
      refine ⟨by omega, fun j g1 g2 g3 g4 => ?_, ?_⟩
      · by_cases ej : j = o
        · subst ej; rw [← e]; omega
        · exact b j (by omega) g2 g3 g4
      · rcases d with d | d
        · right
          rw [d]
          refine ⟨by omega, by omega, by simpa [pa] using c.1, by rw [← e]; exact c.2.1⟩
        · exact .inr d
    · rw [if_neg c]
      obtain ⟨a, b, d⟩ := worstGo_max l p t r (o + 1) w hr
      generalize worstGo l p t r (o + 1) w = W at *
      refine ⟨a, fun j g1 g2 g3 g4 => ?_, d⟩
      by_cases ej : j = o
      · subst ej
        rw [← e] at g4 ⊢
        have : ¬ s.to_ > (spAt l w).to_ := fun hh => c ⟨g3, g4, hh⟩
        omega
      · exact b j (by omega) g2 g3 g4
theorem worst_max (l : List Span) (p : List Int) (k : Int) : (spAt l k).to_ ≤ (spAt l (worstN l p k)).to_ ∧
    (∀ j : Int, 0 ≤ j → j < l.length → 0 ≤ pa p j → heldS (spAt l j) (spAt l k).from_ = true → (spAt l j).to_ ≤ (spAt l (worstN l p k)).to_) ∧
    (worstN l p k = k ∨ (0 ≤ worstN l p k ∧ worstN l p k < l.length ∧ 0 ≤ pa p (worstN l p k) ∧ heldS (spAt l (worstN l p k)) (spAt l k).from_ = true)) := by
  obtain ⟨a, b, c⟩ := worstGo_max l p (spAt l k).from_ l 0 k rfl
  refine ⟨a, fun j j0 j1 h1 h2 => ?_, c⟩
  have := b j.toNat (by omega) (by omega) h1
  rw [show ((j.toNat : Nat) : Int) = j by omega] at this
  exact this h2
theorem countP_or {α : Type} {P Q R : α → Bool} : ∀ {D : List α}, (∀ i ∈ D, P i = true → Q i = true ∨ R i = true) → D.countP P ≤ D.countP Q + D.countP R
  | [], _ => by simp
  | x :: D, h => by
    have ih := countP_or (P := P) (Q := Q) (R := R) (D := D) fun i hi => h i (by simp [hi])
    have hx := h x (by simp)
    simp only [List.countP_cons]
    cases a : P x <;> cases b : Q x <;> cases c : R x <;> simp [a, b, c] at hx ⊢ <;> omega
theorem countP_dis {α : Type} {P Q R : α → Bool} : ∀ {D : List α}, (∀ i ∈ D, (Q i = true → P i = true) ∧ (R i = true → P i = true) ∧ ¬ (Q i = true ∧ R i = true)) → D.countP Q + D.countP R ≤ D.countP P
  | [], _ => by simp
  | x :: D, h => by
    have ih := countP_dis (P := P) (Q := Q) (R := R) (D := D) fun i hi => h i (by simp [hi])
    have hx := h x (by simp)
    simp only [List.countP_cons]
    cases a : P x <;> cases b : Q x <;> cases c : R x <;> simp [a, b, c] at hx ⊢ <;> omega
/-- How many of a choice have ended at a moment. -/
def endN (l : List Span) (S : Int → Bool) (D : List Int) (t : Int) : Nat := D.countP fun i => S i && decide ((spAt l i).to_ ≤ t)
theorem endN_cons (l : List Span) (S : Int → Bool) (k : Int) (D : List Int) (t : Int) : endN l S (k :: D) t = endN l S D t + if S k && decide ((spAt l k).to_ ≤ t) then 1 else 0 := by
  unfold endN
  rw [List.countP_cons]
theorem endN_congr {l : List Span} {S S' : Int → Bool} {D : List Int} {t : Int} (h : ∀ i ∈ D, (spAt l i).to_ ≤ t → S i = S' i) : endN l S D t = endN l S' D t := by
  unfold endN
  refine List.countP_congr fun i hi => ?_
  by_cases c : (spAt l i).to_ ≤ t
  · rw [h i hi c]
  · simp [c]
def isA (p : List Int) (i : Int) : Bool := decide (0 ≤ pa p i)
structure SpI (l : List Span) (most : Int) (S : Int → Bool) (D p : List Int) : Prop where
  pl : PlInv l D p
  nd : D.Nodup
  neg : ∀ i ∈ D, 0 ≤ pa p i ∨ pa p i = -1
  lt : ∀ i ∈ D, pa p i < most
  opt : ∀ t, endN l S D t ≤ endN l (isA p) D t
/-- A choice that can be held at each moment. -/
def Fits (l : List Span) (most : Int) (S : Int → Bool) : Prop := ∀ t : Int, (((upN l.length).countP fun i => S i && heldS (spAt l i) t : Nat) : Int) ≤ most
theorem fits_sub {l : List Span} {most : Int} {S : Int → Bool} (h : Fits l most S) {D : List Int} (hn : D.Nodup) (hb : ∀ i ∈ D, 0 ≤ i ∧ i < l.length) (t : Int) : ((D.countP fun i => S i && heldS (spAt l i) t : Nat) : Int) ≤ most := by
  have := h t
  rw [List.countP_eq_length_filter] at this ⊢
  have g := nodup_le (D.filter fun i => S i && heldS (spAt l i) t) ((upN l.length).filter fun i => S i && heldS (spAt l i) t) (hn.filter _) fun x hx => by
    obtain ⟨h1, h2⟩ := List.mem_filter.1 hx
    exact List.mem_filter.2 ⟨upN_mem.2 (hb x h1), h2⟩
  omega
theorem full_count {l : List Span} {D p : List Int} {most t : Int} (h : PlInv l D p) (hf : ∀ m, 0 ≤ m → m < most → heldN l p t m = true) : most ≤ ((D.countP fun i => isA p i && heldS (spAt l i) t : Nat) : Int) := by
  have := nodup_le (upN most.toNat) ((D.filter fun i => isA p i && heldS (spAt l i) t).map (pa p)) (List.Pairwise.imp (fun h => by omega) (upN_lt _)) fun x hx => by
    have hx := upN_mem.1 hx
    obtain ⟨i, h0, h1, h2, h3⟩ := (heldN_pa h.len).1 (hf x (by omega) (by omega))
    refine List.mem_map.2 ⟨i, List.mem_filter.2 ⟨?_, ?_⟩, h2⟩
    · refine Decidable.byContradiction fun hn => ?_
      have := h.out i h0 h1 hn
      omega
    · simp [isA, h3]
      omega
  rw [upN_len, List.length_map, ← List.countP_eq_length_filter] at this
  omega
/-- All numbers are in use at a moment: no choice has more that have ended later. -/
theorem opt_full {l : List Span} {most : Int} {S A : Int → Bool} {D D' p' : List Int} {f t : Int} (h : PlInv l D' p') (hn : D'.Nodup) (hS : Fits l most S) (hft : f ≤ t)
    (hfr : ∀ i ∈ D', (spAt l i).from_ ≤ f) (hf : ∀ m, 0 ≤ m → m < most → heldN l p' f m = true) (hto : ∀ i ∈ D', isA p' i = true → heldS (spAt l i) f = true → (spAt l i).to_ ≤ t)
    (ho : endN l S D' f ≤ endN l (isA p') D' f) : endN l S D' t ≤ endN l (isA p') D' t := by
  have h1 : endN l S D' t ≤ endN l S D' f + D'.countP fun i => S i && heldS (spAt l i) f := countP_or fun i hi hp => by
    have := hfr i hi
    simp at hp
    simp [hp.1, heldS]
    omega
  have h2 := fits_sub hS hn h.bd f
  have h3 := full_count h hf
  have h4 : endN l (isA p') D' f + (D'.countP fun i => isA p' i && heldS (spAt l i) f) ≤ endN l (isA p') D' t := countP_dis fun i hi => by
    have g := hto i hi
    refine ⟨fun a => ?_, fun a => ?_, fun a => ?_⟩
    · simp at a ⊢; exact ⟨a.1, by omega⟩
    · simp at a ⊢; exact ⟨a.1, g a.1 a.2⟩
    · obtain ⟨a, b⟩ := a
      simp [heldS] at a b
      omega
  omega
theorem spI_step {l : List Span} {most : Int} {S : Int → Bool} {D p : List Int} {k : Int} (hg : goodSp l = true) (hS : Fits l most S) (h : SpI l most S D p) (k0 : 0 ≤ k) (k1 : k < l.length) (hk : k ∉ D)
    (hs : ∀ i ∈ D, (spAt l i).from_ ≤ (spAt l k).from_) : SpI l most S (k :: D) (spill1 l most p k) := by
  have hL := leastN_least l p (spAt l k).from_
  obtain ⟨wa, wb, wc⟩ := worst_max l p k
  have hlen := h.pl.len
  have hlen2 := spill1_len l most p k
  have hpk := h.pl.out k k0 k1 hk
  have hgk := spAt_good hg k0 k1
  have hm0 : 0 ≤ most := by have := hS 0; omega
  have hheld : heldS (spAt l k) (spAt l k).from_ = true := by simp [heldS]; omega
  have hne : ∀ i ∈ D, i ≠ k := fun i hi e => hk (e ▸ hi)
  have hfr : ∀ i ∈ k :: D, (spAt l i).from_ ≤ (spAt l k).from_ := fun i hi => by
    rcases List.mem_cons.1 hi with rfl | hi
    · exact Int.le_refl _
    · exact hs i hi
  have hnd : (k :: D).Nodup := List.nodup_cons.2 ⟨hk, h.nd⟩
  revert hlen2
  unfold spill1
  generalize leastN l p (spAt l k).from_ = n at *
  generalize worstN l p k = w at *
  intro hlen2
  have h0 := hL.h0
  by_cases c : n < most
  · rw [if_pos c] at hlen2 ⊢
    have e : ∀ j : Int, 0 ≤ j → pa (p.set k.toNat n) j = if j = k then n else pa p j := fun j j0 => pa_set n k0 (by omega) j0
    have eA : ∀ i ∈ D, pa (p.set k.toNat n) i = pa p i := fun i hi => by rw [e i (h.pl.bd i hi).1, if_neg (hne i hi)]
    have ek : pa (p.set k.toNat n) k = n := by rw [e k k0, if_pos rfl]
    refine ⟨plInv_step h.pl k0 k1 (by omega) hs (fun j j0 j1 ne => .inl (by rw [e j j0, if_neg ne])) (fun _ i hi ne he => ?_), hnd, fun i hi => ?_, fun i hi => ?_, fun t => ?_⟩
    · have bi := h.pl.bd i hi
      rw [eA i hi, ek] at he
      cases c : heldS (spAt l i) (spAt l k).from_
      · rfl
      · have := (heldN_pa hlen).2 ⟨i, bi.1, bi.2, he, c⟩
        rw [hL.no] at this
        cases this
    · rcases List.mem_cons.1 hi with rfl | hi
      · rw [ek]; exact .inl h0
      · rw [eA i hi]; exact h.neg i hi
    · rcases List.mem_cons.1 hi with rfl | hi
      · rw [ek]; exact c
      · rw [eA i hi]; exact h.lt i hi
    · have o := h.opt t
      have : endN l (isA (p.set k.toNat n)) D t = endN l (isA p) D t := endN_congr fun i hi _ => by unfold isA; rw [eA i hi]
      have eB : isA (p.set k.toNat n) k = true := by unfold isA; rw [ek]; simpa using h0
      rw [endN_cons, endN_cons, this, eB]
      cases S k <;> simp <;> (try split) <;> omega
  · rw [if_neg c] at hlen2 ⊢
    have hfull : ∀ m, 0 ≤ m → m < most → heldN l p (spAt l k).from_ m = true := fun m m0 m1 => hL.all m m0 (by omega)
    by_cases cw : w = k
    · rw [if_pos cw] at hlen2 ⊢
      subst cw
      have hpl : PlInv l (w :: D) p := plInv_step h.pl k0 k1 hlen hs (fun j j0 j1 ne => .inl rfl) (fun hh => by omega)
      have eB : isA p w = false := by unfold isA; rw [hpk]; rfl
      refine ⟨hpl, hnd, fun i hi => ?_, fun i hi => ?_, fun t => ?_⟩
      · rcases List.mem_cons.1 hi with rfl | hi
        · exact .inr hpk
        · exact h.neg i hi
      · rcases List.mem_cons.1 hi with rfl | hi
        · omega
        · exact h.lt i hi
      · by_cases ct : t < (spAt l w).to_
        · have o := h.opt t
          rw [endN_cons, endN_cons, eB]
          have : decide ((spAt l w).to_ ≤ t) = false := by simpa using ct
          rw [this, Bool.and_false]
          simpa using o
        · refine opt_full (f := (spAt l w).from_) (A := isA p) (D := D) hpl hnd hS (by omega) hfr hfull (fun i hi hA hH => ?_) ?_
          · rcases List.mem_cons.1 hi with rfl | hi
            · omega
            · have := wb i (h.pl.bd i hi).1 (h.pl.bd i hi).2 (by simpa [isA] using hA) hH
              omega
          · have o := h.opt (spAt l w).from_
            rw [endN_cons, endN_cons]
            have : decide ((spAt l w).to_ ≤ (spAt l w).from_) = false := by simp; omega
            rw [this, Bool.and_false, Bool.and_false]
            simpa using o
    · rw [if_neg cw] at hlen2 ⊢
      rcases wc with wc | ⟨w0, w1, w2, w3⟩
      · exact absurd wc cw
      have hwD : w ∈ D := Decidable.byContradiction fun hn => by have := h.pl.out w w0 w1 hn; omega
      have e : ∀ j : Int, 0 ≤ j → pa ((p.set k.toNat (p.getD w.toNat 0)).set w.toNat (-1)) j = if j = w then -1 else if j = k then pa p w else pa p j := fun j j0 => by
        rw [pa_set (-1) w0 (by rw [List.length_set]; omega) j0, pa_set _ k0 (by omega) j0]
        rfl
      generalize (p.set k.toNat (p.getD w.toNat 0)).set w.toNat (-1) = p' at *
      have ek : pa p' k = pa p w := by rw [e k k0, if_neg (fun e => cw e.symm), if_pos rfl]
      have ew : pa p' w = -1 := by rw [e w w0, if_pos rfl]
      have eD : ∀ i ∈ D, i ≠ w → pa p' i = pa p i := fun i hi ne => by rw [e i (h.pl.bd i hi).1, if_neg ne, if_neg (hne i hi)]
      have hpl : PlInv l (k :: D) p' := by
        refine plInv_step h.pl k0 k1 (by omega) hs (fun j j0 j1 ne => ?_) (fun hk0 i hi ne he => ?_)
        · rw [e j j0]
          by_cases cj : j = w
          · rw [if_pos cj]; exact .inr rfl
          · rw [if_neg cj, if_neg ne]; exact .inl rfl
        · have bi := h.pl.bd i hi
          by_cases ci : i = w
          · subst ci
            rw [ew] at he
            omega
          · rw [eD i hi ci, ek] at he
            cases cc : heldS (spAt l i) (spAt l k).from_
            · rfl
            · have := h.pl.ap i hi w hwD ci (by omega) he
              rw [held_meet cc w3] at this
              cases this
      have eB : isA p' k = true := by unfold isA; rw [ek]; simpa using w2
      refine ⟨hpl, hnd, fun i hi => ?_, fun i hi => ?_, fun t => ?_⟩
      · rcases List.mem_cons.1 hi with rfl | hi
        · rw [ek]; exact .inl w2
        · by_cases ci : i = w
          · subst ci; exact .inr ew
          · rw [eD i hi ci]; exact h.neg i hi
      · rcases List.mem_cons.1 hi with rfl | hi
        · rw [ek]; exact h.lt w hwD
        · by_cases ci : i = w
          · subst ci; rw [ew]; have := h.lt i hi; omega
          · rw [eD i hi ci]; exact h.lt i hi
      · by_cases ct : t < (spAt l w).to_
        · have o := h.opt t
          have : endN l (isA p') D t = endN l (isA p) D t := endN_congr fun i hi hle => by
            unfold isA
            rw [eD i hi (fun ee => by subst ee; omega)]
          rw [endN_cons, endN_cons, this, eB]
          cases S k <;> simp <;> (try split) <;> omega
        · refine opt_full (f := (spAt l k).from_) (A := isA p) (D := D) hpl hnd hS (by omega) hfr (fun m m0 m1 => ?_) (fun i hi hA hH => ?_) ?_
          · obtain ⟨i, i0, i1, i2, i3⟩ := (heldN_pa hlen).1 (hfull m m0 m1)
            refine (heldN_pa (by omega)).2 ?_
            by_cases ci : i = w
            · subst ci
              exact ⟨k, k0, k1, by omega, hheld⟩
            · have : i ∈ D := Decidable.byContradiction fun hn => by have := h.pl.out i i0 i1 hn; omega
              exact ⟨i, i0, i1, by rw [eD i this ci]; exact i2, i3⟩
          · rcases List.mem_cons.1 hi with rfl | hi
            · omega
            · by_cases ci : i = w
              · subst ci; omega
              · have hA2 : 0 ≤ pa p i := by rw [← eD i hi ci]; simpa [isA] using hA
                have := wb i (h.pl.bd i hi).1 (h.pl.bd i hi).2 hA2 hH
                omega
          · have o := h.opt (spAt l k).from_
            have : endN l (isA p') D (spAt l k).from_ = endN l (isA p) D (spAt l k).from_ := endN_congr fun i hi hle => by
              unfold isA
              rw [eD i hi (fun ee => by subst ee; simp [heldS] at w3; omega)]
            rw [endN_cons, endN_cons, this]
            have : decide ((spAt l k).to_ ≤ (spAt l k).from_) = false := by simp; omega
            rw [this, Bool.and_false, Bool.and_false]
            simpa using o
theorem spI_all {l : List Span} {most : Int} {S : Int → Bool} (hg : goodSp l = true) (hS : Fits l most S) : ∀ (r D p : List Int), SpI l most S D p → (D.reverse ++ r).Nodup → (∀ x ∈ r, 0 ≤ x ∧ x < l.length) →
    (D.reverse ++ r).Pairwise (fun a b => (spAt l a).from_ ≤ (spAt l b).from_) → SpI l most S (r.reverse ++ D) (spillGo l most r p)
  | [], D, p, h, hn, hb, hs => by simpa [spillGo] using h
  | k :: r, D, p, h, hn, hb, hs => by
    have hk := hb k (by simp)
    have hkD : k ∉ D := fun hd => (List.nodup_append.1 hn).2.2 k (by simpa using hd) k (by simp) rfl
    have hsk : ∀ i ∈ D, (spAt l i).from_ ≤ (spAt l k).from_ := fun i hi => (List.pairwise_append.1 hs).2.2 i (by simpa using hi) k (by simp)
    have ih := spI_all hg hS r (k :: D) _ (spI_step hg hS h hk.1 hk.2 hkD hsk) (by simpa using hn) (fun x hx => hb x (by simp [hx])) (by simpa using hs)
    have e : spillGo l most (k :: r) p = spillGo l most r (spill1 l most p k) := rfl
    rw [e]
    simpa using ih
theorem spill_inv {l : List Span} {most : Int} {S : Int → Bool} (hg : goodSp l = true) (hS : Fits l most S) : SpI l most S (orderS l).reverse (spillS l most) := by
  have := spI_all hg hS (orderS l) [] _ ⟨plInv_nil l, by simp, by simp, by simp, fun t => Nat.le_refl _⟩ (by simpa using orderS_nodup l) (fun x hx => orderS_mem.1 hx) (by simpa using orderS_srt (good_of hg).1)
  simpa [spillS] using this
theorem fits_none (l : List Span) {most : Int} (h : 0 ≤ most) : Fits l most fun _ => false := fun t => by simpa using h
theorem spill_facts {l : List Span} {most : Int} (hg : goodSp l = true) (h0 : 0 ≤ most) : (∀ j : Int, 0 ≤ j → j < l.length → (0 ≤ pa (spillS l most) j ∨ pa (spillS l most) j = -1) ∧ pa (spillS l most) j < most) ∧
    PlacedZ ((l.zip (spillS l most)).filter fun a => decide (0 ≤ a.2)) := by
  have h := spill_inv hg (fits_none l h0)
  exact ⟨fun j j0 j1 => ⟨h.neg j (order_all j j0 j1), h.lt j (order_all j j0 j1)⟩, placedZ_of h.pl order_all⟩
theorem spill_best {l : List Span} {most : Int} {S : Int → Bool} (hg : goodSp l = true) (hS : Fits l most S) : (upN l.length).countP S ≤ (upN l.length).countP (isA (spillS l most)) := by
  have h := (spill_inv hg hS).opt 1000
  have e : ∀ S : Int → Bool, endN l S (orderS l).reverse 1000 = (upN l.length).countP S := fun S => by
    rw [← (orderS_perm l).countP_eq S, ← List.countP_reverse]
    refine List.countP_congr fun i hi => ?_
    have hi := orderS_mem.1 (List.mem_reverse.1 hi)
    have := spAt_good hg hi.1 hi.2
    simp [this.2.2]
  rwa [e, e] at h
end Go.Ev

/- Any other choice of spans, in plain words. -/
namespace Go.Ev
set_option linter.unusedVariables false
set_option linter.unusedSimpArgs false
set_option linter.unusedVariables false
set_option linter.unusedSimpArgs false
theorem upN_count (n : Nat) (Q : Int → Bool) : (upN n).countP Q = (List.range n).countP fun (i : Nat) => Q (i : Int) := by
  rw [upN, List.countP_map]
  rfl
/-- The spans at the places that are chosen. -/
def othG (S : Int → Bool) : List Span → Nat → List Span
  | [], _ => []
  | s :: r, j => if S j = true then s :: othG S r (j + 1) else othG S r (j + 1)
theorem othG_count (S : Int → Bool) (R : Span → Bool) : ∀ (l : List Span) (j : Nat), (othG S l j).countP R = (List.range l.length).countP fun i => S ((j + i : Nat) : Int) && R (l.getD i ⟨0, 0⟩)
  | [], j => by simp [othG]
  | s :: r, j => by
    have ih := othG_count S R r (j + 1)
    rw [List.length_cons, List.range_succ_eq_map, List.countP_cons, List.countP_map]
    have e : ((fun i => S ((j + i : Nat) : Int) && R ((s :: r).getD i ⟨0, 0⟩)) ∘ Nat.succ) = fun i => S ((j + 1 + i : Nat) : Int) && R (r.getD i ⟨0, 0⟩) := by
      funext i
      simp only [Function.comp]
      rw [show j + i.succ = j + 1 + i by omega]
      rfl
    rw [e, ← ih]
    rw [othG]
    simp only [List.getD_cons_zero, Nat.add_zero]
    cases h : S (j : Int)
    · simp
    · simp [List.countP_cons]
theorem othG_len (S : Int → Bool) (l : List Span) : (othG S l 0).length = (upN l.length).countP S := by
  have := othG_count S (fun _ => true) l 0
  rw [List.countP_true] at this
  rw [this, upN_count]
  simp
theorem othG_load (S : Int → Bool) (l : List Span) (t : Int) : loadN (othG S l 0) t = (((upN l.length).countP fun i => S i && heldS (spAt l i) t : Nat) : Int) := by
  unfold loadN
  rw [← List.countP_eq_length_filter, othG_count, upN_count]
  congr 1
  refine List.countP_congr fun i hi => ?_
  simp [spAt]
theorem othG_sub (S : Int → Bool) : ∀ (l : List Span) (j : Nat), (othG S l j).Sublist l
  | [], j => by simp [othG]
  | s :: r, j => by
    have ih := othG_sub S r (j + 1)
    unfold othG
    split
    · exact ih.cons_cons s
    · exact ih.cons s
theorem othG_le (S : Int → Bool) (l : List Span) (j : Nat) : (othG S l j).length ≤ l.length := (othG_sub S l j).length_le
def keptZ (l : List Span) (p : List Int) : List (Span × Int) := (l.zip p).filter fun a => decide (0 ≤ a.2)
theorem keptZ_cons (s : Span) (l : List Span) (q : Int) (p : List Int) : keptZ (s :: l) (q :: p) = if 0 ≤ q then (s, q) :: keptZ l p else keptZ l p := by
  unfold keptZ
  rw [List.zip_cons_cons, List.filter_cons]
  by_cases h : 0 ≤ q
  · rw [if_pos (by simpa using h), if_pos h]
  · rw [if_neg (by simpa using h), if_neg h]
theorem keptZ_len : ∀ (l : List Span) (p : List Int), p.length = l.length → (keptZ l p).length = (List.range l.length).countP fun i => decide (0 ≤ p.getD i 0)
  | [], p, h => by simp [keptZ]
  | s :: l, [], h => by simp at h
  | s :: l, q :: p, h => by
    have ih := keptZ_len l p (by simpa using h)
    rw [List.length_cons, List.range_succ_eq_map, List.countP_cons, List.countP_map]
    have e : ((fun i => decide (0 ≤ (q :: p).getD i 0)) ∘ Nat.succ) = fun i => decide (0 ≤ p.getD i 0) := by
      funext i
      rfl
    rw [e, ← ih, keptZ_cons]
    simp only [List.getD_cons_zero]
    by_cases c : 0 ≤ q
    · rw [if_pos c]
      simp [c]
    · rw [if_neg c]
      simp [c]
theorem keptZ_count {l : List Span} {p : List Int} (h : p.length = l.length) : (keptZ l p).length = (upN l.length).countP (isA p) := by
  rw [keptZ_len l p h, upN_count]
  rfl
theorem zip_back {α β : Type} : ∀ z : List (α × β), (z.map fun a => a.1).zip (z.map fun a => a.2) = z
  | [] => rfl
  | a :: z => by simp [zip_back z]
theorem keptZ_sub {l : List Span} {p : List Int} (h : p.length = l.length) : ((keptZ l p).map fun a => a.1).Sublist l := by
  have h1 : (keptZ l p).Sublist (l.zip p) := List.filter_sublist
  have h2 := h1.map fun a => a.1
  have h3 : (l.zip p).map (fun a => a.1) = l := by
    have := List.map_fst_zip (l₁ := l) (l₂ := p) (by omega)
    exact this
  rwa [h3] at h2
theorem spill_kept {l : List Span} {most : Int} (hg : goodSp l = true) (h0 : 0 ≤ most) : placedB ((keptZ l (spillS l most)).map fun a => a.1) ((keptZ l (spillS l most)).map fun a => a.2) = true := by
  rw [placedB_iff, zip_back]
  exact (spill_facts hg h0).2
/-- No other choice that fits keeps more. -/
theorem spill_law {l : List Span} {most : Int} (hg : goodSp l = true) (S : Int → Bool) : (mostP (othG S l 0)).1 > most ∨ (othG S l 0).length ≤ (keptZ l (spillS l most)).length := by
  by_cases c : (mostP (othG S l 0)).1 > most
  · exact .inl c
  · right
    have ho := good_sub (othG_sub S l 0) hg
    have hS : Fits l most S := fun t => by
      rw [← othG_load]
      have := (mostP_ok ho).2.1 t
      omega
    rw [othG_len, keptZ_count (spillS_len l most)]
    exact spill_best hg hS
/-- Whether a span is chosen by the bytes. -/
def moreB (cs : List Int) (k : Int) : Bool := decide (k ≥ cs.length) || decide ((cs.getD k.toNat 0).tmod 3 > 0)
end Go.Ev

/- The evaluator's policies and annotations of this program's functions: printed by a program of mine. -/
namespace Go.Ev
set_option linter.unusedVariables false
set_option linter.unusedSimpArgs false
open Go.Proofs
def prPrim : FuncId → Option (List V → List Ob → Option (V × List Ob)) := fun f => if f = 87 then some clonePrim else none
def prPol : FuncId → Pol
  | 2 => { modes := [], own := false, nest := false, frz := [] }
  | 3 => { modes := [.borrow, .borrow], own := false, nest := false, frz := [] }
  | 4 => { modes := [.borrow, .borrow], own := false, nest := false, frz := [] }
  | 5 => { modes := [.borrow], own := false, nest := false, frz := [] }
  | 6 => { modes := [.borrow, .borrow], own := false, nest := false, frz := [] }
  | 7 => { modes := [.borrow], own := false, nest := false, frz := [] }
  | 8 => { modes := [.borrow, .borrow], own := false, nest := false, frz := [] }
  | 9 => { modes := [.move], own := false, nest := false, frz := [], soft := [[2], [0]] }
  | 10 => { modes := [.borrow, .borrow], own := true, nest := false, frz := [] }
  | 11 => { modes := [.move, .move], own := false, nest := false, frz := [], soft := [[1], [1], [0]] }
  | 12 => { modes := [.borrow, .borrow], own := false, nest := false, frz := [] }
  | 13 => { modes := [.borrow, .borrow], own := false, nest := false, frz := [] }
  | 14 => { modes := [.borrow, .borrow], own := false, nest := false, frz := [] }
  | 15 => { modes := [.borrow], own := false, nest := false, frz := [] }
  | 16 => { modes := [.move], own := false, nest := false, frz := [], soft := [[2]] }
  | 17 => { modes := [.borrow], own := true, nest := false, frz := [] }
  | 18 => { modes := [.move], own := false, nest := false, frz := [], soft := [[1], [0], [0]] }
  | 19 => { modes := [.move], own := false, nest := false, frz := [] }
  | 20 => { modes := [.borrow], own := false, nest := false, frz := [] }
  | 21 => { modes := [.move], own := false, nest := false, frz := [], soft := [[2], [1]] }
  | 22 => { modes := [.move, .move], own := false, nest := false, frz := [] }
  | 23 => { modes := [.move], own := false, nest := false, frz := [], soft := [[2], [1], [0]] }
  | 24 => { modes := [.borrow, .borrow, .borrow], own := false, nest := false, frz := [] }
  | 25 => { modes := [.move, .move, .move], own := false, nest := false, frz := [] }
  | 26 => { modes := [.borrow, .borrow], own := false, nest := false, frz := [] }
  | 27 => { modes := [.move], own := false, nest := false, frz := [] }
  | 28 => { modes := [.borrow], own := true, nest := false, frz := [] }
  | 29 => { modes := [.borrow], own := false, nest := false, frz := [] }
  | 30 => { modes := [.borrow, .borrow], own := false, nest := false, frz := [] }
  | 31 => { modes := [.move], own := false, nest := false, frz := [], soft := [[3]] }
  | 32 => { modes := [.borrow], own := false, nest := false, frz := [] }
  | 33 => { modes := [.move], own := false, nest := false, frz := [] }
  | 34 => { modes := [.borrow], own := false, nest := false, frz := [], soft := [[3], [0]] }
  | 35 => { modes := [.borrow, .borrow], own := false, nest := false, frz := [] }
  | 36 => { modes := [.move], own := false, nest := false, frz := [] }
  | 37 => { modes := [.move], own := false, nest := false, frz := [], soft := [[3], [0]] }
  | 38 => { modes := [.move], own := false, nest := false, frz := [], soft := [[1], [0], [0]] }
  | 39 => { modes := [.borrow], own := false, nest := false, frz := [], soft := [[1], [0], [0]] }
  | 40 => { modes := [.borrow, .borrow], own := false, nest := false, frz := [] }
  | 41 => { modes := [.pass, .pass], own := false, nest := false, frz := [] }
  | 42 => { modes := [.pass, .pass], own := false, nest := false, frz := [] }
  | 43 => { modes := [.borrow, .borrow], own := false, nest := false, frz := [] }
  | 44 => { modes := [.move], own := false, nest := false, frz := [], soft := [[3], [1], [0]] }
  | 45 => { modes := [.borrow, .borrow, .borrow], own := false, nest := false, frz := [] }
  | 46 => { modes := [.move, .move, .move], own := false, nest := false, frz := [] }
  | 47 => { modes := [.borrow], own := false, nest := false, frz := [] }
  | 48 => { modes := [.move], own := false, nest := false, frz := [], soft := [[3]] }
  | 49 => { modes := [.pass], own := false, nest := false, frz := [], soft := [[2]] }
  | 50 => { modes := [.pass, .move], own := false, nest := false, frz := [] }
  | 51 => { modes := [.borrow, .borrow, .borrow], own := false, nest := false, frz := [] }
  | 52 => { modes := [.borrow], own := true, nest := false, frz := [] }
  | 53 => { modes := [.borrow], own := false, nest := false, frz := [], soft := [[1]] }
  | 54 => { modes := [.borrow, .borrow, .borrow], own := false, nest := false, frz := [] }
  | 55 => { modes := [.borrow, .borrow], own := false, nest := false, frz := [] }
  | 56 => { modes := [.move], own := false, nest := false, frz := [] }
  | 57 => { modes := [.borrow, .borrow, .borrow], own := false, nest := false, frz := [] }
  | 58 => { modes := [.borrow], own := true, nest := false, frz := [] }
  | 59 => { modes := [.borrow], own := false, nest := false, frz := [], soft := [[1]] }
  | 60 => { modes := [.borrow, .borrow, .borrow], own := false, nest := false, frz := [] }
  | 61 => { modes := [.borrow, .borrow], own := false, nest := false, frz := [], soft := [[1]] }
  | 62 => { modes := [.borrow, .borrow], own := false, nest := false, frz := [] }
  | 63 => { modes := [.move], own := false, nest := false, frz := [], soft := [[2]] }
  | 64 => { modes := [.borrow, .borrow], own := false, nest := false, frz := [] }
  | 65 => { modes := [.borrow], own := false, nest := false, frz := [] }
  | 66 => { modes := [.pass], own := false, nest := false, frz := [], soft := [[2], [1]] }
  | 67 => { modes := [.borrow, .borrow], own := false, nest := false, frz := [] }
  | 68 => { modes := [.borrow, .borrow], own := false, nest := false, frz := [] }
  | 69 => { modes := [.borrow], own := false, nest := false, frz := [] }
  | 70 => { modes := [.borrow], own := false, nest := false, frz := [] }
  | 71 => { modes := [.borrow, .borrow], own := false, nest := false, frz := [] }
  | 72 => { modes := [.move], own := false, nest := false, frz := [], soft := [[3]] }
  | 73 => { modes := [.borrow, .borrow], own := false, nest := false, frz := [] }
  | 74 => { modes := [], own := false, nest := false, frz := [], soft := [[1]] }
  | 75 => { modes := [.move], own := false, nest := false, frz := [] }
  | 76 => { modes := [.borrow], own := false, nest := false, frz := [] }
  | 77 => { modes := [.borrow], own := false, nest := false, frz := [] }
  | 78 => { modes := [.borrow], own := false, nest := false, frz := [], soft := [[3]] }
  | 79 => { modes := [.pass, .borrow], own := false, nest := false, frz := [] }
  | 80 => { modes := [.borrow, .borrow, .borrow], own := false, nest := false, frz := [31] }
  | 81 => { modes := [], own := false, nest := false, frz := [], soft := [[1]] }
  | 82 => { modes := [.borrow], own := false, nest := false, frz := [], soft := [[1], [0]] }
  | 83 => { modes := [.borrow], own := false, nest := false, frz := [], soft := [[1], [0]] }
  | 84 => { modes := [.pass], own := false, nest := false, frz := [12] }
  | 85 => { modes := [.borrow], own := false, nest := false, frz := [], soft := [[1]] }
  | 86 => { modes := [.borrow], own := false, nest := false, frz := [] }
  | 87 => { modes := [.borrow], own := true, nest := false, frz := [] }
  | 88 => { modes := [.pass], own := false, nest := false, frz := [] }
  | 89 => { modes := [.pass], own := false, nest := false, frz := [] }
  | 90 => { modes := [.borrow], own := false, nest := false, frz := [] }
  | 91 => { modes := [.borrow, .borrow, .borrow], own := false, nest := false, frz := [] }
  | 92 => { modes := [.borrow, .borrow], own := false, nest := false, frz := [] }
  | 93 => { modes := [.borrow], own := false, nest := false, frz := [] }
  | 94 => { modes := [.borrow, .borrow], own := false, nest := false, frz := [] }
  | 95 => { modes := [.pass, .borrow], own := false, nest := false, frz := [] }
  | 96 => { modes := [.borrow, .borrow], own := true, nest := false, frz := [] }
  | 97 => { modes := [.pass, .borrow], own := false, nest := false, frz := [] }
  | 98 => { modes := [.borrow, .borrow], own := false, nest := false, frz := [] }
  | 99 => { modes := [.borrow, .borrow], own := false, nest := false, frz := [] }
  | 100 => { modes := [.borrow, .borrow], own := false, nest := false, frz := [] }
  | 101 => { modes := [.borrow, .borrow], own := false, nest := false, frz := [] }
  | 102 => { modes := [.borrow], own := false, nest := false, frz := [] }
  | 103 => { modes := [.borrow], own := false, nest := false, frz := [] }
  | 104 => { modes := [.borrow, .borrow], own := false, nest := false, frz := [] }
  | 105 => { modes := [.borrow, .borrow], own := false, nest := false, frz := [], soft := [[1]] }
  | 106 => { modes := [.borrow], own := false, nest := false, frz := [] }
  | 107 => { modes := [.borrow, .borrow], own := false, nest := false, frz := [], soft := [[1]] }
  | 108 => { modes := [.borrow, .borrow], own := false, nest := false, frz := [] }
  | 109 => { modes := [.borrow], own := false, nest := false, frz := [] }
  | 110 => { modes := [.pass, .borrow], own := false, nest := false, frz := [] }
  | 111 => { modes := [.borrow], own := false, nest := false, frz := [] }
  | 112 => { modes := [.pass, .borrow], own := false, nest := false, frz := [] }
  | 113 => { modes := [.borrow, .borrow], own := false, nest := false, frz := [] }
  | 114 => { modes := [.borrow], own := false, nest := false, frz := [] }
  | 115 => { modes := [.pass], own := false, nest := false, frz := [] }
  | 116 => { modes := [.borrow, .borrow], own := false, nest := false, frz := [] }
  | 117 => { modes := [.pass, .borrow, .borrow], own := false, nest := false, frz := [] }
  | 118 => { modes := [.borrow], own := false, nest := false, frz := [] }
  | 119 => { modes := [.borrow], own := false, nest := false, frz := [] }
  | 120 => { modes := [.borrow, .borrow], own := false, nest := false, frz := [] }
  | 121 => { modes := [.borrow, .borrow, .borrow], own := false, nest := false, frz := [] }
  | 122 => { modes := [.borrow], own := false, nest := false, frz := [] }
  | 123 => { modes := [.borrow], own := false, nest := false, frz := [] }
  | 124 => { modes := [.borrow, .borrow, .borrow], own := false, nest := false, frz := [] }
  | 125 => { modes := [.borrow], own := false, nest := false, frz := [] }
  | 126 => { modes := [.borrow, .borrow], own := false, nest := false, frz := [] }
  | 127 => { modes := [.borrow, .borrow], own := false, nest := false, frz := [] }
  | 128 => { modes := [.pass, .borrow, .borrow, .borrow], own := false, nest := false, frz := [] }
  | 129 => { modes := [.pass, .borrow, .borrow, .borrow, .borrow], own := false, nest := false, frz := [] }
  | 130 => { modes := [.borrow], own := false, nest := false, frz := [] }
  | 131 => { modes := [.borrow], own := false, nest := false, frz := [] }
  | 132 => { modes := [.pass, .borrow, .borrow, .borrow, .borrow], own := false, nest := false, frz := [] }
  | 133 => { modes := [.pass, .borrow, .borrow, .borrow, .borrow], own := false, nest := false, frz := [] }
  | _ => {}
def prAnn : FuncId → Ann
  | 2 => .n
  | 3 => (.seq .n (.seq (.seq .n (.cond (.seq .n .n) .n)) (.seq .n (.seq .n (.seq .n (.seq (.seq .n (.cond (.seq .n .n) .n)) (.seq (.seq .n (.cond (.seq .n .n) .n)) (.seq .n (.seq .n (.seq (.seq .n (.block (.loop [1, 5, 6, 7, 8, 13, 14, 70, 71, 72] [1, 5, 6, 13, 14] [4] [(13, none, 2), (14, none, 1)] (.seq .n (.seq (.cond .n .n) (.seq (.block (.seq .n (.seq (.seq .n (.cond (.seq .n .n) .n)) (.seq .n (.cond (.seq .n .n) .n))))) (.cut [1, 5, 6, 7, 8, 13, 14, 70, 71, 72] .n))))))) (.cut [1, 5, 6, 13, 14] (.seq .n (.seq (.seq .n (.cond (.seq .n .n) .n)) (.seq .n (.seq (.seq .n (.block (.loop [1, 6, 13, 19, 123, 124, 125] [6, 13, 19] [4] [(19, none, 2)] (.seq .n (.seq (.cond .n .n) (.seq (.block (.seq .n (.seq .n (.cond .n .n)))) (.cut [1, 6, 13, 19, 123, 124, 125] .n))))))) (.cut [6, 13, 19] (.seq .n (.seq .n .n))))))))))))))))))
  | 4 => (.seq .n (.seq (.seq .n (.cond (.seq .n .n) .n)) (.seq .n (.seq .n (.seq .n (.seq .n (.seq .n (.seq (.seq .n (.cond (.seq .n .n) .n)) (.seq (.seq .n (.cond (.seq .n (.seq .n (.seq (.seq .n (.block (.loop [1, 7, 12, 13, 18, 19, 20, 116, 117, 118] [1, 7, 12, 18, 19, 20] [4] [] (.seq .n (.seq (.cond .n .n) (.seq (.block (.seq .n (.seq .n (.cond .n .n)))) (.cut [1, 7, 12, 13, 18, 19, 20, 116, 117, 118] .n))))))) (.cut [1, 7, 12, 18, 19, 20] (.seq .n (.cond (.seq .n .n) .n)))))) .n)) (.cut [1] (.seq .n (.seq .n (.seq .n (.seq .n (.seq .n (.seq .n (.seq (.seq .n (.cond (.seq .n .n) .n)) (.seq (.seq .n (.cond (.seq .n (.seq .n (.seq (.seq .n (.block (.loop [36, 38, 39, 221, 222, 223] [36, 38, 39] [4] [(39, none, 1)] (.seq .n (.seq (.cond .n .n) (.seq (.block (.seq .n (.seq .n (.cond .n .n)))) (.cut [36, 38, 39, 221, 222, 223] .n))))))) (.cut [36, 38, 39] (.seq .n (.cond (.seq .n .n) .n)))))) .n)) (.cut [] (.seq .n .n))))))))))))))))))))
  | 5 => (.seq .n (.seq .n (.seq .n (.seq (.seq .n (.cond (.seq .n .n) .n)) (.seq .n (.seq .n (.seq .n (.seq (.seq .n (.cond (.seq .n .n) .n)) (.seq (.seq .n (.cond (.seq .n .n) .n)) (.seq .n .n))))))))))
  | 6 => (.seq .n (.seq (.seq .n (.cond (.seq .n .n) .n)) (.seq .n (.seq .n (.seq .n (.seq (.seq .n (.cond (.seq .n .n) .n)) (.seq (.seq .n (.cond (.seq .n (.seq .n (.cond (.seq .n .n) .n))) .n)) (.cut [1] (.seq .n (.seq .n (.seq .n (.seq (.seq .n (.cond (.seq .n .n) .n)) (.seq .n (.seq .n .n))))))))))))))
  | 7 => (.seq .n (.seq .n (.seq .n (.seq (.seq .n (.cond (.seq .n .n) .n)) (.seq .n (.seq .n (.seq .n (.seq (.seq .n (.cond (.seq .n .n) .n)) (.seq (.seq .n (.cond (.seq .n .n) .n)) (.seq .n (.seq .n (.seq (.seq .n (.cond (.seq .n .n) .n)) (.seq .n (.seq .n (.seq .n (.seq .n (.seq (.seq .n (.cond (.seq .n .n) .n)) (.seq (.seq .n (.cond (.seq .n .n) .n)) (.seq .n (.seq (.seq .n (.cond (.seq .n .n) .n)) (.seq .n (.seq .n (.seq (.seq .n (.cond (.seq .n .n) .n)) (.seq (.seq .n (.cond (.seq .n .n) .n)) (.seq .n .n)))))))))))))))))))))))))
  | 8 => (.seq .n (.seq (.seq .n (.cond (.seq .n .n) .n)) (.seq .n (.seq .n (.seq .n (.seq .n (.seq .n (.seq (.seq .n (.cond (.seq .n .n) .n)) (.seq (.seq .n (.cond (.seq .n .n) .n)) (.seq (.seq .n (.cond (.seq .n (.seq (.seq .n (.cond (.seq .n .n) .n)) (.seq .n (.block (.loop [1, 22, 154, 155, 156] [1] [4] [] (.seq .n (.seq (.cond .n .n) (.seq (.block (.seq .n (.seq .n (.cond (.seq .n .n) .n)))) .n)))))))) .n)) (.cut [1] (.seq .n (.seq .n (.seq .n (.seq .n .n)))))))))))))))
  | 9 => (.seq .n (.seq .n (.seq .n .n)))
  | 10 => (.seq .n (.seq (.seq .n (.cond (.seq .n .n) .n)) (.seq .n (.seq (.seq .n (.block (.loop [0, 1, 7, 29, 30, 31] [7] [4, 5, 6] [] (.seq .n (.seq (.cond .n .n) (.seq (.block (.seq .n (.seq (.seq .n (.seq .n (.cond (.seq .n .n) .n))) (.seq .n (.seq (.seq .n (.block (.loop [0, 1, 7, 9, 11, 29, 30, 31, 51, 52, 53] [0, 1, 7, 9, 11, 29, 30, 31] [4, 5, 6] [] (.seq .n (.seq (.cond .n .n) (.seq (.block (.seq .n (.seq .n (.cond .n .n)))) (.cut [0, 1, 7, 9, 11, 29, 30, 31, 51, 52, 53] .n))))))) (.cut [0, 1, 7, 9, 11, 29, 30, 31] (.seq .n (.cond .n .n)))))))) (.cut [0, 1, 7, 29, 30, 31] .n))))))) (.cut [7] (.seq .n (.seq (.seq .n (.block (.loop [7, 14, 99, 100, 101] [7, 14] [4, 5, 6] [(14, none, 1)] (.seq .n (.seq (.cond .n .n) (.seq (.block (.seq .n (.seq .n (.cond .n .n)))) (.cut [7, 14, 99, 100, 101] .n))))))) (.cut [7, 14] (.seq .n .n)))))))))
  | 11 => (.seq .n (.seq (.seq .n (.cond (.seq .n .n) .n)) (.seq .n (.seq .n (.seq (.seq .n (.block (.loop [0, 1, 7, 8, 27, 28, 29] [7, 8] [4, 5, 6] [] (.seq .n (.seq (.cond .n .n) (.seq (.block (.seq .n (.seq .n (.seq (.seq .n (.cond (.seq .n .n) .n)) (.seq .n (.seq (.seq .n (.block (.loop [0, 1, 7, 8, 10, 12, 27, 28, 29, 49, 50, 51] [0, 1, 7, 8, 10, 12, 27, 28, 29] [4, 5, 6] [] (.seq .n (.seq (.cond .n .n) (.seq (.block (.seq .n (.seq .n (.cond .n .n)))) (.cut [0, 1, 7, 8, 10, 12, 27, 28, 29, 49, 50, 51] .n))))))) (.cut [0, 1, 7, 8, 10, 12, 27, 28, 29] (.seq (.seq .n (.cond (.seq .n .n) .n)) (.cut [0, 1, 7, 8, 12, 27, 28, 29] .n))))))))) (.cut [0, 1, 7, 8, 27, 28, 29] .n))))))) (.cut [7, 8] (.seq .n .n)))))))
  | 12 => (.seq .n (.seq (.seq .n (.cond (.seq .n .n) .n)) (.seq (.seq .n (.block (.loop [0, 1, 12, 13] [] [4] [] (.seq .n (.seq (.cond .n .n) (.seq (.block (.seq .n (.seq .n (.cond (.seq .n .n) .n)))) .n)))))) (.cut [] (.seq .n .n)))))
  | 13 => (.seq .n (.seq (.seq .n (.block (.loop [1, 7, 8, 9] [] [4] [] (.seq .n (.seq (.cond .n .n) (.seq (.block (.seq .n (.seq .n (.cond (.seq .n .n) .n)))) .n)))))) (.cut [] (.seq .n .n))))
  | 14 => (.seq .n (.seq (.seq .n (.cond (.seq .n .n) .n)) (.seq .n .n)))
  | 15 => (.seq .n (.seq (.seq .n (.cond (.seq .n .n) .n)) (.seq .n (.seq (.seq .n (.block (.loop [0, 5, 6, 14] [5, 6] [2, 3, 4] [] (.seq .n (.seq (.cond .n .n) (.seq (.block (.seq .n (.seq .n (.seq (.seq .n (.block (.loop [0, 5, 6, 7, 8, 14, 17, 18, 19] [0, 5, 6, 7, 8, 14] [2, 3, 4] [] (.seq .n (.seq (.cond .n .n) (.seq (.block (.seq .n (.seq .n (.cond .n .n)))) (.cut [0, 5, 6, 7, 8, 14, 17, 18, 19] .n))))))) (.cut [0, 5, 6, 7, 8, 14] (.seq .n (.cond .n .n))))))) (.cut [0, 5, 6, 14] .n))))))) (.cut [5, 6] (.seq .n .n))))))
  | 16 => (.seq .n (.seq .n .n))
  | 17 => (.seq .n (.seq (.seq .n (.cond (.seq .n .n) .n)) (.seq .n (.seq (.seq .n (.block (.loop [0, 5, 6, 16, 17, 18] [5, 6] [2, 3, 4] [] (.seq .n (.seq (.cond .n .n) (.seq (.block (.seq .n (.seq .n .n))) .n)))))) (.cut [5, 6] (.seq .n .n))))))
  | 18 => (.seq .n (.seq (.seq .n (.cond (.seq .n .n) .n)) (.seq .n (.seq .n (.seq (.seq .n (.block (.loop [0, 5, 6, 17, 18, 19] [5, 6] [2, 3, 4] [] (.seq .n (.seq (.cond .n .n) (.seq (.block (.seq .n (.seq .n (.seq .n (.seq .n (.cond .n .n)))))) (.cut [0, 5, 6, 17, 18, 19] .n))))))) (.cut [5, 6] (.seq .n .n)))))))
  | 19 => (.seq .n (.seq (.seq .n (.cond (.seq .n .n) .n)) (.seq .n (.seq .n (.seq (.seq .n (.block (.loop [0, 5, 6, 7] [5, 6] [2, 3, 4] [] (.seq (.seq .n (.cond .n .n)) (.seq (.block (.seq .n (.seq (.seq .n (.block (.loop [0, 5, 6, 7, 8, 18, 19, 20] [0, 5, 6, 7, 8] [2, 3, 4] [] (.seq .n (.seq (.cond .n .n) (.seq (.block (.seq .n (.seq .n (.cond .n .n)))) (.cut [0, 5, 6, 7, 8, 18, 19, 20] .n))))))) (.cut [0, 5, 6, 7, 8] (.seq .n (.cond (.seq .n .n) .n)))))) (.cut [0, 5, 6, 7] .n)))))) (.cut [5, 6] (.seq .n .n)))))))
  | 20 => (.seq .n (.seq (.seq .n (.cond (.seq .n .n) .n)) (.seq .n .n)))
  | 21 => (.seq .n (.seq .n (.seq .n .n)))
  | 22 => (.seq .n (.seq (.seq .n (.cond (.seq .n .n) .n)) (.seq (.seq .n (.block (.loop [0, 1, 20, 21, 22] [] [4, 5] [] (.seq .n (.seq (.cond .n .n) (.seq (.block (.seq .n (.seq (.seq .n (.cond (.seq .n .n) .n)) (.seq .n (.block (.loop [0, 1, 6, 7, 20, 21, 22, 34, 35, 36] [0, 1, 20, 21, 22] [4, 5] [] (.seq .n (.seq (.cond .n .n) (.seq (.block (.seq .n (.seq .n (.cond (.seq .n .n) .n)))) .n))))))))) (.cut [0, 1, 20, 21, 22] .n))))))) (.cut [] (.seq .n .n)))))
  | 23 => (.seq .n (.seq .n (.seq .n (.seq .n .n))))
  | 24 => (.seq .n (.seq .n (.seq (.seq .n (.cond (.seq .n .n) .n)) (.seq .n .n))))
  | 25 => (.seq .n (.seq .n (.seq (.seq .n (.cond (.seq .n .n) .n)) (.seq .n .n))))
  | 26 => (.seq .n (.seq .n (.seq (.seq .n (.cond (.seq .n .n) .n)) (.seq (.seq .n (.block (.loop [0, 1, 5] [1] [4] [] (.seq (.seq .n (.cond .n .n)) (.seq (.block (.seq .n (.seq .n (.cond (.seq .n .n) .n)))) .n))))) (.cut [1] (.seq .n .n))))))
  | 27 => (.seq .n (.seq .n (.seq (.seq .n (.cond (.seq .n .n) .n)) (.seq .n (.seq (.seq .n (.block (.loop [7, 22, 23, 24] [7] [2, 3] [] (.seq .n (.seq (.cond .n .n) (.seq (.block (.seq .n (.seq .n (.cond .n .n)))) (.cut [7, 22, 23, 24] .n))))))) (.cut [7] (.seq .n .n)))))))
  | 28 => (.seq .n (.seq .n (.seq (.seq .n (.block (.loop [0, 3, 4] [3] [2] [] (.seq (.seq .n (.cond .n .n)) (.seq (.block .n) .n))))) (.cut [3] (.seq .n .n)))))
  | 29 => (.seq .n (.seq .n (.seq (.seq .n (.cond (.seq .n .n) .n)) (.seq .n .n))))
  | 30 => (.seq .n (.seq (.seq .n (.cond (.seq .n .n) .n)) (.seq (.seq .n (.block (.loop [0, 1, 5] [] [4] [] (.seq (.seq .n (.cond .n .n)) (.seq (.block (.seq .n (.cond (.seq .n .n) .n))) .n))))) (.cut [] (.seq .n .n)))))
  | 31 => (.seq .n (.seq .n .n))
  | 32 => (.seq .n (.seq (.seq .n (.cond (.seq .n .n) .n)) (.seq .n (.seq (.seq .n (.block (.loop [4, 12, 13, 14] [4] [2, 3] [(4, none, 1)] (.seq .n (.seq (.cond .n .n) (.seq (.block (.seq .n (.seq .n (.seq .n (.block (.seq .n (.cond (.seq .n .n) (.seq (.seq .n (.cond .n (.seq .n (.cond .n (.seq .n (.cond .n .n)))))) (.cut [4, 6, 12, 13, 14, 25, 48] (.cond .n (.seq (.seq .n (.cond .n .n)) (.cut [4, 6, 12, 13, 14, 59] (.cond .n .n))))))))))))) (.cut [4, 12, 13, 14] .n))))))) (.cut [4] (.seq .n .n))))))
  | 33 => (.seq .n (.seq (.seq .n (.cond (.seq .n .n) .n)) (.seq .n .n)))
  | 34 => (.seq .n (.seq .n (.seq (.block (.loop [0, 4] [4] [2, 3] [(4, none, 3)] (.seq (.seq .n (.cond .n .n)) (.block (.seq .n (.seq (.seq .n (.cond (.seq .n .n) .n)) (.seq .n .n))))))) (.cut [4] (.seq (.seq .n (.cond (.seq .n .n) .n)) (.seq .n .n))))))
  | 35 => (.seq .n (.seq (.seq .n (.cond (.seq .n .n) .n)) (.seq (.seq .n (.block (.loop [0, 1, 12, 13] [] [4] [] (.seq .n (.seq (.cond .n .n) (.seq (.block (.seq .n (.seq .n (.cond (.seq .n .n) .n)))) .n)))))) (.cut [] (.seq .n .n)))))
  | 36 => (.seq .n (.seq .n (.seq .n (.seq (.seq .n (.cond .n .n)) (.cut [4] (.seq .n .n))))))
  | 37 => (.seq .n (.seq .n (.seq (.seq .n (.block (.loop [0, 4, 5] [0, 4] [2, 3] [(4, none, 3)] (.seq (.seq .n (.cond .n .n)) (.block (.seq .n (.seq .n (.seq .n (.seq (.seq .n (.block (.seq .n (.cond .n (.seq (.seq .n (.cond .n (.seq .n (.cond .n (.seq .n (.cond .n (.seq .n (.cond .n (.seq .n (.cond .n .n)))))))))) (.cut [0, 4, 5, 6, 7, 29] (.cond .n .n))))))) (.cut [0, 4, 5, 6, 7] (.seq (.seq .n (.cond (.seq .n .n) .n)) (.seq .n (.seq (.block (.loop [0, 4, 5, 6, 7, 8] [0, 4, 5, 6, 8] [2, 3] [] (.seq (.seq .n (.cond .n .n)) (.seq (.block (.seq .n .n)) .n)))) (.cut [0, 4, 5, 6, 8] (.seq (.seq .n (.block (.seq .n (.cond .n (.seq (.seq .n (.cond .n .n)) (.cut [0, 4, 5, 6, 8, 64] (.cond (.seq (.seq .n (.cond (.seq .n .n) .n)) .n) .n))))))) (.cut [0, 4, 5, 6] .n)))))))))))))))) (.cut [0, 4] (.seq (.seq .n (.cond (.seq .n .n) .n)) (.seq .n .n))))))
  | 38 => (.seq .n (.seq (.seq .n (.cond (.seq .n .n) .n)) (.seq .n (.seq (.seq .n (.cond (.seq .n .n) .n)) (.seq .n .n)))))
  | 39 => (.seq .n (.seq (.seq .n (.cond (.seq .n .n) .n)) (.seq .n (.seq .n .n))))
  | 40 => (.seq .n (.seq (.seq .n (.cond (.seq .n .n) .n)) (.seq (.seq .n (.block (.loop [0, 1, 5] [] [4] [] (.seq (.seq .n (.cond .n .n)) (.seq (.block (.seq .n (.cond (.seq .n .n) .n))) .n))))) (.cut [] (.seq .n .n)))))
  | 41 => (.seq .n (.seq (.seq .n (.block (.loop [0, 1, 5] [1] [4] [] (.seq (.seq .n (.cond .n .n)) (.seq (.block (.seq .n (.seq .n (.seq .n (.seq .n (.seq .n .n)))))) .n))))) (.cut [1] (.seq .n .n))))
  | 42 => (.seq .n (.seq (.seq .n (.block (.loop [0, 1, 5] [1] [4] [] (.seq (.seq .n (.cond .n .n)) (.seq (.block (.seq .n .n)) .n))))) (.cut [1] (.seq .n .n))))
  | 43 => (.seq .n (.seq (.seq .n (.block (.loop [0, 1, 5] [1] [4] [] (.seq (.seq .n (.cond .n .n)) (.seq (.block (.seq (.seq .n (.cond (.seq .n .n) .n)) .n)) .n))))) (.cut [1] (.seq .n .n))))
  | 44 => (.seq .n (.seq .n (.seq .n .n)))
  | 45 => (.seq .n (.seq (.seq .n (.cond (.seq .n .n) .n)) (.seq .n (.seq (.seq .n (.block (.loop [2, 10, 30, 31] [2] [6, 7, 8, 9] [(10, some 2, 1)] (.seq .n (.seq (.cond .n .n) (.seq (.block (.seq .n (.seq .n (.seq .n (.block (.seq .n (.cond .n (.seq .n (.cond (.seq .n .n) (.seq .n .n)))))))))) .n)))))) (.cut [2] (.seq .n .n))))))
  | 46 => (.seq .n (.seq (.seq .n (.cond (.seq .n .n) .n)) (.seq (.seq .n (.block (.loop [0, 1, 2, 28, 29, 30] [0, 1, 2] [6, 7, 8, 9] [] (.seq .n (.seq (.cond .n .n) (.seq (.block (.seq .n (.seq .n (.cond (.seq .n .n) .n)))) .n)))))) (.cut [0, 1, 2] (.seq .n (.seq .n .n))))))
  | 47 => (.seq .n (.seq (.seq .n (.cond (.seq .n .n) .n)) (.seq .n .n)))
  | 48 => (.seq .n (.seq .n .n))
  | 49 => (.seq .n (.seq .n (.seq .n (.seq (.seq .n (.cond .n .n)) (.cut [0, 3, 4] (.seq (.block (.loop [0, 3, 4] [0, 3] [2] [(3, none, 2)] (.seq (.seq .n (.cond .n .n)) (.seq (.block (.seq .n .n)) .n)))) (.cut [0, 3] (.seq (.seq .n (.cond .n .n)) (.cut [3] (.seq .n .n))))))))))
  | 50 => (.seq .n (.seq .n .n))
  | 51 => (.seq .n (.seq .n .n))
  | 52 => (.seq .n (.seq .n .n))
  | 53 => (.seq .n (.seq .n (.seq (.seq .n (.block (.loop [1, 3, 9, 10] [1, 3] [2] [] (.seq .n (.seq (.cond .n .n) (.seq (.block (.seq .n .n)) .n)))))) (.cut [1, 3] (.seq .n (.seq .n .n))))))
  | 54 => (.seq .n (.seq .n (.block (.loop [0, 1, 2, 7] [] [6] [] (.seq (.block (.seq .n (.seq (.seq .n (.block (.loop [0, 1, 2, 7, 8, 13, 14, 15] [0, 1, 2, 7, 8] [6] [] (.seq .n (.seq (.cond .n .n) (.seq (.block (.seq .n .n)) .n)))))) (.cut [0, 1, 2, 7, 8] (.seq .n (.cond (.seq .n .n) .n)))))) (.cut [0, 1, 2, 7] .n))))))
  | 55 => (.seq .n (.seq .n .n))
  | 56 => (.seq .n (.seq (.seq .n (.block (.loop [0, 5, 6, 7] [0] [2] [] (.seq .n (.seq (.cond .n .n) (.seq (.block (.seq .n (.seq .n (.cond (.seq .n .n) .n)))) .n)))))) (.cut [0] (.seq .n .n))))
  | 57 => (.seq .n (.seq .n .n))
  | 58 => (.seq .n (.seq .n (.seq (.block (.loop [0, 3] [3] [2] [(3, none, 1)] (.seq (.seq .n (.cond .n .n)) (.seq (.block .n) .n)))) (.cut [3] (.seq .n .n)))))
  | 59 => (.seq .n (.seq .n (.seq (.seq .n (.block (.loop [0, 3, 8, 9, 10] [3] [2] [(3, none, 1)] (.seq .n (.seq (.cond .n .n) (.seq (.block (.seq .n (.seq .n (.seq (.block (.loop [0, 3, 4, 5, 6, 8, 9, 10] [0, 3, 4, 6, 8, 9, 10] [2] [] (.seq (.seq .n (.cond .n .n)) (.block .n)))) (.cut [0, 3, 4, 6, 8, 9, 10] (.seq .n (.seq .n (.seq .n .n)))))))) (.cut [0, 3, 8, 9, 10] .n))))))) (.cut [3] (.seq .n .n)))))
  | 60 => (.seq .n (.seq .n (.seq (.seq .n (.block (.loop [0, 1, 2, 7, 8] [7] [6] [] (.seq (.seq .n (.cond .n .n)) (.block (.seq .n (.seq .n (.block (.loop [0, 1, 2, 7, 8, 12, 13, 14] [0, 1, 2, 7, 8] [6] [] (.seq .n (.seq (.cond .n .n) (.seq (.block (.seq .n (.seq .n (.cond (.seq .n .n) .n)))) (.cut [0, 1, 2, 7, 8, 12, 13, 14] .n))))))))))))) (.cut [7] (.seq .n .n)))))
  | 61 => (.seq .n (.seq .n (.seq (.block (.loop [0, 1, 5] [0, 1, 5] [4] [] (.seq (.seq .n (.cond .n .n)) (.block .n)))) (.cut [0, 1, 5] (.seq (.seq .n (.cond (.seq .n .n) .n)) (.seq .n (.seq .n (.seq .n (.seq .n .n)))))))))
  | 62 => (.seq .n (.seq (.seq .n (.block (.loop [0, 1, 9, 10, 11] [] [4] [] (.seq .n (.seq (.cond .n .n) (.seq (.block (.seq .n (.seq (.seq .n (.cond (.seq .n .n) .n)) (.seq .n (.block (.loop [0, 1, 5, 6, 9, 10, 11, 23, 24, 25] [0, 1, 9, 10, 11] [4] [] (.seq .n (.seq (.cond .n .n) (.seq (.block (.seq .n (.seq .n (.cond (.seq .n .n) .n)))) .n))))))))) (.cut [0, 1, 9, 10, 11] .n))))))) (.cut [] (.seq .n .n))))
  | 63 => (.seq .n (.seq .n (.seq .n .n)))
  | 64 => (.seq .n (.seq .n .n))
  | 65 => (.seq .n (.seq .n .n))
  | 66 => (.seq .n (.seq .n (.seq .n (.seq (.seq .n (.cond (.seq .n (.seq .n (.block (.loop [0, 4, 5, 23, 24] [4, 5] [2, 3] [(5, none, 1)] (.seq .n (.seq (.cond .n .n) (.seq (.block .n) .n))))))) .n)) (.cut [4, 5] (.seq .n .n))))))
  | 67 => (.seq .n (.seq .n .n))
  | 68 => (.seq .n (.seq .n (.seq (.seq .n (.cond (.seq .n .n) .n)) (.seq .n .n))))
  | 69 => (.seq .n (.seq .n (.seq .n (.seq .n (.seq .n (.seq .n .n))))))
  | 70 => (.seq .n (.seq (.seq .n (.cond .n .n)) (.cut [0] (.seq .n (.seq (.seq .n (.block (.loop [0, 3, 4] [3] [2] [] (.seq (.seq .n (.cond .n .n)) (.seq (.block .n) .n))))) (.cut [3] (.seq .n .n)))))))
  | 71 => (.seq .n (.seq (.seq .n (.cond (.seq .n .n) .n)) (.seq (.seq .n (.cond (.seq .n .n) .n)) (.seq (.seq .n (.cond (.seq .n .n) .n)) (.seq .n .n)))))
  | 72 => (.seq .n (.seq .n (.seq .n .n)))
  | 73 => (.seq .n (.seq (.seq .n (.block (.loop [0, 1, 7, 8] [] [4] [] (.seq .n (.seq (.cond .n .n) (.seq (.block (.seq .n (.seq .n (.cond (.seq .n .n) .n)))) .n)))))) (.cut [] (.seq .n .n))))
  | 74 => (.seq .n (.seq .n .n))
  | 75 => (.seq .n (.seq (.seq .n (.block (.loop [0, 5, 6, 7] [0] [2] [] (.seq .n (.seq (.cond .n .n) (.seq (.block (.seq .n (.seq .n (.cond (.seq .n .n) .n)))) .n)))))) (.cut [0] (.seq .n .n))))
  | 76 => (.seq .n (.seq .n (.seq (.seq .n (.block (.loop [3, 7, 8, 9] [3] [2] [(3, none, 1)] (.seq .n (.seq (.cond .n .n) (.seq (.block (.seq .n (.seq .n (.seq .n (.block (.seq .n (.cond (.seq .n .n) (.seq (.seq .n (.cond .n (.seq .n (.cond .n (.seq .n (.cond .n .n)))))) (.cut [3, 5, 7, 8, 9, 20, 43] (.cond .n (.seq (.seq .n (.cond .n .n)) (.cut [3, 5, 7, 8, 9, 54] (.cond .n .n))))))))))))) (.cut [3, 7, 8, 9] .n))))))) (.cut [3] (.seq .n .n)))))
  | 77 => (.seq .n (.seq .n (.seq .n (.seq (.seq .n (.block (.seq .n (.cond .n (.seq (.seq .n (.cond .n (.seq .n (.cond .n (.seq .n (.cond .n (.seq .n (.cond .n (.seq .n (.cond .n .n)))))))))) (.cut [0, 2, 4, 5, 17] (.cond .n .n))))))) (.cut [0, 2, 4, 5] (.seq (.seq .n (.cond (.seq .n .n) .n)) (.seq .n (.seq (.seq .n (.block (.loop [2, 4, 5, 6, 32, 33, 34] [2, 4, 5, 6] [2, 3] [] (.seq .n (.seq (.cond .n .n) (.seq (.block (.seq .n .n)) .n)))))) (.cut [2, 4, 5, 6] (.seq (.seq .n (.block (.seq .n (.cond .n (.seq (.seq .n (.cond .n .n)) (.cut [2, 4, 5, 6, 53] (.cond (.seq (.seq .n (.cond (.seq .n .n) .n)) .n) .n))))))) (.cut [2, 4, 5] (.seq .n .n))))))))))))
  | 78 => (.seq .n (.seq .n (.seq .n (.seq (.seq .n (.cond .n .n)) (.cut [0, 3, 4] (.seq .n (.seq (.block (.loop [0, 3, 4, 5] [0, 3] [2] [(3, none, 3)] (.seq (.seq .n (.cond .n .n)) (.block (.seq .n (.seq (.seq .n (.seq .n (.cond .n .n))) (.cut [0, 3, 4, 5, 6] (.seq (.seq .n (.block (.seq .n (.cond .n (.seq (.seq .n (.cond .n .n)) (.cut [0, 3, 4, 5, 6, 42, 49] (.cond .n (.seq .n (.cond .n (.seq .n (.cond .n (.seq (.seq .n (.cond .n .n)) (.cut [0, 3, 4, 5, 6, 67] (.cond .n .n)))))))))))))) (.cut [0, 3, 4, 5, 6] (.seq .n (.seq .n .n))))))))))) (.cut [0, 3] (.seq .n (.seq (.seq .n (.cond .n .n)) (.cut [3] (.seq .n .n))))))))))))
  | 79 => (.seq .n (.seq .n .n))
  | 80 => (.seq .n (.seq (.seq .n (.block (.loop [0, 1, 2, 7] [1] [6] [] (.seq (.seq .n (.cond .n .n)) (.seq (.block (.seq .n (.seq .n (.seq .n (.block (.seq .n (.cond .n (.seq .n (.cond .n .n))))))))) (.cut [0, 1, 2, 7] .n)))))) (.cut [1] (.seq .n .n))))
  | 81 => (.seq .n (.seq .n .n))
  | 82 => (.seq .n (.seq .n (.seq (.seq .n (.block (.loop [0, 4, 13, 14] [0, 4] [2, 3] [(4, none, 1)] (.seq .n (.seq (.cond .n .n) (.seq (.block .n) .n)))))) (.cut [0, 4] (.seq .n (.seq .n (.seq (.block (.loop [0, 4, 5] [4] [2, 3] [(5, none, 1)] (.seq (.seq .n (.cond .n .n)) (.block (.seq .n (.seq .n (.seq .n (.seq .n (.seq (.seq .n (.cond (.seq .n .n) .n)) (.seq .n (.block (.loop [0, 4, 5, 9, 59, 60, 61] [0, 4, 5] [2, 3] [(5, none, 1)] (.seq .n (.seq (.cond .n .n) (.seq (.block (.seq .n (.seq (.seq .n (.cond (.seq .n .n) .n)) (.seq .n (.cond (.seq .n .n) .n))))) (.cut [0, 4, 5, 9, 59, 60, 61] .n)))))))))))))))) (.cut [4] (.seq .n .n)))))))))
  | 83 => (.seq .n (.seq .n (.seq .n (.seq (.seq .n (.block (.loop [0, 4, 5] [4] [2, 3] [(5, none, 1)] (.seq (.seq .n (.cond .n .n)) (.seq (.block (.seq .n (.seq .n (.seq (.seq .n (.cond (.seq .n .n) .n)) (.seq .n (.block (.loop [0, 4, 5, 6, 7, 8, 56, 57, 58] [0, 4, 5] [2, 3] [(5, none, 1)] (.seq .n (.seq (.cond .n .n) (.seq (.block (.seq .n (.seq (.seq .n (.cond (.seq .n .n) .n)) (.seq .n (.cond (.seq .n .n) .n))))) (.cut [0, 4, 5, 6, 7, 8, 56, 57, 58] .n))))))))))) (.cut [0, 4, 5] .n)))))) (.cut [4] (.seq .n .n))))))
  | 84 => (.seq .n (.seq (.seq .n (.cond (.seq .n .n) .n)) (.seq .n (.seq (.block (.loop [0, 3] [3] [2] [] (.seq (.seq .n (.cond .n .n)) (.block (.seq .n .n))))) (.cut [3] (.seq .n .n))))))
  | 85 => (.seq .n (.seq .n (.seq (.seq .n (.block (.loop [0, 3, 4] [0, 3] [2] [(3, none, 1)] (.seq (.seq .n (.cond .n .n)) (.seq (.block .n) .n))))) (.cut [0, 3] (.seq (.seq .n (.cond .n .n)) (.cut [3] (.seq .n .n)))))))
  | 86 => (.seq .n (.seq .n .n))
  | 87 => (.seq .n (.seq (.seq .n (.cond (.seq .n .n) .n)) (.seq .n .n)))
  | 88 => (.seq .n (.seq (.seq .n (.cond (.seq .n .n) .n)) (.seq .n (.seq .n (.seq (.seq .n (.cond (.seq .n .n) .n)) (.seq .n (.seq (.seq .n (.block (.seq .n (.cond .n (.seq .n (.cond .n (.seq .n (.cond .n (.seq .n (.cond (.seq .n .n) (.seq .n (.cond (.seq .n (.seq (.seq .n (.cond .n .n)) (.cut [0, 6] .n))) (.seq .n (.cond .n (.seq .n (.cond (.seq .n (.cond .n .n)) (.seq .n (.cond .n (.seq .n (.cond (.seq .n .n) .n)))))))))))))))))))) (.cut [] (.seq .n .n)))))))))
  | 89 => (.seq .n (.seq .n (.seq .n (.seq .n (.seq .n .n)))))
  | 90 => (.seq .n (.seq .n .n))
  | 91 => (.seq .n (.seq .n (.seq .n (.block (.loop [0, 2, 9, 10] [] [6, 7, 8] [(9, some 0, 1)] (.seq (.block (.seq (.seq .n (.cond (.seq .n .n) .n)) (.seq .n (.seq .n (.cond (.seq .n .n) .n))))) .n))))))
  | 92 => (.seq .n (.seq .n .n))
  | 93 => (.seq .n (.seq .n .n))
  | 94 => (.seq .n (.seq (.seq .n (.block (.seq .n (.cond (.seq .n .n) (.seq .n (.cond (.seq .n .n) .n)))))) (.seq (.seq .n (.cond (.seq .n .n) .n)) (.seq (.seq .n (.block (.seq .n (.cond (.seq .n .n) (.seq (.seq .n (.cond .n .n)) (.cut [1, 2, 36, 42] (.cond (.seq .n .n) (.seq (.seq .n (.cond .n .n)) (.cut [1, 2, 48] (.cond (.seq .n .n) .n)))))))))) (.cut [2] (.seq .n .n))))))
  | 95 => (.seq .n (.seq (.seq .n (.cond (.seq .n .n) .n)) (.seq .n (.seq (.seq .n (.cond .n .n)) (.cut [1, 5] (.seq .n .n))))))
  | 96 => (.seq .n (.seq (.seq .n (.cond .n .n)) (.cut [0, 1] (.seq .n (.seq (.seq .n (.cond .n .n)) (.cut [0, 6] (.seq .n (.seq .n (.seq (.block (.loop [7, 8] [7] [4] [] (.seq (.seq .n (.cond .n .n)) (.block .n)))) (.cut [7] (.seq .n .n)))))))))))
  | 97 => .n
  | 98 => (.seq .n (.seq .n .n))
  | 99 => (.seq .n (.seq .n (.seq .n (.seq (.seq .n (.cond (.seq (.seq .n (.cond (.seq .n .n) .n)) (.seq .n .n)) .n)) (.seq (.seq .n (.cond (.seq .n .n) .n)) (.seq (.seq .n (.cond (.seq .n .n) .n)) (.seq (.seq .n (.cond (.seq .n .n) .n)) (.seq .n .n))))))))
  | 100 => (.seq .n (.seq (.seq .n (.block (.loop [0, 1, 7, 8] [] [4] [] (.seq .n (.seq (.cond .n .n) (.seq (.block (.seq .n (.seq .n (.cond (.seq .n .n) .n)))) .n)))))) (.cut [] (.seq .n .n))))
  | 101 => (.seq .n (.seq (.seq .n (.block (.seq .n (.cond (.seq .n .n) (.seq (.seq .n (.cond .n .n)) (.cut [1, 2, 6, 17] (.cond (.seq .n .n) (.seq .n (.cond (.seq .n .n) (.seq .n (.cond (.seq .n .n) (.seq (.seq .n (.cond .n .n)) (.cut [1, 2, 6, 53] (.cond (.seq .n .n) (.seq (.seq .n (.cond .n .n)) (.cut [2, 70] (.cond (.seq .n .n) .n))))))))))))))))) (.cut [] (.seq .n .n))))
  | 102 => (.seq .n (.seq (.seq .n (.block (.loop [0, 5, 6, 7] [] [2] [] (.seq .n (.seq (.cond .n .n) (.seq (.block (.seq .n (.seq .n (.cond (.seq .n .n) .n)))) .n)))))) (.cut [] (.seq .n .n))))
  | 103 => (.seq .n (.seq (.seq .n (.block (.seq (.seq .n (.cond .n .n)) (.cut [5, 6] (.cond (.seq .n .n) (.seq (.seq .n (.cond .n (.seq .n (.cond .n .n)))) (.cut [5, 9] (.cond (.seq .n .n) (.seq .n (.cond (.seq .n .n) (.seq (.seq .n (.cond .n .n)) (.cut [15] (.cond (.seq .n .n) .n))))))))))))) (.cut [] (.seq .n .n))))
  | 104 => (.seq .n (.seq .n .n))
  | 105 => (.seq .n (.seq (.seq .n (.block (.seq .n (.cond (.seq .n .n) (.seq .n (.cond (.seq .n .n) (.seq .n (.cond (.seq .n .n) .n)))))))) (.seq .n .n)))
  | 106 => (.seq .n (.seq (.seq .n (.block (.seq (.seq .n (.cond .n .n)) (.cut [5, 6] (.cond (.seq .n .n) (.seq (.seq .n (.cond .n (.seq .n (.cond .n .n)))) (.cut [5, 9] (.cond (.seq .n .n) (.seq .n (.cond (.seq .n .n) (.seq (.seq .n (.cond .n .n)) (.cut [15] (.cond (.seq .n .n) .n))))))))))))) (.cut [] (.seq .n .n))))
  | 107 => (.seq .n (.seq (.seq .n (.block (.seq .n (.cond (.seq .n .n) (.seq .n (.cond (.seq .n .n) (.seq .n (.cond (.seq .n .n) .n)))))))) (.seq .n .n)))
  | 108 => (.seq .n (.seq .n .n))
  | 109 => (.seq .n (.seq .n .n))
  | 110 => (.seq .n (.seq .n (.seq .n (.seq .n (.seq .n (.seq .n .n))))))
  | 111 => (.seq .n (.seq (.seq .n (.cond (.seq .n .n) .n)) (.seq .n .n)))
  | 112 => (.seq .n (.seq (.seq .n (.cond (.seq .n .n) .n)) (.seq .n (.seq .n (.seq .n (.seq (.seq .n (.cond (.seq .n .n) .n)) (.seq .n (.seq .n (.seq (.seq .n (.cond .n .n)) (.cut [0, 6, 7, 9, 10] (.seq .n (.seq (.seq .n (.block (.seq .n (.cond (.seq .n .n) (.seq .n (.cond .n (.seq .n (.cond .n (.seq .n (.cond .n (.seq .n (.cond .n (.seq .n (.cond (.seq .n (.cond .n .n)) (.seq .n (.cond (.seq .n (.cond .n .n)) (.seq .n (.cond (.seq .n (.seq (.block (.seq .n (.cond (.seq .n .n) (.seq .n (.cond (.seq .n .n) .n))))) .n)) .n)))))))))))))))))) (.cut [0, 11] (.seq .n (.seq .n .n)))))))))))))))
  | 113 => (.seq .n (.seq (.seq .n (.block (.loop [0, 1, 7, 8] [] [4] [] (.seq .n (.seq (.cond .n .n) (.seq (.block (.seq .n (.seq .n (.cond (.seq .n .n) .n)))) .n)))))) (.cut [] (.seq .n .n))))
  | 114 => (.seq .n (.seq .n (.seq .n .n)))
  | 115 => (.seq .n (.seq .n (.seq (.seq .n (.cond .n .n)) (.cut [0, 3] (.seq .n (.seq .n (.seq (.seq .n (.cond (.seq .n .n) .n)) (.seq .n .n))))))))
  | 116 => (.seq .n (.seq (.cond (.seq .n (.seq .n .n)) .n) (.seq .n (.seq .n .n))))
  | 117 => (.seq .n (.seq .n (.seq (.block (.loop [0, 1, 2, 6, 7, 8] [0, 1, 2, 6, 7] [] [] (.seq (.seq .n (.cond .n .n)) (.block (.seq .n (.seq .n .n)))))) (.cut [0, 1, 2, 6, 7] (.seq .n (.block (.loop [0, 1, 2, 6] [] [] [] (.seq (.seq .n (.cond .n .n)) (.block (.seq .n (.seq (.block (.loop [0, 1, 2, 6, 7, 8] [0, 1, 2, 6, 7] [] [] (.seq (.seq .n (.cond .n .n)) (.block (.seq .n (.seq .n .n)))))) (.cut [0, 1, 2, 6, 7] (.seq (.seq .n (.seq .n (.cond .n .n))) (.cut [0, 1, 2, 6] .n))))))))))))))
  | 118 => (.seq .n (.seq .n .n))
  | 119 => (.seq .n (.seq .n .n))
  | 120 => (.seq .n (.seq (.seq .n (.block (.loop [0, 1, 7, 8] [] [4] [] (.seq .n (.seq (.cond .n .n) (.seq (.block (.seq .n (.seq .n (.cond (.seq .n .n) .n)))) .n)))))) (.cut [] (.seq .n .n))))
  | 121 => (.seq .n (.seq (.seq .n (.block (.seq .n (.cond (.seq .n .n) (.seq .n (.cond (.seq .n .n) (.seq .n (.cond (.seq .n .n) (.seq (.seq .n (.cond .n .n)) (.cut [0, 1, 2, 8, 33] (.cond (.seq (.seq .n (.cond (.seq .n .n) .n)) (.seq (.seq .n (.cond (.seq .n .n) .n)) (.seq .n .n))) (.seq .n (.cond (.seq (.seq .n (.cond (.seq .n .n) .n)) (.seq .n .n)) (.seq .n (.cond (.seq .n .n) (.seq .n (.cond (.seq .n .n) (.seq .n (.cond (.seq .n .n) .n))))))))))))))))))) (.cut [1, 2] (.seq .n .n))))
  | 122 => (.seq .n (.seq (.seq .n (.block (.seq .n (.cond (.seq .n .n) (.seq .n (.cond (.seq .n .n) .n)))))) (.seq .n .n)))
  | 123 => (.seq .n (.seq (.seq .n (.cond (.seq .n .n) .n)) (.seq .n .n)))
  | 124 => (.seq .n (.seq (.seq .n (.block (.seq .n (.cond (.seq .n .n) (.seq .n (.cond (.seq .n .n) (.seq .n (.cond (.seq .n .n) (.seq .n (.cond (.seq .n .n) (.seq .n (.cond (.seq .n .n) (.seq .n (.cond (.seq .n .n) (.seq .n (.cond (.seq .n .n) (.seq .n (.cond (.seq (.seq .n (.cond (.seq .n .n) .n)) (.seq .n .n)) .n)))))))))))))))))) (.seq (.seq .n (.cond (.seq .n .n) .n)) (.seq (.seq .n (.cond (.seq .n .n) .n)) (.seq .n .n)))))
  | 125 => (.seq .n (.seq (.seq .n (.block (.seq .n (.cond (.seq .n .n) (.seq .n (.cond (.seq .n .n) (.seq (.seq .n (.cond .n .n)) (.cut [5, 10] (.cond (.seq .n .n) (.seq (.seq .n (.cond .n .n)) (.cut [5, 13] (.cond (.seq .n .n) (.seq (.seq .n (.cond .n .n)) (.cut [5, 16] (.cond (.seq .n .n) (.seq (.seq .n (.cond .n (.seq .n (.cond .n .n)))) (.cut [5, 19] (.cond (.seq .n .n) (.seq .n (.cond (.seq .n .n) .n)))))))))))))))))))) (.cut [] (.seq .n .n))))
  | 126 => (.seq .n (.seq .n (.seq .n .n)))
  | 127 => (.seq .n (.seq .n (.seq .n (.seq .n (.seq .n (.seq .n (.seq .n (.seq .n (.seq .n (.seq .n (.seq .n (.seq .n .n))))))))))))
  | 128 => (.seq .n (.block (.loop [0, 1, 2, 3, 8] [] [] [] (.seq (.seq .n (.cond .n .n)) (.seq (.block (.seq .n (.block (.loop [0, 1, 2, 3, 8, 9] [0, 1, 2, 3, 8] [] [] (.seq (.seq .n (.cond .n .n)) (.seq (.block .n) .n)))))) (.cut [0, 1, 2, 3, 8] .n))))))
  | 129 => (.seq (.seq .n (.cond (.seq .n (.seq .n (.seq (.block (.loop [0, 1, 4, 10, 11] [0, 1, 10] [] [] (.seq (.seq .n (.cond .n .n)) (.block (.seq .n (.seq .n (.cond .n .n))))))) (.cut [0, 1, 10] (.seq (.seq .n (.block (.loop [0, 10, 13] [] [] [] (.seq (.seq .n (.cond .n .n)) (.seq (.block .n) .n))))) .n))))) .n)) (.cut [0, 1, 2, 3, 4] (.seq (.seq .n (.cond (.seq .n (.seq .n (.seq (.block (.loop [0, 2, 4, 14, 15] [0, 2, 14] [] [] (.seq (.seq .n (.cond .n .n)) (.block (.seq .n (.seq .n (.cond .n .n))))))) (.cut [0, 2, 14] (.seq (.seq .n (.block (.loop [0, 14, 17] [] [] [] (.seq (.seq .n (.cond .n .n)) (.seq (.block .n) .n))))) .n))))) .n)) (.cut [0, 1, 2, 3, 4] (.seq .n (.seq .n (.seq .n (.seq (.seq .n (.cond (.seq .n .n) (.seq .n .n))) (.cut [0, 1, 2, 3, 4, 18, 19, 20, 21] (.seq .n (.seq (.block (.loop [0, 1, 2, 3, 4, 18, 19, 20, 21, 22] [0, 1, 2, 3, 4, 18, 19, 20] [] [] (.seq (.seq .n (.cond .n .n)) (.block (.seq .n (.seq .n (.cond .n .n))))))) (.cut [0, 1, 2, 3, 4, 18, 19, 20] (.seq .n (.seq (.seq .n (.cond .n .n)) (.cut [0, 1, 3, 4, 18, 20, 24] (.seq (.seq .n (.cond .n .n)) (.cut [0, 3, 4, 18, 24] (.seq .n (.cond .n .n)))))))))))))))))))
  | 130 => (.seq .n (.seq (.seq .n (.block (.seq .n (.cond (.seq .n .n) (.seq .n (.cond (.seq .n .n) (.seq (.seq .n (.cond .n .n)) (.cut [3, 8] (.cond (.seq .n .n) (.seq (.seq .n (.cond .n .n)) (.cut [3, 11] (.cond (.seq .n .n) (.seq (.seq .n (.cond .n .n)) (.cut [3, 14] (.cond (.seq .n .n) (.seq (.seq .n (.cond .n (.seq .n (.cond .n .n)))) (.cut [3, 17] (.cond (.seq .n .n) (.seq .n (.cond (.seq .n .n) .n)))))))))))))))))))) (.cut [] (.seq .n .n))))
  | 131 => (.seq .n (.seq (.seq .n (.cond (.seq .n .n) .n)) (.seq .n .n)))
  | 132 => (.seq .n (.seq .n (.seq (.block (.loop [0, 2, 4, 10, 11] [0, 2, 4, 10] [] [] (.seq (.seq .n (.cond .n .n)) (.block (.seq .n (.cond (.seq .n .n) (.seq .n .n))))))) (.cut [0, 2, 4, 10] .n))))
  | 133 => (.seq .n (.block (.loop [0, 1, 2, 3, 10] [] [] [] (.seq (.seq .n (.cond .n .n)) (.seq (.block .n) .n)))))
  | _ => .n
noncomputable def pr : Pr := ⟨Try.prog, prPol, prAnn, prPrim⟩
noncomputable def pr0 : Pr := ⟨Try.prog, prPol, prAnn, fun _ => none⟩
end Go.Ev

/- Sorting: what is compared; ranges that are swapped. -/
namespace Go.Ev
set_option linter.unusedVariables false
set_option linter.unusedSimpArgs false
open Go.Proofs
set_option maxRecDepth 100000
set_option linter.unusedVariables false
set_option maxHeartbeats 2000000
theorem isNaN_ev (a : Int) : Ev pr (.call 118 [i64 a] []) (.val (bl false) []) := by
  exact .tpe [] (Out.val (V.t (T.bool (a != a))) []) (by kernel_rfl) (congrArg (fun x => Out.val (V.t (T.bool x)) []) (show (a != a) = (false) by simp))
theorem compare_ev (a b : Int) : Ev pr (.call 99 [i64 a, i64 b] []) (.val (i64 (cmpI a b)) []) := by
  have e1 := isNaN_ev a
  have e2 := isNaN_ev b
  unfold cmpI
  by_cases h1 : a < b
  · rw [if_pos h1]; (
    let t4 : Tp pr := .b (show (decide (a < b)) = true by (simp; omega))
    exact .tp [.a (e1), .a (e2), .b (rfl : false = false), .b (rfl : false = false), t4] (by kernel_rfl))
  · rw [if_neg h1]
    by_cases h2 : a > b
    · rw [if_pos h2]; (
      let t4 : Tp pr := .b (show (decide (a < b)) = false by (simp; omega))
      let t5 : Tp pr := .b (show (decide (a > b)) = true by (simp; omega))
      exact .tp [.a (e1), .a (e2), .b (rfl : false = false), .b (rfl : false = false), t4, t5] (by kernel_rfl))
    · rw [if_neg h2]; (
      let t1 : Tp pr := .a (Ev.castq (congrArg (fun x => Q.call (118 : FuncId) [i64 x] []) (show (a) = (b) by omega)) (e1))
      let t4 : Tp pr := .b (show (decide (a < b)) = false by (simp; omega))
      let t5 : Tp pr := .b (show (decide (a > b)) = false by (simp; omega))
      exact .tp [.a (e1), t1, .b (rfl : false = false), .b (rfl : false = false), t4, t5] (by kernel_rfl))
theorem turnF_ev (l : List Span) (a b : Int) (ha : 0 ≤ a ∧ a < l.length) (hb : 0 ≤ b ∧ b < l.length) :
    Ev pr (.call 98 [i64 a, i64 b, .t (turnT l)] []) (.val (i64 (cmpI (spAt l a).from_ (spAt l b).from_)) []) := by
  have g1 := spAt_lkp ha.1 ha.2
  have g2 := spAt_lkp hb.1 hb.2
  have c := compare_ev (spAt l a).from_ (spAt l b).from_
  unfold turnT
  generalize cmpI (spAt l a).from_ (spAt l b).from_ = r at *
  generalize spAt l a = x at *
  generalize spAt l b = y at *
  let t2 : Tp pr := .g .row (show (lkp (List.map Span.ce l) a) = some (x.ce) from g1)
  let t8 : Tp pr := .g .row (show (lkp (List.map Span.ce l) b) = some (y.ce) from g2)
  exact .tp [.m (rfl : true = true), .m (rfl : true = true), t2, .m (rfl : true = true), .m (rfl : true = true), .m (rfl : true = true), .m (rfl : true = true), .m (rfl : true = true), t8, .m (rfl : true = true), .m (rfl : true = true), .m (rfl : true = true), .a (c), .m (rfl : true = true), .m (rfl : true = true)] (by kernel_rfl)
@[local simp] theorem toNatS (a b : Nat) : ((a : Int) + (b : Int)).toNat = a + b := by omega
theorem set_at (A B : List Int) (x y : Int) : (A ++ x :: B).set A.length y = A ++ y :: B := by simp
theorem get_at (A B : List Int) (x : Int) : (ints (A ++ x :: B))[A.length]? = some [C.t (.int .i64 x)] := by simp [ints, intc]
/-- Two that are swapped. -/
structure Two (D : List Int) (p q : Nat) (x y : Int) (D1 D2 : List Int) : Prop where
  gx : (ints D)[p]? = some [C.t (.int .i64 x)]
  gy : (ints D)[q]? = some [C.t (.int .i64 y)]
  s1 : D.set p y = D1
  g2 : (ints D1)[q]? = some [C.t (.int .i64 y)]
  s2 : D1.set q x = D2
theorem two_of (A M B : List Int) (x y : Int) : Two (A ++ x :: (M ++ y :: B)) A.length (A.length + 1 + M.length) x y (A ++ y :: (M ++ y :: B)) (A ++ y :: (M ++ x :: B)) := by
  have e1 : ∀ z w : Int, A ++ z :: (M ++ w :: B) = (A ++ z :: M) ++ w :: B := fun z w => by simp
  have l1 : ∀ z : Int, (A ++ z :: M).length = A.length + 1 + M.length := fun z => by simp; omega
  exact ⟨get_at .., by rw [e1, ← l1 x]; exact get_at .., set_at .., by rw [e1, ← l1 y]; exact get_at .., by rw [e1, e1, ← l1 y]; exact set_at ..⟩
theorem swapL_ev (N a b n : Nat) (hN : N ≤ 1000) : ∀ (U V' : List Int) (A M B : List Int) (i : Nat), U.length = V'.length → i + U.length = n → A.length = a + i → A.length + U.length + M.length = b + i → (A ++ U ++ M ++ V' ++ B).length = N →
    Ev pr (.loop (lq pr 133 0) (at_ [(0, .vec 0 N 1 0 N), (1, i64 a), (2, i64 b), (3, i64 n), (10, i64 i)] [.vec true 1 (ints (A ++ U ++ M ++ V' ++ B))] 1))
      (.exit 0 (at_ [] [.vec true 1 (ints (A ++ V' ++ M ++ U ++ B))] 1))
  | [], [], A, M, B, i, h1, h2, h3, h4, h5 => by
    simp at h2
    subst h2
    let t0 : Tp pr := .b (show (decide ((↑i : Int) < (↑i : Int))) = false by simp)
    exact .tp [t0] (by kernel_rfl)
  | [], y :: V', A, M, B, i, h1, h2, h3, h4, h5 => by simp at h1
  | x :: U, [], A, M, B, i, h1, h2, h3, h4, h5 => by simp at h1
  | x :: U, y :: V', A, M, B, i, h1, h2, h3, h4, h5 => by
    simp at h1 h2 h4 h5
    have t := two_of A (U ++ M) (V' ++ B) x y
    have ih := swapL_ev N a b n hN U V' (A ++ [y]) (M ++ [x]) B (i + 1) h1 (by omega) (by simp; omega) (by simp; omega) (by simp; omega)
    have e1 : A ++ x :: U ++ M ++ y :: V' ++ B = A ++ x :: (U ++ M ++ y :: (V' ++ B)) := by simp
    have e2 : A ++ [y] ++ U ++ (M ++ [x]) ++ V' ++ B = A ++ y :: (U ++ M ++ x :: (V' ++ B)) := by simp
    have e3 : A ++ y :: V' ++ M ++ x :: U ++ B = A ++ [y] ++ V' ++ (M ++ [x]) ++ U ++ B := by simp
    rw [e1, e3]
    rw [e2] at ih
    have hp : A.length = a + i := h3
    have hq : A.length + 1 + (U ++ M).length = b + i := by simp; omega
    rw [hq, hp] at t
    obtain ⟨gx, gy, s1, g2, s2⟩ := t
    have hlen : (A ++ x :: (U ++ M ++ y :: (V' ++ B))).length = N := by simp; omega
    generalize A ++ x :: (U ++ M ++ y :: (V' ++ B)) = D at *
    generalize A ++ y :: (U ++ M ++ y :: (V' ++ B)) = D1 at *
    generalize A ++ y :: (U ++ M ++ x :: (V' ++ B)) = D2 at *
    have hl1 : D1.length = N := by have := congrArg List.length s1; simpa [hlen] using this.symm
    let t0 : Tp pr := .b (show (decide ((↑i : Int) < (↑n : Int))) = true by (simp; omega))
    let t4 : Tp pr := .i (wrap_i64 (a := (↑a : Int) + (↑i : Int)) (by omega) (by omega))
    let t9 : Tp pr := .i (wrap_i64 (a := (↑b : Int) + (↑i : Int)) (by omega) (by omega))
    let t14 : Tp pr := .i (wrap_i64 (a := (↑b : Int) + (↑i : Int)) (by omega) (by omega))
    let t16 : Tp pr := .m (show (decide ((0 : Int) ≤ (↑b : Int) + (↑i : Int) ∧ ((↑b : Int) + (↑i : Int)).toNat < N)) = true by (simp; omega))
    let t17 : Tp pr := .c (show ((0 : Nat) + ((↑b : Int) + (↑i : Int)).toNat : Nat) = b + i by omega)
    let t19 : Tp pr := .m (show (decide ((ints D).length = N)) = true by simp [*])
    let t20 : Tp pr := .g .crow (show ((ints D)[b + i]?) = some ([C.t (T.int IntKind.i64 y)]) from gy)
    let t25 : Tp pr := .i (wrap_i64 (a := (↑a : Int) + (↑i : Int)) (by omega) (by omega))
    let t27 : Tp pr := .m (show (decide ((0 : Int) ≤ (↑a : Int) + (↑i : Int) ∧ ((↑a : Int) + (↑i : Int)).toNat < N)) = true by (simp; omega))
    let t28 : Tp pr := .c (show ((0 : Nat) + ((↑a : Int) + (↑i : Int)).toNat : Nat) = a + i by omega)
    let t30 : Tp pr := .m (show (decide ((ints D).length = N)) = true by simp [*])
    let t31 : Tp pr := .g .crow (show ((ints D)[a + i]?) = some ([C.t (T.int IntKind.i64 x)]) from gx)
    let t33 : Tp pr := .m (show (decide ((0 : Int) ≤ (↑a : Int) + (↑i : Int) ∧ ((↑a : Int) + (↑i : Int)).toNat < N)) = true by (simp; omega))
    let t34 : Tp pr := .c (show ((0 : Nat) + ((↑a : Int) + (↑i : Int)).toNat : Nat) = a + i by omega)
    let t36 : Tp pr := .m (show (decide ((ints D).length = N)) = true by simp [*])
    let t37 : Tp pr := .g .crow (show ((ints D)[a + i]?) = some ([C.t (T.int IntKind.i64 x)]) from gx)
    let t38 : Tp pr := .n .crows (show ((ints D).set (a + i) [C.t (T.int IntKind.i64 y)]) = ints (D.set (a + i) y) by simp)
    let t40 : Tp pr := .m (show (decide ((0 : Int) ≤ (↑b : Int) + (↑i : Int) ∧ ((↑b : Int) + (↑i : Int)).toNat < N)) = true by (simp; omega))
    let t41 : Tp pr := .c (show ((0 : Nat) + ((↑b : Int) + (↑i : Int)).toNat : Nat) = b + i by omega)
    let t43 : Tp pr := .m (show (decide ((ints (D.set (a + i) y)).length = N)) = true by simp [*])
    let t44 : Tp pr := .g .crow (show ((ints (D.set (a + i) y))[b + i]?) = some ([C.t (T.int IntKind.i64 y)]) by simp [*])
    let t45 : Tp pr := .n .crows (show ((ints (D.set (a + i) y)).set (b + i) [C.t (T.int IntKind.i64 x)]) = ints ((D.set (a + i) y).set (b + i) x) by simp)
    let t47 : Tp pr := .i (wrap_i64 (a := (↑i : Int) + (1 : Int)) (by omega) (by omega))
    let t48 : Tp pr := .a (Ev.castq (congrArg (fun x => Q.loop (lq pr (133 : FuncId) (0 : Nat)) (at_ [((0 : Nat), V.vec (0 : Nat) N (1 : Nat) (0 : Nat) N), ((1 : Nat), i64 (↑a : Int)), ((2 : Nat), i64 (↑b : Int)), ((3 : Nat), i64 (↑n : Int)), ((10 : Nat), i64 (↑(i + (1 : Nat)) : Int))] [Ob.vec true (1 : Nat) x] (1 : Nat))) (show (ints D2) = (ints ((D.set (a + i) y).set (b + i) x)) by simp [*])) (ih))
    exact .tp [t0, .m (rfl : true = true), .m (rfl : true = true), .m (rfl : true = true), t4, .m (rfl : true = true), .m (rfl : true = true), .m (rfl : true = true), .m (rfl : true = true), t9, .m (rfl : true = true), .m (rfl : true = true), .m (rfl : true = true), .m (rfl : true = true), t14, .m (rfl : true = true), t16, t17, .m (rfl : true = true), t19, t20, .m (rfl : true = true), .m (rfl : true = true), .m (rfl : true = true), .m (rfl : true = true), t25, .m (rfl : true = true), t27, t28, .m (rfl : true = true), t30, t31, .m (rfl : true = true), t33, t34, .m (rfl : true = true), t36, t37, t38, .m (rfl : true = true), t40, t41, .m (rfl : true = true), t43, t44, t45, .m (rfl : true = true), t47, t48] (by kernel_rfl)
end Go.Ev

/- Sorting: rotations. -/
namespace Go.Ev
set_option linter.unusedVariables false
set_option linter.unusedSimpArgs false
open Go.Proofs
set_option maxRecDepth 100000
set_option linter.unusedVariables false
set_option maxHeartbeats 2000000
attribute [local simp] toNatS
theorem swap_ev (t : T) (A U M V' B : List Int) (N a b n : Nat) (h1 : U.length = V'.length) (ha : a = A.length) (hb : b = A.length + U.length + M.length) (hn : n = U.length) (hN : N = (A ++ U ++ M ++ V' ++ B).length) (hN2 : N ≤ 1000) :
    Ev pr (.call 133 [.vec 0 N 1 0 N, i64 a, i64 b, i64 n, .t t] [.vec true 1 (ints (A ++ U ++ M ++ V' ++ B))]) (.val (.tup []) [.vec true 1 (ints (A ++ V' ++ M ++ U ++ B))]) := by
  have l := swapL_ev N a b n hN2 U V' A M B 0 h1 (by omega) (by omega) (by omega) hN.symm
  exact .tp [.a (l)] (by kernel_rfl)
/-- What is left to do, of a rotation, ends in the same. -/
theorem rotL_ev (t : T) (N m : Nat) (hN2 : N ≤ 1000) : ∀ (k : Nat) (A U V' B : List Int), U.length + V'.length ≤ k → 0 < U.length → 0 < V'.length → m = A.length + U.length → N = (A ++ U ++ V' ++ B).length →
    ∃ (A' U' V2 B' : List Int), 0 < U'.length ∧ U'.length = V2.length ∧ m = A'.length + U'.length ∧ N = (A' ++ U' ++ V2 ++ B').length ∧ A' ++ V2 ++ U' ++ B' = A ++ V' ++ U ++ B ∧
    Ev pr (.loop (lq pr 132 0) (at_ [(0, .vec 0 N 1 0 N), (2, i64 m), (4, .t t), (10, i64 U.length), (11, i64 V'.length)] [.vec true 1 (ints (A ++ U ++ V' ++ B))] 1))
      (.exit 0 (at_ [(0, .vec 0 N 1 0 N), (2, i64 m), (4, .t t), (10, i64 U'.length)] [.vec true 1 (ints (A' ++ U' ++ V2 ++ B'))] 1))
  | 0, A, U, V', B, hk, hu, hv, hm, hN => by omega
  | k + 1, A, U, V', B, hk, hu, hv, hm, hN => by
    have hNl : A.length + U.length + V'.length + B.length = N := by rw [hN]; simp; omega
    by_cases he : U.length = V'.length
    · refine ⟨A, U, V', B, hu, he, hm, hN, rfl, ?_⟩
      have he2 : (U.length : Int) = V'.length := by omega
      generalize A ++ U ++ V' ++ B = D at *
      let t0 : Tp pr := .b (show ((↑U.length : Int) != (↑V'.length : Int)) = false by (simp; omega))
      exact .tp [t0] (by kernel_rfl)
    · by_cases hg : V'.length < U.length
      · -- the first part of U and V are swapped
        have e : U = U.take V'.length ++ U.drop V'.length := (List.take_append_drop ..).symm
        generalize hU1 : U.take V'.length = U1 at e
        generalize hU2 : U.drop V'.length = U2 at e
        have l1 : U1.length = V'.length := by rw [← hU1]; simp; omega
        have l2 : U2.length = U.length - V'.length := by rw [← hU2]; simp
        have s := swap_ev t A U1 U2 V' B N A.length m V'.length l1 rfl (by omega) (by omega) (by rw [hN, e]; simp) hN2
        obtain ⟨A', U', V2, B', q1, q2, q3, q4, q5, ih⟩ := rotL_ev t N m hN2 k (A ++ V') U2 U1 B (by omega) (by omega) (by omega) (by simp; omega) (by rw [hN, e]; simp; omega)
        refine ⟨A', U', V2, B', q1, q2, q3, q4, by rw [q5, e]; simp, ?_⟩
        have e2 : A ++ U ++ V' ++ B = A ++ U1 ++ U2 ++ V' ++ B := by rw [e]; simp
        rw [e2]
        generalize A ++ U1 ++ U2 ++ V' ++ B = D at *
        generalize A ++ V' ++ U2 ++ U1 ++ B = D2 at *
        generalize A' ++ U' ++ V2 ++ B' = D3 at *
        rw [l2, l1] at ih
        have c1 : ((U.length - V'.length : Nat) : Int) = (U.length : Int) - V'.length := by omega
        rw [c1] at ih
        have c2 : (m : Int) - U.length = A.length := by omega
        have c3 : ¬ ((U.length : Int) = V'.length) := by omega
        let t0 : Tp pr := .b (show ((↑U.length : Int) != (↑V'.length : Int)) = true by (simp; omega))
        let t1 : Tp pr := .b (show (decide ((↑U.length : Int) > (↑V'.length : Int))) = true by (simp; omega))
        let t2 : Tp pr := .i (wrap_i64 (a := (↑m : Int) - (↑U.length : Int)) (by omega) (by omega))
        let t3 : Tp pr := .a (Ev.castq (congrArg (fun x => Q.call (133 : FuncId) [V.vec (0 : Nat) N (1 : Nat) (0 : Nat) N, i64 x, i64 (↑m : Int), i64 (↑V'.length : Int), V.t t] [Ob.vec true (1 : Nat) (ints D)]) (show ((↑A.length : Int)) = ((↑m : Int) - (↑U.length : Int)) by omega)) (s))
        let t4 : Tp pr := .i (wrap_i64 (a := (↑U.length : Int) - (↑V'.length : Int)) (by omega) (by omega))
        exact .tp [t0, t1, t2, t3, t4, .a (ih)] (by kernel_rfl)
      · have hl : U.length < V'.length := by omega
        have e : V' = V'.take (V'.length - U.length) ++ V'.drop (V'.length - U.length) := (List.take_append_drop ..).symm
        generalize hV1 : V'.take (V'.length - U.length) = V1 at e
        generalize hV2 : V'.drop (V'.length - U.length) = V3 at e
        have l1 : V1.length = V'.length - U.length := by rw [← hV1]; simp
        have l2 : V3.length = U.length := by rw [← hV2]; simp; omega
        have s := swap_ev t A U V1 V3 B N A.length (m + V'.length - U.length) U.length l2.symm rfl (by omega) rfl (by rw [hN, e]; simp) hN2
        obtain ⟨A', U', V2, B', q1, q2, q3, q4, q5, ih⟩ := rotL_ev t N m hN2 k A V3 V1 (U ++ B) (by omega) (by omega) (by omega) (by omega) (by rw [hN, e]; simp; omega)
        refine ⟨A', U', V2, B', q1, q2, q3, q4, by rw [q5, e]; simp, ?_⟩
        have e2 : A ++ U ++ V' ++ B = A ++ U ++ V1 ++ V3 ++ B := by rw [e]; simp
        have e3 : A ++ V3 ++ V1 ++ (U ++ B) = A ++ V3 ++ V1 ++ U ++ B := by simp
        rw [e2]
        rw [e3] at ih
        generalize A ++ U ++ V1 ++ V3 ++ B = D at *
        generalize A ++ V3 ++ V1 ++ U ++ B = D2 at *
        generalize A' ++ U' ++ V2 ++ B' = D3 at *
        rw [l2, l1] at ih
        have c1 : ((V'.length - U.length : Nat) : Int) = (V'.length : Int) - U.length := by omega
        rw [c1] at ih
        have c2 : (m : Int) - U.length = A.length := by omega
        have c4 : ((m + V'.length - U.length : Nat) : Int) = (m : Int) + V'.length - U.length := by omega
        rw [c4] at s
        have c3 : ¬ ((U.length : Int) = V'.length) := by omega
        let t0 : Tp pr := .b (show ((↑U.length : Int) != (↑V'.length : Int)) = true by (simp; omega))
        let t1 : Tp pr := .b (show (decide ((↑U.length : Int) > (↑V'.length : Int))) = false by (simp; omega))
        let t2 : Tp pr := .i (wrap_i64 (a := (↑m : Int) - (↑U.length : Int)) (by omega) (by omega))
        let t3 : Tp pr := .i (wrap_i64 (a := (↑m : Int) + (↑V'.length : Int)) (by omega) (by omega))
        let t4 : Tp pr := .i (wrap_i64 (a := (↑m : Int) + (↑V'.length : Int) - (↑U.length : Int)) (by omega) (by omega))
        let t5 : Tp pr := .a (Ev.castq (congrArg (fun x => Q.call (133 : FuncId) [V.vec (0 : Nat) N (1 : Nat) (0 : Nat) N, i64 x, i64 ((↑m : Int) + (↑V'.length : Int) - (↑U.length : Int)), i64 (↑U.length : Int), V.t t] [Ob.vec true (1 : Nat) (ints D)]) (show ((↑A.length : Int)) = ((↑m : Int) - (↑U.length : Int)) by omega)) (s))
        let t6 : Tp pr := .i (wrap_i64 (a := (↑V'.length : Int) - (↑U.length : Int)) (by omega) (by omega))
        exact .tp [t0, t1, t2, t3, t4, t5, t6, .a (ih)] (by kernel_rfl)
theorem rot_ev (t : T) (A U V' B : List Int) (N a m b : Nat) (hu : 0 < U.length) (hv : 0 < V'.length) (ha : a = A.length) (hm : m = A.length + U.length) (hb : b = A.length + U.length + V'.length) (hN : N = (A ++ U ++ V' ++ B).length) (hN2 : N ≤ 1000) :
    Ev pr (.call 132 [.vec 0 N 1 0 N, i64 a, i64 m, i64 b, .t t] [.vec true 1 (ints (A ++ U ++ V' ++ B))]) (.val (.tup []) [.vec true 1 (ints (A ++ V' ++ U ++ B))]) := by
  obtain ⟨A', U', V2, B', q1, q2, q3, q4, q5, l⟩ := rotL_ev t N m hN2 (U.length + V'.length) A U V' B (Nat.le_refl _) hu hv hm hN
  have s := swap_ev t A' U' [] V2 B' N A'.length m U'.length q2 rfl (by simp; omega) rfl (by rw [q4]; simp) hN2
  rw [List.append_nil, List.append_nil, q5] at s
  have hNl : N = A.length + U.length + V'.length + B.length := by rw [hN]; simp; omega
  generalize A' ++ U' ++ V2 ++ B' = D3 at *
  generalize A ++ U ++ V' ++ B = D at *
  generalize A ++ V' ++ U ++ B = D2 at *
  have c1 : (m : Int) - a = U.length := by omega
  have c2 : (b : Int) - m = V'.length := by omega
  have c3 : (m : Int) - U'.length = A'.length := by omega
  let t0 : Tp pr := .i (wrap_i64 (a := (↑m : Int) - (↑a : Int)) (by omega) (by omega))
  let t1 : Tp pr := .i (wrap_i64 (a := (↑b : Int) - (↑m : Int)) (by omega) (by omega))
  let t2 : Tp pr := .a (Ev.castq ((congrArg (fun x => Q.loop (lq pr (132 : FuncId) (0 : Nat)) (at_ [((0 : Nat), V.vec (0 : Nat) N (1 : Nat) (0 : Nat) N), ((2 : Nat), i64 (↑m : Int)), ((4 : Nat), V.t t), ((10 : Nat), i64 x), ((11 : Nat), i64 (↑V'.length : Int))] [Ob.vec true (1 : Nat) (ints D)] (1 : Nat))) (show ((↑U.length : Int)) = ((↑m : Int) - (↑a : Int)) by omega)).trans (congrArg (fun x => Q.loop (lq pr (132 : FuncId) (0 : Nat)) (at_ [((0 : Nat), V.vec (0 : Nat) N (1 : Nat) (0 : Nat) N), ((2 : Nat), i64 (↑m : Int)), ((4 : Nat), V.t t), ((10 : Nat), i64 ((↑m : Int) - (↑a : Int))), ((11 : Nat), i64 x)] [Ob.vec true (1 : Nat) (ints D)] (1 : Nat))) (show ((↑V'.length : Int)) = ((↑b : Int) - (↑m : Int)) by omega))) (l))
  let t3 : Tp pr := .i (wrap_i64 (a := (↑m : Int) - (↑U'.length : Int)) (by omega) (by omega))
  let t4 : Tp pr := .a (Ev.castq (congrArg (fun x => Q.call (133 : FuncId) [V.vec (0 : Nat) N (1 : Nat) (0 : Nat) N, i64 x, i64 (↑m : Int), i64 (↑U'.length : Int), V.t t] [Ob.vec true (1 : Nat) (ints D3)]) (show ((↑A'.length : Int)) = ((↑m : Int) - (↑U'.length : Int)) by omega)) (s))
  exact .tp [t0, t1, t2, t3, t4] (by kernel_rfl)
end Go.Ev

/- Sorting: the insertion sort. -/
namespace Go.Ev
set_option linter.unusedVariables false
set_option linter.unusedSimpArgs false
open Go.Proofs
set_option maxRecDepth 100000
set_option linter.unusedVariables false
set_option maxHeartbeats 2000000
attribute [local simp] toNatS
abbrev cloV (l : List Span) : V := .t (.clo 98 [turnT l])
structure TwoR (D : List Int) (p q : Nat) (x y : Int) (D1 D2 : List Int) : Prop where
  gx : (ints D)[p]? = some [C.t (.int .i64 x)]
  gy : (ints D)[q]? = some [C.t (.int .i64 y)]
  s1 : D.set q x = D1
  g2 : (ints D1)[p]? = some [C.t (.int .i64 x)]
  s2 : D1.set p y = D2
theorem twoR_of (A M B : List Int) (x y : Int) : TwoR (A ++ x :: (M ++ y :: B)) A.length (A.length + 1 + M.length) x y (A ++ x :: (M ++ x :: B)) (A ++ y :: (M ++ x :: B)) := by
  have e1 : ∀ z w : Int, A ++ z :: (M ++ w :: B) = (A ++ z :: M) ++ w :: B := fun z w => by simp
  have l1 : ∀ z : Int, (A ++ z :: M).length = A.length + 1 + M.length := fun z => by simp; omega
  exact ⟨get_at .., by rw [e1, ← l1 x]; exact get_at .., by rw [e1, e1, ← l1 x]; exact set_at .., get_at .., set_at ..⟩
/-- What is asked of two places, the first being the later one. -/
theorem ask_ev (l : List Span) (hl : l.length ≤ 40) {x y : Int} (h0 : 0 ≤ y) (h1 : y < x) (h2 : x < l.length) :
    ∃ r : Int, (r < 0 ↔ keyW l x < keyW l y) ∧ Ev pr (.call 98 [i64 x, i64 y, .t (turnT l)] []) (.val (i64 r) []) :=
  ⟨_, keyW_cmp h0 h1 (by omega), turnF_ev l x y ⟨by omega, h2⟩ ⟨h0, by omega⟩⟩
theorem insL_ev (l : List Span) (hl : l.length ≤ 40) (N a b i : Nat) (hN : N ≤ 1000) (x : Int) (hx : x < l.length) : ∀ (k : Nat) (A P1 P2 B : List Int) (j : Nat), P1.length = k → a = A.length → j = A.length + P1.length → N = (A ++ P1 ++ x :: P2 ++ B).length →
    (∀ y ∈ P1, 0 ≤ y ∧ y < x) → Srt (keyW l) P1 →
    Ev pr (.loop (lq pr 128 1) (at_ [(0, .vec 0 N 1 0 N), (1, i64 a), (2, i64 b), (3, cloV l), (8, i64 i), (9, i64 j)] [.vec true 1 (ints (A ++ P1 ++ x :: P2 ++ B))] 1))
      (.exit 2 (at_ [(0, .vec 0 N 1 0 N), (1, i64 a), (2, i64 b), (3, cloV l), (8, i64 i)] [.vec true 1 (ints (A ++ ins (keyW l) x P1 ++ P2 ++ B))] 1))
  | 0, A, P1, P2, B, j, hk, ha, hj, hNe, hy, hs => by
    obtain rfl : P1 = [] := List.length_eq_zero_iff.1 hk
    have e : A ++ ins (keyW l) x [] ++ P2 ++ B = A ++ [] ++ x :: P2 ++ B := by simp [ins]
    rw [e]
    generalize A ++ [] ++ x :: P2 ++ B = D at *
    have hja : j = a := by simpa [ha] using hj
    let t4 : Tp pr := .b (show (decide ((↑j : Int) > (↑a : Int))) = false by (simp; omega))
    exact .tp [.m (rfl : true = true), .m (rfl : true = true), .m (rfl : true = true), .m (rfl : true = true), t4, .m (rfl : true = true), .m (rfl : true = true), .m (rfl : true = true), .m (rfl : true = true), .m (rfl : true = true), .m (rfl : true = true), .m (rfl : true = true), .m (rfl : true = true), .m (rfl : true = true), .m (rfl : true = true), .m (rfl : true = true), .m (rfl : true = true), .m (rfl : true = true), .b (rfl : false = false)] (by kernel_rfl)
  | k + 1, A, P1, P2, B, j, hk, ha, hj, hNe, hy, hs => by
    obtain ⟨P', y, rfl⟩ : ∃ P' y, P1 = P' ++ [y] := by
      rcases List.eq_nil_or_concat P1 with h | ⟨P', y, h⟩
      · subst h; simp at hk
      · exact ⟨P', y, by simpa using h⟩
    have hyb := hy y (by simp)
    obtain ⟨r, hr, q⟩ := ask_ev l hl hyb.1 hyb.2 hx
    have hs' : Srt (keyW l) P' := (List.pairwise_append.1 hs).1
    have hN2 : A.length + P'.length + P2.length + B.length + 2 = N := by rw [hNe]; simp; omega
    have hjj : j = A.length + P'.length + 1 := by rw [hj]; simp; omega
    have e0 : A ++ (P' ++ [y]) ++ x :: P2 ++ B = (A ++ P') ++ y :: ([] ++ x :: (P2 ++ B)) := by simp
    have t := twoR_of (A ++ P') [] (P2 ++ B) y x
    have hal : (A ++ P').length = A.length + P'.length := by simp
    obtain ⟨p, hp⟩ : ∃ p, A.length + P'.length = p := ⟨_, rfl⟩
    rw [hal, List.length_nil, Nat.add_zero, hp] at t
    rw [hp] at hjj
    subst hjj
    by_cases hlt : keyW l x < keyW l y
    · have hr2 := hr.2 hlt
      have ih := insL_ev l hl N a b i hN x hx k A P' (y :: P2) B (A.length + P'.length) (by simpa using hk) ha rfl (by simp; omega) (fun z hz => hy z (by simp [hz])) hs'
      have e1 : A ++ P' ++ x :: (y :: P2) ++ B = (A ++ P') ++ x :: ([] ++ y :: (P2 ++ B)) := by simp
      have e2 : A ++ ins (keyW l) x (P' ++ [y]) ++ P2 ++ B = A ++ ins (keyW l) x P' ++ y :: P2 ++ B := by rw [ins_snoc_lt hlt]; simp
      rw [e0, e2]
      rw [e1, hp] at ih
      obtain ⟨gx, gy, s1, g2, s2⟩ := t
      generalize A ++ ins (keyW l) x P' ++ y :: P2 ++ B = D3 at *
      have hlen : (A ++ P' ++ y :: ([] ++ x :: (P2 ++ B))).length = N := by simp; omega
      generalize A ++ P' ++ y :: ([] ++ x :: (P2 ++ B)) = D at *
      generalize A ++ P' ++ y :: ([] ++ y :: (P2 ++ B)) = D1 at *
      generalize A ++ P' ++ x :: ([] ++ y :: (P2 ++ B)) = D2 at *
      rw [← s1] at g2
      have s3 : (D.set (p + 1) y).set p x = D2 := by rw [s1]; exact s2
      clear s1 s2
      let t4 : Tp pr := .b (show (decide ((↑(p + (1 : Nat)) : Int) > (↑a : Int))) = true by (simp; omega))
      let t8 : Tp pr := .m (show (decide ((0 : Int) ≤ (↑(p + (1 : Nat)) : Int) ∧ (↑(p + (1 : Nat)) : Int).toNat < N)) = true by (simp; omega))
      let t9 : Tp pr := .c (show ((0 : Nat) + (↑(p + (1 : Nat)) : Int).toNat : Nat) = p + (1 : Nat) by omega)
      let t11 : Tp pr := .m (show (decide ((ints D).length = N)) = true by simp [*])
      let t12 : Tp pr := .g .crow (show ((ints D)[p + (1 : Nat)]?) = some ([C.t (T.int IntKind.i64 x)]) from gy)
      let t16 : Tp pr := .i (wrap_i64 (a := (↑(p + (1 : Nat)) : Int) - (1 : Int)) (by omega) (by omega))
      let t18 : Tp pr := .m (show (decide ((0 : Int) ≤ (↑(p + (1 : Nat)) : Int) - (1 : Int) ∧ ((↑(p + (1 : Nat)) : Int) - (1 : Int)).toNat < N)) = true by (simp; omega))
      let t19 : Tp pr := .c (show ((0 : Nat) + ((↑(p + (1 : Nat)) : Int) - (1 : Int)).toNat : Nat) = p by omega)
      let t21 : Tp pr := .m (show (decide ((ints D).length = N)) = true by simp [*])
      let t22 : Tp pr := .g .crow (show ((ints D)[p]?) = some ([C.t (T.int IntKind.i64 y)]) from gx)
      let t28 : Tp pr := .b (show (decide (r < (0 : Int))) = true by (simp; omega))
      let t33 : Tp pr := .i (wrap_i64 (a := (↑(p + (1 : Nat)) : Int) - (1 : Int)) (by omega) (by omega))
      let t37 : Tp pr := .i (wrap_i64 (a := (↑(p + (1 : Nat)) : Int) - (1 : Int)) (by omega) (by omega))
      let t39 : Tp pr := .m (show (decide ((0 : Int) ≤ (↑(p + (1 : Nat)) : Int) - (1 : Int) ∧ ((↑(p + (1 : Nat)) : Int) - (1 : Int)).toNat < N)) = true by (simp; omega))
      let t40 : Tp pr := .c (show ((0 : Nat) + ((↑(p + (1 : Nat)) : Int) - (1 : Int)).toNat : Nat) = p by omega)
      let t42 : Tp pr := .m (show (decide ((ints D).length = N)) = true by simp [*])
      let t43 : Tp pr := .g .crow (show ((ints D)[p]?) = some ([C.t (T.int IntKind.i64 y)]) from gx)
      let t47 : Tp pr := .m (show (decide ((0 : Int) ≤ (↑(p + (1 : Nat)) : Int) ∧ (↑(p + (1 : Nat)) : Int).toNat < N)) = true by (simp; omega))
      let t48 : Tp pr := .c (show ((0 : Nat) + (↑(p + (1 : Nat)) : Int).toNat : Nat) = p + (1 : Nat) by omega)
      let t50 : Tp pr := .m (show (decide ((ints D).length = N)) = true by simp [*])
      let t51 : Tp pr := .g .crow (show ((ints D)[p + (1 : Nat)]?) = some ([C.t (T.int IntKind.i64 x)]) from gy)
      let t53 : Tp pr := .m (show (decide ((0 : Int) ≤ (↑(p + (1 : Nat)) : Int) ∧ (↑(p + (1 : Nat)) : Int).toNat < N)) = true by (simp; omega))
      let t54 : Tp pr := .c (show ((0 : Nat) + (↑(p + (1 : Nat)) : Int).toNat : Nat) = p + (1 : Nat) by omega)
      let t56 : Tp pr := .m (show (decide ((ints D).length = N)) = true by simp [*])
      let t57 : Tp pr := .g .crow (show ((ints D)[p + (1 : Nat)]?) = some ([C.t (T.int IntKind.i64 x)]) from gy)
      let t58 : Tp pr := .n .crows (show ((ints D).set (p + (1 : Nat)) [C.t (T.int IntKind.i64 y)]) = ints (D.set (p + (1 : Nat)) y) by simp)
      let t60 : Tp pr := .m (show (decide ((0 : Int) ≤ (↑(p + (1 : Nat)) : Int) - (1 : Int) ∧ ((↑(p + (1 : Nat)) : Int) - (1 : Int)).toNat < N)) = true by (simp; omega))
      let t61 : Tp pr := .c (show ((0 : Nat) + ((↑(p + (1 : Nat)) : Int) - (1 : Int)).toNat : Nat) = p by omega)
      let t63 : Tp pr := .m (show (decide ((ints (D.set (p + (1 : Nat)) y)).length = N)) = true by simp [*])
      let t64 : Tp pr := .g .crow (show ((ints (D.set (p + (1 : Nat)) y))[p]?) = some ([C.t (T.int IntKind.i64 y)]) from g2)
      let t65 : Tp pr := .n .crows (show ((ints (D.set (p + (1 : Nat)) y)).set p [C.t (T.int IntKind.i64 x)]) = ints ((D.set (p + (1 : Nat)) y).set p x) by simp)
      let t67 : Tp pr := .i (wrap_i64 (a := (↑(p + (1 : Nat)) : Int) - (1 : Int)) (by omega) (by omega))
      let t68 : Tp pr := .a (Ev.castq ((congrArg (fun x => Q.loop (lq pr (128 : FuncId) (1 : Nat)) (at_ [((0 : Nat), V.vec (0 : Nat) N (1 : Nat) (0 : Nat) N), ((1 : Nat), i64 (↑a : Int)), ((2 : Nat), i64 (↑b : Int)), ((3 : Nat), cloV l), ((8 : Nat), i64 (↑i : Int)), ((9 : Nat), i64 x)] [Ob.vec true (1 : Nat) (ints D2)] (1 : Nat))) (show ((↑p : Int)) = ((↑(p + (1 : Nat)) : Int) - (1 : Int)) by simp [s3])).trans (congrArg (fun x => Q.loop (lq pr (128 : FuncId) (1 : Nat)) (at_ [((0 : Nat), V.vec (0 : Nat) N (1 : Nat) (0 : Nat) N), ((1 : Nat), i64 (↑a : Int)), ((2 : Nat), i64 (↑b : Int)), ((3 : Nat), cloV l), ((8 : Nat), i64 (↑i : Int)), ((9 : Nat), i64 ((↑(p + (1 : Nat)) : Int) - (1 : Int)))] [Ob.vec true (1 : Nat) x] (1 : Nat))) (show (ints D2) = (ints ((D.set (p + (1 : Nat)) y).set p x)) by simp [s3]))) (ih))
      exact .tp [.m (rfl : true = true), .m (rfl : true = true), .m (rfl : true = true), .m (rfl : true = true), t4, .m (rfl : true = true), .m (rfl : true = true), .m (rfl : true = true), t8, t9, .m (rfl : true = true), t11, t12, .m (rfl : true = true), .m (rfl : true = true), .m (rfl : true = true), t16, .m (rfl : true = true), t18, t19, .m (rfl : true = true), t21, t22, .m (rfl : true = true), .a (q), .m (rfl : true = true), .m (rfl : true = true), .m (rfl : true = true), t28, .m (rfl : true = true), .m (rfl : true = true), .m (rfl : true = true), .m (rfl : true = true), t33, .m (rfl : true = true), .m (rfl : true = true), .m (rfl : true = true), t37, .m (rfl : true = true), t39, t40, .m (rfl : true = true), t42, t43, .m (rfl : true = true), .m (rfl : true = true), .m (rfl : true = true), t47, t48, .m (rfl : true = true), t50, t51, .m (rfl : true = true), t53, t54, .m (rfl : true = true), t56, t57, t58, .m (rfl : true = true), t60, t61, .m (rfl : true = true), t63, t64, t65, .m (rfl : true = true), t67, t68] (by kernel_rfl)
    · have hr2 : ¬ r < 0 := fun h => hlt (hr.1 h)
      have hle : ∀ z ∈ P' ++ [y], ¬ keyW l x < keyW l z := fun z hz => by
        rcases List.mem_append.1 hz with h | h
        · have := (List.pairwise_append.1 hs).2.2 z h y (by simp); omega
        · obtain rfl := List.mem_singleton.1 h; exact hlt
      have e2 : A ++ ins (keyW l) x (P' ++ [y]) ++ P2 ++ B = A ++ P' ++ y :: ([] ++ x :: (P2 ++ B)) := by rw [ins_ge hle]; simp
      rw [e0, e2]
      obtain ⟨gx, gy, s1, g2, s2⟩ := t
      have hlen : (A ++ P' ++ y :: ([] ++ x :: (P2 ++ B))).length = N := by simp; omega
      generalize A ++ P' ++ y :: ([] ++ x :: (P2 ++ B)) = D at *
      let t4 : Tp pr := .b (show (decide ((↑(p + (1 : Nat)) : Int) > (↑a : Int))) = true by (simp; omega))
      let t8 : Tp pr := .m (show (decide ((0 : Int) ≤ (↑(p + (1 : Nat)) : Int) ∧ (↑(p + (1 : Nat)) : Int).toNat < N)) = true by (simp; omega))
      let t9 : Tp pr := .c (show ((0 : Nat) + (↑(p + (1 : Nat)) : Int).toNat : Nat) = p + (1 : Nat) by omega)
      let t11 : Tp pr := .m (show (decide ((ints D).length = N)) = true by simp [*])
      let t12 : Tp pr := .g .crow (show ((ints D)[p + (1 : Nat)]?) = some ([C.t (T.int IntKind.i64 x)]) from gy)
      let t16 : Tp pr := .i (wrap_i64 (a := (↑(p + (1 : Nat)) : Int) - (1 : Int)) (by omega) (by omega))
      let t18 : Tp pr := .m (show (decide ((0 : Int) ≤ (↑(p + (1 : Nat)) : Int) - (1 : Int) ∧ ((↑(p + (1 : Nat)) : Int) - (1 : Int)).toNat < N)) = true by (simp; omega))
      let t19 : Tp pr := .c (show ((0 : Nat) + ((↑(p + (1 : Nat)) : Int) - (1 : Int)).toNat : Nat) = p by omega)
      let t21 : Tp pr := .m (show (decide ((ints D).length = N)) = true by simp [*])
      let t22 : Tp pr := .g .crow (show ((ints D)[p]?) = some ([C.t (T.int IntKind.i64 y)]) from gx)
      let t28 : Tp pr := .b (show (decide (r < (0 : Int))) = false by (simp; omega))
      exact .tp [.m (rfl : true = true), .m (rfl : true = true), .m (rfl : true = true), .m (rfl : true = true), t4, .m (rfl : true = true), .m (rfl : true = true), .m (rfl : true = true), t8, t9, .m (rfl : true = true), t11, t12, .m (rfl : true = true), .m (rfl : true = true), .m (rfl : true = true), t16, .m (rfl : true = true), t18, t19, .m (rfl : true = true), t21, t22, .m (rfl : true = true), .a (q), .m (rfl : true = true), .m (rfl : true = true), .m (rfl : true = true), t28] (by kernel_rfl)
end Go.Ev

/- Sorting: the insertion sort, whole. -/
namespace Go.Ev
set_option linter.unusedVariables false
set_option linter.unusedSimpArgs false
open Go.Proofs
set_option maxRecDepth 100000
set_option linter.unusedVariables false
set_option maxHeartbeats 2000000
attribute [local simp] toNatS
theorem keyW_ne {l : List Span} {x y : Int} (h0 : 0 ≤ y) (h1 : y < x) (h2 : x < 64) : keyW l y ≠ keyW l x := by
  unfold keyW
  generalize (spAt l x).from_ = a
  generalize (spAt l y).from_ = b
  omega
theorem insO_ev (l : List Span) (hl : l.length ≤ 40) (N a b : Nat) (hN : N ≤ 1000) : ∀ (R A P B : List Int) (i : Nat), a = A.length → 0 < P.length → i = A.length + P.length → b = A.length + P.length + R.length → N = (A ++ P ++ R ++ B).length →
    (∀ x ∈ R, x < l.length ∧ ∀ y ∈ P, 0 ≤ y ∧ y < x) → R.Pairwise (· < ·) → Srt (keyW l) P →
    Ev pr (.loop (lq pr 128 0) (at_ [(0, .vec 0 N 1 0 N), (1, i64 a), (2, i64 b), (3, cloV l), (8, i64 i)] [.vec true 1 (ints (A ++ P ++ R ++ B))] 1))
      (.exit 0 (at_ [] [.vec true 1 (ints (A ++ R.foldl (fun P x => ins (keyW l) x P) P ++ B))] 1))
  | [], A, P, B, i, ha, hP, hi, hb, hNe, h1, h2, h3 => by
    have e : A ++ P ++ [] ++ B = A ++ P ++ B := by simp
    rw [e, List.foldl_nil]
    generalize A ++ P ++ B = D at *
    have hib : (i : Int) = b := by simp at hb; omega
    let t0 : Tp pr := .b (show (decide ((↑i : Int) < (↑b : Int))) = false by (simp; omega))
    exact .tp [t0] (by kernel_rfl)
  | x :: R, A, P, B, i, ha, hP, hi, hb, hNe, h1, h2, h3 => by
    obtain ⟨hxl, hxP⟩ := h1 x (by simp)
    obtain ⟨h4, h5⟩ := List.pairwise_cons.1 h2
    have e1 : A ++ P ++ x :: R ++ B = A ++ P ++ x :: [] ++ (R ++ B) := by simp
    have g := insL_ev l hl N a b i hN x hxl P.length A P [] (R ++ B) i rfl ha hi (by rw [hNe, e1]) hxP h3
    have hx0 : 0 ≤ x := by
      have := hxP (P[0]'(by omega)) (List.getElem_mem _)
      omega
    have hs : Srt (keyW l) (ins (keyW l) x P) := ins_srt h3 fun y hy => keyW_ne (hxP y hy).1 (hxP y hy).2 (by omega)
    have hil := ins_len (W := keyW l) x P
    simp only [List.length_cons] at hb
    have ih := insO_ev l hl N a b hN R A (ins (keyW l) x P) B (i + 1) ha (by omega) (by omega) (by omega) (by rw [hNe]; simp [hil]; omega) (fun z hz => ⟨(h1 z (by simp [hz])).1, fun y hy => by
      rcases List.mem_cons.1 ((ins_perm x P).mem_iff.1 hy) with rfl | hy
      · exact ⟨hx0, h4 z hz⟩
      · exact (h1 z (by simp [hz])).2 y hy⟩) h5 hs
    rw [List.foldl_cons]
    rw [e1]
    have e2 : A ++ ins (keyW l) x P ++ [] ++ (R ++ B) = A ++ ins (keyW l) x P ++ R ++ B := by simp
    rw [e2] at g
    have hNn : (A ++ P ++ x :: [] ++ (R ++ B)).length = N := by rw [hNe, e1]
    generalize A ++ P ++ x :: [] ++ (R ++ B) = D at *
    generalize A ++ ins (keyW l) x P ++ R ++ B = D2 at *
    generalize A ++ List.foldl (fun P x => ins (keyW l) x P) (ins (keyW l) x P) R ++ B = D3 at *
    let t0 : Tp pr := .b (show (decide ((↑i : Int) < (↑b : Int))) = true by (simp; omega))
    let t2 : Tp pr := .i (wrap_i64 (a := (↑i : Int) + (1 : Int)) (by omega) (by (simp at *; omega)))
    exact .tp [t0, .a (g), t2, .a (ih)] (by kernel_rfl)
theorem ins_ev (l : List Span) (hl : l.length ≤ 40) (N a b : Nat) (hN : N ≤ 1000) (A L B : List Int) (ha : a = A.length) (hb : b = A.length + L.length) (hNe : N = (A ++ L ++ B).length) (h0 : ∀ x ∈ L, 0 ≤ x ∧ x < l.length) (h1 : L.Pairwise (· < ·)) :
    Ev pr (.call 128 [.vec 0 N 1 0 N, i64 a, i64 b, cloV l] [.vec true 1 (ints (A ++ L ++ B))]) (.val (.tup []) [.vec true 1 (ints (A ++ isort (keyW l) L ++ B))]) := by
  cases L with
  | nil =>
    rw [show isort (keyW l) [] = [] from rfl]
    have g : Ev pr (.loop (lq pr 128 0) (at_ [(0, .vec 0 N 1 0 N), (1, i64 a), (2, i64 b), (3, cloV l), (8, i64 (a + 1))] [.vec true 1 (ints (A ++ [] ++ B))] 1)) (.exit 0 (at_ [] [.vec true 1 (ints (A ++ [] ++ B))] 1)) := by
      have hab : b = a := by simp at hb; omega
      generalize A ++ [] ++ B = D at *
      subst hab
      let t0 : Tp pr := .b (show (decide ((↑b : Int) + (1 : Int) < (↑b : Int))) = false by (simp; omega))
      exact .tp [t0] (by kernel_rfl)
    have hlen : a ≤ N := by rw [hNe, ha]; simp
    generalize A ++ [] ++ B = D at *
    let t0 : Tp pr := .i (wrap_i64 (a := (↑a : Int) + (1 : Int)) (by omega) (by omega))
    exact .tp [t0, .a (g)] (by kernel_rfl)
  | cons x R =>
    obtain ⟨h4, h5⟩ := List.pairwise_cons.1 h1
    have hx := h0 x (by simp)
    have e1 : A ++ x :: R ++ B = A ++ [x] ++ R ++ B := by simp
    have g := insO_ev l hl N a b hN R A [x] B (a + 1) ha (by simp) (by simp; omega) (by simp at hb ⊢; omega) (hNe.trans (congrArg List.length e1)) (fun z hz => ⟨(h0 z (by simp [hz])).2, fun y hy => by
      obtain rfl := List.mem_singleton.1 hy
      exact ⟨hx.1, h4 z hz⟩⟩) h5 (by simp [Srt])
    have e2 : A ++ List.foldl (fun P x => ins (keyW l) x P) [x] R ++ B = A ++ isort (keyW l) (x :: R) ++ B := rfl
    rw [e2] at g
    rw [e1]
    have hlen : a + 1 ≤ N := by rw [hNe, ha]; simp
    generalize A ++ [x] ++ R ++ B = D at *
    generalize A ++ isort (keyW l) (x :: R) ++ B = D2 at *
    let t0 : Tp pr := .i (wrap_i64 (a := (↑a : Int) + (1 : Int)) (by omega) (by omega))
    exact .tp [t0, .a (g)] (by kernel_rfl)
end Go.Ev

/- Sorting: the searches of a merge, and what they shift. -/
namespace Go.Ev
set_option linter.unusedVariables false
set_option linter.unusedSimpArgs false
open Go.Proofs
set_option maxRecDepth 100000
set_option linter.unusedVariables false
set_option maxHeartbeats 2000000
attribute [local simp] toNatS
theorem fdiv2 (i j : Nat) : ((i : Int) + (j : Int)).fdiv 2 = (((i + j) / 2 : Nat) : Int) := by
  rw [Int.fdiv_eq_ediv_of_nonneg _ (by omega)]
  omega
theorem wdiv2 {i j : Nat} (h : i + j ≤ 2000000) : IntKind.i64.wrap (((i : Int) + (j : Int)).fdiv 2) = (((i + j) / 2 : Nat) : Int) := by
  rw [fdiv2]
  exact wrap_i64 (by omega) (by omega)
/-- A search by halves ends where the answer turns. -/
theorem bs0_ev (l : List Span) (N a p lo hi : Nat) (hN : N ≤ 1000) (D : List Int) (hD : D.length = N) (x : Int) (hx : (ints D)[a]? = some [C.t (.int .i64 x)]) (haN : a < N) (hhi : hi ≤ N)
    (H : ∀ h : Nat, lo ≤ h → h < hi → ∃ y r : Int, (ints D)[h]? = some [C.t (.int .i64 y)] ∧ (r < 0 ↔ h < p) ∧ Ev pr (.call 98 [i64 y, i64 x, .t (turnT l)] []) (.val (i64 r) [])) :
    ∀ (k i j : Nat), j - i ≤ k → lo ≤ i → i ≤ p → p ≤ j → j ≤ hi →
    Ev pr (.loop (lq pr 129 0) (at_ [(0, .vec 0 N 1 0 N), (1, i64 a), (4, cloV l), (10, i64 i), (11, i64 j)] [.vec true 1 (ints D)] 1))
      (.exit 0 (at_ [(0, .vec 0 N 1 0 N), (1, i64 a), (10, i64 p)] [.vec true 1 (ints D)] 1))
  | 0, i, j, hk, h1, h2, h3, h4 => by
    have e : i = p := by omega
    have e2 : j = p := by omega
    subst e
    subst e2
    let t0 : Tp pr := .b (show (decide ((↑j : Int) < (↑j : Int))) = false by simp)
    exact .tp [t0] (by kernel_rfl)
  | k + 1, i, j, hk, h1, h2, h3, h4 => by
    by_cases hij : i < j
    · obtain ⟨y, r, gy, hr, q⟩ := H ((i + j) / 2) (by omega) (by omega)
      have hw := wdiv2 (i := i) (j := j) (by omega)
      obtain ⟨h, hh⟩ : ∃ h, (i + j) / 2 = h := ⟨_, rfl⟩
      have hb : i ≤ h ∧ h < j := by omega
      rw [hh] at hw gy hr
      by_cases hp : h < p
      · have hr2 := hr.2 hp
        have ih := bs0_ev l N a p lo hi hN D hD x hx haN hhi H k (h + 1) j (by omega) (by omega) (by omega) h3 h4
        let t0 : Tp pr := .b (show (decide ((↑i : Int) < (↑j : Int))) = true by (simp; omega))
        let t1 : Tp pr := .i (wrap_i64 (a := (↑i : Int) + (↑j : Int)) (by omega) (by omega))
        let t2 : Tp pr := .i (wrap_u64 (a := (↑i : Int) + (↑j : Int)) (by omega) (by omega))
        let t4 : Tp pr := .i (rfl : (((↑i : Int) + (↑j : Int)).fdiv (2 : Int)) = _)
        let t5 : Tp pr := .i (show (IntKind.i64.wrap (((↑i : Int) + (↑j : Int)).fdiv (2 : Int)) : Int) = ((↑h : Int) : Int) from hw)
        let t9 : Tp pr := .m (show (decide ((0 : Int) ≤ (↑h : Int) ∧ (↑h : Int).toNat < N)) = true by (simp; omega))
        let t10 : Tp pr := .c (show ((0 : Nat) + (↑h : Int).toNat : Nat) = h by omega)
        let t12 : Tp pr := .m (show (decide ((ints D).length = N)) = true by simp [*])
        let t13 : Tp pr := .g .crow (show ((ints D)[h]?) = some ([C.t (T.int IntKind.i64 y)]) from gy)
        let t17 : Tp pr := .m (show (decide ((0 : Int) ≤ (↑a : Int) ∧ (↑a : Int).toNat < N)) = true by simp [*])
        let t18 : Tp pr := .c (show ((0 : Nat) + (↑a : Int).toNat : Nat) = a by omega)
        let t20 : Tp pr := .m (show (decide ((ints D).length = N)) = true by simp [*])
        let t21 : Tp pr := .g .crow (show ((ints D)[a]?) = some ([C.t (T.int IntKind.i64 x)]) from hx)
        let t26 : Tp pr := .b (show (decide (r < (0 : Int))) = true by (simp; omega))
        let t27 : Tp pr := .i (wrap_i64 (a := (↑h : Int) + (1 : Int)) (by omega) (by omega))
        exact .tp [t0, t1, t2, .m (rfl : true = true), t4, t5, .m (rfl : true = true), .m (rfl : true = true), .m (rfl : true = true), t9, t10, .m (rfl : true = true), t12, t13, .m (rfl : true = true), .m (rfl : true = true), .m (rfl : true = true), t17, t18, .m (rfl : true = true), t20, t21, .m (rfl : true = true), .a (q), .m (rfl : true = true), .m (rfl : true = true), t26, t27, .a (ih)] (by kernel_rfl)
      · have hr2 : ¬ r < 0 := fun h => hp (hr.1 h)
        have ih := bs0_ev l N a p lo hi hN D hD x hx haN hhi H k i h (by omega) h1 h2 (by omega) (by omega)
        let t0 : Tp pr := .b (show (decide ((↑i : Int) < (↑j : Int))) = true by (simp; omega))
        let t1 : Tp pr := .i (wrap_i64 (a := (↑i : Int) + (↑j : Int)) (by omega) (by omega))
        let t2 : Tp pr := .i (wrap_u64 (a := (↑i : Int) + (↑j : Int)) (by omega) (by omega))
        let t4 : Tp pr := .i (rfl : (((↑i : Int) + (↑j : Int)).fdiv (2 : Int)) = _)
        let t5 : Tp pr := .i (show (IntKind.i64.wrap (((↑i : Int) + (↑j : Int)).fdiv (2 : Int)) : Int) = ((↑h : Int) : Int) from hw)
        let t9 : Tp pr := .m (show (decide ((0 : Int) ≤ (↑h : Int) ∧ (↑h : Int).toNat < N)) = true by (simp; omega))
        let t10 : Tp pr := .c (show ((0 : Nat) + (↑h : Int).toNat : Nat) = h by omega)
        let t12 : Tp pr := .m (show (decide ((ints D).length = N)) = true by simp [*])
        let t13 : Tp pr := .g .crow (show ((ints D)[h]?) = some ([C.t (T.int IntKind.i64 y)]) from gy)
        let t17 : Tp pr := .m (show (decide ((0 : Int) ≤ (↑a : Int) ∧ (↑a : Int).toNat < N)) = true by simp [*])
        let t18 : Tp pr := .c (show ((0 : Nat) + (↑a : Int).toNat : Nat) = a by omega)
        let t20 : Tp pr := .m (show (decide ((ints D).length = N)) = true by simp [*])
        let t21 : Tp pr := .g .crow (show ((ints D)[a]?) = some ([C.t (T.int IntKind.i64 x)]) from hx)
        let t26 : Tp pr := .b (show (decide (r < (0 : Int))) = false by (simp; omega))
        exact .tp [t0, t1, t2, .m (rfl : true = true), t4, t5, .m (rfl : true = true), .m (rfl : true = true), .m (rfl : true = true), t9, t10, .m (rfl : true = true), t12, t13, .m (rfl : true = true), .m (rfl : true = true), .m (rfl : true = true), t17, t18, .m (rfl : true = true), t20, t21, .m (rfl : true = true), .a (q), .m (rfl : true = true), .m (rfl : true = true), t26, .a (ih)] (by kernel_rfl)
    · have e : i = p := by omega
      have e2 : j = p := by omega
      subst e
      subst e2
      let t0 : Tp pr := .b (show (decide ((↑j : Int) < (↑j : Int))) = false by simp)
      exact .tp [t0] (by kernel_rfl)
theorem bs2_ev (l : List Span) (N m p lo hi : Nat) (hN : N ≤ 1000) (D : List Int) (hD : D.length = N) (x : Int) (hx : (ints D)[m]? = some [C.t (.int .i64 x)]) (haN : m < N) (hhi : hi ≤ N)
    (H : ∀ h : Nat, lo ≤ h → h < hi → ∃ y r : Int, (ints D)[h]? = some [C.t (.int .i64 y)] ∧ (¬ r < 0 ↔ h < p) ∧ Ev pr (.call 98 [i64 x, i64 y, .t (turnT l)] []) (.val (i64 r) [])) :
    ∀ (k i j : Nat), j - i ≤ k → lo ≤ i → i ≤ p → p ≤ j → j ≤ hi →
    Ev pr (.loop (lq pr 129 2) (at_ [(0, .vec 0 N 1 0 N), (2, i64 m), (4, cloV l), (14, i64 i), (15, i64 j)] [.vec true 1 (ints D)] 1))
      (.exit 4 (at_ [(0, .vec 0 N 1 0 N), (2, i64 m), (14, i64 p)] [.vec true 1 (ints D)] 1))
  | 0, i, j, hk, h1, h2, h3, h4 => by
    have e : i = p := by omega
    have e2 : j = p := by omega
    subst e
    subst e2
    let t0 : Tp pr := .b (show (decide ((↑j : Int) < (↑j : Int))) = false by simp)
    exact .tp [t0] (by kernel_rfl)
  | k + 1, i, j, hk, h1, h2, h3, h4 => by
    by_cases hij : i < j
    · obtain ⟨y, r, gy, hr, q⟩ := H ((i + j) / 2) (by omega) (by omega)
      have hw := wdiv2 (i := i) (j := j) (by omega)
      obtain ⟨h, hh⟩ : ∃ h, (i + j) / 2 = h := ⟨_, rfl⟩
      have hb : i ≤ h ∧ h < j := by omega
      rw [hh] at hw gy hr
      by_cases hp : h < p
      · have hr2 := hr.2 hp
        have ih := bs2_ev l N m p lo hi hN D hD x hx haN hhi H k (h + 1) j (by omega) (by omega) (by omega) h3 h4
        let t0 : Tp pr := .b (show (decide ((↑i : Int) < (↑j : Int))) = true by (simp; omega))
        let t1 : Tp pr := .i (wrap_i64 (a := (↑i : Int) + (↑j : Int)) (by omega) (by omega))
        let t2 : Tp pr := .i (wrap_u64 (a := (↑i : Int) + (↑j : Int)) (by omega) (by omega))
        let t4 : Tp pr := .i (rfl : (((↑i : Int) + (↑j : Int)).fdiv (2 : Int)) = _)
        let t5 : Tp pr := .i (show (IntKind.i64.wrap (((↑i : Int) + (↑j : Int)).fdiv (2 : Int)) : Int) = ((↑h : Int) : Int) from hw)
        let t9 : Tp pr := .m (show (decide ((0 : Int) ≤ (↑m : Int) ∧ (↑m : Int).toNat < N)) = true by simp [*])
        let t10 : Tp pr := .c (show ((0 : Nat) + (↑m : Int).toNat : Nat) = m by omega)
        let t12 : Tp pr := .m (show (decide ((ints D).length = N)) = true by simp [*])
        let t13 : Tp pr := .g .crow (show ((ints D)[m]?) = some ([C.t (T.int IntKind.i64 x)]) from hx)
        let t17 : Tp pr := .m (show (decide ((0 : Int) ≤ (↑h : Int) ∧ (↑h : Int).toNat < N)) = true by (simp; omega))
        let t18 : Tp pr := .c (show ((0 : Nat) + (↑h : Int).toNat : Nat) = h by omega)
        let t20 : Tp pr := .m (show (decide ((ints D).length = N)) = true by simp [*])
        let t21 : Tp pr := .g .crow (show ((ints D)[h]?) = some ([C.t (T.int IntKind.i64 y)]) from gy)
        let t27 : Tp pr := .b (show (!decide (r < (0 : Int))) = true by (simp; omega))
        let t28 : Tp pr := .i (wrap_i64 (a := (↑h : Int) + (1 : Int)) (by omega) (by omega))
        exact .tp [t0, t1, t2, .m (rfl : true = true), t4, t5, .m (rfl : true = true), .m (rfl : true = true), .m (rfl : true = true), t9, t10, .m (rfl : true = true), t12, t13, .m (rfl : true = true), .m (rfl : true = true), .m (rfl : true = true), t17, t18, .m (rfl : true = true), t20, t21, .m (rfl : true = true), .a (q), .m (rfl : true = true), .m (rfl : true = true), .m (rfl : true = true), t27, t28, .a (ih)] (by kernel_rfl)
      · have hr2 : r < 0 := Decidable.byContradiction fun h => hp (hr.1 h)
        have ih := bs2_ev l N m p lo hi hN D hD x hx haN hhi H k i h (by omega) h1 h2 (by omega) (by omega)
        let t0 : Tp pr := .b (show (decide ((↑i : Int) < (↑j : Int))) = true by (simp; omega))
        let t1 : Tp pr := .i (wrap_i64 (a := (↑i : Int) + (↑j : Int)) (by omega) (by omega))
        let t2 : Tp pr := .i (wrap_u64 (a := (↑i : Int) + (↑j : Int)) (by omega) (by omega))
        let t4 : Tp pr := .i (rfl : (((↑i : Int) + (↑j : Int)).fdiv (2 : Int)) = _)
        let t5 : Tp pr := .i (show (IntKind.i64.wrap (((↑i : Int) + (↑j : Int)).fdiv (2 : Int)) : Int) = ((↑h : Int) : Int) from hw)
        let t9 : Tp pr := .m (show (decide ((0 : Int) ≤ (↑m : Int) ∧ (↑m : Int).toNat < N)) = true by simp [*])
        let t10 : Tp pr := .c (show ((0 : Nat) + (↑m : Int).toNat : Nat) = m by omega)
        let t12 : Tp pr := .m (show (decide ((ints D).length = N)) = true by simp [*])
        let t13 : Tp pr := .g .crow (show ((ints D)[m]?) = some ([C.t (T.int IntKind.i64 x)]) from hx)
        let t17 : Tp pr := .m (show (decide ((0 : Int) ≤ (↑h : Int) ∧ (↑h : Int).toNat < N)) = true by (simp; omega))
        let t18 : Tp pr := .c (show ((0 : Nat) + (↑h : Int).toNat : Nat) = h by omega)
        let t20 : Tp pr := .m (show (decide ((ints D).length = N)) = true by simp [*])
        let t21 : Tp pr := .g .crow (show ((ints D)[h]?) = some ([C.t (T.int IntKind.i64 y)]) from gy)
        let t27 : Tp pr := .b (show (!decide (r < (0 : Int))) = false by (simp; omega))
        exact .tp [t0, t1, t2, .m (rfl : true = true), t4, t5, .m (rfl : true = true), .m (rfl : true = true), .m (rfl : true = true), t9, t10, .m (rfl : true = true), t12, t13, .m (rfl : true = true), .m (rfl : true = true), .m (rfl : true = true), t17, t18, .m (rfl : true = true), t20, t21, .m (rfl : true = true), .a (q), .m (rfl : true = true), .m (rfl : true = true), .m (rfl : true = true), t27, .a (ih)] (by kernel_rfl)
    · have e : i = p := by omega
      have e2 : j = p := by omega
      subst e
      subst e2
      let t0 : Tp pr := .b (show (decide ((↑j : Int) < (↑j : Int))) = false by simp)
      exact .tp [t0] (by kernel_rfl)
theorem bs4_ev (l : List Span) (N a m b mid n pp p lo hi : Nat) (hN : N ≤ 1000) (D : List Int) (hD : D.length = N) (hhi : hi ≤ N)
    (H : ∀ h : Nat, lo ≤ h → h < hi → ∃ x y r : Int, h ≤ pp ∧ pp - h < N ∧ (ints D)[pp - h]? = some [C.t (.int .i64 x)] ∧ (ints D)[h]? = some [C.t (.int .i64 y)] ∧ (¬ r < 0 ↔ h < p) ∧ Ev pr (.call 98 [i64 x, i64 y, .t (turnT l)] []) (.val (i64 r) [])) :
    ∀ (k i j : Nat), j - i ≤ k → lo ≤ i → i ≤ p → p ≤ j → j ≤ hi →
    Ev pr (.loop (lq pr 129 4) (at_ [(0, .vec 0 N 1 0 N), (1, i64 a), (2, i64 m), (3, i64 b), (4, cloV l), (18, i64 mid), (19, i64 n), (20, i64 i), (21, i64 j), (22, i64 pp)] [.vec true 1 (ints D)] 1))
      (.exit 8 (at_ [(0, .vec 0 N 1 0 N), (1, i64 a), (2, i64 m), (3, i64 b), (4, cloV l), (18, i64 mid), (19, i64 n), (20, i64 p)] [.vec true 1 (ints D)] 1))
  | 0, i, j, hk, h1, h2, h3, h4 => by
    have e : i = p := by omega
    have e2 : j = p := by omega
    subst e
    subst e2
    let t0 : Tp pr := .b (show (decide ((↑j : Int) < (↑j : Int))) = false by simp)
    exact .tp [t0] (by kernel_rfl)
  | k + 1, i, j, hk, h1, h2, h3, h4 => by
    by_cases hij : i < j
    · obtain ⟨x, y, r, hpp, hpn, gx, gy, hr, q⟩ := H ((i + j) / 2) (by omega) (by omega)
      have hw := wdiv2 (i := i) (j := j) (by omega)
      obtain ⟨h, hh⟩ : ∃ h, (i + j) / 2 = h := ⟨_, rfl⟩
      have hb : i ≤ h ∧ h < j := by omega
      rw [hh] at hw gx gy hr hpp hpn
      obtain ⟨c, hc⟩ : ∃ c, pp = c + h := ⟨pp - h, by omega⟩
      subst hc
      rw [Nat.add_sub_cancel] at gx hpn
      have hch : ((c + h : Nat) : Int) - (h : Int) = c := by omega
      have hch2 : ((c : Int) + (h : Int)) - (h : Int) = c := by omega
      by_cases hp : h < p
      · have hr2 := hr.2 hp
        have ih := bs4_ev l N a m b mid n (c + h) p lo hi hN D hD hhi H k (h + 1) j (by omega) (by omega) (by omega) h3 h4
        let t0 : Tp pr := .b (show (decide ((↑i : Int) < (↑j : Int))) = true by (simp; omega))
        let t1 : Tp pr := .i (wrap_i64 (a := (↑i : Int) + (↑j : Int)) (by omega) (by omega))
        let t2 : Tp pr := .i (wrap_u64 (a := (↑i : Int) + (↑j : Int)) (by omega) (by omega))
        let t4 : Tp pr := .i (rfl : (((↑i : Int) + (↑j : Int)).fdiv (2 : Int)) = _)
        let t5 : Tp pr := .i (show (IntKind.i64.wrap (((↑i : Int) + (↑j : Int)).fdiv (2 : Int)) : Int) = ((↑h : Int) : Int) from hw)
        let t10 : Tp pr := .i (wrap_i64 (a := (↑(c + h) : Int) - (↑h : Int)) (by omega) (by omega))
        let t12 : Tp pr := .m (show (decide ((0 : Int) ≤ (↑(c + h) : Int) - (↑h : Int) ∧ ((↑(c + h) : Int) - (↑h : Int)).toNat < N)) = true by simp [*])
        let t13 : Tp pr := .c (show ((0 : Nat) + ((↑(c + h) : Int) - (↑h : Int)).toNat : Nat) = c by omega)
        let t15 : Tp pr := .m (show (decide ((ints D).length = N)) = true by simp [*])
        let t16 : Tp pr := .g .crow (show ((ints D)[c]?) = some ([C.t (T.int IntKind.i64 x)]) from gx)
        let t20 : Tp pr := .m (show (decide ((0 : Int) ≤ (↑h : Int) ∧ (↑h : Int).toNat < N)) = true by (simp; omega))
        let t21 : Tp pr := .c (show ((0 : Nat) + (↑h : Int).toNat : Nat) = h by omega)
        let t23 : Tp pr := .m (show (decide ((ints D).length = N)) = true by simp [*])
        let t24 : Tp pr := .g .crow (show ((ints D)[h]?) = some ([C.t (T.int IntKind.i64 y)]) from gy)
        let t30 : Tp pr := .b (show (!decide (r < (0 : Int))) = true by (simp; omega))
        let t31 : Tp pr := .i (wrap_i64 (a := (↑h : Int) + (1 : Int)) (by omega) (by omega))
        exact .tp [t0, t1, t2, .m (rfl : true = true), t4, t5, .m (rfl : true = true), .m (rfl : true = true), .m (rfl : true = true), .m (rfl : true = true), t10, .m (rfl : true = true), t12, t13, .m (rfl : true = true), t15, t16, .m (rfl : true = true), .m (rfl : true = true), .m (rfl : true = true), t20, t21, .m (rfl : true = true), t23, t24, .m (rfl : true = true), .a (q), .m (rfl : true = true), .m (rfl : true = true), .m (rfl : true = true), t30, t31, .a (ih)] (by kernel_rfl)
      · have hr2 : r < 0 := Decidable.byContradiction fun h => hp (hr.1 h)
        have ih := bs4_ev l N a m b mid n (c + h) p lo hi hN D hD hhi H k i h (by omega) h1 h2 (by omega) (by omega)
        let t0 : Tp pr := .b (show (decide ((↑i : Int) < (↑j : Int))) = true by (simp; omega))
        let t1 : Tp pr := .i (wrap_i64 (a := (↑i : Int) + (↑j : Int)) (by omega) (by omega))
        let t2 : Tp pr := .i (wrap_u64 (a := (↑i : Int) + (↑j : Int)) (by omega) (by omega))
        let t4 : Tp pr := .i (rfl : (((↑i : Int) + (↑j : Int)).fdiv (2 : Int)) = _)
        let t5 : Tp pr := .i (show (IntKind.i64.wrap (((↑i : Int) + (↑j : Int)).fdiv (2 : Int)) : Int) = ((↑h : Int) : Int) from hw)
        let t10 : Tp pr := .i (wrap_i64 (a := (↑(c + h) : Int) - (↑h : Int)) (by omega) (by omega))
        let t12 : Tp pr := .m (show (decide ((0 : Int) ≤ (↑(c + h) : Int) - (↑h : Int) ∧ ((↑(c + h) : Int) - (↑h : Int)).toNat < N)) = true by simp [*])
        let t13 : Tp pr := .c (show ((0 : Nat) + ((↑(c + h) : Int) - (↑h : Int)).toNat : Nat) = c by omega)
        let t15 : Tp pr := .m (show (decide ((ints D).length = N)) = true by simp [*])
        let t16 : Tp pr := .g .crow (show ((ints D)[c]?) = some ([C.t (T.int IntKind.i64 x)]) from gx)
        let t20 : Tp pr := .m (show (decide ((0 : Int) ≤ (↑h : Int) ∧ (↑h : Int).toNat < N)) = true by (simp; omega))
        let t21 : Tp pr := .c (show ((0 : Nat) + (↑h : Int).toNat : Nat) = h by omega)
        let t23 : Tp pr := .m (show (decide ((ints D).length = N)) = true by simp [*])
        let t24 : Tp pr := .g .crow (show ((ints D)[h]?) = some ([C.t (T.int IntKind.i64 y)]) from gy)
        let t30 : Tp pr := .b (show (!decide (r < (0 : Int))) = false by (simp; omega))
        exact .tp [t0, t1, t2, .m (rfl : true = true), t4, t5, .m (rfl : true = true), .m (rfl : true = true), .m (rfl : true = true), .m (rfl : true = true), t10, .m (rfl : true = true), t12, t13, .m (rfl : true = true), t15, t16, .m (rfl : true = true), .m (rfl : true = true), .m (rfl : true = true), t20, t21, .m (rfl : true = true), t23, t24, .m (rfl : true = true), .a (q), .m (rfl : true = true), .m (rfl : true = true), .m (rfl : true = true), t30, .a (ih)] (by kernel_rfl)
    · have e : i = p := by omega
      have e2 : j = p := by omega
      subst e
      subst e2
      let t0 : Tp pr := .b (show (decide ((↑j : Int) < (↑j : Int))) = false by simp)
      exact .tp [t0] (by kernel_rfl)
theorem sh1_ev (N p : Nat) (hN : N ≤ 1000) (x : Int) : ∀ (R A B : List Int) (k : Nat), k = A.length → p = A.length + R.length + 1 → N = (A ++ x :: R ++ B).length →
    Ev pr (.loop (lq pr 129 1) (at_ [(0, .vec 0 N 1 0 N), (10, i64 p), (13, i64 k)] [.vec true 1 (ints (A ++ x :: R ++ B))] 1))
      (.exit 2 (at_ [] [.vec true 1 (ints (A ++ R ++ x :: B))] 1))
  | [], A, B, k, hk, hp, hNe => by
    have e : A ++ x :: [] ++ B = A ++ [] ++ x :: B := by simp
    rw [e]
    have hkp : (p : Int) = k + 1 := by simp at hp; omega
    generalize A ++ [] ++ x :: B = D at *
    let t0 : Tp pr := .i (wrap_i64 (a := (↑p : Int) - (1 : Int)) (by omega) (by (simp at *; omega)))
    let t1 : Tp pr := .b (show (decide ((↑k : Int) < (↑p : Int) - (1 : Int))) = false by (simp; omega))
    exact .tp [t0, t1] (by kernel_rfl)
  | y :: R, A, B, k, hk, hp, hNe => by
    have t := two_of A [] (R ++ B) x y
    rw [List.length_nil, Nat.add_zero, ← hk] at t
    have ih := sh1_ev N p hN x R (A ++ [y]) B (k + 1) (by simp [hk]) (by simp at hp ⊢; omega) (by rw [hNe]; simp)
    have e1 : A ++ x :: (y :: R) ++ B = A ++ x :: ([] ++ y :: (R ++ B)) := by simp
    have e2 : A ++ [y] ++ x :: R ++ B = A ++ y :: ([] ++ x :: (R ++ B)) := by simp
    have e3 : A ++ y :: R ++ x :: B = A ++ [y] ++ R ++ x :: B := by simp
    have hlen : (A ++ x :: ([] ++ y :: (R ++ B))).length = N := by rw [hNe]; simp
    have hkN : k + 1 < N := by rw [hNe]; simp; omega
    simp only [List.length_cons] at hp
    have hpk : k + 2 ≤ p := by omega
    have hpN : p ≤ N := by rw [hNe]; simp; omega
    rw [e1, e3]
    rw [e2] at ih
    obtain ⟨gx, gy, s1, g2, s2⟩ := t
    generalize A ++ x :: ([] ++ y :: (R ++ B)) = D at *
    generalize A ++ y :: ([] ++ y :: (R ++ B)) = D1 at *
    generalize A ++ y :: ([] ++ x :: (R ++ B)) = D2 at *
    generalize A ++ [y] ++ R ++ x :: B = D3 at *
    rw [← s1] at g2
    have s3 : (D.set k y).set (k + 1) x = D2 := by rw [s1]; exact s2
    clear s1 s2
    let t0 : Tp pr := .i (wrap_i64 (a := (↑p : Int) - (1 : Int)) (by omega) (by omega))
    let t1 : Tp pr := .b (show (decide ((↑k : Int) < (↑p : Int) - (1 : Int))) = true by (simp; omega))
    let t6 : Tp pr := .i (wrap_i64 (a := (↑k : Int) + (1 : Int)) (by omega) (by omega))
    let t10 : Tp pr := .i (wrap_i64 (a := (↑k : Int) + (1 : Int)) (by omega) (by omega))
    let t12 : Tp pr := .m (show (decide ((0 : Int) ≤ (↑k : Int) + (1 : Int) ∧ ((↑k : Int) + (1 : Int)).toNat < N)) = true by (simp; omega))
    let t13 : Tp pr := .c (show ((0 : Nat) + ((↑k : Int) + (1 : Int)).toNat : Nat) = k + (1 : Nat) by omega)
    let t15 : Tp pr := .m (show (decide ((ints D).length = N)) = true by (simp; omega))
    let t16 : Tp pr := .g .crow (show ((ints D)[k + (1 : Nat)]?) = some ([C.t (T.int IntKind.i64 y)]) from gy)
    let t20 : Tp pr := .m (show (decide ((0 : Int) ≤ (↑k : Int) ∧ (↑k : Int).toNat < N)) = true by (simp; omega))
    let t21 : Tp pr := .c (show ((0 : Nat) + (↑k : Int).toNat : Nat) = k by omega)
    let t23 : Tp pr := .m (show (decide ((ints D).length = N)) = true by (simp; omega))
    let t24 : Tp pr := .g .crow (show ((ints D)[k]?) = some ([C.t (T.int IntKind.i64 x)]) from gx)
    let t26 : Tp pr := .m (show (decide ((0 : Int) ≤ (↑k : Int) ∧ (↑k : Int).toNat < N)) = true by (simp; omega))
    let t27 : Tp pr := .c (show ((0 : Nat) + (↑k : Int).toNat : Nat) = k by omega)
    let t29 : Tp pr := .m (show (decide ((ints D).length = N)) = true by (simp; omega))
    let t30 : Tp pr := .g .crow (show ((ints D)[k]?) = some ([C.t (T.int IntKind.i64 x)]) from gx)
    let t31 : Tp pr := .n .crows (show ((ints D).set k [C.t (T.int IntKind.i64 y)]) = ints (D.set k y) by simp)
    let t33 : Tp pr := .m (show (decide ((0 : Int) ≤ (↑k : Int) + (1 : Int) ∧ ((↑k : Int) + (1 : Int)).toNat < N)) = true by (simp; omega))
    let t34 : Tp pr := .c (show ((0 : Nat) + ((↑k : Int) + (1 : Int)).toNat : Nat) = k + (1 : Nat) by omega)
    let t36 : Tp pr := .m (show (decide ((ints (D.set k y)).length = N)) = true by (simp; omega))
    let t37 : Tp pr := .g .crow (show ((ints (D.set k y))[k + (1 : Nat)]?) = some ([C.t (T.int IntKind.i64 y)]) from g2)
    let t38 : Tp pr := .n .crows (show ((ints (D.set k y)).set (k + (1 : Nat)) [C.t (T.int IntKind.i64 x)]) = ints ((D.set k y).set (k + (1 : Nat)) x) by simp)
    let t40 : Tp pr := .i (wrap_i64 (a := (↑k : Int) + (1 : Int)) (by omega) (by omega))
    let t41 : Tp pr := .a (Ev.castq (congrArg (fun x => Q.loop (lq pr (129 : FuncId) (1 : Nat)) (at_ [((0 : Nat), V.vec (0 : Nat) N (1 : Nat) (0 : Nat) N), ((10 : Nat), i64 (↑p : Int)), ((13 : Nat), i64 (↑(k + (1 : Nat)) : Int))] [Ob.vec true (1 : Nat) x] (1 : Nat))) (show (ints D2) = (ints ((D.set k y).set (k + (1 : Nat)) x)) by simp [s3])) (ih))
    exact .tp [t0, t1, .m (rfl : true = true), .m (rfl : true = true), .m (rfl : true = true), .m (rfl : true = true), t6, .m (rfl : true = true), .m (rfl : true = true), .m (rfl : true = true), t10, .m (rfl : true = true), t12, t13, .m (rfl : true = true), t15, t16, .m (rfl : true = true), .m (rfl : true = true), .m (rfl : true = true), t20, t21, .m (rfl : true = true), t23, t24, .m (rfl : true = true), t26, t27, .m (rfl : true = true), t29, t30, t31, .m (rfl : true = true), t33, t34, .m (rfl : true = true), t36, t37, t38, .m (rfl : true = true), t40, t41] (by kernel_rfl)
theorem sh3_ev (N p : Nat) (hN : N ≤ 1000) (x : Int) : ∀ (n : Nat) (A L B : List Int) (k : Nat), L.length = n → p = A.length → k = A.length + L.length → N = (A ++ L ++ x :: B).length →
    Ev pr (.loop (lq pr 129 3) (at_ [(0, .vec 0 N 1 0 N), (14, i64 p), (17, i64 k)] [.vec true 1 (ints (A ++ L ++ x :: B))] 1))
      (.exit 6 (at_ [] [.vec true 1 (ints (A ++ x :: L ++ B))] 1))
  | 0, A, L, B, k, hn, hp, hk, hNe => by
    obtain rfl : L = [] := List.length_eq_zero_iff.1 hn
    have e : A ++ [] ++ x :: B = A ++ x :: [] ++ B := by simp
    rw [e]
    have hkp : (k : Int) = p := by simp at hk; omega
    generalize A ++ x :: [] ++ B = D at *
    let t0 : Tp pr := .b (show (decide ((↑k : Int) > (↑p : Int))) = false by (simp; omega))
    exact .tp [t0] (by kernel_rfl)
  | n + 1, A, L, B, k, hn, hp, hk, hNe => by
    obtain ⟨L', y, rfl⟩ : ∃ L' y, L = L' ++ [y] := by
      rcases List.eq_nil_or_concat L with h | ⟨P', y, h⟩
      · subst h; simp at hn
      · exact ⟨P', y, by simpa using h⟩
    have t := twoR_of (A ++ L') [] B y x
    obtain ⟨q, hq⟩ : ∃ q, (A ++ L').length = q := ⟨_, rfl⟩
    rw [List.length_nil, Nat.add_zero, hq] at t
    have hq2 : A.length + L'.length = q := by rw [← hq]; simp
    have hkq : k = q + 1 := by rw [hk]; simp; omega
    subst hkq
    have ih := sh3_ev N p hN x n A L' (y :: B) q (by simpa using hn) hp hq2.symm (by rw [hNe]; simp)
    have e1 : A ++ (L' ++ [y]) ++ x :: B = A ++ L' ++ y :: ([] ++ x :: B) := by simp
    have e2 : A ++ L' ++ x :: y :: B = A ++ L' ++ x :: ([] ++ y :: B) := by simp
    have e3 : A ++ x :: (L' ++ [y]) ++ B = A ++ x :: L' ++ y :: B := by simp
    have hlen : (A ++ L' ++ y :: ([] ++ x :: B)).length = N := by rw [hNe]; simp
    have hkN : q + 1 < N := by rw [hNe, ← hq]; simp; omega
    rw [e1, e3]
    rw [e2] at ih
    obtain ⟨gx, gy, s1, g2, s2⟩ := t
    generalize A ++ L' ++ y :: ([] ++ x :: B) = D at *
    generalize A ++ L' ++ y :: ([] ++ y :: B) = D1 at *
    generalize A ++ L' ++ x :: ([] ++ y :: B) = D2 at *
    generalize A ++ x :: L' ++ y :: B = D3 at *
    rw [← s1] at g2
    have s3 : (D.set (q + 1) y).set q x = D2 := by rw [s1]; exact s2
    clear s1 s2
    let t0 : Tp pr := .b (show (decide ((↑(q + (1 : Nat)) : Int) > (↑p : Int))) = true by (simp; omega))
    let t5 : Tp pr := .i (wrap_i64 (a := (↑(q + (1 : Nat)) : Int) - (1 : Int)) (by omega) (by omega))
    let t9 : Tp pr := .i (wrap_i64 (a := (↑(q + (1 : Nat)) : Int) - (1 : Int)) (by omega) (by omega))
    let t11 : Tp pr := .m (show (decide ((0 : Int) ≤ (↑(q + (1 : Nat)) : Int) - (1 : Int) ∧ ((↑(q + (1 : Nat)) : Int) - (1 : Int)).toNat < N)) = true by (simp; omega))
    let t12 : Tp pr := .c (show ((0 : Nat) + ((↑(q + (1 : Nat)) : Int) - (1 : Int)).toNat : Nat) = q by omega)
    let t14 : Tp pr := .m (show (decide ((ints D).length = N)) = true by (simp; omega))
    let t15 : Tp pr := .g .crow (show ((ints D)[q]?) = some ([C.t (T.int IntKind.i64 y)]) from gx)
    let t19 : Tp pr := .m (show (decide ((0 : Int) ≤ (↑(q + (1 : Nat)) : Int) ∧ (↑(q + (1 : Nat)) : Int).toNat < N)) = true by (simp; omega))
    let t20 : Tp pr := .c (show ((0 : Nat) + (↑(q + (1 : Nat)) : Int).toNat : Nat) = q + (1 : Nat) by omega)
    let t22 : Tp pr := .m (show (decide ((ints D).length = N)) = true by (simp; omega))
    let t23 : Tp pr := .g .crow (show ((ints D)[q + (1 : Nat)]?) = some ([C.t (T.int IntKind.i64 x)]) from gy)
    let t25 : Tp pr := .m (show (decide ((0 : Int) ≤ (↑(q + (1 : Nat)) : Int) ∧ (↑(q + (1 : Nat)) : Int).toNat < N)) = true by (simp; omega))
    let t26 : Tp pr := .c (show ((0 : Nat) + (↑(q + (1 : Nat)) : Int).toNat : Nat) = q + (1 : Nat) by omega)
    let t28 : Tp pr := .m (show (decide ((ints D).length = N)) = true by (simp; omega))
    let t29 : Tp pr := .g .crow (show ((ints D)[q + (1 : Nat)]?) = some ([C.t (T.int IntKind.i64 x)]) from gy)
    let t30 : Tp pr := .n .crows (show ((ints D).set (q + (1 : Nat)) [C.t (T.int IntKind.i64 y)]) = ints (D.set (q + (1 : Nat)) y) by simp)
    let t32 : Tp pr := .m (show (decide ((0 : Int) ≤ (↑(q + (1 : Nat)) : Int) - (1 : Int) ∧ ((↑(q + (1 : Nat)) : Int) - (1 : Int)).toNat < N)) = true by (simp; omega))
    let t33 : Tp pr := .c (show ((0 : Nat) + ((↑(q + (1 : Nat)) : Int) - (1 : Int)).toNat : Nat) = q by omega)
    let t35 : Tp pr := .m (show (decide ((ints (D.set (q + (1 : Nat)) y)).length = N)) = true by (simp; omega))
    let t36 : Tp pr := .g .crow (show ((ints (D.set (q + (1 : Nat)) y))[q]?) = some ([C.t (T.int IntKind.i64 y)]) from g2)
    let t37 : Tp pr := .n .crows (show ((ints (D.set (q + (1 : Nat)) y)).set q [C.t (T.int IntKind.i64 x)]) = ints ((D.set (q + (1 : Nat)) y).set q x) by simp)
    let t39 : Tp pr := .i (wrap_i64 (a := (↑(q + (1 : Nat)) : Int) - (1 : Int)) (by omega) (by omega))
    let t40 : Tp pr := .a (Ev.castq ((congrArg (fun x => Q.loop (lq pr (129 : FuncId) (3 : Nat)) (at_ [((0 : Nat), V.vec (0 : Nat) N (1 : Nat) (0 : Nat) N), ((14 : Nat), i64 (↑p : Int)), ((17 : Nat), i64 x)] [Ob.vec true (1 : Nat) (ints D2)] (1 : Nat))) (show ((↑q : Int)) = ((↑(q + (1 : Nat)) : Int) - (1 : Int)) by simp [s3])).trans (congrArg (fun x => Q.loop (lq pr (129 : FuncId) (3 : Nat)) (at_ [((0 : Nat), V.vec (0 : Nat) N (1 : Nat) (0 : Nat) N), ((14 : Nat), i64 (↑p : Int)), ((17 : Nat), i64 ((↑(q + (1 : Nat)) : Int) - (1 : Int)))] [Ob.vec true (1 : Nat) x] (1 : Nat))) (show (ints D2) = (ints ((D.set (q + (1 : Nat)) y).set q x)) by simp [s3]))) (ih))
    exact .tp [t0, .m (rfl : true = true), .m (rfl : true = true), .m (rfl : true = true), .m (rfl : true = true), t5, .m (rfl : true = true), .m (rfl : true = true), .m (rfl : true = true), t9, .m (rfl : true = true), t11, t12, .m (rfl : true = true), t14, t15, .m (rfl : true = true), .m (rfl : true = true), .m (rfl : true = true), t19, t20, .m (rfl : true = true), t22, t23, .m (rfl : true = true), t25, t26, .m (rfl : true = true), t28, t29, t30, .m (rfl : true = true), t32, t33, .m (rfl : true = true), t35, t36, t37, .m (rfl : true = true), t39, t40] (by kernel_rfl)
end Go.Ev

/- Sorting: a merge, its course. -/
namespace Go.Ev
set_option linter.unusedVariables false
set_option linter.unusedSimpArgs false
open Go.Proofs
set_option maxRecDepth 100000
set_option linter.unusedVariables false
set_option maxHeartbeats 4000000
attribute [local simp] toNatS
abbrev symQ (l : List Span) (N a m b : Nat) (D D' : List Int) : Prop := Ev pr (.call 129 [.vec 0 N 1 0 N, i64 a, i64 m, i64 b, cloV l] [.vec true 1 (ints D)]) (.val (.tup []) [.vec true 1 (ints D')])
abbrev rotQ (l : List Span) (N a m b : Nat) (D D' : List Int) : Prop := Ev pr (.call 132 [.vec 0 N 1 0 N, i64 a, i64 m, i64 b, cloV l] [.vec true 1 (ints D)]) (.val (.tup []) [.vec true 1 (ints D')])
abbrev bs4Q (l : List Span) (N a m b mid n pp lo hi s : Nat) (D : List Int) : Prop :=
    Ev pr (.loop (lq pr 129 4) (at_ [(0, .vec 0 N 1 0 N), (1, i64 a), (2, i64 m), (3, i64 b), (4, cloV l), (18, i64 mid), (19, i64 n), (20, i64 lo), (21, i64 hi), (22, i64 pp)] [.vec true 1 (ints D)] 1))
      (.exit 8 (at_ [(0, .vec 0 N 1 0 N), (1, i64 a), (2, i64 m), (3, i64 b), (4, cloV l), (18, i64 mid), (19, i64 n), (20, i64 s)] [.vec true 1 (ints D)] 1))
theorem mC1_ev (l : List Span) (N a m b mid n pp lo hi s e : Nat) (hN : N ≤ 1000) (hbN : b ≤ N) (D D1 D2 D3 : List Int) (h1 : a + 1 < m) (h2 : m + 1 < b) (hm : mid = (a + b) / 2) (hn : n = mid + m) (hpp : n = pp + 1)
    (hg : m > mid) (hlo : n = lo + b) (hhi : hi = mid) (hs : a ≤ s ∧ s ≤ m ∧ s ≤ mid) (he : n = e + s) (heb : e ≤ b)
    (B : bs4Q l N a m b mid n pp lo hi s D) (r0 : s < m → s < mid → rotQ l N s m e D D1) (r0n : ¬ (s < m ∧ s < mid) → D = D1)
    (r1 : a < s → s < mid → symQ l N a s mid D1 D2) (r1n : ¬ (a < s ∧ s < mid) → D1 = D2) (r2 : s < m → e < b → symQ l N mid e b D2 D3) (r2n : ¬ (s < m ∧ e < b) → D2 = D3) : symQ l N a m b D D3 := by
  have c1 : ¬ ((m : Int) - a = 1) := by omega
  have c2 : ¬ ((b : Int) - m = 1) := by omega
  have hw := wdiv2 (i := a) (j := b) (by omega)
  rw [← hm] at hw
  have i1 : (n : Int) = mid + m := by omega
  have i2 : (pp : Int) = mid + m - 1 := by omega
  have i3 : (e : Int) = mid + m - s := by omega
  have i4 : (lo : Int) = mid + m - b := by omega
  unfold bs4Q at B
  unfold rotQ at r0
  unfold symQ at r1 r2 ⊢
  rw [i1, i2] at B
  rw [i3] at r0 r2
  rw [hhi, i4] at B
  by_cases q2 : s = m
  · exact absurd q2 (by omega)
  · by_cases q3 : s = mid
    · have x0 := r0n (by omega)
      have x1 := r1n (by omega)
      subst x0
      subst x1
      have y2 := r2 (by omega) (by omega)
      let t0 : Tp pr := .i (wrap_i64 (a := (↑m : Int) - (↑a : Int)) (by omega) (by omega))
      let t1 : Tp pr := .b (show (decide ((↑m : Int) - (↑a : Int) = (1 : Int))) = false by (simp; omega))
      let t2 : Tp pr := .i (wrap_i64 (a := (↑b : Int) - (↑m : Int)) (by omega) (by omega))
      let t3 : Tp pr := .b (show (decide ((↑b : Int) - (↑m : Int) = (1 : Int))) = false by (simp; omega))
      let t4 : Tp pr := .i (wrap_i64 (a := (↑a : Int) + (↑b : Int)) (by omega) (by omega))
      let t5 : Tp pr := .i (wrap_u64 (a := (↑a : Int) + (↑b : Int)) (by omega) (by omega))
      let t7 : Tp pr := .i (rfl : (((↑a : Int) + (↑b : Int)).fdiv (2 : Int)) = _)
      let t8 : Tp pr := .i (show (IntKind.i64.wrap (((↑a : Int) + (↑b : Int)).fdiv (2 : Int)) : Int) = ((↑mid : Int) : Int) from hw)
      let t9 : Tp pr := .i (wrap_i64 (a := (↑mid : Int) + (↑m : Int)) (by omega) (by omega))
      let t10 : Tp pr := .b (show (decide ((↑m : Int) > (↑mid : Int))) = true by (simp; omega))
      let t11 : Tp pr := .i (wrap_i64 (a := (↑mid : Int) + (↑m : Int) - (↑b : Int)) (by omega) (by omega))
      let t12 : Tp pr := .i (wrap_i64 (a := (↑mid : Int) + (↑m : Int) - (1 : Int)) (by omega) (by omega))
      let t14 : Tp pr := .i (wrap_i64 (a := (↑mid : Int) + (↑m : Int) - (↑s : Int)) (by omega) (by omega))
      let t15 : Tp pr := .b (show (decide ((↑s : Int) < (↑m : Int))) = true by (simp; omega))
      let t16 : Tp pr := .b (show (decide ((↑m : Int) < (↑mid : Int) + (↑m : Int) - (↑s : Int))) = false by (simp; omega))
      let t17 : Tp pr := .b (show (decide ((↑a : Int) < (↑s : Int))) = true by (simp; omega))
      let t18 : Tp pr := .b (show (decide ((↑s : Int) < (↑mid : Int))) = false by (simp; omega))
      let t19 : Tp pr := .b (show (decide ((↑mid : Int) < (↑mid : Int) + (↑m : Int) - (↑s : Int))) = true by (simp; omega))
      let t20 : Tp pr := .b (show (decide ((↑mid : Int) + (↑m : Int) - (↑s : Int) < (↑b : Int))) = true by (simp; omega))
      exact .tp [t0, t1, t2, t3, t4, t5, .m (rfl : true = true), t7, t8, t9, t10, t11, t12, .a (B), t14, t15, t16, t17, t18, t19, t20, .a (r2 (by omega) (by omega))] (by kernel_rfl)
    · have y0 := r0 (by omega) (by omega)
      by_cases q1 : s = a
      · have x1 := r1n (by omega)
        subst x1
        by_cases q4 : e = b
        · have x2 := r2n (by omega)
          subst x2
          let t0 : Tp pr := .i (wrap_i64 (a := (↑m : Int) - (↑a : Int)) (by omega) (by omega))
          let t1 : Tp pr := .b (show (decide ((↑m : Int) - (↑a : Int) = (1 : Int))) = false by (simp; omega))
          let t2 : Tp pr := .i (wrap_i64 (a := (↑b : Int) - (↑m : Int)) (by omega) (by omega))
          let t3 : Tp pr := .b (show (decide ((↑b : Int) - (↑m : Int) = (1 : Int))) = false by (simp; omega))
          let t4 : Tp pr := .i (wrap_i64 (a := (↑a : Int) + (↑b : Int)) (by omega) (by omega))
          let t5 : Tp pr := .i (wrap_u64 (a := (↑a : Int) + (↑b : Int)) (by omega) (by omega))
          let t7 : Tp pr := .i (rfl : (((↑a : Int) + (↑b : Int)).fdiv (2 : Int)) = _)
          let t8 : Tp pr := .i (show (IntKind.i64.wrap (((↑a : Int) + (↑b : Int)).fdiv (2 : Int)) : Int) = ((↑mid : Int) : Int) from hw)
          let t9 : Tp pr := .i (wrap_i64 (a := (↑mid : Int) + (↑m : Int)) (by omega) (by omega))
          let t10 : Tp pr := .b (show (decide ((↑m : Int) > (↑mid : Int))) = true by (simp; omega))
          let t11 : Tp pr := .i (wrap_i64 (a := (↑mid : Int) + (↑m : Int) - (↑b : Int)) (by omega) (by omega))
          let t12 : Tp pr := .i (wrap_i64 (a := (↑mid : Int) + (↑m : Int) - (1 : Int)) (by omega) (by omega))
          let t14 : Tp pr := .i (wrap_i64 (a := (↑mid : Int) + (↑m : Int) - (↑s : Int)) (by omega) (by omega))
          let t15 : Tp pr := .b (show (decide ((↑s : Int) < (↑m : Int))) = true by (simp; omega))
          let t16 : Tp pr := .b (show (decide ((↑m : Int) < (↑mid : Int) + (↑m : Int) - (↑s : Int))) = true by (simp; omega))
          let t18 : Tp pr := .b (show (decide ((↑a : Int) < (↑s : Int))) = false by (simp; omega))
          let t20 : Tp pr := .b (show (decide ((↑mid : Int) < (↑mid : Int) + (↑m : Int) - (↑s : Int))) = true by (simp; omega))
          let t21 : Tp pr := .b (show (decide ((↑mid : Int) + (↑m : Int) - (↑s : Int) < (↑b : Int))) = false by (simp; omega))
          exact .tp [t0, t1, t2, t3, t4, t5, .m (rfl : true = true), t7, t8, t9, t10, t11, t12, .a (B), t14, t15, t16, .a (r0 (by omega) (by omega)), t18, .b (rfl : false = false), t20, t21] (by kernel_rfl)
        · omega
      · have y1 := r1 (by omega) (by omega)
        by_cases q4 : e = b
        · have x2 := r2n (by omega)
          subst x2
          let t0 : Tp pr := .i (wrap_i64 (a := (↑m : Int) - (↑a : Int)) (by omega) (by omega))
          let t1 : Tp pr := .b (show (decide ((↑m : Int) - (↑a : Int) = (1 : Int))) = false by (simp; omega))
          let t2 : Tp pr := .i (wrap_i64 (a := (↑b : Int) - (↑m : Int)) (by omega) (by omega))
          let t3 : Tp pr := .b (show (decide ((↑b : Int) - (↑m : Int) = (1 : Int))) = false by (simp; omega))
          let t4 : Tp pr := .i (wrap_i64 (a := (↑a : Int) + (↑b : Int)) (by omega) (by omega))
          let t5 : Tp pr := .i (wrap_u64 (a := (↑a : Int) + (↑b : Int)) (by omega) (by omega))
          let t7 : Tp pr := .i (rfl : (((↑a : Int) + (↑b : Int)).fdiv (2 : Int)) = _)
          let t8 : Tp pr := .i (show (IntKind.i64.wrap (((↑a : Int) + (↑b : Int)).fdiv (2 : Int)) : Int) = ((↑mid : Int) : Int) from hw)
          let t9 : Tp pr := .i (wrap_i64 (a := (↑mid : Int) + (↑m : Int)) (by omega) (by omega))
          let t10 : Tp pr := .b (show (decide ((↑m : Int) > (↑mid : Int))) = true by (simp; omega))
          let t11 : Tp pr := .i (wrap_i64 (a := (↑mid : Int) + (↑m : Int) - (↑b : Int)) (by omega) (by omega))
          let t12 : Tp pr := .i (wrap_i64 (a := (↑mid : Int) + (↑m : Int) - (1 : Int)) (by omega) (by omega))
          let t14 : Tp pr := .i (wrap_i64 (a := (↑mid : Int) + (↑m : Int) - (↑s : Int)) (by omega) (by omega))
          let t15 : Tp pr := .b (show (decide ((↑s : Int) < (↑m : Int))) = true by (simp; omega))
          let t16 : Tp pr := .b (show (decide ((↑m : Int) < (↑mid : Int) + (↑m : Int) - (↑s : Int))) = true by (simp; omega))
          let t18 : Tp pr := .b (show (decide ((↑a : Int) < (↑s : Int))) = true by (simp; omega))
          let t19 : Tp pr := .b (show (decide ((↑s : Int) < (↑mid : Int))) = true by (simp; omega))
          let t21 : Tp pr := .b (show (decide ((↑mid : Int) < (↑mid : Int) + (↑m : Int) - (↑s : Int))) = true by (simp; omega))
          let t22 : Tp pr := .b (show (decide ((↑mid : Int) + (↑m : Int) - (↑s : Int) < (↑b : Int))) = false by (simp; omega))
          exact .tp [t0, t1, t2, t3, t4, t5, .m (rfl : true = true), t7, t8, t9, t10, t11, t12, .a (B), t14, t15, t16, .a (r0 (by omega) (by omega)), t18, t19, .a (r1 (by omega) (by omega)), t21, t22] (by kernel_rfl)
        · have y2 := r2 (by omega) (by omega)
          let t0 : Tp pr := .i (wrap_i64 (a := (↑m : Int) - (↑a : Int)) (by omega) (by omega))
          let t1 : Tp pr := .b (show (decide ((↑m : Int) - (↑a : Int) = (1 : Int))) = false by (simp; omega))
          let t2 : Tp pr := .i (wrap_i64 (a := (↑b : Int) - (↑m : Int)) (by omega) (by omega))
          let t3 : Tp pr := .b (show (decide ((↑b : Int) - (↑m : Int) = (1 : Int))) = false by (simp; omega))
          let t4 : Tp pr := .i (wrap_i64 (a := (↑a : Int) + (↑b : Int)) (by omega) (by omega))
          let t5 : Tp pr := .i (wrap_u64 (a := (↑a : Int) + (↑b : Int)) (by omega) (by omega))
          let t7 : Tp pr := .i (rfl : (((↑a : Int) + (↑b : Int)).fdiv (2 : Int)) = _)
          let t8 : Tp pr := .i (show (IntKind.i64.wrap (((↑a : Int) + (↑b : Int)).fdiv (2 : Int)) : Int) = ((↑mid : Int) : Int) from hw)
          let t9 : Tp pr := .i (wrap_i64 (a := (↑mid : Int) + (↑m : Int)) (by omega) (by omega))
          let t10 : Tp pr := .b (show (decide ((↑m : Int) > (↑mid : Int))) = true by (simp; omega))
          let t11 : Tp pr := .i (wrap_i64 (a := (↑mid : Int) + (↑m : Int) - (↑b : Int)) (by omega) (by omega))
          let t12 : Tp pr := .i (wrap_i64 (a := (↑mid : Int) + (↑m : Int) - (1 : Int)) (by omega) (by omega))
          let t14 : Tp pr := .i (wrap_i64 (a := (↑mid : Int) + (↑m : Int) - (↑s : Int)) (by omega) (by omega))
          let t15 : Tp pr := .b (show (decide ((↑s : Int) < (↑m : Int))) = true by (simp; omega))
          let t16 : Tp pr := .b (show (decide ((↑m : Int) < (↑mid : Int) + (↑m : Int) - (↑s : Int))) = true by (simp; omega))
          let t18 : Tp pr := .b (show (decide ((↑a : Int) < (↑s : Int))) = true by (simp; omega))
          let t19 : Tp pr := .b (show (decide ((↑s : Int) < (↑mid : Int))) = true by (simp; omega))
          let t21 : Tp pr := .b (show (decide ((↑mid : Int) < (↑mid : Int) + (↑m : Int) - (↑s : Int))) = true by (simp; omega))
          let t22 : Tp pr := .b (show (decide ((↑mid : Int) + (↑m : Int) - (↑s : Int) < (↑b : Int))) = true by (simp; omega))
          exact .tp [t0, t1, t2, t3, t4, t5, .m (rfl : true = true), t7, t8, t9, t10, t11, t12, .a (B), t14, t15, t16, .a (r0 (by omega) (by omega)), t18, t19, .a (r1 (by omega) (by omega)), t21, t22, .a (r2 (by omega) (by omega))] (by kernel_rfl)
end Go.Ev

/- Sorting: a merge, its course. -/
namespace Go.Ev
set_option linter.unusedVariables false
set_option linter.unusedSimpArgs false
open Go.Proofs
set_option maxRecDepth 100000
set_option linter.unusedVariables false
set_option maxHeartbeats 4000000
attribute [local simp] toNatS
theorem mC2_ev (l : List Span) (N a m b mid n pp lo hi s e : Nat) (hN : N ≤ 1000) (hbN : b ≤ N) (D D1 D2 D3 : List Int) (h1 : a + 1 < m) (h2 : m + 1 < b) (hm : mid = (a + b) / 2) (hn : n = mid + m) (hpp : n = pp + 1)
    (hg : ¬ m > mid) (hlo : lo = a) (hhi : hi = m) (hs : a ≤ s ∧ s ≤ m ∧ s ≤ mid) (he : n = e + s) (heb : e ≤ b)
    (B : bs4Q l N a m b mid n pp lo hi s D) (r0 : s < m → s < mid → rotQ l N s m e D D1) (r0n : ¬ (s < m ∧ s < mid) → D = D1)
    (r1 : a < s → s < mid → symQ l N a s mid D1 D2) (r1n : ¬ (a < s ∧ s < mid) → D1 = D2) (r2 : s < m → e < b → symQ l N mid e b D2 D3) (r2n : ¬ (s < m ∧ e < b) → D2 = D3) : symQ l N a m b D D3 := by
  have c1 : ¬ ((m : Int) - a = 1) := by omega
  have c2 : ¬ ((b : Int) - m = 1) := by omega
  have hw := wdiv2 (i := a) (j := b) (by omega)
  rw [← hm] at hw
  have i1 : (n : Int) = mid + m := by omega
  have i2 : (pp : Int) = mid + m - 1 := by omega
  have i3 : (e : Int) = mid + m - s := by omega
  unfold bs4Q at B
  unfold rotQ at r0
  unfold symQ at r1 r2 ⊢
  rw [i1, i2] at B
  rw [i3] at r0 r2
  rw [hhi, hlo] at B
  by_cases q2 : s = m
  · have x0 := r0n (by omega)
    have x2 := r2n (by omega)
    subst x0
    subst x2
    by_cases q3 : s = mid
    · have x1 := r1n (by omega)
      subst x1
      let t0 : Tp pr := .i (wrap_i64 (a := (↑m : Int) - (↑a : Int)) (by omega) (by omega))
      let t1 : Tp pr := .b (show (decide ((↑m : Int) - (↑a : Int) = (1 : Int))) = false by (simp; omega))
      let t2 : Tp pr := .i (wrap_i64 (a := (↑b : Int) - (↑m : Int)) (by omega) (by omega))
      let t3 : Tp pr := .b (show (decide ((↑b : Int) - (↑m : Int) = (1 : Int))) = false by (simp; omega))
      let t4 : Tp pr := .i (wrap_i64 (a := (↑a : Int) + (↑b : Int)) (by omega) (by omega))
      let t5 : Tp pr := .i (wrap_u64 (a := (↑a : Int) + (↑b : Int)) (by omega) (by omega))
      let t7 : Tp pr := .i (rfl : (((↑a : Int) + (↑b : Int)).fdiv (2 : Int)) = _)
      let t8 : Tp pr := .i (show (IntKind.i64.wrap (((↑a : Int) + (↑b : Int)).fdiv (2 : Int)) : Int) = ((↑mid : Int) : Int) from hw)
      let t9 : Tp pr := .i (wrap_i64 (a := (↑mid : Int) + (↑m : Int)) (by omega) (by omega))
      let t10 : Tp pr := .b (show (decide ((↑m : Int) > (↑mid : Int))) = false by (simp; omega))
      let t11 : Tp pr := .i (wrap_i64 (a := (↑mid : Int) + (↑m : Int) - (1 : Int)) (by omega) (by omega))
      let t13 : Tp pr := .i (wrap_i64 (a := (↑mid : Int) + (↑m : Int) - (↑s : Int)) (by omega) (by omega))
      let t14 : Tp pr := .b (show (decide ((↑s : Int) < (↑m : Int))) = false by (simp; omega))
      let t16 : Tp pr := .b (show (decide ((↑a : Int) < (↑s : Int))) = true by (simp; omega))
      let t17 : Tp pr := .b (show (decide ((↑s : Int) < (↑mid : Int))) = false by (simp; omega))
      let t18 : Tp pr := .b (show (decide ((↑mid : Int) < (↑mid : Int) + (↑m : Int) - (↑s : Int))) = false by (simp; omega))
      exact .tp [t0, t1, t2, t3, t4, t5, .m (rfl : true = true), t7, t8, t9, t10, t11, .a (B), t13, t14, .b (rfl : false = false), t16, t17, t18, .b (rfl : false = false)] (by kernel_rfl)
    · have y1 := r1 (by omega) (by omega)
      let t0 : Tp pr := .i (wrap_i64 (a := (↑m : Int) - (↑a : Int)) (by omega) (by omega))
      let t1 : Tp pr := .b (show (decide ((↑m : Int) - (↑a : Int) = (1 : Int))) = false by (simp; omega))
      let t2 : Tp pr := .i (wrap_i64 (a := (↑b : Int) - (↑m : Int)) (by omega) (by omega))
      let t3 : Tp pr := .b (show (decide ((↑b : Int) - (↑m : Int) = (1 : Int))) = false by (simp; omega))
      let t4 : Tp pr := .i (wrap_i64 (a := (↑a : Int) + (↑b : Int)) (by omega) (by omega))
      let t5 : Tp pr := .i (wrap_u64 (a := (↑a : Int) + (↑b : Int)) (by omega) (by omega))
      let t7 : Tp pr := .i (rfl : (((↑a : Int) + (↑b : Int)).fdiv (2 : Int)) = _)
      let t8 : Tp pr := .i (show (IntKind.i64.wrap (((↑a : Int) + (↑b : Int)).fdiv (2 : Int)) : Int) = ((↑mid : Int) : Int) from hw)
      let t9 : Tp pr := .i (wrap_i64 (a := (↑mid : Int) + (↑m : Int)) (by omega) (by omega))
      let t10 : Tp pr := .b (show (decide ((↑m : Int) > (↑mid : Int))) = false by (simp; omega))
      let t11 : Tp pr := .i (wrap_i64 (a := (↑mid : Int) + (↑m : Int) - (1 : Int)) (by omega) (by omega))
      let t13 : Tp pr := .i (wrap_i64 (a := (↑mid : Int) + (↑m : Int) - (↑s : Int)) (by omega) (by omega))
      let t14 : Tp pr := .b (show (decide ((↑s : Int) < (↑m : Int))) = false by (simp; omega))
      let t16 : Tp pr := .b (show (decide ((↑a : Int) < (↑s : Int))) = true by (simp; omega))
      let t17 : Tp pr := .b (show (decide ((↑s : Int) < (↑mid : Int))) = true by (simp; omega))
      let t19 : Tp pr := .b (show (decide ((↑mid : Int) < (↑mid : Int) + (↑m : Int) - (↑s : Int))) = false by (simp; omega))
      exact .tp [t0, t1, t2, t3, t4, t5, .m (rfl : true = true), t7, t8, t9, t10, t11, .a (B), t13, t14, .b (rfl : false = false), t16, t17, .a (r1 (by omega) (by omega)), t19, .b (rfl : false = false)] (by kernel_rfl)
  · by_cases q3 : s = mid
    · exact absurd q3 (by omega)
    · have y0 := r0 (by omega) (by omega)
      by_cases q1 : s = a
      · have x1 := r1n (by omega)
        subst x1
        by_cases q4 : e = b
        · have x2 := r2n (by omega)
          subst x2
          let t0 : Tp pr := .i (wrap_i64 (a := (↑m : Int) - (↑a : Int)) (by omega) (by omega))
          let t1 : Tp pr := .b (show (decide ((↑m : Int) - (↑a : Int) = (1 : Int))) = false by (simp; omega))
          let t2 : Tp pr := .i (wrap_i64 (a := (↑b : Int) - (↑m : Int)) (by omega) (by omega))
          let t3 : Tp pr := .b (show (decide ((↑b : Int) - (↑m : Int) = (1 : Int))) = false by (simp; omega))
          let t4 : Tp pr := .i (wrap_i64 (a := (↑a : Int) + (↑b : Int)) (by omega) (by omega))
          let t5 : Tp pr := .i (wrap_u64 (a := (↑a : Int) + (↑b : Int)) (by omega) (by omega))
          let t7 : Tp pr := .i (rfl : (((↑a : Int) + (↑b : Int)).fdiv (2 : Int)) = _)
          let t8 : Tp pr := .i (show (IntKind.i64.wrap (((↑a : Int) + (↑b : Int)).fdiv (2 : Int)) : Int) = ((↑mid : Int) : Int) from hw)
          let t9 : Tp pr := .i (wrap_i64 (a := (↑mid : Int) + (↑m : Int)) (by omega) (by omega))
          let t10 : Tp pr := .b (show (decide ((↑m : Int) > (↑mid : Int))) = false by (simp; omega))
          let t11 : Tp pr := .i (wrap_i64 (a := (↑mid : Int) + (↑m : Int) - (1 : Int)) (by omega) (by omega))
          let t13 : Tp pr := .i (wrap_i64 (a := (↑mid : Int) + (↑m : Int) - (↑s : Int)) (by omega) (by omega))
          let t14 : Tp pr := .b (show (decide ((↑s : Int) < (↑m : Int))) = true by (simp; omega))
          let t15 : Tp pr := .b (show (decide ((↑m : Int) < (↑mid : Int) + (↑m : Int) - (↑s : Int))) = true by (simp; omega))
          let t17 : Tp pr := .b (show (decide ((↑a : Int) < (↑s : Int))) = false by (simp; omega))
          let t19 : Tp pr := .b (show (decide ((↑mid : Int) < (↑mid : Int) + (↑m : Int) - (↑s : Int))) = true by (simp; omega))
          let t20 : Tp pr := .b (show (decide ((↑mid : Int) + (↑m : Int) - (↑s : Int) < (↑b : Int))) = false by (simp; omega))
          exact .tp [t0, t1, t2, t3, t4, t5, .m (rfl : true = true), t7, t8, t9, t10, t11, .a (B), t13, t14, t15, .a (r0 (by omega) (by omega)), t17, .b (rfl : false = false), t19, t20] (by kernel_rfl)
        · have y2 := r2 (by omega) (by omega)
          let t0 : Tp pr := .i (wrap_i64 (a := (↑m : Int) - (↑a : Int)) (by omega) (by omega))
          let t1 : Tp pr := .b (show (decide ((↑m : Int) - (↑a : Int) = (1 : Int))) = false by (simp; omega))
          let t2 : Tp pr := .i (wrap_i64 (a := (↑b : Int) - (↑m : Int)) (by omega) (by omega))
          let t3 : Tp pr := .b (show (decide ((↑b : Int) - (↑m : Int) = (1 : Int))) = false by (simp; omega))
          let t4 : Tp pr := .i (wrap_i64 (a := (↑a : Int) + (↑b : Int)) (by omega) (by omega))
          let t5 : Tp pr := .i (wrap_u64 (a := (↑a : Int) + (↑b : Int)) (by omega) (by omega))
          let t7 : Tp pr := .i (rfl : (((↑a : Int) + (↑b : Int)).fdiv (2 : Int)) = _)
          let t8 : Tp pr := .i (show (IntKind.i64.wrap (((↑a : Int) + (↑b : Int)).fdiv (2 : Int)) : Int) = ((↑mid : Int) : Int) from hw)
          let t9 : Tp pr := .i (wrap_i64 (a := (↑mid : Int) + (↑m : Int)) (by omega) (by omega))
          let t10 : Tp pr := .b (show (decide ((↑m : Int) > (↑mid : Int))) = false by (simp; omega))
          let t11 : Tp pr := .i (wrap_i64 (a := (↑mid : Int) + (↑m : Int) - (1 : Int)) (by omega) (by omega))
          let t13 : Tp pr := .i (wrap_i64 (a := (↑mid : Int) + (↑m : Int) - (↑s : Int)) (by omega) (by omega))
          let t14 : Tp pr := .b (show (decide ((↑s : Int) < (↑m : Int))) = true by (simp; omega))
          let t15 : Tp pr := .b (show (decide ((↑m : Int) < (↑mid : Int) + (↑m : Int) - (↑s : Int))) = true by (simp; omega))
          let t17 : Tp pr := .b (show (decide ((↑a : Int) < (↑s : Int))) = false by (simp; omega))
          let t19 : Tp pr := .b (show (decide ((↑mid : Int) < (↑mid : Int) + (↑m : Int) - (↑s : Int))) = true by (simp; omega))
          let t20 : Tp pr := .b (show (decide ((↑mid : Int) + (↑m : Int) - (↑s : Int) < (↑b : Int))) = true by (simp; omega))
          exact .tp [t0, t1, t2, t3, t4, t5, .m (rfl : true = true), t7, t8, t9, t10, t11, .a (B), t13, t14, t15, .a (r0 (by omega) (by omega)), t17, .b (rfl : false = false), t19, t20, .a (r2 (by omega) (by omega))] (by kernel_rfl)
      · have y1 := r1 (by omega) (by omega)
        by_cases q4 : e = b
        · omega
        · have y2 := r2 (by omega) (by omega)
          let t0 : Tp pr := .i (wrap_i64 (a := (↑m : Int) - (↑a : Int)) (by omega) (by omega))
          let t1 : Tp pr := .b (show (decide ((↑m : Int) - (↑a : Int) = (1 : Int))) = false by (simp; omega))
          let t2 : Tp pr := .i (wrap_i64 (a := (↑b : Int) - (↑m : Int)) (by omega) (by omega))
          let t3 : Tp pr := .b (show (decide ((↑b : Int) - (↑m : Int) = (1 : Int))) = false by (simp; omega))
          let t4 : Tp pr := .i (wrap_i64 (a := (↑a : Int) + (↑b : Int)) (by omega) (by omega))
          let t5 : Tp pr := .i (wrap_u64 (a := (↑a : Int) + (↑b : Int)) (by omega) (by omega))
          let t7 : Tp pr := .i (rfl : (((↑a : Int) + (↑b : Int)).fdiv (2 : Int)) = _)
          let t8 : Tp pr := .i (show (IntKind.i64.wrap (((↑a : Int) + (↑b : Int)).fdiv (2 : Int)) : Int) = ((↑mid : Int) : Int) from hw)
          let t9 : Tp pr := .i (wrap_i64 (a := (↑mid : Int) + (↑m : Int)) (by omega) (by omega))
          let t10 : Tp pr := .b (show (decide ((↑m : Int) > (↑mid : Int))) = false by (simp; omega))
          let t11 : Tp pr := .i (wrap_i64 (a := (↑mid : Int) + (↑m : Int) - (1 : Int)) (by omega) (by omega))
          let t13 : Tp pr := .i (wrap_i64 (a := (↑mid : Int) + (↑m : Int) - (↑s : Int)) (by omega) (by omega))
          let t14 : Tp pr := .b (show (decide ((↑s : Int) < (↑m : Int))) = true by (simp; omega))
          let t15 : Tp pr := .b (show (decide ((↑m : Int) < (↑mid : Int) + (↑m : Int) - (↑s : Int))) = true by (simp; omega))
          let t17 : Tp pr := .b (show (decide ((↑a : Int) < (↑s : Int))) = true by (simp; omega))
          let t18 : Tp pr := .b (show (decide ((↑s : Int) < (↑mid : Int))) = true by (simp; omega))
          let t20 : Tp pr := .b (show (decide ((↑mid : Int) < (↑mid : Int) + (↑m : Int) - (↑s : Int))) = true by (simp; omega))
          let t21 : Tp pr := .b (show (decide ((↑mid : Int) + (↑m : Int) - (↑s : Int) < (↑b : Int))) = true by (simp; omega))
          exact .tp [t0, t1, t2, t3, t4, t5, .m (rfl : true = true), t7, t8, t9, t10, t11, .a (B), t13, t14, t15, .a (r0 (by omega) (by omega)), t17, t18, .a (r1 (by omega) (by omega)), t20, t21, .a (r2 (by omega) (by omega))] (by kernel_rfl)
end Go.Ev

/- Sorting: a merge. -/
namespace Go.Ev
set_option linter.unusedVariables false
set_option linter.unusedSimpArgs false
open Go.Proofs
set_option maxRecDepth 100000
set_option linter.unusedVariables false
set_option maxHeartbeats 4000000
attribute [local simp] toNatS
theorem mA_ev (l : List Span) (N a m b p : Nat) (hN : N ≤ 1000) (hbN : b ≤ N) (D D2 : List Int) (h1 : m = a + 1) (h2 : m < b) (hp : m ≤ p ∧ p ≤ b)
    (B : Ev pr (.loop (lq pr 129 0) (at_ [(0, .vec 0 N 1 0 N), (1, i64 a), (4, cloV l), (10, i64 m), (11, i64 b)] [.vec true 1 (ints D)] 1))
      (.exit 0 (at_ [(0, .vec 0 N 1 0 N), (1, i64 a), (10, i64 p)] [.vec true 1 (ints D)] 1)))
    (s : Ev pr (.loop (lq pr 129 1) (at_ [(0, .vec 0 N 1 0 N), (10, i64 p), (13, i64 a)] [.vec true 1 (ints D)] 1)) (.exit 2 (at_ [] [.vec true 1 (ints D2)] 1))) : symQ l N a m b D D2 := by
  have c : (m : Int) - a = 1 := by omega
  unfold symQ
  let t0 : Tp pr := .i (wrap_i64 (a := (↑m : Int) - (↑a : Int)) (by omega) (by omega))
  let t1 : Tp pr := .b (show (decide ((↑m : Int) - (↑a : Int) = (1 : Int))) = true by (simp; omega))
  exact .tp [t0, t1, .a (B), .a (s)] (by kernel_rfl)
theorem mB_ev (l : List Span) (N a m b p : Nat) (hN : N ≤ 1000) (hbN : b ≤ N) (D D2 : List Int) (h1 : a + 1 < m) (h2 : b = m + 1) (hp : a ≤ p ∧ p ≤ m)
    (B : Ev pr (.loop (lq pr 129 2) (at_ [(0, .vec 0 N 1 0 N), (2, i64 m), (4, cloV l), (14, i64 a), (15, i64 m)] [.vec true 1 (ints D)] 1))
      (.exit 4 (at_ [(0, .vec 0 N 1 0 N), (2, i64 m), (14, i64 p)] [.vec true 1 (ints D)] 1)))
    (s : Ev pr (.loop (lq pr 129 3) (at_ [(0, .vec 0 N 1 0 N), (14, i64 p), (17, i64 m)] [.vec true 1 (ints D)] 1)) (.exit 6 (at_ [] [.vec true 1 (ints D2)] 1))) : symQ l N a m b D D2 := by
  have c : ¬ ((m : Int) - a = 1) := by omega
  have c2 : (b : Int) - m = 1 := by omega
  unfold symQ
  let t0 : Tp pr := .i (wrap_i64 (a := (↑m : Int) - (↑a : Int)) (by omega) (by omega))
  let t1 : Tp pr := .b (show (decide ((↑m : Int) - (↑a : Int) = (1 : Int))) = false by (simp; omega))
  let t2 : Tp pr := .i (wrap_i64 (a := (↑b : Int) - (↑m : Int)) (by omega) (by omega))
  let t3 : Tp pr := .b (show (decide ((↑b : Int) - (↑m : Int) = (1 : Int))) = true by (simp; omega))
  exact .tp [t0, t1, t2, t3, .a (B), .a (s)] (by kernel_rfl)
/-- Where an answer turns. -/
theorem thresh (q : Nat → Prop) [DecidablePred q] (lo : Nat) : ∀ n : Nat, (∀ h h', lo ≤ h' → h' ≤ h → h < lo + n → q h → q h') → ∃ p, lo ≤ p ∧ p ≤ lo + n ∧ ∀ h, lo ≤ h → h < lo + n → (q h ↔ h < p)
  | 0, _ => ⟨lo, Nat.le_refl _, Nat.le_refl _, fun h h1 h2 => by omega⟩
  | n + 1, mono => by
    obtain ⟨p, p1, p2, p3⟩ := thresh q lo n fun h h' a b c d => mono h h' a b (by omega) d
    by_cases hq : q (lo + n)
    · refine ⟨lo + (n + 1), by omega, Nat.le_refl _, fun h h1 h2 => ⟨fun _ => h2, fun _ => mono (lo + n) h h1 (by omega) (by omega) hq⟩⟩
    · by_cases hp : p = lo + n
      · subst hp
        refine ⟨lo + n, p1, by omega, fun h h1 h2 => ?_⟩
        by_cases e : h = lo + n
        · subst e
          exact ⟨fun h => absurd h hq, fun h => by omega⟩
        · exact p3 h h1 (by omega)
      · refine ⟨p, p1, by omega, fun h h1 h2 => ?_⟩
        by_cases e : h = lo + n
        · subst e
          refine ⟨fun h => absurd h hq, fun h => by omega⟩
        · exact p3 h h1 (by omega)
theorem srt_get {W : Int → Int} {L : List Int} (hs : Srt W L) {i j : Nat} (hij : i ≤ j) (hj : j < L.length) : W (L[i]'(by omega)) ≤ W L[j] := by
  by_cases e : i = j
  · subst e; exact Int.le_refl _
  · have := List.pairwise_iff_getElem.1 hs i j (by omega) hj (by omega)
    omega
theorem get_mid3 (A L B : List Int) (h : Nat) (h1 : A.length ≤ h) (h2 : h - A.length < L.length) : (ints (A ++ L ++ B))[h]? = some [C.t (.int .i64 L[h - A.length])] := by
  have e : (A ++ L ++ B)[h]? = some L[h - A.length] := by
    rw [List.append_assoc, List.getElem?_append_right h1, List.getElem?_append_left h2, List.getElem?_eq_getElem h2]
  unfold ints
  rw [List.getElem?_map, e]
  rfl
end Go.Ev

/- Sorting: what a merge comes to. -/
namespace Go.Ev
set_option linter.unusedVariables false
set_option linter.unusedSimpArgs false
open Go.Proofs
set_option maxRecDepth 100000
set_option linter.unusedVariables false
set_option maxHeartbeats 4000000
theorem mem_take_get {l : List Int} {n : Nat} {z : Int} (h : z ∈ l.take n) : ∃ (i : Nat) (hi : i < l.length), i < n ∧ l[i] = z := by
  obtain ⟨i, hi, e⟩ := List.mem_iff_getElem.1 h
  simp at hi
  exact ⟨i, by omega, by omega, by rw [← e, List.getElem_take]⟩
theorem mem_drop_get {l : List Int} {n : Nat} {z : Int} (h : z ∈ l.drop n) : ∃ (i : Nat) (hi : i < l.length), n ≤ i ∧ l[i] = z := by
  obtain ⟨i, hi, e⟩ := List.mem_iff_getElem.1 h
  simp at hi
  exact ⟨n + i, by omega, by omega, by rw [← e, List.getElem_drop]⟩
theorem srt_take {W : Int → Int} {L : List Int} (h : Srt W L) (n : Nat) : Srt W (L.take n) := h.sublist (List.take_sublist n L)
theorem srt_drop {W : Int → Int} {L : List Int} (h : Srt W L) (n : Nat) : Srt W (L.drop n) := h.sublist (List.drop_sublist n L)
theorem srt_ne {W : Int → Int} {L : List Int} (h : Srt W L) : L.Pairwise fun a b => W a ≠ W b := List.Pairwise.imp (fun h => by omega) h
theorem getD_get {l : List Int} {i : Nat} (h : i < l.length) : l.getD i 0 = l[i] := by rw [List.getD_eq_getElem?_getD, List.getElem?_eq_getElem h]; rfl
theorem merge1_ev (l : List Span) (hl : l.length ≤ 40) (N : Nat) (hN : N ≤ 1000) (A R B : List Int) (x : Int) (a m b : Nat) (hR : 0 < R.length) (hNe : N = (A ++ [x] ++ R ++ B).length) (ha : a = A.length) (hm : m = A.length + 1) (hb : b = A.length + 1 + R.length)
    (h1 : 0 ≤ x ∧ x < l.length) (h2 : ∀ y ∈ R, 0 ≤ y ∧ y < l.length) (h3 : ∀ y ∈ R, x < y) (hs : Srt (keyW l) R) : symQ l N a m b (A ++ [x] ++ R ++ B) (A ++ isort (keyW l) ([x] ++ R) ++ B) := by
  have hNl : A.length + 1 + R.length + B.length = N := by rw [hNe]; simp; omega
  have hne : ∀ y ∈ R, keyW l x ≠ keyW l y := fun y hy => keyW_ne h1.1 (h3 y hy) (by have := (h2 y hy).2; omega)
  obtain ⟨p, p1, p2, p3⟩ := thresh (fun h => keyW l (R.getD (h - m) 0) < keyW l x) m R.length (fun h h' c1 c2 c3 c4 => by
    rw [getD_get (by omega)] at c4 ⊢
    have := srt_get hs (i := h' - m) (j := h - m) (by omega) (by omega)
    omega)
  have eR : R = R.take (p - m) ++ R.drop (p - m) := (List.take_append_drop ..).symm
  have l1 : (R.take (p - m)).length = p - m := by simp; omega
  have mA : (A ++ [x]).length = m := by simp [hm]
  have B0 := bs0_ev l N a p m b hN (A ++ [x] ++ R ++ B) hNe.symm x (by
      have := get_at A (R ++ B) x
      rw [← ha] at this
      rw [show A ++ [x] ++ R ++ B = A ++ x :: (R ++ B) by simp]
      exact this) (by omega) (by omega) (fun h c1 c2 => by
      have hi : h - m < R.length := by omega
      have hy := List.getElem_mem hi
      obtain ⟨r, hr, q⟩ := ask_ev l hl h1.1 (h3 _ hy) (h2 _ hy).2
      refine ⟨R[h - m], r, ?_, ?_, q⟩
      · have := get_mid3 (A ++ [x]) R B h (by omega) (by rw [mA]; exact hi)
        simp only [mA] at this
        exact this
      · have := p3 h c1 (by omega)
        rw [getD_get hi] at this
        rw [hr, this]) b m b (by omega) (Nat.le_refl _) p1 (by omega) (Nat.le_refl _)
  have S := sh1_ev N p hN x (R.take (p - m)) A (R.drop (p - m) ++ B) a ha (by omega) (by
    rw [hNe]
    simp
    omega)
  have eI : isort (keyW l) ([x] ++ R) = R.take (p - m) ++ x :: R.drop (p - m) := by
    refine (srt_isort ?_ ?_).symm
    · refine List.pairwise_append.2 ⟨srt_take hs _, List.pairwise_cons.2 ⟨fun z hz => ?_, srt_drop hs _⟩, fun u hu v hv => ?_⟩
      · obtain ⟨i, hi, c, rfl⟩ := mem_drop_get hz
        have := p3 (m + i) (by omega) (by omega)
        rw [show m + i - m = i by omega, getD_get hi] at this
        have := hne _ (List.getElem_mem hi)
        omega
      · obtain ⟨i, hi, c, rfl⟩ := mem_take_get hu
        have := p3 (m + i) (by omega) (by omega)
        rw [show m + i - m = i by omega, getD_get hi] at this
        rcases List.mem_cons.1 hv with rfl | hv
        · omega
        · obtain ⟨j, hj, c2, rfl⟩ := mem_drop_get hv
          exact List.pairwise_iff_getElem.1 hs i j hi hj (by omega)
    · refine List.perm_middle.trans ?_
      rw [List.take_append_drop]
      exact .refl _
  have M := mA_ev l N a m b p hN (by omega) _ _ (by omega) (by omega) ⟨p1, by omega⟩ B0 (by
    have e1 : A ++ x :: R.take (p - m) ++ (R.drop (p - m) ++ B) = A ++ [x] ++ R ++ B := by
      simp only [List.append_assoc, List.cons_append, List.nil_append]
      rw [← List.append_assoc (R.take (p - m)), List.take_append_drop]
    rw [e1] at S
    exact S)
  rw [eI]
  have e2 : A ++ (R.take (p - m) ++ x :: R.drop (p - m)) ++ B = A ++ R.take (p - m) ++ x :: (R.drop (p - m) ++ B) := by simp
  rw [e2]
  exact M
theorem merge2_ev (l : List Span) (hl : l.length ≤ 40) (N : Nat) (hN : N ≤ 1000) (A L B : List Int) (y : Int) (a m b : Nat) (hL : 1 < L.length) (hNe : N = (A ++ L ++ [y] ++ B).length) (ha : a = A.length) (hm : m = A.length + L.length) (hb : b = A.length + L.length + 1)
    (h1 : ∀ x ∈ L, 0 ≤ x ∧ x < l.length) (h2 : 0 ≤ y ∧ y < l.length) (h3 : ∀ x ∈ L, x < y) (hs : Srt (keyW l) L) : symQ l N a m b (A ++ L ++ [y] ++ B) (A ++ isort (keyW l) (L ++ [y]) ++ B) := by
  have hNl : A.length + L.length + 1 + B.length = N := by rw [hNe]; simp; omega
  have hne : ∀ x ∈ L, keyW l x ≠ keyW l y := fun x hx => keyW_ne (h1 x hx).1 (h3 x hx) (by omega)
  obtain ⟨p, p1, p2, p3⟩ := thresh (fun h => keyW l (L.getD (h - a) 0) < keyW l y) a L.length (fun h h' c1 c2 c3 c4 => by
    rw [getD_get (by omega)] at c4 ⊢
    have := srt_get hs (i := h' - a) (j := h - a) (by omega) (by omega)
    omega)
  have eL : L = L.take (p - a) ++ L.drop (p - a) := (List.take_append_drop ..).symm
  have l1 : (L.take (p - a)).length = p - a := by simp; omega
  have mAL : (A ++ L).length = m := by simp [hm]
  have B0 := bs2_ev l N m p a m hN (A ++ L ++ [y] ++ B) hNe.symm y (by
      have := get_at (A ++ L) B y
      rw [mAL] at this
      rw [show A ++ L ++ [y] ++ B = A ++ L ++ y :: B by simp]
      exact this) (by omega) (by omega) (fun h c1 c2 => by
      have hi : h - a < L.length := by omega
      have hx := List.getElem_mem hi
      obtain ⟨r, hr, q⟩ := ask_ev l hl (h1 _ hx).1 (h3 _ hx) h2.2
      refine ⟨L[h - a], r, ?_, ?_, q⟩
      · have := get_mid3 A L ([y] ++ B) h (by omega) (by rw [← ha]; exact hi)
        simp only [← ha] at this
        rw [show A ++ L ++ [y] ++ B = A ++ L ++ ([y] ++ B) by simp]
        exact this
      · have := p3 h c1 (by omega)
        rw [getD_get hi] at this
        have := hne _ hx
        rw [hr]
        omega) m a m (by omega) (Nat.le_refl _) p1 (by omega) (Nat.le_refl _)
  have S := sh3_ev N p hN y (L.drop (p - a)).length (A ++ L.take (p - a)) (L.drop (p - a)) B m rfl (by simp; omega) (by simp; omega) (by
    rw [hNe]
    simp
    try omega)
  have eI : isort (keyW l) (L ++ [y]) = L.take (p - a) ++ y :: L.drop (p - a) := by
    refine (srt_isort ?_ ?_).symm
    · refine List.pairwise_append.2 ⟨srt_take hs _, List.pairwise_cons.2 ⟨fun z hz => ?_, srt_drop hs _⟩, fun u hu v hv => ?_⟩
      · obtain ⟨i, hi, c, rfl⟩ := mem_drop_get hz
        have := p3 (a + i) (by omega) (by omega)
        rw [show a + i - a = i by omega, getD_get hi] at this
        have := hne _ (List.getElem_mem hi)
        omega
      · obtain ⟨i, hi, c, rfl⟩ := mem_take_get hu
        have := p3 (a + i) (by omega) (by omega)
        rw [show a + i - a = i by omega, getD_get hi] at this
        rcases List.mem_cons.1 hv with rfl | hv
        · omega
        · obtain ⟨j, hj, c2, rfl⟩ := mem_drop_get hv
          exact List.pairwise_iff_getElem.1 hs i j hi hj (by omega)
    · refine List.perm_middle.trans ?_
      rw [List.take_append_drop]
      exact (List.perm_append_comm (l₁ := [y]) (l₂ := L))
  have M := mB_ev l N a m b p hN (by omega) _ _ (by omega) (by omega) ⟨p1, by omega⟩ B0 (by
    have e1 : A ++ L.take (p - a) ++ L.drop (p - a) ++ y :: B = A ++ L ++ [y] ++ B := by
      conv => rhs; rw [eL]
      simp
    rw [e1] at S
    exact S)
  rw [eI]
  have e2 : A ++ (L.take (p - a) ++ y :: L.drop (p - a)) ++ B = A ++ L.take (p - a) ++ y :: L.drop (p - a) ++ B := by simp
  rw [e2]
  exact M
end Go.Ev

/- Sorting: a merge, whole. -/
namespace Go.Ev
set_option linter.unusedVariables false
set_option linter.unusedSimpArgs false
open Go.Proofs
set_option maxRecDepth 100000
set_option linter.unusedVariables false
set_option maxHeartbeats 4000000
/-- What a split leaves on its two sides. -/
theorem split_cross {W : Int → Int} {L R : List Int} (hL : Srt W L) (hR : Srt W R) (hne : ∀ x ∈ L, ∀ y ∈ R, W x ≠ W y) (a m n pp lo hi s e : Nat) (hn : n = pp + 1) (he : n = e + s)
    (hm : m = a + L.length) (hlo : a ≤ lo) (hhi : hi ≤ m) (hs : lo ≤ s ∧ s ≤ hi) (hem : m ≤ e) (heb : e ≤ m + R.length) (c1 : lo = a ∨ n = lo + (m + R.length)) (c2 : hi = m ∨ m + hi = n)
    (H : ∀ h, lo ≤ h → h < hi → (W (L.getD (h - a) 0) < W (R.getD (pp - h - m) 0) ↔ h < s)) :
    ∀ x ∈ L.take (s - a) ++ R.take (e - m), ∀ y ∈ L.drop (s - a) ++ R.drop (e - m), W x < W y := by
  have hLe : a + L.length = m := hm.symm
  intro x hx y hy
  rcases List.mem_append.1 hx with hx | hx
  · obtain ⟨i, hi1, i2, rfl⟩ := mem_take_get hx
    rcases List.mem_append.1 hy with hy | hy
    · obtain ⟨j, hj, j2, rfl⟩ := mem_drop_get hy
      exact List.pairwise_iff_getElem.1 hL i j hi1 hj (by omega)
    · obtain ⟨j, hj, j2, rfl⟩ := mem_drop_get hy
      have hsl : lo < s := by omega
      have q := (H (s - 1) (by omega) (by omega)).2 (by omega)
      rw [getD_get (by omega), getD_get (by omega)] at q
      have u := srt_get hL (i := i) (j := s - 1 - a) (by omega) (by omega)
      have v := srt_get hR (i := pp - (s - 1) - m) (j := j) (by omega) (by omega)
      omega
  · obtain ⟨i, hi1, i2, rfl⟩ := mem_take_get hx
    rcases List.mem_append.1 hy with hy | hy
    · obtain ⟨j, hj, j2, rfl⟩ := mem_drop_get hy
      have hsl : s < hi := by omega
      have q := H s (by omega) (by omega)
      rw [getD_get (by omega), getD_get (by omega)] at q
      have u := srt_get hR (i := i) (j := pp - s - m) (by omega) (by omega)
      have v := srt_get hL (i := s - a) (j := j) (by omega) (by omega)
      have w := hne _ (List.getElem_mem (l := L) (n := s - a) (by omega)) _ (List.getElem_mem (l := R) (n := pp - s - m) (by omega))
      omega
    · obtain ⟨j, hj, j2, rfl⟩ := mem_drop_get hy
      exact List.pairwise_iff_getElem.1 hR i j hi1 hj (by omega)
theorem isort_id {W : Int → Int} {L : List Int} (h : Srt W L) : isort W L = L := (srt_isort h (.refl _)).symm
theorem sym_ev (l : List Span) (hl : l.length ≤ 40) (N : Nat) (hN : N ≤ 1000) : ∀ (k : Nat) (A L R B : List Int) (a m b : Nat), L.length + R.length ≤ k → 0 < L.length → 0 < R.length → N = (A ++ L ++ R ++ B).length → a = A.length → m = A.length + L.length → b = A.length + L.length + R.length →
    (∀ x ∈ L, 0 ≤ x ∧ x < l.length) → (∀ y ∈ R, 0 ≤ y ∧ y < l.length) → (∀ x ∈ L, ∀ y ∈ R, x < y) → Srt (keyW l) L → Srt (keyW l) R → symQ l N a m b (A ++ L ++ R ++ B) (A ++ isort (keyW l) (L ++ R) ++ B)
  | 0, A, L, R, B, a, m, b, hk, hL, hR, hNe, ha, hm, hb, h1, h2, h3, s1, s2 => by omega
  | k + 1, A, L, R, B, a, m, b, hk, hL, hR, hNe, ha, hm, hb, h1, h2, h3, s1, s2 => by
    by_cases cL : L.length = 1
    · obtain ⟨x, rfl⟩ := List.length_eq_one_iff.1 cL
      exact merge1_ev l hl N hN A R B x a m b hR hNe ha (by simpa using hm) (by simpa using hb) (h1 x (by simp)) h2 (h3 x (by simp)) s2
    by_cases cR : R.length = 1
    · obtain ⟨y, rfl⟩ := List.length_eq_one_iff.1 cR
      exact merge2_ev l hl N hN A L B y a m b (by omega) hNe ha hm (by simpa using hb) h1 (h2 y (by simp)) (fun x hx => h3 x hx y (by simp)) s1
    have hNl : A.length + L.length + R.length + B.length = N := by rw [hNe]; simp; omega
    have hne : ∀ x ∈ L, ∀ y ∈ R, keyW l x ≠ keyW l y := fun x hx y hy => keyW_ne (h1 x hx).1 (h3 x hx y hy) (by have := (h2 y hy).2; omega)
    obtain ⟨mid, hmid⟩ : ∃ mid, mid = (a + b) / 2 := ⟨_, rfl⟩
    obtain ⟨pp, hpp⟩ : ∃ pp, mid + m = pp + 1 := ⟨mid + m - 1, by omega⟩
    obtain ⟨lo, hi, hM, hlh⟩ : ∃ lo hi : Nat, ((m > mid ∧ mid + m = lo + b ∧ hi = mid) ∨ (¬ m > mid ∧ lo = a ∧ hi = m)) ∧ lo ≤ hi := by
      by_cases c : m > mid
      · exact ⟨mid + m - b, mid, .inl ⟨c, by omega, rfl⟩, by omega⟩
      · exact ⟨a, m, .inr ⟨c, rfl, rfl⟩, by omega⟩
    have g1 : a ≤ lo ∧ hi ≤ m ∧ hi ≤ mid ∧ mid + m ≤ lo + b := by omega
    obtain ⟨s, p1, p2, p3⟩ := thresh (fun h => keyW l (L.getD (h - a) 0) < keyW l (R.getD (pp - h - m) 0)) lo (hi - lo) (fun h h' c1 c2 c3 c4 => by
      rw [getD_get (by omega), getD_get (by omega)] at c4 ⊢
      have u := srt_get s1 (i := h' - a) (j := h - a) (by omega) (by omega)
      have v := srt_get s2 (i := pp - h - m) (j := pp - h' - m) (by omega) (by omega)
      omega)
    have hs : lo ≤ s ∧ s ≤ hi := by omega
    have B0 : bs4Q l N a m b mid (mid + m) pp lo hi s (A ++ L ++ R ++ B) := bs4_ev l N a m b mid (mid + m) pp s lo hi hN (A ++ L ++ R ++ B) hNe.symm (by omega) (fun h c1 c2 => by
      have hi1 : h - a < L.length := by omega
      have hi2 : pp - h - m < R.length := by omega
      have hx := List.getElem_mem hi1
      have hy := List.getElem_mem hi2
      obtain ⟨r, hr, q⟩ := ask_ev l hl (h1 _ hx).1 (h3 _ hx _ hy) (h2 _ hy).2
      refine ⟨R[pp - h - m], L[h - a], r, by omega, by omega, ?_, ?_, ?_, q⟩
      · have := get_mid3 (A ++ L) R B (pp - h) (by simp; omega) (by simp; omega)
        have e : (A ++ L).length = m := by simp; omega
        simp only [e] at this
        exact this
      · have := get_mid3 A L (R ++ B) h (by omega) (by omega)
        simp only [← ha] at this
        rw [show A ++ L ++ R ++ B = A ++ L ++ (R ++ B) by simp]
        exact this
      · have := p3 h c1 (by omega)
        rw [getD_get hi1, getD_get hi2] at this
        have := hne _ hx _ hy
        rw [hr]
        omega) hi lo hi (by omega) (Nat.le_refl _) hs.1 hs.2 (Nat.le_refl _)
    have g2 : (lo = a ∨ mid + m = lo + (m + R.length)) ∧ (hi = m ∨ m + hi = mid + m) := by omega
    have hM' : Nat → _ := fun _ => hM
    clear hM
    obtain ⟨e, he⟩ : ∃ e, mid + m = e + s := ⟨mid + m - s, by omega⟩
    have cr := split_cross s1 s2 hne a m (mid + m) pp lo hi s e hpp he (by omega) g1.1 g1.2.1 hs (by omega) (by omega) g2.1 g2.2 (fun h c1 c2 => p3 h c1 (by omega))
    clear g2
    have eL : L.take (s - a) ++ L.drop (s - a) = L := List.take_append_drop ..
    have eR : R.take (e - m) ++ R.drop (e - m) = R := List.take_append_drop ..
    have l1 : (L.take (s - a)).length = s - a := by simp; omega
    have l2 : (L.drop (s - a)).length = m - s := by simp; omega
    have l3 : (R.take (e - m)).length = e - m := by simp; omega
    have l4 : (R.drop (e - m)).length = b - e := by simp; omega
    have z1 := srt_take s1 (s - a)
    have z2 := srt_drop s1 (s - a)
    have z3 := srt_take s2 (e - m)
    have z4 := srt_drop s2 (e - m)
    have b1 : ∀ x ∈ L.take (s - a), x ∈ L := fun x h => List.mem_of_mem_take h
    have b2 : ∀ x ∈ L.drop (s - a), x ∈ L := fun x h => List.mem_of_mem_drop h
    have b3 : ∀ x ∈ R.take (e - m), x ∈ R := fun x h => List.mem_of_mem_take h
    have b4 : ∀ x ∈ R.drop (e - m), x ∈ R := fun x h => List.mem_of_mem_drop h
    have D0e : A ++ L ++ R ++ B = A ++ L.take (s - a) ++ L.drop (s - a) ++ R.take (e - m) ++ (R.drop (e - m) ++ B) := by
      conv => lhs; rw [← eL, ← eR]
      simp only [List.append_assoc]
    have N0 : N = (A ++ L.take (s - a) ++ L.drop (s - a) ++ R.take (e - m) ++ (R.drop (e - m) ++ B)).length := by rw [hNe, D0e]
    generalize L.take (s - a) = L1 at *
    generalize L.drop (s - a) = L2 at *
    generalize R.take (e - m) = R1 at *
    generalize R.drop (e - m) = R2 at *
    have cD : isort (keyW l) (L1 ++ R1) ++ isort (keyW l) (L2 ++ R2) = isort (keyW l) (L ++ R) := by
      refine isort_app ?_ ?_ ?_ cr
      · rw [← eL, ← eR]
        simp only [List.append_assoc]
        refine List.Perm.append_left _ ?_
        rw [← List.append_assoc, ← List.append_assoc]
        exact List.Perm.append_right _ List.perm_append_comm
      · exact List.pairwise_append.2 ⟨srt_ne z1, srt_ne z3, fun x hx y hy => hne x (b1 x hx) y (b3 y hy)⟩
      · exact List.pairwise_append.2 ⟨srt_ne z2, srt_ne z4, fun x hx y hy => hne x (b2 x hx) y (b4 y hy)⟩
    have li1 : (isort (keyW l) (L1 ++ R1)).length = mid - a := by rw [(isort_perm _).length_eq]; simp; omega
    have r0 : s < m → s < mid → rotQ l N s m e (A ++ L ++ R ++ B) (A ++ L1 ++ R1 ++ L2 ++ (R2 ++ B)) := fun _ _ => by
      rw [D0e]
      exact rot_ev (.clo 98 [turnT l]) (A ++ L1) L2 R1 (R2 ++ B) N s m e (by omega) (by omega) (by simp; omega) (by simp; omega) (by simp; omega) N0 hN
    have r0n : ¬ (s < m ∧ s < mid) → A ++ L ++ R ++ B = A ++ L1 ++ R1 ++ L2 ++ (R2 ++ B) := fun h => by
      rw [D0e]
      have : L2 = [] ∨ R1 = [] := by
        rcases (show L2.length = 0 ∨ R1.length = 0 by omega) with h | h
        · exact .inl (List.length_eq_zero_iff.1 h)
        · exact .inr (List.length_eq_zero_iff.1 h)
      rcases this with h | h <;> subst h <;> simp
    have r1 : a < s → s < mid → symQ l N a s mid (A ++ L1 ++ R1 ++ L2 ++ (R2 ++ B)) (A ++ isort (keyW l) (L1 ++ R1) ++ L2 ++ (R2 ++ B)) := fun _ _ => by
      have := sym_ev l hl N hN k A L1 R1 (L2 ++ (R2 ++ B)) a s mid (by omega) (by omega) (by omega) (by rw [N0]; simp; omega) ha (by omega) (by omega) (fun x hx => h1 x (b1 x hx)) (fun x hx => h2 x (b3 x hx)) (fun x hx y hy => h3 x (b1 x hx) y (b3 y hy)) z1 z3
      have x1 : A ++ L1 ++ R1 ++ (L2 ++ (R2 ++ B)) = A ++ L1 ++ R1 ++ L2 ++ (R2 ++ B) := by simp
      have x2 : A ++ isort (keyW l) (L1 ++ R1) ++ (L2 ++ (R2 ++ B)) = A ++ isort (keyW l) (L1 ++ R1) ++ L2 ++ (R2 ++ B) := by simp
      rw [x1, x2] at this
      exact this
    have r1n : ¬ (a < s ∧ s < mid) → A ++ L1 ++ R1 ++ L2 ++ (R2 ++ B) = A ++ isort (keyW l) (L1 ++ R1) ++ L2 ++ (R2 ++ B) := fun h => by
      have : L1 = [] ∨ R1 = [] := by
        rcases (show L1.length = 0 ∨ R1.length = 0 by omega) with h | h
        · exact .inl (List.length_eq_zero_iff.1 h)
        · exact .inr (List.length_eq_zero_iff.1 h)
      rcases this with h | h <;> subst h
      · rw [List.nil_append, isort_id z3]; simp
      · rw [List.append_nil, List.append_nil, isort_id z1]
    have r2 : s < m → e < b → symQ l N mid e b (A ++ isort (keyW l) (L1 ++ R1) ++ L2 ++ (R2 ++ B)) (A ++ isort (keyW l) (L ++ R) ++ B) := fun _ _ => by
      have := sym_ev l hl N hN k (A ++ isort (keyW l) (L1 ++ R1)) L2 R2 B mid e b (by omega) (by omega) (by omega) (by rw [N0]; simp [li1]; omega) (by simp [li1]; omega) (by simp [li1]; omega) (by simp [li1]; omega) (fun x hx => h1 x (b2 x hx)) (fun x hx => h2 x (b4 x hx)) (fun x hx y hy => h3 x (b2 x hx) y (b4 y hy)) z2 z4
      rw [← cD, ← List.append_assoc, ← List.append_assoc]
      exact this
    have r2n : ¬ (s < m ∧ e < b) → A ++ isort (keyW l) (L1 ++ R1) ++ L2 ++ (R2 ++ B) = A ++ isort (keyW l) (L ++ R) ++ B := fun h => by
      rw [← cD]
      have : L2 = [] ∨ R2 = [] := by
        rcases (show L2.length = 0 ∨ R2.length = 0 by omega) with h | h
        · exact .inl (List.length_eq_zero_iff.1 h)
        · exact .inr (List.length_eq_zero_iff.1 h)
      rcases this with h | h <;> subst h
      · rw [List.nil_append, isort_id z4]; simp
      · rw [List.append_nil L2, isort_id z2]; simp
    rcases hM' 0 with ⟨c1, c2, c3⟩ | ⟨c1, c2, c3⟩
    · exact mC1_ev l N a m b mid (mid + m) pp lo hi s e hN (by omega) _ _ _ _ (by omega) (by omega) hmid rfl hpp c1 c2 c3 (by omega) he (by omega) B0 r0 r0n r1 r1n r2 r2n
    · exact mC2_ev l N a m b mid (mid + m) pp lo hi s e hN (by omega) _ _ _ _ (by omega) (by omega) hmid rfl hpp c1 c2 c3 (by omega) he (by omega) B0 r0 r0n r1 r1n r2 r2n
end Go.Ev

/- Sorting: the whole of it. -/
namespace Go.Ev
set_option linter.unusedVariables false
set_option linter.unusedSimpArgs false
open Go.Proofs
set_option maxRecDepth 100000
set_option linter.unusedVariables false
set_option maxHeartbeats 4000000
attribute [local simp] toNatS
abbrev insQ (l : List Span) (N : Nat) (a b : Int) (D D' : List Int) : Prop := Ev pr (.call 128 [.vec 0 N 1 0 N, i64 a, i64 b, cloV l] [.vec true 1 (ints D)]) (.val (.tup []) [.vec true 1 (ints D')])
theorem blk_end (l : List Span) (N : Nat) (a c : Int) (h : (N : Int) < c) (D : List Int) : Ev pr (.loop (lq pr 117 0) (at_ [(0, .vec 0 N 1 0 N), (1, i64 N), (2, cloV l), (6, i64 20), (7, i64 a), (8, i64 c)] [.vec true 1 (ints D)] 1))
    (.exit 0 (at_ [(0, .vec 0 N 1 0 N), (1, i64 N), (2, cloV l), (6, i64 20), (7, i64 a)] [.vec true 1 (ints D)] 1)) := by
  let t0 : Tp pr := .b (show (decide (c ≤ (↑N : Int))) = false by (simp; omega))
  exact .tp [t0] (by kernel_rfl)
theorem blk_one (l : List Span) (N : Nat) (h : 20 ≤ N) (h2 : N < 40) (D D2 : List Int) (q : insQ l N 0 20 D D2) : Ev pr (.loop (lq pr 117 0) (at_ [(0, .vec 0 N 1 0 N), (1, i64 N), (2, cloV l), (6, i64 20), (7, i64 0), (8, i64 20)] [.vec true 1 (ints D)] 1))
    (.exit 0 (at_ [(0, .vec 0 N 1 0 N), (1, i64 N), (2, cloV l), (6, i64 20), (7, i64 20)] [.vec true 1 (ints D2)] 1)) := by
  have e := blk_end l N 20 40 (by omega) D2
  unfold insQ at q
  let t0 : Tp pr := .b (show (decide ((20 : Int) ≤ (↑N : Int))) = true by (simp; omega))
  let t2 : Tp pr := .i (rfl : ((40 : Int) : Int) = (40 : Int))
  exact .tp [t0, .a (q), t2, .a (e)] (by kernel_rfl)
theorem mrg_in (l : List Span) (N : Nat) (a c : Int) (h : (N : Int) < c) (D : List Int) : Ev pr (.loop (lq pr 117 2) (at_ [(0, .vec 0 N 1 0 N), (1, i64 N), (2, cloV l), (6, i64 20), (7, i64 a), (8, i64 c)] [.vec true 1 (ints D)] 1))
    (.exit 4 (at_ [(0, .vec 0 N 1 0 N), (1, i64 N), (2, cloV l), (6, i64 20), (7, i64 a)] [.vec true 1 (ints D)] 1)) := by
  let t0 : Tp pr := .b (show (decide (c ≤ (↑N : Int))) = false by (simp; omega))
  exact .tp [t0] (by kernel_rfl)
theorem mrg_end (l : List Span) (N : Nat) (c : Int) (h : ¬ c < (N : Int)) (D : List Int) : Ev pr (.loop (lq pr 117 1) (at_ [(0, .vec 0 N 1 0 N), (1, i64 N), (2, cloV l), (6, i64 c)] [.vec true 1 (ints D)] 1))
    (.exit 2 (at_ [] [.vec true 1 (ints D)] 1)) := by
  let t0 : Tp pr := .b (show (decide (c < (↑N : Int))) = false by (simp; omega))
  exact .tp [t0] (by kernel_rfl)
theorem mrg_one (l : List Span) (N : Nat) (h : 20 < N) (h2 : N < 40) (D D2 : List Int) (q : symQ l N 0 20 N D D2) : Ev pr (.loop (lq pr 117 1) (at_ [(0, .vec 0 N 1 0 N), (1, i64 N), (2, cloV l), (6, i64 20)] [.vec true 1 (ints D)] 1))
    (.exit 2 (at_ [] [.vec true 1 (ints D2)] 1)) := by
  have e := mrg_in l N 0 40 (by omega) D
  have e2 := mrg_end l N 40 (by omega) D2
  unfold symQ at q
  have c0 : ((0 : Nat) : Int) = 0 := rfl
  have c20 : ((20 : Nat) : Int) = 20 := rfl
  rw [c0, c20] at q
  let t0 : Tp pr := .b (show (decide ((20 : Int) < (↑N : Int))) = true by (simp; omega))
  let t1 : Tp pr := .i (rfl : ((40 : Int) : Int) = (40 : Int))
  let t3 : Tp pr := .i (rfl : ((20 : Int) : Int) = (20 : Int))
  let t4 : Tp pr := .b (show (decide ((20 : Int) < (↑N : Int))) = true by (simp; omega))
  let t6 : Tp pr := .i (rfl : ((40 : Int) : Int) = (40 : Int))
  exact .tp [t0, t1, .a (e), t3, t4, .a (q), t6, .a (e2)] (by kernel_rfl)
theorem stableS_ev (l : List Span) (N : Nat) (hN : N < 20) (D D2 : List Int) (q : insQ l N 0 N D D2) :
    Ev pr (.call 117 [.vec 0 N 1 0 N, i64 N, cloV l] [.vec true 1 (ints D)]) (.val (.tup []) [.vec true 1 (ints D2)]) := by
  have e := blk_end l N 0 20 (by omega) D
  have e2 := mrg_end l N 20 (by omega) D2
  unfold insQ at q
  exact .tp [.a (e), .a (q), .a (e2)] (by kernel_rfl)
theorem stableM_ev (l : List Span) (N : Nat) (hN : N = 20) (D D2 D3 : List Int) (q : insQ l N 0 20 D D2) (q2 : insQ l N 20 N D2 D3) :
    Ev pr (.call 117 [.vec 0 N 1 0 N, i64 N, cloV l] [.vec true 1 (ints D)]) (.val (.tup []) [.vec true 1 (ints D3)]) := by
  have e := blk_one l N (by omega) (by omega) D D2 q
  have e2 := mrg_end l N 20 (by omega) D3
  unfold insQ at q q2
  exact .tp [.a (e), .a (q2), .a (e2)] (by kernel_rfl)
theorem stableL_ev (l : List Span) (N : Nat) (hN : 20 < N) (hN2 : N < 40) (D D2 D3 D4 : List Int) (q : insQ l N 0 20 D D2) (q2 : insQ l N 20 N D2 D3) (q3 : symQ l N 0 20 N D3 D4) :
    Ev pr (.call 117 [.vec 0 N 1 0 N, i64 N, cloV l] [.vec true 1 (ints D)]) (.val (.tup []) [.vec true 1 (ints D4)]) := by
  have e := blk_one l N (by omega) (by omega) D D2 q
  have e2 := mrg_one l N hN hN2 D3 D4 q3
  unfold insQ at q q2
  exact .tp [.a (e), .a (q2), .a (e2)] (by kernel_rfl)
theorem stable_ev (l : List Span) (hl : l.length ≤ 30) (N : Nat) (hN : N ≤ 30) (D : List Int) (hD : D.length = N) (h0 : ∀ x ∈ D, 0 ≤ x ∧ x < l.length) (h1 : D.Pairwise (· < ·)) :
    Ev pr (.call 117 [.vec 0 N 1 0 N, i64 N, cloV l] [.vec true 1 (ints D)]) (.val (.tup []) [.vec true 1 (ints (isort (keyW l) D))]) := by
  by_cases c : N < 20
  · have q := ins_ev l (by omega) N 0 N (by omega) [] D [] rfl (by simp [hD]) (by simp [hD]) h0 h1
    simp only [List.nil_append, List.append_nil] at q
    exact stableS_ev l N c D _ q
  · have e : D.take 20 ++ D.drop 20 = D := List.take_append_drop ..
    have l1 : (D.take 20).length = 20 := by simp; omega
    have l2 : (D.drop 20).length = N - 20 := by simp; omega
    have b1 : ∀ x ∈ D.take 20, x ∈ D := fun x h => List.mem_of_mem_take h
    have b2 : ∀ x ∈ D.drop 20, x ∈ D := fun x h => List.mem_of_mem_drop h
    have z1 := h1.sublist (List.take_sublist 20 D)
    have z2 := h1.sublist (List.drop_sublist 20 D)
    have z3 : ∀ x ∈ D.take 20, ∀ y ∈ D.drop 20, x < y := by
      have h := h1
      rw [← e] at h
      exact (List.pairwise_append.1 h).2.2
    generalize D.take 20 = D1 at *
    generalize D.drop 20 = D2 at *
    subst e
    have nz : ∀ L : List Int, (∀ x ∈ L, 0 ≤ x ∧ x < l.length) → L.Pairwise (· < ·) → Srt (keyW l) (isort (keyW l) L) := fun L hb hp =>
      isort_srt (hp.imp_of_mem fun ha hb' h => keyW_ne (hb _ ha).1 h (by have := (hb _ hb').2; omega))
    have s1 := nz D1 (fun x hx => h0 x (b1 x hx)) z1
    have s2 := nz D2 (fun x hx => h0 x (b2 x hx)) z2
    have n1 : (isort (keyW l) D1).length = 20 := by rw [(isort_perm _).length_eq, l1]
    have n2 : (isort (keyW l) D2).length = N - 20 := by rw [(isort_perm _).length_eq, l2]
    have q := ins_ev l (by omega) N 0 20 (by omega) [] D1 D2 rfl (by simp [l1]) (by simp; omega) (fun x hx => h0 x (b1 x hx)) z1
    have q2 := ins_ev l (by omega) N 20 N (by omega) (isort (keyW l) D1) D2 [] n1.symm (by omega) (by simp; omega) (fun x hx => h0 x (b2 x hx)) z2
    simp only [List.nil_append, List.append_nil] at q q2
    have eS : isort (keyW l) (isort (keyW l) D1 ++ isort (keyW l) D2) = isort (keyW l) (D1 ++ D2) := by
      refine srt_unique (isort_srt ?_) (nz _ h0 h1) ?_
      · exact List.pairwise_append.2 ⟨srt_ne s1, srt_ne s2, fun x hx y hy => by
          have hx := (isort_perm _).mem_iff.1 hx
          have hy := (isort_perm _).mem_iff.1 hy
          exact keyW_ne (h0 x (b1 x hx)).1 (z3 x hx y hy) (by have := (h0 y (b2 y hy)).2; omega)⟩
      · exact (isort_perm _).trans (((isort_perm _).append (isort_perm _)).trans (isort_perm _).symm)
    by_cases c2 : N = 20
    · have : D2 = [] := List.length_eq_zero_iff.1 (by omega)
      subst this
      rw [show isort (keyW l) [] = [] from rfl] at q2
      simp only [List.append_nil] at q q2 ⊢
      exact stableM_ev l N c2 _ _ _ q q2
    · have q3 := sym_ev l (by omega) N (by omega) N [] (isort (keyW l) D1) (isort (keyW l) D2) [] 0 20 N (by omega) (by omega) (by omega) (by simp; omega) rfl (by simp [n1]) (by simp; omega)
        (fun x hx => h0 x (b1 x ((isort_perm _).mem_iff.1 hx))) (fun x hx => h0 x (b2 x ((isort_perm _).mem_iff.1 hx))) (fun x hx y hy => z3 x ((isort_perm _).mem_iff.1 hx) y ((isort_perm _).mem_iff.1 hy)) s1 s2
      simp only [List.nil_append, List.append_nil] at q3
      rw [eS] at q3
      exact stableL_ev l N (by omega) (by omega) _ _ _ _ q q2 q3
theorem sortF_ev (l : List Span) (hl : l.length ≤ 30) (N : Nat) (hN : N ≤ 30) (D : List Int) (hD : D.length = N) (h0 : ∀ x ∈ D, 0 ≤ x ∧ x < l.length) (h1 : D.Pairwise (· < ·)) :
    Ev pr (.call 97 [.vec 0 N 1 0 N, cloV l] [.vec true 1 (ints D)]) (.val (.tup []) [.vec true 1 (ints (isort (keyW l) D))]) := by
  have q := stable_ev l hl N hN D hD h0 h1
  exact .tp [.i (rfl : ((↑N : Int)) = _), .a (q)] (by kernel_rfl)
end Go.Ev

/- Copies of heaps: rows repeated. -/
namespace Go.Ev
set_option linter.unusedVariables false
set_option linter.unusedSimpArgs false
open Go.Proofs
set_option maxRecDepth 100000
set_option linter.unusedVariables false
set_option maxHeartbeats 4000000
theorem mul64_ev : ∀ (n : Nat), n ≤ 40 → Ev pr (.call 127 [.t (.int .u64 1), .t (.int .u64 n)] []) (.val (.tup [.t (.int .u64 0), .t (.int .u64 n)]) [])
  | 0, _ => by (
    let t0 : Tp pr := .i (rfl : ((1 : Int) : Int) = (1 : Int))
    let t2 : Tp pr := .i (rfl : ((0 : Int) : Int) = (0 : Int))
    let t3 : Tp pr := .i (rfl : ((0 : Int) : Int) = (0 : Int))
    let t5 : Tp pr := .i (rfl : ((0 : Int) : Int) = (0 : Int))
    let t6 : Tp pr := .i (rfl : ((0 : Int) : Int) = (0 : Int))
    let t7 : Tp pr := .i (rfl : ((0 : Int) : Int) = (0 : Int))
    let t9 : Tp pr := .i (rfl : ((0 : Int) : Int) = (0 : Int))
    let t10 : Tp pr := .i (rfl : ((0 : Int) : Int) = (0 : Int))
    let t11 : Tp pr := .i (rfl : ((0 : Int) : Int) = (0 : Int))
    let t13 : Tp pr := .i (rfl : ((0 : Int) : Int) = (0 : Int))
    let t14 : Tp pr := .i (rfl : ((0 : Int) : Int) = (0 : Int))
    let t15 : Tp pr := .i (rfl : ((0 : Int) : Int) = (0 : Int))
    let t16 : Tp pr := .i (rfl : ((0 : Int) : Int) = (0 : Int))
    let t17 : Tp pr := .i (rfl : ((0 : Int) : Int) = (0 : Int))
    let t19 : Tp pr := .i (rfl : ((0 : Int) : Int) = (0 : Int))
    let t20 : Tp pr := .i (rfl : ((0 : Int) : Int) = (0 : Int))
    let t21 : Tp pr := .i (rfl : ((0 : Int) : Int) = (0 : Int))
    exact .tp [t0, .m (rfl : true = true), t2, t3, .m (rfl : true = true), t5, t6, t7, .m (rfl : true = true), t9, t10, t11, .m (rfl : true = true), t13, t14, t15, t16, t17, .m (rfl : true = true), t19, t20, t21] (by kernel_rfl))
  | 1, _ => by (
    let t0 : Tp pr := .i (rfl : ((1 : Int) : Int) = (1 : Int))
    let t2 : Tp pr := .i (rfl : ((0 : Int) : Int) = (0 : Int))
    let t3 : Tp pr := .i (rfl : ((1 : Int) : Int) = (1 : Int))
    let t5 : Tp pr := .i (rfl : ((0 : Int) : Int) = (0 : Int))
    let t6 : Tp pr := .i (rfl : ((1 : Int) : Int) = (1 : Int))
    let t7 : Tp pr := .i (rfl : ((0 : Int) : Int) = (0 : Int))
    let t9 : Tp pr := .i (rfl : ((0 : Int) : Int) = (0 : Int))
    let t10 : Tp pr := .i (rfl : ((0 : Int) : Int) = (0 : Int))
    let t11 : Tp pr := .i (rfl : ((0 : Int) : Int) = (0 : Int))
    let t13 : Tp pr := .i (rfl : ((0 : Int) : Int) = (0 : Int))
    let t14 : Tp pr := .i (rfl : ((0 : Int) : Int) = (0 : Int))
    let t15 : Tp pr := .i (rfl : ((0 : Int) : Int) = (0 : Int))
    let t16 : Tp pr := .i (rfl : ((0 : Int) : Int) = (0 : Int))
    let t17 : Tp pr := .i (rfl : ((0 : Int) : Int) = (0 : Int))
    let t19 : Tp pr := .i (rfl : ((0 : Int) : Int) = (0 : Int))
    let t20 : Tp pr := .i (rfl : ((0 : Int) : Int) = (0 : Int))
    let t21 : Tp pr := .i (rfl : ((1 : Int) : Int) = (1 : Int))
    exact .tp [t0, .m (rfl : true = true), t2, t3, .m (rfl : true = true), t5, t6, t7, .m (rfl : true = true), t9, t10, t11, .m (rfl : true = true), t13, t14, t15, t16, t17, .m (rfl : true = true), t19, t20, t21] (by kernel_rfl))
  | 2, _ => by (
    let t0 : Tp pr := .i (rfl : ((1 : Int) : Int) = (1 : Int))
    let t2 : Tp pr := .i (rfl : ((0 : Int) : Int) = (0 : Int))
    let t3 : Tp pr := .i (rfl : ((2 : Int) : Int) = (2 : Int))
    let t5 : Tp pr := .i (rfl : ((0 : Int) : Int) = (0 : Int))
    let t6 : Tp pr := .i (rfl : ((2 : Int) : Int) = (2 : Int))
    let t7 : Tp pr := .i (rfl : ((0 : Int) : Int) = (0 : Int))
    let t9 : Tp pr := .i (rfl : ((0 : Int) : Int) = (0 : Int))
    let t10 : Tp pr := .i (rfl : ((0 : Int) : Int) = (0 : Int))
    let t11 : Tp pr := .i (rfl : ((0 : Int) : Int) = (0 : Int))
    let t13 : Tp pr := .i (rfl : ((0 : Int) : Int) = (0 : Int))
    let t14 : Tp pr := .i (rfl : ((0 : Int) : Int) = (0 : Int))
    let t15 : Tp pr := .i (rfl : ((0 : Int) : Int) = (0 : Int))
    let t16 : Tp pr := .i (rfl : ((0 : Int) : Int) = (0 : Int))
    let t17 : Tp pr := .i (rfl : ((0 : Int) : Int) = (0 : Int))
    let t19 : Tp pr := .i (rfl : ((0 : Int) : Int) = (0 : Int))
    let t20 : Tp pr := .i (rfl : ((0 : Int) : Int) = (0 : Int))
    let t21 : Tp pr := .i (rfl : ((2 : Int) : Int) = (2 : Int))
    exact .tp [t0, .m (rfl : true = true), t2, t3, .m (rfl : true = true), t5, t6, t7, .m (rfl : true = true), t9, t10, t11, .m (rfl : true = true), t13, t14, t15, t16, t17, .m (rfl : true = true), t19, t20, t21] (by kernel_rfl))
  | 3, _ => by (
    let t0 : Tp pr := .i (rfl : ((1 : Int) : Int) = (1 : Int))
    let t2 : Tp pr := .i (rfl : ((0 : Int) : Int) = (0 : Int))
    let t3 : Tp pr := .i (rfl : ((3 : Int) : Int) = (3 : Int))
    let t5 : Tp pr := .i (rfl : ((0 : Int) : Int) = (0 : Int))
    let t6 : Tp pr := .i (rfl : ((3 : Int) : Int) = (3 : Int))
    let t7 : Tp pr := .i (rfl : ((0 : Int) : Int) = (0 : Int))
    let t9 : Tp pr := .i (rfl : ((0 : Int) : Int) = (0 : Int))
    let t10 : Tp pr := .i (rfl : ((0 : Int) : Int) = (0 : Int))
    let t11 : Tp pr := .i (rfl : ((0 : Int) : Int) = (0 : Int))
    let t13 : Tp pr := .i (rfl : ((0 : Int) : Int) = (0 : Int))
    let t14 : Tp pr := .i (rfl : ((0 : Int) : Int) = (0 : Int))
    let t15 : Tp pr := .i (rfl : ((0 : Int) : Int) = (0 : Int))
    let t16 : Tp pr := .i (rfl : ((0 : Int) : Int) = (0 : Int))
    let t17 : Tp pr := .i (rfl : ((0 : Int) : Int) = (0 : Int))
    let t19 : Tp pr := .i (rfl : ((0 : Int) : Int) = (0 : Int))
    let t20 : Tp pr := .i (rfl : ((0 : Int) : Int) = (0 : Int))
    let t21 : Tp pr := .i (rfl : ((3 : Int) : Int) = (3 : Int))
    exact .tp [t0, .m (rfl : true = true), t2, t3, .m (rfl : true = true), t5, t6, t7, .m (rfl : true = true), t9, t10, t11, .m (rfl : true = true), t13, t14, t15, t16, t17, .m (rfl : true = true), t19, t20, t21] (by kernel_rfl))
  | 4, _ => by (
    let t0 : Tp pr := .i (rfl : ((1 : Int) : Int) = (1 : Int))
    let t2 : Tp pr := .i (rfl : ((0 : Int) : Int) = (0 : Int))
    let t3 : Tp pr := .i (rfl : ((4 : Int) : Int) = (4 : Int))
    let t5 : Tp pr := .i (rfl : ((0 : Int) : Int) = (0 : Int))
    let t6 : Tp pr := .i (rfl : ((4 : Int) : Int) = (4 : Int))
    let t7 : Tp pr := .i (rfl : ((0 : Int) : Int) = (0 : Int))
    let t9 : Tp pr := .i (rfl : ((0 : Int) : Int) = (0 : Int))
    let t10 : Tp pr := .i (rfl : ((0 : Int) : Int) = (0 : Int))
    let t11 : Tp pr := .i (rfl : ((0 : Int) : Int) = (0 : Int))
    let t13 : Tp pr := .i (rfl : ((0 : Int) : Int) = (0 : Int))
    let t14 : Tp pr := .i (rfl : ((0 : Int) : Int) = (0 : Int))
    let t15 : Tp pr := .i (rfl : ((0 : Int) : Int) = (0 : Int))
    let t16 : Tp pr := .i (rfl : ((0 : Int) : Int) = (0 : Int))
    let t17 : Tp pr := .i (rfl : ((0 : Int) : Int) = (0 : Int))
    let t19 : Tp pr := .i (rfl : ((0 : Int) : Int) = (0 : Int))
    let t20 : Tp pr := .i (rfl : ((0 : Int) : Int) = (0 : Int))
    let t21 : Tp pr := .i (rfl : ((4 : Int) : Int) = (4 : Int))
    exact .tp [t0, .m (rfl : true = true), t2, t3, .m (rfl : true = true), t5, t6, t7, .m (rfl : true = true), t9, t10, t11, .m (rfl : true = true), t13, t14, t15, t16, t17, .m (rfl : true = true), t19, t20, t21] (by kernel_rfl))
  | 5, _ => by (
    let t0 : Tp pr := .i (rfl : ((1 : Int) : Int) = (1 : Int))
    let t2 : Tp pr := .i (rfl : ((0 : Int) : Int) = (0 : Int))
    let t3 : Tp pr := .i (rfl : ((5 : Int) : Int) = (5 : Int))
    let t5 : Tp pr := .i (rfl : ((0 : Int) : Int) = (0 : Int))
    let t6 : Tp pr := .i (rfl : ((5 : Int) : Int) = (5 : Int))
    let t7 : Tp pr := .i (rfl : ((0 : Int) : Int) = (0 : Int))
    let t9 : Tp pr := .i (rfl : ((0 : Int) : Int) = (0 : Int))
    let t10 : Tp pr := .i (rfl : ((0 : Int) : Int) = (0 : Int))
    let t11 : Tp pr := .i (rfl : ((0 : Int) : Int) = (0 : Int))
    let t13 : Tp pr := .i (rfl : ((0 : Int) : Int) = (0 : Int))
    let t14 : Tp pr := .i (rfl : ((0 : Int) : Int) = (0 : Int))
    let t15 : Tp pr := .i (rfl : ((0 : Int) : Int) = (0 : Int))
    let t16 : Tp pr := .i (rfl : ((0 : Int) : Int) = (0 : Int))
    let t17 : Tp pr := .i (rfl : ((0 : Int) : Int) = (0 : Int))
    let t19 : Tp pr := .i (rfl : ((0 : Int) : Int) = (0 : Int))
    let t20 : Tp pr := .i (rfl : ((0 : Int) : Int) = (0 : Int))
    let t21 : Tp pr := .i (rfl : ((5 : Int) : Int) = (5 : Int))
    exact .tp [t0, .m (rfl : true = true), t2, t3, .m (rfl : true = true), t5, t6, t7, .m (rfl : true = true), t9, t10, t11, .m (rfl : true = true), t13, t14, t15, t16, t17, .m (rfl : true = true), t19, t20, t21] (by kernel_rfl))
  | 6, _ => by (
    let t0 : Tp pr := .i (rfl : ((1 : Int) : Int) = (1 : Int))
    let t2 : Tp pr := .i (rfl : ((0 : Int) : Int) = (0 : Int))
    let t3 : Tp pr := .i (rfl : ((6 : Int) : Int) = (6 : Int))
    let t5 : Tp pr := .i (rfl : ((0 : Int) : Int) = (0 : Int))
    let t6 : Tp pr := .i (rfl : ((6 : Int) : Int) = (6 : Int))
    let t7 : Tp pr := .i (rfl : ((0 : Int) : Int) = (0 : Int))
    let t9 : Tp pr := .i (rfl : ((0 : Int) : Int) = (0 : Int))
    let t10 : Tp pr := .i (rfl : ((0 : Int) : Int) = (0 : Int))
    let t11 : Tp pr := .i (rfl : ((0 : Int) : Int) = (0 : Int))
    let t13 : Tp pr := .i (rfl : ((0 : Int) : Int) = (0 : Int))
    let t14 : Tp pr := .i (rfl : ((0 : Int) : Int) = (0 : Int))
    let t15 : Tp pr := .i (rfl : ((0 : Int) : Int) = (0 : Int))
    let t16 : Tp pr := .i (rfl : ((0 : Int) : Int) = (0 : Int))
    let t17 : Tp pr := .i (rfl : ((0 : Int) : Int) = (0 : Int))
    let t19 : Tp pr := .i (rfl : ((0 : Int) : Int) = (0 : Int))
    let t20 : Tp pr := .i (rfl : ((0 : Int) : Int) = (0 : Int))
    let t21 : Tp pr := .i (rfl : ((6 : Int) : Int) = (6 : Int))
    exact .tp [t0, .m (rfl : true = true), t2, t3, .m (rfl : true = true), t5, t6, t7, .m (rfl : true = true), t9, t10, t11, .m (rfl : true = true), t13, t14, t15, t16, t17, .m (rfl : true = true), t19, t20, t21] (by kernel_rfl))
  | 7, _ => by (
    let t0 : Tp pr := .i (rfl : ((1 : Int) : Int) = (1 : Int))
    let t2 : Tp pr := .i (rfl : ((0 : Int) : Int) = (0 : Int))
    let t3 : Tp pr := .i (rfl : ((7 : Int) : Int) = (7 : Int))
    let t5 : Tp pr := .i (rfl : ((0 : Int) : Int) = (0 : Int))
    let t6 : Tp pr := .i (rfl : ((7 : Int) : Int) = (7 : Int))
    let t7 : Tp pr := .i (rfl : ((0 : Int) : Int) = (0 : Int))
    let t9 : Tp pr := .i (rfl : ((0 : Int) : Int) = (0 : Int))
    let t10 : Tp pr := .i (rfl : ((0 : Int) : Int) = (0 : Int))
    let t11 : Tp pr := .i (rfl : ((0 : Int) : Int) = (0 : Int))
    let t13 : Tp pr := .i (rfl : ((0 : Int) : Int) = (0 : Int))
    let t14 : Tp pr := .i (rfl : ((0 : Int) : Int) = (0 : Int))
    let t15 : Tp pr := .i (rfl : ((0 : Int) : Int) = (0 : Int))
    let t16 : Tp pr := .i (rfl : ((0 : Int) : Int) = (0 : Int))
    let t17 : Tp pr := .i (rfl : ((0 : Int) : Int) = (0 : Int))
    let t19 : Tp pr := .i (rfl : ((0 : Int) : Int) = (0 : Int))
    let t20 : Tp pr := .i (rfl : ((0 : Int) : Int) = (0 : Int))
    let t21 : Tp pr := .i (rfl : ((7 : Int) : Int) = (7 : Int))
    exact .tp [t0, .m (rfl : true = true), t2, t3, .m (rfl : true = true), t5, t6, t7, .m (rfl : true = true), t9, t10, t11, .m (rfl : true = true), t13, t14, t15, t16, t17, .m (rfl : true = true), t19, t20, t21] (by kernel_rfl))
  | 8, _ => by (
    let t0 : Tp pr := .i (rfl : ((1 : Int) : Int) = (1 : Int))
    let t2 : Tp pr := .i (rfl : ((0 : Int) : Int) = (0 : Int))
    let t3 : Tp pr := .i (rfl : ((8 : Int) : Int) = (8 : Int))
    let t5 : Tp pr := .i (rfl : ((0 : Int) : Int) = (0 : Int))
    let t6 : Tp pr := .i (rfl : ((8 : Int) : Int) = (8 : Int))
    let t7 : Tp pr := .i (rfl : ((0 : Int) : Int) = (0 : Int))
    let t9 : Tp pr := .i (rfl : ((0 : Int) : Int) = (0 : Int))
    let t10 : Tp pr := .i (rfl : ((0 : Int) : Int) = (0 : Int))
    let t11 : Tp pr := .i (rfl : ((0 : Int) : Int) = (0 : Int))
    let t13 : Tp pr := .i (rfl : ((0 : Int) : Int) = (0 : Int))
    let t14 : Tp pr := .i (rfl : ((0 : Int) : Int) = (0 : Int))
    let t15 : Tp pr := .i (rfl : ((0 : Int) : Int) = (0 : Int))
    let t16 : Tp pr := .i (rfl : ((0 : Int) : Int) = (0 : Int))
    let t17 : Tp pr := .i (rfl : ((0 : Int) : Int) = (0 : Int))
    let t19 : Tp pr := .i (rfl : ((0 : Int) : Int) = (0 : Int))
    let t20 : Tp pr := .i (rfl : ((0 : Int) : Int) = (0 : Int))
    let t21 : Tp pr := .i (rfl : ((8 : Int) : Int) = (8 : Int))
    exact .tp [t0, .m (rfl : true = true), t2, t3, .m (rfl : true = true), t5, t6, t7, .m (rfl : true = true), t9, t10, t11, .m (rfl : true = true), t13, t14, t15, t16, t17, .m (rfl : true = true), t19, t20, t21] (by kernel_rfl))
  | 9, _ => by (
    let t0 : Tp pr := .i (rfl : ((1 : Int) : Int) = (1 : Int))
    let t2 : Tp pr := .i (rfl : ((0 : Int) : Int) = (0 : Int))
    let t3 : Tp pr := .i (rfl : ((9 : Int) : Int) = (9 : Int))
    let t5 : Tp pr := .i (rfl : ((0 : Int) : Int) = (0 : Int))
    let t6 : Tp pr := .i (rfl : ((9 : Int) : Int) = (9 : Int))
    let t7 : Tp pr := .i (rfl : ((0 : Int) : Int) = (0 : Int))
    let t9 : Tp pr := .i (rfl : ((0 : Int) : Int) = (0 : Int))
    let t10 : Tp pr := .i (rfl : ((0 : Int) : Int) = (0 : Int))
    let t11 : Tp pr := .i (rfl : ((0 : Int) : Int) = (0 : Int))
    let t13 : Tp pr := .i (rfl : ((0 : Int) : Int) = (0 : Int))
    let t14 : Tp pr := .i (rfl : ((0 : Int) : Int) = (0 : Int))
    let t15 : Tp pr := .i (rfl : ((0 : Int) : Int) = (0 : Int))
    let t16 : Tp pr := .i (rfl : ((0 : Int) : Int) = (0 : Int))
    let t17 : Tp pr := .i (rfl : ((0 : Int) : Int) = (0 : Int))
    let t19 : Tp pr := .i (rfl : ((0 : Int) : Int) = (0 : Int))
    let t20 : Tp pr := .i (rfl : ((0 : Int) : Int) = (0 : Int))
    let t21 : Tp pr := .i (rfl : ((9 : Int) : Int) = (9 : Int))
    exact .tp [t0, .m (rfl : true = true), t2, t3, .m (rfl : true = true), t5, t6, t7, .m (rfl : true = true), t9, t10, t11, .m (rfl : true = true), t13, t14, t15, t16, t17, .m (rfl : true = true), t19, t20, t21] (by kernel_rfl))
  | 10, _ => by (
    let t0 : Tp pr := .i (rfl : ((1 : Int) : Int) = (1 : Int))
    let t2 : Tp pr := .i (rfl : ((0 : Int) : Int) = (0 : Int))
    let t3 : Tp pr := .i (rfl : ((10 : Int) : Int) = (10 : Int))
    let t5 : Tp pr := .i (rfl : ((0 : Int) : Int) = (0 : Int))
    let t6 : Tp pr := .i (rfl : ((10 : Int) : Int) = (10 : Int))
    let t7 : Tp pr := .i (rfl : ((0 : Int) : Int) = (0 : Int))
    let t9 : Tp pr := .i (rfl : ((0 : Int) : Int) = (0 : Int))
    let t10 : Tp pr := .i (rfl : ((0 : Int) : Int) = (0 : Int))
    let t11 : Tp pr := .i (rfl : ((0 : Int) : Int) = (0 : Int))
    let t13 : Tp pr := .i (rfl : ((0 : Int) : Int) = (0 : Int))
    let t14 : Tp pr := .i (rfl : ((0 : Int) : Int) = (0 : Int))
    let t15 : Tp pr := .i (rfl : ((0 : Int) : Int) = (0 : Int))
    let t16 : Tp pr := .i (rfl : ((0 : Int) : Int) = (0 : Int))
    let t17 : Tp pr := .i (rfl : ((0 : Int) : Int) = (0 : Int))
    let t19 : Tp pr := .i (rfl : ((0 : Int) : Int) = (0 : Int))
    let t20 : Tp pr := .i (rfl : ((0 : Int) : Int) = (0 : Int))
    let t21 : Tp pr := .i (rfl : ((10 : Int) : Int) = (10 : Int))
    exact .tp [t0, .m (rfl : true = true), t2, t3, .m (rfl : true = true), t5, t6, t7, .m (rfl : true = true), t9, t10, t11, .m (rfl : true = true), t13, t14, t15, t16, t17, .m (rfl : true = true), t19, t20, t21] (by kernel_rfl))
  | 11, _ => by (
    let t0 : Tp pr := .i (rfl : ((1 : Int) : Int) = (1 : Int))
    let t2 : Tp pr := .i (rfl : ((0 : Int) : Int) = (0 : Int))
    let t3 : Tp pr := .i (rfl : ((11 : Int) : Int) = (11 : Int))
    let t5 : Tp pr := .i (rfl : ((0 : Int) : Int) = (0 : Int))
    let t6 : Tp pr := .i (rfl : ((11 : Int) : Int) = (11 : Int))
    let t7 : Tp pr := .i (rfl : ((0 : Int) : Int) = (0 : Int))
    let t9 : Tp pr := .i (rfl : ((0 : Int) : Int) = (0 : Int))
    let t10 : Tp pr := .i (rfl : ((0 : Int) : Int) = (0 : Int))
    let t11 : Tp pr := .i (rfl : ((0 : Int) : Int) = (0 : Int))
    let t13 : Tp pr := .i (rfl : ((0 : Int) : Int) = (0 : Int))
    let t14 : Tp pr := .i (rfl : ((0 : Int) : Int) = (0 : Int))
    let t15 : Tp pr := .i (rfl : ((0 : Int) : Int) = (0 : Int))
    let t16 : Tp pr := .i (rfl : ((0 : Int) : Int) = (0 : Int))
    let t17 : Tp pr := .i (rfl : ((0 : Int) : Int) = (0 : Int))
    let t19 : Tp pr := .i (rfl : ((0 : Int) : Int) = (0 : Int))
    let t20 : Tp pr := .i (rfl : ((0 : Int) : Int) = (0 : Int))
    let t21 : Tp pr := .i (rfl : ((11 : Int) : Int) = (11 : Int))
    exact .tp [t0, .m (rfl : true = true), t2, t3, .m (rfl : true = true), t5, t6, t7, .m (rfl : true = true), t9, t10, t11, .m (rfl : true = true), t13, t14, t15, t16, t17, .m (rfl : true = true), t19, t20, t21] (by kernel_rfl))
  | 12, _ => by (
    let t0 : Tp pr := .i (rfl : ((1 : Int) : Int) = (1 : Int))
    let t2 : Tp pr := .i (rfl : ((0 : Int) : Int) = (0 : Int))
    let t3 : Tp pr := .i (rfl : ((12 : Int) : Int) = (12 : Int))
    let t5 : Tp pr := .i (rfl : ((0 : Int) : Int) = (0 : Int))
    let t6 : Tp pr := .i (rfl : ((12 : Int) : Int) = (12 : Int))
    let t7 : Tp pr := .i (rfl : ((0 : Int) : Int) = (0 : Int))
    let t9 : Tp pr := .i (rfl : ((0 : Int) : Int) = (0 : Int))
    let t10 : Tp pr := .i (rfl : ((0 : Int) : Int) = (0 : Int))
    let t11 : Tp pr := .i (rfl : ((0 : Int) : Int) = (0 : Int))
    let t13 : Tp pr := .i (rfl : ((0 : Int) : Int) = (0 : Int))
    let t14 : Tp pr := .i (rfl : ((0 : Int) : Int) = (0 : Int))
    let t15 : Tp pr := .i (rfl : ((0 : Int) : Int) = (0 : Int))
    let t16 : Tp pr := .i (rfl : ((0 : Int) : Int) = (0 : Int))
    let t17 : Tp pr := .i (rfl : ((0 : Int) : Int) = (0 : Int))
    let t19 : Tp pr := .i (rfl : ((0 : Int) : Int) = (0 : Int))
    let t20 : Tp pr := .i (rfl : ((0 : Int) : Int) = (0 : Int))
    let t21 : Tp pr := .i (rfl : ((12 : Int) : Int) = (12 : Int))
    exact .tp [t0, .m (rfl : true = true), t2, t3, .m (rfl : true = true), t5, t6, t7, .m (rfl : true = true), t9, t10, t11, .m (rfl : true = true), t13, t14, t15, t16, t17, .m (rfl : true = true), t19, t20, t21] (by kernel_rfl))
  | 13, _ => by (
    let t0 : Tp pr := .i (rfl : ((1 : Int) : Int) = (1 : Int))
    let t2 : Tp pr := .i (rfl : ((0 : Int) : Int) = (0 : Int))
    let t3 : Tp pr := .i (rfl : ((13 : Int) : Int) = (13 : Int))
    let t5 : Tp pr := .i (rfl : ((0 : Int) : Int) = (0 : Int))
    let t6 : Tp pr := .i (rfl : ((13 : Int) : Int) = (13 : Int))
    let t7 : Tp pr := .i (rfl : ((0 : Int) : Int) = (0 : Int))
    let t9 : Tp pr := .i (rfl : ((0 : Int) : Int) = (0 : Int))
    let t10 : Tp pr := .i (rfl : ((0 : Int) : Int) = (0 : Int))
    let t11 : Tp pr := .i (rfl : ((0 : Int) : Int) = (0 : Int))
    let t13 : Tp pr := .i (rfl : ((0 : Int) : Int) = (0 : Int))
    let t14 : Tp pr := .i (rfl : ((0 : Int) : Int) = (0 : Int))
    let t15 : Tp pr := .i (rfl : ((0 : Int) : Int) = (0 : Int))
    let t16 : Tp pr := .i (rfl : ((0 : Int) : Int) = (0 : Int))
    let t17 : Tp pr := .i (rfl : ((0 : Int) : Int) = (0 : Int))
    let t19 : Tp pr := .i (rfl : ((0 : Int) : Int) = (0 : Int))
    let t20 : Tp pr := .i (rfl : ((0 : Int) : Int) = (0 : Int))
    let t21 : Tp pr := .i (rfl : ((13 : Int) : Int) = (13 : Int))
    exact .tp [t0, .m (rfl : true = true), t2, t3, .m (rfl : true = true), t5, t6, t7, .m (rfl : true = true), t9, t10, t11, .m (rfl : true = true), t13, t14, t15, t16, t17, .m (rfl : true = true), t19, t20, t21] (by kernel_rfl))
  | 14, _ => by (
    let t0 : Tp pr := .i (rfl : ((1 : Int) : Int) = (1 : Int))
    let t2 : Tp pr := .i (rfl : ((0 : Int) : Int) = (0 : Int))
    let t3 : Tp pr := .i (rfl : ((14 : Int) : Int) = (14 : Int))
    let t5 : Tp pr := .i (rfl : ((0 : Int) : Int) = (0 : Int))
    let t6 : Tp pr := .i (rfl : ((14 : Int) : Int) = (14 : Int))
    let t7 : Tp pr := .i (rfl : ((0 : Int) : Int) = (0 : Int))
    let t9 : Tp pr := .i (rfl : ((0 : Int) : Int) = (0 : Int))
    let t10 : Tp pr := .i (rfl : ((0 : Int) : Int) = (0 : Int))
    let t11 : Tp pr := .i (rfl : ((0 : Int) : Int) = (0 : Int))
    let t13 : Tp pr := .i (rfl : ((0 : Int) : Int) = (0 : Int))
    let t14 : Tp pr := .i (rfl : ((0 : Int) : Int) = (0 : Int))
    let t15 : Tp pr := .i (rfl : ((0 : Int) : Int) = (0 : Int))
    let t16 : Tp pr := .i (rfl : ((0 : Int) : Int) = (0 : Int))
    let t17 : Tp pr := .i (rfl : ((0 : Int) : Int) = (0 : Int))
    let t19 : Tp pr := .i (rfl : ((0 : Int) : Int) = (0 : Int))
    let t20 : Tp pr := .i (rfl : ((0 : Int) : Int) = (0 : Int))
    let t21 : Tp pr := .i (rfl : ((14 : Int) : Int) = (14 : Int))
    exact .tp [t0, .m (rfl : true = true), t2, t3, .m (rfl : true = true), t5, t6, t7, .m (rfl : true = true), t9, t10, t11, .m (rfl : true = true), t13, t14, t15, t16, t17, .m (rfl : true = true), t19, t20, t21] (by kernel_rfl))
  | 15, _ => by (
    let t0 : Tp pr := .i (rfl : ((1 : Int) : Int) = (1 : Int))
    let t2 : Tp pr := .i (rfl : ((0 : Int) : Int) = (0 : Int))
    let t3 : Tp pr := .i (rfl : ((15 : Int) : Int) = (15 : Int))
    let t5 : Tp pr := .i (rfl : ((0 : Int) : Int) = (0 : Int))
    let t6 : Tp pr := .i (rfl : ((15 : Int) : Int) = (15 : Int))
    let t7 : Tp pr := .i (rfl : ((0 : Int) : Int) = (0 : Int))
    let t9 : Tp pr := .i (rfl : ((0 : Int) : Int) = (0 : Int))
    let t10 : Tp pr := .i (rfl : ((0 : Int) : Int) = (0 : Int))
    let t11 : Tp pr := .i (rfl : ((0 : Int) : Int) = (0 : Int))
    let t13 : Tp pr := .i (rfl : ((0 : Int) : Int) = (0 : Int))
    let t14 : Tp pr := .i (rfl : ((0 : Int) : Int) = (0 : Int))
    let t15 : Tp pr := .i (rfl : ((0 : Int) : Int) = (0 : Int))
    let t16 : Tp pr := .i (rfl : ((0 : Int) : Int) = (0 : Int))
    let t17 : Tp pr := .i (rfl : ((0 : Int) : Int) = (0 : Int))
    let t19 : Tp pr := .i (rfl : ((0 : Int) : Int) = (0 : Int))
    let t20 : Tp pr := .i (rfl : ((0 : Int) : Int) = (0 : Int))
    let t21 : Tp pr := .i (rfl : ((15 : Int) : Int) = (15 : Int))
    exact .tp [t0, .m (rfl : true = true), t2, t3, .m (rfl : true = true), t5, t6, t7, .m (rfl : true = true), t9, t10, t11, .m (rfl : true = true), t13, t14, t15, t16, t17, .m (rfl : true = true), t19, t20, t21] (by kernel_rfl))
  | 16, _ => by (
    let t0 : Tp pr := .i (rfl : ((1 : Int) : Int) = (1 : Int))
    let t2 : Tp pr := .i (rfl : ((0 : Int) : Int) = (0 : Int))
    let t3 : Tp pr := .i (rfl : ((16 : Int) : Int) = (16 : Int))
    let t5 : Tp pr := .i (rfl : ((0 : Int) : Int) = (0 : Int))
    let t6 : Tp pr := .i (rfl : ((16 : Int) : Int) = (16 : Int))
    let t7 : Tp pr := .i (rfl : ((0 : Int) : Int) = (0 : Int))
    let t9 : Tp pr := .i (rfl : ((0 : Int) : Int) = (0 : Int))
    let t10 : Tp pr := .i (rfl : ((0 : Int) : Int) = (0 : Int))
    let t11 : Tp pr := .i (rfl : ((0 : Int) : Int) = (0 : Int))
    let t13 : Tp pr := .i (rfl : ((0 : Int) : Int) = (0 : Int))
    let t14 : Tp pr := .i (rfl : ((0 : Int) : Int) = (0 : Int))
    let t15 : Tp pr := .i (rfl : ((0 : Int) : Int) = (0 : Int))
    let t16 : Tp pr := .i (rfl : ((0 : Int) : Int) = (0 : Int))
    let t17 : Tp pr := .i (rfl : ((0 : Int) : Int) = (0 : Int))
    let t19 : Tp pr := .i (rfl : ((0 : Int) : Int) = (0 : Int))
    let t20 : Tp pr := .i (rfl : ((0 : Int) : Int) = (0 : Int))
    let t21 : Tp pr := .i (rfl : ((16 : Int) : Int) = (16 : Int))
    exact .tp [t0, .m (rfl : true = true), t2, t3, .m (rfl : true = true), t5, t6, t7, .m (rfl : true = true), t9, t10, t11, .m (rfl : true = true), t13, t14, t15, t16, t17, .m (rfl : true = true), t19, t20, t21] (by kernel_rfl))
  | 17, _ => by (
    let t0 : Tp pr := .i (rfl : ((1 : Int) : Int) = (1 : Int))
    let t2 : Tp pr := .i (rfl : ((0 : Int) : Int) = (0 : Int))
    let t3 : Tp pr := .i (rfl : ((17 : Int) : Int) = (17 : Int))
    let t5 : Tp pr := .i (rfl : ((0 : Int) : Int) = (0 : Int))
    let t6 : Tp pr := .i (rfl : ((17 : Int) : Int) = (17 : Int))
    let t7 : Tp pr := .i (rfl : ((0 : Int) : Int) = (0 : Int))
    let t9 : Tp pr := .i (rfl : ((0 : Int) : Int) = (0 : Int))
    let t10 : Tp pr := .i (rfl : ((0 : Int) : Int) = (0 : Int))
    let t11 : Tp pr := .i (rfl : ((0 : Int) : Int) = (0 : Int))
    let t13 : Tp pr := .i (rfl : ((0 : Int) : Int) = (0 : Int))
    let t14 : Tp pr := .i (rfl : ((0 : Int) : Int) = (0 : Int))
    let t15 : Tp pr := .i (rfl : ((0 : Int) : Int) = (0 : Int))
    let t16 : Tp pr := .i (rfl : ((0 : Int) : Int) = (0 : Int))
    let t17 : Tp pr := .i (rfl : ((0 : Int) : Int) = (0 : Int))
    let t19 : Tp pr := .i (rfl : ((0 : Int) : Int) = (0 : Int))
    let t20 : Tp pr := .i (rfl : ((0 : Int) : Int) = (0 : Int))
    let t21 : Tp pr := .i (rfl : ((17 : Int) : Int) = (17 : Int))
    exact .tp [t0, .m (rfl : true = true), t2, t3, .m (rfl : true = true), t5, t6, t7, .m (rfl : true = true), t9, t10, t11, .m (rfl : true = true), t13, t14, t15, t16, t17, .m (rfl : true = true), t19, t20, t21] (by kernel_rfl))
  | 18, _ => by (
    let t0 : Tp pr := .i (rfl : ((1 : Int) : Int) = (1 : Int))
    let t2 : Tp pr := .i (rfl : ((0 : Int) : Int) = (0 : Int))
    let t3 : Tp pr := .i (rfl : ((18 : Int) : Int) = (18 : Int))
    let t5 : Tp pr := .i (rfl : ((0 : Int) : Int) = (0 : Int))
    let t6 : Tp pr := .i (rfl : ((18 : Int) : Int) = (18 : Int))
    let t7 : Tp pr := .i (rfl : ((0 : Int) : Int) = (0 : Int))
    let t9 : Tp pr := .i (rfl : ((0 : Int) : Int) = (0 : Int))
    let t10 : Tp pr := .i (rfl : ((0 : Int) : Int) = (0 : Int))
    let t11 : Tp pr := .i (rfl : ((0 : Int) : Int) = (0 : Int))
    let t13 : Tp pr := .i (rfl : ((0 : Int) : Int) = (0 : Int))
    let t14 : Tp pr := .i (rfl : ((0 : Int) : Int) = (0 : Int))
    let t15 : Tp pr := .i (rfl : ((0 : Int) : Int) = (0 : Int))
    let t16 : Tp pr := .i (rfl : ((0 : Int) : Int) = (0 : Int))
    let t17 : Tp pr := .i (rfl : ((0 : Int) : Int) = (0 : Int))
    let t19 : Tp pr := .i (rfl : ((0 : Int) : Int) = (0 : Int))
    let t20 : Tp pr := .i (rfl : ((0 : Int) : Int) = (0 : Int))
    let t21 : Tp pr := .i (rfl : ((18 : Int) : Int) = (18 : Int))
    exact .tp [t0, .m (rfl : true = true), t2, t3, .m (rfl : true = true), t5, t6, t7, .m (rfl : true = true), t9, t10, t11, .m (rfl : true = true), t13, t14, t15, t16, t17, .m (rfl : true = true), t19, t20, t21] (by kernel_rfl))
  | 19, _ => by (
    let t0 : Tp pr := .i (rfl : ((1 : Int) : Int) = (1 : Int))
    let t2 : Tp pr := .i (rfl : ((0 : Int) : Int) = (0 : Int))
    let t3 : Tp pr := .i (rfl : ((19 : Int) : Int) = (19 : Int))
    let t5 : Tp pr := .i (rfl : ((0 : Int) : Int) = (0 : Int))
    let t6 : Tp pr := .i (rfl : ((19 : Int) : Int) = (19 : Int))
    let t7 : Tp pr := .i (rfl : ((0 : Int) : Int) = (0 : Int))
    let t9 : Tp pr := .i (rfl : ((0 : Int) : Int) = (0 : Int))
    let t10 : Tp pr := .i (rfl : ((0 : Int) : Int) = (0 : Int))
    let t11 : Tp pr := .i (rfl : ((0 : Int) : Int) = (0 : Int))
    let t13 : Tp pr := .i (rfl : ((0 : Int) : Int) = (0 : Int))
    let t14 : Tp pr := .i (rfl : ((0 : Int) : Int) = (0 : Int))
    let t15 : Tp pr := .i (rfl : ((0 : Int) : Int) = (0 : Int))
    let t16 : Tp pr := .i (rfl : ((0 : Int) : Int) = (0 : Int))
    let t17 : Tp pr := .i (rfl : ((0 : Int) : Int) = (0 : Int))
    let t19 : Tp pr := .i (rfl : ((0 : Int) : Int) = (0 : Int))
    let t20 : Tp pr := .i (rfl : ((0 : Int) : Int) = (0 : Int))
    let t21 : Tp pr := .i (rfl : ((19 : Int) : Int) = (19 : Int))
    exact .tp [t0, .m (rfl : true = true), t2, t3, .m (rfl : true = true), t5, t6, t7, .m (rfl : true = true), t9, t10, t11, .m (rfl : true = true), t13, t14, t15, t16, t17, .m (rfl : true = true), t19, t20, t21] (by kernel_rfl))
  | 20, _ => by (
    let t0 : Tp pr := .i (rfl : ((1 : Int) : Int) = (1 : Int))
    let t2 : Tp pr := .i (rfl : ((0 : Int) : Int) = (0 : Int))
    let t3 : Tp pr := .i (rfl : ((20 : Int) : Int) = (20 : Int))
    let t5 : Tp pr := .i (rfl : ((0 : Int) : Int) = (0 : Int))
    let t6 : Tp pr := .i (rfl : ((20 : Int) : Int) = (20 : Int))
    let t7 : Tp pr := .i (rfl : ((0 : Int) : Int) = (0 : Int))
    let t9 : Tp pr := .i (rfl : ((0 : Int) : Int) = (0 : Int))
    let t10 : Tp pr := .i (rfl : ((0 : Int) : Int) = (0 : Int))
    let t11 : Tp pr := .i (rfl : ((0 : Int) : Int) = (0 : Int))
    let t13 : Tp pr := .i (rfl : ((0 : Int) : Int) = (0 : Int))
    let t14 : Tp pr := .i (rfl : ((0 : Int) : Int) = (0 : Int))
    let t15 : Tp pr := .i (rfl : ((0 : Int) : Int) = (0 : Int))
    let t16 : Tp pr := .i (rfl : ((0 : Int) : Int) = (0 : Int))
    let t17 : Tp pr := .i (rfl : ((0 : Int) : Int) = (0 : Int))
    let t19 : Tp pr := .i (rfl : ((0 : Int) : Int) = (0 : Int))
    let t20 : Tp pr := .i (rfl : ((0 : Int) : Int) = (0 : Int))
    let t21 : Tp pr := .i (rfl : ((20 : Int) : Int) = (20 : Int))
    exact .tp [t0, .m (rfl : true = true), t2, t3, .m (rfl : true = true), t5, t6, t7, .m (rfl : true = true), t9, t10, t11, .m (rfl : true = true), t13, t14, t15, t16, t17, .m (rfl : true = true), t19, t20, t21] (by kernel_rfl))
  | 21, _ => by (
    let t0 : Tp pr := .i (rfl : ((1 : Int) : Int) = (1 : Int))
    let t2 : Tp pr := .i (rfl : ((0 : Int) : Int) = (0 : Int))
    let t3 : Tp pr := .i (rfl : ((21 : Int) : Int) = (21 : Int))
    let t5 : Tp pr := .i (rfl : ((0 : Int) : Int) = (0 : Int))
    let t6 : Tp pr := .i (rfl : ((21 : Int) : Int) = (21 : Int))
    let t7 : Tp pr := .i (rfl : ((0 : Int) : Int) = (0 : Int))
    let t9 : Tp pr := .i (rfl : ((0 : Int) : Int) = (0 : Int))
    let t10 : Tp pr := .i (rfl : ((0 : Int) : Int) = (0 : Int))
    let t11 : Tp pr := .i (rfl : ((0 : Int) : Int) = (0 : Int))
    let t13 : Tp pr := .i (rfl : ((0 : Int) : Int) = (0 : Int))
    let t14 : Tp pr := .i (rfl : ((0 : Int) : Int) = (0 : Int))
    let t15 : Tp pr := .i (rfl : ((0 : Int) : Int) = (0 : Int))
    let t16 : Tp pr := .i (rfl : ((0 : Int) : Int) = (0 : Int))
    let t17 : Tp pr := .i (rfl : ((0 : Int) : Int) = (0 : Int))
    let t19 : Tp pr := .i (rfl : ((0 : Int) : Int) = (0 : Int))
    let t20 : Tp pr := .i (rfl : ((0 : Int) : Int) = (0 : Int))
    let t21 : Tp pr := .i (rfl : ((21 : Int) : Int) = (21 : Int))
    exact .tp [t0, .m (rfl : true = true), t2, t3, .m (rfl : true = true), t5, t6, t7, .m (rfl : true = true), t9, t10, t11, .m (rfl : true = true), t13, t14, t15, t16, t17, .m (rfl : true = true), t19, t20, t21] (by kernel_rfl))
  | 22, _ => by (
    let t0 : Tp pr := .i (rfl : ((1 : Int) : Int) = (1 : Int))
    let t2 : Tp pr := .i (rfl : ((0 : Int) : Int) = (0 : Int))
    let t3 : Tp pr := .i (rfl : ((22 : Int) : Int) = (22 : Int))
    let t5 : Tp pr := .i (rfl : ((0 : Int) : Int) = (0 : Int))
    let t6 : Tp pr := .i (rfl : ((22 : Int) : Int) = (22 : Int))
    let t7 : Tp pr := .i (rfl : ((0 : Int) : Int) = (0 : Int))
    let t9 : Tp pr := .i (rfl : ((0 : Int) : Int) = (0 : Int))
    let t10 : Tp pr := .i (rfl : ((0 : Int) : Int) = (0 : Int))
    let t11 : Tp pr := .i (rfl : ((0 : Int) : Int) = (0 : Int))
    let t13 : Tp pr := .i (rfl : ((0 : Int) : Int) = (0 : Int))
    let t14 : Tp pr := .i (rfl : ((0 : Int) : Int) = (0 : Int))
    let t15 : Tp pr := .i (rfl : ((0 : Int) : Int) = (0 : Int))
    let t16 : Tp pr := .i (rfl : ((0 : Int) : Int) = (0 : Int))
    let t17 : Tp pr := .i (rfl : ((0 : Int) : Int) = (0 : Int))
    let t19 : Tp pr := .i (rfl : ((0 : Int) : Int) = (0 : Int))
    let t20 : Tp pr := .i (rfl : ((0 : Int) : Int) = (0 : Int))
    let t21 : Tp pr := .i (rfl : ((22 : Int) : Int) = (22 : Int))
    exact .tp [t0, .m (rfl : true = true), t2, t3, .m (rfl : true = true), t5, t6, t7, .m (rfl : true = true), t9, t10, t11, .m (rfl : true = true), t13, t14, t15, t16, t17, .m (rfl : true = true), t19, t20, t21] (by kernel_rfl))
  | 23, _ => by (
    let t0 : Tp pr := .i (rfl : ((1 : Int) : Int) = (1 : Int))
    let t2 : Tp pr := .i (rfl : ((0 : Int) : Int) = (0 : Int))
    let t3 : Tp pr := .i (rfl : ((23 : Int) : Int) = (23 : Int))
    let t5 : Tp pr := .i (rfl : ((0 : Int) : Int) = (0 : Int))
    let t6 : Tp pr := .i (rfl : ((23 : Int) : Int) = (23 : Int))
    let t7 : Tp pr := .i (rfl : ((0 : Int) : Int) = (0 : Int))
    let t9 : Tp pr := .i (rfl : ((0 : Int) : Int) = (0 : Int))
    let t10 : Tp pr := .i (rfl : ((0 : Int) : Int) = (0 : Int))
    let t11 : Tp pr := .i (rfl : ((0 : Int) : Int) = (0 : Int))
    let t13 : Tp pr := .i (rfl : ((0 : Int) : Int) = (0 : Int))
    let t14 : Tp pr := .i (rfl : ((0 : Int) : Int) = (0 : Int))
    let t15 : Tp pr := .i (rfl : ((0 : Int) : Int) = (0 : Int))
    let t16 : Tp pr := .i (rfl : ((0 : Int) : Int) = (0 : Int))
    let t17 : Tp pr := .i (rfl : ((0 : Int) : Int) = (0 : Int))
    let t19 : Tp pr := .i (rfl : ((0 : Int) : Int) = (0 : Int))
    let t20 : Tp pr := .i (rfl : ((0 : Int) : Int) = (0 : Int))
    let t21 : Tp pr := .i (rfl : ((23 : Int) : Int) = (23 : Int))
    exact .tp [t0, .m (rfl : true = true), t2, t3, .m (rfl : true = true), t5, t6, t7, .m (rfl : true = true), t9, t10, t11, .m (rfl : true = true), t13, t14, t15, t16, t17, .m (rfl : true = true), t19, t20, t21] (by kernel_rfl))
  | 24, _ => by (
    let t0 : Tp pr := .i (rfl : ((1 : Int) : Int) = (1 : Int))
    let t2 : Tp pr := .i (rfl : ((0 : Int) : Int) = (0 : Int))
    let t3 : Tp pr := .i (rfl : ((24 : Int) : Int) = (24 : Int))
    let t5 : Tp pr := .i (rfl : ((0 : Int) : Int) = (0 : Int))
    let t6 : Tp pr := .i (rfl : ((24 : Int) : Int) = (24 : Int))
    let t7 : Tp pr := .i (rfl : ((0 : Int) : Int) = (0 : Int))
    let t9 : Tp pr := .i (rfl : ((0 : Int) : Int) = (0 : Int))
    let t10 : Tp pr := .i (rfl : ((0 : Int) : Int) = (0 : Int))
    let t11 : Tp pr := .i (rfl : ((0 : Int) : Int) = (0 : Int))
    let t13 : Tp pr := .i (rfl : ((0 : Int) : Int) = (0 : Int))
    let t14 : Tp pr := .i (rfl : ((0 : Int) : Int) = (0 : Int))
    let t15 : Tp pr := .i (rfl : ((0 : Int) : Int) = (0 : Int))
    let t16 : Tp pr := .i (rfl : ((0 : Int) : Int) = (0 : Int))
    let t17 : Tp pr := .i (rfl : ((0 : Int) : Int) = (0 : Int))
    let t19 : Tp pr := .i (rfl : ((0 : Int) : Int) = (0 : Int))
    let t20 : Tp pr := .i (rfl : ((0 : Int) : Int) = (0 : Int))
    let t21 : Tp pr := .i (rfl : ((24 : Int) : Int) = (24 : Int))
    exact .tp [t0, .m (rfl : true = true), t2, t3, .m (rfl : true = true), t5, t6, t7, .m (rfl : true = true), t9, t10, t11, .m (rfl : true = true), t13, t14, t15, t16, t17, .m (rfl : true = true), t19, t20, t21] (by kernel_rfl))
  | 25, _ => by (
    let t0 : Tp pr := .i (rfl : ((1 : Int) : Int) = (1 : Int))
    let t2 : Tp pr := .i (rfl : ((0 : Int) : Int) = (0 : Int))
    let t3 : Tp pr := .i (rfl : ((25 : Int) : Int) = (25 : Int))
    let t5 : Tp pr := .i (rfl : ((0 : Int) : Int) = (0 : Int))
    let t6 : Tp pr := .i (rfl : ((25 : Int) : Int) = (25 : Int))
    let t7 : Tp pr := .i (rfl : ((0 : Int) : Int) = (0 : Int))
    let t9 : Tp pr := .i (rfl : ((0 : Int) : Int) = (0 : Int))
    let t10 : Tp pr := .i (rfl : ((0 : Int) : Int) = (0 : Int))
    let t11 : Tp pr := .i (rfl : ((0 : Int) : Int) = (0 : Int))
    let t13 : Tp pr := .i (rfl : ((0 : Int) : Int) = (0 : Int))
    let t14 : Tp pr := .i (rfl : ((0 : Int) : Int) = (0 : Int))
    let t15 : Tp pr := .i (rfl : ((0 : Int) : Int) = (0 : Int))
    let t16 : Tp pr := .i (rfl : ((0 : Int) : Int) = (0 : Int))
    let t17 : Tp pr := .i (rfl : ((0 : Int) : Int) = (0 : Int))
    let t19 : Tp pr := .i (rfl : ((0 : Int) : Int) = (0 : Int))
    let t20 : Tp pr := .i (rfl : ((0 : Int) : Int) = (0 : Int))
    let t21 : Tp pr := .i (rfl : ((25 : Int) : Int) = (25 : Int))
    exact .tp [t0, .m (rfl : true = true), t2, t3, .m (rfl : true = true), t5, t6, t7, .m (rfl : true = true), t9, t10, t11, .m (rfl : true = true), t13, t14, t15, t16, t17, .m (rfl : true = true), t19, t20, t21] (by kernel_rfl))
  | 26, _ => by (
    let t0 : Tp pr := .i (rfl : ((1 : Int) : Int) = (1 : Int))
    let t2 : Tp pr := .i (rfl : ((0 : Int) : Int) = (0 : Int))
    let t3 : Tp pr := .i (rfl : ((26 : Int) : Int) = (26 : Int))
    let t5 : Tp pr := .i (rfl : ((0 : Int) : Int) = (0 : Int))
    let t6 : Tp pr := .i (rfl : ((26 : Int) : Int) = (26 : Int))
    let t7 : Tp pr := .i (rfl : ((0 : Int) : Int) = (0 : Int))
    let t9 : Tp pr := .i (rfl : ((0 : Int) : Int) = (0 : Int))
    let t10 : Tp pr := .i (rfl : ((0 : Int) : Int) = (0 : Int))
    let t11 : Tp pr := .i (rfl : ((0 : Int) : Int) = (0 : Int))
    let t13 : Tp pr := .i (rfl : ((0 : Int) : Int) = (0 : Int))
    let t14 : Tp pr := .i (rfl : ((0 : Int) : Int) = (0 : Int))
    let t15 : Tp pr := .i (rfl : ((0 : Int) : Int) = (0 : Int))
    let t16 : Tp pr := .i (rfl : ((0 : Int) : Int) = (0 : Int))
    let t17 : Tp pr := .i (rfl : ((0 : Int) : Int) = (0 : Int))
    let t19 : Tp pr := .i (rfl : ((0 : Int) : Int) = (0 : Int))
    let t20 : Tp pr := .i (rfl : ((0 : Int) : Int) = (0 : Int))
    let t21 : Tp pr := .i (rfl : ((26 : Int) : Int) = (26 : Int))
    exact .tp [t0, .m (rfl : true = true), t2, t3, .m (rfl : true = true), t5, t6, t7, .m (rfl : true = true), t9, t10, t11, .m (rfl : true = true), t13, t14, t15, t16, t17, .m (rfl : true = true), t19, t20, t21] (by kernel_rfl))
  | 27, _ => by (
    let t0 : Tp pr := .i (rfl : ((1 : Int) : Int) = (1 : Int))
    let t2 : Tp pr := .i (rfl : ((0 : Int) : Int) = (0 : Int))
    let t3 : Tp pr := .i (rfl : ((27 : Int) : Int) = (27 : Int))
    let t5 : Tp pr := .i (rfl : ((0 : Int) : Int) = (0 : Int))
    let t6 : Tp pr := .i (rfl : ((27 : Int) : Int) = (27 : Int))
    let t7 : Tp pr := .i (rfl : ((0 : Int) : Int) = (0 : Int))
    let t9 : Tp pr := .i (rfl : ((0 : Int) : Int) = (0 : Int))
    let t10 : Tp pr := .i (rfl : ((0 : Int) : Int) = (0 : Int))
    let t11 : Tp pr := .i (rfl : ((0 : Int) : Int) = (0 : Int))
    let t13 : Tp pr := .i (rfl : ((0 : Int) : Int) = (0 : Int))
    let t14 : Tp pr := .i (rfl : ((0 : Int) : Int) = (0 : Int))
    let t15 : Tp pr := .i (rfl : ((0 : Int) : Int) = (0 : Int))
    let t16 : Tp pr := .i (rfl : ((0 : Int) : Int) = (0 : Int))
    let t17 : Tp pr := .i (rfl : ((0 : Int) : Int) = (0 : Int))
    let t19 : Tp pr := .i (rfl : ((0 : Int) : Int) = (0 : Int))
    let t20 : Tp pr := .i (rfl : ((0 : Int) : Int) = (0 : Int))
    let t21 : Tp pr := .i (rfl : ((27 : Int) : Int) = (27 : Int))
    exact .tp [t0, .m (rfl : true = true), t2, t3, .m (rfl : true = true), t5, t6, t7, .m (rfl : true = true), t9, t10, t11, .m (rfl : true = true), t13, t14, t15, t16, t17, .m (rfl : true = true), t19, t20, t21] (by kernel_rfl))
  | 28, _ => by (
    let t0 : Tp pr := .i (rfl : ((1 : Int) : Int) = (1 : Int))
    let t2 : Tp pr := .i (rfl : ((0 : Int) : Int) = (0 : Int))
    let t3 : Tp pr := .i (rfl : ((28 : Int) : Int) = (28 : Int))
    let t5 : Tp pr := .i (rfl : ((0 : Int) : Int) = (0 : Int))
    let t6 : Tp pr := .i (rfl : ((28 : Int) : Int) = (28 : Int))
    let t7 : Tp pr := .i (rfl : ((0 : Int) : Int) = (0 : Int))
    let t9 : Tp pr := .i (rfl : ((0 : Int) : Int) = (0 : Int))
    let t10 : Tp pr := .i (rfl : ((0 : Int) : Int) = (0 : Int))
    let t11 : Tp pr := .i (rfl : ((0 : Int) : Int) = (0 : Int))
    let t13 : Tp pr := .i (rfl : ((0 : Int) : Int) = (0 : Int))
    let t14 : Tp pr := .i (rfl : ((0 : Int) : Int) = (0 : Int))
    let t15 : Tp pr := .i (rfl : ((0 : Int) : Int) = (0 : Int))
    let t16 : Tp pr := .i (rfl : ((0 : Int) : Int) = (0 : Int))
    let t17 : Tp pr := .i (rfl : ((0 : Int) : Int) = (0 : Int))
    let t19 : Tp pr := .i (rfl : ((0 : Int) : Int) = (0 : Int))
    let t20 : Tp pr := .i (rfl : ((0 : Int) : Int) = (0 : Int))
    let t21 : Tp pr := .i (rfl : ((28 : Int) : Int) = (28 : Int))
    exact .tp [t0, .m (rfl : true = true), t2, t3, .m (rfl : true = true), t5, t6, t7, .m (rfl : true = true), t9, t10, t11, .m (rfl : true = true), t13, t14, t15, t16, t17, .m (rfl : true = true), t19, t20, t21] (by kernel_rfl))
  | 29, _ => by (
    let t0 : Tp pr := .i (rfl : ((1 : Int) : Int) = (1 : Int))
    let t2 : Tp pr := .i (rfl : ((0 : Int) : Int) = (0 : Int))
    let t3 : Tp pr := .i (rfl : ((29 : Int) : Int) = (29 : Int))
    let t5 : Tp pr := .i (rfl : ((0 : Int) : Int) = (0 : Int))
    let t6 : Tp pr := .i (rfl : ((29 : Int) : Int) = (29 : Int))
    let t7 : Tp pr := .i (rfl : ((0 : Int) : Int) = (0 : Int))
    let t9 : Tp pr := .i (rfl : ((0 : Int) : Int) = (0 : Int))
    let t10 : Tp pr := .i (rfl : ((0 : Int) : Int) = (0 : Int))
    let t11 : Tp pr := .i (rfl : ((0 : Int) : Int) = (0 : Int))
    let t13 : Tp pr := .i (rfl : ((0 : Int) : Int) = (0 : Int))
    let t14 : Tp pr := .i (rfl : ((0 : Int) : Int) = (0 : Int))
    let t15 : Tp pr := .i (rfl : ((0 : Int) : Int) = (0 : Int))
    let t16 : Tp pr := .i (rfl : ((0 : Int) : Int) = (0 : Int))
    let t17 : Tp pr := .i (rfl : ((0 : Int) : Int) = (0 : Int))
    let t19 : Tp pr := .i (rfl : ((0 : Int) : Int) = (0 : Int))
    let t20 : Tp pr := .i (rfl : ((0 : Int) : Int) = (0 : Int))
    let t21 : Tp pr := .i (rfl : ((29 : Int) : Int) = (29 : Int))
    exact .tp [t0, .m (rfl : true = true), t2, t3, .m (rfl : true = true), t5, t6, t7, .m (rfl : true = true), t9, t10, t11, .m (rfl : true = true), t13, t14, t15, t16, t17, .m (rfl : true = true), t19, t20, t21] (by kernel_rfl))
  | 30, _ => by (
    let t0 : Tp pr := .i (rfl : ((1 : Int) : Int) = (1 : Int))
    let t2 : Tp pr := .i (rfl : ((0 : Int) : Int) = (0 : Int))
    let t3 : Tp pr := .i (rfl : ((30 : Int) : Int) = (30 : Int))
    let t5 : Tp pr := .i (rfl : ((0 : Int) : Int) = (0 : Int))
    let t6 : Tp pr := .i (rfl : ((30 : Int) : Int) = (30 : Int))
    let t7 : Tp pr := .i (rfl : ((0 : Int) : Int) = (0 : Int))
    let t9 : Tp pr := .i (rfl : ((0 : Int) : Int) = (0 : Int))
    let t10 : Tp pr := .i (rfl : ((0 : Int) : Int) = (0 : Int))
    let t11 : Tp pr := .i (rfl : ((0 : Int) : Int) = (0 : Int))
    let t13 : Tp pr := .i (rfl : ((0 : Int) : Int) = (0 : Int))
    let t14 : Tp pr := .i (rfl : ((0 : Int) : Int) = (0 : Int))
    let t15 : Tp pr := .i (rfl : ((0 : Int) : Int) = (0 : Int))
    let t16 : Tp pr := .i (rfl : ((0 : Int) : Int) = (0 : Int))
    let t17 : Tp pr := .i (rfl : ((0 : Int) : Int) = (0 : Int))
    let t19 : Tp pr := .i (rfl : ((0 : Int) : Int) = (0 : Int))
    let t20 : Tp pr := .i (rfl : ((0 : Int) : Int) = (0 : Int))
    let t21 : Tp pr := .i (rfl : ((30 : Int) : Int) = (30 : Int))
    exact .tp [t0, .m (rfl : true = true), t2, t3, .m (rfl : true = true), t5, t6, t7, .m (rfl : true = true), t9, t10, t11, .m (rfl : true = true), t13, t14, t15, t16, t17, .m (rfl : true = true), t19, t20, t21] (by kernel_rfl))
  | 31, _ => by (
    let t0 : Tp pr := .i (rfl : ((1 : Int) : Int) = (1 : Int))
    let t2 : Tp pr := .i (rfl : ((0 : Int) : Int) = (0 : Int))
    let t3 : Tp pr := .i (rfl : ((31 : Int) : Int) = (31 : Int))
    let t5 : Tp pr := .i (rfl : ((0 : Int) : Int) = (0 : Int))
    let t6 : Tp pr := .i (rfl : ((31 : Int) : Int) = (31 : Int))
    let t7 : Tp pr := .i (rfl : ((0 : Int) : Int) = (0 : Int))
    let t9 : Tp pr := .i (rfl : ((0 : Int) : Int) = (0 : Int))
    let t10 : Tp pr := .i (rfl : ((0 : Int) : Int) = (0 : Int))
    let t11 : Tp pr := .i (rfl : ((0 : Int) : Int) = (0 : Int))
    let t13 : Tp pr := .i (rfl : ((0 : Int) : Int) = (0 : Int))
    let t14 : Tp pr := .i (rfl : ((0 : Int) : Int) = (0 : Int))
    let t15 : Tp pr := .i (rfl : ((0 : Int) : Int) = (0 : Int))
    let t16 : Tp pr := .i (rfl : ((0 : Int) : Int) = (0 : Int))
    let t17 : Tp pr := .i (rfl : ((0 : Int) : Int) = (0 : Int))
    let t19 : Tp pr := .i (rfl : ((0 : Int) : Int) = (0 : Int))
    let t20 : Tp pr := .i (rfl : ((0 : Int) : Int) = (0 : Int))
    let t21 : Tp pr := .i (rfl : ((31 : Int) : Int) = (31 : Int))
    exact .tp [t0, .m (rfl : true = true), t2, t3, .m (rfl : true = true), t5, t6, t7, .m (rfl : true = true), t9, t10, t11, .m (rfl : true = true), t13, t14, t15, t16, t17, .m (rfl : true = true), t19, t20, t21] (by kernel_rfl))
  | 32, _ => by (
    let t0 : Tp pr := .i (rfl : ((1 : Int) : Int) = (1 : Int))
    let t2 : Tp pr := .i (rfl : ((0 : Int) : Int) = (0 : Int))
    let t3 : Tp pr := .i (rfl : ((32 : Int) : Int) = (32 : Int))
    let t5 : Tp pr := .i (rfl : ((0 : Int) : Int) = (0 : Int))
    let t6 : Tp pr := .i (rfl : ((32 : Int) : Int) = (32 : Int))
    let t7 : Tp pr := .i (rfl : ((0 : Int) : Int) = (0 : Int))
    let t9 : Tp pr := .i (rfl : ((0 : Int) : Int) = (0 : Int))
    let t10 : Tp pr := .i (rfl : ((0 : Int) : Int) = (0 : Int))
    let t11 : Tp pr := .i (rfl : ((0 : Int) : Int) = (0 : Int))
    let t13 : Tp pr := .i (rfl : ((0 : Int) : Int) = (0 : Int))
    let t14 : Tp pr := .i (rfl : ((0 : Int) : Int) = (0 : Int))
    let t15 : Tp pr := .i (rfl : ((0 : Int) : Int) = (0 : Int))
    let t16 : Tp pr := .i (rfl : ((0 : Int) : Int) = (0 : Int))
    let t17 : Tp pr := .i (rfl : ((0 : Int) : Int) = (0 : Int))
    let t19 : Tp pr := .i (rfl : ((0 : Int) : Int) = (0 : Int))
    let t20 : Tp pr := .i (rfl : ((0 : Int) : Int) = (0 : Int))
    let t21 : Tp pr := .i (rfl : ((32 : Int) : Int) = (32 : Int))
    exact .tp [t0, .m (rfl : true = true), t2, t3, .m (rfl : true = true), t5, t6, t7, .m (rfl : true = true), t9, t10, t11, .m (rfl : true = true), t13, t14, t15, t16, t17, .m (rfl : true = true), t19, t20, t21] (by kernel_rfl))
  | 33, _ => by (
    let t0 : Tp pr := .i (rfl : ((1 : Int) : Int) = (1 : Int))
    let t2 : Tp pr := .i (rfl : ((0 : Int) : Int) = (0 : Int))
    let t3 : Tp pr := .i (rfl : ((33 : Int) : Int) = (33 : Int))
    let t5 : Tp pr := .i (rfl : ((0 : Int) : Int) = (0 : Int))
    let t6 : Tp pr := .i (rfl : ((33 : Int) : Int) = (33 : Int))
    let t7 : Tp pr := .i (rfl : ((0 : Int) : Int) = (0 : Int))
    let t9 : Tp pr := .i (rfl : ((0 : Int) : Int) = (0 : Int))
    let t10 : Tp pr := .i (rfl : ((0 : Int) : Int) = (0 : Int))
    let t11 : Tp pr := .i (rfl : ((0 : Int) : Int) = (0 : Int))
    let t13 : Tp pr := .i (rfl : ((0 : Int) : Int) = (0 : Int))
    let t14 : Tp pr := .i (rfl : ((0 : Int) : Int) = (0 : Int))
    let t15 : Tp pr := .i (rfl : ((0 : Int) : Int) = (0 : Int))
    let t16 : Tp pr := .i (rfl : ((0 : Int) : Int) = (0 : Int))
    let t17 : Tp pr := .i (rfl : ((0 : Int) : Int) = (0 : Int))
    let t19 : Tp pr := .i (rfl : ((0 : Int) : Int) = (0 : Int))
    let t20 : Tp pr := .i (rfl : ((0 : Int) : Int) = (0 : Int))
    let t21 : Tp pr := .i (rfl : ((33 : Int) : Int) = (33 : Int))
    exact .tp [t0, .m (rfl : true = true), t2, t3, .m (rfl : true = true), t5, t6, t7, .m (rfl : true = true), t9, t10, t11, .m (rfl : true = true), t13, t14, t15, t16, t17, .m (rfl : true = true), t19, t20, t21] (by kernel_rfl))
  | 34, _ => by (
    let t0 : Tp pr := .i (rfl : ((1 : Int) : Int) = (1 : Int))
    let t2 : Tp pr := .i (rfl : ((0 : Int) : Int) = (0 : Int))
    let t3 : Tp pr := .i (rfl : ((34 : Int) : Int) = (34 : Int))
    let t5 : Tp pr := .i (rfl : ((0 : Int) : Int) = (0 : Int))
    let t6 : Tp pr := .i (rfl : ((34 : Int) : Int) = (34 : Int))
    let t7 : Tp pr := .i (rfl : ((0 : Int) : Int) = (0 : Int))
    let t9 : Tp pr := .i (rfl : ((0 : Int) : Int) = (0 : Int))
    let t10 : Tp pr := .i (rfl : ((0 : Int) : Int) = (0 : Int))
    let t11 : Tp pr := .i (rfl : ((0 : Int) : Int) = (0 : Int))
    let t13 : Tp pr := .i (rfl : ((0 : Int) : Int) = (0 : Int))
    let t14 : Tp pr := .i (rfl : ((0 : Int) : Int) = (0 : Int))
    let t15 : Tp pr := .i (rfl : ((0 : Int) : Int) = (0 : Int))
    let t16 : Tp pr := .i (rfl : ((0 : Int) : Int) = (0 : Int))
    let t17 : Tp pr := .i (rfl : ((0 : Int) : Int) = (0 : Int))
    let t19 : Tp pr := .i (rfl : ((0 : Int) : Int) = (0 : Int))
    let t20 : Tp pr := .i (rfl : ((0 : Int) : Int) = (0 : Int))
    let t21 : Tp pr := .i (rfl : ((34 : Int) : Int) = (34 : Int))
    exact .tp [t0, .m (rfl : true = true), t2, t3, .m (rfl : true = true), t5, t6, t7, .m (rfl : true = true), t9, t10, t11, .m (rfl : true = true), t13, t14, t15, t16, t17, .m (rfl : true = true), t19, t20, t21] (by kernel_rfl))
  | 35, _ => by (
    let t0 : Tp pr := .i (rfl : ((1 : Int) : Int) = (1 : Int))
    let t2 : Tp pr := .i (rfl : ((0 : Int) : Int) = (0 : Int))
    let t3 : Tp pr := .i (rfl : ((35 : Int) : Int) = (35 : Int))
    let t5 : Tp pr := .i (rfl : ((0 : Int) : Int) = (0 : Int))
    let t6 : Tp pr := .i (rfl : ((35 : Int) : Int) = (35 : Int))
    let t7 : Tp pr := .i (rfl : ((0 : Int) : Int) = (0 : Int))
    let t9 : Tp pr := .i (rfl : ((0 : Int) : Int) = (0 : Int))
    let t10 : Tp pr := .i (rfl : ((0 : Int) : Int) = (0 : Int))
    let t11 : Tp pr := .i (rfl : ((0 : Int) : Int) = (0 : Int))
    let t13 : Tp pr := .i (rfl : ((0 : Int) : Int) = (0 : Int))
    let t14 : Tp pr := .i (rfl : ((0 : Int) : Int) = (0 : Int))
    let t15 : Tp pr := .i (rfl : ((0 : Int) : Int) = (0 : Int))
    let t16 : Tp pr := .i (rfl : ((0 : Int) : Int) = (0 : Int))
    let t17 : Tp pr := .i (rfl : ((0 : Int) : Int) = (0 : Int))
    let t19 : Tp pr := .i (rfl : ((0 : Int) : Int) = (0 : Int))
    let t20 : Tp pr := .i (rfl : ((0 : Int) : Int) = (0 : Int))
    let t21 : Tp pr := .i (rfl : ((35 : Int) : Int) = (35 : Int))
    exact .tp [t0, .m (rfl : true = true), t2, t3, .m (rfl : true = true), t5, t6, t7, .m (rfl : true = true), t9, t10, t11, .m (rfl : true = true), t13, t14, t15, t16, t17, .m (rfl : true = true), t19, t20, t21] (by kernel_rfl))
  | 36, _ => by (
    let t0 : Tp pr := .i (rfl : ((1 : Int) : Int) = (1 : Int))
    let t2 : Tp pr := .i (rfl : ((0 : Int) : Int) = (0 : Int))
    let t3 : Tp pr := .i (rfl : ((36 : Int) : Int) = (36 : Int))
    let t5 : Tp pr := .i (rfl : ((0 : Int) : Int) = (0 : Int))
    let t6 : Tp pr := .i (rfl : ((36 : Int) : Int) = (36 : Int))
    let t7 : Tp pr := .i (rfl : ((0 : Int) : Int) = (0 : Int))
    let t9 : Tp pr := .i (rfl : ((0 : Int) : Int) = (0 : Int))
    let t10 : Tp pr := .i (rfl : ((0 : Int) : Int) = (0 : Int))
    let t11 : Tp pr := .i (rfl : ((0 : Int) : Int) = (0 : Int))
    let t13 : Tp pr := .i (rfl : ((0 : Int) : Int) = (0 : Int))
    let t14 : Tp pr := .i (rfl : ((0 : Int) : Int) = (0 : Int))
    let t15 : Tp pr := .i (rfl : ((0 : Int) : Int) = (0 : Int))
    let t16 : Tp pr := .i (rfl : ((0 : Int) : Int) = (0 : Int))
    let t17 : Tp pr := .i (rfl : ((0 : Int) : Int) = (0 : Int))
    let t19 : Tp pr := .i (rfl : ((0 : Int) : Int) = (0 : Int))
    let t20 : Tp pr := .i (rfl : ((0 : Int) : Int) = (0 : Int))
    let t21 : Tp pr := .i (rfl : ((36 : Int) : Int) = (36 : Int))
    exact .tp [t0, .m (rfl : true = true), t2, t3, .m (rfl : true = true), t5, t6, t7, .m (rfl : true = true), t9, t10, t11, .m (rfl : true = true), t13, t14, t15, t16, t17, .m (rfl : true = true), t19, t20, t21] (by kernel_rfl))
  | 37, _ => by (
    let t0 : Tp pr := .i (rfl : ((1 : Int) : Int) = (1 : Int))
    let t2 : Tp pr := .i (rfl : ((0 : Int) : Int) = (0 : Int))
    let t3 : Tp pr := .i (rfl : ((37 : Int) : Int) = (37 : Int))
    let t5 : Tp pr := .i (rfl : ((0 : Int) : Int) = (0 : Int))
    let t6 : Tp pr := .i (rfl : ((37 : Int) : Int) = (37 : Int))
    let t7 : Tp pr := .i (rfl : ((0 : Int) : Int) = (0 : Int))
    let t9 : Tp pr := .i (rfl : ((0 : Int) : Int) = (0 : Int))
    let t10 : Tp pr := .i (rfl : ((0 : Int) : Int) = (0 : Int))
    let t11 : Tp pr := .i (rfl : ((0 : Int) : Int) = (0 : Int))
    let t13 : Tp pr := .i (rfl : ((0 : Int) : Int) = (0 : Int))
    let t14 : Tp pr := .i (rfl : ((0 : Int) : Int) = (0 : Int))
    let t15 : Tp pr := .i (rfl : ((0 : Int) : Int) = (0 : Int))
    let t16 : Tp pr := .i (rfl : ((0 : Int) : Int) = (0 : Int))
    let t17 : Tp pr := .i (rfl : ((0 : Int) : Int) = (0 : Int))
    let t19 : Tp pr := .i (rfl : ((0 : Int) : Int) = (0 : Int))
    let t20 : Tp pr := .i (rfl : ((0 : Int) : Int) = (0 : Int))
    let t21 : Tp pr := .i (rfl : ((37 : Int) : Int) = (37 : Int))
    exact .tp [t0, .m (rfl : true = true), t2, t3, .m (rfl : true = true), t5, t6, t7, .m (rfl : true = true), t9, t10, t11, .m (rfl : true = true), t13, t14, t15, t16, t17, .m (rfl : true = true), t19, t20, t21] (by kernel_rfl))
  | 38, _ => by (
    let t0 : Tp pr := .i (rfl : ((1 : Int) : Int) = (1 : Int))
    let t2 : Tp pr := .i (rfl : ((0 : Int) : Int) = (0 : Int))
    let t3 : Tp pr := .i (rfl : ((38 : Int) : Int) = (38 : Int))
    let t5 : Tp pr := .i (rfl : ((0 : Int) : Int) = (0 : Int))
    let t6 : Tp pr := .i (rfl : ((38 : Int) : Int) = (38 : Int))
    let t7 : Tp pr := .i (rfl : ((0 : Int) : Int) = (0 : Int))
    let t9 : Tp pr := .i (rfl : ((0 : Int) : Int) = (0 : Int))
    let t10 : Tp pr := .i (rfl : ((0 : Int) : Int) = (0 : Int))
    let t11 : Tp pr := .i (rfl : ((0 : Int) : Int) = (0 : Int))
    let t13 : Tp pr := .i (rfl : ((0 : Int) : Int) = (0 : Int))
    let t14 : Tp pr := .i (rfl : ((0 : Int) : Int) = (0 : Int))
    let t15 : Tp pr := .i (rfl : ((0 : Int) : Int) = (0 : Int))
    let t16 : Tp pr := .i (rfl : ((0 : Int) : Int) = (0 : Int))
    let t17 : Tp pr := .i (rfl : ((0 : Int) : Int) = (0 : Int))
    let t19 : Tp pr := .i (rfl : ((0 : Int) : Int) = (0 : Int))
    let t20 : Tp pr := .i (rfl : ((0 : Int) : Int) = (0 : Int))
    let t21 : Tp pr := .i (rfl : ((38 : Int) : Int) = (38 : Int))
    exact .tp [t0, .m (rfl : true = true), t2, t3, .m (rfl : true = true), t5, t6, t7, .m (rfl : true = true), t9, t10, t11, .m (rfl : true = true), t13, t14, t15, t16, t17, .m (rfl : true = true), t19, t20, t21] (by kernel_rfl))
  | 39, _ => by (
    let t0 : Tp pr := .i (rfl : ((1 : Int) : Int) = (1 : Int))
    let t2 : Tp pr := .i (rfl : ((0 : Int) : Int) = (0 : Int))
    let t3 : Tp pr := .i (rfl : ((39 : Int) : Int) = (39 : Int))
    let t5 : Tp pr := .i (rfl : ((0 : Int) : Int) = (0 : Int))
    let t6 : Tp pr := .i (rfl : ((39 : Int) : Int) = (39 : Int))
    let t7 : Tp pr := .i (rfl : ((0 : Int) : Int) = (0 : Int))
    let t9 : Tp pr := .i (rfl : ((0 : Int) : Int) = (0 : Int))
    let t10 : Tp pr := .i (rfl : ((0 : Int) : Int) = (0 : Int))
    let t11 : Tp pr := .i (rfl : ((0 : Int) : Int) = (0 : Int))
    let t13 : Tp pr := .i (rfl : ((0 : Int) : Int) = (0 : Int))
    let t14 : Tp pr := .i (rfl : ((0 : Int) : Int) = (0 : Int))
    let t15 : Tp pr := .i (rfl : ((0 : Int) : Int) = (0 : Int))
    let t16 : Tp pr := .i (rfl : ((0 : Int) : Int) = (0 : Int))
    let t17 : Tp pr := .i (rfl : ((0 : Int) : Int) = (0 : Int))
    let t19 : Tp pr := .i (rfl : ((0 : Int) : Int) = (0 : Int))
    let t20 : Tp pr := .i (rfl : ((0 : Int) : Int) = (0 : Int))
    let t21 : Tp pr := .i (rfl : ((39 : Int) : Int) = (39 : Int))
    exact .tp [t0, .m (rfl : true = true), t2, t3, .m (rfl : true = true), t5, t6, t7, .m (rfl : true = true), t9, t10, t11, .m (rfl : true = true), t13, t14, t15, t16, t17, .m (rfl : true = true), t19, t20, t21] (by kernel_rfl))
  | 40, _ => by (
    let t0 : Tp pr := .i (rfl : ((1 : Int) : Int) = (1 : Int))
    let t2 : Tp pr := .i (rfl : ((0 : Int) : Int) = (0 : Int))
    let t3 : Tp pr := .i (rfl : ((40 : Int) : Int) = (40 : Int))
    let t5 : Tp pr := .i (rfl : ((0 : Int) : Int) = (0 : Int))
    let t6 : Tp pr := .i (rfl : ((40 : Int) : Int) = (40 : Int))
    let t7 : Tp pr := .i (rfl : ((0 : Int) : Int) = (0 : Int))
    let t9 : Tp pr := .i (rfl : ((0 : Int) : Int) = (0 : Int))
    let t10 : Tp pr := .i (rfl : ((0 : Int) : Int) = (0 : Int))
    let t11 : Tp pr := .i (rfl : ((0 : Int) : Int) = (0 : Int))
    let t13 : Tp pr := .i (rfl : ((0 : Int) : Int) = (0 : Int))
    let t14 : Tp pr := .i (rfl : ((0 : Int) : Int) = (0 : Int))
    let t15 : Tp pr := .i (rfl : ((0 : Int) : Int) = (0 : Int))
    let t16 : Tp pr := .i (rfl : ((0 : Int) : Int) = (0 : Int))
    let t17 : Tp pr := .i (rfl : ((0 : Int) : Int) = (0 : Int))
    let t19 : Tp pr := .i (rfl : ((0 : Int) : Int) = (0 : Int))
    let t20 : Tp pr := .i (rfl : ((0 : Int) : Int) = (0 : Int))
    let t21 : Tp pr := .i (rfl : ((40 : Int) : Int) = (40 : Int))
    exact .tp [t0, .m (rfl : true = true), t2, t3, .m (rfl : true = true), t5, t6, t7, .m (rfl : true = true), t9, t10, t11, .m (rfl : true = true), t13, t14, t15, t16, t17, .m (rfl : true = true), t19, t20, t21] (by kernel_rfl))
  | n + 41, h => absurd h (by omega)
theorem mul_ev (n : Nat) (h : n ≤ 40) : Ev pr (.call 116 [.t (.int .u64 1), .t (.int .u64 n)] []) (.val (.tup [.t (.int .u64 0), .t (.int .u64 n)]) []) := by
  have := mul64_ev n h
  exact .tp [.b (rfl : false = false), .a (this)] (by kernel_rfl)
theorem rep_take {m k n : Nat} (hk : k ≤ m) : List.take k (ints (List.replicate m (-1) ++ List.replicate n 0)) = ints (List.replicate k (-1)) := by
  rw [ints, ← List.map_take, List.take_append_of_le_length (by simpa using hk), List.take_replicate, Nat.min_eq_left hk]
  rfl
theorem rep_drop {m k n : Nat} : List.drop (m + k) (ints (List.replicate m (-1) ++ List.replicate n 0)) = ints (List.replicate (n - k) 0) := by
  rw [ints, ← List.map_drop, List.drop_append, List.drop_of_length_le (by simp), List.drop_replicate]
  simp [ints]
theorem rep_step {m k n : Nat} (hk : k ≤ m) (h : k ≤ n - m) (hm : m ≤ n) : List.take m (ints (List.replicate m (-1) ++ List.replicate (n - m) 0)) ++ (List.take k (ints (List.replicate m (-1) ++ List.replicate (n - m) 0)) ++ List.drop (m + k) (ints (List.replicate m (-1) ++ List.replicate (n - m) 0))) =
    ints (List.replicate (m + k) (-1) ++ List.replicate (n - (m + k)) 0) := by
  rw [rep_take (Nat.le_refl m), rep_take hk, rep_drop, ← ints_app, ← ints_app, ← List.append_assoc, List.replicate_append_replicate, Nat.sub_sub]
theorem repL_ev (n : Nat) (hn : n ≤ 40) : ∀ (q m : Nat), n - m ≤ q → 1 ≤ m → m ≤ n →
    Ev pr (.loop (lq pr 96 0) (at_ [(7, .vec 0 n 1 0 n), (8, i64 m)] [.vec true 1 (ints (List.replicate m (-1) ++ List.replicate (n - m) 0))] 0))
      (.exit 0 (at_ [(7, .vec 0 n 1 0 n)] [.vec true 1 (ints (List.replicate n (-1)))] 0))
  | 0, m, hq, h1, hm => by
    have e : n = m := by omega
    subst e
    rw [show List.replicate (n - n) (0 : Int) = [] by simp]
    let t1 : Tp pr := .b (show (decide ((↑n : Int) < (↑n : Int))) = false by simp)
    exact .tpe [.i (rfl : ((↑n : Int)) = _), t1] (Out.exit (0 : Nat) (at_ [((7 : Nat), V.vec (0 : Nat) n (1 : Nat) (0 : Nat) n)] [Ob.vec true (1 : Nat) (ints (List.replicate n (-1 : Int) ++ []))] (0 : Nat))) (by kernel_rfl) (congrArg (fun x => Out.exit (0 : Nat) (at_ [((7 : Nat), V.vec (0 : Nat) n (1 : Nat) (0 : Nat) n)] [Ob.vec true (1 : Nat) x] (0 : Nat))) (show (ints (List.replicate n (-1 : Int) ++ [])) = (ints (List.replicate n (-1 : Int))) by simp))
  | q + 1, m, hq, h1, hm => by
    by_cases he : n = m
    · subst he
      rw [show List.replicate (n - n) (0 : Int) = [] by simp]
      let t1 : Tp pr := .b (show (decide ((↑n : Int) < (↑n : Int))) = false by simp)
      exact .tpe [.i (rfl : ((↑n : Int)) = _), t1] (Out.exit (0 : Nat) (at_ [((7 : Nat), V.vec (0 : Nat) n (1 : Nat) (0 : Nat) n)] [Ob.vec true (1 : Nat) (ints (List.replicate n (-1 : Int) ++ []))] (0 : Nat))) (by kernel_rfl) (congrArg (fun x => Out.exit (0 : Nat) (at_ [((7 : Nat), V.vec (0 : Nat) n (1 : Nat) (0 : Nat) n)] [Ob.vec true (1 : Nat) x] (0 : Nat))) (show (ints (List.replicate n (-1 : Int) ++ [])) = (ints (List.replicate n (-1 : Int))) by simp))
    · by_cases hh : m ≤ n - m
      · have ih := repL_ev n hn q (m + m) (by omega) (by omega) (by omega)
        rw [← rep_step (Nat.le_refl m) hh hm] at ih
        let t1 : Tp pr := .b (show (decide ((↑m : Int) < (↑n : Int))) = true by (simp; omega))
        let t5 : Tp pr := .m (show (decide ((0 : Int) ≤ (↑m : Int) ∧ (↑m : Int) ≤ (↑n : Int) ∧ (0 : Nat) + (↑n : Int).toNat ≤ n)) = true by simp [*])
        let t6 : Tp pr := .c (show ((0 : Nat) + (↑m : Int).toNat : Nat) = m by omega)
        let t7 : Tp pr := .c (show ((↑n : Int).toNat - (↑m : Int).toNat : Nat) = n - m by omega)
        let t11 : Tp pr := .m (show (decide ((0 : Int) ≤ (0 : Int) ∧ (0 : Int) ≤ (↑m : Int) ∧ (0 : Nat) + (↑m : Int).toNat ≤ n)) = true by simp [*])
        let t13 : Tp pr := .c (show ((↑m : Int).toNat - (0 : Nat) : Nat) = m by omega)
        let t15 : Tp pr := .b (show (decide (m ≤ n - m)) = true by (simp; omega))
        let t16 : Tp pr := .m (show (decide ((ints (List.replicate m (-1 : Int) ++ List.replicate (n - m) (0 : Int))).length = n ∧ (0 : Nat) + m ≤ n)) = true by simp [*])
        let t17 : Tp pr := .m (show (decide ((ints (List.replicate m (-1 : Int) ++ List.replicate (n - m) (0 : Int))).length = n ∧ m + (n - m) ≤ n ∧ (List.take m (List.drop (0 : Nat) (ints (List.replicate m (-1 : Int) ++ List.replicate (n - m) (0 : Int))))).length ≤ n - m)) = true by simp [*])
        let t18 : Tp pr := .c (show ((List.take m (List.drop (0 : Nat) (ints (List.replicate m (-1 : Int) ++ List.replicate (n - m) (0 : Int))))).length : Nat) = m by simp)
        let t19 : Tp pr := .n .crows (show (((List.take m (ints (List.replicate m (-1 : Int) ++ List.replicate (n - m) (0 : Int)))).append (List.take m (List.drop (0 : Nat) (ints (List.replicate m (-1 : Int) ++ List.replicate (n - m) (0 : Int)))))).append (List.drop (m + (List.take m (List.drop (0 : Nat) (ints (List.replicate m (-1 : Int) ++ List.replicate (n - m) (0 : Int))))).length) (ints (List.replicate m (-1 : Int) ++ List.replicate (n - m) (0 : Int))))) = List.take m (ints (List.replicate m (-1 : Int) ++ List.replicate (n - m) (0 : Int))) ++ (List.take m (ints (List.replicate m (-1 : Int) ++ List.replicate (n - m) (0 : Int))) ++ List.drop (m + m) (ints (List.replicate m (-1 : Int) ++ List.replicate (n - m) (0 : Int)))) by simp)
        let t21 : Tp pr := .i (wrap_i64 (a := (↑m : Int) + (↑m : Int)) (by omega) (by omega))
        exact .tp [.i (rfl : ((↑n : Int)) = _), t1, .m (rfl : true = true), .m (rfl : true = true), .m (rfl : true = true), t5, t6, t7, .m (rfl : true = true), .m (rfl : true = true), .m (rfl : true = true), t11, .c (rfl : ((0 : Nat)) = _), t13, .m (rfl : true = true), t15, t16, t17, t18, t19, .m (rfl : true = true), t21, .m (rfl : true = true), .m (rfl : true = true), .a (ih)] (by kernel_rfl)
      · have ih := repL_ev n hn q (m + (n - m)) (by omega) (by omega) (by omega)
        rw [← rep_step (k := n - m) (by omega) (Nat.le_refl _) hm] at ih
        let t1 : Tp pr := .b (show (decide ((↑m : Int) < (↑n : Int))) = true by (simp; omega))
        let t5 : Tp pr := .m (show (decide ((0 : Int) ≤ (↑m : Int) ∧ (↑m : Int) ≤ (↑n : Int) ∧ (0 : Nat) + (↑n : Int).toNat ≤ n)) = true by simp [*])
        let t6 : Tp pr := .c (show ((0 : Nat) + (↑m : Int).toNat : Nat) = m by omega)
        let t7 : Tp pr := .c (show ((↑n : Int).toNat - (↑m : Int).toNat : Nat) = n - m by omega)
        let t11 : Tp pr := .m (show (decide ((0 : Int) ≤ (0 : Int) ∧ (0 : Int) ≤ (↑m : Int) ∧ (0 : Nat) + (↑m : Int).toNat ≤ n)) = true by simp [*])
        let t13 : Tp pr := .c (show ((↑m : Int).toNat - (0 : Nat) : Nat) = m by omega)
        let t15 : Tp pr := .b (show (decide (m ≤ n - m)) = false by (simp; omega))
        let t16 : Tp pr := .m (show (decide ((ints (List.replicate m (-1 : Int) ++ List.replicate (n - m) (0 : Int))).length = n ∧ (0 : Nat) + (n - m) ≤ n)) = true by simp [*])
        let t17 : Tp pr := .m (show (decide ((ints (List.replicate m (-1 : Int) ++ List.replicate (n - m) (0 : Int))).length = n ∧ m + (n - m) ≤ n ∧ (List.take (n - m) (List.drop (0 : Nat) (ints (List.replicate m (-1 : Int) ++ List.replicate (n - m) (0 : Int))))).length ≤ n - m)) = true by simp [*])
        let t18 : Tp pr := .c (show ((List.take (n - m) (List.drop (0 : Nat) (ints (List.replicate m (-1 : Int) ++ List.replicate (n - m) (0 : Int))))).length : Nat) = n - m by simp)
        let t19 : Tp pr := .n .crows (show (((List.take m (ints (List.replicate m (-1 : Int) ++ List.replicate (n - m) (0 : Int)))).append (List.take (n - m) (List.drop (0 : Nat) (ints (List.replicate m (-1 : Int) ++ List.replicate (n - m) (0 : Int)))))).append (List.drop (m + (List.take (n - m) (List.drop (0 : Nat) (ints (List.replicate m (-1 : Int) ++ List.replicate (n - m) (0 : Int))))).length) (ints (List.replicate m (-1 : Int) ++ List.replicate (n - m) (0 : Int))))) = List.take m (ints (List.replicate m (-1 : Int) ++ List.replicate (n - m) (0 : Int))) ++ (List.take (n - m) (ints (List.replicate m (-1 : Int) ++ List.replicate (n - m) (0 : Int))) ++ List.drop (m + (n - m)) (ints (List.replicate m (-1 : Int) ++ List.replicate (n - m) (0 : Int)))) by simp)
        let t21 : Tp pr := .i (wrap_i64 (a := (↑m : Int) + (↑(n - m) : Int)) (by omega) (by omega))
        exact .tp [.i (rfl : ((↑n : Int)) = _), t1, .m (rfl : true = true), .m (rfl : true = true), .m (rfl : true = true), t5, t6, t7, .m (rfl : true = true), .m (rfl : true = true), .m (rfl : true = true), t11, .c (rfl : ((0 : Nat)) = _), t13, .m (rfl : true = true), t15, t16, t17, t18, t19, .m (rfl : true = true), t21, .m (rfl : true = true), .m (rfl : true = true), .a (ih)] (by kernel_rfl)
theorem repeat_ev (n : Nat) (h : n ≤ 40) : Ev pr (.call 96 [isq [-1], i64 n] []) (.val (.vec 0 n 1 0 n) [.vec true 1 (ints (List.replicate n (-1)))]) := by
  have hm := mul_ev n h
  by_cases h0 : n = 0
  · subst h0
    have hL : Ev pr (.loop (lq pr 96 0) (at_ [(7, .vec 0 0 1 0 0), (8, i64 0)] [.vec true 1 []] 0)) (.exit 0 (at_ [(7, .vec 0 0 1 0 0)] [.vec true 1 []] 0)) := by
      let t0 : Tp pr := .i (rfl : ((0 : Int) : Int) = (0 : Int))
      exact .tp [t0, .b (rfl : false = false)] (by kernel_rfl)
    let t1 : Tp pr := .i (rfl : ((1 : Int) : Int) = (1 : Int))
    let t2 : Tp pr := .i (rfl : ((1 : Int) : Int) = (1 : Int))
    let t3 : Tp pr := .i (rfl : ((0 : Int) : Int) = (0 : Int))
    let t7 : Tp pr := .i (rfl : ((0 : Int) : Int) = (0 : Int))
    exact .tp [.b (rfl : false = false), t1, t2, t3, .a (hm), .b (rfl : false = false), .b (rfl : false = false), t7, .m (rfl : true = true), .c (rfl : ((0 : Nat)) = _), .n .crows (rfl : ([]) = _), .b (rfl : false = false), .m (rfl : true = true), .c (rfl : ((0 : Nat)) = _), .n .crows (rfl : ([]) = _), .a (hL)] (by kernel_rfl)
  · have h1 : 1 ≤ n := by omega
    have hL := repL_ev n h n 1 (by omega) (by omega) h1
    rw [show ints (List.replicate 1 (-1) ++ List.replicate (n - 1) 0) = [C.t (.int .i64 (-1))] :: List.replicate (n - 1) [C.t (.int .i64 0)] by simp [ints, intc]] at hL
    let t1 : Tp pr := .i (rfl : ((1 : Int) : Int) = (1 : Int))
    let t2 : Tp pr := .i (rfl : ((1 : Int) : Int) = (1 : Int))
    let t3 : Tp pr := .i (wrap_u64 (a := (↑n : Int)) (by omega) (by omega))
    let t6 : Tp pr := .b (show (decide ((↑n : Int) > (9223372036854775807 : Int))) = false by (simp; omega))
    let t7 : Tp pr := .i (wrap_i64 (a := (↑n : Int)) (by omega) (by omega))
    let t8 : Tp pr := .m (show (decide ((0 : Int) ≤ (↑n : Int) ∧ (↑n : Int) ≤ (↑n : Int) ∧ (↑n : Int) ≤ (4294967296 : Int))) = true by (simp; omega))
    let t9 : Tp pr := .c (show ((↑n : Int).toNat : Nat) = n by omega)
    let t10 : Tp pr := .n .crows (rfl : (List.replicate n [C.t (T.int IntKind.i64 (0 : Int))]) = _)
    let t11 : Tp pr := .b (show (decide ((1 : Nat) ≤ n)) = true by (simp; omega))
    let t12 : Tp pr := .m (show (decide ((List.replicate n [C.t (T.int IntKind.i64 (0 : Int))]).length = n ∧ (0 : Nat) + n ≤ n ∧ (1 : Nat) ≤ n)) = true by simp [*])
    let t14 : Tp pr := .n .crows (show (([].append (List.map (fun x => List.map C.t x) (List.map intt [(-1 : Int)]))).append (List.drop (1 : Nat) (List.replicate n [C.t (T.int IntKind.i64 (0 : Int))]))) = List.map C.t (intt (-1 : Int)) :: List.replicate (n - (1 : Nat)) [C.t (T.int IntKind.i64 (0 : Int))] by simp)
    exact .tp [.b (rfl : false = false), t1, t2, t3, .a (hm), .b (rfl : false = false), t6, t7, t8, t9, t10, t11, t12, .c (rfl : ((1 : Nat)) = _), t14, .a (hL)] (by kernel_rfl)
end Go.Ev
