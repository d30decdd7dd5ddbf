import Derived.Test.YtipolnpffmfmmabKFnChecked3
/- How many are on the stack at each step, and that code that is checked never faults, in plain words. -/
namespace Go.Ev
set_option linter.unusedVariables false
set_option linter.unusedSimpArgs false
set_option linter.unusedVariables false
set_option linter.unusedSimpArgs false
def bcAt (l : List Bc) (k : Int) : Bc := l.getD k.toNat bc0
def nextOf (x : Bc) (k : Int) : List Int := if x.op = 6 then [x.n] else if x.op = 7 then [k + 1, x.n] else if x.op = 9 then [] else [k + 1]
def da (o : List Int) (k : Int) : Int := o.getD k.toNat 0
def putN (N : Nat) (n : Int) : List Int → List Int → List Int → Option (List Int × List Int)
  | [], o, td => some (o, td)
  | t :: r, o, td => if t ≥ N ∨ (da o t ≥ 0 ∧ da o t ≠ n) then none else if da o t < 0 then putN N n r (o.set t.toNat n) (td ++ [t]) else putN N n r o td
def newN (l : List Bc) (o : List Int) (k : Int) : Int := da o k - mvOff (bcAt l k).op + mvOn (bcAt l k).op
def badN (l : List Bc) (o : List Int) (k : Int) : Bool := decide (da o k < mvOff (bcAt l k).op) || decide (newN l o k > 30)
def depGo (l : List Bc) : Nat → List Int → List Int → Option (List Int)
  | 0, o, _ => some o
  | f + 1, o, [] => some o
  | f + 1, o, k :: r => if badN l o k = true then none else
      match putN l.length (newN l o k) (nextOf (bcAt l k) k) o r with
      | none => none
      | some q => depGo l f q.1 q.2
def dep0 (n : Nat) : List Int := (List.replicate n (-1)).set 0 0
def depP (l : List Bc) : Option (List Int) := depGo l (2 * l.length + 2) (dep0 l.length) [0]
def neg1 (o : List Int) : Nat := o.countP fun x => decide (x < 0)
theorem da_set {o : List Int} {k : Int} (v : Int) {j : Int} (k0 : 0 ≤ k) (k1 : k < o.length) (j0 : 0 ≤ j) : da (o.set k.toNat v) j = if j = k then v else da o j := by
  unfold da
  rw [List.getD_eq_getElem?_getD, List.getD_eq_getElem?_getD, List.getElem?_set]
  by_cases c : j = k
  · subst c
    rw [if_pos rfl, if_pos (by omega), if_pos rfl]
    rfl
  · rw [if_neg (by omega), if_neg c]
theorem neg1_set : ∀ (o : List Int) (k : Nat) (v : Int), k < o.length → 0 ≤ v → o.getD k 0 < 0 → neg1 (o.set k v) + 1 = neg1 o
  | [], k, v, h, _, _ => by simp at h
  | x :: o, 0, v, h, hv, hx => by
    simp at hx
    simp [neg1, List.countP_cons, hx]
    omega
  | x :: o, k + 1, v, h, hv, hx => by
    have ih := neg1_set o k v (by simpa using h) hv (by simpa using hx)
    simp only [neg1, List.set_cons_succ, List.countP_cons] at ih ⊢
    omega
/-- What one step's going on does to what is known. -/
structure PutOk (N : Nat) (n : Int) (ts o td o' td' : List Int) : Prop where
  len : o'.length = o.length
  keep : ∀ i : Int, 0 ≤ i → 0 ≤ da o i → da o' i = da o i
  sub : ∀ k ∈ td, k ∈ td'
  new : ∀ k ∈ td', k ∈ td ∨ k ∈ ts
  hit : ∀ t ∈ ts, t < N ∧ da o' t = n
  fresh : ∀ i : Int, 0 ≤ i → 0 ≤ da o' i → 0 ≤ da o i ∨ (i ∈ td' ∧ da o' i = n)
  same : ∀ i : Int, 0 ≤ i → da o' i < 0 → da o' i = da o i
  mea : 2 * neg1 o' + td'.length ≤ 2 * neg1 o + td.length
theorem putN_ok (N : Nat) (n : Int) (h0 : 0 ≤ n) : ∀ (ts o td o' td' : List Int), o.length = N → (∀ t ∈ ts, 0 ≤ t) → putN N n ts o td = some (o', td') → PutOk N n ts o td o' td'
  | [], o, td, o', td', hl, ht, h => by
    simp only [putN, Option.some.injEq, Prod.mk.injEq] at h
    obtain ⟨rfl, rfl⟩ := h
    exact ⟨rfl, fun i _ _ => rfl, fun k hk => hk, fun k hk => .inl hk, by simp, fun i _ hi => .inl hi, fun i _ _ => rfl, Nat.le_refl _⟩
  | t :: r, o, td, o', td', hl, ht, h => by
    have t0 := ht t (by simp)
    have hr : ∀ t ∈ r, 0 ≤ t := fun x hx => ht x (by simp [hx])
    unfold putN at h
    split at h
    · cases h
    · rename_i c
      have c1 : t < N := by
        rcases Int.lt_or_le t N with h | h
        · exact h
        · exact absurd (.inl h) c
      split at h
      · rename_i d
        have ih := putN_ok N n h0 r (o.set t.toNat n) (td ++ [t]) o' td' (by simpa using hl) hr h
        have e : ∀ j : Int, 0 ≤ j → da (o.set t.toNat n) j = if j = t then n else da o j := fun j j0 => da_set n t0 (by omega) j0
        have hm := neg1_set o t.toNat n (by omega) h0 d
        have hth : da o' t = n := by rw [ih.keep t t0 (by rw [e t t0, if_pos rfl]; exact h0), e t t0, if_pos rfl]
        refine ⟨by simpa using ih.len, fun i i0 hi => ?_, fun k hk => ih.sub k (by simp [hk]), fun k hk => ?_, fun x hx => ?_, fun i i0 hi => ?_, fun i i0 hi => ?_, ?_⟩
        · have ne : i ≠ t := fun e => by subst e; omega
          rw [ih.keep i i0 (by rw [e i i0, if_neg ne]; exact hi), e i i0, if_neg ne]
        · rcases ih.new k hk with h | h
          · rcases List.mem_append.1 h with h | h
            · exact .inl h
            · obtain rfl := List.mem_singleton.1 h
              exact .inr (by simp)
          · exact .inr (by simp [h])
        · rcases List.mem_cons.1 hx with rfl | hx
          · exact ⟨c1, hth⟩
          · exact ih.hit x hx
        · by_cases ne : i = t
          · subst ne
            exact .inr ⟨ih.sub i (by simp), hth⟩
          · have := ih.fresh i i0 hi
            rwa [e i i0, if_neg ne] at this
        · have := ih.same i i0 hi
          by_cases ne : i = t
          · subst ne
            rw [hth] at hi
            omega
          · rwa [e i i0, if_neg ne] at this
        · have := ih.mea
          simp only [List.length_append, List.length_singleton] at this
          omega
      · rename_i d
        have hdn : da o t = n := Decidable.byContradiction fun hne => c (.inr ⟨by omega, hne⟩)
        have ih := putN_ok N n h0 r o td o' td' hl hr h
        refine ⟨ih.len, ih.keep, ih.sub, fun k hk => ?_, fun x hx => ?_, ih.fresh, ih.same, ih.mea⟩
        · rcases ih.new k hk with h | h
          · exact .inl h
          · exact .inr (by simp [h])
        · rcases List.mem_cons.1 hx with rfl | hx
          · exact ⟨c1, by rw [ih.keep x t0 (by omega), hdn]⟩
          · exact ih.hit x hx
theorem mv_all (l : List Bc) (o : List Int) (k : Int) (h : badN l o k = false) : 0 ≤ newN l o k ∧ newN l o k ≤ 30 ∧ mvOff (bcAt l k).op ≤ da o k := by
  have := mv_bd (bcAt l k).op
  simp only [badN, Bool.or_eq_false_iff, decide_eq_false_iff_not] at h
  unfold newN at *
  omega
theorem next_nn {l : List Bc} (hg : goodCode l = true) {k : Int} (h0 : 0 ≤ k) (h1 : k < l.length) : ∀ t ∈ nextOf (bcAt l k) k, 0 ≤ t := fun t ht => by
  have hk : k.toNat < l.length := by omega
  have hx : bcAt l k ∈ l := by
    unfold bcAt
    rw [List.getD_eq_getElem?_getD, List.getElem?_eq_getElem hk]
    exact List.getElem_mem hk
  have hb := goodCode_mem hg hx
  generalize bcAt l k = x at *
  unfold nextOf at ht
  by_cases c6 : x.op = 6
  · rw [if_pos c6] at ht
    simp only [bcOk, c6] at hb
    simp at ht
    grind
  · rw [if_neg c6] at ht
    by_cases c7 : x.op = 7
    · rw [if_pos c7] at ht
      simp only [bcOk, c7] at hb
      simp at ht
      grind
    · rw [if_neg c7] at ht
      split at ht
      · simp at ht
      · simp at ht; omega
structure StepOk (l : List Bc) (o : List Int) (i : Int) : Prop where
  ok : badN l o i = false
  to_ : ∀ t ∈ nextOf (bcAt l i) i, t < l.length ∧ da o t = newN l o i
structure DInv (l : List Bc) (o td : List Int) : Prop where
  len : o.length = l.length
  zero : da o 0 = 0
  bd : ∀ i : Int, 0 ≤ i → i < l.length → -1 ≤ da o i ∧ da o i ≤ 30
  tds : ∀ k ∈ td, (0 ≤ k ∧ k < l.length) ∧ 0 ≤ da o k
  dn : ∀ i : Int, 0 ≤ i → i < l.length → 0 ≤ da o i → i ∈ td ∨ StepOk l o i
theorem dInv_step {l : List Bc} {o r o' td' : List Int} {k : Int} (hg : goodCode l = true) (h : DInv l o (k :: r)) (hb : badN l o k = false)
    (hp : putN l.length (newN l o k) (nextOf (bcAt l k) k) o r = some (o', td')) : DInv l o' td' ∧ 2 * neg1 o' + td'.length ≤ 2 * neg1 o + r.length := by
  obtain ⟨⟨k0, k1⟩, k2⟩ := h.tds k (by simp)
  obtain ⟨n0, n1, n2⟩ := mv_all l o k hb
  have hnn := next_nn hg k0 k1
  have P := putN_ok l.length (newN l o k) n0 _ o r o' td' h.len hnn hp
  have e : ∀ i : Int, 0 ≤ i → 0 ≤ da o i → da o' i = da o i := P.keep
  have eN : ∀ i : Int, 0 ≤ i → 0 ≤ da o i → newN l o' i = newN l o i ∧ badN l o' i = badN l o i := fun i i0 hi => by
    have := e i i0 hi
    unfold badN newN
    rw [this]
    exact ⟨rfl, rfl⟩
  refine ⟨⟨P.len.trans h.len, by rw [e 0 (Int.le_refl _) (by rw [h.zero]; exact Int.le_refl _), h.zero], fun i i0 i1 => ?_, fun j hj => ?_, fun i i0 i1 hi => ?_⟩, P.mea⟩
  · have hbd := h.bd i i0 i1
    rcases Int.lt_or_le (da o' i) 0 with c | c
    · rw [P.same i i0 c]; exact hbd
    · rcases P.fresh i i0 c with f | ⟨_, f⟩
      · rw [e i i0 f]; exact hbd
      · rw [f]; omega
  · rcases P.new j hj with hj | hj
    · have := h.tds j (by simp [hj])
      exact ⟨this.1, by rw [e j this.1.1 this.2]; exact this.2⟩
    · have := P.hit j hj
      exact ⟨⟨hnn j hj, this.1⟩, by rw [this.2]; exact n0⟩
  · rcases P.fresh i i0 hi with f | ⟨f, _⟩
    · by_cases ck : i = k
      · subst ck
        right
        have := eN i i0 f
        exact ⟨by rw [this.2]; exact hb, fun t ht => by rw [this.1]; exact P.hit t ht⟩
      · rcases h.dn i i0 i1 f with g | g
        · rcases List.mem_cons.1 g with g | g
          · exact absurd g ck
          · exact .inl (P.sub i g)
        · right
          have q := eN i i0 f
          refine ⟨by rw [q.2]; exact g.ok, fun t ht => ?_⟩
          have w := g.to_ t ht
          have wn := mv_all l o i g.ok
          exact ⟨w.1, by rw [q.1, ← w.2, e t (next_nn hg i0 i1 t ht) (by omega)]⟩
    · exact .inl f
structure Checked (l : List Bc) (o : List Int) : Prop where
  len : o.length = l.length
  zero : da o 0 = 0
  bd : ∀ i : Int, 0 ≤ i → i < l.length → -1 ≤ da o i ∧ da o i ≤ 30
  dn : ∀ i : Int, 0 ≤ i → i < l.length → 0 ≤ da o i → StepOk l o i
theorem depGo_ok {l : List Bc} (hg : goodCode l = true) : ∀ (f : Nat) (o td r : List Int), DInv l o td → 2 * neg1 o + td.length < f → depGo l f o td = some r → Checked l r
  | 0, o, td, r, h, hf, e => by omega
  | f + 1, o, [], r, h, hf, e => by
    simp only [depGo, Option.some.injEq] at e
    subst e
    exact ⟨h.len, h.zero, h.bd, fun i a b c => (h.dn i a b c).resolve_left (by simp)⟩
  | f + 1, o, k :: td, r, h, hf, e => by
    unfold depGo at e
    cases hb : badN l o k
    · rw [hb, if_neg (by simp)] at e
      cases hp : putN l.length (newN l o k) (nextOf (bcAt l k) k) o td with
      | none => rw [hp] at e; cases e
      | some q =>
        rw [hp] at e
        have st := dInv_step hg h hb (o' := q.1) (td' := q.2) hp
        simp only [List.length_cons] at hf
        exact depGo_ok hg f q.1 q.2 r st.1 (by omega) e
    · rw [hb, if_pos rfl] at e
      cases e
theorem dep0_da {n : Nat} (hn : 1 ≤ n) {i : Int} (h0 : 0 ≤ i) (h1 : i < n) : da (dep0 n) i = if i = 0 then 0 else -1 := by
  unfold dep0
  have := da_set (o := List.replicate n (-1)) (k := 0) 0 (j := i) (Int.le_refl _) (by simp; omega) h0
  rw [show (0 : Int).toNat = 0 from rfl] at this
  rw [this]
  split
  · rfl
  · unfold da
    rw [List.getD_eq_getElem?_getD, List.getElem?_replicate, if_pos (by omega)]
    rfl
theorem dep0_neg {n : Nat} : neg1 (dep0 n) ≤ n := by
  have := List.countP_le_length (p := fun x : Int => decide (x < 0)) (l := dep0 n)
  simpa [dep0, neg1] using this
theorem dInv0 {l : List Bc} (hg : goodCode l = true) : DInv l (dep0 l.length) [0] := by
  have hl := (goodCode_len hg).1
  refine ⟨by simp [dep0], by rw [dep0_da hl (Int.le_refl _) (by omega)]; rfl, fun i h0 h1 => ?_, fun k hk => ?_, fun i h0 h1 hi => ?_⟩
  · rw [dep0_da hl h0 h1]; split <;> omega
  · obtain rfl := List.mem_singleton.1 hk
    exact ⟨⟨Int.le_refl _, by omega⟩, by rw [dep0_da hl (Int.le_refl _) (by omega)]; simp⟩
  · rw [dep0_da hl h0 h1] at hi
    by_cases c : i = 0
    · subst c; exact .inl (by simp)
    · rw [if_neg c] at hi; omega
theorem dep_ok {l : List Bc} {o : List Int} (hg : goodCode l = true) (h : depP l = some o) : Checked l o := by
  have := dep0_neg (n := l.length)
  exact depGo_ok hg _ _ _ _ (dInv0 hg) (by simp only [List.length_singleton]; omega) h
/-! Checked code never faults. -/
theorem two2_not5 (l : List UInt8) (a b : Int) : endOf (two2 l a b).2 ≠ 5 := by
  rcases two2_code l a b with h | h | h <;> rw [h] <;> decide
theorem stepX_chk {x : Bc} {m : Int} {lo st jk : List Int} {k : Int} (hb : bcOk x m = true) (h1 : mvOff x.op ≤ st.length) (h2 : (st.length : Int) - mvOff x.op + mvOn x.op ≤ 30) :
    (stepX x lo st jk k).e ≠ 5 ∧ ((stepX x lo st jk k).e = 0 → ((stepX x lo st jk k).st.length : Int) = st.length - mvOff x.op + mvOn x.op ∧ (stepX x lo st jk k).at_ ∈ nextOf x k) := by
  have hc : ¬ ((st.length : Int) < mvOff x.op ∨ st.length - mvOff x.op + mvOn x.op > 30) := by omega
  unfold stepX
  rw [if_neg hc]
  clear hc
  rcases bcOk_op hb with e | e | e | e | e | e | e | e | e
  · simp [e, mvOff, mvOn, nextOf]
  · simp [e, mvOff, mvOn, nextOf]
  · cases st with
    | nil => simp [e, mvOff] at h1
    | cons a r => simp [e, mvOff, mvOn, nextOf]
  · cases st with
    | nil => simp [e, mvOff] at h1
    | cons a r => cases r with
      | nil => simp [e, mvOff] at h1
      | cons b q =>
        have := two2_not5 x.text.toList b a
        simp [e, mvOff, mvOn, nextOf, this]
        intro _
        omega
  · cases st with
    | nil => simp [e, mvOff] at h1
    | cons a r => simp [e, mvOff, mvOn, nextOf]
  · simp [e, mvOff, mvOn, nextOf]
  · cases st with
    | nil => simp [e, mvOff] at h1
    | cons a r =>
      simp [e, mvOff, mvOn, nextOf]
      by_cases ha : a = 0
      · exact .inr fun h => absurd ha h
      · exact .inl fun h => absurd h ha
  · cases st with
    | nil => simp [e, mvOff] at h1
    | cons a r => simp [e, mvOff, mvOn, nextOf]
  · simp [e, mvOff, mvOn, nextOf]
theorem stepI_chk {l : List Bc} {o lo st jk : List Int} {k : Int} (hg : goodCode l = true) (hc : Checked l o) (k0 : 0 ≤ k) (k1 : k < l.length) (hk : da o k = st.length) :
    (stepI l lo st jk k).e ≠ 5 ∧ ((stepI l lo st jk k).e = 0 → (0 ≤ (stepI l lo st jk k).at_ ∧ (stepI l lo st jk k).at_ < l.length) ∧ da o (stepI l lo st jk k).at_ = (stepI l lo st jk k).st.length) := by
  have hk2 : k.toNat < l.length := by omega
  have hS := hc.dn k k0 k1 (by omega)
  have hm := mv_all l o k hS.ok
  have hnn := next_nn hg k0 k1
  have hx : bcAt l k = l[k.toNat] := by
    unfold bcAt
    rw [List.getD_eq_getElem?_getD, List.getElem?_eq_getElem hk2]
    rfl
  have hT := hS.to_
  unfold newN at hm hT
  rw [hx, hk] at hm
  rw [hx] at hnn hT
  rw [hk] at hT
  have hb := goodCode_mem hg (List.getElem_mem hk2)
  unfold stepI
  rw [List.getElem?_eq_getElem hk2]
  generalize l[k.toNat] = x at *
  dsimp only
  have hs := stepX_chk (lo := lo) (jk := jk) (k := k) hb hm.2.2 hm.2.1
  refine ⟨hs.1, fun e => ?_⟩
  obtain ⟨e1, e2⟩ := hs.2 e
  have q := hT _ e2
  exact ⟨⟨hnn _ e2, q.1⟩, by rw [q.2, e1]⟩
theorem runA_chk {l : List Bc} {o : List Int} (hg : goodCode l = true) (hc : Checked l o) : ∀ (n : Nat) (d : Int) (lo st jk : List Int) (k : Int), 0 ≤ k → k < l.length → da o k = st.length →
    (runA l n d lo st jk k).1 ≠ 5 ∧ (runA l n d lo st jk k).2.2 ≤ d + n
  | 0, d, lo, st, jk, k, k0, k1, hk => by
    unfold runA
    exact ⟨by dsimp only; omega, by dsimp only; omega⟩
  | n + 1, d, lo, st, jk, k, k0, k1, hk => by
    have h := stepI_chk (lo := lo) (jk := jk) hg hc k0 k1 hk
    unfold runA
    by_cases e : (stepI l lo st jk k).e = 0
    · rw [if_pos e]
      obtain ⟨⟨a, b⟩, c⟩ := h.2 e
      have ih := runA_chk hg hc n (d + 1) (stepI l lo st jk k).lo (stepI l lo st jk k).st (stepI l lo st jk k).jk _ a b c
      exact ⟨ih.1, by have := ih.2; omega⟩
    · rw [if_neg e]
      split
      · exact ⟨by dsimp only; omega, by dsimp only; omega⟩
      · exact ⟨h.1, by dsimp only; omega⟩
/-- The most of numbers, none of them below 0. -/
def mostI (o : List Int) : Int := o.foldl (fun m n => if n > m then n else m) 0
theorem foldl_most : ∀ (o : List Int) (m : Int), m ≤ o.foldl (fun m n => if n > m then n else m) m ∧ (∀ x ∈ o, x ≤ o.foldl (fun m n => if n > m then n else m) m) ∧ (o.foldl (fun m n => if n > m then n else m) m = m ∨ o.foldl (fun m n => if n > m then n else m) m ∈ o)
  | [], m => ⟨Int.le_refl _, by simp, .inl rfl⟩
  | y :: o, m => by
    rw [List.foldl_cons]
    obtain ⟨a, b, c⟩ := foldl_most o (if y > m then y else m)
    generalize o.foldl (fun m n => if n > m then n else m) (if y > m then y else m) = z at *
    refine ⟨by split at a <;> omega, fun x hx => ?_, ?_⟩
    · rcases List.mem_cons.1 hx with rfl | hx
      · split at a <;> omega
      · exact b x hx
    · rcases c with c | c
      · split at c
        · exact .inr (by rw [c]; simp)
        · exact .inl c
      · exact .inr (by simp [c])
theorem da_mem {l : List Bc} {o : List Int} (h : Checked l o) : ∀ x ∈ o, -1 ≤ x ∧ x ≤ 30 := fun x hx => by
  obtain ⟨i, hi, rfl⟩ := List.mem_iff_getElem.1 hx
  have := h.bd (i : Int) (by omega) (by have := h.len; omega)
  simpa [da, List.getD_eq_getElem?_getD, hi] using this
theorem mostI_bd {l : List Bc} {o : List Int} (h : Checked l o) : (0 ≤ mostI o ∧ mostI o ≤ 30) ∧ ∀ x ∈ o, x ≤ mostI o ∧ -1 ≤ x := by
  obtain ⟨a, b, c⟩ := foldl_most o 0
  have hm := da_mem h
  refine ⟨⟨a, ?_⟩, fun x hx => ⟨b x hx, (hm x hx).1⟩⟩
  unfold mostI
  rcases c with c | c
  · rw [c]; omega
  · exact (hm _ c).2
end Go.Ev

/- The evaluator's policies and annotations of this program's functions: printed by a program of mine. -/
namespace Go.Ev
set_option linter.unusedVariables false
set_option linter.unusedSimpArgs false
open Go.Proofs
def prPrim : FuncId → Option (List V → List Ob → Option (V × List Ob)) := fun f => if f = 87 then some clonePrim else none
def prPol : FuncId → Pol
  | 2 => { modes := [], own := false, nest := false, frz := [] }
  | 3 => { modes := [.borrow, .borrow], own := false, nest := false, frz := [] }
  | 4 => { modes := [.borrow, .borrow], own := false, nest := false, frz := [] }
  | 5 => { modes := [.borrow], own := false, nest := false, frz := [] }
  | 6 => { modes := [.borrow, .borrow], own := false, nest := false, frz := [] }
  | 7 => { modes := [.borrow], own := false, nest := false, frz := [] }
  | 8 => { modes := [.borrow, .borrow], own := false, nest := false, frz := [] }
  | 9 => { modes := [.move], own := false, nest := false, frz := [], soft := [[2], [0]] }
  | 10 => { modes := [.borrow, .borrow], own := true, nest := false, frz := [] }
  | 11 => { modes := [.move, .move], own := false, nest := false, frz := [], soft := [[1], [1], [0]] }
  | 12 => { modes := [.borrow, .borrow], own := false, nest := false, frz := [] }
  | 13 => { modes := [.borrow, .borrow], own := false, nest := false, frz := [] }
  | 14 => { modes := [.borrow, .borrow], own := false, nest := false, frz := [] }
  | 15 => { modes := [.borrow], own := false, nest := false, frz := [] }
  | 16 => { modes := [.move], own := false, nest := false, frz := [], soft := [[2]] }
  | 17 => { modes := [.borrow], own := true, nest := false, frz := [] }
  | 18 => { modes := [.move], own := false, nest := false, frz := [], soft := [[1], [0], [0]] }
  | 19 => { modes := [.move], own := false, nest := false, frz := [] }
  | 20 => { modes := [.borrow], own := false, nest := false, frz := [] }
  | 21 => { modes := [.move], own := false, nest := false, frz := [], soft := [[2], [1]] }
  | 22 => { modes := [.move, .move], own := false, nest := false, frz := [] }
  | 23 => { modes := [.move], own := false, nest := false, frz := [], soft := [[2], [1], [0]] }
  | 24 => { modes := [.borrow, .borrow, .borrow], own := false, nest := false, frz := [] }
  | 25 => { modes := [.move, .move, .move], own := false, nest := false, frz := [] }
  | 26 => { modes := [.borrow, .borrow], own := false, nest := false, frz := [] }
  | 27 => { modes := [.move], own := false, nest := false, frz := [] }
  | 28 => { modes := [.borrow], own := true, nest := false, frz := [] }
  | 29 => { modes := [.borrow], own := false, nest := false, frz := [] }
  | 30 => { modes := [.borrow, .borrow], own := false, nest := false, frz := [] }
  | 31 => { modes := [.move], own := false, nest := false, frz := [], soft := [[3]] }
  | 32 => { modes := [.borrow], own := false, nest := false, frz := [] }
  | 33 => { modes := [.move], own := false, nest := false, frz := [] }
  | 34 => { modes := [.borrow], own := false, nest := false, frz := [], soft := [[3], [0]] }
  | 35 => { modes := [.borrow, .borrow], own := false, nest := false, frz := [] }
  | 36 => { modes := [.move], own := false, nest := false, frz := [] }
  | 37 => { modes := [.move], own := false, nest := false, frz := [], soft := [[3], [0]] }
  | 38 => { modes := [.move], own := false, nest := false, frz := [], soft := [[1], [0], [0]] }
  | 39 => { modes := [.borrow], own := false, nest := false, frz := [], soft := [[1], [0], [0]] }
  | 40 => { modes := [.borrow, .borrow], own := false, nest := false, frz := [] }
  | 41 => { modes := [.pass, .pass], own := false, nest := false, frz := [] }
  | 42 => { modes := [.pass, .pass], own := false, nest := false, frz := [] }
  | 43 => { modes := [.borrow, .borrow], own := false, nest := false, frz := [] }
  | 44 => { modes := [.move], own := false, nest := false, frz := [], soft := [[3], [1], [0]] }
  | 45 => { modes := [.borrow, .borrow, .borrow], own := false, nest := false, frz := [] }
  | 46 => { modes := [.move, .move, .move], own := false, nest := false, frz := [] }
  | 47 => { modes := [.borrow], own := false, nest := false, frz := [] }
  | 48 => { modes := [.move], own := false, nest := false, frz := [], soft := [[3]] }
  | 49 => { modes := [.pass], own := false, nest := false, frz := [], soft := [[2]] }
  | 50 => { modes := [.pass, .move], own := false, nest := false, frz := [] }
  | 51 => { modes := [.borrow, .borrow, .borrow], own := false, nest := false, frz := [] }
  | 52 => { modes := [.borrow], own := true, nest := false, frz := [] }
  | 53 => { modes := [.borrow], own := false, nest := false, frz := [], soft := [[1]] }
  | 54 => { modes := [.borrow, .borrow, .borrow], own := false, nest := false, frz := [] }
  | 55 => { modes := [.borrow, .borrow], own := false, nest := false, frz := [] }
  | 56 => { modes := [.move], own := false, nest := false, frz := [] }
  | 57 => { modes := [.borrow, .borrow, .borrow], own := false, nest := false, frz := [] }
  | 58 => { modes := [.borrow], own := true, nest := false, frz := [] }
  | 59 => { modes := [.borrow], own := false, nest := false, frz := [], soft := [[1]] }
  | 60 => { modes := [.borrow, .borrow, .borrow], own := false, nest := false, frz := [] }
  | 61 => { modes := [.borrow, .borrow], own := false, nest := false, frz := [], soft := [[1]] }
  | 62 => { modes := [.borrow, .borrow], own := false, nest := false, frz := [] }
  | 63 => { modes := [.move], own := false, nest := false, frz := [], soft := [[2]] }
  | 64 => { modes := [.borrow, .borrow], own := false, nest := false, frz := [] }
  | 65 => { modes := [.borrow], own := false, nest := false, frz := [] }
  | 66 => { modes := [.pass], own := false, nest := false, frz := [], soft := [[2], [1]] }
  | 67 => { modes := [.borrow, .borrow], own := false, nest := false, frz := [] }
  | 68 => { modes := [.borrow, .borrow], own := false, nest := false, frz := [] }
  | 69 => { modes := [.borrow], own := false, nest := false, frz := [] }
  | 70 => { modes := [.borrow], own := false, nest := false, frz := [] }
  | 71 => { modes := [.borrow, .borrow], own := false, nest := false, frz := [] }
  | 72 => { modes := [.move], own := false, nest := false, frz := [], soft := [[3]] }
  | 73 => { modes := [.borrow, .borrow], own := false, nest := false, frz := [] }
  | 74 => { modes := [], own := false, nest := false, frz := [], soft := [[1]] }
  | 75 => { modes := [.move], own := false, nest := false, frz := [] }
  | 76 => { modes := [.borrow], own := false, nest := false, frz := [] }
  | 77 => { modes := [.borrow], own := false, nest := false, frz := [] }
  | 78 => { modes := [.pass], own := false, nest := false, frz := [], soft := [[3]] }
  | 79 => { modes := [.pass, .borrow], own := false, nest := false, frz := [] }
  | 80 => { modes := [.borrow, .borrow, .borrow], own := false, nest := false, frz := [31] }
  | 81 => { modes := [], own := false, nest := false, frz := [], soft := [[1]] }
  | 82 => { modes := [.borrow], own := false, nest := false, frz := [], soft := [[1], [0]] }
  | 83 => { modes := [.borrow], own := false, nest := false, frz := [], soft := [[1], [0]] }
  | 84 => { modes := [.pass], own := false, nest := false, frz := [12] }
  | 85 => { modes := [.pass], own := false, nest := false, frz := [], soft := [[1]] }
  | 86 => { modes := [.borrow], own := false, nest := false, frz := [] }
  | 87 => { modes := [.borrow], own := true, nest := false, frz := [] }
  | 88 => { modes := [.pass], own := false, nest := false, frz := [] }
  | 89 => { modes := [.pass], own := false, nest := false, frz := [] }
  | 90 => { modes := [.borrow], own := false, nest := false, frz := [] }
  | 91 => { modes := [.borrow, .borrow, .borrow], own := false, nest := false, frz := [] }
  | 92 => { modes := [.borrow, .borrow], own := false, nest := false, frz := [] }
  | 93 => { modes := [.borrow], own := false, nest := false, frz := [] }
  | 94 => { modes := [.borrow, .borrow], own := false, nest := false, frz := [] }
  | 95 => { modes := [.pass, .borrow], own := false, nest := false, frz := [] }
  | 96 => { modes := [.borrow, .borrow], own := true, nest := false, frz := [] }
  | 97 => { modes := [.pass, .borrow], own := false, nest := false, frz := [] }
  | 98 => { modes := [.borrow, .borrow], own := false, nest := false, frz := [] }
  | 99 => { modes := [.borrow, .borrow], own := false, nest := false, frz := [] }
  | 100 => { modes := [.borrow, .borrow], own := false, nest := false, frz := [] }
  | 101 => { modes := [.borrow, .borrow], own := false, nest := false, frz := [] }
  | 102 => { modes := [.borrow], own := false, nest := false, frz := [] }
  | 103 => { modes := [.borrow], own := false, nest := false, frz := [] }
  | 104 => { modes := [.pass, .move], own := false, nest := false, frz := [] }
  | 105 => { modes := [.borrow, .borrow], own := false, nest := false, frz := [], soft := [[1]] }
  | 106 => { modes := [.borrow], own := false, nest := false, frz := [] }
  | 107 => { modes := [.borrow, .borrow], own := false, nest := false, frz := [], soft := [[1]] }
  | 108 => { modes := [.borrow, .borrow], own := false, nest := false, frz := [] }
  | 109 => { modes := [.borrow], own := false, nest := false, frz := [] }
  | 110 => { modes := [.pass, .borrow], own := false, nest := false, frz := [] }
  | 111 => { modes := [.borrow], own := false, nest := false, frz := [] }
  | 112 => { modes := [.pass, .borrow], own := false, nest := false, frz := [] }
  | 113 => { modes := [.borrow, .borrow], own := false, nest := false, frz := [] }
  | 114 => { modes := [.borrow], own := false, nest := false, frz := [] }
  | 115 => { modes := [.pass], own := false, nest := false, frz := [] }
  | 116 => { modes := [.borrow, .borrow], own := false, nest := false, frz := [] }
  | 117 => { modes := [.pass, .borrow, .borrow], own := false, nest := false, frz := [] }
  | 118 => { modes := [.borrow], own := false, nest := false, frz := [] }
  | 119 => { modes := [.borrow], own := false, nest := false, frz := [] }
  | 120 => { modes := [.borrow, .borrow], own := false, nest := false, frz := [] }
  | 121 => { modes := [.borrow, .borrow, .borrow], own := false, nest := false, frz := [] }
  | 122 => { modes := [.borrow], own := false, nest := false, frz := [] }
  | 123 => { modes := [.borrow], own := false, nest := false, frz := [] }
  | 124 => { modes := [.borrow, .borrow, .borrow], own := false, nest := false, frz := [] }
  | 125 => { modes := [.borrow], own := false, nest := false, frz := [] }
  | 126 => { modes := [.borrow, .borrow], own := false, nest := false, frz := [] }
  | 127 => { modes := [.borrow, .borrow], own := false, nest := false, frz := [] }
  | 128 => { modes := [.pass, .borrow, .borrow, .borrow], own := false, nest := false, frz := [] }
  | 129 => { modes := [.pass, .borrow, .borrow, .borrow, .borrow], own := false, nest := false, frz := [] }
  | 130 => { modes := [.borrow], own := false, nest := false, frz := [] }
  | 131 => { modes := [.borrow], own := false, nest := false, frz := [] }
  | 132 => { modes := [.pass, .borrow, .borrow, .borrow, .borrow], own := false, nest := false, frz := [] }
  | 133 => { modes := [.pass, .borrow, .borrow, .borrow, .borrow], own := false, nest := false, frz := [] }
  | _ => {}
def prAnn : FuncId → Ann
  | 2 => .n
  | 3 => (.seq .n (.seq (.seq .n (.cond (.seq .n .n) .n)) (.seq .n (.seq .n (.seq .n (.seq (.seq .n (.cond (.seq .n .n) .n)) (.seq (.seq .n (.cond (.seq .n .n) .n)) (.seq .n (.seq .n (.seq (.seq .n (.block (.loop [1, 5, 6, 7, 8, 13, 14, 70, 71, 72] [1, 5, 6, 13, 14] [4] [(13, none, 2), (14, none, 1)] (.seq .n (.seq (.cond .n .n) (.seq (.block (.seq .n (.seq (.seq .n (.cond (.seq .n .n) .n)) (.seq .n (.cond (.seq .n .n) .n))))) (.cut [1, 5, 6, 7, 8, 13, 14, 70, 71, 72] .n))))))) (.cut [1, 5, 6, 13, 14] (.seq .n (.seq (.seq .n (.cond (.seq .n .n) .n)) (.seq .n (.seq (.seq .n (.block (.loop [1, 6, 13, 19, 123, 124, 125] [6, 13, 19] [4] [(19, none, 2)] (.seq .n (.seq (.cond .n .n) (.seq (.block (.seq .n (.seq .n (.cond .n .n)))) (.cut [1, 6, 13, 19, 123, 124, 125] .n))))))) (.cut [6, 13, 19] (.seq .n (.seq .n .n))))))))))))))))))
  | 4 => (.seq .n (.seq (.seq .n (.cond (.seq .n .n) .n)) (.seq .n (.seq .n (.seq .n (.seq .n (.seq .n (.seq (.seq .n (.cond (.seq .n .n) .n)) (.seq (.seq .n (.cond (.seq .n (.seq .n (.seq (.seq .n (.block (.loop [1, 7, 12, 13, 18, 19, 20, 116, 117, 118] [1, 7, 12, 18, 19, 20] [4] [] (.seq .n (.seq (.cond .n .n) (.seq (.block (.seq .n (.seq .n (.cond .n .n)))) (.cut [1, 7, 12, 13, 18, 19, 20, 116, 117, 118] .n))))))) (.cut [1, 7, 12, 18, 19, 20] (.seq .n (.cond (.seq .n .n) .n)))))) .n)) (.cut [1] (.seq .n (.seq .n (.seq .n (.seq .n (.seq .n (.seq .n (.seq (.seq .n (.cond (.seq .n .n) .n)) (.seq (.seq .n (.cond (.seq .n (.seq .n (.seq (.seq .n (.block (.loop [36, 38, 39, 221, 222, 223] [36, 38, 39] [4] [(39, none, 1)] (.seq .n (.seq (.cond .n .n) (.seq (.block (.seq .n (.seq .n (.cond .n .n)))) (.cut [36, 38, 39, 221, 222, 223] .n))))))) (.cut [36, 38, 39] (.seq .n (.cond (.seq .n .n) .n)))))) .n)) (.cut [] (.seq .n .n))))))))))))))))))))
  | 5 => (.seq .n (.seq .n (.seq .n (.seq (.seq .n (.cond (.seq .n .n) .n)) (.seq .n (.seq .n (.seq .n (.seq (.seq .n (.cond (.seq .n .n) .n)) (.seq (.seq .n (.cond (.seq .n .n) .n)) (.seq .n .n))))))))))
  | 6 => (.seq .n (.seq (.seq .n (.cond (.seq .n .n) .n)) (.seq .n (.seq .n (.seq .n (.seq (.seq .n (.cond (.seq .n .n) .n)) (.seq (.seq .n (.cond (.seq .n (.seq .n (.cond (.seq .n .n) .n))) .n)) (.cut [1] (.seq .n (.seq .n (.seq .n (.seq (.seq .n (.cond (.seq .n .n) .n)) (.seq .n (.seq .n .n))))))))))))))
  | 7 => (.seq .n (.seq .n (.seq .n (.seq (.seq .n (.cond (.seq .n .n) .n)) (.seq .n (.seq .n (.seq .n (.seq (.seq .n (.cond (.seq .n .n) .n)) (.seq (.seq .n (.cond (.seq .n .n) .n)) (.seq .n (.seq .n (.seq (.seq .n (.cond (.seq .n .n) .n)) (.seq .n (.seq .n (.seq .n (.seq .n (.seq (.seq .n (.cond (.seq .n .n) .n)) (.seq (.seq .n (.cond (.seq .n .n) .n)) (.seq .n (.seq (.seq .n (.cond (.seq .n .n) .n)) (.seq .n (.seq .n (.seq (.seq .n (.cond (.seq .n .n) .n)) (.seq (.seq .n (.cond (.seq .n .n) .n)) (.seq .n .n)))))))))))))))))))))))))
  | 8 => (.seq .n (.seq (.seq .n (.cond (.seq .n .n) .n)) (.seq .n (.seq .n (.seq .n (.seq .n (.seq .n (.seq (.seq .n (.cond (.seq .n .n) .n)) (.seq (.seq .n (.cond (.seq .n .n) .n)) (.seq (.seq .n (.cond (.seq .n (.seq (.seq .n (.cond (.seq .n .n) .n)) (.seq .n (.block (.loop [1, 22, 154, 155, 156] [1] [4] [] (.seq .n (.seq (.cond .n .n) (.seq (.block (.seq .n (.seq .n (.cond (.seq .n .n) .n)))) .n)))))))) .n)) (.cut [1] (.seq .n (.seq .n (.seq .n (.seq .n .n)))))))))))))))
  | 9 => (.seq .n (.seq .n (.seq .n .n)))
  | 10 => (.seq .n (.seq (.seq .n (.cond (.seq .n .n) .n)) (.seq .n (.seq (.seq .n (.block (.loop [0, 1, 7, 29, 30, 31] [7] [4, 5, 6] [] (.seq .n (.seq (.cond .n .n) (.seq (.block (.seq .n (.seq (.seq .n (.seq .n (.cond (.seq .n .n) .n))) (.seq .n (.seq (.seq .n (.block (.loop [0, 1, 7, 9, 11, 29, 30, 31, 51, 52, 53] [0, 1, 7, 9, 11, 29, 30, 31] [4, 5, 6] [] (.seq .n (.seq (.cond .n .n) (.seq (.block (.seq .n (.seq .n (.cond .n .n)))) (.cut [0, 1, 7, 9, 11, 29, 30, 31, 51, 52, 53] .n))))))) (.cut [0, 1, 7, 9, 11, 29, 30, 31] (.seq .n (.cond .n .n)))))))) (.cut [0, 1, 7, 29, 30, 31] .n))))))) (.cut [7] (.seq .n (.seq (.seq .n (.block (.loop [7, 14, 99, 100, 101] [7, 14] [4, 5, 6] [(14, none, 1)] (.seq .n (.seq (.cond .n .n) (.seq (.block (.seq .n (.seq .n (.cond .n .n)))) (.cut [7, 14, 99, 100, 101] .n))))))) (.cut [7, 14] (.seq .n .n)))))))))
  | 11 => (.seq .n (.seq (.seq .n (.cond (.seq .n .n) .n)) (.seq .n (.seq .n (.seq (.seq .n (.block (.loop [0, 1, 7, 8, 27, 28, 29] [7, 8] [4, 5, 6] [] (.seq .n (.seq (.cond .n .n) (.seq (.block (.seq .n (.seq .n (.seq (.seq .n (.cond (.seq .n .n) .n)) (.seq .n (.seq (.seq .n (.block (.loop [0, 1, 7, 8, 10, 12, 27, 28, 29, 49, 50, 51] [0, 1, 7, 8, 10, 12, 27, 28, 29] [4, 5, 6] [] (.seq .n (.seq (.cond .n .n) (.seq (.block (.seq .n (.seq .n (.cond .n .n)))) (.cut [0, 1, 7, 8, 10, 12, 27, 28, 29, 49, 50, 51] .n))))))) (.cut [0, 1, 7, 8, 10, 12, 27, 28, 29] (.seq (.seq .n (.cond (.seq .n .n) .n)) (.cut [0, 1, 7, 8, 12, 27, 28, 29] .n))))))))) (.cut [0, 1, 7, 8, 27, 28, 29] .n))))))) (.cut [7, 8] (.seq .n .n)))))))
  | 12 => (.seq .n (.seq (.seq .n (.cond (.seq .n .n) .n)) (.seq (.seq .n (.block (.loop [0, 1, 12, 13] [] [4] [] (.seq .n (.seq (.cond .n .n) (.seq (.block (.seq .n (.seq .n (.cond (.seq .n .n) .n)))) .n)))))) (.cut [] (.seq .n .n)))))
  | 13 => (.seq .n (.seq (.seq .n (.block (.loop [1, 7, 8, 9] [] [4] [] (.seq .n (.seq (.cond .n .n) (.seq (.block (.seq .n (.seq .n (.cond (.seq .n .n) .n)))) .n)))))) (.cut [] (.seq .n .n))))
  | 14 => (.seq .n (.seq (.seq .n (.cond (.seq .n .n) .n)) (.seq .n .n)))
  | 15 => (.seq .n (.seq (.seq .n (.cond (.seq .n .n) .n)) (.seq .n (.seq (.seq .n (.block (.loop [0, 5, 6, 14] [5, 6] [2, 3, 4] [] (.seq .n (.seq (.cond .n .n) (.seq (.block (.seq .n (.seq .n (.seq (.seq .n (.block (.loop [0, 5, 6, 7, 8, 14, 17, 18, 19] [0, 5, 6, 7, 8, 14] [2, 3, 4] [] (.seq .n (.seq (.cond .n .n) (.seq (.block (.seq .n (.seq .n (.cond .n .n)))) (.cut [0, 5, 6, 7, 8, 14, 17, 18, 19] .n))))))) (.cut [0, 5, 6, 7, 8, 14] (.seq .n (.cond .n .n))))))) (.cut [0, 5, 6, 14] .n))))))) (.cut [5, 6] (.seq .n .n))))))
  | 16 => (.seq .n (.seq .n .n))
  | 17 => (.seq .n (.seq (.seq .n (.cond (.seq .n .n) .n)) (.seq .n (.seq (.seq .n (.block (.loop [0, 5, 6, 16, 17, 18] [5, 6] [2, 3, 4] [] (.seq .n (.seq (.cond .n .n) (.seq (.block (.seq .n (.seq .n .n))) .n)))))) (.cut [5, 6] (.seq .n .n))))))
  | 18 => (.seq .n (.seq (.seq .n (.cond (.seq .n .n) .n)) (.seq .n (.seq .n (.seq (.seq .n (.block (.loop [0, 5, 6, 17, 18, 19] [5, 6] [2, 3, 4] [] (.seq .n (.seq (.cond .n .n) (.seq (.block (.seq .n (.seq .n (.seq .n (.seq .n (.cond .n .n)))))) (.cut [0, 5, 6, 17, 18, 19] .n))))))) (.cut [5, 6] (.seq .n .n)))))))
  | 19 => (.seq .n (.seq (.seq .n (.cond (.seq .n .n) .n)) (.seq .n (.seq .n (.seq (.seq .n (.block (.loop [0, 5, 6, 7] [5, 6] [2, 3, 4] [] (.seq (.seq .n (.cond .n .n)) (.seq (.block (.seq .n (.seq (.seq .n (.block (.loop [0, 5, 6, 7, 8, 18, 19, 20] [0, 5, 6, 7, 8] [2, 3, 4] [] (.seq .n (.seq (.cond .n .n) (.seq (.block (.seq .n (.seq .n (.cond .n .n)))) (.cut [0, 5, 6, 7, 8, 18, 19, 20] .n))))))) (.cut [0, 5, 6, 7, 8] (.seq .n (.cond (.seq .n .n) .n)))))) (.cut [0, 5, 6, 7] .n)))))) (.cut [5, 6] (.seq .n .n)))))))
  | 20 => (.seq .n (.seq (.seq .n (.cond (.seq .n .n) .n)) (.seq .n .n)))
  | 21 => (.seq .n (.seq .n (.seq .n .n)))
  | 22 => (.seq .n (.seq (.seq .n (.cond (.seq .n .n) .n)) (.seq (.seq .n (.block (.loop [0, 1, 20, 21, 22] [] [4, 5] [] (.seq .n (.seq (.cond .n .n) (.seq (.block (.seq .n (.seq (.seq .n (.cond (.seq .n .n) .n)) (.seq .n (.block (.loop [0, 1, 6, 7, 20, 21, 22, 34, 35, 36] [0, 1, 20, 21, 22] [4, 5] [] (.seq .n (.seq (.cond .n .n) (.seq (.block (.seq .n (.seq .n (.cond (.seq .n .n) .n)))) .n))))))))) (.cut [0, 1, 20, 21, 22] .n))))))) (.cut [] (.seq .n .n)))))
  | 23 => (.seq .n (.seq .n (.seq .n (.seq .n .n))))
  | 24 => (.seq .n (.seq .n (.seq (.seq .n (.cond (.seq .n .n) .n)) (.seq .n .n))))
  | 25 => (.seq .n (.seq .n (.seq (.seq .n (.cond (.seq .n .n) .n)) (.seq .n .n))))
  | 26 => (.seq .n (.seq .n (.seq (.seq .n (.cond (.seq .n .n) .n)) (.seq (.seq .n (.block (.loop [0, 1, 5] [1] [4] [] (.seq (.seq .n (.cond .n .n)) (.seq (.block (.seq .n (.seq .n (.cond (.seq .n .n) .n)))) .n))))) (.cut [1] (.seq .n .n))))))
  | 27 => (.seq .n (.seq .n (.seq (.seq .n (.cond (.seq .n .n) .n)) (.seq .n (.seq (.seq .n (.block (.loop [7, 22, 23, 24] [7] [2, 3] [] (.seq .n (.seq (.cond .n .n) (.seq (.block (.seq .n (.seq .n (.cond .n .n)))) (.cut [7, 22, 23, 24] .n))))))) (.cut [7] (.seq .n .n)))))))
  | 28 => (.seq .n (.seq .n (.seq (.seq .n (.block (.loop [0, 3, 4] [3] [2] [] (.seq (.seq .n (.cond .n .n)) (.seq (.block .n) .n))))) (.cut [3] (.seq .n .n)))))
  | 29 => (.seq .n (.seq .n (.seq (.seq .n (.cond (.seq .n .n) .n)) (.seq .n .n))))
  | 30 => (.seq .n (.seq (.seq .n (.cond (.seq .n .n) .n)) (.seq (.seq .n (.block (.loop [0, 1, 5] [] [4] [] (.seq (.seq .n (.cond .n .n)) (.seq (.block (.seq .n (.cond (.seq .n .n) .n))) .n))))) (.cut [] (.seq .n .n)))))
  | 31 => (.seq .n (.seq .n .n))
  | 32 => (.seq .n (.seq (.seq .n (.cond (.seq .n .n) .n)) (.seq .n (.seq (.seq .n (.block (.loop [4, 12, 13, 14] [4] [2, 3] [(4, none, 1)] (.seq .n (.seq (.cond .n .n) (.seq (.block (.seq .n (.seq .n (.seq .n (.block (.seq .n (.cond (.seq .n .n) (.seq (.seq .n (.cond .n (.seq .n (.cond .n (.seq .n (.cond .n .n)))))) (.cut [4, 6, 12, 13, 14, 25, 48] (.cond .n (.seq (.seq .n (.cond .n .n)) (.cut [4, 6, 12, 13, 14, 59] (.cond .n .n))))))))))))) (.cut [4, 12, 13, 14] .n))))))) (.cut [4] (.seq .n .n))))))
  | 33 => (.seq .n (.seq (.seq .n (.cond (.seq .n .n) .n)) (.seq .n .n)))
  | 34 => (.seq .n (.seq .n (.seq (.block (.loop [0, 4] [4] [2, 3] [(4, none, 3)] (.seq (.seq .n (.cond .n .n)) (.block (.seq .n (.seq (.seq .n (.cond (.seq .n .n) .n)) (.seq .n .n))))))) (.cut [4] (.seq (.seq .n (.cond (.seq .n .n) .n)) (.seq .n .n))))))
  | 35 => (.seq .n (.seq (.seq .n (.cond (.seq .n .n) .n)) (.seq (.seq .n (.block (.loop [0, 1, 12, 13] [] [4] [] (.seq .n (.seq (.cond .n .n) (.seq (.block (.seq .n (.seq .n (.cond (.seq .n .n) .n)))) .n)))))) (.cut [] (.seq .n .n)))))
  | 36 => (.seq .n (.seq .n (.seq .n (.seq (.seq .n (.cond .n .n)) (.cut [4] (.seq .n .n))))))
  | 37 => (.seq .n (.seq .n (.seq (.seq .n (.block (.loop [0, 4, 5] [0, 4] [2, 3] [(4, none, 3)] (.seq (.seq .n (.cond .n .n)) (.block (.seq .n (.seq .n (.seq .n (.seq (.seq .n (.block (.seq .n (.cond .n (.seq (.seq .n (.cond .n (.seq .n (.cond .n (.seq .n (.cond .n (.seq .n (.cond .n (.seq .n (.cond .n .n)))))))))) (.cut [0, 4, 5, 6, 7, 29] (.cond .n .n))))))) (.cut [0, 4, 5, 6, 7] (.seq (.seq .n (.cond (.seq .n .n) .n)) (.seq .n (.seq (.block (.loop [0, 4, 5, 6, 7, 8] [0, 4, 5, 6, 8] [2, 3] [] (.seq (.seq .n (.cond .n .n)) (.seq (.block (.seq .n .n)) .n)))) (.cut [0, 4, 5, 6, 8] (.seq (.seq .n (.block (.seq .n (.cond .n (.seq (.seq .n (.cond .n .n)) (.cut [0, 4, 5, 6, 8, 64] (.cond (.seq (.seq .n (.cond (.seq .n .n) .n)) .n) .n))))))) (.cut [0, 4, 5, 6] .n)))))))))))))))) (.cut [0, 4] (.seq (.seq .n (.cond (.seq .n .n) .n)) (.seq .n .n))))))
  | 38 => (.seq .n (.seq (.seq .n (.cond (.seq .n .n) .n)) (.seq .n (.seq (.seq .n (.cond (.seq .n .n) .n)) (.seq .n .n)))))
  | 39 => (.seq .n (.seq (.seq .n (.cond (.seq .n .n) .n)) (.seq .n (.seq .n .n))))
  | 40 => (.seq .n (.seq (.seq .n (.cond (.seq .n .n) .n)) (.seq (.seq .n (.block (.loop [0, 1, 5] [] [4] [] (.seq (.seq .n (.cond .n .n)) (.seq (.block (.seq .n (.cond (.seq .n .n) .n))) .n))))) (.cut [] (.seq .n .n)))))
  | 41 => (.seq .n (.seq (.seq .n (.block (.loop [0, 1, 5] [1] [4] [] (.seq (.seq .n (.cond .n .n)) (.seq (.block (.seq .n (.seq .n (.seq .n (.seq .n (.seq .n .n)))))) .n))))) (.cut [1] (.seq .n .n))))
  | 42 => (.seq .n (.seq (.seq .n (.block (.loop [0, 1, 5] [1] [4] [] (.seq (.seq .n (.cond .n .n)) (.seq (.block (.seq .n .n)) .n))))) (.cut [1] (.seq .n .n))))
  | 43 => (.seq .n (.seq (.seq .n (.block (.loop [0, 1, 5] [1] [4] [] (.seq (.seq .n (.cond .n .n)) (.seq (.block (.seq (.seq .n (.cond (.seq .n .n) .n)) .n)) .n))))) (.cut [1] (.seq .n .n))))
  | 44 => (.seq .n (.seq .n (.seq .n .n)))
  | 45 => (.seq .n (.seq (.seq .n (.cond (.seq .n .n) .n)) (.seq .n (.seq (.seq .n (.block (.loop [2, 10, 30, 31] [2] [6, 7, 8, 9] [(10, some 2, 1)] (.seq .n (.seq (.cond .n .n) (.seq (.block (.seq .n (.seq .n (.seq .n (.block (.seq .n (.cond .n (.seq .n (.cond (.seq .n .n) (.seq .n .n)))))))))) .n)))))) (.cut [2] (.seq .n .n))))))
  | 46 => (.seq .n (.seq (.seq .n (.cond (.seq .n .n) .n)) (.seq (.seq .n (.block (.loop [0, 1, 2, 28, 29, 30] [0, 1, 2] [6, 7, 8, 9] [] (.seq .n (.seq (.cond .n .n) (.seq (.block (.seq .n (.seq .n (.cond (.seq .n .n) .n)))) .n)))))) (.cut [0, 1, 2] (.seq .n (.seq .n .n))))))
  | 47 => (.seq .n (.seq (.seq .n (.cond (.seq .n .n) .n)) (.seq .n .n)))
  | 48 => (.seq .n (.seq .n .n))
  | 49 => (.seq .n (.seq .n (.seq .n (.seq (.seq .n (.cond .n .n)) (.cut [0, 3, 4] (.seq (.block (.loop [0, 3, 4] [0, 3] [2] [(3, none, 2)] (.seq (.seq .n (.cond .n .n)) (.seq (.block (.seq .n .n)) .n)))) (.cut [0, 3] (.seq (.seq .n (.cond .n .n)) (.cut [3] (.seq .n .n))))))))))
  | 50 => (.seq .n (.seq .n .n))
  | 51 => (.seq .n (.seq .n .n))
  | 52 => (.seq .n (.seq .n .n))
  | 53 => (.seq .n (.seq .n (.seq (.seq .n (.block (.loop [1, 3, 9, 10] [1, 3] [2] [] (.seq .n (.seq (.cond .n .n) (.seq (.block (.seq .n .n)) .n)))))) (.cut [1, 3] (.seq .n (.seq .n .n))))))
  | 54 => (.seq .n (.seq .n (.block (.loop [0, 1, 2, 7] [] [6] [] (.seq (.block (.seq .n (.seq (.seq .n (.block (.loop [0, 1, 2, 7, 8, 13, 14, 15] [0, 1, 2, 7, 8] [6] [] (.seq .n (.seq (.cond .n .n) (.seq (.block (.seq .n .n)) .n)))))) (.cut [0, 1, 2, 7, 8] (.seq .n (.cond (.seq .n .n) .n)))))) (.cut [0, 1, 2, 7] .n))))))
  | 55 => (.seq .n (.seq .n .n))
  | 56 => (.seq .n (.seq (.seq .n (.block (.loop [0, 5, 6, 7] [0] [2] [] (.seq .n (.seq (.cond .n .n) (.seq (.block (.seq .n (.seq .n (.cond (.seq .n .n) .n)))) .n)))))) (.cut [0] (.seq .n .n))))
  | 57 => (.seq .n (.seq .n .n))
  | 58 => (.seq .n (.seq .n (.seq (.block (.loop [0, 3] [3] [2] [(3, none, 1)] (.seq (.seq .n (.cond .n .n)) (.seq (.block .n) .n)))) (.cut [3] (.seq .n .n)))))
  | 59 => (.seq .n (.seq .n (.seq (.seq .n (.block (.loop [0, 3, 8, 9, 10] [3] [2] [(3, none, 1)] (.seq .n (.seq (.cond .n .n) (.seq (.block (.seq .n (.seq .n (.seq (.block (.loop [0, 3, 4, 5, 6, 8, 9, 10] [0, 3, 4, 6, 8, 9, 10] [2] [] (.seq (.seq .n (.cond .n .n)) (.block .n)))) (.cut [0, 3, 4, 6, 8, 9, 10] (.seq .n (.seq .n (.seq .n .n)))))))) (.cut [0, 3, 8, 9, 10] .n))))))) (.cut [3] (.seq .n .n)))))
  | 60 => (.seq .n (.seq .n (.seq (.seq .n (.block (.loop [0, 1, 2, 7, 8] [7] [6] [] (.seq (.seq .n (.cond .n .n)) (.block (.seq .n (.seq .n (.block (.loop [0, 1, 2, 7, 8, 12, 13, 14] [0, 1, 2, 7, 8] [6] [] (.seq .n (.seq (.cond .n .n) (.seq (.block (.seq .n (.seq .n (.cond (.seq .n .n) .n)))) (.cut [0, 1, 2, 7, 8, 12, 13, 14] .n))))))))))))) (.cut [7] (.seq .n .n)))))
  | 61 => (.seq .n (.seq .n (.seq (.block (.loop [0, 1, 5] [0, 1, 5] [4] [] (.seq (.seq .n (.cond .n .n)) (.block .n)))) (.cut [0, 1, 5] (.seq (.seq .n (.cond (.seq .n .n) .n)) (.seq .n (.seq .n (.seq .n (.seq .n .n)))))))))
  | 62 => (.seq .n (.seq (.seq .n (.block (.loop [0, 1, 9, 10, 11] [] [4] [] (.seq .n (.seq (.cond .n .n) (.seq (.block (.seq .n (.seq (.seq .n (.cond (.seq .n .n) .n)) (.seq .n (.block (.loop [0, 1, 5, 6, 9, 10, 11, 23, 24, 25] [0, 1, 9, 10, 11] [4] [] (.seq .n (.seq (.cond .n .n) (.seq (.block (.seq .n (.seq .n (.cond (.seq .n .n) .n)))) .n))))))))) (.cut [0, 1, 9, 10, 11] .n))))))) (.cut [] (.seq .n .n))))
  | 63 => (.seq .n (.seq .n (.seq .n .n)))
  | 64 => (.seq .n (.seq .n .n))
  | 65 => (.seq .n (.seq .n .n))
  | 66 => (.seq .n (.seq .n (.seq .n (.seq (.seq .n (.cond (.seq .n (.seq .n (.block (.loop [0, 4, 5, 23, 24] [4, 5] [2, 3] [(5, none, 1)] (.seq .n (.seq (.cond .n .n) (.seq (.block .n) .n))))))) .n)) (.cut [4, 5] (.seq .n .n))))))
  | 67 => (.seq .n (.seq .n .n))
  | 68 => (.seq .n (.seq .n (.seq (.seq .n (.cond (.seq .n .n) .n)) (.seq .n .n))))
  | 69 => (.seq .n (.seq .n (.seq .n (.seq .n (.seq .n (.seq .n .n))))))
  | 70 => (.seq .n (.seq (.seq .n (.cond .n .n)) (.cut [0] (.seq .n (.seq (.seq .n (.block (.loop [0, 3, 4] [3] [2] [] (.seq (.seq .n (.cond .n .n)) (.seq (.block .n) .n))))) (.cut [3] (.seq .n .n)))))))
  | 71 => (.seq .n (.seq (.seq .n (.cond (.seq .n .n) .n)) (.seq (.seq .n (.cond (.seq .n .n) .n)) (.seq (.seq .n (.cond (.seq .n .n) .n)) (.seq .n .n)))))
  | 72 => (.seq .n (.seq .n (.seq .n .n)))
  | 73 => (.seq .n (.seq (.seq .n (.block (.loop [0, 1, 7, 8] [] [4] [] (.seq .n (.seq (.cond .n .n) (.seq (.block (.seq .n (.seq .n (.cond (.seq .n .n) .n)))) .n)))))) (.cut [] (.seq .n .n))))
  | 74 => (.seq .n (.seq .n .n))
  | 75 => (.seq .n (.seq (.seq .n (.block (.loop [0, 5, 6, 7] [0] [2] [] (.seq .n (.seq (.cond .n .n) (.seq (.block (.seq .n (.seq .n (.cond (.seq .n .n) .n)))) .n)))))) (.cut [0] (.seq .n .n))))
  | 76 => (.seq .n (.seq .n (.seq (.seq .n (.block (.loop [3, 7, 8, 9] [3] [2] [(3, none, 1)] (.seq .n (.seq (.cond .n .n) (.seq (.block (.seq .n (.seq .n (.seq .n (.block (.seq .n (.cond (.seq .n .n) (.seq (.seq .n (.cond .n (.seq .n (.cond .n (.seq .n (.cond .n .n)))))) (.cut [3, 5, 7, 8, 9, 20, 43] (.cond .n (.seq (.seq .n (.cond .n .n)) (.cut [3, 5, 7, 8, 9, 54] (.cond .n .n))))))))))))) (.cut [3, 7, 8, 9] .n))))))) (.cut [3] (.seq .n .n)))))
  | 77 => (.seq .n (.seq .n (.seq .n (.seq (.seq .n (.block (.seq .n (.cond .n (.seq (.seq .n (.cond .n (.seq .n (.cond .n (.seq .n (.cond .n (.seq .n (.cond .n (.seq .n (.cond .n .n)))))))))) (.cut [0, 2, 4, 5, 17] (.cond .n .n))))))) (.cut [0, 2, 4, 5] (.seq (.seq .n (.cond (.seq .n .n) .n)) (.seq .n (.seq (.seq .n (.block (.loop [2, 4, 5, 6, 32, 33, 34] [2, 4, 5, 6] [2, 3] [] (.seq .n (.seq (.cond .n .n) (.seq (.block (.seq .n .n)) .n)))))) (.cut [2, 4, 5, 6] (.seq (.seq .n (.block (.seq .n (.cond .n (.seq (.seq .n (.cond .n .n)) (.cut [2, 4, 5, 6, 53] (.cond (.seq (.seq .n (.cond (.seq .n .n) .n)) .n) .n))))))) (.cut [2, 4, 5] (.seq .n .n))))))))))))
  | 78 => (.seq .n (.seq .n (.seq .n (.seq (.seq .n (.cond .n .n)) (.cut [0, 3, 4] (.seq .n (.seq (.block (.loop [0, 3, 4, 5] [0, 3] [2] [(3, none, 3)] (.seq (.seq .n (.cond .n .n)) (.block (.seq .n (.seq (.seq .n (.seq .n (.cond .n .n))) (.cut [0, 3, 4, 5, 6] (.seq (.seq .n (.block (.seq .n (.cond .n (.seq (.seq .n (.cond .n .n)) (.cut [0, 3, 4, 5, 6, 42, 49] (.cond .n (.seq .n (.cond .n (.seq .n (.cond .n (.seq (.seq .n (.cond .n .n)) (.cut [0, 3, 4, 5, 6, 67] (.cond .n .n)))))))))))))) (.cut [0, 3, 4, 5, 6] (.seq .n (.seq .n .n))))))))))) (.cut [0, 3] (.seq .n (.seq (.seq .n (.cond .n .n)) (.cut [3] (.seq .n .n))))))))))))
  | 79 => (.seq .n (.seq .n .n))
  | 80 => (.seq .n (.seq (.seq .n (.block (.loop [0, 1, 2, 7] [1] [6] [] (.seq (.seq .n (.cond .n .n)) (.seq (.block (.seq .n (.seq .n (.seq .n (.block (.seq .n (.cond .n (.seq .n (.cond .n .n))))))))) (.cut [0, 1, 2, 7] .n)))))) (.cut [1] (.seq .n .n))))
  | 81 => (.seq .n (.seq .n .n))
  | 82 => (.seq .n (.seq .n (.seq (.seq .n (.block (.loop [0, 4, 13, 14] [0, 4] [2, 3] [(4, none, 1)] (.seq .n (.seq (.cond .n .n) (.seq (.block .n) .n)))))) (.cut [0, 4] (.seq .n (.seq .n (.seq (.block (.loop [0, 4, 5] [4] [2, 3] [(5, none, 1)] (.seq (.seq .n (.cond .n .n)) (.block (.seq .n (.seq .n (.seq .n (.seq .n (.seq (.seq .n (.cond (.seq .n .n) .n)) (.seq .n (.block (.loop [0, 4, 5, 9, 59, 60, 61] [0, 4, 5] [2, 3] [(5, none, 1)] (.seq .n (.seq (.cond .n .n) (.seq (.block (.seq .n (.seq (.seq .n (.cond (.seq .n .n) .n)) (.seq .n (.cond (.seq .n .n) .n))))) (.cut [0, 4, 5, 9, 59, 60, 61] .n)))))))))))))))) (.cut [4] (.seq .n .n)))))))))
  | 83 => (.seq .n (.seq .n (.seq .n (.seq (.seq .n (.block (.loop [0, 4, 5] [4] [2, 3] [(5, none, 1)] (.seq (.seq .n (.cond .n .n)) (.seq (.block (.seq .n (.seq .n (.seq (.seq .n (.cond (.seq .n .n) .n)) (.seq .n (.block (.loop [0, 4, 5, 6, 7, 8, 56, 57, 58] [0, 4, 5] [2, 3] [(5, none, 1)] (.seq .n (.seq (.cond .n .n) (.seq (.block (.seq .n (.seq (.seq .n (.cond (.seq .n .n) .n)) (.seq .n (.cond (.seq .n .n) .n))))) (.cut [0, 4, 5, 6, 7, 8, 56, 57, 58] .n))))))))))) (.cut [0, 4, 5] .n)))))) (.cut [4] (.seq .n .n))))))
  | 84 => (.seq .n (.seq (.seq .n (.cond (.seq .n .n) .n)) (.seq .n (.seq (.block (.loop [0, 3] [3] [2] [] (.seq (.seq .n (.cond .n .n)) (.block (.seq .n .n))))) (.cut [3] (.seq .n .n))))))
  | 85 => (.seq .n (.seq .n (.seq (.seq .n (.block (.loop [0, 3, 4] [0, 3] [2] [(3, none, 1)] (.seq (.seq .n (.cond .n .n)) (.seq (.block .n) .n))))) (.cut [0, 3] (.seq (.seq .n (.cond .n .n)) (.cut [3] (.seq .n .n)))))))
  | 86 => (.seq .n (.seq .n .n))
  | 87 => (.seq .n (.seq (.seq .n (.cond (.seq .n .n) .n)) (.seq .n .n)))
  | 88 => (.seq .n (.seq (.seq .n (.cond (.seq .n .n) .n)) (.seq .n (.seq .n (.seq (.seq .n (.cond (.seq .n .n) .n)) (.seq .n (.seq (.seq .n (.block (.seq .n (.cond .n (.seq .n (.cond .n (.seq .n (.cond .n (.seq .n (.cond (.seq .n .n) (.seq .n (.cond (.seq .n (.seq (.seq .n (.cond .n .n)) (.cut [0, 6] .n))) (.seq .n (.cond .n (.seq .n (.cond (.seq .n (.cond .n .n)) (.seq .n (.cond .n (.seq .n (.cond (.seq .n .n) .n)))))))))))))))))))) (.cut [] (.seq .n .n)))))))))
  | 89 => (.seq .n (.seq .n (.seq .n (.seq .n (.seq .n .n)))))
  | 90 => (.seq .n (.seq .n .n))
  | 91 => (.seq .n (.seq .n (.seq .n (.block (.loop [0, 2, 9, 10] [] [6, 7, 8] [(9, some 0, 1)] (.seq (.block (.seq (.seq .n (.cond (.seq .n .n) .n)) (.seq .n (.seq .n (.cond (.seq .n .n) .n))))) .n))))))
  | 92 => (.seq .n (.seq .n .n))
  | 93 => (.seq .n (.seq .n .n))
  | 94 => (.seq .n (.seq (.seq .n (.block (.seq .n (.cond (.seq .n .n) (.seq .n (.cond (.seq .n .n) .n)))))) (.seq (.seq .n (.cond (.seq .n .n) .n)) (.seq (.seq .n (.block (.seq .n (.cond (.seq .n .n) (.seq (.seq .n (.cond .n .n)) (.cut [1, 2, 36, 42] (.cond (.seq .n .n) (.seq (.seq .n (.cond .n .n)) (.cut [1, 2, 48] (.cond (.seq .n .n) .n)))))))))) (.cut [2] (.seq .n .n))))))
  | 95 => (.seq .n (.seq (.seq .n (.cond (.seq .n .n) .n)) (.seq .n (.seq (.seq .n (.cond .n .n)) (.cut [1, 5] (.seq .n .n))))))
  | 96 => (.seq .n (.seq (.seq .n (.cond .n .n)) (.cut [0, 1] (.seq .n (.seq (.seq .n (.cond .n .n)) (.cut [0, 6] (.seq .n (.seq .n (.seq (.block (.loop [7, 8] [7] [4] [] (.seq (.seq .n (.cond .n .n)) (.block .n)))) (.cut [7] (.seq .n .n)))))))))))
  | 97 => .n
  | 98 => (.seq .n (.seq .n .n))
  | 99 => (.seq .n (.seq .n (.seq .n (.seq (.seq .n (.cond (.seq (.seq .n (.cond (.seq .n .n) .n)) (.seq .n .n)) .n)) (.seq (.seq .n (.cond (.seq .n .n) .n)) (.seq (.seq .n (.cond (.seq .n .n) .n)) (.seq (.seq .n (.cond (.seq .n .n) .n)) (.seq .n .n))))))))
  | 100 => (.seq .n (.seq (.seq .n (.block (.loop [0, 1, 7, 8] [] [4] [] (.seq .n (.seq (.cond .n .n) (.seq (.block (.seq .n (.seq .n (.cond (.seq .n .n) .n)))) .n)))))) (.cut [] (.seq .n .n))))
  | 101 => (.seq .n (.seq (.seq .n (.block (.seq .n (.cond (.seq .n .n) (.seq (.seq .n (.cond .n .n)) (.cut [1, 2, 6, 17] (.cond (.seq .n .n) (.seq .n (.cond (.seq .n .n) (.seq .n (.cond (.seq .n .n) (.seq (.seq .n (.cond .n .n)) (.cut [1, 2, 6, 53] (.cond (.seq .n .n) (.seq (.seq .n (.cond .n .n)) (.cut [2, 70] (.cond (.seq .n .n) .n))))))))))))))))) (.cut [] (.seq .n .n))))
  | 102 => (.seq .n (.seq (.seq .n (.block (.loop [0, 5, 6, 7] [] [2] [] (.seq .n (.seq (.cond .n .n) (.seq (.block (.seq .n (.seq .n (.cond (.seq .n .n) .n)))) .n)))))) (.cut [] (.seq .n .n))))
  | 103 => (.seq .n (.seq (.seq .n (.block (.seq (.seq .n (.cond .n .n)) (.cut [5, 6] (.cond (.seq .n .n) (.seq (.seq .n (.cond .n (.seq .n (.cond .n .n)))) (.cut [5, 9] (.cond (.seq .n .n) (.seq .n (.cond (.seq .n .n) (.seq (.seq .n (.cond .n .n)) (.cut [15] (.cond (.seq .n .n) .n))))))))))))) (.cut [] (.seq .n .n))))
  | 104 => (.seq .n (.seq .n .n))
  | 105 => (.seq .n (.seq (.seq .n (.block (.seq .n (.cond (.seq .n .n) (.seq .n (.cond (.seq .n .n) (.seq .n (.cond (.seq .n .n) .n)))))))) (.seq .n .n)))
  | 106 => (.seq .n (.seq (.seq .n (.block (.seq (.seq .n (.cond .n .n)) (.cut [5, 6] (.cond (.seq .n .n) (.seq (.seq .n (.cond .n (.seq .n (.cond .n .n)))) (.cut [5, 9] (.cond (.seq .n .n) (.seq .n (.cond (.seq .n .n) (.seq (.seq .n (.cond .n .n)) (.cut [15] (.cond (.seq .n .n) .n))))))))))))) (.cut [] (.seq .n .n))))
  | 107 => (.seq .n (.seq (.seq .n (.block (.seq .n (.cond (.seq .n .n) (.seq .n (.cond (.seq .n .n) (.seq .n (.cond (.seq .n .n) .n)))))))) (.seq .n .n)))
  | 108 => (.seq .n (.seq .n .n))
  | 109 => (.seq .n (.seq .n .n))
  | 110 => (.seq .n (.seq .n (.seq .n (.seq .n (.seq .n (.seq .n .n))))))
  | 111 => (.seq .n (.seq (.seq .n (.cond (.seq .n .n) .n)) (.seq .n .n)))
  | 112 => (.seq .n (.seq (.seq .n (.cond (.seq .n .n) .n)) (.seq .n (.seq .n (.seq .n (.seq (.seq .n (.cond (.seq .n .n) .n)) (.seq .n (.seq .n (.seq (.seq .n (.cond .n .n)) (.cut [0, 6, 7, 9, 10] (.seq .n (.seq (.seq .n (.block (.seq .n (.cond (.seq .n .n) (.seq .n (.cond .n (.seq .n (.cond .n (.seq .n (.cond .n (.seq .n (.cond .n (.seq .n (.cond (.seq .n (.cond .n .n)) (.seq .n (.cond (.seq .n (.cond .n .n)) (.seq .n (.cond (.seq .n (.seq (.block (.seq .n (.cond (.seq .n .n) (.seq .n (.cond (.seq .n .n) .n))))) .n)) .n)))))))))))))))))) (.cut [0, 11] (.seq .n (.seq .n .n)))))))))))))))
  | 113 => (.seq .n (.seq (.seq .n (.block (.loop [0, 1, 7, 8] [] [4] [] (.seq .n (.seq (.cond .n .n) (.seq (.block (.seq .n (.seq .n (.cond (.seq .n .n) .n)))) .n)))))) (.cut [] (.seq .n .n))))
  | 114 => (.seq .n (.seq .n (.seq .n .n)))
  | 115 => (.seq .n (.seq .n (.seq (.seq .n (.cond .n .n)) (.cut [0, 3] (.seq .n (.seq .n (.seq (.seq .n (.cond (.seq .n .n) .n)) (.seq .n .n))))))))
  | 116 => (.seq .n (.seq (.cond (.seq .n (.seq .n .n)) .n) (.seq .n (.seq .n .n))))
  | 117 => (.seq .n (.seq .n (.seq (.block (.loop [0, 1, 2, 6, 7, 8] [0, 1, 2, 6, 7] [] [] (.seq (.seq .n (.cond .n .n)) (.block (.seq .n (.seq .n .n)))))) (.cut [0, 1, 2, 6, 7] (.seq .n (.block (.loop [0, 1, 2, 6] [] [] [] (.seq (.seq .n (.cond .n .n)) (.block (.seq .n (.seq (.block (.loop [0, 1, 2, 6, 7, 8] [0, 1, 2, 6, 7] [] [] (.seq (.seq .n (.cond .n .n)) (.block (.seq .n (.seq .n .n)))))) (.cut [0, 1, 2, 6, 7] (.seq (.seq .n (.seq .n (.cond .n .n))) (.cut [0, 1, 2, 6] .n))))))))))))))
  | 118 => (.seq .n (.seq .n .n))
  | 119 => (.seq .n (.seq .n .n))
  | 120 => (.seq .n (.seq (.seq .n (.block (.loop [0, 1, 7, 8] [] [4] [] (.seq .n (.seq (.cond .n .n) (.seq (.block (.seq .n (.seq .n (.cond (.seq .n .n) .n)))) .n)))))) (.cut [] (.seq .n .n))))
  | 121 => (.seq .n (.seq (.seq .n (.block (.seq .n (.cond (.seq .n .n) (.seq .n (.cond (.seq .n .n) (.seq .n (.cond (.seq .n .n) (.seq (.seq .n (.cond .n .n)) (.cut [0, 1, 2, 8, 33] (.cond (.seq (.seq .n (.cond (.seq .n .n) .n)) (.seq (.seq .n (.cond (.seq .n .n) .n)) (.seq .n .n))) (.seq .n (.cond (.seq (.seq .n (.cond (.seq .n .n) .n)) (.seq .n .n)) (.seq .n (.cond (.seq .n .n) (.seq .n (.cond (.seq .n .n) (.seq .n (.cond (.seq .n .n) .n))))))))))))))))))) (.cut [1, 2] (.seq .n .n))))
  | 122 => (.seq .n (.seq (.seq .n (.block (.seq .n (.cond (.seq .n .n) (.seq .n (.cond (.seq .n .n) .n)))))) (.seq .n .n)))
  | 123 => (.seq .n (.seq (.seq .n (.cond (.seq .n .n) .n)) (.seq .n .n)))
  | 124 => (.seq .n (.seq (.seq .n (.block (.seq .n (.cond (.seq .n .n) (.seq .n (.cond (.seq .n .n) (.seq .n (.cond (.seq .n .n) (.seq .n (.cond (.seq .n .n) (.seq .n (.cond (.seq .n .n) (.seq .n (.cond (.seq .n .n) (.seq .n (.cond (.seq .n .n) (.seq .n (.cond (.seq (.seq .n (.cond (.seq .n .n) .n)) (.seq .n .n)) .n)))))))))))))))))) (.seq (.seq .n (.cond (.seq .n .n) .n)) (.seq (.seq .n (.cond (.seq .n .n) .n)) (.seq .n .n)))))
  | 125 => (.seq .n (.seq (.seq .n (.block (.seq .n (.cond (.seq .n .n) (.seq .n (.cond (.seq .n .n) (.seq (.seq .n (.cond .n .n)) (.cut [5, 10] (.cond (.seq .n .n) (.seq (.seq .n (.cond .n .n)) (.cut [5, 13] (.cond (.seq .n .n) (.seq (.seq .n (.cond .n .n)) (.cut [5, 16] (.cond (.seq .n .n) (.seq (.seq .n (.cond .n (.seq .n (.cond .n .n)))) (.cut [5, 19] (.cond (.seq .n .n) (.seq .n (.cond (.seq .n .n) .n)))))))))))))))))))) (.cut [] (.seq .n .n))))
  | 126 => (.seq .n (.seq .n (.seq .n .n)))
  | 127 => (.seq .n (.seq .n (.seq .n (.seq .n (.seq .n (.seq .n (.seq .n (.seq .n (.seq .n (.seq .n (.seq .n (.seq .n .n))))))))))))
  | 128 => (.seq .n (.block (.loop [0, 1, 2, 3, 8] [] [] [] (.seq (.seq .n (.cond .n .n)) (.seq (.block (.seq .n (.block (.loop [0, 1, 2, 3, 8, 9] [0, 1, 2, 3, 8] [] [] (.seq (.seq .n (.cond .n .n)) (.seq (.block .n) .n)))))) (.cut [0, 1, 2, 3, 8] .n))))))
  | 129 => (.seq (.seq .n (.cond (.seq .n (.seq .n (.seq (.block (.loop [0, 1, 4, 10, 11] [0, 1, 10] [] [] (.seq (.seq .n (.cond .n .n)) (.block (.seq .n (.seq .n (.cond .n .n))))))) (.cut [0, 1, 10] (.seq (.seq .n (.block (.loop [0, 10, 13] [] [] [] (.seq (.seq .n (.cond .n .n)) (.seq (.block .n) .n))))) .n))))) .n)) (.cut [0, 1, 2, 3, 4] (.seq (.seq .n (.cond (.seq .n (.seq .n (.seq (.block (.loop [0, 2, 4, 14, 15] [0, 2, 14] [] [] (.seq (.seq .n (.cond .n .n)) (.block (.seq .n (.seq .n (.cond .n .n))))))) (.cut [0, 2, 14] (.seq (.seq .n (.block (.loop [0, 14, 17] [] [] [] (.seq (.seq .n (.cond .n .n)) (.seq (.block .n) .n))))) .n))))) .n)) (.cut [0, 1, 2, 3, 4] (.seq .n (.seq .n (.seq .n (.seq (.seq .n (.cond (.seq .n .n) (.seq .n .n))) (.cut [0, 1, 2, 3, 4, 18, 19, 20, 21] (.seq .n (.seq (.block (.loop [0, 1, 2, 3, 4, 18, 19, 20, 21, 22] [0, 1, 2, 3, 4, 18, 19, 20] [] [] (.seq (.seq .n (.cond .n .n)) (.block (.seq .n (.seq .n (.cond .n .n))))))) (.cut [0, 1, 2, 3, 4, 18, 19, 20] (.seq .n (.seq (.seq .n (.cond .n .n)) (.cut [0, 1, 3, 4, 18, 20, 24] (.seq (.seq .n (.cond .n .n)) (.cut [0, 3, 4, 18, 24] (.seq .n (.cond .n .n)))))))))))))))))))
  | 130 => (.seq .n (.seq (.seq .n (.block (.seq .n (.cond (.seq .n .n) (.seq .n (.cond (.seq .n .n) (.seq (.seq .n (.cond .n .n)) (.cut [3, 8] (.cond (.seq .n .n) (.seq (.seq .n (.cond .n .n)) (.cut [3, 11] (.cond (.seq .n .n) (.seq (.seq .n (.cond .n .n)) (.cut [3, 14] (.cond (.seq .n .n) (.seq (.seq .n (.cond .n (.seq .n (.cond .n .n)))) (.cut [3, 17] (.cond (.seq .n .n) (.seq .n (.cond (.seq .n .n) .n)))))))))))))))))))) (.cut [] (.seq .n .n))))
  | 131 => (.seq .n (.seq (.seq .n (.cond (.seq .n .n) .n)) (.seq .n .n)))
  | 132 => (.seq .n (.seq .n (.seq (.block (.loop [0, 2, 4, 10, 11] [0, 2, 4, 10] [] [] (.seq (.seq .n (.cond .n .n)) (.block (.seq .n (.cond (.seq .n .n) (.seq .n .n))))))) (.cut [0, 2, 4, 10] .n))))
  | 133 => (.seq .n (.block (.loop [0, 1, 2, 3, 10] [] [] [] (.seq (.seq .n (.cond .n .n)) (.seq (.block .n) .n)))))
  | _ => .n
noncomputable def pr : Pr := ⟨Try.prog, prPol, prAnn, prPrim⟩
noncomputable def pr0 : Pr := ⟨Try.prog, prPol, prAnn, fun _ => none⟩
end Go.Ev

/- Bounds and strengths. -/
namespace Go.Ev
set_option linter.unusedVariables false
set_option linter.unusedSimpArgs false
open Go.Proofs
set_option maxRecDepth 100000
set_option linter.unusedVariables false
theorem within_ev (x lo hi : Int) : Ev pr (.call 51 [i64 x, i64 lo, i64 hi] []) (.val (bl (decide (x ≥ lo) && decide (x ≤ hi))) []) := by
  by_cases hc0 : lo ≤ x
  · let t0 : Tp pr := .b (show (decide (x ≥ lo)) = true by simpa using hc0)
    exact .tpe [t0] (Out.val (V.t (T.bool (decide (x ≤ hi)))) []) (by kernel_rfl) (congrArg (fun x => Out.val (V.t (T.bool x)) []) (show (decide (x ≤ hi)) = (decide (x ≥ lo) && decide (x ≤ hi)) by simp [bl, *]))
  · let t0 : Tp pr := .b (show (decide (x ≥ lo)) = false by simpa using hc0)
    exact .tpe [t0] (Out.val (V.t (T.bool false)) []) (by kernel_rfl) (congrArg (fun x => Out.val (V.t (T.bool x)) []) (show (false) = (decide (x ≥ lo) && decide (x ≤ hi)) by simp [bl, *]))
theorem StrengthOf_ev (s : ByteArray) : Ev pr (.call 125 [.t (.str s)] []) (.val (.tup [i64 (strength s.toList), bl (strength s.toList == 7), bl (strength s.toList != 0)]) []) := by
  by_cases hc0 : s.toList = [(124 : UInt8), (124 : UInt8)]
  · let t0 : Tp pr := .b (show (s.toList == [(124 : UInt8), (124 : UInt8)]) = true by simpa using hc0)
    exact .tpe [t0] (Out.val (V.tup [V.t (T.int IntKind.i64 (1 : Int)), V.t (T.bool false), V.t (T.bool true)]) []) (by kernel_rfl) (((congrArg (fun x => Out.val (V.tup [V.t (T.int IntKind.i64 x), V.t (T.bool false), V.t (T.bool true)]) []) (show ((1 : Int)) = (strength s.toList) by simp [strength, *])).trans (congrArg (fun x => Out.val (V.tup [V.t (T.int IntKind.i64 (strength s.toList)), V.t (T.bool x), V.t (T.bool true)]) []) (show (false) = (decide (strength s.toList = (7 : Int))) by simp [strength, *]))).trans (congrArg (fun x => Out.val (V.tup [V.t (T.int IntKind.i64 (strength s.toList)), V.t (T.bool (decide (strength s.toList = (7 : Int)))), V.t (T.bool x)]) []) (show (true) = (strength s.toList != (0 : Int)) by simp [strength, *])))
  · let t0 : Tp pr := .b (show (s.toList == [(124 : UInt8), (124 : UInt8)]) = false by simpa using hc0)
    by_cases hc1 : s.toList = [(38 : UInt8), (38 : UInt8)]
    · let t1 : Tp pr := .b (show (s.toList == [(38 : UInt8), (38 : UInt8)]) = true by simpa using hc1)
      exact .tpe [t0, t1] (Out.val (V.tup [V.t (T.int IntKind.i64 (2 : Int)), V.t (T.bool false), V.t (T.bool true)]) []) (by kernel_rfl) (((congrArg (fun x => Out.val (V.tup [V.t (T.int IntKind.i64 x), V.t (T.bool false), V.t (T.bool true)]) []) (show ((2 : Int)) = (strength s.toList) by simp [strength, *])).trans (congrArg (fun x => Out.val (V.tup [V.t (T.int IntKind.i64 (strength s.toList)), V.t (T.bool x), V.t (T.bool true)]) []) (show (false) = (decide (strength s.toList = (7 : Int))) by simp [strength, *]))).trans (congrArg (fun x => Out.val (V.tup [V.t (T.int IntKind.i64 (strength s.toList)), V.t (T.bool (decide (strength s.toList = (7 : Int)))), V.t (T.bool x)]) []) (show (true) = (strength s.toList != (0 : Int)) by simp [strength, *])))
    · let t1 : Tp pr := .b (show (s.toList == [(38 : UInt8), (38 : UInt8)]) = false by simpa using hc1)
      by_cases hc2 : s.toList = [(61 : UInt8), (61 : UInt8)]
      · let t2 : Tp pr := .b (show (s.toList == [(61 : UInt8), (61 : UInt8)]) = true by simpa using hc2)
        let t3 : Tp pr := .b (show (s.toList == [(61 : UInt8), (61 : UInt8)]) = true by (simp; omega))
        exact .tpe [t0, t1, t2, t3] (Out.val (V.tup [V.t (T.int IntKind.i64 (3 : Int)), V.t (T.bool false), V.t (T.bool true)]) []) (by kernel_rfl) (((congrArg (fun x => Out.val (V.tup [V.t (T.int IntKind.i64 x), V.t (T.bool false), V.t (T.bool true)]) []) (show ((3 : Int)) = (strength s.toList) by simp [strength, *])).trans (congrArg (fun x => Out.val (V.tup [V.t (T.int IntKind.i64 (strength s.toList)), V.t (T.bool x), V.t (T.bool true)]) []) (show (false) = (decide (strength s.toList = (7 : Int))) by simp [strength, *]))).trans (congrArg (fun x => Out.val (V.tup [V.t (T.int IntKind.i64 (strength s.toList)), V.t (T.bool (decide (strength s.toList = (7 : Int)))), V.t (T.bool x)]) []) (show (true) = (strength s.toList != (0 : Int)) by simp [strength, *])))
      · let t2 : Tp pr := .b (show (s.toList == [(61 : UInt8), (61 : UInt8)]) = false by simpa using hc2)
        by_cases hc3 : s.toList = [(33 : UInt8), (61 : UInt8)]
        · let t3 : Tp pr := .b (show (s.toList == [(33 : UInt8), (61 : UInt8)]) = true by simpa using hc3)
          exact .tpe [t0, t1, t2, t3] (Out.val (V.tup [V.t (T.int IntKind.i64 (3 : Int)), V.t (T.bool false), V.t (T.bool true)]) []) (by kernel_rfl) (((congrArg (fun x => Out.val (V.tup [V.t (T.int IntKind.i64 x), V.t (T.bool false), V.t (T.bool true)]) []) (show ((3 : Int)) = (strength s.toList) by simp [strength, *])).trans (congrArg (fun x => Out.val (V.tup [V.t (T.int IntKind.i64 (strength s.toList)), V.t (T.bool x), V.t (T.bool true)]) []) (show (false) = (decide (strength s.toList = (7 : Int))) by simp [strength, *]))).trans (congrArg (fun x => Out.val (V.tup [V.t (T.int IntKind.i64 (strength s.toList)), V.t (T.bool (decide (strength s.toList = (7 : Int)))), V.t (T.bool x)]) []) (show (true) = (strength s.toList != (0 : Int)) by simp [strength, *])))
        · let t3 : Tp pr := .b (show (s.toList == [(33 : UInt8), (61 : UInt8)]) = false by simpa using hc3)
          by_cases hc4 : s.toList = [(60 : UInt8)]
          · let t4 : Tp pr := .b (show (s.toList == [(60 : UInt8)]) = true by simpa using hc4)
            let t5 : Tp pr := .b (show (s.toList == [(60 : UInt8)]) = true by (simp; omega))
            exact .tpe [t0, t1, t2, t3, t4, t5] (Out.val (V.tup [V.t (T.int IntKind.i64 (4 : Int)), V.t (T.bool false), V.t (T.bool true)]) []) (by kernel_rfl) (((congrArg (fun x => Out.val (V.tup [V.t (T.int IntKind.i64 x), V.t (T.bool false), V.t (T.bool true)]) []) (show ((4 : Int)) = (strength s.toList) by simp [strength, *])).trans (congrArg (fun x => Out.val (V.tup [V.t (T.int IntKind.i64 (strength s.toList)), V.t (T.bool x), V.t (T.bool true)]) []) (show (false) = (decide (strength s.toList = (7 : Int))) by simp [strength, *]))).trans (congrArg (fun x => Out.val (V.tup [V.t (T.int IntKind.i64 (strength s.toList)), V.t (T.bool (decide (strength s.toList = (7 : Int)))), V.t (T.bool x)]) []) (show (true) = (strength s.toList != (0 : Int)) by simp [strength, *])))
          · let t4 : Tp pr := .b (show (s.toList == [(60 : UInt8)]) = false by simpa using hc4)
            by_cases hc5 : s.toList = [(60 : UInt8), (61 : UInt8)]
            · let t5 : Tp pr := .b (show (s.toList == [(60 : UInt8), (61 : UInt8)]) = true by simpa using hc5)
              exact .tpe [t0, t1, t2, t3, t4, t5] (Out.val (V.tup [V.t (T.int IntKind.i64 (4 : Int)), V.t (T.bool false), V.t (T.bool true)]) []) (by kernel_rfl) (((congrArg (fun x => Out.val (V.tup [V.t (T.int IntKind.i64 x), V.t (T.bool false), V.t (T.bool true)]) []) (show ((4 : Int)) = (strength s.toList) by simp [strength, *])).trans (congrArg (fun x => Out.val (V.tup [V.t (T.int IntKind.i64 (strength s.toList)), V.t (T.bool x), V.t (T.bool true)]) []) (show (false) = (decide (strength s.toList = (7 : Int))) by simp [strength, *]))).trans (congrArg (fun x => Out.val (V.tup [V.t (T.int IntKind.i64 (strength s.toList)), V.t (T.bool (decide (strength s.toList = (7 : Int)))), V.t (T.bool x)]) []) (show (true) = (strength s.toList != (0 : Int)) by simp [strength, *])))
            · let t5 : Tp pr := .b (show (s.toList == [(60 : UInt8), (61 : UInt8)]) = false by simpa using hc5)
              by_cases hc6 : s.toList = [(43 : UInt8)]
              · let t6 : Tp pr := .b (show (s.toList == [(43 : UInt8)]) = true by simpa using hc6)
                let t7 : Tp pr := .b (show (s.toList == [(43 : UInt8)]) = true by (simp; omega))
                exact .tpe [t0, t1, t2, t3, t4, t5, t6, t7] (Out.val (V.tup [V.t (T.int IntKind.i64 (5 : Int)), V.t (T.bool false), V.t (T.bool true)]) []) (by kernel_rfl) (((congrArg (fun x => Out.val (V.tup [V.t (T.int IntKind.i64 x), V.t (T.bool false), V.t (T.bool true)]) []) (show ((5 : Int)) = (strength s.toList) by simp [strength, *])).trans (congrArg (fun x => Out.val (V.tup [V.t (T.int IntKind.i64 (strength s.toList)), V.t (T.bool x), V.t (T.bool true)]) []) (show (false) = (decide (strength s.toList = (7 : Int))) by simp [strength, *]))).trans (congrArg (fun x => Out.val (V.tup [V.t (T.int IntKind.i64 (strength s.toList)), V.t (T.bool (decide (strength s.toList = (7 : Int)))), V.t (T.bool x)]) []) (show (true) = (strength s.toList != (0 : Int)) by simp [strength, *])))
              · let t6 : Tp pr := .b (show (s.toList == [(43 : UInt8)]) = false by simpa using hc6)
                by_cases hc7 : s.toList = [(45 : UInt8)]
                · let t7 : Tp pr := .b (show (s.toList == [(45 : UInt8)]) = true by simpa using hc7)
                  exact .tpe [t0, t1, t2, t3, t4, t5, t6, t7] (Out.val (V.tup [V.t (T.int IntKind.i64 (5 : Int)), V.t (T.bool false), V.t (T.bool true)]) []) (by kernel_rfl) (((congrArg (fun x => Out.val (V.tup [V.t (T.int IntKind.i64 x), V.t (T.bool false), V.t (T.bool true)]) []) (show ((5 : Int)) = (strength s.toList) by simp [strength, *])).trans (congrArg (fun x => Out.val (V.tup [V.t (T.int IntKind.i64 (strength s.toList)), V.t (T.bool x), V.t (T.bool true)]) []) (show (false) = (decide (strength s.toList = (7 : Int))) by simp [strength, *]))).trans (congrArg (fun x => Out.val (V.tup [V.t (T.int IntKind.i64 (strength s.toList)), V.t (T.bool (decide (strength s.toList = (7 : Int)))), V.t (T.bool x)]) []) (show (true) = (strength s.toList != (0 : Int)) by simp [strength, *])))
                · let t7 : Tp pr := .b (show (s.toList == [(45 : UInt8)]) = false by simpa using hc7)
                  by_cases hc8 : s.toList = [(42 : UInt8)]
                  · let t8 : Tp pr := .b (show (s.toList == [(42 : UInt8)]) = true by simpa using hc8)
                    let t9 : Tp pr := .b (show (s.toList == [(42 : UInt8)]) = true by (simp; omega))
                    exact .tpe [t0, t1, t2, t3, t4, t5, t6, t7, t8, t9] (Out.val (V.tup [V.t (T.int IntKind.i64 (6 : Int)), V.t (T.bool false), V.t (T.bool true)]) []) (by kernel_rfl) (((congrArg (fun x => Out.val (V.tup [V.t (T.int IntKind.i64 x), V.t (T.bool false), V.t (T.bool true)]) []) (show ((6 : Int)) = (strength s.toList) by simp [strength, *])).trans (congrArg (fun x => Out.val (V.tup [V.t (T.int IntKind.i64 (strength s.toList)), V.t (T.bool x), V.t (T.bool true)]) []) (show (false) = (decide (strength s.toList = (7 : Int))) by simp [strength, *]))).trans (congrArg (fun x => Out.val (V.tup [V.t (T.int IntKind.i64 (strength s.toList)), V.t (T.bool (decide (strength s.toList = (7 : Int)))), V.t (T.bool x)]) []) (show (true) = (strength s.toList != (0 : Int)) by simp [strength, *])))
                  · let t8 : Tp pr := .b (show (s.toList == [(42 : UInt8)]) = false by simpa using hc8)
                    by_cases hc9 : s.toList = [(47 : UInt8)]
                    · let t9 : Tp pr := .b (show (s.toList == [(47 : UInt8)]) = true by simpa using hc9)
                      let t10 : Tp pr := .b (show (s.toList == [(47 : UInt8)]) = true by (simp; omega))
                      exact .tpe [t0, t1, t2, t3, t4, t5, t6, t7, t8, t9, t10] (Out.val (V.tup [V.t (T.int IntKind.i64 (6 : Int)), V.t (T.bool false), V.t (T.bool true)]) []) (by kernel_rfl) (((congrArg (fun x => Out.val (V.tup [V.t (T.int IntKind.i64 x), V.t (T.bool false), V.t (T.bool true)]) []) (show ((6 : Int)) = (strength s.toList) by simp [strength, *])).trans (congrArg (fun x => Out.val (V.tup [V.t (T.int IntKind.i64 (strength s.toList)), V.t (T.bool x), V.t (T.bool true)]) []) (show (false) = (decide (strength s.toList = (7 : Int))) by simp [strength, *]))).trans (congrArg (fun x => Out.val (V.tup [V.t (T.int IntKind.i64 (strength s.toList)), V.t (T.bool (decide (strength s.toList = (7 : Int)))), V.t (T.bool x)]) []) (show (true) = (strength s.toList != (0 : Int)) by simp [strength, *])))
                    · let t9 : Tp pr := .b (show (s.toList == [(47 : UInt8)]) = false by simpa using hc9)
                      by_cases hc10 : s.toList = [(37 : UInt8)]
                      · let t10 : Tp pr := .b (show (s.toList == [(37 : UInt8)]) = true by simpa using hc10)
                        exact .tpe [t0, t1, t2, t3, t4, t5, t6, t7, t8, t9, t10] (Out.val (V.tup [V.t (T.int IntKind.i64 (6 : Int)), V.t (T.bool false), V.t (T.bool true)]) []) (by kernel_rfl) (((congrArg (fun x => Out.val (V.tup [V.t (T.int IntKind.i64 x), V.t (T.bool false), V.t (T.bool true)]) []) (show ((6 : Int)) = (strength s.toList) by simp [strength, *])).trans (congrArg (fun x => Out.val (V.tup [V.t (T.int IntKind.i64 (strength s.toList)), V.t (T.bool x), V.t (T.bool true)]) []) (show (false) = (decide (strength s.toList = (7 : Int))) by simp [strength, *]))).trans (congrArg (fun x => Out.val (V.tup [V.t (T.int IntKind.i64 (strength s.toList)), V.t (T.bool (decide (strength s.toList = (7 : Int)))), V.t (T.bool x)]) []) (show (true) = (strength s.toList != (0 : Int)) by simp [strength, *])))
                      · let t10 : Tp pr := .b (show (s.toList == [(37 : UInt8)]) = false by simpa using hc10)
                        by_cases hc11 : s.toList = [(60 : UInt8), (60 : UInt8)]
                        · let t11 : Tp pr := .b (show (s.toList == [(60 : UInt8), (60 : UInt8)]) = true by simpa using hc11)
                          exact .tpe [t0, t1, t2, t3, t4, t5, t6, t7, t8, t9, t10, t11] (Out.val (V.tup [V.t (T.int IntKind.i64 (7 : Int)), V.t (T.bool true), V.t (T.bool true)]) []) (by kernel_rfl) (((congrArg (fun x => Out.val (V.tup [V.t (T.int IntKind.i64 x), V.t (T.bool true), V.t (T.bool true)]) []) (show ((7 : Int)) = (strength s.toList) by simp [strength, *])).trans (congrArg (fun x => Out.val (V.tup [V.t (T.int IntKind.i64 (strength s.toList)), V.t (T.bool x), V.t (T.bool true)]) []) (show (true) = (decide (strength s.toList = (7 : Int))) by simp [strength, *]))).trans (congrArg (fun x => Out.val (V.tup [V.t (T.int IntKind.i64 (strength s.toList)), V.t (T.bool (decide (strength s.toList = (7 : Int)))), V.t (T.bool x)]) []) (show (true) = (strength s.toList != (0 : Int)) by simp [strength, *])))
                        · let t11 : Tp pr := .b (show (s.toList == [(60 : UInt8), (60 : UInt8)]) = false by simpa using hc11)
                          exact .tpe [t0, t1, t2, t3, t4, t5, t6, t7, t8, t9, t10, t11] (Out.val (V.tup [V.t (T.int IntKind.i64 (0 : Int)), V.t (T.bool false), V.t (T.bool false)]) []) (by kernel_rfl) (((congrArg (fun x => Out.val (V.tup [V.t (T.int IntKind.i64 x), V.t (T.bool false), V.t (T.bool false)]) []) (show ((0 : Int)) = (strength s.toList) by simp [strength, *])).trans (congrArg (fun x => Out.val (V.tup [V.t (T.int IntKind.i64 (strength s.toList)), V.t (T.bool x), V.t (T.bool false)]) []) (show (false) = (decide (strength s.toList = (7 : Int))) by simp [strength, *]))).trans (congrArg (fun x => Out.val (V.tup [V.t (T.int IntKind.i64 (strength s.toList)), V.t (T.bool (decide (strength s.toList = (7 : Int)))), V.t (T.bool x)]) []) (show (false) = (strength s.toList != (0 : Int)) by simp [strength, *])))
theorem l2Strength_ev (s : ByteArray) : Ev pr (.call 130 [.t (.str s)] []) (.val (i64 (strength s.toList)) []) := by
  by_cases hc0 : s.toList = [(124 : UInt8), (124 : UInt8)]
  · let t0 : Tp pr := .b (show (s.toList == [(124 : UInt8), (124 : UInt8)]) = true by simpa using hc0)
    exact .tpe [t0] (Out.val (V.t (T.int IntKind.i64 (1 : Int))) []) (by kernel_rfl) (congrArg (fun x => Out.val (V.t (T.int IntKind.i64 x)) []) (show ((1 : Int)) = (strength s.toList) by simp [strength, *]))
  · let t0 : Tp pr := .b (show (s.toList == [(124 : UInt8), (124 : UInt8)]) = false by simpa using hc0)
    by_cases hc1 : s.toList = [(38 : UInt8), (38 : UInt8)]
    · let t1 : Tp pr := .b (show (s.toList == [(38 : UInt8), (38 : UInt8)]) = true by simpa using hc1)
      exact .tpe [t0, t1] (Out.val (V.t (T.int IntKind.i64 (2 : Int))) []) (by kernel_rfl) (congrArg (fun x => Out.val (V.t (T.int IntKind.i64 x)) []) (show ((2 : Int)) = (strength s.toList) by simp [strength, *]))
    · let t1 : Tp pr := .b (show (s.toList == [(38 : UInt8), (38 : UInt8)]) = false by simpa using hc1)
      by_cases hc2 : s.toList = [(61 : UInt8), (61 : UInt8)]
      · let t2 : Tp pr := .b (show (s.toList == [(61 : UInt8), (61 : UInt8)]) = true by simpa using hc2)
        let t3 : Tp pr := .b (show (s.toList == [(61 : UInt8), (61 : UInt8)]) = true by (simp; omega))
        exact .tpe [t0, t1, t2, t3] (Out.val (V.t (T.int IntKind.i64 (3 : Int))) []) (by kernel_rfl) (congrArg (fun x => Out.val (V.t (T.int IntKind.i64 x)) []) (show ((3 : Int)) = (strength s.toList) by simp [strength, *]))
      · let t2 : Tp pr := .b (show (s.toList == [(61 : UInt8), (61 : UInt8)]) = false by simpa using hc2)
        by_cases hc3 : s.toList = [(33 : UInt8), (61 : UInt8)]
        · let t3 : Tp pr := .b (show (s.toList == [(33 : UInt8), (61 : UInt8)]) = true by simpa using hc3)
          exact .tpe [t0, t1, t2, t3] (Out.val (V.t (T.int IntKind.i64 (3 : Int))) []) (by kernel_rfl) (congrArg (fun x => Out.val (V.t (T.int IntKind.i64 x)) []) (show ((3 : Int)) = (strength s.toList) by simp [strength, *]))
        · let t3 : Tp pr := .b (show (s.toList == [(33 : UInt8), (61 : UInt8)]) = false by simpa using hc3)
          by_cases hc4 : s.toList = [(60 : UInt8)]
          · let t4 : Tp pr := .b (show (s.toList == [(60 : UInt8)]) = true by simpa using hc4)
            let t5 : Tp pr := .b (show (s.toList == [(60 : UInt8)]) = true by (simp; omega))
            exact .tpe [t0, t1, t2, t3, t4, t5] (Out.val (V.t (T.int IntKind.i64 (4 : Int))) []) (by kernel_rfl) (congrArg (fun x => Out.val (V.t (T.int IntKind.i64 x)) []) (show ((4 : Int)) = (strength s.toList) by simp [strength, *]))
          · let t4 : Tp pr := .b (show (s.toList == [(60 : UInt8)]) = false by simpa using hc4)
            by_cases hc5 : s.toList = [(60 : UInt8), (61 : UInt8)]
            · let t5 : Tp pr := .b (show (s.toList == [(60 : UInt8), (61 : UInt8)]) = true by simpa using hc5)
              exact .tpe [t0, t1, t2, t3, t4, t5] (Out.val (V.t (T.int IntKind.i64 (4 : Int))) []) (by kernel_rfl) (congrArg (fun x => Out.val (V.t (T.int IntKind.i64 x)) []) (show ((4 : Int)) = (strength s.toList) by simp [strength, *]))
            · let t5 : Tp pr := .b (show (s.toList == [(60 : UInt8), (61 : UInt8)]) = false by simpa using hc5)
              by_cases hc6 : s.toList = [(43 : UInt8)]
              · let t6 : Tp pr := .b (show (s.toList == [(43 : UInt8)]) = true by simpa using hc6)
                let t7 : Tp pr := .b (show (s.toList == [(43 : UInt8)]) = true by (simp; omega))
                exact .tpe [t0, t1, t2, t3, t4, t5, t6, t7] (Out.val (V.t (T.int IntKind.i64 (5 : Int))) []) (by kernel_rfl) (congrArg (fun x => Out.val (V.t (T.int IntKind.i64 x)) []) (show ((5 : Int)) = (strength s.toList) by simp [strength, *]))
              · let t6 : Tp pr := .b (show (s.toList == [(43 : UInt8)]) = false by simpa using hc6)
                by_cases hc7 : s.toList = [(45 : UInt8)]
                · let t7 : Tp pr := .b (show (s.toList == [(45 : UInt8)]) = true by simpa using hc7)
                  exact .tpe [t0, t1, t2, t3, t4, t5, t6, t7] (Out.val (V.t (T.int IntKind.i64 (5 : Int))) []) (by kernel_rfl) (congrArg (fun x => Out.val (V.t (T.int IntKind.i64 x)) []) (show ((5 : Int)) = (strength s.toList) by simp [strength, *]))
                · let t7 : Tp pr := .b (show (s.toList == [(45 : UInt8)]) = false by simpa using hc7)
                  by_cases hc8 : s.toList = [(42 : UInt8)]
                  · let t8 : Tp pr := .b (show (s.toList == [(42 : UInt8)]) = true by simpa using hc8)
                    let t9 : Tp pr := .b (show (s.toList == [(42 : UInt8)]) = true by (simp; omega))
                    exact .tpe [t0, t1, t2, t3, t4, t5, t6, t7, t8, t9] (Out.val (V.t (T.int IntKind.i64 (6 : Int))) []) (by kernel_rfl) (congrArg (fun x => Out.val (V.t (T.int IntKind.i64 x)) []) (show ((6 : Int)) = (strength s.toList) by simp [strength, *]))
                  · let t8 : Tp pr := .b (show (s.toList == [(42 : UInt8)]) = false by simpa using hc8)
                    by_cases hc9 : s.toList = [(47 : UInt8)]
                    · let t9 : Tp pr := .b (show (s.toList == [(47 : UInt8)]) = true by simpa using hc9)
                      let t10 : Tp pr := .b (show (s.toList == [(47 : UInt8)]) = true by (simp; omega))
                      exact .tpe [t0, t1, t2, t3, t4, t5, t6, t7, t8, t9, t10] (Out.val (V.t (T.int IntKind.i64 (6 : Int))) []) (by kernel_rfl) (congrArg (fun x => Out.val (V.t (T.int IntKind.i64 x)) []) (show ((6 : Int)) = (strength s.toList) by simp [strength, *]))
                    · let t9 : Tp pr := .b (show (s.toList == [(47 : UInt8)]) = false by simpa using hc9)
                      by_cases hc10 : s.toList = [(37 : UInt8)]
                      · let t10 : Tp pr := .b (show (s.toList == [(37 : UInt8)]) = true by simpa using hc10)
                        exact .tpe [t0, t1, t2, t3, t4, t5, t6, t7, t8, t9, t10] (Out.val (V.t (T.int IntKind.i64 (6 : Int))) []) (by kernel_rfl) (congrArg (fun x => Out.val (V.t (T.int IntKind.i64 x)) []) (show ((6 : Int)) = (strength s.toList) by simp [strength, *]))
                      · let t10 : Tp pr := .b (show (s.toList == [(37 : UInt8)]) = false by simpa using hc10)
                        by_cases hc11 : s.toList = [(60 : UInt8), (60 : UInt8)]
                        · let t11 : Tp pr := .b (show (s.toList == [(60 : UInt8), (60 : UInt8)]) = true by simpa using hc11)
                          exact .tpe [t0, t1, t2, t3, t4, t5, t6, t7, t8, t9, t10, t11] (Out.val (V.t (T.int IntKind.i64 (7 : Int))) []) (by kernel_rfl) (congrArg (fun x => Out.val (V.t (T.int IntKind.i64 x)) []) (show ((7 : Int)) = (strength s.toList) by simp [strength, *]))
                        · let t11 : Tp pr := .b (show (s.toList == [(60 : UInt8), (60 : UInt8)]) = false by simpa using hc11)
                          exact .tpe [t0, t1, t2, t3, t4, t5, t6, t7, t8, t9, t10, t11] (Out.val (V.t (T.int IntKind.i64 (0 : Int))) []) (by kernel_rfl) (congrArg (fun x => Out.val (V.t (T.int IntKind.i64 x)) []) (show ((0 : Int)) = (strength s.toList) by simp [strength, *]))
theorem l1In_ev (x lo hi : Int) : Ev pr (.call 57 [i64 x, i64 lo, i64 hi] []) (.val (bl (decide (x ≥ lo) && decide (x ≤ hi))) []) := by
  by_cases hc0 : lo ≤ x
  · let t0 : Tp pr := .b (show (decide (x ≥ lo)) = true by simpa using hc0)
    exact .tpe [t0] (Out.val (V.t (T.bool (decide (x ≤ hi)))) []) (by kernel_rfl) (congrArg (fun x => Out.val (V.t (T.bool x)) []) (show (decide (x ≤ hi)) = (decide (x ≥ lo) && decide (x ≤ hi)) by simp [bl, *]))
  · let t0 : Tp pr := .b (show (decide (x ≥ lo)) = false by simpa using hc0)
    exact .tpe [t0] (Out.val (V.t (T.bool false)) []) (by kernel_rfl) (congrArg (fun x => Out.val (V.t (T.bool x)) []) (show (false) = (decide (x ≥ lo) && decide (x ≤ hi)) by simp [bl, *]))
end Go.Ev

/- Numbers of two. -/
namespace Go.Ev
set_option linter.unusedVariables false
set_option linter.unusedSimpArgs false
open Go.Proofs
set_option maxRecDepth 100000
set_option linter.unusedVariables false
set_option maxHeartbeats 1000000
theorem boolNum_ev (b : Bool) : Ev pr (.call 111 [bl b] []) (.val (i64 (tru b)) []) := by
  cases b with
  | true => exact .tp [.b (rfl : true = true)] (by kernel_rfl)
  | false => exact .tp [.b (rfl : false = false)] (by kernel_rfl)
theorem l2Truth_ev (b : Bool) : Ev pr (.call 123 [bl b] []) (.val (i64 (tru b)) []) := by
  cases b with
  | true => exact .tp [.b (rfl : true = true)] (by kernel_rfl)
  | false => exact .tp [.b (rfl : false = false)] (by kernel_rfl)
theorem bounded_ev (n : Int) : Ev pr (.call 131 [i64 n] []) (.val (.tup [i64 (inB n).1, i64 (inB n).2]) []) := by
  let t0 : Tp pr := .a (within_ev (n) ((-1000000000 : Int)) ((1000000000 : Int)))
  by_cases hc1 : n < (-1000000000 : Int) ∨ (1000000000 : Int) < n
  · let t1 : Tp pr := .b (show (!(decide (n ≥ (-1000000000 : Int)) && decide (n ≤ (1000000000 : Int)))) = true by simpa using hc1)
    exact .tpe [t0, t1] (Out.val (V.tup [V.t (T.int IntKind.i64 (0 : Int)), V.t (T.int IntKind.i64 (3 : Int))]) []) (by kernel_rfl) ((congrArg (fun x => Out.val (V.tup [V.t (T.int IntKind.i64 x), V.t (T.int IntKind.i64 (3 : Int))]) []) (show ((0 : Int)) = ((inB n).fst) by grind [inB])).trans (congrArg (fun x => Out.val (V.tup [V.t (T.int IntKind.i64 (inB n).fst), V.t (T.int IntKind.i64 x)]) []) (show ((3 : Int)) = ((inB n).snd) by grind [inB])))
  · let t1 : Tp pr := .b (show (!(decide (n ≥ (-1000000000 : Int)) && decide (n ≤ (1000000000 : Int)))) = false by simpa using hc1)
    exact .tpe [t0, t1] (Out.val (V.tup [V.t (T.int IntKind.i64 n), V.t (T.int IntKind.i64 (0 : Int))]) []) (by kernel_rfl) ((congrArg (fun x => Out.val (V.tup [V.t (T.int IntKind.i64 x), V.t (T.int IntKind.i64 (0 : Int))]) []) (show (n) = ((inB n).fst) by grind [inB])).trans (congrArg (fun x => Out.val (V.tup [V.t (T.int IntKind.i64 (inB n).fst), V.t (T.int IntKind.i64 x)]) []) (show ((0 : Int)) = ((inB n).snd) by grind [inB])))
theorem l2Bound_ev (n : Int) : Ev pr (.call 90 [i64 n] []) (.val (bl (decide (n ≥ -1000000000) && decide (n ≤ 1000000000))) []) := by
  let t0 : Tp pr := .a (l1In_ev (n) ((-1000000000 : Int)) ((1000000000 : Int)))
  exact .tp [t0] (by kernel_rfl)
theorem two_ev (s : ByteArray) (a b : Int) (ha : -1000000000 ≤ a) (ha2 : a ≤ 1000000000) (hb : -1000000000 ≤ b) (hb2 : b ≤ 1000000000) : Ev pr (.call 121 [.t (.str s), i64 a, i64 b] []) (.val (.tup [i64 (two2 s.toList a b).1, i64 (two2 s.toList a b).2]) []) := by
  have hm := mul_bd ha ha2 hb hb2
  have hq := tdiv_bd b ha ha2
  have hr := tmod_bd b ha ha2
  by_cases hs : 0 ≤ b ∧ b ≤ 20
  · have hp : pow2 b 64 = 2 ^ b.toNat := by
      have := pow2_eq (n := b.toNat) (by omega)
      rwa [Int.toNat_of_nonneg hs.1] at this
    have hp2 := pow_bd (n := b.toNat) (by omega)
    rw [← hp] at hp2
    have hp3 := mulp_bd ha ha2 hp2
    have hp4 : (1 : Int) * pow2 b 64 = pow2 b 64 := by omega
    by_cases hc0 : s.toList = [(43 : UInt8)]
    · let t0 : Tp pr := .b (show (s.toList == [(43 : UInt8)]) = true by simpa using hc0)
      let t1 : Tp pr := .i (wrap_i64 (a := a + b) (by omega) (by omega))
      exact .tpe [t0, t1, .a (bounded_ev (a + b))] (Out.val (V.tup [V.t (T.int IntKind.i64 (inB (a + b)).fst), V.t (T.int IntKind.i64 (inB (a + b)).snd)]) []) (by kernel_rfl) ((congrArg (fun x => Out.val (V.tup [V.t (T.int IntKind.i64 x), V.t (T.int IntKind.i64 (inB (a + b)).snd)]) []) (show ((inB (a + b)).fst) = ((two2 s.toList a b).fst) by grind [two2])).trans (congrArg (fun x => Out.val (V.tup [V.t (T.int IntKind.i64 (two2 s.toList a b).fst), V.t (T.int IntKind.i64 x)]) []) (show ((inB (a + b)).snd) = ((two2 s.toList a b).snd) by grind [two2])))
    · let t0 : Tp pr := .b (show (s.toList == [(43 : UInt8)]) = false by simpa using hc0)
      by_cases hc1 : s.toList = [(45 : UInt8)]
      · let t1 : Tp pr := .b (show (s.toList == [(45 : UInt8)]) = true by simpa using hc1)
        let t2 : Tp pr := .i (wrap_i64 (a := a - b) (by omega) (by omega))
        exact .tpe [t0, t1, t2, .a (bounded_ev (a - b))] (Out.val (V.tup [V.t (T.int IntKind.i64 (inB (a - b)).fst), V.t (T.int IntKind.i64 (inB (a - b)).snd)]) []) (by kernel_rfl) ((congrArg (fun x => Out.val (V.tup [V.t (T.int IntKind.i64 x), V.t (T.int IntKind.i64 (inB (a - b)).snd)]) []) (show ((inB (a - b)).fst) = ((two2 s.toList a b).fst) by grind [two2])).trans (congrArg (fun x => Out.val (V.tup [V.t (T.int IntKind.i64 (two2 s.toList a b).fst), V.t (T.int IntKind.i64 x)]) []) (show ((inB (a - b)).snd) = ((two2 s.toList a b).snd) by grind [two2])))
      · let t1 : Tp pr := .b (show (s.toList == [(45 : UInt8)]) = false by simpa using hc1)
        by_cases hc2 : s.toList = [(42 : UInt8)]
        · let t2 : Tp pr := .b (show (s.toList == [(42 : UInt8)]) = true by simpa using hc2)
          let t3 : Tp pr := .i (wrap_i64 (a := a * b) (by omega) (by omega))
          exact .tpe [t0, t1, t2, t3, .a (bounded_ev (a * b))] (Out.val (V.tup [V.t (T.int IntKind.i64 (inB (a * b)).fst), V.t (T.int IntKind.i64 (inB (a * b)).snd)]) []) (by kernel_rfl) ((congrArg (fun x => Out.val (V.tup [V.t (T.int IntKind.i64 x), V.t (T.int IntKind.i64 (inB (a * b)).snd)]) []) (show ((inB (a * b)).fst) = ((two2 s.toList a b).fst) by grind [two2])).trans (congrArg (fun x => Out.val (V.tup [V.t (T.int IntKind.i64 (two2 s.toList a b).fst), V.t (T.int IntKind.i64 x)]) []) (show ((inB (a * b)).snd) = ((two2 s.toList a b).snd) by grind [two2])))
        · let t2 : Tp pr := .b (show (s.toList == [(42 : UInt8)]) = false by simpa using hc2)
          by_cases hc3 : s.toList = [(47 : UInt8)]
          · let t3 : Tp pr := .b (show (s.toList == [(47 : UInt8)]) = true by simpa using hc3)
            let t4 : Tp pr := .b (show (s.toList == [(47 : UInt8)]) = true by (simp; omega))
            by_cases hc5 : b = (0 : Int)
            · let t5 : Tp pr := .b (show (decide (b = (0 : Int))) = true by simpa using hc5)
              exact .tpe [t0, t1, t2, t3, t4, t5] (Out.val (V.tup [V.t (T.int IntKind.i64 (0 : Int)), V.t (T.int IntKind.i64 (2 : Int))]) []) (by kernel_rfl) ((congrArg (fun x => Out.val (V.tup [V.t (T.int IntKind.i64 x), V.t (T.int IntKind.i64 (2 : Int))]) []) (show ((0 : Int)) = ((two2 s.toList a b).fst) by grind [two2])).trans (congrArg (fun x => Out.val (V.tup [V.t (T.int IntKind.i64 (two2 s.toList a b).fst), V.t (T.int IntKind.i64 x)]) []) (show ((2 : Int)) = ((two2 s.toList a b).snd) by grind [two2])))
            · let t5 : Tp pr := .b (show (decide (b = (0 : Int))) = false by simpa using hc5)
              let t6 : Tp pr := .b (show (s.toList == [(47 : UInt8)]) = true by (simp; omega))
              let t7 : Tp pr := .m (show (decide (b ≠ (0 : Int))) = true by simp [*])
              let t8 : Tp pr := .i (wrap_i64 (a := a.tdiv b) (by omega) (by omega))
              exact .tpe [t0, t1, t2, t3, t4, t5, t6, t7, t8] (Out.val (V.tup [V.t (T.int IntKind.i64 (a.tdiv b)), V.t (T.int IntKind.i64 (0 : Int))]) []) (by kernel_rfl) ((congrArg (fun x => Out.val (V.tup [V.t (T.int IntKind.i64 x), V.t (T.int IntKind.i64 (0 : Int))]) []) (show (a.tdiv b) = ((two2 s.toList a b).fst) by grind [two2])).trans (congrArg (fun x => Out.val (V.tup [V.t (T.int IntKind.i64 (two2 s.toList a b).fst), V.t (T.int IntKind.i64 x)]) []) (show ((0 : Int)) = ((two2 s.toList a b).snd) by grind [two2])))
          · let t3 : Tp pr := .b (show (s.toList == [(47 : UInt8)]) = false by simpa using hc3)
            by_cases hc4 : s.toList = [(37 : UInt8)]
            · let t4 : Tp pr := .b (show (s.toList == [(37 : UInt8)]) = true by simpa using hc4)
              by_cases hc5 : b = (0 : Int)
              · let t5 : Tp pr := .b (show (decide (b = (0 : Int))) = true by simpa using hc5)
                exact .tpe [t0, t1, t2, t3, t4, t5] (Out.val (V.tup [V.t (T.int IntKind.i64 (0 : Int)), V.t (T.int IntKind.i64 (2 : Int))]) []) (by kernel_rfl) ((congrArg (fun x => Out.val (V.tup [V.t (T.int IntKind.i64 x), V.t (T.int IntKind.i64 (2 : Int))]) []) (show ((0 : Int)) = ((two2 s.toList a b).fst) by grind [two2])).trans (congrArg (fun x => Out.val (V.tup [V.t (T.int IntKind.i64 (two2 s.toList a b).fst), V.t (T.int IntKind.i64 x)]) []) (show ((2 : Int)) = ((two2 s.toList a b).snd) by grind [two2])))
              · let t5 : Tp pr := .b (show (decide (b = (0 : Int))) = false by simpa using hc5)
                let t6 : Tp pr := .b (show (s.toList == [(47 : UInt8)]) = false by (simp; omega))
                let t7 : Tp pr := .m (show (decide (b ≠ (0 : Int))) = true by simp [*])
                exact .tpe [t0, t1, t2, t3, t4, t5, t6, t7, .i (rfl : (a.tmod b) = _)] (Out.val (V.tup [V.t (T.int IntKind.i64 (a.tmod b)), V.t (T.int IntKind.i64 (0 : Int))]) []) (by kernel_rfl) ((congrArg (fun x => Out.val (V.tup [V.t (T.int IntKind.i64 x), V.t (T.int IntKind.i64 (0 : Int))]) []) (show (a.tmod b) = ((two2 s.toList a b).fst) by grind [two2])).trans (congrArg (fun x => Out.val (V.tup [V.t (T.int IntKind.i64 (two2 s.toList a b).fst), V.t (T.int IntKind.i64 x)]) []) (show ((0 : Int)) = ((two2 s.toList a b).snd) by grind [two2])))
            · let t4 : Tp pr := .b (show (s.toList == [(37 : UInt8)]) = false by simpa using hc4)
              by_cases hc5 : s.toList = [(60 : UInt8), (60 : UInt8)]
              · let t5 : Tp pr := .b (show (s.toList == [(60 : UInt8), (60 : UInt8)]) = true by simpa using hc5)
                let t6 : Tp pr := .a (within_ev (b) ((0 : Int)) ((20 : Int)))
                let t7 : Tp pr := .b (show (!(decide (b ≥ (0 : Int)) && decide (b ≤ (20 : Int)))) = false by (simp; omega))
                let t8 : Tp pr := .m (show (decide ((0 : Int) ≤ b)) = true by simp [*])
                let t9 : Tp pr := .i (wrap_i64 (a := (1 : Int) * pow2 b (64 : Nat)) (by omega) (by omega))
                let t10 : Tp pr := .i (wrap_i64 (a := a * ((1 : Int) * pow2 b (64 : Nat))) (by (simp; omega)) (by (simp; omega)))
                let t11 : Tp pr := .a (bounded_ev (a * ((1 : Int) * pow2 b (64 : Nat))))
                exact .tpe [t0, t1, t2, t3, t4, t5, t6, t7, t8, t9, t10, t11] (Out.val (V.tup [V.t (T.int IntKind.i64 (inB (a * ((1 : Int) * pow2 b (64 : Nat)))).fst), V.t (T.int IntKind.i64 (inB (a * ((1 : Int) * pow2 b (64 : Nat)))).snd)]) []) (by kernel_rfl) ((congrArg (fun x => Out.val (V.tup [V.t (T.int IntKind.i64 x), V.t (T.int IntKind.i64 (inB (a * ((1 : Int) * pow2 b (64 : Nat)))).snd)]) []) (show ((inB (a * ((1 : Int) * pow2 b (64 : Nat)))).fst) = ((two2 s.toList a b).fst) by grind [two2])).trans (congrArg (fun x => Out.val (V.tup [V.t (T.int IntKind.i64 (two2 s.toList a b).fst), V.t (T.int IntKind.i64 x)]) []) (show ((inB (a * ((1 : Int) * pow2 b (64 : Nat)))).snd) = ((two2 s.toList a b).snd) by grind [two2])))
              · let t5 : Tp pr := .b (show (s.toList == [(60 : UInt8), (60 : UInt8)]) = false by simpa using hc5)
                by_cases hc6 : s.toList = [(60 : UInt8)]
                · let t6 : Tp pr := .b (show (s.toList == [(60 : UInt8)]) = true by simpa using hc6)
                  exact .tpe [t0, t1, t2, t3, t4, t5, t6, .a (boolNum_ev (decide (a < b)))] (Out.val (V.tup [V.t (T.int IntKind.i64 (tru (decide (a < b)))), V.t (T.int IntKind.i64 (0 : Int))]) []) (by kernel_rfl) ((congrArg (fun x => Out.val (V.tup [V.t (T.int IntKind.i64 x), V.t (T.int IntKind.i64 (0 : Int))]) []) (show (tru (decide (a < b))) = ((two2 s.toList a b).fst) by grind [two2])).trans (congrArg (fun x => Out.val (V.tup [V.t (T.int IntKind.i64 (two2 s.toList a b).fst), V.t (T.int IntKind.i64 x)]) []) (show ((0 : Int)) = ((two2 s.toList a b).snd) by grind [two2])))
                · let t6 : Tp pr := .b (show (s.toList == [(60 : UInt8)]) = false by simpa using hc6)
                  by_cases hc7 : s.toList = [(60 : UInt8), (61 : UInt8)]
                  · let t7 : Tp pr := .b (show (s.toList == [(60 : UInt8), (61 : UInt8)]) = true by simpa using hc7)
                    exact .tpe [t0, t1, t2, t3, t4, t5, t6, t7, .a (boolNum_ev (decide (a ≤ b)))] (Out.val (V.tup [V.t (T.int IntKind.i64 (tru (decide (a ≤ b)))), V.t (T.int IntKind.i64 (0 : Int))]) []) (by kernel_rfl) ((congrArg (fun x => Out.val (V.tup [V.t (T.int IntKind.i64 x), V.t (T.int IntKind.i64 (0 : Int))]) []) (show (tru (decide (a ≤ b))) = ((two2 s.toList a b).fst) by grind [two2])).trans (congrArg (fun x => Out.val (V.tup [V.t (T.int IntKind.i64 (two2 s.toList a b).fst), V.t (T.int IntKind.i64 x)]) []) (show ((0 : Int)) = ((two2 s.toList a b).snd) by grind [two2])))
                  · let t7 : Tp pr := .b (show (s.toList == [(60 : UInt8), (61 : UInt8)]) = false by simpa using hc7)
                    by_cases hc8 : s.toList = [(61 : UInt8), (61 : UInt8)]
                    · let t8 : Tp pr := .b (show (s.toList == [(61 : UInt8), (61 : UInt8)]) = true by simpa using hc8)
                      exact .tpe [t0, t1, t2, t3, t4, t5, t6, t7, t8, .a (boolNum_ev (decide (a = b)))] (Out.val (V.tup [V.t (T.int IntKind.i64 (tru (decide (a = b)))), V.t (T.int IntKind.i64 (0 : Int))]) []) (by kernel_rfl) ((congrArg (fun x => Out.val (V.tup [V.t (T.int IntKind.i64 x), V.t (T.int IntKind.i64 (0 : Int))]) []) (show (tru (decide (a = b))) = ((two2 s.toList a b).fst) by grind [two2])).trans (congrArg (fun x => Out.val (V.tup [V.t (T.int IntKind.i64 (two2 s.toList a b).fst), V.t (T.int IntKind.i64 x)]) []) (show ((0 : Int)) = ((two2 s.toList a b).snd) by grind [two2])))
                    · let t8 : Tp pr := .b (show (s.toList == [(61 : UInt8), (61 : UInt8)]) = false by simpa using hc8)
                      exact .tpe [t0, t1, t2, t3, t4, t5, t6, t7, t8, .a (boolNum_ev (a != b))] (Out.val (V.tup [V.t (T.int IntKind.i64 (tru (a != b))), V.t (T.int IntKind.i64 (0 : Int))]) []) (by kernel_rfl) ((congrArg (fun x => Out.val (V.tup [V.t (T.int IntKind.i64 x), V.t (T.int IntKind.i64 (0 : Int))]) []) (show (tru (a != b)) = ((two2 s.toList a b).fst) by grind [two2])).trans (congrArg (fun x => Out.val (V.tup [V.t (T.int IntKind.i64 (two2 s.toList a b).fst), V.t (T.int IntKind.i64 x)]) []) (show ((0 : Int)) = ((two2 s.toList a b).snd) by grind [two2])))
  · by_cases hc0 : s.toList = [(43 : UInt8)]
    · let t0 : Tp pr := .b (show (s.toList == [(43 : UInt8)]) = true by simpa using hc0)
      let t1 : Tp pr := .i (wrap_i64 (a := a + b) (by omega) (by omega))
      exact .tpe [t0, t1, .a (bounded_ev (a + b))] (Out.val (V.tup [V.t (T.int IntKind.i64 (inB (a + b)).fst), V.t (T.int IntKind.i64 (inB (a + b)).snd)]) []) (by kernel_rfl) ((congrArg (fun x => Out.val (V.tup [V.t (T.int IntKind.i64 x), V.t (T.int IntKind.i64 (inB (a + b)).snd)]) []) (show ((inB (a + b)).fst) = ((two2 s.toList a b).fst) by grind [two2])).trans (congrArg (fun x => Out.val (V.tup [V.t (T.int IntKind.i64 (two2 s.toList a b).fst), V.t (T.int IntKind.i64 x)]) []) (show ((inB (a + b)).snd) = ((two2 s.toList a b).snd) by grind [two2])))
    · let t0 : Tp pr := .b (show (s.toList == [(43 : UInt8)]) = false by simpa using hc0)
      by_cases hc1 : s.toList = [(45 : UInt8)]
      · let t1 : Tp pr := .b (show (s.toList == [(45 : UInt8)]) = true by simpa using hc1)
        let t2 : Tp pr := .i (wrap_i64 (a := a - b) (by omega) (by omega))
        exact .tpe [t0, t1, t2, .a (bounded_ev (a - b))] (Out.val (V.tup [V.t (T.int IntKind.i64 (inB (a - b)).fst), V.t (T.int IntKind.i64 (inB (a - b)).snd)]) []) (by kernel_rfl) ((congrArg (fun x => Out.val (V.tup [V.t (T.int IntKind.i64 x), V.t (T.int IntKind.i64 (inB (a - b)).snd)]) []) (show ((inB (a - b)).fst) = ((two2 s.toList a b).fst) by grind [two2])).trans (congrArg (fun x => Out.val (V.tup [V.t (T.int IntKind.i64 (two2 s.toList a b).fst), V.t (T.int IntKind.i64 x)]) []) (show ((inB (a - b)).snd) = ((two2 s.toList a b).snd) by grind [two2])))
      · let t1 : Tp pr := .b (show (s.toList == [(45 : UInt8)]) = false by simpa using hc1)
        by_cases hc2 : s.toList = [(42 : UInt8)]
        · let t2 : Tp pr := .b (show (s.toList == [(42 : UInt8)]) = true by simpa using hc2)
          let t3 : Tp pr := .i (wrap_i64 (a := a * b) (by omega) (by omega))
          exact .tpe [t0, t1, t2, t3, .a (bounded_ev (a * b))] (Out.val (V.tup [V.t (T.int IntKind.i64 (inB (a * b)).fst), V.t (T.int IntKind.i64 (inB (a * b)).snd)]) []) (by kernel_rfl) ((congrArg (fun x => Out.val (V.tup [V.t (T.int IntKind.i64 x), V.t (T.int IntKind.i64 (inB (a * b)).snd)]) []) (show ((inB (a * b)).fst) = ((two2 s.toList a b).fst) by grind [two2])).trans (congrArg (fun x => Out.val (V.tup [V.t (T.int IntKind.i64 (two2 s.toList a b).fst), V.t (T.int IntKind.i64 x)]) []) (show ((inB (a * b)).snd) = ((two2 s.toList a b).snd) by grind [two2])))
        · let t2 : Tp pr := .b (show (s.toList == [(42 : UInt8)]) = false by simpa using hc2)
          by_cases hc3 : s.toList = [(47 : UInt8)]
          · let t3 : Tp pr := .b (show (s.toList == [(47 : UInt8)]) = true by simpa using hc3)
            let t4 : Tp pr := .b (show (s.toList == [(47 : UInt8)]) = true by (simp; omega))
            let t5 : Tp pr := .b (show (decide (b = (0 : Int))) = false by (simp; omega))
            let t6 : Tp pr := .b (show (s.toList == [(47 : UInt8)]) = true by (simp; omega))
            let t7 : Tp pr := .m (show (decide (b ≠ (0 : Int))) = true by (simp; omega))
            let t8 : Tp pr := .i (wrap_i64 (a := a.tdiv b) (by omega) (by omega))
            exact .tpe [t0, t1, t2, t3, t4, t5, t6, t7, t8] (Out.val (V.tup [V.t (T.int IntKind.i64 (a.tdiv b)), V.t (T.int IntKind.i64 (0 : Int))]) []) (by kernel_rfl) ((congrArg (fun x => Out.val (V.tup [V.t (T.int IntKind.i64 x), V.t (T.int IntKind.i64 (0 : Int))]) []) (show (a.tdiv b) = ((two2 s.toList a b).fst) by grind [two2])).trans (congrArg (fun x => Out.val (V.tup [V.t (T.int IntKind.i64 (two2 s.toList a b).fst), V.t (T.int IntKind.i64 x)]) []) (show ((0 : Int)) = ((two2 s.toList a b).snd) by grind [two2])))
          · let t3 : Tp pr := .b (show (s.toList == [(47 : UInt8)]) = false by simpa using hc3)
            by_cases hc4 : s.toList = [(37 : UInt8)]
            · let t4 : Tp pr := .b (show (s.toList == [(37 : UInt8)]) = true by simpa using hc4)
              let t5 : Tp pr := .b (show (decide (b = (0 : Int))) = false by (simp; omega))
              let t6 : Tp pr := .b (show (s.toList == [(47 : UInt8)]) = false by (simp; omega))
              let t7 : Tp pr := .m (show (decide (b ≠ (0 : Int))) = true by (simp; omega))
              exact .tpe [t0, t1, t2, t3, t4, t5, t6, t7, .i (rfl : (a.tmod b) = _)] (Out.val (V.tup [V.t (T.int IntKind.i64 (a.tmod b)), V.t (T.int IntKind.i64 (0 : Int))]) []) (by kernel_rfl) ((congrArg (fun x => Out.val (V.tup [V.t (T.int IntKind.i64 x), V.t (T.int IntKind.i64 (0 : Int))]) []) (show (a.tmod b) = ((two2 s.toList a b).fst) by grind [two2])).trans (congrArg (fun x => Out.val (V.tup [V.t (T.int IntKind.i64 (two2 s.toList a b).fst), V.t (T.int IntKind.i64 x)]) []) (show ((0 : Int)) = ((two2 s.toList a b).snd) by grind [two2])))
            · let t4 : Tp pr := .b (show (s.toList == [(37 : UInt8)]) = false by simpa using hc4)
              by_cases hc5 : s.toList = [(60 : UInt8), (60 : UInt8)]
              · let t5 : Tp pr := .b (show (s.toList == [(60 : UInt8), (60 : UInt8)]) = true by simpa using hc5)
                let t6 : Tp pr := .a (within_ev (b) ((0 : Int)) ((20 : Int)))
                let t7 : Tp pr := .b (show (!(decide (b ≥ (0 : Int)) && decide (b ≤ (20 : Int)))) = true by (simp; omega))
                exact .tpe [t0, t1, t2, t3, t4, t5, t6, t7] (Out.val (V.tup [V.t (T.int IntKind.i64 (0 : Int)), V.t (T.int IntKind.i64 (3 : Int))]) []) (by kernel_rfl) ((congrArg (fun x => Out.val (V.tup [V.t (T.int IntKind.i64 x), V.t (T.int IntKind.i64 (3 : Int))]) []) (show ((0 : Int)) = ((two2 s.toList a b).fst) by grind [two2])).trans (congrArg (fun x => Out.val (V.tup [V.t (T.int IntKind.i64 (two2 s.toList a b).fst), V.t (T.int IntKind.i64 x)]) []) (show ((3 : Int)) = ((two2 s.toList a b).snd) by grind [two2])))
              · let t5 : Tp pr := .b (show (s.toList == [(60 : UInt8), (60 : UInt8)]) = false by simpa using hc5)
                by_cases hc6 : s.toList = [(60 : UInt8)]
                · let t6 : Tp pr := .b (show (s.toList == [(60 : UInt8)]) = true by simpa using hc6)
                  exact .tpe [t0, t1, t2, t3, t4, t5, t6, .a (boolNum_ev (decide (a < b)))] (Out.val (V.tup [V.t (T.int IntKind.i64 (tru (decide (a < b)))), V.t (T.int IntKind.i64 (0 : Int))]) []) (by kernel_rfl) ((congrArg (fun x => Out.val (V.tup [V.t (T.int IntKind.i64 x), V.t (T.int IntKind.i64 (0 : Int))]) []) (show (tru (decide (a < b))) = ((two2 s.toList a b).fst) by grind [two2])).trans (congrArg (fun x => Out.val (V.tup [V.t (T.int IntKind.i64 (two2 s.toList a b).fst), V.t (T.int IntKind.i64 x)]) []) (show ((0 : Int)) = ((two2 s.toList a b).snd) by grind [two2])))
                · let t6 : Tp pr := .b (show (s.toList == [(60 : UInt8)]) = false by simpa using hc6)
                  by_cases hc7 : s.toList = [(60 : UInt8), (61 : UInt8)]
                  · let t7 : Tp pr := .b (show (s.toList == [(60 : UInt8), (61 : UInt8)]) = true by simpa using hc7)
                    exact .tpe [t0, t1, t2, t3, t4, t5, t6, t7, .a (boolNum_ev (decide (a ≤ b)))] (Out.val (V.tup [V.t (T.int IntKind.i64 (tru (decide (a ≤ b)))), V.t (T.int IntKind.i64 (0 : Int))]) []) (by kernel_rfl) ((congrArg (fun x => Out.val (V.tup [V.t (T.int IntKind.i64 x), V.t (T.int IntKind.i64 (0 : Int))]) []) (show (tru (decide (a ≤ b))) = ((two2 s.toList a b).fst) by grind [two2])).trans (congrArg (fun x => Out.val (V.tup [V.t (T.int IntKind.i64 (two2 s.toList a b).fst), V.t (T.int IntKind.i64 x)]) []) (show ((0 : Int)) = ((two2 s.toList a b).snd) by grind [two2])))
                  · let t7 : Tp pr := .b (show (s.toList == [(60 : UInt8), (61 : UInt8)]) = false by simpa using hc7)
                    by_cases hc8 : s.toList = [(61 : UInt8), (61 : UInt8)]
                    · let t8 : Tp pr := .b (show (s.toList == [(61 : UInt8), (61 : UInt8)]) = true by simpa using hc8)
                      exact .tpe [t0, t1, t2, t3, t4, t5, t6, t7, t8, .a (boolNum_ev (decide (a = b)))] (Out.val (V.tup [V.t (T.int IntKind.i64 (tru (decide (a = b)))), V.t (T.int IntKind.i64 (0 : Int))]) []) (by kernel_rfl) ((congrArg (fun x => Out.val (V.tup [V.t (T.int IntKind.i64 x), V.t (T.int IntKind.i64 (0 : Int))]) []) (show (tru (decide (a = b))) = ((two2 s.toList a b).fst) by grind [two2])).trans (congrArg (fun x => Out.val (V.tup [V.t (T.int IntKind.i64 (two2 s.toList a b).fst), V.t (T.int IntKind.i64 x)]) []) (show ((0 : Int)) = ((two2 s.toList a b).snd) by grind [two2])))
                    · let t8 : Tp pr := .b (show (s.toList == [(61 : UInt8), (61 : UInt8)]) = false by simpa using hc8)
                      exact .tpe [t0, t1, t2, t3, t4, t5, t6, t7, t8, .a (boolNum_ev (a != b))] (Out.val (V.tup [V.t (T.int IntKind.i64 (tru (a != b))), V.t (T.int IntKind.i64 (0 : Int))]) []) (by kernel_rfl) ((congrArg (fun x => Out.val (V.tup [V.t (T.int IntKind.i64 x), V.t (T.int IntKind.i64 (0 : Int))]) []) (show (tru (a != b)) = ((two2 s.toList a b).fst) by grind [two2])).trans (congrArg (fun x => Out.val (V.tup [V.t (T.int IntKind.i64 (two2 s.toList a b).fst), V.t (T.int IntKind.i64 x)]) []) (show ((0 : Int)) = ((two2 s.toList a b).snd) by grind [two2])))
theorem l2Do_ev (s : ByteArray) (a b : Int) (ha : -1000000000 ≤ a) (ha2 : a ≤ 1000000000) (hb : -1000000000 ≤ b) (hb2 : b ≤ 1000000000) : Ev pr (.call 124 [.t (.str s), i64 a, i64 b] []) (.val (.tup [i64 (do2 s.toList a b).1, i64 (do2 s.toList a b).2]) []) := by
  have hm := mul_bd ha ha2 hb hb2
  have hq := tdiv_bd b ha ha2
  have hr := tmod_bd b ha ha2
  by_cases hs : 0 ≤ b ∧ b ≤ 20
  · have hp : pow2 b 64 = 2 ^ b.toNat := by
      have := pow2_eq (n := b.toNat) (by omega)
      rwa [Int.toNat_of_nonneg hs.1] at this
    have hp2 := pow_bd (n := b.toNat) (by omega)
    rw [← hp] at hp2
    have hp3 := mulp_bd ha ha2 hp2
    by_cases hc0 : s.toList = [(43 : UInt8)]
    · let t0 : Tp pr := .b (show (s.toList == [(43 : UInt8)]) = true by simpa using hc0)
      let t1 : Tp pr := .i (wrap_i64 (a := a + b) (by omega) (by omega))
      exact .tpe [t0, t1] (Out.val (V.tup [V.t (T.int IntKind.i64 (a + b)), V.t (T.int IntKind.i64 (0 : Int))]) []) (by kernel_rfl) ((congrArg (fun x => Out.val (V.tup [V.t (T.int IntKind.i64 x), V.t (T.int IntKind.i64 (0 : Int))]) []) (show (a + b) = ((do2 s.toList a b).fst) by grind [do2])).trans (congrArg (fun x => Out.val (V.tup [V.t (T.int IntKind.i64 (do2 s.toList a b).fst), V.t (T.int IntKind.i64 x)]) []) (show ((0 : Int)) = ((do2 s.toList a b).snd) by grind [do2])))
    · let t0 : Tp pr := .b (show (s.toList == [(43 : UInt8)]) = false by simpa using hc0)
      by_cases hc1 : s.toList = [(45 : UInt8)]
      · let t1 : Tp pr := .b (show (s.toList == [(45 : UInt8)]) = true by simpa using hc1)
        let t2 : Tp pr := .i (wrap_i64 (a := a - b) (by omega) (by omega))
        exact .tpe [t0, t1, t2] (Out.val (V.tup [V.t (T.int IntKind.i64 (a - b)), V.t (T.int IntKind.i64 (0 : Int))]) []) (by kernel_rfl) ((congrArg (fun x => Out.val (V.tup [V.t (T.int IntKind.i64 x), V.t (T.int IntKind.i64 (0 : Int))]) []) (show (a - b) = ((do2 s.toList a b).fst) by grind [do2])).trans (congrArg (fun x => Out.val (V.tup [V.t (T.int IntKind.i64 (do2 s.toList a b).fst), V.t (T.int IntKind.i64 x)]) []) (show ((0 : Int)) = ((do2 s.toList a b).snd) by grind [do2])))
      · let t1 : Tp pr := .b (show (s.toList == [(45 : UInt8)]) = false by simpa using hc1)
        by_cases hc2 : s.toList = [(42 : UInt8)]
        · let t2 : Tp pr := .b (show (s.toList == [(42 : UInt8)]) = true by simpa using hc2)
          let t3 : Tp pr := .i (wrap_i64 (a := a * b) (by omega) (by omega))
          exact .tpe [t0, t1, t2, t3] (Out.val (V.tup [V.t (T.int IntKind.i64 (a * b)), V.t (T.int IntKind.i64 (0 : Int))]) []) (by kernel_rfl) ((congrArg (fun x => Out.val (V.tup [V.t (T.int IntKind.i64 x), V.t (T.int IntKind.i64 (0 : Int))]) []) (show (a * b) = ((do2 s.toList a b).fst) by grind [do2])).trans (congrArg (fun x => Out.val (V.tup [V.t (T.int IntKind.i64 (do2 s.toList a b).fst), V.t (T.int IntKind.i64 x)]) []) (show ((0 : Int)) = ((do2 s.toList a b).snd) by grind [do2])))
        · let t2 : Tp pr := .b (show (s.toList == [(42 : UInt8)]) = false by simpa using hc2)
          by_cases hc3 : s.toList = [(60 : UInt8)]
          · let t3 : Tp pr := .b (show (s.toList == [(60 : UInt8)]) = true by simpa using hc3)
            exact .tpe [t0, t1, t2, t3, .a (l2Truth_ev (decide (a < b)))] (Out.val (V.tup [V.t (T.int IntKind.i64 (tru (decide (a < b)))), V.t (T.int IntKind.i64 (0 : Int))]) []) (by kernel_rfl) ((congrArg (fun x => Out.val (V.tup [V.t (T.int IntKind.i64 x), V.t (T.int IntKind.i64 (0 : Int))]) []) (show (tru (decide (a < b))) = ((do2 s.toList a b).fst) by grind [do2])).trans (congrArg (fun x => Out.val (V.tup [V.t (T.int IntKind.i64 (do2 s.toList a b).fst), V.t (T.int IntKind.i64 x)]) []) (show ((0 : Int)) = ((do2 s.toList a b).snd) by grind [do2])))
          · let t3 : Tp pr := .b (show (s.toList == [(60 : UInt8)]) = false by simpa using hc3)
            by_cases hc4 : s.toList = [(60 : UInt8), (61 : UInt8)]
            · let t4 : Tp pr := .b (show (s.toList == [(60 : UInt8), (61 : UInt8)]) = true by simpa using hc4)
              exact .tpe [t0, t1, t2, t3, t4, .a (l2Truth_ev (decide (a ≤ b)))] (Out.val (V.tup [V.t (T.int IntKind.i64 (tru (decide (a ≤ b)))), V.t (T.int IntKind.i64 (0 : Int))]) []) (by kernel_rfl) ((congrArg (fun x => Out.val (V.tup [V.t (T.int IntKind.i64 x), V.t (T.int IntKind.i64 (0 : Int))]) []) (show (tru (decide (a ≤ b))) = ((do2 s.toList a b).fst) by grind [do2])).trans (congrArg (fun x => Out.val (V.tup [V.t (T.int IntKind.i64 (do2 s.toList a b).fst), V.t (T.int IntKind.i64 x)]) []) (show ((0 : Int)) = ((do2 s.toList a b).snd) by grind [do2])))
            · let t4 : Tp pr := .b (show (s.toList == [(60 : UInt8), (61 : UInt8)]) = false by simpa using hc4)
              by_cases hc5 : s.toList = [(61 : UInt8), (61 : UInt8)]
              · let t5 : Tp pr := .b (show (s.toList == [(61 : UInt8), (61 : UInt8)]) = true by simpa using hc5)
                exact .tpe [t0, t1, t2, t3, t4, t5, .a (l2Truth_ev (decide (a = b)))] (Out.val (V.tup [V.t (T.int IntKind.i64 (tru (decide (a = b)))), V.t (T.int IntKind.i64 (0 : Int))]) []) (by kernel_rfl) ((congrArg (fun x => Out.val (V.tup [V.t (T.int IntKind.i64 x), V.t (T.int IntKind.i64 (0 : Int))]) []) (show (tru (decide (a = b))) = ((do2 s.toList a b).fst) by grind [do2])).trans (congrArg (fun x => Out.val (V.tup [V.t (T.int IntKind.i64 (do2 s.toList a b).fst), V.t (T.int IntKind.i64 x)]) []) (show ((0 : Int)) = ((do2 s.toList a b).snd) by grind [do2])))
              · let t5 : Tp pr := .b (show (s.toList == [(61 : UInt8), (61 : UInt8)]) = false by simpa using hc5)
                by_cases hc6 : s.toList = [(33 : UInt8), (61 : UInt8)]
                · let t6 : Tp pr := .b (show (s.toList == [(33 : UInt8), (61 : UInt8)]) = true by simpa using hc6)
                  exact .tpe [t0, t1, t2, t3, t4, t5, t6, .a (l2Truth_ev (a != b))] (Out.val (V.tup [V.t (T.int IntKind.i64 (tru (a != b))), V.t (T.int IntKind.i64 (0 : Int))]) []) (by kernel_rfl) ((congrArg (fun x => Out.val (V.tup [V.t (T.int IntKind.i64 x), V.t (T.int IntKind.i64 (0 : Int))]) []) (show (tru (a != b)) = ((do2 s.toList a b).fst) by grind [do2])).trans (congrArg (fun x => Out.val (V.tup [V.t (T.int IntKind.i64 (do2 s.toList a b).fst), V.t (T.int IntKind.i64 x)]) []) (show ((0 : Int)) = ((do2 s.toList a b).snd) by grind [do2])))
                · let t6 : Tp pr := .b (show (s.toList == [(33 : UInt8), (61 : UInt8)]) = false by simpa using hc6)
                  by_cases hc7 : s.toList = [(60 : UInt8), (60 : UInt8)]
                  · let t7 : Tp pr := .b (show (s.toList == [(60 : UInt8), (60 : UInt8)]) = true by simpa using hc7)
                    let t8 : Tp pr := .a (l1In_ev (b) ((0 : Int)) ((20 : Int)))
                    let t9 : Tp pr := .b (show (!(decide (b ≥ (0 : Int)) && decide (b ≤ (20 : Int)))) = false by (simp; omega))
                    let t10 : Tp pr := .i (wrap_u64 (a := b) (by omega) (by omega))
                    let t11 : Tp pr := .m (show (decide ((0 : Int) ≤ b)) = true by simp [*])
                    let t12 : Tp pr := .i (wrap_i64 (a := a * pow2 b (64 : Nat)) (by omega) (by omega))
                    exact .tpe [t0, t1, t2, t3, t4, t5, t6, t7, t8, t9, t10, t11, t12] (Out.val (V.tup [V.t (T.int IntKind.i64 (a * pow2 b (64 : Nat))), V.t (T.int IntKind.i64 (0 : Int))]) []) (by kernel_rfl) ((congrArg (fun x => Out.val (V.tup [V.t (T.int IntKind.i64 x), V.t (T.int IntKind.i64 (0 : Int))]) []) (show (a * pow2 b (64 : Nat)) = ((do2 s.toList a b).fst) by grind [do2])).trans (congrArg (fun x => Out.val (V.tup [V.t (T.int IntKind.i64 (do2 s.toList a b).fst), V.t (T.int IntKind.i64 x)]) []) (show ((0 : Int)) = ((do2 s.toList a b).snd) by grind [do2])))
                  · let t7 : Tp pr := .b (show (s.toList == [(60 : UInt8), (60 : UInt8)]) = false by simpa using hc7)
                    by_cases hc8 : b = (0 : Int)
                    · let t8 : Tp pr := .b (show (decide (b = (0 : Int))) = true by simpa using hc8)
                      exact .tpe [t0, t1, t2, t3, t4, t5, t6, t7, t8] (Out.val (V.tup [V.t (T.int IntKind.i64 (0 : Int)), V.t (T.int IntKind.i64 (2 : Int))]) []) (by kernel_rfl) ((congrArg (fun x => Out.val (V.tup [V.t (T.int IntKind.i64 x), V.t (T.int IntKind.i64 (2 : Int))]) []) (show ((0 : Int)) = ((do2 s.toList a b).fst) by grind [do2])).trans (congrArg (fun x => Out.val (V.tup [V.t (T.int IntKind.i64 (do2 s.toList a b).fst), V.t (T.int IntKind.i64 x)]) []) (show ((2 : Int)) = ((do2 s.toList a b).snd) by grind [do2])))
                    · let t8 : Tp pr := .b (show (decide (b = (0 : Int))) = false by simpa using hc8)
                      by_cases hc9 : s.toList = [(47 : UInt8)]
                      · let t9 : Tp pr := .b (show (s.toList == [(47 : UInt8)]) = true by simpa using hc9)
                        let t10 : Tp pr := .m (show (decide (b ≠ (0 : Int))) = true by simp [*])
                        let t11 : Tp pr := .i (wrap_i64 (a := a.tdiv b) (by omega) (by omega))
                        exact .tpe [t0, t1, t2, t3, t4, t5, t6, t7, t8, t9, t10, t11] (Out.val (V.tup [V.t (T.int IntKind.i64 (a.tdiv b)), V.t (T.int IntKind.i64 (0 : Int))]) []) (by kernel_rfl) ((congrArg (fun x => Out.val (V.tup [V.t (T.int IntKind.i64 x), V.t (T.int IntKind.i64 (0 : Int))]) []) (show (a.tdiv b) = ((do2 s.toList a b).fst) by grind [do2])).trans (congrArg (fun x => Out.val (V.tup [V.t (T.int IntKind.i64 (do2 s.toList a b).fst), V.t (T.int IntKind.i64 x)]) []) (show ((0 : Int)) = ((do2 s.toList a b).snd) by grind [do2])))
                      · let t9 : Tp pr := .b (show (s.toList == [(47 : UInt8)]) = false by simpa using hc9)
                        let t10 : Tp pr := .m (show (decide (b ≠ (0 : Int))) = true by simp [*])
                        exact .tpe [t0, t1, t2, t3, t4, t5, t6, t7, t8, t9, t10, .i (rfl : (a.tmod b) = _)] (Out.val (V.tup [V.t (T.int IntKind.i64 (a.tmod b)), V.t (T.int IntKind.i64 (0 : Int))]) []) (by kernel_rfl) ((congrArg (fun x => Out.val (V.tup [V.t (T.int IntKind.i64 x), V.t (T.int IntKind.i64 (0 : Int))]) []) (show (a.tmod b) = ((do2 s.toList a b).fst) by grind [do2])).trans (congrArg (fun x => Out.val (V.tup [V.t (T.int IntKind.i64 (do2 s.toList a b).fst), V.t (T.int IntKind.i64 x)]) []) (show ((0 : Int)) = ((do2 s.toList a b).snd) by grind [do2])))
  · by_cases hc0 : s.toList = [(43 : UInt8)]
    · let t0 : Tp pr := .b (show (s.toList == [(43 : UInt8)]) = true by simpa using hc0)
      let t1 : Tp pr := .i (wrap_i64 (a := a + b) (by omega) (by omega))
      exact .tpe [t0, t1] (Out.val (V.tup [V.t (T.int IntKind.i64 (a + b)), V.t (T.int IntKind.i64 (0 : Int))]) []) (by kernel_rfl) ((congrArg (fun x => Out.val (V.tup [V.t (T.int IntKind.i64 x), V.t (T.int IntKind.i64 (0 : Int))]) []) (show (a + b) = ((do2 s.toList a b).fst) by grind [do2])).trans (congrArg (fun x => Out.val (V.tup [V.t (T.int IntKind.i64 (do2 s.toList a b).fst), V.t (T.int IntKind.i64 x)]) []) (show ((0 : Int)) = ((do2 s.toList a b).snd) by grind [do2])))
    · let t0 : Tp pr := .b (show (s.toList == [(43 : UInt8)]) = false by simpa using hc0)
      by_cases hc1 : s.toList = [(45 : UInt8)]
      · let t1 : Tp pr := .b (show (s.toList == [(45 : UInt8)]) = true by simpa using hc1)
        let t2 : Tp pr := .i (wrap_i64 (a := a - b) (by omega) (by omega))
        exact .tpe [t0, t1, t2] (Out.val (V.tup [V.t (T.int IntKind.i64 (a - b)), V.t (T.int IntKind.i64 (0 : Int))]) []) (by kernel_rfl) ((congrArg (fun x => Out.val (V.tup [V.t (T.int IntKind.i64 x), V.t (T.int IntKind.i64 (0 : Int))]) []) (show (a - b) = ((do2 s.toList a b).fst) by grind [do2])).trans (congrArg (fun x => Out.val (V.tup [V.t (T.int IntKind.i64 (do2 s.toList a b).fst), V.t (T.int IntKind.i64 x)]) []) (show ((0 : Int)) = ((do2 s.toList a b).snd) by grind [do2])))
      · let t1 : Tp pr := .b (show (s.toList == [(45 : UInt8)]) = false by simpa using hc1)
        by_cases hc2 : s.toList = [(42 : UInt8)]
        · let t2 : Tp pr := .b (show (s.toList == [(42 : UInt8)]) = true by simpa using hc2)
          let t3 : Tp pr := .i (wrap_i64 (a := a * b) (by omega) (by omega))
          exact .tpe [t0, t1, t2, t3] (Out.val (V.tup [V.t (T.int IntKind.i64 (a * b)), V.t (T.int IntKind.i64 (0 : Int))]) []) (by kernel_rfl) ((congrArg (fun x => Out.val (V.tup [V.t (T.int IntKind.i64 x), V.t (T.int IntKind.i64 (0 : Int))]) []) (show (a * b) = ((do2 s.toList a b).fst) by grind [do2])).trans (congrArg (fun x => Out.val (V.tup [V.t (T.int IntKind.i64 (do2 s.toList a b).fst), V.t (T.int IntKind.i64 x)]) []) (show ((0 : Int)) = ((do2 s.toList a b).snd) by grind [do2])))
        · let t2 : Tp pr := .b (show (s.toList == [(42 : UInt8)]) = false by simpa using hc2)
          by_cases hc3 : s.toList = [(60 : UInt8)]
          · let t3 : Tp pr := .b (show (s.toList == [(60 : UInt8)]) = true by simpa using hc3)
            exact .tpe [t0, t1, t2, t3, .a (l2Truth_ev (decide (a < b)))] (Out.val (V.tup [V.t (T.int IntKind.i64 (tru (decide (a < b)))), V.t (T.int IntKind.i64 (0 : Int))]) []) (by kernel_rfl) ((congrArg (fun x => Out.val (V.tup [V.t (T.int IntKind.i64 x), V.t (T.int IntKind.i64 (0 : Int))]) []) (show (tru (decide (a < b))) = ((do2 s.toList a b).fst) by grind [do2])).trans (congrArg (fun x => Out.val (V.tup [V.t (T.int IntKind.i64 (do2 s.toList a b).fst), V.t (T.int IntKind.i64 x)]) []) (show ((0 : Int)) = ((do2 s.toList a b).snd) by grind [do2])))
          · let t3 : Tp pr := .b (show (s.toList == [(60 : UInt8)]) = false by simpa using hc3)
            by_cases hc4 : s.toList = [(60 : UInt8), (61 : UInt8)]
            · let t4 : Tp pr := .b (show (s.toList == [(60 : UInt8), (61 : UInt8)]) = true by simpa using hc4)
              exact .tpe [t0, t1, t2, t3, t4, .a (l2Truth_ev (decide (a ≤ b)))] (Out.val (V.tup [V.t (T.int IntKind.i64 (tru (decide (a ≤ b)))), V.t (T.int IntKind.i64 (0 : Int))]) []) (by kernel_rfl) ((congrArg (fun x => Out.val (V.tup [V.t (T.int IntKind.i64 x), V.t (T.int IntKind.i64 (0 : Int))]) []) (show (tru (decide (a ≤ b))) = ((do2 s.toList a b).fst) by grind [do2])).trans (congrArg (fun x => Out.val (V.tup [V.t (T.int IntKind.i64 (do2 s.toList a b).fst), V.t (T.int IntKind.i64 x)]) []) (show ((0 : Int)) = ((do2 s.toList a b).snd) by grind [do2])))
            · let t4 : Tp pr := .b (show (s.toList == [(60 : UInt8), (61 : UInt8)]) = false by simpa using hc4)
              by_cases hc5 : s.toList = [(61 : UInt8), (61 : UInt8)]
              · let t5 : Tp pr := .b (show (s.toList == [(61 : UInt8), (61 : UInt8)]) = true by simpa using hc5)
                exact .tpe [t0, t1, t2, t3, t4, t5, .a (l2Truth_ev (decide (a = b)))] (Out.val (V.tup [V.t (T.int IntKind.i64 (tru (decide (a = b)))), V.t (T.int IntKind.i64 (0 : Int))]) []) (by kernel_rfl) ((congrArg (fun x => Out.val (V.tup [V.t (T.int IntKind.i64 x), V.t (T.int IntKind.i64 (0 : Int))]) []) (show (tru (decide (a = b))) = ((do2 s.toList a b).fst) by grind [do2])).trans (congrArg (fun x => Out.val (V.tup [V.t (T.int IntKind.i64 (do2 s.toList a b).fst), V.t (T.int IntKind.i64 x)]) []) (show ((0 : Int)) = ((do2 s.toList a b).snd) by grind [do2])))
              · let t5 : Tp pr := .b (show (s.toList == [(61 : UInt8), (61 : UInt8)]) = false by simpa using hc5)
                by_cases hc6 : s.toList = [(33 : UInt8), (61 : UInt8)]
                · let t6 : Tp pr := .b (show (s.toList == [(33 : UInt8), (61 : UInt8)]) = true by simpa using hc6)
                  exact .tpe [t0, t1, t2, t3, t4, t5, t6, .a (l2Truth_ev (a != b))] (Out.val (V.tup [V.t (T.int IntKind.i64 (tru (a != b))), V.t (T.int IntKind.i64 (0 : Int))]) []) (by kernel_rfl) ((congrArg (fun x => Out.val (V.tup [V.t (T.int IntKind.i64 x), V.t (T.int IntKind.i64 (0 : Int))]) []) (show (tru (a != b)) = ((do2 s.toList a b).fst) by grind [do2])).trans (congrArg (fun x => Out.val (V.tup [V.t (T.int IntKind.i64 (do2 s.toList a b).fst), V.t (T.int IntKind.i64 x)]) []) (show ((0 : Int)) = ((do2 s.toList a b).snd) by grind [do2])))
                · let t6 : Tp pr := .b (show (s.toList == [(33 : UInt8), (61 : UInt8)]) = false by simpa using hc6)
                  by_cases hc7 : s.toList = [(60 : UInt8), (60 : UInt8)]
                  · let t7 : Tp pr := .b (show (s.toList == [(60 : UInt8), (60 : UInt8)]) = true by simpa using hc7)
                    let t8 : Tp pr := .a (l1In_ev (b) ((0 : Int)) ((20 : Int)))
                    let t9 : Tp pr := .b (show (!(decide (b ≥ (0 : Int)) && decide (b ≤ (20 : Int)))) = true by (simp; omega))
                    exact .tpe [t0, t1, t2, t3, t4, t5, t6, t7, t8, t9] (Out.val (V.tup [V.t (T.int IntKind.i64 (0 : Int)), V.t (T.int IntKind.i64 (3 : Int))]) []) (by kernel_rfl) ((congrArg (fun x => Out.val (V.tup [V.t (T.int IntKind.i64 x), V.t (T.int IntKind.i64 (3 : Int))]) []) (show ((0 : Int)) = ((do2 s.toList a b).fst) by grind [do2])).trans (congrArg (fun x => Out.val (V.tup [V.t (T.int IntKind.i64 (do2 s.toList a b).fst), V.t (T.int IntKind.i64 x)]) []) (show ((3 : Int)) = ((do2 s.toList a b).snd) by grind [do2])))
                  · let t7 : Tp pr := .b (show (s.toList == [(60 : UInt8), (60 : UInt8)]) = false by simpa using hc7)
                    let t8 : Tp pr := .b (show (decide (b = (0 : Int))) = false by (simp; omega))
                    by_cases hc9 : s.toList = [(47 : UInt8)]
                    · let t9 : Tp pr := .b (show (s.toList == [(47 : UInt8)]) = true by simpa using hc9)
                      let t10 : Tp pr := .m (show (decide (b ≠ (0 : Int))) = true by (simp; omega))
                      let t11 : Tp pr := .i (wrap_i64 (a := a.tdiv b) (by omega) (by omega))
                      exact .tpe [t0, t1, t2, t3, t4, t5, t6, t7, t8, t9, t10, t11] (Out.val (V.tup [V.t (T.int IntKind.i64 (a.tdiv b)), V.t (T.int IntKind.i64 (0 : Int))]) []) (by kernel_rfl) ((congrArg (fun x => Out.val (V.tup [V.t (T.int IntKind.i64 x), V.t (T.int IntKind.i64 (0 : Int))]) []) (show (a.tdiv b) = ((do2 s.toList a b).fst) by grind [do2])).trans (congrArg (fun x => Out.val (V.tup [V.t (T.int IntKind.i64 (do2 s.toList a b).fst), V.t (T.int IntKind.i64 x)]) []) (show ((0 : Int)) = ((do2 s.toList a b).snd) by grind [do2])))
                    · let t9 : Tp pr := .b (show (s.toList == [(47 : UInt8)]) = false by simpa using hc9)
                      let t10 : Tp pr := .m (show (decide (b ≠ (0 : Int))) = true by (simp; omega))
                      exact .tpe [t0, t1, t2, t3, t4, t5, t6, t7, t8, t9, t10, .i (rfl : (a.tmod b) = _)] (Out.val (V.tup [V.t (T.int IntKind.i64 (a.tmod b)), V.t (T.int IntKind.i64 (0 : Int))]) []) (by kernel_rfl) ((congrArg (fun x => Out.val (V.tup [V.t (T.int IntKind.i64 x), V.t (T.int IntKind.i64 (0 : Int))]) []) (show (a.tmod b) = ((do2 s.toList a b).fst) by grind [do2])).trans (congrArg (fun x => Out.val (V.tup [V.t (T.int IntKind.i64 (do2 s.toList a b).fst), V.t (T.int IntKind.i64 x)]) []) (show ((0 : Int)) = ((do2 s.toList a b).snd) by grind [do2])))
end Go.Ev

/- Code: which is good. -/
namespace Go.Ev
set_option linter.unusedVariables false
set_option linter.unusedSimpArgs false
open Go.Proofs
set_option maxRecDepth 100000
set_option linter.unusedVariables false
set_option maxHeartbeats 1000000
attribute [local simp] e0
theorem isTwo_ev (s : ByteArray) : Ev pr (.call 114 [.t (.str s)] []) (.val (bl (decide (strength s.toList > 2))) []) := by
  by_cases hc1 : strength s.toList = (0 : Int)
  · let t1 : Tp pr := .b (show (strength s.toList != (0 : Int)) = false by simpa using hc1)
    exact .tpe [.a (StrengthOf_ev (s)), t1, .b (rfl : false = false)] (Out.val (V.t (T.bool false)) []) (by kernel_rfl) (congrArg (fun x => Out.val (V.t (T.bool x)) []) (show (false) = (decide (strength s.toList > (2 : Int))) by grind [strength]))
  · let t1 : Tp pr := .b (show (strength s.toList != (0 : Int)) = true by simpa using hc1)
    by_cases hc2 : s.toList = [(38 : UInt8), (38 : UInt8)]
    · let t2 : Tp pr := .b (show (!s.toList == [(38 : UInt8), (38 : UInt8)]) = false by simpa using hc2)
      exact .tpe [.a (StrengthOf_ev (s)), t1, t2] (Out.val (V.t (T.bool false)) []) (by kernel_rfl) (congrArg (fun x => Out.val (V.t (T.bool x)) []) (show (false) = (decide (strength s.toList > (2 : Int))) by grind [strength]))
    · let t2 : Tp pr := .b (show (!s.toList == [(38 : UInt8), (38 : UInt8)]) = true by simpa using hc2)
      exact .tpe [.a (StrengthOf_ev (s)), t1, t2] (Out.val (V.t (T.bool !s.toList == [(124 : UInt8), (124 : UInt8)])) []) (by kernel_rfl) (congrArg (fun x => Out.val (V.t (T.bool x)) []) (show (!s.toList == [(124 : UInt8), (124 : UInt8)]) = (decide (strength s.toList > (2 : Int))) by grind [strength]))
theorem l16Two_ev (s : ByteArray) : Ev pr (.call 119 [.t (.str s)] []) (.val (bl (decide (strength s.toList > 2))) []) := by
  exact .tp [.a (l2Strength_ev (s))] (by kernel_rfl)
theorem bcOk_ev (x : Bc) (n : Int) (h : 0 ≤ n ∧ n ≤ 1000000) : Ev pr (.call 94 [vs x.ce, i64 n] []) (.val (bl (bcOk x n)) []) := by
  have hz : x.text.toList = [] ↔ x.text = e0 := toList_nil x.text
  by_cases hc0 : x.op = (4 : Int)
  · let t0 : Tp pr := .b (show (decide (x.op = (4 : Int))) = true by simpa using hc0)
    by_cases hc1 : x.n = (0 : Int)
    · let t1 : Tp pr := .b (show (decide (x.n = (0 : Int))) = true by simpa using hc1)
      exact .tpe [t0, t1, .a (isTwo_ev (x.text))] (Out.val (V.t (T.bool (decide (strength x.text.toList > (2 : Int))))) []) (by kernel_rfl) (congrArg (fun x => Out.val (V.t (T.bool x)) []) (show (decide (strength x.text.toList > (2 : Int))) = (bcOk x n) by (first | grind [bcOk] | (simp [bcOk, *]; done) | (simp [bcOk, *]; grind))))
    · let t1 : Tp pr := .b (show (decide (x.n = (0 : Int))) = false by simpa using hc1)
      exact .tpe [t0, t1] (Out.val (V.t (T.bool false)) []) (by kernel_rfl) (congrArg (fun x => Out.val (V.t (T.bool x)) []) (show (false) = (bcOk x n) by (first | grind [bcOk] | (simp [bcOk, *]; done) | (simp [bcOk, *]; grind))))
  · let t0 : Tp pr := .b (show (decide (x.op = (4 : Int))) = false by simpa using hc0)
    by_cases hc1 : x.op = (5 : Int)
    · let t1 : Tp pr := .b (show (decide (x.op = (5 : Int))) = true by simpa using hc1)
      by_cases hc2 : x.n = (0 : Int)
      · let t2 : Tp pr := .b (show (decide (x.n = (0 : Int))) = true by simpa using hc2)
        by_cases hc3 : x.text.toList = [(45 : UInt8)]
        · let t3 : Tp pr := .b (show (x.text.toList == [(45 : UInt8)]) = true by simpa using hc3)
          exact .tpe [t0, t1, t2, t3] (Out.val (V.t (T.bool true)) []) (by kernel_rfl) (congrArg (fun x => Out.val (V.t (T.bool x)) []) (show (true) = (bcOk x n) by (first | grind [bcOk] | (simp [bcOk, *]; done) | (simp [bcOk, *]; grind))))
        · let t3 : Tp pr := .b (show (x.text.toList == [(45 : UInt8)]) = false by simpa using hc3)
          exact .tpe [t0, t1, t2, t3] (Out.val (V.t (T.bool (x.text.toList == [(33 : UInt8)]))) []) (by kernel_rfl) (congrArg (fun x => Out.val (V.t (T.bool x)) []) (show (x.text.toList == [(33 : UInt8)]) = (bcOk x n) by (first | grind [bcOk] | (simp [bcOk, *]; done) | (simp [bcOk, *]; grind))))
      · let t2 : Tp pr := .b (show (decide (x.n = (0 : Int))) = false by simpa using hc2)
        exact .tpe [t0, t1, t2] (Out.val (V.t (T.bool false)) []) (by kernel_rfl) (congrArg (fun x => Out.val (V.t (T.bool x)) []) (show (false) = (bcOk x n) by (first | grind [bcOk] | (simp [bcOk, *]; done) | (simp [bcOk, *]; grind))))
    · let t1 : Tp pr := .b (show (decide (x.op = (5 : Int))) = false by simpa using hc1)
      by_cases hc2 : x.text = ByteArray.mk #[]
      · let t2 : Tp pr := .b (show (!x.text.toList == []) = false by simpa using hc2)
        by_cases hc3 : x.op = (1 : Int)
        · let t3 : Tp pr := .b (show (decide (x.op = (1 : Int))) = true by simpa using hc3)
          let t4 : Tp pr := .a (within_ev (x.n) ((-1000000000 : Int)) ((1000000000 : Int)))
          exact .tpe [t0, t1, t2, t3, t4] (Out.val (V.t (T.bool (decide (x.n ≥ (-1000000000 : Int)) && decide (x.n ≤ (1000000000 : Int))))) []) (by kernel_rfl) (congrArg (fun x => Out.val (V.t (T.bool x)) []) (show (decide (x.n ≥ (-1000000000 : Int)) && decide (x.n ≤ (1000000000 : Int))) = (bcOk x n) by (first | grind [bcOk] | (simp [bcOk, *]; done) | (simp [bcOk, *]; grind))))
        · let t3 : Tp pr := .b (show (decide (x.op = (1 : Int))) = false by simpa using hc3)
          by_cases hc4 : x.op = (2 : Int)
          · let t4 : Tp pr := .b (show (decide (x.op = (2 : Int))) = true by simpa using hc4)
            let t5 : Tp pr := .b (show (decide (x.op = (2 : Int))) = true by (simp; omega))
            let t6 : Tp pr := .a (within_ev (x.n) ((0 : Int)) ((9 : Int)))
            exact .tpe [t0, t1, t2, t3, t4, t5, t6] (Out.val (V.t (T.bool (decide (x.n ≥ (0 : Int)) && decide (x.n ≤ (9 : Int))))) []) (by kernel_rfl) (congrArg (fun x => Out.val (V.t (T.bool x)) []) (show (decide (x.n ≥ (0 : Int)) && decide (x.n ≤ (9 : Int))) = (bcOk x n) by (first | grind [bcOk] | (simp [bcOk, *]; done) | (simp [bcOk, *]; grind))))
          · let t4 : Tp pr := .b (show (decide (x.op = (2 : Int))) = false by simpa using hc4)
            by_cases hc5 : x.op = (3 : Int)
            · let t5 : Tp pr := .b (show (decide (x.op = (3 : Int))) = true by simpa using hc5)
              let t6 : Tp pr := .a (within_ev (x.n) ((0 : Int)) ((9 : Int)))
              exact .tpe [t0, t1, t2, t3, t4, t5, t6] (Out.val (V.t (T.bool (decide (x.n ≥ (0 : Int)) && decide (x.n ≤ (9 : Int))))) []) (by kernel_rfl) (congrArg (fun x => Out.val (V.t (T.bool x)) []) (show (decide (x.n ≥ (0 : Int)) && decide (x.n ≤ (9 : Int))) = (bcOk x n) by (first | grind [bcOk] | (simp [bcOk, *]; done) | (simp [bcOk, *]; grind))))
            · let t5 : Tp pr := .b (show (decide (x.op = (3 : Int))) = false by simpa using hc5)
              by_cases hc6 : x.op = (6 : Int)
              · let t6 : Tp pr := .b (show (decide (x.op = (6 : Int))) = true by simpa using hc6)
                let t7 : Tp pr := .b (show (decide (x.op = (6 : Int))) = true by (simp; omega))
                let t8 : Tp pr := .i (wrap_i64 (a := n - (1 : Int)) (by omega) (by omega))
                let t9 : Tp pr := .a (within_ev (x.n) ((0 : Int)) (n - (1 : Int)))
                exact .tpe [t0, t1, t2, t3, t4, t5, t6, t7, t8, t9] (Out.val (V.t (T.bool (decide (x.n ≥ (0 : Int)) && decide (x.n ≤ n - (1 : Int))))) []) (by kernel_rfl) (congrArg (fun x => Out.val (V.t (T.bool x)) []) (show (decide (x.n ≥ (0 : Int)) && decide (x.n ≤ n - (1 : Int))) = (bcOk x n) by (first | grind [bcOk] | (simp [bcOk, *]; done) | (simp [bcOk, *]; grind))))
              · let t6 : Tp pr := .b (show (decide (x.op = (6 : Int))) = false by simpa using hc6)
                by_cases hc7 : x.op = (7 : Int)
                · let t7 : Tp pr := .b (show (decide (x.op = (7 : Int))) = true by simpa using hc7)
                  let t8 : Tp pr := .i (wrap_i64 (a := n - (1 : Int)) (by omega) (by omega))
                  let t9 : Tp pr := .a (within_ev (x.n) ((0 : Int)) (n - (1 : Int)))
                  exact .tpe [t0, t1, t2, t3, t4, t5, t6, t7, t8, t9] (Out.val (V.t (T.bool (decide (x.n ≥ (0 : Int)) && decide (x.n ≤ n - (1 : Int))))) []) (by kernel_rfl) (congrArg (fun x => Out.val (V.t (T.bool x)) []) (show (decide (x.n ≥ (0 : Int)) && decide (x.n ≤ n - (1 : Int))) = (bcOk x n) by (first | grind [bcOk] | (simp [bcOk, *]; done) | (simp [bcOk, *]; grind))))
                · let t7 : Tp pr := .b (show (decide (x.op = (7 : Int))) = false by simpa using hc7)
                  by_cases hc8 : x.op = (8 : Int)
                  · let t8 : Tp pr := .b (show (decide (x.op = (8 : Int))) = true by simpa using hc8)
                    exact .tpe [t0, t1, t2, t3, t4, t5, t6, t7, t8, .b (rfl : true = true)] (Out.val (V.t (T.bool (decide (x.n = (0 : Int))))) []) (by kernel_rfl) (congrArg (fun x => Out.val (V.t (T.bool x)) []) (show (decide (x.n = (0 : Int))) = (bcOk x n) by (first | grind [bcOk] | (simp [bcOk, *]; done) | (simp [bcOk, *]; grind))))
                  · let t8 : Tp pr := .b (show (decide (x.op = (8 : Int))) = false by simpa using hc8)
                    by_cases hc9 : x.op = (9 : Int)
                    · let t9 : Tp pr := .b (show (decide (x.op = (9 : Int))) = true by simpa using hc9)
                      exact .tpe [t0, t1, t2, t3, t4, t5, t6, t7, t8, t9] (Out.val (V.t (T.bool (decide (x.n = (0 : Int))))) []) (by kernel_rfl) (congrArg (fun x => Out.val (V.t (T.bool x)) []) (show (decide (x.n = (0 : Int))) = (bcOk x n) by (first | grind [bcOk] | (simp [bcOk, *]; done) | (simp [bcOk, *]; grind))))
                    · let t9 : Tp pr := .b (show (decide (x.op = (9 : Int))) = false by simpa using hc9)
                      exact .tpe [t0, t1, t2, t3, t4, t5, t6, t7, t8, t9] (Out.val (V.t (T.bool false)) []) (by kernel_rfl) (congrArg (fun x => Out.val (V.t (T.bool x)) []) (show (false) = (bcOk x n) by (first | grind [bcOk] | (simp [bcOk, *]; done) | (simp [bcOk, *]; grind))))
      · let t2 : Tp pr := .b (show (!x.text.toList == []) = true by simpa using hc2)
        exact .tpe [t0, t1, t2] (Out.val (V.t (T.bool false)) []) (by kernel_rfl) (congrArg (fun x => Out.val (V.t (T.bool x)) []) (show (false) = (bcOk x n) by (first | grind [bcOk] | (simp [bcOk, *]; done) | (simp [bcOk, *]; grind))))
theorem l16One_ev (x : Bc) (n : Int) (h : 0 ≤ n ∧ n ≤ 1000000) : Ev pr (.call 101 [vs x.ce, i64 n] []) (.val (bl (bcOk x n)) []) := by
  by_cases hc0 : x.op = (1 : Int)
  · let t0 : Tp pr := .b (show (decide (x.op = (1 : Int))) = true by simpa using hc0)
    by_cases hc2 : (-1000000000 : Int) ≤ x.n ∧ x.n ≤ (1000000000 : Int)
    · let t2 : Tp pr := .b (show (decide (x.n ≥ (-1000000000 : Int)) && decide (x.n ≤ (1000000000 : Int))) = true by simpa using hc2)
      exact .tpe [t0, .a (l2Bound_ev (x.n)), t2] (Out.val (V.t (T.bool (x.text.toList == []))) []) (by kernel_rfl) (congrArg (fun x => Out.val (V.t (T.bool x)) []) (show (x.text.toList == []) = (bcOk x n) by grind [bcOk]))
    · let t2 : Tp pr := .b (show (decide (x.n ≥ (-1000000000 : Int)) && decide (x.n ≤ (1000000000 : Int))) = false by simpa using hc2)
      exact .tpe [t0, .a (l2Bound_ev (x.n)), t2] (Out.val (V.t (T.bool false)) []) (by kernel_rfl) (congrArg (fun x => Out.val (V.t (T.bool x)) []) (show (false) = (bcOk x n) by grind [bcOk]))
  · let t0 : Tp pr := .b (show (decide (x.op = (1 : Int))) = false by simpa using hc0)
    by_cases hc1 : x.op = (2 : Int)
    · let t1 : Tp pr := .b (show (decide (x.op = (2 : Int))) = true by simpa using hc1)
      let t2 : Tp pr := .b (show (decide (x.op = (2 : Int))) = true by (simp; omega))
      let t3 : Tp pr := .a (l1In_ev (x.n) ((0 : Int)) ((9 : Int)))
      by_cases hc4 : (0 : Int) ≤ x.n ∧ x.n ≤ (9 : Int)
      · let t4 : Tp pr := .b (show (decide (x.n ≥ (0 : Int)) && decide (x.n ≤ (9 : Int))) = true by simpa using hc4)
        exact .tpe [t0, t1, t2, t3, t4] (Out.val (V.t (T.bool (x.text.toList == []))) []) (by kernel_rfl) (congrArg (fun x => Out.val (V.t (T.bool x)) []) (show (x.text.toList == []) = (bcOk x n) by grind [bcOk]))
      · let t4 : Tp pr := .b (show (decide (x.n ≥ (0 : Int)) && decide (x.n ≤ (9 : Int))) = false by simpa using hc4)
        exact .tpe [t0, t1, t2, t3, t4] (Out.val (V.t (T.bool false)) []) (by kernel_rfl) (congrArg (fun x => Out.val (V.t (T.bool x)) []) (show (false) = (bcOk x n) by grind [bcOk]))
    · let t1 : Tp pr := .b (show (decide (x.op = (2 : Int))) = false by simpa using hc1)
      by_cases hc2 : x.op = (3 : Int)
      · let t2 : Tp pr := .b (show (decide (x.op = (3 : Int))) = true by simpa using hc2)
        let t3 : Tp pr := .a (l1In_ev (x.n) ((0 : Int)) ((9 : Int)))
        by_cases hc4 : (0 : Int) ≤ x.n ∧ x.n ≤ (9 : Int)
        · let t4 : Tp pr := .b (show (decide (x.n ≥ (0 : Int)) && decide (x.n ≤ (9 : Int))) = true by simpa using hc4)
          exact .tpe [t0, t1, t2, t3, t4] (Out.val (V.t (T.bool (x.text.toList == []))) []) (by kernel_rfl) (congrArg (fun x => Out.val (V.t (T.bool x)) []) (show (x.text.toList == []) = (bcOk x n) by grind [bcOk]))
        · let t4 : Tp pr := .b (show (decide (x.n ≥ (0 : Int)) && decide (x.n ≤ (9 : Int))) = false by simpa using hc4)
          exact .tpe [t0, t1, t2, t3, t4] (Out.val (V.t (T.bool false)) []) (by kernel_rfl) (congrArg (fun x => Out.val (V.t (T.bool x)) []) (show (false) = (bcOk x n) by grind [bcOk]))
      · let t2 : Tp pr := .b (show (decide (x.op = (3 : Int))) = false by simpa using hc2)
        by_cases hc3 : x.op = (4 : Int)
        · let t3 : Tp pr := .b (show (decide (x.op = (4 : Int))) = true by simpa using hc3)
          by_cases hc4 : x.n = (0 : Int)
          · let t4 : Tp pr := .b (show (decide (x.n = (0 : Int))) = true by simpa using hc4)
            exact .tpe [t0, t1, t2, t3, t4, .a (l16Two_ev (x.text))] (Out.val (V.t (T.bool (decide (strength x.text.toList > (2 : Int))))) []) (by kernel_rfl) (congrArg (fun x => Out.val (V.t (T.bool x)) []) (show (decide (strength x.text.toList > (2 : Int))) = (bcOk x n) by grind [bcOk]))
          · let t4 : Tp pr := .b (show (decide (x.n = (0 : Int))) = false by simpa using hc4)
            exact .tpe [t0, t1, t2, t3, t4] (Out.val (V.t (T.bool false)) []) (by kernel_rfl) (congrArg (fun x => Out.val (V.t (T.bool x)) []) (show (false) = (bcOk x n) by grind [bcOk]))
        · let t3 : Tp pr := .b (show (decide (x.op = (4 : Int))) = false by simpa using hc3)
          by_cases hc4 : x.op = (5 : Int)
          · let t4 : Tp pr := .b (show (decide (x.op = (5 : Int))) = true by simpa using hc4)
            by_cases hc5 : x.n = (0 : Int)
            · let t5 : Tp pr := .b (show (decide (x.n = (0 : Int))) = true by simpa using hc5)
              by_cases hc6 : x.text.toList = [(45 : UInt8)]
              · let t6 : Tp pr := .b (show (x.text.toList == [(45 : UInt8)]) = true by simpa using hc6)
                exact .tpe [t0, t1, t2, t3, t4, t5, t6] (Out.val (V.t (T.bool true)) []) (by kernel_rfl) (congrArg (fun x => Out.val (V.t (T.bool x)) []) (show (true) = (bcOk x n) by grind [bcOk]))
              · let t6 : Tp pr := .b (show (x.text.toList == [(45 : UInt8)]) = false by simpa using hc6)
                exact .tpe [t0, t1, t2, t3, t4, t5, t6] (Out.val (V.t (T.bool (x.text.toList == [(33 : UInt8)]))) []) (by kernel_rfl) (congrArg (fun x => Out.val (V.t (T.bool x)) []) (show (x.text.toList == [(33 : UInt8)]) = (bcOk x n) by grind [bcOk]))
            · let t5 : Tp pr := .b (show (decide (x.n = (0 : Int))) = false by simpa using hc5)
              exact .tpe [t0, t1, t2, t3, t4, t5] (Out.val (V.t (T.bool false)) []) (by kernel_rfl) (congrArg (fun x => Out.val (V.t (T.bool x)) []) (show (false) = (bcOk x n) by grind [bcOk]))
          · let t4 : Tp pr := .b (show (decide (x.op = (5 : Int))) = false by simpa using hc4)
            by_cases hc5 : x.op = (6 : Int)
            · let t5 : Tp pr := .b (show (decide (x.op = (6 : Int))) = true by simpa using hc5)
              let t6 : Tp pr := .b (show (decide (x.op = (6 : Int))) = true by (simp; omega))
              by_cases hc7 : (0 : Int) ≤ x.n
              · let t7 : Tp pr := .b (show (decide (x.n ≥ (0 : Int))) = true by simpa using hc7)
                by_cases hc8 : x.n < n
                · let t8 : Tp pr := .b (show (decide (x.n < n)) = true by simpa using hc8)
                  exact .tpe [t0, t1, t2, t3, t4, t5, t6, t7, t8] (Out.val (V.t (T.bool (x.text.toList == []))) []) (by kernel_rfl) (congrArg (fun x => Out.val (V.t (T.bool x)) []) (show (x.text.toList == []) = (bcOk x n) by grind [bcOk]))
                · let t8 : Tp pr := .b (show (decide (x.n < n)) = false by simpa using hc8)
                  exact .tpe [t0, t1, t2, t3, t4, t5, t6, t7, t8] (Out.val (V.t (T.bool false)) []) (by kernel_rfl) (congrArg (fun x => Out.val (V.t (T.bool x)) []) (show (false) = (bcOk x n) by grind [bcOk]))
              · let t7 : Tp pr := .b (show (decide (x.n ≥ (0 : Int))) = false by simpa using hc7)
                exact .tpe [t0, t1, t2, t3, t4, t5, t6, t7, .b (rfl : false = false)] (Out.val (V.t (T.bool false)) []) (by kernel_rfl) (congrArg (fun x => Out.val (V.t (T.bool x)) []) (show (false) = (bcOk x n) by grind [bcOk]))
            · let t5 : Tp pr := .b (show (decide (x.op = (6 : Int))) = false by simpa using hc5)
              by_cases hc6 : x.op = (7 : Int)
              · let t6 : Tp pr := .b (show (decide (x.op = (7 : Int))) = true by simpa using hc6)
                by_cases hc7 : (0 : Int) ≤ x.n
                · let t7 : Tp pr := .b (show (decide (x.n ≥ (0 : Int))) = true by simpa using hc7)
                  by_cases hc8 : x.n < n
                  · let t8 : Tp pr := .b (show (decide (x.n < n)) = true by simpa using hc8)
                    exact .tpe [t0, t1, t2, t3, t4, t5, t6, t7, t8] (Out.val (V.t (T.bool (x.text.toList == []))) []) (by kernel_rfl) (congrArg (fun x => Out.val (V.t (T.bool x)) []) (show (x.text.toList == []) = (bcOk x n) by grind [bcOk]))
                  · let t8 : Tp pr := .b (show (decide (x.n < n)) = false by simpa using hc8)
                    exact .tpe [t0, t1, t2, t3, t4, t5, t6, t7, t8] (Out.val (V.t (T.bool false)) []) (by kernel_rfl) (congrArg (fun x => Out.val (V.t (T.bool x)) []) (show (false) = (bcOk x n) by grind [bcOk]))
                · let t7 : Tp pr := .b (show (decide (x.n ≥ (0 : Int))) = false by simpa using hc7)
                  exact .tpe [t0, t1, t2, t3, t4, t5, t6, t7, .b (rfl : false = false)] (Out.val (V.t (T.bool false)) []) (by kernel_rfl) (congrArg (fun x => Out.val (V.t (T.bool x)) []) (show (false) = (bcOk x n) by grind [bcOk]))
              · let t6 : Tp pr := .b (show (decide (x.op = (7 : Int))) = false by simpa using hc6)
                by_cases hc7 : x.op = (8 : Int)
                · let t7 : Tp pr := .b (show (decide (x.op = (8 : Int))) = true by simpa using hc7)
                  let t8 : Tp pr := .b (show (decide (x.op = (8 : Int))) = true by (simp; omega))
                  by_cases hc9 : x.n = (0 : Int)
                  · let t9 : Tp pr := .b (show (decide (x.n = (0 : Int))) = true by simpa using hc9)
                    exact .tpe [t0, t1, t2, t3, t4, t5, t6, t7, t8, t9] (Out.val (V.t (T.bool (x.text.toList == []))) []) (by kernel_rfl) (congrArg (fun x => Out.val (V.t (T.bool x)) []) (show (x.text.toList == []) = (bcOk x n) by grind [bcOk]))
                  · let t9 : Tp pr := .b (show (decide (x.n = (0 : Int))) = false by simpa using hc9)
                    exact .tpe [t0, t1, t2, t3, t4, t5, t6, t7, t8, t9] (Out.val (V.t (T.bool false)) []) (by kernel_rfl) (congrArg (fun x => Out.val (V.t (T.bool x)) []) (show (false) = (bcOk x n) by grind [bcOk]))
                · let t7 : Tp pr := .b (show (decide (x.op = (8 : Int))) = false by simpa using hc7)
                  by_cases hc8 : x.op = (9 : Int)
                  · let t8 : Tp pr := .b (show (decide (x.op = (9 : Int))) = true by simpa using hc8)
                    by_cases hc9 : x.n = (0 : Int)
                    · let t9 : Tp pr := .b (show (decide (x.n = (0 : Int))) = true by simpa using hc9)
                      exact .tpe [t0, t1, t2, t3, t4, t5, t6, t7, t8, t9] (Out.val (V.t (T.bool (x.text.toList == []))) []) (by kernel_rfl) (congrArg (fun x => Out.val (V.t (T.bool x)) []) (show (x.text.toList == []) = (bcOk x n) by grind [bcOk]))
                    · let t9 : Tp pr := .b (show (decide (x.n = (0 : Int))) = false by simpa using hc9)
                      exact .tpe [t0, t1, t2, t3, t4, t5, t6, t7, t8, t9] (Out.val (V.t (T.bool false)) []) (by kernel_rfl) (congrArg (fun x => Out.val (V.t (T.bool x)) []) (show (false) = (bcOk x n) by grind [bcOk]))
                  · let t8 : Tp pr := .b (show (decide (x.op = (9 : Int))) = false by simpa using hc8)
                    exact .tpe [t0, t1, t2, t3, t4, t5, t6, t7, t8] (Out.val (V.t (T.bool false)) []) (by kernel_rfl) (congrArg (fun x => Out.val (V.t (T.bool x)) []) (show (false) = (bcOk x n) by grind [bcOk]))
theorem moves_ev (x : Bc) : Ev pr (.call 106 [vs x.ce] []) (.val (.tup [i64 (mvOff x.op), i64 (mvOn x.op)]) []) := by
  by_cases hc0 : x.op = (1 : Int)
  · let t0 : Tp pr := .b (show (decide (x.op = (1 : Int))) = true by simpa using hc0)
    let t1 : Tp pr := .b (show (decide (x.op = (1 : Int))) = true by (simp; omega))
    exact .tpe [t0, t1] (Out.val (V.tup [V.t (T.int IntKind.i64 (0 : Int)), V.t (T.int IntKind.i64 (1 : Int))]) []) (by kernel_rfl) ((congrArg (fun x => Out.val (V.tup [V.t (T.int IntKind.i64 x), V.t (T.int IntKind.i64 (1 : Int))]) []) (show ((0 : Int)) = (mvOff x.op) by grind [mvOff, mvOn])).trans (congrArg (fun x_1 => Out.val (V.tup [V.t (T.int IntKind.i64 (mvOff x.op)), V.t (T.int IntKind.i64 x_1)]) []) (show ((1 : Int)) = (mvOn x.op) by grind [mvOff, mvOn])))
  · let t0 : Tp pr := .b (show (decide (x.op = (1 : Int))) = false by simpa using hc0)
    by_cases hc1 : x.op = (2 : Int)
    · let t1 : Tp pr := .b (show (decide (x.op = (2 : Int))) = true by simpa using hc1)
      exact .tpe [t0, t1] (Out.val (V.tup [V.t (T.int IntKind.i64 (0 : Int)), V.t (T.int IntKind.i64 (1 : Int))]) []) (by kernel_rfl) ((congrArg (fun x => Out.val (V.tup [V.t (T.int IntKind.i64 x), V.t (T.int IntKind.i64 (1 : Int))]) []) (show ((0 : Int)) = (mvOff x.op) by grind [mvOff, mvOn])).trans (congrArg (fun x_1 => Out.val (V.tup [V.t (T.int IntKind.i64 (mvOff x.op)), V.t (T.int IntKind.i64 x_1)]) []) (show ((1 : Int)) = (mvOn x.op) by grind [mvOff, mvOn])))
    · let t1 : Tp pr := .b (show (decide (x.op = (2 : Int))) = false by simpa using hc1)
      by_cases hc2 : x.op = (3 : Int)
      · let t2 : Tp pr := .b (show (decide (x.op = (3 : Int))) = true by simpa using hc2)
        let t3 : Tp pr := .b (show (decide (x.op = (3 : Int))) = true by (simp; omega))
        exact .tpe [t0, t1, t2, t3] (Out.val (V.tup [V.t (T.int IntKind.i64 (1 : Int)), V.t (T.int IntKind.i64 (0 : Int))]) []) (by kernel_rfl) ((congrArg (fun x => Out.val (V.tup [V.t (T.int IntKind.i64 x), V.t (T.int IntKind.i64 (0 : Int))]) []) (show ((1 : Int)) = (mvOff x.op) by grind [mvOff, mvOn])).trans (congrArg (fun x_1 => Out.val (V.tup [V.t (T.int IntKind.i64 (mvOff x.op)), V.t (T.int IntKind.i64 x_1)]) []) (show ((0 : Int)) = (mvOn x.op) by grind [mvOff, mvOn])))
      · let t2 : Tp pr := .b (show (decide (x.op = (3 : Int))) = false by simpa using hc2)
        by_cases hc3 : x.op = (7 : Int)
        · let t3 : Tp pr := .b (show (decide (x.op = (7 : Int))) = true by simpa using hc3)
          let t4 : Tp pr := .b (show (decide (x.op = (7 : Int))) = true by (simp; omega))
          exact .tpe [t0, t1, t2, t3, t4] (Out.val (V.tup [V.t (T.int IntKind.i64 (1 : Int)), V.t (T.int IntKind.i64 (0 : Int))]) []) (by kernel_rfl) ((congrArg (fun x => Out.val (V.tup [V.t (T.int IntKind.i64 x), V.t (T.int IntKind.i64 (0 : Int))]) []) (show ((1 : Int)) = (mvOff x.op) by grind [mvOff, mvOn])).trans (congrArg (fun x_1 => Out.val (V.tup [V.t (T.int IntKind.i64 (mvOff x.op)), V.t (T.int IntKind.i64 x_1)]) []) (show ((0 : Int)) = (mvOn x.op) by grind [mvOff, mvOn])))
        · let t3 : Tp pr := .b (show (decide (x.op = (7 : Int))) = false by simpa using hc3)
          by_cases hc4 : x.op = (8 : Int)
          · let t4 : Tp pr := .b (show (decide (x.op = (8 : Int))) = true by simpa using hc4)
            exact .tpe [t0, t1, t2, t3, t4] (Out.val (V.tup [V.t (T.int IntKind.i64 (1 : Int)), V.t (T.int IntKind.i64 (0 : Int))]) []) (by kernel_rfl) ((congrArg (fun x => Out.val (V.tup [V.t (T.int IntKind.i64 x), V.t (T.int IntKind.i64 (0 : Int))]) []) (show ((1 : Int)) = (mvOff x.op) by grind [mvOff, mvOn])).trans (congrArg (fun x_1 => Out.val (V.tup [V.t (T.int IntKind.i64 (mvOff x.op)), V.t (T.int IntKind.i64 x_1)]) []) (show ((0 : Int)) = (mvOn x.op) by grind [mvOff, mvOn])))
          · let t4 : Tp pr := .b (show (decide (x.op = (8 : Int))) = false by simpa using hc4)
            by_cases hc5 : x.op = (4 : Int)
            · let t5 : Tp pr := .b (show (decide (x.op = (4 : Int))) = true by simpa using hc5)
              exact .tpe [t0, t1, t2, t3, t4, t5] (Out.val (V.tup [V.t (T.int IntKind.i64 (2 : Int)), V.t (T.int IntKind.i64 (1 : Int))]) []) (by kernel_rfl) ((congrArg (fun x => Out.val (V.tup [V.t (T.int IntKind.i64 x), V.t (T.int IntKind.i64 (1 : Int))]) []) (show ((2 : Int)) = (mvOff x.op) by grind [mvOff, mvOn])).trans (congrArg (fun x_1 => Out.val (V.tup [V.t (T.int IntKind.i64 (mvOff x.op)), V.t (T.int IntKind.i64 x_1)]) []) (show ((1 : Int)) = (mvOn x.op) by grind [mvOff, mvOn])))
            · let t5 : Tp pr := .b (show (decide (x.op = (4 : Int))) = false by simpa using hc5)
              by_cases hc6 : x.op = (5 : Int)
              · let t6 : Tp pr := .b (show (decide (x.op = (5 : Int))) = true by simpa using hc6)
                let t7 : Tp pr := .b (show (decide (x.op = (5 : Int))) = true by (simp; omega))
                exact .tpe [t0, t1, t2, t3, t4, t5, t6, t7] (Out.val (V.tup [V.t (T.int IntKind.i64 (1 : Int)), V.t (T.int IntKind.i64 (1 : Int))]) []) (by kernel_rfl) ((congrArg (fun x => Out.val (V.tup [V.t (T.int IntKind.i64 x), V.t (T.int IntKind.i64 (1 : Int))]) []) (show ((1 : Int)) = (mvOff x.op) by grind [mvOff, mvOn])).trans (congrArg (fun x_1 => Out.val (V.tup [V.t (T.int IntKind.i64 (mvOff x.op)), V.t (T.int IntKind.i64 x_1)]) []) (show ((1 : Int)) = (mvOn x.op) by grind [mvOff, mvOn])))
              · let t6 : Tp pr := .b (show (decide (x.op = (5 : Int))) = false by simpa using hc6)
                by_cases hc7 : x.op = (9 : Int)
                · let t7 : Tp pr := .b (show (decide (x.op = (9 : Int))) = true by simpa using hc7)
                  exact .tpe [t0, t1, t2, t3, t4, t5, t6, t7] (Out.val (V.tup [V.t (T.int IntKind.i64 (1 : Int)), V.t (T.int IntKind.i64 (1 : Int))]) []) (by kernel_rfl) ((congrArg (fun x => Out.val (V.tup [V.t (T.int IntKind.i64 x), V.t (T.int IntKind.i64 (1 : Int))]) []) (show ((1 : Int)) = (mvOff x.op) by grind [mvOff, mvOn])).trans (congrArg (fun x_1 => Out.val (V.tup [V.t (T.int IntKind.i64 (mvOff x.op)), V.t (T.int IntKind.i64 x_1)]) []) (show ((1 : Int)) = (mvOn x.op) by grind [mvOff, mvOn])))
                · let t7 : Tp pr := .b (show (decide (x.op = (9 : Int))) = false by simpa using hc7)
                  exact .tpe [t0, t1, t2, t3, t4, t5, t6, t7] (Out.val (V.tup [V.t (T.int IntKind.i64 (0 : Int)), V.t (T.int IntKind.i64 (0 : Int))]) []) (by kernel_rfl) ((congrArg (fun x => Out.val (V.tup [V.t (T.int IntKind.i64 x), V.t (T.int IntKind.i64 (0 : Int))]) []) (show ((0 : Int)) = (mvOff x.op) by grind [mvOff, mvOn])).trans (congrArg (fun x_1 => Out.val (V.tup [V.t (T.int IntKind.i64 (mvOff x.op)), V.t (T.int IntKind.i64 x_1)]) []) (show ((0 : Int)) = (mvOn x.op) by grind [mvOff, mvOn])))
theorem l16Takes_ev (x : Bc) : Ev pr (.call 103 [vs x.ce] []) (.val (.tup [i64 (mvOff x.op), i64 (mvOn x.op)]) []) := by
  by_cases hc0 : x.op = (1 : Int)
  · let t0 : Tp pr := .b (show (decide (x.op = (1 : Int))) = true by simpa using hc0)
    let t1 : Tp pr := .b (show (decide (x.op = (1 : Int))) = true by (simp; omega))
    exact .tpe [t0, t1] (Out.val (V.tup [V.t (T.int IntKind.i64 (0 : Int)), V.t (T.int IntKind.i64 (1 : Int))]) []) (by kernel_rfl) ((congrArg (fun x => Out.val (V.tup [V.t (T.int IntKind.i64 x), V.t (T.int IntKind.i64 (1 : Int))]) []) (show ((0 : Int)) = (mvOff x.op) by grind [mvOff, mvOn])).trans (congrArg (fun x_1 => Out.val (V.tup [V.t (T.int IntKind.i64 (mvOff x.op)), V.t (T.int IntKind.i64 x_1)]) []) (show ((1 : Int)) = (mvOn x.op) by grind [mvOff, mvOn])))
  · let t0 : Tp pr := .b (show (decide (x.op = (1 : Int))) = false by simpa using hc0)
    by_cases hc1 : x.op = (2 : Int)
    · let t1 : Tp pr := .b (show (decide (x.op = (2 : Int))) = true by simpa using hc1)
      exact .tpe [t0, t1] (Out.val (V.tup [V.t (T.int IntKind.i64 (0 : Int)), V.t (T.int IntKind.i64 (1 : Int))]) []) (by kernel_rfl) ((congrArg (fun x => Out.val (V.tup [V.t (T.int IntKind.i64 x), V.t (T.int IntKind.i64 (1 : Int))]) []) (show ((0 : Int)) = (mvOff x.op) by grind [mvOff, mvOn])).trans (congrArg (fun x_1 => Out.val (V.tup [V.t (T.int IntKind.i64 (mvOff x.op)), V.t (T.int IntKind.i64 x_1)]) []) (show ((1 : Int)) = (mvOn x.op) by grind [mvOff, mvOn])))
    · let t1 : Tp pr := .b (show (decide (x.op = (2 : Int))) = false by simpa using hc1)
      by_cases hc2 : x.op = (3 : Int)
      · let t2 : Tp pr := .b (show (decide (x.op = (3 : Int))) = true by simpa using hc2)
        let t3 : Tp pr := .b (show (decide (x.op = (3 : Int))) = true by (simp; omega))
        exact .tpe [t0, t1, t2, t3] (Out.val (V.tup [V.t (T.int IntKind.i64 (1 : Int)), V.t (T.int IntKind.i64 (0 : Int))]) []) (by kernel_rfl) ((congrArg (fun x => Out.val (V.tup [V.t (T.int IntKind.i64 x), V.t (T.int IntKind.i64 (0 : Int))]) []) (show ((1 : Int)) = (mvOff x.op) by grind [mvOff, mvOn])).trans (congrArg (fun x_1 => Out.val (V.tup [V.t (T.int IntKind.i64 (mvOff x.op)), V.t (T.int IntKind.i64 x_1)]) []) (show ((0 : Int)) = (mvOn x.op) by grind [mvOff, mvOn])))
      · let t2 : Tp pr := .b (show (decide (x.op = (3 : Int))) = false by simpa using hc2)
        by_cases hc3 : x.op = (7 : Int)
        · let t3 : Tp pr := .b (show (decide (x.op = (7 : Int))) = true by simpa using hc3)
          let t4 : Tp pr := .b (show (decide (x.op = (7 : Int))) = true by (simp; omega))
          exact .tpe [t0, t1, t2, t3, t4] (Out.val (V.tup [V.t (T.int IntKind.i64 (1 : Int)), V.t (T.int IntKind.i64 (0 : Int))]) []) (by kernel_rfl) ((congrArg (fun x => Out.val (V.tup [V.t (T.int IntKind.i64 x), V.t (T.int IntKind.i64 (0 : Int))]) []) (show ((1 : Int)) = (mvOff x.op) by grind [mvOff, mvOn])).trans (congrArg (fun x_1 => Out.val (V.tup [V.t (T.int IntKind.i64 (mvOff x.op)), V.t (T.int IntKind.i64 x_1)]) []) (show ((0 : Int)) = (mvOn x.op) by grind [mvOff, mvOn])))
        · let t3 : Tp pr := .b (show (decide (x.op = (7 : Int))) = false by simpa using hc3)
          by_cases hc4 : x.op = (8 : Int)
          · let t4 : Tp pr := .b (show (decide (x.op = (8 : Int))) = true by simpa using hc4)
            exact .tpe [t0, t1, t2, t3, t4] (Out.val (V.tup [V.t (T.int IntKind.i64 (1 : Int)), V.t (T.int IntKind.i64 (0 : Int))]) []) (by kernel_rfl) ((congrArg (fun x => Out.val (V.tup [V.t (T.int IntKind.i64 x), V.t (T.int IntKind.i64 (0 : Int))]) []) (show ((1 : Int)) = (mvOff x.op) by grind [mvOff, mvOn])).trans (congrArg (fun x_1 => Out.val (V.tup [V.t (T.int IntKind.i64 (mvOff x.op)), V.t (T.int IntKind.i64 x_1)]) []) (show ((0 : Int)) = (mvOn x.op) by grind [mvOff, mvOn])))
          · let t4 : Tp pr := .b (show (decide (x.op = (8 : Int))) = false by simpa using hc4)
            by_cases hc5 : x.op = (4 : Int)
            · let t5 : Tp pr := .b (show (decide (x.op = (4 : Int))) = true by simpa using hc5)
              exact .tpe [t0, t1, t2, t3, t4, t5] (Out.val (V.tup [V.t (T.int IntKind.i64 (2 : Int)), V.t (T.int IntKind.i64 (1 : Int))]) []) (by kernel_rfl) ((congrArg (fun x => Out.val (V.tup [V.t (T.int IntKind.i64 x), V.t (T.int IntKind.i64 (1 : Int))]) []) (show ((2 : Int)) = (mvOff x.op) by grind [mvOff, mvOn])).trans (congrArg (fun x_1 => Out.val (V.tup [V.t (T.int IntKind.i64 (mvOff x.op)), V.t (T.int IntKind.i64 x_1)]) []) (show ((1 : Int)) = (mvOn x.op) by grind [mvOff, mvOn])))
            · let t5 : Tp pr := .b (show (decide (x.op = (4 : Int))) = false by simpa using hc5)
              by_cases hc6 : x.op = (5 : Int)
              · let t6 : Tp pr := .b (show (decide (x.op = (5 : Int))) = true by simpa using hc6)
                let t7 : Tp pr := .b (show (decide (x.op = (5 : Int))) = true by (simp; omega))
                exact .tpe [t0, t1, t2, t3, t4, t5, t6, t7] (Out.val (V.tup [V.t (T.int IntKind.i64 (1 : Int)), V.t (T.int IntKind.i64 (1 : Int))]) []) (by kernel_rfl) ((congrArg (fun x => Out.val (V.tup [V.t (T.int IntKind.i64 x), V.t (T.int IntKind.i64 (1 : Int))]) []) (show ((1 : Int)) = (mvOff x.op) by grind [mvOff, mvOn])).trans (congrArg (fun x_1 => Out.val (V.tup [V.t (T.int IntKind.i64 (mvOff x.op)), V.t (T.int IntKind.i64 x_1)]) []) (show ((1 : Int)) = (mvOn x.op) by grind [mvOff, mvOn])))
              · let t6 : Tp pr := .b (show (decide (x.op = (5 : Int))) = false by simpa using hc6)
                by_cases hc7 : x.op = (9 : Int)
                · let t7 : Tp pr := .b (show (decide (x.op = (9 : Int))) = true by simpa using hc7)
                  exact .tpe [t0, t1, t2, t3, t4, t5, t6, t7] (Out.val (V.tup [V.t (T.int IntKind.i64 (1 : Int)), V.t (T.int IntKind.i64 (1 : Int))]) []) (by kernel_rfl) ((congrArg (fun x => Out.val (V.tup [V.t (T.int IntKind.i64 x), V.t (T.int IntKind.i64 (1 : Int))]) []) (show ((1 : Int)) = (mvOff x.op) by grind [mvOff, mvOn])).trans (congrArg (fun x_1 => Out.val (V.tup [V.t (T.int IntKind.i64 (mvOff x.op)), V.t (T.int IntKind.i64 x_1)]) []) (show ((1 : Int)) = (mvOn x.op) by grind [mvOff, mvOn])))
                · let t7 : Tp pr := .b (show (decide (x.op = (9 : Int))) = false by simpa using hc7)
                  exact .tpe [t0, t1, t2, t3, t4, t5, t6, t7] (Out.val (V.tup [V.t (T.int IntKind.i64 (0 : Int)), V.t (T.int IntKind.i64 (0 : Int))]) []) (by kernel_rfl) ((congrArg (fun x => Out.val (V.tup [V.t (T.int IntKind.i64 x), V.t (T.int IntKind.i64 (0 : Int))]) []) (show ((0 : Int)) = (mvOff x.op) by grind [mvOff, mvOn])).trans (congrArg (fun x_1 => Out.val (V.tup [V.t (T.int IntKind.i64 (mvOff x.op)), V.t (T.int IntKind.i64 x_1)]) []) (show ((0 : Int)) = (mvOn x.op) by grind [mvOff, mvOn])))
theorem endOf_ev (c : Int) : Ev pr (.call 122 [i64 c] []) (.val (i64 (endOf c)) []) := by
  by_cases hc0 : c = (2 : Int)
  · let t0 : Tp pr := .b (show (decide (c = (2 : Int))) = true by simpa using hc0)
    exact .tpe [t0] (Out.val (V.t (T.int IntKind.i64 (2 : Int))) []) (by kernel_rfl) (congrArg (fun x => Out.val (V.t (T.int IntKind.i64 x)) []) (show ((2 : Int)) = (endOf c) by grind [endOf]))
  · let t0 : Tp pr := .b (show (decide (c = (2 : Int))) = false by simpa using hc0)
    by_cases hc1 : c = (3 : Int)
    · let t1 : Tp pr := .b (show (decide (c = (3 : Int))) = true by simpa using hc1)
      exact .tpe [t0, t1] (Out.val (V.t (T.int IntKind.i64 (3 : Int))) []) (by kernel_rfl) (congrArg (fun x => Out.val (V.t (T.int IntKind.i64 x)) []) (show ((3 : Int)) = (endOf c) by grind [endOf]))
    · let t1 : Tp pr := .b (show (decide (c = (3 : Int))) = false by simpa using hc1)
      exact .tpe [t0, t1] (Out.val (V.t (T.int IntKind.i64 (0 : Int))) []) (by kernel_rfl) (congrArg (fun x => Out.val (V.t (T.int IntKind.i64 x)) []) (show ((0 : Int)) = (endOf c) by grind [endOf]))
end Go.Ev

/- Code that is good; how it runs, step by step. -/
namespace Go.Ev
set_option linter.unusedVariables false
set_option linter.unusedSimpArgs false
open Go.Proofs
set_option maxRecDepth 100000
set_option linter.unusedVariables false
set_option maxHeartbeats 1000000
attribute [local simp] e0
abbrev lCl (l : List Bc) : T := .ptr [.seq 3 (l.map Bc.ce)] 0
theorem GoodCodeF_ev (x : Bc) (l : List Bc) (h : l.length ≤ 1000000) : Ev pr (.call 93 [vs x.ce, .t (lCl l)] []) (.val (bl (!bcOk x l.length)) []) := by
  have := bcOk_ev x l.length (by omega)
  let t0 : Tp pr := .i (show ((↑(List.map Bc.ce l).length : Int) : Int) = (↑l.length : Int) by simp)
  exact .tp [t0, .a (this)] (by kernel_rfl)
theorem idxBc_ev (l : List Bc) (hl : l.length ≤ 1000000) : ∀ (rest done : List Bc) (i : Int), l = done ++ rest → i = done.length →
    Ev pr (.loop (lq pr 113 0) (at_ [(0, bcs l), (1, .t (.clo 93 [lCl l])), (7, i64 l.length), (8, i64 i)] [] 0))
      (if 0 ≤ idxFrom (fun x => !bcOk x l.length) i rest then .ret (at_ [(4, i64 (idxFrom (fun x => !bcOk x l.length) i rest))] [] 0) else .exit 0 (at_ [] [] 0))
  | [], done, i, h, hi => by
    have hll : (l.length : Int) = done.length := by simp [h]
    let t0 : Tp pr := .b (show (decide (i < (↑l.length : Int))) = false by (simp; omega))
    exact .tp [t0] (by kernel_rfl)
  | x :: rest, done, i, h, hi => by
    have hll : (l.length : Int) = done.length + 1 + rest.length := by simp [h]; omega
    have hg : lkp (l.map Bc.ce) i = some x.ce := by subst hi; subst h; simp
    have ih := idxBc_ev l hl rest (done ++ [x]) (i + 1) (by simp [h]) (by simp [hi])
    have hi0 : 0 ≤ i := by omega
    have hx := GoodCodeF_ev x l hl
    cases hb : bcOk x l.length with
    | false => rw [hb] at hx; (
      let t0 : Tp pr := .b (show (decide (i < (↑l.length : Int))) = true by (simp; omega))
      let t1 : Tp pr := .g .row (show (lkp (List.map Bc.ce l) i) = some (x.ce) from hg)
      exact .tpe [t0, t1, .a (hx), .b (rfl : true = true)] (Out.ret (at_ [((4 : Nat), V.t (T.int IntKind.i64 i))] [] (0 : Nat))) (by kernel_rfl) ((rfl).trans (show (Out.ret (at_ [((4 : Nat), V.t (T.int IntKind.i64 i))] [] (0 : Nat))) = if (0 : Int) ≤ idxFrom (fun x => !bcOk x (↑l.length : Int)) i (x :: rest) then Out.ret (at_ [((4 : Nat), i64 (idxFrom (fun x => !bcOk x (↑l.length : Int)) i (x :: rest)))] [] (0 : Nat)) else Out.exit (0 : Nat) (at_ [] [] (0 : Nat)) by simp [idxFrom, hb, hi0])))
    | true =>
      rw [hb] at hx
      have hI : idxFrom (fun x => !bcOk x l.length) i (x :: rest) = idxFrom (fun x => !bcOk x l.length) (i + 1) rest := by simp [idxFrom, hb]
      rw [hI]
      by_cases h0 : 0 ≤ idxFrom (fun x => !bcOk x l.length) (i + 1) rest
      · rw [if_pos h0] at ih ⊢; (
        let t0 : Tp pr := .b (show (decide (i < (↑l.length : Int))) = true by (simp; omega))
        let t1 : Tp pr := .g .row (show (lkp (List.map Bc.ce l) i) = some (x.ce) from hg)
        let t4 : Tp pr := .i (wrap_i64 (a := i + (1 : Int)) (by omega) (by omega))
        exact .tp [t0, t1, .a (hx), .b (rfl : false = false), t4, .a (ih)] (by kernel_rfl))
      · rw [if_neg h0] at ih ⊢; (
        let t0 : Tp pr := .b (show (decide (i < (↑l.length : Int))) = true by (simp; omega))
        let t1 : Tp pr := .g .row (show (lkp (List.map Bc.ce l) i) = some (x.ce) from hg)
        let t4 : Tp pr := .i (wrap_i64 (a := i + (1 : Int)) (by omega) (by omega))
        exact .tp [t0, t1, .a (hx), .b (rfl : false = false), t4, .a (ih)] (by kernel_rfl))
theorem idxBcs_ev (l : List Bc) (hl : l.length ≤ 1000000) : Ev pr (.call 113 [bcs l, .t (.clo 93 [lCl l])] []) (.val (i64 (idxFrom (fun x => !bcOk x l.length) 0 l)) []) := by
  have h := idxBc_ev l hl l [] 0 rfl rfl
  have h2 := idxFrom_neg (fun x => !bcOk x l.length) l 0 (Int.le_refl _)
  by_cases h0 : 0 ≤ idxFrom (fun x => !bcOk x l.length) 0 l
  · rw [if_pos h0] at h; (
    let t0 : Tp pr := .i (show ((↑(List.map Bc.ce l).length : Int) : Int) = (↑l.length : Int) by simp)
    exact .tp [t0, .a (h)] (by kernel_rfl))
  · rw [if_neg h0] at h; rw [h2 h0]; (
    let t0 : Tp pr := .i (show ((↑(List.map Bc.ce l).length : Int) : Int) = (↑l.length : Int) by simp)
    exact .tp [t0, .a (h)] (by kernel_rfl))
theorem anyBc_ev (l : List Bc) (hl : l.length ≤ 1000000) : Ev pr (.call 92 [bcs l, .t (.clo 93 [lCl l])] []) (.val (bl (l.any fun x => !bcOk x l.length)) []) := by
  rw [← idxFrom_any (fun x => !bcOk x l.length) l 0 (by omega)]
  exact .tp [.a (idxBcs_ev (l) (by assumption))] (by kernel_rfl)
theorem GoodCodeI_ev (l : List Bc) (hl : l.length ≤ 1000000) : Ev pr (.call 47 [bcs l] []) (.val (bl (goodCode l)) []) := by
  have h := anyBc_ev l hl
  unfold goodCode
  let t0 : Tp pr := .i (show ((↑(List.map Bc.ce l).length : Int) : Int) = (↑l.length : Int) by simp)
  let t1 : Tp pr := .a (within_ev ((↑l.length : Int)) ((1 : Int)) ((120 : Int)))
  by_cases hc2 : (↑l.length : Int) < (1 : Int) ∨ (120 : Int) < (↑l.length : Int)
  · let t2 : Tp pr := .b (show (!(decide ((↑l.length : Int) ≥ (1 : Int)) && decide ((↑l.length : Int) ≤ (120 : Int)))) = true by simpa using hc2)
    exact .tpe [t0, t1, t2] (Out.val (V.t (T.bool false)) []) (by kernel_rfl) (congrArg (fun x => Out.val (V.t (T.bool x)) []) (show (false) = (decide ((↑l.length : Int) ≥ (1 : Int)) && decide ((↑l.length : Int) ≤ (120 : Int)) && !l.any fun x => !bcOk x (↑l.length : Int)) by (simp [*] <;> omega)))
  · let t2 : Tp pr := .b (show (!(decide ((↑l.length : Int) ≥ (1 : Int)) && decide ((↑l.length : Int) ≤ (120 : Int)))) = false by simpa using hc2)
    exact .tpe [t0, t1, t2, .a (h), .m (rfl : true = true)] (Out.val (V.t (T.bool !l.any fun x => !bcOk x (↑l.length : Int))) []) (by kernel_rfl) (congrArg (fun x => Out.val (V.t (T.bool x)) []) (show (!l.any fun x => !bcOk x (↑l.length : Int)) = (decide ((↑l.length : Int) ≥ (1 : Int)) && decide ((↑l.length : Int) ≤ (120 : Int)) && !l.any fun x => !bcOk x (↑l.length : Int)) by (simp [*] <;> omega)))
theorem goodSL_ev (l : List Bc) (hl : l.length ≤ 1000000) : ∀ (rest done : List Bc) (i : Int), l = done ++ rest → i = done.length →
    Ev pr (.loop (lq pr 75 0) (at_ [(0, bcs l), (5, bcs l), (6, i64 l.length), (7, i64 i)] [] 0))
      (bif rest.any (fun x => !bcOk x l.length) then .ret (at_ [(2, bl false)] [] 0) else .exit 0 (at_ [(0, bcs l)] [] 0))
  | [], done, i, h, hi => by
    have hll : (l.length : Int) = done.length := by simp [h]
    let t0 : Tp pr := .b (show (decide (i < (↑l.length : Int))) = false by (simp; omega))
    exact .tp [t0] (by kernel_rfl)
  | x :: rest, done, i, h, hi => by
    have hll : (l.length : Int) = done.length + 1 + rest.length := by simp [h]; omega
    have hg : lkp (l.map Bc.ce) i = some x.ce := by subst hi; subst h; simp
    have ih := goodSL_ev l hl rest (done ++ [x]) (i + 1) (by simp [h]) (by simp [hi])
    have hx := l16One_ev x l.length (by omega)
    cases hb : bcOk x l.length with
    | false =>
      rw [hb] at hx
      simp only [List.any_cons, hb, Bool.not_false, Bool.true_or]
      let t0 : Tp pr := .b (show (decide (i < (↑l.length : Int))) = true by (simp; omega))
      let t1 : Tp pr := .g .row (show (lkp (List.map Bc.ce l) i) = some (x.ce) from hg)
      let t2 : Tp pr := .i (show ((↑(List.map Bc.ce l).length : Int) : Int) = (↑l.length : Int) by simp)
      exact .tp [t0, t1, t2, .a (hx), .b (rfl : true = true)] (by kernel_rfl)
    | true =>
      rw [hb] at hx
      simp only [List.any_cons, hb, Bool.not_true, Bool.false_or]
      cases hr : rest.any (fun x => !bcOk x l.length) with
      | true => rw [hr] at ih; (
        let t0 : Tp pr := .b (show (decide (i < (↑l.length : Int))) = true by (simp; omega))
        let t1 : Tp pr := .g .row (show (lkp (List.map Bc.ce l) i) = some (x.ce) from hg)
        let t2 : Tp pr := .i (show ((↑(List.map Bc.ce l).length : Int) : Int) = (↑l.length : Int) by simp)
        let t5 : Tp pr := .i (wrap_i64 (a := i + (1 : Int)) (by omega) (by omega))
        exact .tp [t0, t1, t2, .a (hx), .b (rfl : false = false), t5, .a (ih)] (by kernel_rfl))
      | false => rw [hr] at ih; (
        let t0 : Tp pr := .b (show (decide (i < (↑l.length : Int))) = true by (simp; omega))
        let t1 : Tp pr := .g .row (show (lkp (List.map Bc.ce l) i) = some (x.ce) from hg)
        let t2 : Tp pr := .i (show ((↑(List.map Bc.ce l).length : Int) : Int) = (↑l.length : Int) by simp)
        let t5 : Tp pr := .i (wrap_i64 (a := i + (1 : Int)) (by omega) (by omega))
        exact .tp [t0, t1, t2, .a (hx), .b (rfl : false = false), t5, .a (ih)] (by kernel_rfl))
theorem GoodCodeS_ev (l : List Bc) (hl : l.length ≤ 1000000) : Ev pr (.call 75 [bcs l] []) (.val (bl (goodCode l)) []) := by
  have h := goodSL_ev l hl l [] 0 rfl rfl
  unfold goodCode
  cases hr : l.any (fun x => !bcOk x l.length) with
  | true => rw [hr] at h; (
    let t0 : Tp pr := .i (show ((↑(List.map Bc.ce l).length : Int) : Int) = (↑l.length : Int) by simp)
    exact .tpe [t0, .a (h)] (Out.val (V.t (T.bool false)) []) (by kernel_rfl) (congrArg (fun x => Out.val (V.t (T.bool x)) []) (show (false) = (decide ((↑l.length : Int) ≥ (1 : Int)) && decide ((↑l.length : Int) ≤ (120 : Int)) && false) by simp)))
  | false => rw [hr] at h; (
    let t0 : Tp pr := .i (show ((↑(List.map Bc.ce l).length : Int) : Int) = (↑l.length : Int) by simp)
    let t2 : Tp pr := .i (show ((↑(List.map Bc.ce l).length : Int) : Int) = (↑l.length : Int) by simp)
    let t3 : Tp pr := .a (l1In_ev ((↑l.length : Int)) ((1 : Int)) ((120 : Int)))
    exact .tpe [t0, .a (h), t2, t3] (Out.val (V.t (T.bool (decide ((↑l.length : Int) ≥ (1 : Int)) && decide ((↑l.length : Int) ≤ (120 : Int))))) []) (by kernel_rfl) (congrArg (fun x => Out.val (V.t (T.bool x)) []) (show (decide ((↑l.length : Int) ≥ (1 : Int)) && decide ((↑l.length : Int) ≤ (120 : Int))) = (decide ((↑l.length : Int) ≥ (1 : Int)) && decide ((↑l.length : Int) ≤ (120 : Int)) && true) by simp)))
end Go.Ev

/- slices.Clone: what it makes, by the machine itself and by its contract. -/
namespace Go.Ev
set_option linter.unusedVariables false
set_option linter.unusedSimpArgs false
open Go.Proofs
set_option maxRecDepth 100000
set_option linter.unusedVariables false
set_option maxHeartbeats 1000000
theorem cloneN_ev : Ev pr0 (.call 87 [.t (.sn true)] []) (.val (.t .nils) []) := by
  exact .tp [.b (rfl : true = true)] (by kernel_rfl)
theorem cloneE_ev : Ev pr0 (.call 87 [.t (.sn false)] []) (.val (.vec 0 0 1 0 0) [.vec true 1 []]) := by
  exact .tp [.b (rfl : false = false), .m (rfl : true = true), .b (rfl : true = true), .c (rfl : ((0 : Nat)) = _), .n .crows (rfl : ([]) = _)] (by kernel_rfl)
theorem cloneL_ev (e : List T) (es : List (List T)) (h : es.length + 1 ≤ 1048576) : Ev pr0 (.call 87 [.t (.seq 1 (e :: es))] []) (.val (.vec 0 (es.length + 1) 1 0 (es.length + 1)) [.vec true 1 ((e :: es).map (List.map C.t))]) := by
  let t2 : Tp pr0 := .m (show (decide ((0 : Nat) = (0 : Nat) ∧ (0 : Nat) ≤ (0 : Nat) ∧ (0 : Nat) + (List.map (fun x => List.map C.t x) (e :: es)).length ≤ (4294967296 : Nat))) = true by (simp; omega))
  let t4 : Tp pr0 := .c (show ((0 : Nat) + (List.map (fun x => List.map C.t x) (e :: es)).length : Nat) = es.length + (1 : Nat) by simp)
  let t5 : Tp pr0 := .n .crows (show ([].append (List.map (fun x => List.map C.t x) (e :: es))) = List.map C.t e :: List.map (fun x => List.map C.t x) es by simp)
  exact .tp [.m (rfl : true = true), .b (rfl : false = false), t2, .b (rfl : false = false), t4, t5] (by kernel_rfl)
theorem follows_ok : pr0.P.follows .mixedOrders = true := by kernel_rfl
theorem prim_none : PrimOk pr := by
  intro f p hf
  have hf' : (if f = 87 then some clonePrim else none) = some p := hf
  split at hf'
  · rename_i e
    subst e
    obtain rfl := Option.some.inj hf'
    exact clone_ok (pr0 := pr0) follows_ok (fun _ _ h => by cases h) cloneN_ev cloneE_ev cloneL_ev
  · cases hf'
theorem clone_ev (l : List Int) (h : l.length ≤ 1048576) : Ev pr (.call 87 [isq l] []) (.val (.vec 0 l.length 1 0 l.length) [.vec true 1 (ints l)]) := by
  have h2 : clonePrim [isq l] [] = some (.vec 0 l.length 1 0 l.length, [.vec true 1 (ints l)]) := by
    simp only [clonePrim]
    rw [if_pos (by simpa using h)]
    simp [ints, intt, intc, Function.comp_def]
  exact Ev.prim (p := clonePrim) (by kernel_rfl) rfl h2
end Go.Ev

/- Code that runs: the program's steps. -/
namespace Go.Ev
set_option linter.unusedVariables false
set_option linter.unusedSimpArgs false
open Go.Proofs
set_option maxRecDepth 100000
set_option linter.unusedVariables false
set_option maxHeartbeats 1000000
attribute [local simp] e0
def stkObs (lv : T) (lo st jk : List Int) (k : Int) : List Ob := [.box [.t lv, .vec 1 10 1 0 10, .vec 2 (st.length + jk.length) 1 0 st.length, i64 k], .vec true 1 (ints lo), .vec true 1 (ints (st.reverse ++ jk))]
theorem Clone_ev (l : List Int) (h : 0 < l.length) (h2 : l.length ≤ 1000000) : Ev pr (.call 87 [.t (.seq 1 (l.map intt))] []) (.val (.vec 0 l.length 1 0 l.length) [.vec true 1 (ints l)]) := clone_ev l (by omega)
theorem pop_ev (lv : T) (lo st jk : List Int) (k a : Int) (hs : st.length ≤ 39) : Ev pr (.call 89 [.ptr 0 1 0 0] (stkObs lv lo (a :: st) jk k)) (.val (i64 a) (stkObs lv lo st (a :: jk) k)) := by
  let t0 : Tp pr := .i (show ((↑(a :: st).length : Int) : Int) = (↑st.length : Int) + (1 : Int) by simp)
  let t1 : Tp pr := .i (wrap_i64 (a := (↑st.length : Int) + (1 : Int) - (1 : Int)) (by omega) (by omega))
  let t2 : Tp pr := .m (show (decide ((0 : Int) ≤ (↑st.length : Int) + (1 : Int) - (1 : Int) ∧ ((↑st.length : Int) + (1 : Int) - (1 : Int)).toNat < (a :: st).length)) = true by simp)
  let t3 : Tp pr := .c (show ((0 : Nat) + ((↑st.length : Int) + (1 : Int) - (1 : Int)).toNat : Nat) = st.length by omega)
  let t4 : Tp pr := .m (show (decide ((ints ((a :: st).reverse ++ jk)).length = (a :: st).length + jk.length)) = true by (simp; omega))
  let t5 : Tp pr := .g .crow (show ((ints ((a :: st).reverse ++ jk))[st.length]?) = some (intc a) by simp)
  let t6 : Tp pr := .m (show (decide ((0 : Int) ≤ (0 : Int) ∧ (0 : Int) ≤ (↑st.length : Int) + (1 : Int) - (1 : Int) ∧ (0 : Nat) + ((↑st.length : Int) + (1 : Int) - (1 : Int)).toNat ≤ (a :: st).length + jk.length)) = true by (simp; omega))
  let t8 : Tp pr := .c (show (((↑st.length : Int) + (1 : Int) - (1 : Int)).toNat - (0 : Nat) : Nat) = st.length by omega)
  exact .tpe [t0, t1, t2, t3, t4, t5, t6, .c (rfl : ((0 : Nat)) = _), t8] (Out.val (V.t (T.int IntKind.i64 a)) [Ob.box [V.t lv, V.vec (1 : Nat) (10 : Nat) (1 : Nat) (0 : Nat) (10 : Nat), V.vec (2 : Nat) ((a :: st).length + jk.length) (1 : Nat) (0 : Nat) st.length, V.t (T.int IntKind.i64 k)], Ob.vec true (1 : Nat) (ints lo), Ob.vec true (1 : Nat) (ints ((a :: st).reverse ++ jk))]) (by kernel_rfl) ((congrArg (fun x => Out.val (V.t (T.int IntKind.i64 a)) [Ob.box [V.t lv, V.vec (1 : Nat) (10 : Nat) (1 : Nat) (0 : Nat) (10 : Nat), V.vec (2 : Nat) x (1 : Nat) (0 : Nat) st.length, V.t (T.int IntKind.i64 k)], Ob.vec true (1 : Nat) (ints lo), Ob.vec true (1 : Nat) (ints ((a :: st).reverse ++ jk))]) (show ((a :: st).length + jk.length) = (st.length + (a :: jk).length) by (simp; omega))).trans (congrArg (fun x => Out.val (V.t (T.int IntKind.i64 a)) [Ob.box [V.t lv, V.vec (1 : Nat) (10 : Nat) (1 : Nat) (0 : Nat) (10 : Nat), V.vec (2 : Nat) (st.length + (a :: jk).length) (1 : Nat) (0 : Nat) st.length, V.t (T.int IntKind.i64 k)], Ob.vec true (1 : Nat) (ints lo), Ob.vec true (1 : Nat) x]) (show (ints ((a :: st).reverse ++ jk)) = (ints (st.reverse ++ a :: jk)) by simp)))
theorem two1_ev (lv : T) (lo st jk : List Int) (k a b : Int) (s : ByteArray) (hs : (a :: b :: st).length ≤ 40) (ha : bd a) (hb : bd b) : Ev pr (.call 110 [.ptr 0 1 0 0, .t (.str s)] (stkObs lv lo (a :: b :: st) jk k))
    (.val (i64 (endOf (two2 s.toList b a).2)) (stkObs lv lo ((two2 s.toList b a).1 :: st) (a :: jk) k)) := by
  have h1 := pop_ev lv lo (b :: st) jk k a (by simp at hs ⊢; omega)
  have h2 := pop_ev lv lo st (a :: jk) k b (by simp at hs; omega)
  obtain ⟨ha1, ha2⟩ := ha
  obtain ⟨hb1, hb2⟩ := hb
  let t2 : Tp pr := .a (two_ev (s) (b) (a) (by assumption) (by assumption) (by assumption) (by assumption))
  let t4 : Tp pr := .m (show (decide ((ints (st.reverse ++ b :: a :: jk)).length = st.length + (b :: a :: jk).length ∧ (0 : Nat) + st.length ≤ st.length + (b :: a :: jk).length ∧ st.length + (1 : Nat) ≤ (4294967296 : Nat))) = true by (simp at *; omega))
  let t5 : Tp pr := .b (show (decide (st.length + (1 : Nat) ≤ st.length + (b :: a :: jk).length)) = true by simp)
  let t7 : Tp pr := .n .crows (show (((List.take st.length (ints (st.reverse ++ b :: a :: jk))).append (List.take (1 : Nat) (List.drop (0 : Nat) [[C.t (T.int IntKind.i64 (two2 s.toList b a).fst)]]))).append (List.drop (st.length + (1 : Nat)) (ints (st.reverse ++ b :: a :: jk)))) = ints st.reverse ++ [C.t (T.int IntKind.i64 (two2 s.toList b a).fst)] :: ints (a :: jk) by simp)
  exact .tpe [.a (h1), .a (h2), t2, .m (rfl : true = true), t4, t5, .c (rfl : (st.length + (1 : Nat)) = _), t7, .a (endOf_ev ((two2 s.toList b a).snd))] (Out.val (V.t (T.int IntKind.i64 (endOf (two2 s.toList b a).snd))) [Ob.box [V.t lv, V.vec (1 : Nat) (10 : Nat) (1 : Nat) (0 : Nat) (10 : Nat), V.vec (2 : Nat) (st.length + (b :: a :: jk).length) (1 : Nat) (0 : Nat) (st.length + (1 : Nat)), V.t (T.int IntKind.i64 k)], Ob.vec true (1 : Nat) (ints lo), Ob.vec true (1 : Nat) ((ints st.reverse).append ([C.t (T.int IntKind.i64 (two2 s.toList b a).fst)] :: ints (a :: jk)))]) (by kernel_rfl) (((congrArg (fun x => Out.val (V.t (T.int IntKind.i64 (endOf (two2 s.toList b a).snd))) [Ob.box [V.t lv, V.vec (1 : Nat) (10 : Nat) (1 : Nat) (0 : Nat) (10 : Nat), V.vec (2 : Nat) x (1 : Nat) (0 : Nat) (st.length + (1 : Nat)), V.t (T.int IntKind.i64 k)], Ob.vec true (1 : Nat) (ints lo), Ob.vec true (1 : Nat) ((ints st.reverse).append ([C.t (T.int IntKind.i64 (two2 s.toList b a).fst)] :: ints (a :: jk)))]) (show (st.length + (b :: a :: jk).length) = (((two2 s.toList b a).fst :: st).length + (a :: jk).length) by (simp; omega))).trans (congrArg (fun x => Out.val (V.t (T.int IntKind.i64 (endOf (two2 s.toList b a).snd))) [Ob.box [V.t lv, V.vec (1 : Nat) (10 : Nat) (1 : Nat) (0 : Nat) (10 : Nat), V.vec (2 : Nat) (((two2 s.toList b a).fst :: st).length + (a :: jk).length) (1 : Nat) (0 : Nat) x, V.t (T.int IntKind.i64 k)], Ob.vec true (1 : Nat) (ints lo), Ob.vec true (1 : Nat) ((ints st.reverse).append ([C.t (T.int IntKind.i64 (two2 s.toList b a).fst)] :: ints (a :: jk)))]) (show (st.length + (1 : Nat)) = (((two2 s.toList b a).fst :: st).length) by simp [ints_app, ints_cons, intc]))).trans (congrArg (fun x => Out.val (V.t (T.int IntKind.i64 (endOf (two2 s.toList b a).snd))) [Ob.box [V.t lv, V.vec (1 : Nat) (10 : Nat) (1 : Nat) (0 : Nat) (10 : Nat), V.vec (2 : Nat) (((two2 s.toList b a).fst :: st).length + (a :: jk).length) (1 : Nat) (0 : Nat) ((two2 s.toList b a).fst :: st).length, V.t (T.int IntKind.i64 k)], Ob.vec true (1 : Nat) (ints lo), Ob.vec true (1 : Nat) x]) (show ((ints st.reverse).append ([C.t (T.int IntKind.i64 (two2 s.toList b a).fst)] :: ints (a :: jk))) = (ints (((two2 s.toList b a).fst :: st).reverse ++ a :: jk)) by simp [ints_app, ints_cons, intc])))
theorem step_ev (l : List Bc) (lo st jk : List Int) (k : Int) (hg : goodCode l = true) (h : RunOk l lo st k) : Ev pr (.call 88 [.ptr 0 1 0 0] (stkObs (.seq 3 (l.map Bc.ce)) lo st jk k))
    (.val (i64 (stepI l lo st jk k).e) (stkObs (.seq 3 (l.map Bc.ce)) (stepI l lo st jk k).lo (stepI l lo st jk k).st (stepI l lo st jk k).jk (stepI l lo st jk k).at_)) := by
  have hl := goodCode_len hg
  obtain ⟨h1, h2, h3, h4, h5, h6⟩ := h
  obtain ⟨n, rfl⟩ : ∃ n : Nat, k = n := ⟨k.toNat, by omega⟩
  by_cases hk : (n : Int) = l.length
  · rw [show stepI l lo st jk n = ⟨5, lo, st, jk, n⟩ by simp [stepI, show l.length ≤ n by omega]]
    let t8 : Tp pr := .i (show ((↑(List.map Bc.ce l).length : Int) : Int) = (↑l.length : Int) by simp)
    let t11 : Tp pr := .b (show (decide ((↑n : Int) = (↑l.length : Int))) = true by (simp; omega))
    exact .tp [.m (rfl : true = true), .m (rfl : true = true), .m (rfl : true = true), .m (rfl : true = true), .m (rfl : true = true), .m (rfl : true = true), .m (rfl : true = true), .m (rfl : true = true), t8, .m (rfl : true = true), .m (rfl : true = true), t11] (by kernel_rfl)
  · have hlt : n < l.length := by omega
    obtain ⟨x, hx⟩ : ∃ x, l[n]? = some x := ⟨l[n], List.getElem?_eq_getElem hlt⟩
    have hgl : lkp (l.map Bc.ce) (n : Int) = some x.ce := by simp [lkp, hx]
    have hb := goodCode_mem hg (List.mem_of_getElem? hx)
    rw [show stepI l lo st jk n = stepX x lo st jk n by simp [stepI, hx]]
    have hmv := mv_bd x.op
    by_cases hc : (st.length : Int) < mvOff x.op ∨ st.length - mvOff x.op + mvOn x.op > 30
    · rw [show stepX x lo st jk n = ⟨5, lo, st, jk, n⟩ by unfold stepX; rw [if_pos hc]]
      let t8 : Tp pr := .i (show ((↑(List.map Bc.ce l).length : Int) : Int) = (↑l.length : Int) by simp)
      let t11 : Tp pr := .b (show (decide ((↑n : Int) = (↑l.length : Int))) = false by (simp; omega))
      let t20 : Tp pr := .g .row (show (lkp (List.map Bc.ce l) (↑n : Int)) = some (x.ce) from hgl)
      by_cases hc27 : (↑st.length : Int) < mvOff x.op
      · let t27 : Tp pr := .b (show (decide ((↑st.length : Int) < mvOff x.op)) = true by simpa using hc27)
        exact .tp [.m (rfl : true = true), .m (rfl : true = true), .m (rfl : true = true), .m (rfl : true = true), .m (rfl : true = true), .m (rfl : true = true), .m (rfl : true = true), .m (rfl : true = true), t8, .m (rfl : true = true), .m (rfl : true = true), t11, .m (rfl : true = true), .m (rfl : true = true), .m (rfl : true = true), .m (rfl : true = true), .m (rfl : true = true), .m (rfl : true = true), .m (rfl : true = true), .m (rfl : true = true), t20, .m (rfl : true = true), .m (rfl : true = true), .m (rfl : true = true), .m (rfl : true = true), .a (moves_ev (x)), .i (rfl : ((↑st.length : Int)) = _), t27, .b (rfl : true = true)] (by kernel_rfl)
      · let t27 : Tp pr := .b (show (decide ((↑st.length : Int) < mvOff x.op)) = false by simpa using hc27)
        let t29 : Tp pr := .i (wrap_i64 (a := (↑st.length : Int) - mvOff x.op) (by omega) (by omega))
        let t30 : Tp pr := .i (wrap_i64 (a := (↑st.length : Int) - mvOff x.op + mvOn x.op) (by omega) (by omega))
        let t31 : Tp pr := .b (show (decide ((↑st.length : Int) - mvOff x.op + mvOn x.op > (30 : Int))) = true by (simp; omega))
        exact .tp [.m (rfl : true = true), .m (rfl : true = true), .m (rfl : true = true), .m (rfl : true = true), .m (rfl : true = true), .m (rfl : true = true), .m (rfl : true = true), .m (rfl : true = true), t8, .m (rfl : true = true), .m (rfl : true = true), t11, .m (rfl : true = true), .m (rfl : true = true), .m (rfl : true = true), .m (rfl : true = true), .m (rfl : true = true), .m (rfl : true = true), .m (rfl : true = true), .m (rfl : true = true), t20, .m (rfl : true = true), .m (rfl : true = true), .m (rfl : true = true), .m (rfl : true = true), .a (moves_ev (x)), .i (rfl : ((↑st.length : Int)) = _), t27, .i (rfl : ((↑st.length : Int)) = _), t29, t30, t31] (by kernel_rfl)
    · have hop := bcOk_op hb
      obtain ⟨o, m, t⟩ := x
      dsimp only at hop hc hmv hgl
      clear hx hmv
      rcases hop with rfl | rfl | rfl | rfl | rfl | rfl | rfl | rfl | rfl
      · have hm := moves_ev ⟨1, m, t⟩
        have e1 : mvOff (1 : Int) = 0 := rfl
        have e2 : mvOn (1 : Int) = 1 := rfl
        simp only [e1, e2] at hm hc
        rw [show stepX ⟨1, m, t⟩ lo st jk n = ⟨0, lo, m :: st, jk.tail, n + 1⟩ by simp [stepX, e1, e2]; omega]
        cases jk with
        | nil => (
          let t8 : Tp pr := .i (show ((↑(List.map Bc.ce l).length : Int) : Int) = (↑l.length : Int) by simp)
          let t11 : Tp pr := .b (show (decide ((↑n : Int) = (↑l.length : Int))) = false by (simp; omega))
          let t20 : Tp pr := .g .row (show (lkp (List.map Bc.ce l) (↑n : Int)) = some ((Bc.mk (1 : Int) m t).ce) from hgl)
          let t29 : Tp pr := .i (wrap_i64 (a := (↑st.length : Int) - (0 : Int)) (by omega) (by omega))
          let t30 : Tp pr := .i (wrap_i64 (a := (↑st.length : Int) - (0 : Int) + (1 : Int)) (by omega) (by omega))
          let t31 : Tp pr := .b (show (decide ((↑st.length : Int) - (0 : Int) + (1 : Int) > (30 : Int))) = false by (simp; omega))
          let t32 : Tp pr := .i (wrap_i64 (a := (↑n : Int) + (1 : Int)) (by omega) (by omega))
          let t43 : Tp pr := .m (show (decide ((ints (st.reverse ++ [])).length = st.length + (0 : Nat) ∧ (0 : Nat) + st.length ≤ st.length + (0 : Nat) ∧ st.length + (1 : Nat) ≤ (4294967296 : Nat))) = true by (simp; omega))
          let t44 : Tp pr := .b (show (decide (st.length + (1 : Nat) ≤ st.length + (0 : Nat))) = false by simp)
          let t46 : Tp pr := .n .crows (show ((List.take st.length (ints (st.reverse ++ []))).append (List.take (1 : Nat) (List.drop (0 : Nat) [[C.t (T.int IntKind.i64 m)]]))) = ints st.reverse ++ [[C.t (T.int IntKind.i64 m)]] by simp)
          exact .tpe [.m (rfl : true = true), .m (rfl : true = true), .m (rfl : true = true), .m (rfl : true = true), .m (rfl : true = true), .m (rfl : true = true), .m (rfl : true = true), .m (rfl : true = true), t8, .m (rfl : true = true), .m (rfl : true = true), t11, .m (rfl : true = true), .m (rfl : true = true), .m (rfl : true = true), .m (rfl : true = true), .m (rfl : true = true), .m (rfl : true = true), .m (rfl : true = true), .m (rfl : true = true), t20, .m (rfl : true = true), .m (rfl : true = true), .m (rfl : true = true), .m (rfl : true = true), .a (hm), .i (rfl : ((↑st.length : Int)) = _), .b (rfl : false = false), .i (rfl : ((↑st.length : Int)) = _), t29, t30, t31, t32, .b (rfl : true = true), .m (rfl : true = true), .m (rfl : true = true), .m (rfl : true = true), .m (rfl : true = true), .m (rfl : true = true), .m (rfl : true = true), .m (rfl : true = true), .m (rfl : true = true), .m (rfl : true = true), t43, t44, .c (rfl : (st.length + (1 : Nat)) = _), t46, .m (rfl : true = true), .m (rfl : true = true), .m (rfl : true = true), .m (rfl : true = true)] (Out.val (V.t (T.int IntKind.i64 (0 : Int))) [Ob.box [V.t (T.seq (3 : Nat) (List.map Bc.ce l)), V.vec (1 : Nat) (10 : Nat) (1 : Nat) (0 : Nat) (10 : Nat), V.vec (2 : Nat) (st.length + (1 : Nat)) (1 : Nat) (0 : Nat) (st.length + (1 : Nat)), V.t (T.int IntKind.i64 ((↑n : Int) + (1 : Int)))], Ob.vec true (1 : Nat) (ints lo), Ob.vec true (1 : Nat) ((ints st.reverse).append [[C.t (T.int IntKind.i64 m)]])]) (by kernel_rfl) ((((congrArg (fun x => Out.val (V.t (T.int IntKind.i64 (0 : Int))) [Ob.box [V.t (T.seq (3 : Nat) (List.map Bc.ce l)), V.vec (1 : Nat) (10 : Nat) (1 : Nat) (0 : Nat) (10 : Nat), V.vec (2 : Nat) x (1 : Nat) (0 : Nat) (st.length + (1 : Nat)), V.t (T.int IntKind.i64 ((↑n : Int) + (1 : Int)))], Ob.vec true (1 : Nat) (ints lo), Ob.vec true (1 : Nat) ((ints st.reverse).append [[C.t (T.int IntKind.i64 m)]])]) (show (st.length + (1 : Nat)) = ((StepR.mk (0 : Int) lo (m :: st) [].tail ((↑n : Int) + (1 : Int))).st.length + (0 : Nat)) by simp [ints_app, ints_cons, intc])).trans (congrArg (fun x => Out.val (V.t (T.int IntKind.i64 (0 : Int))) [Ob.box [V.t (T.seq (3 : Nat) (List.map Bc.ce l)), V.vec (1 : Nat) (10 : Nat) (1 : Nat) (0 : Nat) (10 : Nat), V.vec (2 : Nat) ((StepR.mk (0 : Int) lo (m :: st) [].tail ((↑n : Int) + (1 : Int))).st.length + (0 : Nat)) (1 : Nat) (0 : Nat) x, V.t (T.int IntKind.i64 ((↑n : Int) + (1 : Int)))], Ob.vec true (1 : Nat) (ints lo), Ob.vec true (1 : Nat) ((ints st.reverse).append [[C.t (T.int IntKind.i64 m)]])]) (show (st.length + (1 : Nat)) = ((StepR.mk (0 : Int) lo (m :: st) [].tail ((↑n : Int) + (1 : Int))).st.length) by simp [ints_app, ints_cons, intc]))).trans (congrArg (fun x => Out.val (V.t (T.int IntKind.i64 (0 : Int))) [Ob.box [V.t (T.seq (3 : Nat) (List.map Bc.ce l)), V.vec (1 : Nat) (10 : Nat) (1 : Nat) (0 : Nat) (10 : Nat), V.vec (2 : Nat) ((StepR.mk (0 : Int) lo (m :: st) [].tail ((↑n : Int) + (1 : Int))).st.length + (0 : Nat)) (1 : Nat) (0 : Nat) (StepR.mk (0 : Int) lo (m :: st) [].tail ((↑n : Int) + (1 : Int))).st.length, V.t (T.int IntKind.i64 ((↑n : Int) + (1 : Int)))], Ob.vec true (1 : Nat) x, Ob.vec true (1 : Nat) ((ints st.reverse).append [[C.t (T.int IntKind.i64 m)]])]) (show (ints lo) = (ints (StepR.mk (0 : Int) lo (m :: st) [].tail ((↑n : Int) + (1 : Int))).lo) by simp [ints_app, ints_cons, intc]))).trans (congrArg (fun x => Out.val (V.t (T.int IntKind.i64 (0 : Int))) [Ob.box [V.t (T.seq (3 : Nat) (List.map Bc.ce l)), V.vec (1 : Nat) (10 : Nat) (1 : Nat) (0 : Nat) (10 : Nat), V.vec (2 : Nat) ((StepR.mk (0 : Int) lo (m :: st) [].tail ((↑n : Int) + (1 : Int))).st.length + (0 : Nat)) (1 : Nat) (0 : Nat) (StepR.mk (0 : Int) lo (m :: st) [].tail ((↑n : Int) + (1 : Int))).st.length, V.t (T.int IntKind.i64 ((↑n : Int) + (1 : Int)))], Ob.vec true (1 : Nat) (ints (StepR.mk (0 : Int) lo (m :: st) [].tail ((↑n : Int) + (1 : Int))).lo), Ob.vec true (1 : Nat) x]) (show ((ints st.reverse).append [[C.t (T.int IntKind.i64 m)]]) = (ints ((StepR.mk (0 : Int) lo (m :: st) [].tail ((↑n : Int) + (1 : Int))).st.reverse ++ (StepR.mk (0 : Int) lo (m :: st) [].tail ((↑n : Int) + (1 : Int))).jk)) by simp [ints_app, ints_cons, intc]))))
        | cons j jk => (
          let t8 : Tp pr := .i (show ((↑(List.map Bc.ce l).length : Int) : Int) = (↑l.length : Int) by simp)
          let t11 : Tp pr := .b (show (decide ((↑n : Int) = (↑l.length : Int))) = false by (simp; omega))
          let t20 : Tp pr := .g .row (show (lkp (List.map Bc.ce l) (↑n : Int)) = some ((Bc.mk (1 : Int) m t).ce) from hgl)
          let t29 : Tp pr := .i (wrap_i64 (a := (↑st.length : Int) - (0 : Int)) (by omega) (by omega))
          let t30 : Tp pr := .i (wrap_i64 (a := (↑st.length : Int) - (0 : Int) + (1 : Int)) (by omega) (by omega))
          let t31 : Tp pr := .b (show (decide ((↑st.length : Int) - (0 : Int) + (1 : Int) > (30 : Int))) = false by (simp; omega))
          let t32 : Tp pr := .i (wrap_i64 (a := (↑n : Int) + (1 : Int)) (by omega) (by omega))
          let t43 : Tp pr := .m (show (decide ((ints (st.reverse ++ j :: jk)).length = st.length + (j :: jk).length ∧ (0 : Nat) + st.length ≤ st.length + (j :: jk).length ∧ st.length + (1 : Nat) ≤ (4294967296 : Nat))) = true by (simp; omega))
          let t44 : Tp pr := .b (show (decide (st.length + (1 : Nat) ≤ st.length + (j :: jk).length)) = true by simp)
          let t46 : Tp pr := .n .crows (show (((List.take st.length (ints (st.reverse ++ j :: jk))).append (List.take (1 : Nat) (List.drop (0 : Nat) [[C.t (T.int IntKind.i64 m)]]))).append (List.drop (st.length + (1 : Nat)) (ints (st.reverse ++ j :: jk)))) = ints st.reverse ++ [C.t (T.int IntKind.i64 m)] :: ints jk by simp)
          exact .tpe [.m (rfl : true = true), .m (rfl : true = true), .m (rfl : true = true), .m (rfl : true = true), .m (rfl : true = true), .m (rfl : true = true), .m (rfl : true = true), .m (rfl : true = true), t8, .m (rfl : true = true), .m (rfl : true = true), t11, .m (rfl : true = true), .m (rfl : true = true), .m (rfl : true = true), .m (rfl : true = true), .m (rfl : true = true), .m (rfl : true = true), .m (rfl : true = true), .m (rfl : true = true), t20, .m (rfl : true = true), .m (rfl : true = true), .m (rfl : true = true), .m (rfl : true = true), .a (hm), .i (rfl : ((↑st.length : Int)) = _), .b (rfl : false = false), .i (rfl : ((↑st.length : Int)) = _), t29, t30, t31, t32, .b (rfl : true = true), .m (rfl : true = true), .m (rfl : true = true), .m (rfl : true = true), .m (rfl : true = true), .m (rfl : true = true), .m (rfl : true = true), .m (rfl : true = true), .m (rfl : true = true), .m (rfl : true = true), t43, t44, .c (rfl : (st.length + (1 : Nat)) = _), t46, .m (rfl : true = true), .m (rfl : true = true), .m (rfl : true = true), .m (rfl : true = true)] (Out.val (V.t (T.int IntKind.i64 (0 : Int))) [Ob.box [V.t (T.seq (3 : Nat) (List.map Bc.ce l)), V.vec (1 : Nat) (10 : Nat) (1 : Nat) (0 : Nat) (10 : Nat), V.vec (2 : Nat) (st.length + (j :: jk).length) (1 : Nat) (0 : Nat) (st.length + (1 : Nat)), V.t (T.int IntKind.i64 ((↑n : Int) + (1 : Int)))], Ob.vec true (1 : Nat) (ints lo), Ob.vec true (1 : Nat) ((ints st.reverse).append ([C.t (T.int IntKind.i64 m)] :: ints jk))]) (by kernel_rfl) ((((congrArg (fun x => Out.val (V.t (T.int IntKind.i64 (0 : Int))) [Ob.box [V.t (T.seq (3 : Nat) (List.map Bc.ce l)), V.vec (1 : Nat) (10 : Nat) (1 : Nat) (0 : Nat) (10 : Nat), V.vec (2 : Nat) x (1 : Nat) (0 : Nat) (st.length + (1 : Nat)), V.t (T.int IntKind.i64 ((↑n : Int) + (1 : Int)))], Ob.vec true (1 : Nat) (ints lo), Ob.vec true (1 : Nat) ((ints st.reverse).append ([C.t (T.int IntKind.i64 m)] :: ints jk))]) (show (st.length + (j :: jk).length) = ((StepR.mk (0 : Int) lo (m :: st) (j :: jk).tail ((↑n : Int) + (1 : Int))).st.length + (StepR.mk (0 : Int) lo (m :: st) (j :: jk).tail ((↑n : Int) + (1 : Int))).jk.length) by (simp; omega))).trans (congrArg (fun x => Out.val (V.t (T.int IntKind.i64 (0 : Int))) [Ob.box [V.t (T.seq (3 : Nat) (List.map Bc.ce l)), V.vec (1 : Nat) (10 : Nat) (1 : Nat) (0 : Nat) (10 : Nat), V.vec (2 : Nat) ((StepR.mk (0 : Int) lo (m :: st) (j :: jk).tail ((↑n : Int) + (1 : Int))).st.length + (StepR.mk (0 : Int) lo (m :: st) (j :: jk).tail ((↑n : Int) + (1 : Int))).jk.length) (1 : Nat) (0 : Nat) x, V.t (T.int IntKind.i64 ((↑n : Int) + (1 : Int)))], Ob.vec true (1 : Nat) (ints lo), Ob.vec true (1 : Nat) ((ints st.reverse).append ([C.t (T.int IntKind.i64 m)] :: ints jk))]) (show (st.length + (1 : Nat)) = ((StepR.mk (0 : Int) lo (m :: st) (j :: jk).tail ((↑n : Int) + (1 : Int))).st.length) by simp [ints_app, ints_cons, intc]))).trans (congrArg (fun x => Out.val (V.t (T.int IntKind.i64 (0 : Int))) [Ob.box [V.t (T.seq (3 : Nat) (List.map Bc.ce l)), V.vec (1 : Nat) (10 : Nat) (1 : Nat) (0 : Nat) (10 : Nat), V.vec (2 : Nat) ((StepR.mk (0 : Int) lo (m :: st) (j :: jk).tail ((↑n : Int) + (1 : Int))).st.length + (StepR.mk (0 : Int) lo (m :: st) (j :: jk).tail ((↑n : Int) + (1 : Int))).jk.length) (1 : Nat) (0 : Nat) (StepR.mk (0 : Int) lo (m :: st) (j :: jk).tail ((↑n : Int) + (1 : Int))).st.length, V.t (T.int IntKind.i64 ((↑n : Int) + (1 : Int)))], Ob.vec true (1 : Nat) x, Ob.vec true (1 : Nat) ((ints st.reverse).append ([C.t (T.int IntKind.i64 m)] :: ints jk))]) (show (ints lo) = (ints (StepR.mk (0 : Int) lo (m :: st) (j :: jk).tail ((↑n : Int) + (1 : Int))).lo) by simp [ints_app, ints_cons, intc]))).trans (congrArg (fun x => Out.val (V.t (T.int IntKind.i64 (0 : Int))) [Ob.box [V.t (T.seq (3 : Nat) (List.map Bc.ce l)), V.vec (1 : Nat) (10 : Nat) (1 : Nat) (0 : Nat) (10 : Nat), V.vec (2 : Nat) ((StepR.mk (0 : Int) lo (m :: st) (j :: jk).tail ((↑n : Int) + (1 : Int))).st.length + (StepR.mk (0 : Int) lo (m :: st) (j :: jk).tail ((↑n : Int) + (1 : Int))).jk.length) (1 : Nat) (0 : Nat) (StepR.mk (0 : Int) lo (m :: st) (j :: jk).tail ((↑n : Int) + (1 : Int))).st.length, V.t (T.int IntKind.i64 ((↑n : Int) + (1 : Int)))], Ob.vec true (1 : Nat) (ints (StepR.mk (0 : Int) lo (m :: st) (j :: jk).tail ((↑n : Int) + (1 : Int))).lo), Ob.vec true (1 : Nat) x]) (show ((ints st.reverse).append ([C.t (T.int IntKind.i64 m)] :: ints jk)) = (ints ((StepR.mk (0 : Int) lo (m :: st) (j :: jk).tail ((↑n : Int) + (1 : Int))).st.reverse ++ (StepR.mk (0 : Int) lo (m :: st) (j :: jk).tail ((↑n : Int) + (1 : Int))).jk)) by simp [ints_app, ints_cons, intc]))))
      · have hm := moves_ev ⟨2, m, t⟩
        have e1 : mvOff (2 : Int) = 0 := rfl
        have e2 : mvOn (2 : Int) = 1 := rfl
        simp only [e1, e2] at hm hc
        have hmb : 0 ≤ m ∧ m ≤ 9 := by simp [bcOk] at hb; omega
        have gl := ints_get (l := lo) (k := m.toNat) (by omega)
        rw [show stepX ⟨2, m, t⟩ lo st jk n = ⟨0, lo, lo.getD m.toNat 0 :: st, jk.tail, n + 1⟩ by simp [stepX, e1, e2]; omega]
        generalize lo.getD m.toNat 0 = v at *
        cases jk with
        | nil => (
          let t8 : Tp pr := .i (show ((↑(List.map Bc.ce l).length : Int) : Int) = (↑l.length : Int) by simp)
          let t11 : Tp pr := .b (show (decide ((↑n : Int) = (↑l.length : Int))) = false by (simp; omega))
          let t20 : Tp pr := .g .row (show (lkp (List.map Bc.ce l) (↑n : Int)) = some ((Bc.mk (2 : Int) m t).ce) from hgl)
          let t29 : Tp pr := .i (wrap_i64 (a := (↑st.length : Int) - (0 : Int)) (by omega) (by omega))
          let t30 : Tp pr := .i (wrap_i64 (a := (↑st.length : Int) - (0 : Int) + (1 : Int)) (by omega) (by omega))
          let t31 : Tp pr := .b (show (decide ((↑st.length : Int) - (0 : Int) + (1 : Int) > (30 : Int))) = false by (simp; omega))
          let t32 : Tp pr := .i (wrap_i64 (a := (↑n : Int) + (1 : Int)) (by omega) (by omega))
          let t46 : Tp pr := .m (show (decide ((0 : Int) ≤ m ∧ m.toNat < (10 : Nat))) = true by (simp; omega))
          let t47 : Tp pr := .c (show ((0 : Nat) + m.toNat : Nat) = m.toNat by omega)
          let t49 : Tp pr := .m (show (decide ((ints lo).length = (10 : Nat))) = true by simp [*])
          let t50 : Tp pr := .g .crow (show ((ints lo)[m.toNat]?) = some (intc v) from gl)
          let t54 : Tp pr := .m (show (decide ((ints (st.reverse ++ [])).length = st.length + (0 : Nat) ∧ (0 : Nat) + st.length ≤ st.length + (0 : Nat) ∧ st.length + (1 : Nat) ≤ (4294967296 : Nat))) = true by (simp; omega))
          let t55 : Tp pr := .b (show (decide (st.length + (1 : Nat) ≤ st.length + (0 : Nat))) = false by simp)
          let t57 : Tp pr := .n .crows (show ((List.take st.length (ints (st.reverse ++ []))).append (List.take (1 : Nat) (List.drop (0 : Nat) [[C.t (T.int IntKind.i64 v)]]))) = ints st.reverse ++ [[C.t (T.int IntKind.i64 v)]] by simp)
          exact .tpe [.m (rfl : true = true), .m (rfl : true = true), .m (rfl : true = true), .m (rfl : true = true), .m (rfl : true = true), .m (rfl : true = true), .m (rfl : true = true), .m (rfl : true = true), t8, .m (rfl : true = true), .m (rfl : true = true), t11, .m (rfl : true = true), .m (rfl : true = true), .m (rfl : true = true), .m (rfl : true = true), .m (rfl : true = true), .m (rfl : true = true), .m (rfl : true = true), .m (rfl : true = true), t20, .m (rfl : true = true), .m (rfl : true = true), .m (rfl : true = true), .m (rfl : true = true), .a (hm), .i (rfl : ((↑st.length : Int)) = _), .b (rfl : false = false), .i (rfl : ((↑st.length : Int)) = _), t29, t30, t31, t32, .b (rfl : false = false), .b (rfl : true = true), .m (rfl : true = true), .m (rfl : true = true), .m (rfl : true = true), .m (rfl : true = true), .m (rfl : true = true), .m (rfl : true = true), .m (rfl : true = true), .m (rfl : true = true), .m (rfl : true = true), .m (rfl : true = true), .m (rfl : true = true), t46, t47, .m (rfl : true = true), t49, t50, .m (rfl : true = true), .m (rfl : true = true), .m (rfl : true = true), t54, t55, .c (rfl : (st.length + (1 : Nat)) = _), t57, .m (rfl : true = true), .m (rfl : true = true), .m (rfl : true = true), .m (rfl : true = true)] (Out.val (V.t (T.int IntKind.i64 (0 : Int))) [Ob.box [V.t (T.seq (3 : Nat) (List.map Bc.ce l)), V.vec (1 : Nat) (10 : Nat) (1 : Nat) (0 : Nat) (10 : Nat), V.vec (2 : Nat) (st.length + (1 : Nat)) (1 : Nat) (0 : Nat) (st.length + (1 : Nat)), V.t (T.int IntKind.i64 ((↑n : Int) + (1 : Int)))], Ob.vec true (1 : Nat) (ints lo), Ob.vec true (1 : Nat) ((ints st.reverse).append [[C.t (T.int IntKind.i64 v)]])]) (by kernel_rfl) ((((congrArg (fun x => Out.val (V.t (T.int IntKind.i64 (0 : Int))) [Ob.box [V.t (T.seq (3 : Nat) (List.map Bc.ce l)), V.vec (1 : Nat) (10 : Nat) (1 : Nat) (0 : Nat) (10 : Nat), V.vec (2 : Nat) x (1 : Nat) (0 : Nat) (st.length + (1 : Nat)), V.t (T.int IntKind.i64 ((↑n : Int) + (1 : Int)))], Ob.vec true (1 : Nat) (ints lo), Ob.vec true (1 : Nat) ((ints st.reverse).append [[C.t (T.int IntKind.i64 v)]])]) (show (st.length + (1 : Nat)) = ((StepR.mk (0 : Int) lo (v :: st) [].tail ((↑n : Int) + (1 : Int))).st.length + (0 : Nat)) by simp [ints_app, ints_cons, intc])).trans (congrArg (fun x => Out.val (V.t (T.int IntKind.i64 (0 : Int))) [Ob.box [V.t (T.seq (3 : Nat) (List.map Bc.ce l)), V.vec (1 : Nat) (10 : Nat) (1 : Nat) (0 : Nat) (10 : Nat), V.vec (2 : Nat) ((StepR.mk (0 : Int) lo (v :: st) [].tail ((↑n : Int) + (1 : Int))).st.length + (0 : Nat)) (1 : Nat) (0 : Nat) x, V.t (T.int IntKind.i64 ((↑n : Int) + (1 : Int)))], Ob.vec true (1 : Nat) (ints lo), Ob.vec true (1 : Nat) ((ints st.reverse).append [[C.t (T.int IntKind.i64 v)]])]) (show (st.length + (1 : Nat)) = ((StepR.mk (0 : Int) lo (v :: st) [].tail ((↑n : Int) + (1 : Int))).st.length) by simp [ints_app, ints_cons, intc]))).trans (congrArg (fun x => Out.val (V.t (T.int IntKind.i64 (0 : Int))) [Ob.box [V.t (T.seq (3 : Nat) (List.map Bc.ce l)), V.vec (1 : Nat) (10 : Nat) (1 : Nat) (0 : Nat) (10 : Nat), V.vec (2 : Nat) ((StepR.mk (0 : Int) lo (v :: st) [].tail ((↑n : Int) + (1 : Int))).st.length + (0 : Nat)) (1 : Nat) (0 : Nat) (StepR.mk (0 : Int) lo (v :: st) [].tail ((↑n : Int) + (1 : Int))).st.length, V.t (T.int IntKind.i64 ((↑n : Int) + (1 : Int)))], Ob.vec true (1 : Nat) x, Ob.vec true (1 : Nat) ((ints st.reverse).append [[C.t (T.int IntKind.i64 v)]])]) (show (ints lo) = (ints (StepR.mk (0 : Int) lo (v :: st) [].tail ((↑n : Int) + (1 : Int))).lo) by simp [ints_app, ints_cons, intc]))).trans (congrArg (fun x => Out.val (V.t (T.int IntKind.i64 (0 : Int))) [Ob.box [V.t (T.seq (3 : Nat) (List.map Bc.ce l)), V.vec (1 : Nat) (10 : Nat) (1 : Nat) (0 : Nat) (10 : Nat), V.vec (2 : Nat) ((StepR.mk (0 : Int) lo (v :: st) [].tail ((↑n : Int) + (1 : Int))).st.length + (0 : Nat)) (1 : Nat) (0 : Nat) (StepR.mk (0 : Int) lo (v :: st) [].tail ((↑n : Int) + (1 : Int))).st.length, V.t (T.int IntKind.i64 ((↑n : Int) + (1 : Int)))], Ob.vec true (1 : Nat) (ints (StepR.mk (0 : Int) lo (v :: st) [].tail ((↑n : Int) + (1 : Int))).lo), Ob.vec true (1 : Nat) x]) (show ((ints st.reverse).append [[C.t (T.int IntKind.i64 v)]]) = (ints ((StepR.mk (0 : Int) lo (v :: st) [].tail ((↑n : Int) + (1 : Int))).st.reverse ++ (StepR.mk (0 : Int) lo (v :: st) [].tail ((↑n : Int) + (1 : Int))).jk)) by simp [ints_app, ints_cons, intc]))))
        | cons j jk => (
          let t8 : Tp pr := .i (show ((↑(List.map Bc.ce l).length : Int) : Int) = (↑l.length : Int) by simp)
          let t11 : Tp pr := .b (show (decide ((↑n : Int) = (↑l.length : Int))) = false by (simp; omega))
          let t20 : Tp pr := .g .row (show (lkp (List.map Bc.ce l) (↑n : Int)) = some ((Bc.mk (2 : Int) m t).ce) from hgl)
          let t29 : Tp pr := .i (wrap_i64 (a := (↑st.length : Int) - (0 : Int)) (by omega) (by omega))
          let t30 : Tp pr := .i (wrap_i64 (a := (↑st.length : Int) - (0 : Int) + (1 : Int)) (by omega) (by omega))
          let t31 : Tp pr := .b (show (decide ((↑st.length : Int) - (0 : Int) + (1 : Int) > (30 : Int))) = false by (simp; omega))
          let t32 : Tp pr := .i (wrap_i64 (a := (↑n : Int) + (1 : Int)) (by omega) (by omega))
          let t46 : Tp pr := .m (show (decide ((0 : Int) ≤ m ∧ m.toNat < (10 : Nat))) = true by (simp; omega))
          let t47 : Tp pr := .c (show ((0 : Nat) + m.toNat : Nat) = m.toNat by omega)
          let t49 : Tp pr := .m (show (decide ((ints lo).length = (10 : Nat))) = true by simp [*])
          let t50 : Tp pr := .g .crow (show ((ints lo)[m.toNat]?) = some (intc v) from gl)
          let t54 : Tp pr := .m (show (decide ((ints (st.reverse ++ j :: jk)).length = st.length + (j :: jk).length ∧ (0 : Nat) + st.length ≤ st.length + (j :: jk).length ∧ st.length + (1 : Nat) ≤ (4294967296 : Nat))) = true by (simp; omega))
          let t55 : Tp pr := .b (show (decide (st.length + (1 : Nat) ≤ st.length + (j :: jk).length)) = true by simp)
          let t57 : Tp pr := .n .crows (show (((List.take st.length (ints (st.reverse ++ j :: jk))).append (List.take (1 : Nat) (List.drop (0 : Nat) [[C.t (T.int IntKind.i64 v)]]))).append (List.drop (st.length + (1 : Nat)) (ints (st.reverse ++ j :: jk)))) = ints st.reverse ++ [C.t (T.int IntKind.i64 v)] :: ints jk by simp)
          exact .tpe [.m (rfl : true = true), .m (rfl : true = true), .m (rfl : true = true), .m (rfl : true = true), .m (rfl : true = true), .m (rfl : true = true), .m (rfl : true = true), .m (rfl : true = true), t8, .m (rfl : true = true), .m (rfl : true = true), t11, .m (rfl : true = true), .m (rfl : true = true), .m (rfl : true = true), .m (rfl : true = true), .m (rfl : true = true), .m (rfl : true = true), .m (rfl : true = true), .m (rfl : true = true), t20, .m (rfl : true = true), .m (rfl : true = true), .m (rfl : true = true), .m (rfl : true = true), .a (hm), .i (rfl : ((↑st.length : Int)) = _), .b (rfl : false = false), .i (rfl : ((↑st.length : Int)) = _), t29, t30, t31, t32, .b (rfl : false = false), .b (rfl : true = true), .m (rfl : true = true), .m (rfl : true = true), .m (rfl : true = true), .m (rfl : true = true), .m (rfl : true = true), .m (rfl : true = true), .m (rfl : true = true), .m (rfl : true = true), .m (rfl : true = true), .m (rfl : true = true), .m (rfl : true = true), t46, t47, .m (rfl : true = true), t49, t50, .m (rfl : true = true), .m (rfl : true = true), .m (rfl : true = true), t54, t55, .c (rfl : (st.length + (1 : Nat)) = _), t57, .m (rfl : true = true), .m (rfl : true = true), .m (rfl : true = true), .m (rfl : true = true)] (Out.val (V.t (T.int IntKind.i64 (0 : Int))) [Ob.box [V.t (T.seq (3 : Nat) (List.map Bc.ce l)), V.vec (1 : Nat) (10 : Nat) (1 : Nat) (0 : Nat) (10 : Nat), V.vec (2 : Nat) (st.length + (j :: jk).length) (1 : Nat) (0 : Nat) (st.length + (1 : Nat)), V.t (T.int IntKind.i64 ((↑n : Int) + (1 : Int)))], Ob.vec true (1 : Nat) (ints lo), Ob.vec true (1 : Nat) ((ints st.reverse).append ([C.t (T.int IntKind.i64 v)] :: ints jk))]) (by kernel_rfl) ((((congrArg (fun x => Out.val (V.t (T.int IntKind.i64 (0 : Int))) [Ob.box [V.t (T.seq (3 : Nat) (List.map Bc.ce l)), V.vec (1 : Nat) (10 : Nat) (1 : Nat) (0 : Nat) (10 : Nat), V.vec (2 : Nat) x (1 : Nat) (0 : Nat) (st.length + (1 : Nat)), V.t (T.int IntKind.i64 ((↑n : Int) + (1 : Int)))], Ob.vec true (1 : Nat) (ints lo), Ob.vec true (1 : Nat) ((ints st.reverse).append ([C.t (T.int IntKind.i64 v)] :: ints jk))]) (show (st.length + (j :: jk).length) = ((StepR.mk (0 : Int) lo (v :: st) (j :: jk).tail ((↑n : Int) + (1 : Int))).st.length + (StepR.mk (0 : Int) lo (v :: st) (j :: jk).tail ((↑n : Int) + (1 : Int))).jk.length) by (simp; omega))).trans (congrArg (fun x => Out.val (V.t (T.int IntKind.i64 (0 : Int))) [Ob.box [V.t (T.seq (3 : Nat) (List.map Bc.ce l)), V.vec (1 : Nat) (10 : Nat) (1 : Nat) (0 : Nat) (10 : Nat), V.vec (2 : Nat) ((StepR.mk (0 : Int) lo (v :: st) (j :: jk).tail ((↑n : Int) + (1 : Int))).st.length + (StepR.mk (0 : Int) lo (v :: st) (j :: jk).tail ((↑n : Int) + (1 : Int))).jk.length) (1 : Nat) (0 : Nat) x, V.t (T.int IntKind.i64 ((↑n : Int) + (1 : Int)))], Ob.vec true (1 : Nat) (ints lo), Ob.vec true (1 : Nat) ((ints st.reverse).append ([C.t (T.int IntKind.i64 v)] :: ints jk))]) (show (st.length + (1 : Nat)) = ((StepR.mk (0 : Int) lo (v :: st) (j :: jk).tail ((↑n : Int) + (1 : Int))).st.length) by simp [ints_app, ints_cons, intc]))).trans (congrArg (fun x => Out.val (V.t (T.int IntKind.i64 (0 : Int))) [Ob.box [V.t (T.seq (3 : Nat) (List.map Bc.ce l)), V.vec (1 : Nat) (10 : Nat) (1 : Nat) (0 : Nat) (10 : Nat), V.vec (2 : Nat) ((StepR.mk (0 : Int) lo (v :: st) (j :: jk).tail ((↑n : Int) + (1 : Int))).st.length + (StepR.mk (0 : Int) lo (v :: st) (j :: jk).tail ((↑n : Int) + (1 : Int))).jk.length) (1 : Nat) (0 : Nat) (StepR.mk (0 : Int) lo (v :: st) (j :: jk).tail ((↑n : Int) + (1 : Int))).st.length, V.t (T.int IntKind.i64 ((↑n : Int) + (1 : Int)))], Ob.vec true (1 : Nat) x, Ob.vec true (1 : Nat) ((ints st.reverse).append ([C.t (T.int IntKind.i64 v)] :: ints jk))]) (show (ints lo) = (ints (StepR.mk (0 : Int) lo (v :: st) (j :: jk).tail ((↑n : Int) + (1 : Int))).lo) by simp [ints_app, ints_cons, intc]))).trans (congrArg (fun x => Out.val (V.t (T.int IntKind.i64 (0 : Int))) [Ob.box [V.t (T.seq (3 : Nat) (List.map Bc.ce l)), V.vec (1 : Nat) (10 : Nat) (1 : Nat) (0 : Nat) (10 : Nat), V.vec (2 : Nat) ((StepR.mk (0 : Int) lo (v :: st) (j :: jk).tail ((↑n : Int) + (1 : Int))).st.length + (StepR.mk (0 : Int) lo (v :: st) (j :: jk).tail ((↑n : Int) + (1 : Int))).jk.length) (1 : Nat) (0 : Nat) (StepR.mk (0 : Int) lo (v :: st) (j :: jk).tail ((↑n : Int) + (1 : Int))).st.length, V.t (T.int IntKind.i64 ((↑n : Int) + (1 : Int)))], Ob.vec true (1 : Nat) (ints (StepR.mk (0 : Int) lo (v :: st) (j :: jk).tail ((↑n : Int) + (1 : Int))).lo), Ob.vec true (1 : Nat) x]) (show ((ints st.reverse).append ([C.t (T.int IntKind.i64 v)] :: ints jk)) = (ints ((StepR.mk (0 : Int) lo (v :: st) (j :: jk).tail ((↑n : Int) + (1 : Int))).st.reverse ++ (StepR.mk (0 : Int) lo (v :: st) (j :: jk).tail ((↑n : Int) + (1 : Int))).jk)) by simp [ints_app, ints_cons, intc]))))
      · have hm := moves_ev ⟨3, m, t⟩
        have e1 : mvOff (3 : Int) = 1 := rfl
        have e2 : mvOn (3 : Int) = 0 := rfl
        simp only [e1, e2] at hm hc
        have hmb : 0 ≤ m ∧ m ≤ 9 := by simp [bcOk] at hb; omega
        have gl := ints_get (l := lo) (k := m.toNat) (by omega)
        cases st with
        | nil => simp at hc
        | cons a r =>
          simp only [List.length_cons] at h3 hc
          have ha := h4 a (by simp)
          rw [show stepX ⟨3, m, t⟩ lo (a :: r) jk n = ⟨0, lo.set m.toNat a, r, a :: jk, n + 1⟩ by simp [stepX, e1, e2]; omega]
          have hp := pop_ev (.seq 3 (l.map Bc.ce)) lo r jk (n + 1) a (by omega)
          let t8 : Tp pr := .i (show ((↑(List.map Bc.ce l).length : Int) : Int) = (↑l.length : Int) by simp)
          let t11 : Tp pr := .b (show (decide ((↑n : Int) = (↑l.length : Int))) = false by (simp; omega))
          let t20 : Tp pr := .g .row (show (lkp (List.map Bc.ce l) (↑n : Int)) = some ((Bc.mk (3 : Int) m t).ce) from hgl)
          let t26 : Tp pr := .i (show ((↑(a :: r).length : Int) : Int) = (↑r.length : Int) + (1 : Int) by simp)
          let t28 : Tp pr := .i (show ((↑(a :: r).length : Int) : Int) = (↑r.length : Int) + (1 : Int) by simp)
          let t29 : Tp pr := .i (wrap_i64 (a := (↑r.length : Int) + (1 : Int) - (1 : Int)) (by omega) (by omega))
          let t30 : Tp pr := .i (wrap_i64 (a := (↑r.length : Int) + (1 : Int) - (1 : Int) + (0 : Int)) (by omega) (by omega))
          let t31 : Tp pr := .b (show (decide ((↑r.length : Int) + (1 : Int) - (1 : Int) + (0 : Int) > (30 : Int))) = false by (simp; omega))
          let t32 : Tp pr := .i (wrap_i64 (a := (↑n : Int) + (1 : Int)) (by omega) (by omega))
          let t45 : Tp pr := .m (show (decide ((0 : Int) ≤ m ∧ m.toNat < (10 : Nat))) = true by (simp; omega))
          let t46 : Tp pr := .c (show ((0 : Nat) + m.toNat : Nat) = m.toNat by omega)
          let t48 : Tp pr := .m (show (decide ((ints lo).length = (10 : Nat))) = true by simp [*])
          let t49 : Tp pr := .g .crow (show ((ints lo)[m.toNat]?) = some (intc (lo.getD m.toNat (0 : Int))) from gl)
          let t50 : Tp pr := .n .crows (show ((ints lo).set m.toNat [C.t (T.int IntKind.i64 a)]) = ints (lo.set m.toNat a) by simp)
          exact .tp [.m (rfl : true = true), .m (rfl : true = true), .m (rfl : true = true), .m (rfl : true = true), .m (rfl : true = true), .m (rfl : true = true), .m (rfl : true = true), .m (rfl : true = true), t8, .m (rfl : true = true), .m (rfl : true = true), t11, .m (rfl : true = true), .m (rfl : true = true), .m (rfl : true = true), .m (rfl : true = true), .m (rfl : true = true), .m (rfl : true = true), .m (rfl : true = true), .m (rfl : true = true), t20, .m (rfl : true = true), .m (rfl : true = true), .m (rfl : true = true), .m (rfl : true = true), .a (hm), t26, .b (rfl : false = false), t28, t29, t30, t31, t32, .b (rfl : false = false), .b (rfl : false = false), .b (rfl : true = true), .m (rfl : true = true), .m (rfl : true = true), .m (rfl : true = true), .m (rfl : true = true), .m (rfl : true = true), .m (rfl : true = true), .m (rfl : true = true), .a (hp), .m (rfl : true = true), t45, t46, .m (rfl : true = true), t48, t49, t50, .m (rfl : true = true)] (by kernel_rfl)
      · have hm := moves_ev ⟨4, m, t⟩
        have e1 : mvOff (4 : Int) = 2 := rfl
        have e2 : mvOn (4 : Int) = 1 := rfl
        simp only [e1, e2] at hm hc
        cases st with
        | nil => simp at hc
        | cons a r =>
         cases r with
         | nil => simp at hc
         | cons b q =>
          simp only [List.length_cons] at h3 hc
          have ha := h4 a (by simp)
          have hb2 := h4 b (by simp)
          rw [show stepX ⟨4, m, t⟩ lo (a :: b :: q) jk n = ⟨endOf (two2 t.toList b a).2, lo, (two2 t.toList b a).1 :: q, a :: jk, n + 1⟩ by simp [stepX, e1, e2]; omega]
          have hp := two1_ev (.seq 3 (l.map Bc.ce)) lo q jk (n + 1) a b t (by simp; omega) ha hb2
          let t8 : Tp pr := .i (show ((↑(List.map Bc.ce l).length : Int) : Int) = (↑l.length : Int) by simp)
          let t11 : Tp pr := .b (show (decide ((↑n : Int) = (↑l.length : Int))) = false by (simp; omega))
          let t20 : Tp pr := .g .row (show (lkp (List.map Bc.ce l) (↑n : Int)) = some ((Bc.mk (4 : Int) m t).ce) from hgl)
          let t26 : Tp pr := .i (show ((↑(a :: b :: q).length : Int) : Int) = (↑q.length : Int) + (1 : Int) + (1 : Int) by simp)
          let t28 : Tp pr := .i (show ((↑(a :: b :: q).length : Int) : Int) = (↑q.length : Int) + (1 : Int) + (1 : Int) by simp)
          let t29 : Tp pr := .i (wrap_i64 (a := (↑q.length : Int) + (1 : Int) + (1 : Int) - (2 : Int)) (by omega) (by omega))
          let t30 : Tp pr := .i (wrap_i64 (a := (↑q.length : Int) + (1 : Int) + (1 : Int) - (2 : Int) + (1 : Int)) (by omega) (by omega))
          let t31 : Tp pr := .b (show (decide ((↑q.length : Int) + (1 : Int) + (1 : Int) - (2 : Int) + (1 : Int) > (30 : Int))) = false by (simp; omega))
          let t32 : Tp pr := .i (wrap_i64 (a := (↑n : Int) + (1 : Int)) (by omega) (by omega))
          exact .tp [.m (rfl : true = true), .m (rfl : true = true), .m (rfl : true = true), .m (rfl : true = true), .m (rfl : true = true), .m (rfl : true = true), .m (rfl : true = true), .m (rfl : true = true), t8, .m (rfl : true = true), .m (rfl : true = true), t11, .m (rfl : true = true), .m (rfl : true = true), .m (rfl : true = true), .m (rfl : true = true), .m (rfl : true = true), .m (rfl : true = true), .m (rfl : true = true), .m (rfl : true = true), t20, .m (rfl : true = true), .m (rfl : true = true), .m (rfl : true = true), .m (rfl : true = true), .a (hm), t26, .b (rfl : false = false), t28, t29, t30, t31, t32, .b (rfl : false = false), .b (rfl : false = false), .b (rfl : false = false), .b (rfl : true = true), .a (hp)] (by kernel_rfl)
      · have hm := moves_ev ⟨5, m, t⟩
        have e1 : mvOff (5 : Int) = 1 := rfl
        have e2 : mvOn (5 : Int) = 1 := rfl
        simp only [e1, e2] at hm hc
        cases st with
        | nil => simp at hc
        | cons a r =>
          simp only [List.length_cons] at h3 hc
          have ha := h4 a (by simp)
          rw [show stepX ⟨5, m, t⟩ lo (a :: r) jk n = ⟨0, lo, one1 t a :: r, jk, n + 1⟩ by simp [stepX, e1, e2]; omega]
          have hp := pop_ev (.seq 3 (l.map Bc.ce)) lo r jk (n + 1) a (by omega)
          obtain ⟨ha1, ha2⟩ := ha
          have hneg : Int.neg a = -a := rfl
          unfold one1
          by_cases ht : t.toList = [45]
          · rw [if_pos ht]
            let t8 : Tp pr := .i (show ((↑(List.map Bc.ce l).length : Int) : Int) = (↑l.length : Int) by simp)
            let t11 : Tp pr := .b (show (decide ((↑n : Int) = (↑l.length : Int))) = false by (simp; omega))
            let t20 : Tp pr := .g .row (show (lkp (List.map Bc.ce l) (↑n : Int)) = some ((Bc.mk (5 : Int) m t).ce) from hgl)
            let t26 : Tp pr := .i (show ((↑(a :: r).length : Int) : Int) = (↑r.length : Int) + (1 : Int) by simp)
            let t28 : Tp pr := .i (show ((↑(a :: r).length : Int) : Int) = (↑r.length : Int) + (1 : Int) by simp)
            let t29 : Tp pr := .i (wrap_i64 (a := (↑r.length : Int) + (1 : Int) - (1 : Int)) (by omega) (by omega))
            let t30 : Tp pr := .i (wrap_i64 (a := (↑r.length : Int) + (1 : Int) - (1 : Int) + (1 : Int)) (by omega) (by omega))
            let t31 : Tp pr := .b (show (decide ((↑r.length : Int) + (1 : Int) - (1 : Int) + (1 : Int) > (30 : Int))) = false by (simp; omega))
            let t32 : Tp pr := .i (wrap_i64 (a := (↑n : Int) + (1 : Int)) (by omega) (by omega))
            let t39 : Tp pr := .b (show (t.toList == [(45 : UInt8)]) = true by (simp; omega))
            let t40 : Tp pr := .i (wrap_i64 (a := (0 : Int) - a) (by omega) (by omega))
            let t42 : Tp pr := .m (show (decide ((ints (r.reverse ++ a :: jk)).length = r.length + (a :: jk).length ∧ (0 : Nat) + r.length ≤ r.length + (a :: jk).length ∧ r.length + (1 : Nat) ≤ (4294967296 : Nat))) = true by (simp; omega))
            let t43 : Tp pr := .b (show (decide (r.length + (1 : Nat) ≤ r.length + (a :: jk).length)) = true by simp)
            let t45 : Tp pr := .n .crows (show (((List.take r.length (ints (r.reverse ++ a :: jk))).append (List.take (1 : Nat) (List.drop (0 : Nat) [[C.t (T.int IntKind.i64 ((0 : Int) - a))]]))).append (List.drop (r.length + (1 : Nat)) (ints (r.reverse ++ a :: jk)))) = ints r.reverse ++ [C.t (T.int IntKind.i64 (-a))] :: ints jk by simp)
            exact .tpe [.m (rfl : true = true), .m (rfl : true = true), .m (rfl : true = true), .m (rfl : true = true), .m (rfl : true = true), .m (rfl : true = true), .m (rfl : true = true), .m (rfl : true = true), t8, .m (rfl : true = true), .m (rfl : true = true), t11, .m (rfl : true = true), .m (rfl : true = true), .m (rfl : true = true), .m (rfl : true = true), .m (rfl : true = true), .m (rfl : true = true), .m (rfl : true = true), .m (rfl : true = true), t20, .m (rfl : true = true), .m (rfl : true = true), .m (rfl : true = true), .m (rfl : true = true), .a (hm), t26, .b (rfl : false = false), t28, t29, t30, t31, t32, .b (rfl : false = false), .b (rfl : false = false), .b (rfl : false = false), .b (rfl : false = false), .b (rfl : true = true), .a (hp), t39, t40, .m (rfl : true = true), t42, t43, .c (rfl : (r.length + (1 : Nat)) = _), t45] (Out.val (V.t (T.int IntKind.i64 (0 : Int))) [Ob.box [V.t (T.seq (3 : Nat) (List.map Bc.ce l)), V.vec (1 : Nat) (10 : Nat) (1 : Nat) (0 : Nat) (10 : Nat), V.vec (2 : Nat) (r.length + (a :: jk).length) (1 : Nat) (0 : Nat) (r.length + (1 : Nat)), V.t (T.int IntKind.i64 ((↑n : Int) + (1 : Int)))], Ob.vec true (1 : Nat) (ints lo), Ob.vec true (1 : Nat) ((ints r.reverse).append ([C.t (T.int IntKind.i64 a.neg)] :: ints jk))]) (by kernel_rfl) ((((congrArg (fun x => Out.val (V.t (T.int IntKind.i64 (0 : Int))) [Ob.box [V.t (T.seq (3 : Nat) (List.map Bc.ce l)), V.vec (1 : Nat) (10 : Nat) (1 : Nat) (0 : Nat) (10 : Nat), V.vec (2 : Nat) x (1 : Nat) (0 : Nat) (r.length + (1 : Nat)), V.t (T.int IntKind.i64 ((↑n : Int) + (1 : Int)))], Ob.vec true (1 : Nat) (ints lo), Ob.vec true (1 : Nat) ((ints r.reverse).append ([C.t (T.int IntKind.i64 a.neg)] :: ints jk))]) (show (r.length + (a :: jk).length) = ((StepR.mk (0 : Int) lo (-a :: r) jk ((↑n : Int) + (1 : Int))).st.length + (StepR.mk (0 : Int) lo (-a :: r) jk ((↑n : Int) + (1 : Int))).jk.length) by (simp; omega))).trans (congrArg (fun x => Out.val (V.t (T.int IntKind.i64 (0 : Int))) [Ob.box [V.t (T.seq (3 : Nat) (List.map Bc.ce l)), V.vec (1 : Nat) (10 : Nat) (1 : Nat) (0 : Nat) (10 : Nat), V.vec (2 : Nat) ((StepR.mk (0 : Int) lo (-a :: r) jk ((↑n : Int) + (1 : Int))).st.length + (StepR.mk (0 : Int) lo (-a :: r) jk ((↑n : Int) + (1 : Int))).jk.length) (1 : Nat) (0 : Nat) x, V.t (T.int IntKind.i64 ((↑n : Int) + (1 : Int)))], Ob.vec true (1 : Nat) (ints lo), Ob.vec true (1 : Nat) ((ints r.reverse).append ([C.t (T.int IntKind.i64 a.neg)] :: ints jk))]) (show (r.length + (1 : Nat)) = ((StepR.mk (0 : Int) lo (-a :: r) jk ((↑n : Int) + (1 : Int))).st.length) by simp [ints_app, ints_cons, intc, hneg]))).trans (congrArg (fun x => Out.val (V.t (T.int IntKind.i64 (0 : Int))) [Ob.box [V.t (T.seq (3 : Nat) (List.map Bc.ce l)), V.vec (1 : Nat) (10 : Nat) (1 : Nat) (0 : Nat) (10 : Nat), V.vec (2 : Nat) ((StepR.mk (0 : Int) lo (-a :: r) jk ((↑n : Int) + (1 : Int))).st.length + (StepR.mk (0 : Int) lo (-a :: r) jk ((↑n : Int) + (1 : Int))).jk.length) (1 : Nat) (0 : Nat) (StepR.mk (0 : Int) lo (-a :: r) jk ((↑n : Int) + (1 : Int))).st.length, V.t (T.int IntKind.i64 ((↑n : Int) + (1 : Int)))], Ob.vec true (1 : Nat) x, Ob.vec true (1 : Nat) ((ints r.reverse).append ([C.t (T.int IntKind.i64 a.neg)] :: ints jk))]) (show (ints lo) = (ints (StepR.mk (0 : Int) lo (-a :: r) jk ((↑n : Int) + (1 : Int))).lo) by simp [ints_app, ints_cons, intc, hneg]))).trans (congrArg (fun x => Out.val (V.t (T.int IntKind.i64 (0 : Int))) [Ob.box [V.t (T.seq (3 : Nat) (List.map Bc.ce l)), V.vec (1 : Nat) (10 : Nat) (1 : Nat) (0 : Nat) (10 : Nat), V.vec (2 : Nat) ((StepR.mk (0 : Int) lo (-a :: r) jk ((↑n : Int) + (1 : Int))).st.length + (StepR.mk (0 : Int) lo (-a :: r) jk ((↑n : Int) + (1 : Int))).jk.length) (1 : Nat) (0 : Nat) (StepR.mk (0 : Int) lo (-a :: r) jk ((↑n : Int) + (1 : Int))).st.length, V.t (T.int IntKind.i64 ((↑n : Int) + (1 : Int)))], Ob.vec true (1 : Nat) (ints (StepR.mk (0 : Int) lo (-a :: r) jk ((↑n : Int) + (1 : Int))).lo), Ob.vec true (1 : Nat) x]) (show ((ints r.reverse).append ([C.t (T.int IntKind.i64 a.neg)] :: ints jk)) = (ints ((StepR.mk (0 : Int) lo (-a :: r) jk ((↑n : Int) + (1 : Int))).st.reverse ++ (StepR.mk (0 : Int) lo (-a :: r) jk ((↑n : Int) + (1 : Int))).jk)) by simp [ints_app, ints_cons, intc, hneg])))
          · rw [if_neg ht]
            let t8 : Tp pr := .i (show ((↑(List.map Bc.ce l).length : Int) : Int) = (↑l.length : Int) by simp)
            let t11 : Tp pr := .b (show (decide ((↑n : Int) = (↑l.length : Int))) = false by (simp; omega))
            let t20 : Tp pr := .g .row (show (lkp (List.map Bc.ce l) (↑n : Int)) = some ((Bc.mk (5 : Int) m t).ce) from hgl)
            let t26 : Tp pr := .i (show ((↑(a :: r).length : Int) : Int) = (↑r.length : Int) + (1 : Int) by simp)
            let t28 : Tp pr := .i (show ((↑(a :: r).length : Int) : Int) = (↑r.length : Int) + (1 : Int) by simp)
            let t29 : Tp pr := .i (wrap_i64 (a := (↑r.length : Int) + (1 : Int) - (1 : Int)) (by omega) (by omega))
            let t30 : Tp pr := .i (wrap_i64 (a := (↑r.length : Int) + (1 : Int) - (1 : Int) + (1 : Int)) (by omega) (by omega))
            let t31 : Tp pr := .b (show (decide ((↑r.length : Int) + (1 : Int) - (1 : Int) + (1 : Int) > (30 : Int))) = false by (simp; omega))
            let t32 : Tp pr := .i (wrap_i64 (a := (↑n : Int) + (1 : Int)) (by omega) (by omega))
            let t39 : Tp pr := .b (show (t.toList == [(45 : UInt8)]) = false by (simp; omega))
            let t40 : Tp pr := .a (boolNum_ev (decide (a = (0 : Int))))
            let t42 : Tp pr := .m (show (decide ((ints (r.reverse ++ a :: jk)).length = r.length + (a :: jk).length ∧ (0 : Nat) + r.length ≤ r.length + (a :: jk).length ∧ r.length + (1 : Nat) ≤ (4294967296 : Nat))) = true by (simp; omega))
            let t43 : Tp pr := .b (show (decide (r.length + (1 : Nat) ≤ r.length + (a :: jk).length)) = true by simp)
            let t45 : Tp pr := .n .crows (show (((List.take r.length (ints (r.reverse ++ a :: jk))).append (List.take (1 : Nat) (List.drop (0 : Nat) [[C.t (T.int IntKind.i64 (tru (decide (a = (0 : Int)))))]]))).append (List.drop (r.length + (1 : Nat)) (ints (r.reverse ++ a :: jk)))) = ints r.reverse ++ [C.t (T.int IntKind.i64 (tru (decide (a = (0 : Int)))))] :: ints jk by simp)
            exact .tpe [.m (rfl : true = true), .m (rfl : true = true), .m (rfl : true = true), .m (rfl : true = true), .m (rfl : true = true), .m (rfl : true = true), .m (rfl : true = true), .m (rfl : true = true), t8, .m (rfl : true = true), .m (rfl : true = true), t11, .m (rfl : true = true), .m (rfl : true = true), .m (rfl : true = true), .m (rfl : true = true), .m (rfl : true = true), .m (rfl : true = true), .m (rfl : true = true), .m (rfl : true = true), t20, .m (rfl : true = true), .m (rfl : true = true), .m (rfl : true = true), .m (rfl : true = true), .a (hm), t26, .b (rfl : false = false), t28, t29, t30, t31, t32, .b (rfl : false = false), .b (rfl : false = false), .b (rfl : false = false), .b (rfl : false = false), .b (rfl : true = true), .a (hp), t39, t40, .m (rfl : true = true), t42, t43, .c (rfl : (r.length + (1 : Nat)) = _), t45] (Out.val (V.t (T.int IntKind.i64 (0 : Int))) [Ob.box [V.t (T.seq (3 : Nat) (List.map Bc.ce l)), V.vec (1 : Nat) (10 : Nat) (1 : Nat) (0 : Nat) (10 : Nat), V.vec (2 : Nat) (r.length + (a :: jk).length) (1 : Nat) (0 : Nat) (r.length + (1 : Nat)), V.t (T.int IntKind.i64 ((↑n : Int) + (1 : Int)))], Ob.vec true (1 : Nat) (ints lo), Ob.vec true (1 : Nat) ((ints r.reverse).append ([C.t (T.int IntKind.i64 (tru (decide (a = (0 : Int)))))] :: ints jk))]) (by kernel_rfl) ((((congrArg (fun x => Out.val (V.t (T.int IntKind.i64 (0 : Int))) [Ob.box [V.t (T.seq (3 : Nat) (List.map Bc.ce l)), V.vec (1 : Nat) (10 : Nat) (1 : Nat) (0 : Nat) (10 : Nat), V.vec (2 : Nat) x (1 : Nat) (0 : Nat) (r.length + (1 : Nat)), V.t (T.int IntKind.i64 ((↑n : Int) + (1 : Int)))], Ob.vec true (1 : Nat) (ints lo), Ob.vec true (1 : Nat) ((ints r.reverse).append ([C.t (T.int IntKind.i64 (tru (decide (a = (0 : Int)))))] :: ints jk))]) (show (r.length + (a :: jk).length) = ((StepR.mk (0 : Int) lo (tru (decide (a = (0 : Int))) :: r) jk ((↑n : Int) + (1 : Int))).st.length + (StepR.mk (0 : Int) lo (tru (decide (a = (0 : Int))) :: r) jk ((↑n : Int) + (1 : Int))).jk.length) by (simp; omega))).trans (congrArg (fun x => Out.val (V.t (T.int IntKind.i64 (0 : Int))) [Ob.box [V.t (T.seq (3 : Nat) (List.map Bc.ce l)), V.vec (1 : Nat) (10 : Nat) (1 : Nat) (0 : Nat) (10 : Nat), V.vec (2 : Nat) ((StepR.mk (0 : Int) lo (tru (decide (a = (0 : Int))) :: r) jk ((↑n : Int) + (1 : Int))).st.length + (StepR.mk (0 : Int) lo (tru (decide (a = (0 : Int))) :: r) jk ((↑n : Int) + (1 : Int))).jk.length) (1 : Nat) (0 : Nat) x, V.t (T.int IntKind.i64 ((↑n : Int) + (1 : Int)))], Ob.vec true (1 : Nat) (ints lo), Ob.vec true (1 : Nat) ((ints r.reverse).append ([C.t (T.int IntKind.i64 (tru (decide (a = (0 : Int)))))] :: ints jk))]) (show (r.length + (1 : Nat)) = ((StepR.mk (0 : Int) lo (tru (decide (a = (0 : Int))) :: r) jk ((↑n : Int) + (1 : Int))).st.length) by simp [ints_app, ints_cons, intc]))).trans (congrArg (fun x => Out.val (V.t (T.int IntKind.i64 (0 : Int))) [Ob.box [V.t (T.seq (3 : Nat) (List.map Bc.ce l)), V.vec (1 : Nat) (10 : Nat) (1 : Nat) (0 : Nat) (10 : Nat), V.vec (2 : Nat) ((StepR.mk (0 : Int) lo (tru (decide (a = (0 : Int))) :: r) jk ((↑n : Int) + (1 : Int))).st.length + (StepR.mk (0 : Int) lo (tru (decide (a = (0 : Int))) :: r) jk ((↑n : Int) + (1 : Int))).jk.length) (1 : Nat) (0 : Nat) (StepR.mk (0 : Int) lo (tru (decide (a = (0 : Int))) :: r) jk ((↑n : Int) + (1 : Int))).st.length, V.t (T.int IntKind.i64 ((↑n : Int) + (1 : Int)))], Ob.vec true (1 : Nat) x, Ob.vec true (1 : Nat) ((ints r.reverse).append ([C.t (T.int IntKind.i64 (tru (decide (a = (0 : Int)))))] :: ints jk))]) (show (ints lo) = (ints (StepR.mk (0 : Int) lo (tru (decide (a = (0 : Int))) :: r) jk ((↑n : Int) + (1 : Int))).lo) by simp [ints_app, ints_cons, intc]))).trans (congrArg (fun x => Out.val (V.t (T.int IntKind.i64 (0 : Int))) [Ob.box [V.t (T.seq (3 : Nat) (List.map Bc.ce l)), V.vec (1 : Nat) (10 : Nat) (1 : Nat) (0 : Nat) (10 : Nat), V.vec (2 : Nat) ((StepR.mk (0 : Int) lo (tru (decide (a = (0 : Int))) :: r) jk ((↑n : Int) + (1 : Int))).st.length + (StepR.mk (0 : Int) lo (tru (decide (a = (0 : Int))) :: r) jk ((↑n : Int) + (1 : Int))).jk.length) (1 : Nat) (0 : Nat) (StepR.mk (0 : Int) lo (tru (decide (a = (0 : Int))) :: r) jk ((↑n : Int) + (1 : Int))).st.length, V.t (T.int IntKind.i64 ((↑n : Int) + (1 : Int)))], Ob.vec true (1 : Nat) (ints (StepR.mk (0 : Int) lo (tru (decide (a = (0 : Int))) :: r) jk ((↑n : Int) + (1 : Int))).lo), Ob.vec true (1 : Nat) x]) (show ((ints r.reverse).append ([C.t (T.int IntKind.i64 (tru (decide (a = (0 : Int)))))] :: ints jk)) = (ints ((StepR.mk (0 : Int) lo (tru (decide (a = (0 : Int))) :: r) jk ((↑n : Int) + (1 : Int))).st.reverse ++ (StepR.mk (0 : Int) lo (tru (decide (a = (0 : Int))) :: r) jk ((↑n : Int) + (1 : Int))).jk)) by simp [ints_app, ints_cons, intc])))
      · have hm := moves_ev ⟨6, m, t⟩
        have e1 : mvOff (6 : Int) = 0 := rfl
        have e2 : mvOn (6 : Int) = 0 := rfl
        simp only [e1, e2] at hm hc
        rw [show stepX ⟨6, m, t⟩ lo st jk n = ⟨0, lo, st, jk, m⟩ by simp [stepX, e1, e2]; omega]
        let t8 : Tp pr := .i (show ((↑(List.map Bc.ce l).length : Int) : Int) = (↑l.length : Int) by simp)
        let t11 : Tp pr := .b (show (decide ((↑n : Int) = (↑l.length : Int))) = false by (simp; omega))
        let t20 : Tp pr := .g .row (show (lkp (List.map Bc.ce l) (↑n : Int)) = some ((Bc.mk (6 : Int) m t).ce) from hgl)
        let t29 : Tp pr := .i (wrap_i64 (a := (↑st.length : Int) - (0 : Int)) (by omega) (by omega))
        let t30 : Tp pr := .i (wrap_i64 (a := (↑st.length : Int) - (0 : Int) + (0 : Int)) (by omega) (by omega))
        let t31 : Tp pr := .b (show (decide ((↑st.length : Int) - (0 : Int) + (0 : Int) > (30 : Int))) = false by (simp; omega))
        let t32 : Tp pr := .i (wrap_i64 (a := (↑n : Int) + (1 : Int)) (by omega) (by omega))
        exact .tp [.m (rfl : true = true), .m (rfl : true = true), .m (rfl : true = true), .m (rfl : true = true), .m (rfl : true = true), .m (rfl : true = true), .m (rfl : true = true), .m (rfl : true = true), t8, .m (rfl : true = true), .m (rfl : true = true), t11, .m (rfl : true = true), .m (rfl : true = true), .m (rfl : true = true), .m (rfl : true = true), .m (rfl : true = true), .m (rfl : true = true), .m (rfl : true = true), .m (rfl : true = true), t20, .m (rfl : true = true), .m (rfl : true = true), .m (rfl : true = true), .m (rfl : true = true), .a (hm), .i (rfl : ((↑st.length : Int)) = _), .b (rfl : false = false), .i (rfl : ((↑st.length : Int)) = _), t29, t30, t31, t32, .b (rfl : false = false), .b (rfl : false = false), .b (rfl : false = false), .b (rfl : false = false), .b (rfl : false = false), .b (rfl : true = true)] (by kernel_rfl)
      · have hm := moves_ev ⟨7, m, t⟩
        have e1 : mvOff (7 : Int) = 1 := rfl
        have e2 : mvOn (7 : Int) = 0 := rfl
        simp only [e1, e2] at hm hc
        cases st with
        | nil => simp at hc
        | cons a r =>
          simp only [List.length_cons] at h3 hc
          have ha := h4 a (by simp)
          rw [show stepX ⟨7, m, t⟩ lo (a :: r) jk n = ⟨0, lo, r, a :: jk, if a = 0 then m else n + 1⟩ by simp [stepX, e1, e2]; omega]
          have hp := pop_ev (.seq 3 (l.map Bc.ce)) lo r jk (n + 1) a (by omega)
          by_cases hz : a = 0
          · rw [if_pos hz]
            let t8 : Tp pr := .i (show ((↑(List.map Bc.ce l).length : Int) : Int) = (↑l.length : Int) by simp)
            let t11 : Tp pr := .b (show (decide ((↑n : Int) = (↑l.length : Int))) = false by (simp; omega))
            let t20 : Tp pr := .g .row (show (lkp (List.map Bc.ce l) (↑n : Int)) = some ((Bc.mk (7 : Int) m t).ce) from hgl)
            let t26 : Tp pr := .i (show ((↑(a :: r).length : Int) : Int) = (↑r.length : Int) + (1 : Int) by simp)
            let t28 : Tp pr := .i (show ((↑(a :: r).length : Int) : Int) = (↑r.length : Int) + (1 : Int) by simp)
            let t29 : Tp pr := .i (wrap_i64 (a := (↑r.length : Int) + (1 : Int) - (1 : Int)) (by omega) (by omega))
            let t30 : Tp pr := .i (wrap_i64 (a := (↑r.length : Int) + (1 : Int) - (1 : Int) + (0 : Int)) (by omega) (by omega))
            let t31 : Tp pr := .b (show (decide ((↑r.length : Int) + (1 : Int) - (1 : Int) + (0 : Int) > (30 : Int))) = false by (simp; omega))
            let t32 : Tp pr := .i (wrap_i64 (a := (↑n : Int) + (1 : Int)) (by omega) (by omega))
            let t41 : Tp pr := .b (show (decide (a = (0 : Int))) = true by (simp; omega))
            exact .tp [.m (rfl : true = true), .m (rfl : true = true), .m (rfl : true = true), .m (rfl : true = true), .m (rfl : true = true), .m (rfl : true = true), .m (rfl : true = true), .m (rfl : true = true), t8, .m (rfl : true = true), .m (rfl : true = true), t11, .m (rfl : true = true), .m (rfl : true = true), .m (rfl : true = true), .m (rfl : true = true), .m (rfl : true = true), .m (rfl : true = true), .m (rfl : true = true), .m (rfl : true = true), t20, .m (rfl : true = true), .m (rfl : true = true), .m (rfl : true = true), .m (rfl : true = true), .a (hm), t26, .b (rfl : false = false), t28, t29, t30, t31, t32, .b (rfl : false = false), .b (rfl : false = false), .b (rfl : false = false), .b (rfl : false = false), .b (rfl : false = false), .b (rfl : false = false), .b (rfl : true = true), .a (hp), t41] (by kernel_rfl)
          · rw [if_neg hz]
            let t8 : Tp pr := .i (show ((↑(List.map Bc.ce l).length : Int) : Int) = (↑l.length : Int) by simp)
            let t11 : Tp pr := .b (show (decide ((↑n : Int) = (↑l.length : Int))) = false by (simp; omega))
            let t20 : Tp pr := .g .row (show (lkp (List.map Bc.ce l) (↑n : Int)) = some ((Bc.mk (7 : Int) m t).ce) from hgl)
            let t26 : Tp pr := .i (show ((↑(a :: r).length : Int) : Int) = (↑r.length : Int) + (1 : Int) by simp)
            let t28 : Tp pr := .i (show ((↑(a :: r).length : Int) : Int) = (↑r.length : Int) + (1 : Int) by simp)
            let t29 : Tp pr := .i (wrap_i64 (a := (↑r.length : Int) + (1 : Int) - (1 : Int)) (by omega) (by omega))
            let t30 : Tp pr := .i (wrap_i64 (a := (↑r.length : Int) + (1 : Int) - (1 : Int) + (0 : Int)) (by omega) (by omega))
            let t31 : Tp pr := .b (show (decide ((↑r.length : Int) + (1 : Int) - (1 : Int) + (0 : Int) > (30 : Int))) = false by (simp; omega))
            let t32 : Tp pr := .i (wrap_i64 (a := (↑n : Int) + (1 : Int)) (by omega) (by omega))
            let t41 : Tp pr := .b (show (decide (a = (0 : Int))) = false by (simp; omega))
            exact .tp [.m (rfl : true = true), .m (rfl : true = true), .m (rfl : true = true), .m (rfl : true = true), .m (rfl : true = true), .m (rfl : true = true), .m (rfl : true = true), .m (rfl : true = true), t8, .m (rfl : true = true), .m (rfl : true = true), t11, .m (rfl : true = true), .m (rfl : true = true), .m (rfl : true = true), .m (rfl : true = true), .m (rfl : true = true), .m (rfl : true = true), .m (rfl : true = true), .m (rfl : true = true), t20, .m (rfl : true = true), .m (rfl : true = true), .m (rfl : true = true), .m (rfl : true = true), .a (hm), t26, .b (rfl : false = false), t28, t29, t30, t31, t32, .b (rfl : false = false), .b (rfl : false = false), .b (rfl : false = false), .b (rfl : false = false), .b (rfl : false = false), .b (rfl : false = false), .b (rfl : true = true), .a (hp), t41] (by kernel_rfl)
      · have hm := moves_ev ⟨8, m, t⟩
        have e1 : mvOff (8 : Int) = 1 := rfl
        have e2 : mvOn (8 : Int) = 0 := rfl
        simp only [e1, e2] at hm hc
        cases st with
        | nil => simp at hc
        | cons a r =>
          simp only [List.length_cons] at h3 hc
          have ha := h4 a (by simp)
          rw [show stepX ⟨8, m, t⟩ lo (a :: r) jk n = ⟨0, lo, r, a :: jk, n + 1⟩ by simp [stepX, e1, e2]; omega]
          have hp := pop_ev (.seq 3 (l.map Bc.ce)) lo r jk (n + 1) a (by omega)
          let t8 : Tp pr := .i (show ((↑(List.map Bc.ce l).length : Int) : Int) = (↑l.length : Int) by simp)
          let t11 : Tp pr := .b (show (decide ((↑n : Int) = (↑l.length : Int))) = false by (simp; omega))
          let t20 : Tp pr := .g .row (show (lkp (List.map Bc.ce l) (↑n : Int)) = some ((Bc.mk (8 : Int) m t).ce) from hgl)
          let t26 : Tp pr := .i (show ((↑(a :: r).length : Int) : Int) = (↑r.length : Int) + (1 : Int) by simp)
          let t28 : Tp pr := .i (show ((↑(a :: r).length : Int) : Int) = (↑r.length : Int) + (1 : Int) by simp)
          let t29 : Tp pr := .i (wrap_i64 (a := (↑r.length : Int) + (1 : Int) - (1 : Int)) (by omega) (by omega))
          let t30 : Tp pr := .i (wrap_i64 (a := (↑r.length : Int) + (1 : Int) - (1 : Int) + (0 : Int)) (by omega) (by omega))
          let t31 : Tp pr := .b (show (decide ((↑r.length : Int) + (1 : Int) - (1 : Int) + (0 : Int) > (30 : Int))) = false by (simp; omega))
          let t32 : Tp pr := .i (wrap_i64 (a := (↑n : Int) + (1 : Int)) (by omega) (by omega))
          exact .tp [.m (rfl : true = true), .m (rfl : true = true), .m (rfl : true = true), .m (rfl : true = true), .m (rfl : true = true), .m (rfl : true = true), .m (rfl : true = true), .m (rfl : true = true), t8, .m (rfl : true = true), .m (rfl : true = true), t11, .m (rfl : true = true), .m (rfl : true = true), .m (rfl : true = true), .m (rfl : true = true), .m (rfl : true = true), .m (rfl : true = true), .m (rfl : true = true), .m (rfl : true = true), t20, .m (rfl : true = true), .m (rfl : true = true), .m (rfl : true = true), .m (rfl : true = true), .a (hm), t26, .b (rfl : false = false), t28, t29, t30, t31, t32, .b (rfl : false = false), .b (rfl : false = false), .b (rfl : false = false), .b (rfl : false = false), .b (rfl : false = false), .b (rfl : false = false), .b (rfl : false = false), .b (rfl : true = true), .a (hp)] (by kernel_rfl)
      · have hm := moves_ev ⟨9, m, t⟩
        have e1 : mvOff (9 : Int) = 1 := rfl
        have e2 : mvOn (9 : Int) = 1 := rfl
        simp only [e1, e2] at hm hc
        rw [show stepX ⟨9, m, t⟩ lo st jk n = ⟨1, lo, st, jk, n + 1⟩ by simp [stepX, e1, e2]; omega]
        let t8 : Tp pr := .i (show ((↑(List.map Bc.ce l).length : Int) : Int) = (↑l.length : Int) by simp)
        let t11 : Tp pr := .b (show (decide ((↑n : Int) = (↑l.length : Int))) = false by (simp; omega))
        let t20 : Tp pr := .g .row (show (lkp (List.map Bc.ce l) (↑n : Int)) = some ((Bc.mk (9 : Int) m t).ce) from hgl)
        let t27 : Tp pr := .b (show (decide ((↑st.length : Int) < (1 : Int))) = false by (simp; omega))
        let t29 : Tp pr := .i (wrap_i64 (a := (↑st.length : Int) - (1 : Int)) (by omega) (by omega))
        let t30 : Tp pr := .i (wrap_i64 (a := (↑st.length : Int) - (1 : Int) + (1 : Int)) (by omega) (by omega))
        let t31 : Tp pr := .b (show (decide ((↑st.length : Int) - (1 : Int) + (1 : Int) > (30 : Int))) = false by (simp; omega))
        let t32 : Tp pr := .i (wrap_i64 (a := (↑n : Int) + (1 : Int)) (by omega) (by omega))
        exact .tp [.m (rfl : true = true), .m (rfl : true = true), .m (rfl : true = true), .m (rfl : true = true), .m (rfl : true = true), .m (rfl : true = true), .m (rfl : true = true), .m (rfl : true = true), t8, .m (rfl : true = true), .m (rfl : true = true), t11, .m (rfl : true = true), .m (rfl : true = true), .m (rfl : true = true), .m (rfl : true = true), .m (rfl : true = true), .m (rfl : true = true), .m (rfl : true = true), .m (rfl : true = true), t20, .m (rfl : true = true), .m (rfl : true = true), .m (rfl : true = true), .m (rfl : true = true), .a (hm), .i (rfl : ((↑st.length : Int)) = _), t27, .i (rfl : ((↑st.length : Int)) = _), t29, t30, t31, t32, .b (rfl : false = false), .b (rfl : false = false), .b (rfl : false = false), .b (rfl : false = false), .b (rfl : false = false), .b (rfl : false = false), .b (rfl : false = false), .b (rfl : false = false), .b (rfl : true = true)] (by kernel_rfl)
end Go.Ev

/- Code that runs, by the program. -/
namespace Go.Ev
set_option linter.unusedVariables false
set_option linter.unusedSimpArgs false
open Go.Proofs
set_option maxRecDepth 100000
set_option linter.unusedVariables false
set_option maxHeartbeats 1000000
attribute [local simp] e0
def bdB (n : Int) : Bool := decide (n ≥ -1000000000) && decide (n ≤ 1000000000)
theorem localF_ev (n : Int) : Ev pr (.call 109 [i64 n] []) (.val (bl (!bdB n)) []) := by
  let t0 : Tp pr := .a (within_ev (n) ((-1000000000 : Int)) ((1000000000 : Int)))
  exact .tp [t0] (by kernel_rfl)
theorem idxInt_ev (l : List Int) (hl : l.length ≤ 1048576) : ∀ (rest done : List Int) (i : Int), l = done ++ rest → i = done.length →
    Ev pr (.loop (lq pr 120 0) (at_ [(0, .t (.seq 1 (l.map intt))), (1, .t (.clo 109 [])), (7, i64 l.length), (8, i64 i)] [] 0))
      (if 0 ≤ idxFrom (fun x => !bdB x) i rest then .ret (at_ [(4, i64 (idxFrom (fun x => !bdB x) i rest))] [] 0) else .exit 0 (at_ [] [] 0))
  | [], done, i, h, hi => by
    have hll : (l.length : Int) = done.length := by simp [h]
    let t0 : Tp pr := .b (show (decide (i < (↑l.length : Int))) = false by (simp; omega))
    exact .tp [t0] (by kernel_rfl)
  | x :: rest, done, i, h, hi => by
    have hll : (l.length : Int) = done.length + 1 + rest.length := by simp [h]; omega
    have hg : lkp (l.map intt) i = some [T.int .i64 x] := by subst hi; subst h; simp [intt]
    have ih := idxInt_ev l hl rest (done ++ [x]) (i + 1) (by simp [h]) (by simp [hi])
    have hi0 : 0 ≤ i := by omega
    have hx := localF_ev x
    cases hb : bdB x with
    | false => rw [hb] at hx; (
      let t0 : Tp pr := .b (show (decide (i < (↑l.length : Int))) = true by (simp; omega))
      let t1 : Tp pr := .g .row (show (lkp (List.map intt l) i) = some ([T.int IntKind.i64 x]) from hg)
      exact .tpe [t0, t1, .a (hx), .b (rfl : true = true)] (Out.ret (at_ [((4 : Nat), V.t (T.int IntKind.i64 i))] [] (0 : Nat))) (by kernel_rfl) ((rfl).trans (show (Out.ret (at_ [((4 : Nat), V.t (T.int IntKind.i64 i))] [] (0 : Nat))) = if (0 : Int) ≤ idxFrom (fun x => !bdB x) i (x :: rest) then Out.ret (at_ [((4 : Nat), i64 (idxFrom (fun x => !bdB x) i (x :: rest)))] [] (0 : Nat)) else Out.exit (0 : Nat) (at_ [] [] (0 : Nat)) by simp [idxFrom, hb, hi0])))
    | true =>
      rw [hb] at hx
      have hI : idxFrom (fun x => !bdB x) i (x :: rest) = idxFrom (fun x => !bdB x) (i + 1) rest := by simp [idxFrom, hb]
      rw [hI]
      by_cases h0 : 0 ≤ idxFrom (fun x => !bdB x) (i + 1) rest
      · rw [if_pos h0] at ih ⊢; (
        let t0 : Tp pr := .b (show (decide (i < (↑l.length : Int))) = true by (simp; omega))
        let t1 : Tp pr := .g .row (show (lkp (List.map intt l) i) = some ([T.int IntKind.i64 x]) from hg)
        let t4 : Tp pr := .i (wrap_i64 (a := i + (1 : Int)) (by omega) (by omega))
        exact .tp [t0, t1, .a (hx), .b (rfl : false = false), t4, .a (ih)] (by kernel_rfl))
      · rw [if_neg h0] at ih ⊢; (
        let t0 : Tp pr := .b (show (decide (i < (↑l.length : Int))) = true by (simp; omega))
        let t1 : Tp pr := .g .row (show (lkp (List.map intt l) i) = some ([T.int IntKind.i64 x]) from hg)
        let t4 : Tp pr := .i (wrap_i64 (a := i + (1 : Int)) (by omega) (by omega))
        exact .tp [t0, t1, .a (hx), .b (rfl : false = false), t4, .a (ih)] (by kernel_rfl))
theorem idxInts_ev (l : List Int) (hl : l.length ≤ 1048576) : Ev pr (.call 120 [.t (.seq 1 (l.map intt)), .t (.clo 109 [])] []) (.val (i64 (idxFrom (fun x => !bdB x) 0 l)) []) := by
  have h := idxInt_ev l hl l [] 0 rfl rfl
  have h2 := idxFrom_neg (fun x => !bdB x) l 0 (Int.le_refl _)
  by_cases h0 : 0 ≤ idxFrom (fun x => !bdB x) 0 l
  · rw [if_pos h0] at h; (
    let t0 : Tp pr := .i (show ((↑(List.map intt l).length : Int) : Int) = (↑l.length : Int) by simp)
    exact .tp [t0, .a (h)] (by kernel_rfl))
  · rw [if_neg h0] at h; rw [h2 h0]; (
    let t0 : Tp pr := .i (show ((↑(List.map intt l).length : Int) : Int) = (↑l.length : Int) by simp)
    exact .tp [t0, .a (h)] (by kernel_rfl))
theorem anyInt_ev (l : List Int) (hl : l.length ≤ 1048576) : Ev pr (.call 108 [.t (.seq 1 (l.map intt)), .t (.clo 109 [])] []) (.val (bl (l.any fun x => !bdB x)) []) := by
  rw [← idxFrom_any (fun x => !bdB x) l 0 (by omega)]
  exact .tp [.a (idxInts_ev (l) (by assumption))] (by kernel_rfl)
def localsOk (l : List Int) : Bool := decide (l.length = 10) && l.all bdB
theorem localsOk_ev (l : List Int) (hl : l.length ≤ 1048576) : Ev pr (.call 86 [.t (.seq 1 (l.map intt))] []) (.val (bl (localsOk l)) []) := by
  have h := anyInt_ev l hl
  have e : (l.any fun x => !bdB x) = !l.all bdB := by simp [List.any_eq_not_all_not]
  rw [e] at h
  unfold localsOk
  let t0 : Tp pr := .i (show ((↑(List.map intt l).length : Int) : Int) = (↑l.length : Int) by simp)
  by_cases hc1 : (↑l.length : Int) = (10 : Int)
  · let t1 : Tp pr := .b (show (decide ((↑l.length : Int) = (10 : Int))) = true by simpa using hc1)
    exact .tpe [t0, t1, .a (h)] (Out.val (V.t (T.bool !!l.all bdB)) []) (by kernel_rfl) (congrArg (fun x => Out.val (V.t (T.bool x)) []) (show (!!l.all bdB) = (decide (l.length = (10 : Nat)) && l.all bdB) by (simp [*] <;> omega)))
  · let t1 : Tp pr := .b (show (decide ((↑l.length : Int) = (10 : Int))) = false by simpa using hc1)
    exact .tpe [t0, t1] (Out.val (V.t (T.bool false)) []) (by kernel_rfl) (congrArg (fun x => Out.val (V.t (T.bool x)) []) (show (false) = (decide (l.length = (10 : Nat)) && l.all bdB) by (simp [*] <;> omega)))
theorem runBcL_ev (l : List Bc) (hg : goodCode l = true) (fuel : Int) (hf : 0 ≤ fuel ∧ fuel ≤ 2000) : ∀ (n : Nat) (d : Int) (lo st jk : List Int) (k : Int), d + n = fuel → 0 ≤ d → RunOk l lo st k →
    Ev pr (.loop (lq pr 45 0) (at_ [(2, i64 fuel), (10, .ptr 0 1 0 0), (30, i64 fuel), (31, i64 d)] (stkObs (.seq 3 (l.map Bc.ce)) lo st jk k) 0))
      (if (runA l n d lo st jk k).1 = 4 then .exit 0 (at_ [(2, i64 fuel)] [] 0) else .ret (at_ [(6, i64 (runA l n d lo st jk k).1), (7, i64 (runA l n d lo st jk k).2.1), (8, i64 (runA l n d lo st jk k).2.2), (9, bl true)] [] 0))
  | 0, d, lo, st, jk, k, h, h0, hr => by
    have e : d = fuel := by omega
    rw [show runA l 0 d lo st jk k = (4, 0, d) from rfl, if_pos rfl]
    let t0 : Tp pr := .b (show (decide (d < fuel)) = false by (simp; omega))
    exact .tp [t0] (by kernel_rfl)
  | n + 1, d, lo, st, jk, k, h, h0, hr => by
    have hs := step_ev l lo st jk k hg hr
    have hr2 := stepI_ok (jk := jk) hg hr
    obtain ⟨he4, he⟩ := stepI_e l lo st jk k
    unfold runA
    generalize stepI l lo st jk k = q at *
    obtain ⟨e, lo2, st2, jk2, k2⟩ := q
    dsimp only at hs hr2 he he4 ⊢
    by_cases h1 : e = 0
    · have ih := runBcL_ev l hg fuel hf n (d + 1) lo2 st2 jk2 k2 (by omega) (by omega) hr2
      rw [if_pos h1]
      subst h1
      let t0 : Tp pr := .b (show (decide (d < fuel)) = true by (simp; omega))
      let t3 : Tp pr := .i (wrap_i64 (a := d + (1 : Int)) (by omega) (by omega))
      exact .tp [t0, .a (hs), .b (rfl : true = true), t3, .a (ih)] (by kernel_rfl)
    · rw [if_neg h1]
      have hlt := hr2.stl
      by_cases h2 : e = 1
      · rw [if_pos h2]
        subst h2
        rw [if_neg (by simp)]
        obtain ⟨a, r, rfl⟩ := he rfl
        have hp := pop_ev (.seq 3 (l.map Bc.ce)) lo2 r jk2 k2 a (by simp at hlt; omega)
        let t0 : Tp pr := .b (show (decide (d < fuel)) = true by (simp; omega))
        let t5 : Tp pr := .i (wrap_i64 (a := d + (1 : Int)) (by omega) (by omega))
        exact .tp [t0, .a (hs), .b (rfl : false = false), .b (rfl : true = true), .a (hp), t5] (by kernel_rfl)
      · rw [if_neg h2, if_neg (by dsimp only; intro h4; exact he4 h4)]
        let t0 : Tp pr := .b (show (decide (d < fuel)) = true by (simp; omega))
        let t2 : Tp pr := .b (show (decide (e = (0 : Int))) = false by (simp; omega))
        let t3 : Tp pr := .b (show (decide (e = (1 : Int))) = false by (simp; omega))
        let t4 : Tp pr := .i (wrap_i64 (a := d + (1 : Int)) (by omega) (by omega))
        exact .tp [t0, .a (hs), t2, t3, t4] (by kernel_rfl)
def runBc (l : List Bc) (lo : List Int) (fuel : Int) : Option (Int × Int × Int) :=
  if goodCode l = true ∧ localsOk lo = true ∧ 0 ≤ fuel ∧ fuel ≤ 2000 then some (runA l fuel.toNat 0 lo [] [] 0) else none
theorem localsOk_ok {l : List Bc} {lo : List Int} (h : localsOk lo = true) : RunOk l lo [] 0 := by
  simp only [localsOk, Bool.and_eq_true, decide_eq_true_eq, List.all_eq_true] at h
  refine ⟨h.1, fun v hv => ?_, by simp, by simp, by omega, by omega⟩
  have := h.2 v hv
  simpa [bdB, bd] using this
theorem runA_d (l : List Bc) : ∀ (n : Nat) (d : Int) (lo st jk : List Int) (k : Int), (runA l n d lo st jk k).1 = 4 → (runA l n d lo st jk k).2 = (0, d + n)
  | 0, d, lo, st, jk, k, _ => by simp [runA]
  | n + 1, d, lo, st, jk, k, h => by
    have he := (stepI_e l lo st jk k).1
    unfold runA at h ⊢
    split at h
    · rename_i h1
      rw [if_pos h1]
      rw [runA_d l n _ _ _ _ _ h]
      simp
      omega
    · split at h
      · simp at h
      · exact absurd h he
theorem RunBcI_ev (l : List Bc) (lo : List Int) (fuel : Int) (hl : l.length ≤ 1000000) (hlo : lo.length ≤ 1048576) : Ev pr (.call 45 [bcs l, .t (.seq 1 (lo.map intt)), i64 fuel] []) (match runBc l lo fuel with
    | some r => .val (.tup [i64 r.1, i64 r.2.1, i64 r.2.2, bl true]) []
    | none => .val (.tup [i64 0, i64 0, i64 0, bl false]) []) := by
  have h1 := GoodCodeI_ev l hl
  have h2 := localsOk_ev lo hlo
  unfold runBc
  cases hg : goodCode l with
  | false => rw [hg] at h1; rw [if_neg (by simp)]; exact .tp [.a (h1), .b (rfl : true = true), .b (rfl : true = true), .b (rfl : true = true)] (by kernel_rfl)
  | true =>
    rw [hg] at h1
    cases hgl : localsOk lo with
    | false => rw [hgl] at h2; rw [if_neg (by simp)]; exact .tp [.a (h1), .b (rfl : false = false), .a (h2), .b (rfl : true = true), .b (rfl : true = true)] (by kernel_rfl)
    | true =>
      rw [hgl] at h2
      have hlen : lo.length = 10 := by simp [localsOk] at hgl; exact hgl.1
      have h3 := Clone_ev lo (by omega) (by omega)
      rw [hlen] at h3
      by_cases hf : 0 ≤ fuel ∧ fuel ≤ 2000
      · rw [if_pos ⟨rfl, rfl, hf⟩]
        have hL := runBcL_ev l hg fuel hf fuel.toNat 0 lo [] [] 0 (by omega) (by omega) (localsOk_ok hgl)
        have hd := runA_d l fuel.toNat 0 lo [] [] 0
        generalize runA l fuel.toNat 0 lo [] [] 0 = r at *
        obtain ⟨r1, r2, r3⟩ := r
        dsimp only at hL hd ⊢
        by_cases h4 : r1 = 4
        · rw [if_pos h4] at hL
          obtain ⟨rfl, rfl⟩ := Prod.mk.inj (hd h4)
          subst h4
          let t4 : Tp pr := .a (within_ev (fuel) ((0 : Int)) ((2000 : Int)))
          let t5 : Tp pr := .b (show (!(decide (fuel ≥ (0 : Int)) && decide (fuel ≤ (2000 : Int)))) = false by (simp; omega))
          exact .tpe [.a (h1), .b (rfl : false = false), .a (h2), .b (rfl : false = false), t4, t5, .a (h3), .a (hL)] (Out.val (V.tup [V.t (T.int IntKind.i64 (4 : Int)), V.t (T.int IntKind.i64 (0 : Int)), V.t (T.int IntKind.i64 fuel), V.t (T.bool true)]) []) (by kernel_rfl) (congrArg (fun x => Out.val (V.tup [V.t (T.int IntKind.i64 (4 : Int)), V.t (T.int IntKind.i64 (0 : Int)), V.t (T.int IntKind.i64 x), V.t (T.bool true)]) []) (show (fuel) = ((0 : Int) + (↑fuel.toNat : Int)) by omega))
        · rw [if_neg h4] at hL
          let t4 : Tp pr := .a (within_ev (fuel) ((0 : Int)) ((2000 : Int)))
          let t5 : Tp pr := .b (show (!(decide (fuel ≥ (0 : Int)) && decide (fuel ≤ (2000 : Int)))) = false by (simp; omega))
          exact .tp [.a (h1), .b (rfl : false = false), .a (h2), .b (rfl : false = false), t4, t5, .a (h3), .a (hL)] (by kernel_rfl)
      · rw [if_neg (fun h => hf h.2.2)]
        let t4 : Tp pr := .a (within_ev (fuel) ((0 : Int)) ((2000 : Int)))
        let t5 : Tp pr := .b (show (!(decide (fuel ≥ (0 : Int)) && decide (fuel ≤ (2000 : Int)))) = true by (simp; omega))
        exact .tp [.a (h1), .b (rfl : false = false), .a (h2), .b (rfl : false = false), t4, t5] (by kernel_rfl)
end Go.Ev
