import Derived.Test.YtdbpimeaipgpfabGreatKFnExactStepMachine1
namespace Go.Ev
set_option linter.unusedVariables false
set_option linter.unusedSimpArgs false
section
variable {w : World} {F : Nat → Prop} {σ : Sg} {M : Mem}
theorem foldl_set (off : Nat) : ∀ (l : List Value) (k : Nat) (cs : Array Value),
    ((l.zipIdx k).foldl (fun cs p => cs.setIfInBounds (off + p.2) p.1) cs).size = cs.size ∧
    ∀ i, i < cs.size → ((l.zipIdx k).foldl (fun cs p => cs.setIfInBounds (off + p.2) p.1) cs)[i]? = if off + k ≤ i ∧ i < off + k + l.length then l[i - (off + k)]? else cs[i]?
  | [], k, cs => ⟨rfl, fun i hi => by simp; intro h1 h2; omega⟩
  | c :: l, k, cs => by
    obtain ⟨h1, h2⟩ := foldl_set off l (k + 1) (cs.setIfInBounds (off + k) c)
    simp only [List.zipIdx_cons, List.foldl_cons]
    refine ⟨by rw [h1]; simp, fun i hi => ?_⟩
    rw [h2 i (by simpa using hi)]
    by_cases c1 : i = off + k
    · subst c1
      rw [if_neg (by omega), if_pos ⟨by omega, by simp⟩]
      simp [hi]
    · by_cases c2 : off + (k + 1) ≤ i ∧ i < off + (k + 1) + l.length
      · rw [if_pos c2, if_pos ⟨by omega, by simp; omega⟩]
        obtain ⟨m, hm⟩ : ∃ m, i = off + k + 1 + m := ⟨i - (off + k + 1), by omega⟩
        subst hm
        rw [show off + k + 1 + m - (off + (k + 1)) = m by omega, show off + k + 1 + m - (off + k) = m + 1 by omega]
        simp
      · rw [if_neg c2, if_neg (by simp; omega), Array.getElem?_setIfInBounds_ne (by omega)]
theorem fill_sound (pl pl' : Nat → Option (Nat × Nat)) (hpl : ∀ i x, pl i = some x → pl' i = some x) : ∀ (parts : List (Nat × V)) (parts' : List (Nat × Value)) (vs vs' : List V) (cs : Array Value), fillV pl vs parts = some vs' → RepL w F σ M vs cs →
    parts.length = parts'.length → (∀ (j : Nat) (p : Nat × V), parts[j]? = some p → ∃ u, parts'[j]? = some (p.1, u) ∧ RepV w F σ M p.2 u) →
    ∃ cs', Instr.fill pl' cs parts' = some cs' ∧ RepL w F σ M vs' cs' ∧ vs'.length = vs.length
  | [], parts', vs, vs', cs, h, hl, hlen, hp => by
    obtain rfl : parts' = [] := by cases parts' <;> simp_all
    obtain rfl := Option.some.inj h
    exact ⟨cs, rfl, hl, rfl⟩
  | (i, v) :: parts, parts', vs, vs', cs, h, hl, hlen, hp => by
    cases parts' with
    | nil => simp at hlen
    | cons p' parts' =>
      obtain ⟨u, hu, hv⟩ := hp 0 (i, v) rfl
      obtain rfl : p' = (i, u) := by simpa using hu
      simp only [fillV] at h
      split at h
      · cases h
      · rename_i off size hpli
        split at h
        · rename_i hc
          obtain ⟨c1, c2, c3⟩ := hc
          have hcell := rep_cells hv (by simpa using c3)
          have hus : u.cells.size = size := by rw [← hcell.1]; exact c1
          have step : Instr.fill pl' cs ((i, u) :: parts') = Instr.fill pl' ((u.cells.toList.zipIdx 0).foldl (fun cs p => cs.setIfInBounds (off + p.2) p.1) cs) parts' := by
            simp only [Instr.fill, hpl i _ hpli]
            have hno : ¬ ((decide (u.cells.size ≠ size) || decide (off + u.cells.size > cs.size)) = true) := by
              have := hl.1
              simp [hus]
              omega
            rw [if_neg hno]
            congr 1
            rw [← Array.foldl_toList, Array.toList_zipIdx]
          obtain ⟨f1, f2⟩ := foldl_set off u.cells.toList 0 cs
          have hnew : RepL w F σ M (vs.take off ++ v.cells ++ vs.drop (off + size)) ((u.cells.toList.zipIdx 0).foldl (fun cs p => cs.setIfInBounds (off + p.2) p.1) cs) := by
            refine ⟨by rw [f1, ← hl.1]; simp; omega, fun j x hj => ?_⟩
            rw [← c1, get_seg vs v.cells off j (by omega)] at hj
            have hjl : j < cs.size := by
              rw [← hl.1]
              split at hj
              · exact (List.getElem?_eq_some_iff.1 hj).1
              · split at hj
                · have := (List.getElem?_eq_some_iff.1 hj).1; omega
                · exact (List.getElem?_eq_some_iff.1 hj).1
            rw [Array.getD_eq_getD_getElem?, f2 j hjl]
            have hle : u.cells.toList.length = size := by simpa using hus
            by_cases d1 : j < off
            · rw [if_pos d1] at hj
              rw [if_neg (by omega)]
              have := hl.2 j x hj
              rwa [Array.getD_eq_getD_getElem?] at this
            · by_cases d2 : j < off + v.cells.length
              · rw [if_neg d1, if_pos d2] at hj
                rw [if_pos ⟨by omega, by omega⟩]
                have := hcell.2 _ x hj
                rw [Array.getD_eq_getD_getElem?] at this
                simpa using this
              · rw [if_neg d1, if_neg d2] at hj
                rw [if_neg (by omega)]
                have := hl.2 j x hj
                rwa [Array.getD_eq_getD_getElem?] at this
          obtain ⟨cs', e1, e2, e3⟩ := fill_sound pl pl' hpl parts parts' _ vs' _ h hnew (by simpa using hlen) (fun j p hj => by
            obtain ⟨u', k1, k2⟩ := hp (j + 1) p (by simpa using hj)
            exact ⟨u', by simpa using k1, k2⟩)
          exact ⟨cs', by rw [step]; exact e1, e2, by rw [e3]; simp; omega⟩
        · cases h
theorem toCs_sound {nest : Bool} : ∀ (vs : List V) {F : Nat → Prop} {M M' : Mem} {cs : List C} (us : List Value), Wf w F σ M → toCs nest M vs = some (cs, M') → (∀ (j : Nat) (v : V), vs[j]? = some v → RepV w F σ M v (us.getD j Go.undef)) →
    ∃ F', Step w F σ M w F' σ M' ∧ cs.length = vs.length ∧ ∀ (j : Nat) (c : C), cs[j]? = some c → ∃ x, c = .t x ∧ RepT w F' x (us.getD j Go.undef)
  | [], F, M, M', cs, us, wf, h, hv => by
    obtain ⟨rfl, rfl⟩ := Prod.mk.inj (Option.some.inj h)
    exact ⟨F, .refl wf, rfl, fun j c hj => by simp at hj⟩
  | v :: vs, F, M, M', cs, us, wf, h, hv => by
    simp only [toCs] at h
    obtain ⟨⟨c, M1⟩, h1, h⟩ := Option.bind_eq_some_iff.1 h
    obtain ⟨⟨cs', M2⟩, h2, he⟩ := Option.map_eq_some_iff.1 h
    obtain ⟨rfl, rfl⟩ := Prod.mk.inj he
    obtain ⟨F1, x, st1, rfl, hx⟩ := toC_sound wf h1 (hv 0 v rfl)
    obtain ⟨F2, st2, hlen, hr⟩ := toCs_sound vs us.tail st1.wf h2 (fun j v' hj => by
      have := (hv (j + 1) v' (by simpa using hj)).mono st1.le
      cases us with
      | nil => simpa using this
      | cons a b => simpa using this)
    refine ⟨F2, st1.trans st2, by simp [hlen], fun j c hj => ?_⟩
    cases j with
    | zero =>
      obtain rfl : C.t x = c := by simpa using hj
      exact ⟨x, rfl, hx.mono st2.le.fF st2.le.same⟩
    | succ j =>
      obtain ⟨y, hy, hr'⟩ := hr j c (by simpa using hj)
      refine ⟨y, hy, ?_⟩
      cases us with
      | nil => simpa using hr'
      | cons a b => simpa using hr'
theorem toCss_sound {nest : Bool} {sz : Nat} : ∀ (vss : List (List V)) (b : Nat) {F : Nat → Prop} {M M' : Mem} {css : List (List C)} (us : Nat → Nat → Value), Wf w F σ M → toCss nest M vss = some (css, M') → (∀ vs ∈ vss, vs.length = sz) →
    (∀ (i j : Nat) (vs : List V) (v : V), vss[i]? = some vs → vs[j]? = some v → RepV w F σ M v (us (b + i) j)) →
    ∃ F', Step w F σ M w F' σ M' ∧ css.length = vss.length ∧ (∀ cs ∈ css, cs.length = sz) ∧ ∀ (i j : Nat) (cs : List C) (c : C), css[i]? = some cs → cs[j]? = some c → ∃ x, c = .t x ∧ RepT w F' x (us (b + i) j)
  | [], b, F, M, M', css, us, wf, h, hsz, hv => by
    obtain ⟨rfl, rfl⟩ := Prod.mk.inj (Option.some.inj h)
    exact ⟨F, .refl wf, rfl, by simp, fun i j cs c hi => by simp at hi⟩
  | vs :: vss, b, F, M, M', css, us, wf, h, hsz, hv => by
    simp only [toCss] at h
    obtain ⟨⟨cs, M1⟩, h1, h⟩ := Option.bind_eq_some_iff.1 h
    obtain ⟨⟨css', M2⟩, h2, he⟩ := Option.map_eq_some_iff.1 h
    obtain ⟨rfl, rfl⟩ := Prod.mk.inj he
    have gd : ∀ j, j < vs.length → ((List.range vs.length).map (us b)).getD j Go.undef = us b j := fun j hj => by simp [List.getD, hj]
    obtain ⟨F1, st1, l1, r1⟩ := toCs_sound vs ((List.range vs.length).map (us b)) wf h1 (fun j v hj => by
      rw [gd j (List.getElem?_eq_some_iff.1 hj).1]
      exact hv 0 j vs v rfl hj)
    obtain ⟨F2, st2, l2, s2, r2⟩ := toCss_sound vss (b + 1) us st1.wf h2 (fun v hv' => hsz v (List.mem_cons_of_mem _ hv')) (fun i j vs' v hi hj => by
      have := (hv (i + 1) j vs' v (by simpa using hi) hj).mono st1.le
      rwa [show b + (i + 1) = b + 1 + i by omega] at this)
    refine ⟨F2, st1.trans st2, by simp [l2], fun c hc => ?_, fun i j cs' c hi hj => ?_⟩
    · rcases List.mem_cons.1 hc with rfl | hc
      · rw [l1]; exact hsz vs (by simp)
      · exact s2 c hc
    · cases i with
      | zero =>
        obtain rfl : cs = cs' := by simpa using hi
        obtain ⟨x, hx, hr⟩ := r1 j c hj
        rw [gd j (by rw [← l1]; exact (List.getElem?_eq_some_iff.1 hj).1)] at hr
        exact ⟨x, hx, hr.mono st2.le.fF st2.le.same⟩
      | succ i =>
        obtain ⟨x, hx, hr⟩ := r2 i j cs' c (by simpa using hi) hj
        rw [show b + (i + 1) = b + 1 + i by omega]
        exact ⟨x, hx, hr⟩
theorem chunks_get (sz : Nat) : ∀ (n i : Nat) (l : List V), i < n → (chunks sz n l)[i]? = some ((l.drop (i * sz)).take sz)
  | 0, i, l, h => absurd h (by omega)
  | n + 1, i, l, h => by
    simp only [chunks]
    cases i with
    | zero => simp
    | succ i =>
      rw [List.getElem?_cons_succ, chunks_get sz n i _ (by omega), List.drop_drop]
      congr 3
      rw [Nat.add_mul]; omega
theorem chunks_length (sz : Nat) : ∀ (n : Nat) (l : List V), (chunks sz n l).length = n
  | 0, l => rfl
  | n + 1, l => by simp [chunks, chunks_length sz n]
theorem flat_get {α : Type} {z : List α} {n k : Nat} (hz : 0 < z.length) (hk : k < n * z.length) : (List.replicate n z).flatten[k]? = z[k % z.length]? := by
  induction n generalizing k with
  | zero => simp at hk
  | succ n ih =>
    rw [List.replicate_succ, List.flatten_cons]
    by_cases h : k < z.length
    · rw [List.getElem?_append_left h, Nat.mod_eq_of_lt h]
    · rw [List.getElem?_append_right (by omega), ih (by rw [Nat.add_mul] at hk; omega)]
      congr 1
      rw [← Nat.mod_eq_sub_mod (by omega)]
theorem lit_sound {P : Program} (wf : Wf w F σ M) {t e : TypeId} {sz nb len : Nat} {nest : Bool} {z : List T} {parts : List (Nat × V)} {parts' : Array (Nat × Value)} {v : V} {M' : Mem} (hu : P.underlying t = some (.slice e)) (hs : szT P e = some sz) (hz : zeroT P e = some z)
    (h : mkLit nest nb M sz len z parts = some (v, M')) (hlen : parts.length = parts'.size) (hp : ∀ (j : Nat) (p : Nat × V), parts[j]? = some p → ∃ u, parts'[j]? = some (p.1, u) ∧ RepV w F σ M p.2 u) :
    ∃ w' F' σ' c, (Instr.buildSlice t len parts').run P w = .ok c w' ∧ Step w F σ M w' F' σ' M' ∧ RepV w' F' σ' M' v c := by
  obtain ⟨info, zv, i1, i2, i3, i4⟩ := zero_sound hz
  unfold szT at hs
  rw [i1] at hs
  obtain rfl : info.size = sz := by simpa using hs
  unfold mkLit at h
  split at h
  · rename_i hc
    obtain ⟨zl, z0, hlim⟩ := hc
    obtain ⟨vs, hvs, h⟩ := Option.bind_eq_some_iff.1 h
    obtain ⟨⟨es, M1⟩, hes, h⟩ := Option.bind_eq_some_iff.1 h
    obtain ⟨M2, hM2, he⟩ := Option.map_eq_some_iff.1 h
    obtain ⟨rfl, rfl⟩ := Prod.mk.inj he
    have hzs : zv.cells.size = info.size := by omega
    have hzml : (z.map V.t).length = info.size := by simp [zl]
    have start : RepL w F σ M (List.replicate len (z.map V.t)).flatten ((Array.range (len * info.size)).map (zv.cells[· % zv.cells.size]!)) := by
      refine ⟨by simp [zl], fun i x hi => ?_⟩
      have hlt : i < len * info.size := by
        have := (List.getElem?_eq_some_iff.1 hi).1
        simpa [zl] using this
      rw [flat_get (by simp; omega) (by rw [hzml]; exact hlt), hzml, List.getElem?_map, Option.map_eq_some_iff] at hi
      obtain ⟨y, hy, rfl⟩ := hi
      obtain ⟨u, k1, k2⟩ := i4 _ y hy
      have hm : i % info.size < zv.cells.size := by rw [hzs]; exact Nat.mod_lt _ z0
      rw [Array.getD_eq_getD_getElem?, Array.getElem?_map, Array.getElem?_range, if_pos hlt]
      simp only [Option.map_some, Option.getD_some, hzs]
      have : zv.cells[i % info.size]! = u := by
        rw [Array.getElem?_eq_getElem hm] at k1
        rw [getElem!_pos zv.cells (i % info.size) hm]
        exact Option.some.inj k1
      rw [this]
      exact .t (k2 w F)
    obtain ⟨cs', f1, f2, f3⟩ := fill_sound (fun i => some (i * info.size, info.size)) (fun i => some (i * info.size, info.size)) (fun _ _ h => h) parts parts'.toList _ vs _ hvs start (by simpa using hlen) (fun j p hj => by
      obtain ⟨u, k1, k2⟩ := hp j p hj
      exact ⟨u, by simpa using k1, k2⟩)
    have hvl : vs.length = len * info.size := by rw [f3]; simp [zl]
    obtain ⟨F1, st1, l1, s1, r1⟩ := toCss_sound (sz := info.size) (chunks info.size len vs) 0 (fun i j => cs'.getD (i * info.size + j) Go.undef) wf hes (fun c hc => by
      obtain ⟨i, hi⟩ := List.getElem?_of_mem hc
      have hil : i < len := by have := (List.getElem?_eq_some_iff.1 hi).1; rwa [chunks_length] at this
      rw [chunks_get _ _ _ _ hil] at hi
      obtain rfl := Option.some.inj hi
      have : (i + 1) * info.size ≤ len * info.size := Nat.mul_le_mul_right _ (by omega)
      rw [Nat.add_mul] at this
      simp
      omega) (fun i j c x hi hj => by
      have hil : i < len := by have := (List.getElem?_eq_some_iff.1 hi).1; rwa [chunks_length] at this
      rw [chunks_get _ _ _ _ hil] at hi
      obtain rfl := Option.some.inj hi
      rw [List.getElem?_take] at hj
      split at hj
      · rw [List.getElem?_drop] at hj
        rw [Nat.zero_add]
        exact f2.2 _ x hj
      · cases hj)
    rw [chunks_length] at l1
    have hallT : (es.all (·.all C.isT)) = true := by
      rw [List.all_eq_true]
      intro c hc
      rw [List.all_eq_true]
      intro d hd
      obtain ⟨i, hi⟩ := List.getElem?_of_mem hc
      obtain ⟨j, hj⟩ := List.getElem?_of_mem hd
      obtain ⟨x, rfl, _⟩ := r1 i j c d hi hj
      rfl
    rw [hallT] at hM2
    have hcsz : cs'.size = len * info.size := by rw [← f2.1]; exact hvl
    obtain ⟨σ', st2, hrep⟩ := newVec_sound (w' := w.alloc (.cells cs' e)) (cap := len) st1.wf hM2 z0 s1 (fun c hc d hd => by
        obtain ⟨i, hi⟩ := List.getElem?_of_mem hc
        obtain ⟨j, hj⟩ := List.getElem?_of_mem hd
        obtain ⟨x, rfl, _⟩ := r1 i j c d hi hj
        rfl) (by omega) (by omega) rfl rfl rfl rfl (fun i j c x hi hj => by
        obtain ⟨y, hy, hr⟩ := r1 i j c _ hi hj
        obtain rfl := C.t.inj hy
        rw [Nat.zero_add] at hr
        have hil : i < len := by have := (List.getElem?_eq_some_iff.1 hi).1; omega
        have hjl : j < info.size := by rw [← s1 c (List.mem_of_getElem? hi)]; exact (List.getElem?_eq_some_iff.1 hj).1
        have : (i + 1) * info.size ≤ len * info.size := Nat.mul_le_mul_right _ (by omega)
        rw [Nat.add_mul] at this
        have hlt : i * info.size + j < cs'.size := by omega
        refine ⟨cs'[i * info.size + j], Array.getElem?_eq_getElem hlt, ?_⟩
        rwa [Array.getD_eq_getD_getElem?, Array.getElem?_eq_getElem hlt, Option.getD_some] at hr)
    rw [l1] at hrep
    have hlim' : ¬ (len * info.size > 2 ^ 24) := by omega
    refine ⟨_, F1, σ', _, ?_, st1.trans st2, hrep⟩
    by_cases h00 : len * info.size = 0
    · have f1' := f1
      simp only [h00, Array.range_zero', Array.map_empty] at f1'
      have f2' : Instr.fill (fun i => some (i * info.size, info.size)) (Array.map (fun x => (default : Value)) (Array.range 0)) parts'.toList = some cs' := by rw [Array.range_zero', Array.map_empty]; exact f1'
      simp [Instr.buildSlice, run_underlying hu, sizeOf, typeInfo, i1, h00, newRow, f2']
    · simp [Instr.buildSlice, run_underlying hu, sizeOf, typeInfo, i1, zeroValue, i2, hlim', h00, newRow, f1]
  · cases h
theorem setRow_new (w : World) (c c' : Array Value) (t : TypeId) : (w.alloc (.cells c t)).setRow w.heap.size c' = w.alloc (.cells c' t) := by
  simp only [World.setRow, World.alloc]
  congr 1
  apply Array.ext
  · simp
  · intro i h1 h2
    rw [Array.getElem_modify]
    by_cases h : w.heap.size = i
    · subst h; simp
    · rw [if_neg h]
      simp at h2
      rw [Array.getElem_push_lt (by omega), Array.getElem_push_lt (by omega)]
theorem run_lit1 {P : Program} {t e : TypeId} {info : TypeInfo} {zv : Value} {cs : Array Value} (hu : P.underlying t = some (.slice e)) (hi : P.info? e = some info) (hz : info.zero = some zv) (hs : cs.size = info.size) (h0 : 0 < info.size) (hlim : info.size ≤ 16777216) :
    (Instr.buildSlice t 1 #[(0, .agg cs)]).run P w = .ok (.slice (some ⟨w.heap.size, 0, none⟩) 1 1) (w.alloc (.cells cs e)) := by
  have hf : ∀ base : Array Value, base.size = info.size → Instr.fill (fun i => some (i * info.size, info.size)) base [(0, Value.agg cs)] = some cs := fun base hb => by
    have hno : ¬ ((decide ((Value.agg cs).cells.size ≠ info.size) || decide (0 * info.size + (Value.agg cs).cells.size > base.size)) = true) := by
      simp [Value.cells, hs, hb]
    simp only [Instr.fill]
    rw [if_neg hno]
    congr 1
    rw [← Array.foldl_toList, Array.toList_zipIdx]
    obtain ⟨f1, f2⟩ := foldl_set (0 * info.size) (Value.agg cs).cells.toList 0 base
    have hcs : (Value.agg cs).cells = cs := rfl
    apply Array.ext'
    apply List.ext_getElem?
    intro i
    rw [Array.getElem?_toList, Array.getElem?_toList]
    by_cases hlt : i < base.size
    · rw [f2 i hlt, if_pos ⟨by omega, by rw [hcs]; simp; omega⟩, hcs]
      simp
    · rw [Array.getElem?_eq_none (by rw [f1]; omega), Array.getElem?_eq_none (by omega)]
  have hlim' : ¬ (info.size > 2 ^ 24) := by omega
  have h00 : ¬ info.size = 0 := by omega
  simp [Instr.buildSlice, run_underlying hu, sizeOf, typeInfo, hi, zeroValue, hz, hlim', h00, newRow, hf]
theorem mvIn_sound {P : Program} {e : TypeId} {nb : Nat} {w : World} {cs : Array Value} : ∀ (vs : List V) (j : Nat) (ck : Array Value) {F : Nat → Prop} {σ : Sg} {M M' : Mem}, Wf (w.alloc (.cells ck e)) F σ M → mvIn nb j vs M = some M' →
    RepV (w.alloc (.cells ck e)) F σ M (.ptr nb 1 0 0) (.pointer (some ⟨w.heap.size, 0, none⟩)) → j + vs.length = cs.size → ck.size = cs.size →
    (∀ (i : Nat) (v : V), vs[i]? = some v → RepV (w.alloc (.cells ck e)) F σ M v (cs.getD (j + i) Go.undef)) →
    ∃ (ck' : Array Value) (F' : Nat → Prop) (σ' : Sg), ck'.size = cs.size ∧ (∀ i, i < j → ck'[i]? = ck[i]?) ∧ (∀ (i : Nat) (v : V), vs[i]? = some v → ck'[j + i]? = if v.isVec = true then cs[j + i]? else ck[j + i]?) ∧
      Step (w.alloc (.cells ck e)) F σ M (w.alloc (.cells ck' e)) F' σ' M'
  | [], j, ck, F, σ, M, M', wf, h, hp, hl, hs, hv => by
    obtain rfl := Option.some.inj h
    exact ⟨ck, F, σ, hs, fun _ _ => rfl, fun i v hi => by simp at hi, .refl wf⟩
  | v :: vs, j, ck, F, σ, M, M', wf, h, hp, hl, hs, hv => by
    have next : ∀ (c1 : Array Value) {F1 : Nat → Prop} {σ1 : Sg} {M1 : Mem}, Step (w.alloc (.cells ck e)) F σ M (w.alloc (.cells c1 e)) F1 σ1 M1 → c1.size = cs.size → (∀ i, i ≠ j → c1[i]? = ck[i]?) → (c1[j]? = if v.isVec = true then cs[j]? else ck[j]?) → mvIn nb (j + 1) vs M1 = some M' →
        ∃ (ck' : Array Value) (F' : Nat → Prop) (σ' : Sg), ck'.size = cs.size ∧ (∀ i, i < j → ck'[i]? = ck[i]?) ∧ (∀ (i : Nat) (v' : V), (v :: vs)[i]? = some v' → ck'[j + i]? = if v'.isVec = true then cs[j + i]? else ck[j + i]?) ∧
          Step (w.alloc (.cells ck e)) F σ M (w.alloc (.cells ck' e)) F' σ' M' := fun c1 F1 σ1 M1 st h1 h2 h3 hm => by
      obtain ⟨ck', F', σ', r1, r2, r3, r4⟩ := mvIn_sound (P := P) vs (j + 1) c1 st.wf hm (hp.mono st.le) (by simp at hl; omega) h1 (fun i x hi => by
        have := (hv (i + 1) x (by simpa using hi)).mono st.le
        rwa [show j + (i + 1) = j + 1 + i by omega] at this)
      refine ⟨ck', F', σ', r1, fun i hi => by rw [r2 i (by omega), h2 i (by omega)], fun i x hi => ?_, st.trans r4⟩
      cases i with
      | zero =>
        obtain rfl : v = x := by simpa using hi
        rw [Nat.add_zero, r2 j (by omega)]
        exact h3
      | succ i =>
        have := r3 i x (by simpa using hi)
        rw [show j + (i + 1) = j + 1 + i by omega, this, h2 _ (by omega)]
    cases v with
    | vec id2 n2 sz2 off2 len2 =>
      simp only [mvIn] at h
      obtain ⟨M1, h1, h⟩ := Option.bind_eq_some_iff.1 h
      have h1' : wrN M nb 1 0 (0 + j) id2 n2 sz2 off2 len2 = some M1 := by rw [Nat.zero_add]; exact h1
      obtain ⟨a, ha, w', F', σ', hr, st⟩ := wrN_sound (P := P) wf h1' hp (hv 0 _ rfl)
      obtain rfl : (⟨w.heap.size, 0, none⟩ : Addr) = a := by simpa using ha
      have hone : (cs.getD (j + 0) Go.undef).oneCell' = true := by
        generalize hu : cs.getD (j + 0) Go.undef = u
        have := hv 0 _ rfl
        rw [hu] at this
        exact oneCell_V rfl this
      have hjl : j < ck.size := by simp at hl; omega
      have hrun := run_store_at (P := P) (heap_alloc_new w (.cells ck e)) hjl hone
      rw [setRow_new] at hrun
      have ead : (⟨w.heap.size, 0, none⟩ : Addr).add j = ⟨w.heap.size, j, none⟩ := by rw [addr_add]; simp
      rw [ead, hrun] at hr
      obtain ⟨_, rfl⟩ := Result.ok.inj hr
      refine next _ st (by simp [hs]) (fun i hi => by rw [Array.getElem?_setIfInBounds_ne (Ne.symm hi)]) ?_ h
      have hjc : j < cs.size := by omega
      simp [V.isVec, hjl, Array.getD_eq_getD_getElem?, hjc]
    | _ =>
      simp only [mvIn] at h
      exact next ck (.refl wf) hs (fun _ _ => rfl) (by simp [V.isVec]) h
theorem litN_sound {P : Program} (wf : Wf w F σ M) {t e : TypeId} {sz nb len : Nat} {nest : Bool} {z : List T} {parts : List (Nat × V)} {parts' : Array (Nat × Value)} {v : V} {M' : Mem} (hu : P.underlying t = some (.slice e)) (hs : szT P e = some sz) (hz : zeroT P e = some z)
    (h : mkLitN nest nb M sz len z parts = some (v, M')) (hlen : parts.length = parts'.size) (hp : ∀ (j : Nat) (p : Nat × V), parts[j]? = some p → ∃ u, parts'[j]? = some (p.1, u) ∧ RepV w F σ M p.2 u) :
    ∃ w' F' σ' c, (Instr.buildSlice t len parts').run P w = .ok c w' ∧ Step w F σ M w' F' σ' M' ∧ RepV w' F' σ' M' v c := by
  unfold mkLitN at h
  split at h
  · rename_i vs hvs
    have hvs' : litOne sz len parts = some vs := by cases nest <;> simp at hvs; exact hvs
    unfold litOne at hvs'
    split at hvs'
    · rename_i vs0
      cases hc : (len == 1 && vs0.length == sz && vs0.any V.isVec) with
      | false => rw [hc] at hvs'; cases hvs'
      | true =>
        rw [hc] at hvs'
        obtain rfl : vs0 = vs := Option.some.inj hvs'
        simp only [Bool.and_eq_true, beq_iff_eq] at hc
        obtain ⟨⟨rfl, hsz⟩, _⟩ := hc
        obtain ⟨⟨v1, M1⟩, h1, h⟩ := Option.bind_eq_some_iff.1 h
        obtain ⟨M2, h2, he⟩ := Option.map_eq_some_iff.1 h
        obtain ⟨rfl, rfl⟩ := Prod.mk.inj he
        obtain ⟨u, hu0, hru⟩ := hp 0 _ rfl
        have hpe : parts' = #[(0, u)] := by
          apply Array.ext'
          apply List.ext_getElem?
          intro i
          rw [Array.getElem?_toList]
          cases i with
          | zero => rw [hu0]; rfl
          | succ i => rw [Array.getElem?_eq_none (by rw [← hlen]; simp)]; rfl
        subst hpe
        cases hru with
        | @agg _ cs hl hr =>
          have hsz2 : cs.size = sz := by omega
          have hcs0 : ∃ cs0 : Array Value, cs0.size = cs.size ∧ ∀ (i : Nat) (x : V), vs0[i]? = some x → cs0[i]? = if x.isVec = true then some (.slice none 0 0) else cs[i]? := by
            refine ⟨((vs0.zipIdx 0).map fun p => if p.1.isVec = true then Value.slice none 0 0 else cs.getD p.2 Go.undef).toArray, by simp [hl], fun i x hi => ?_⟩
            have hlt : i < cs.size := by rw [← hl]; exact (List.getElem?_eq_some_iff.1 hi).1
            rw [List.getElem?_toArray, List.getElem?_map, List.getElem?_zipIdx, hi]
            simp only [Option.map_some, Nat.zero_add]
            split
            · rfl
            · rw [Array.getElem?_eq_getElem hlt]; simp [hlt]
          obtain ⟨cs0, hc0, hc1⟩ := hcs0
          have hr0 : RepV w F σ M (.agg (vs0.map nilC)) (.agg cs0) := by
            refine .agg (by simp; omega) fun i x hi => ?_
            rw [List.getElem?_map, Option.map_eq_some_iff] at hi
            obtain ⟨y, hy, rfl⟩ := hi
            have h3 := hc1 i y hy
            have h4 := hr i y hy
            rw [Array.getD_eq_getD_getElem?, h3]
            cases y with
            | vec => exact .t .nils
            | _ =>
              rw [if_neg (by simp [V.isVec]), ← Array.getD_eq_getD_getElem?]
              exact h4
          obtain ⟨w0, F1, σ1, c0, k1, k2, k3⟩ := lit_sound (parts' := #[(0, .agg cs0)]) wf hu hs hz h1 rfl (fun j p hj => by
            cases j with
            | zero => obtain rfl := Option.some.inj hj; exact ⟨_, rfl, hr0⟩
            | succ j => simp at hj)
          obtain ⟨info, zv, i1, i2, i3, i4⟩ := zero_sound hz
          have hsi : info.size = sz := by unfold szT at hs; rw [i1] at hs; simpa using hs
          have hpos : 0 < sz ∧ 1 * sz ≤ 16777216 ∧ v1 = .vec nb 1 sz 0 1 := by
            unfold mkLit at h1
            split at h1
            · rename_i hc
              obtain ⟨vs1, _, h1⟩ := Option.bind_eq_some_iff.1 h1
              obtain ⟨p1, _, h1⟩ := Option.bind_eq_some_iff.1 h1
              obtain ⟨p2, _, h1⟩ := Option.map_eq_some_iff.1 h1
              exact ⟨hc.2.1, hc.2.2, (Prod.mk.inj h1).1.symm⟩
            · cases h1
          obtain ⟨q1, q2, rfl⟩ := hpos
          rw [run_lit1 hu i1 i2 (by omega) (by omega) (by omega)] at k1
          obtain ⟨rfl, rfl⟩ := Result.ok.inj k1
          have hptr : RepV (w.alloc (.cells cs0 e)) F1 σ1 M1 (.ptr nb 1 0 0) (.pointer (some ⟨w.heap.size, 0, none⟩)) := by
            cases k3 with
            | vec ho hl1 hc2 ha hh =>
              refine .ptr ho fun m hm => ?_
              obtain ⟨g1, g2⟩ := hh m hm
              refine ⟨g1, fun e => ?_⟩
              obtain ⟨fl, es, rfl, g3⟩ := g2 e
              obtain ⟨b, o0, g4, g5, _⟩ := g3 (by omega)
              refine ⟨b, o0, g4, ?_⟩
              have := Option.some.inj g5
              rw [this]
              simp
          obtain ⟨ck', F', σ', r1, r2, r3, r4⟩ := mvIn_sound (P := P) (cs := cs) vs0 0 cs0 k2.wf h2 hptr (by omega) hc0 (fun i x hi => by
            rw [Nat.zero_add]
            exact (hr i x hi).mono k2.le)
          have hck : ck' = cs := by
            apply Array.ext'
            apply List.ext_getElem?
            intro i
            rw [Array.getElem?_toList, Array.getElem?_toList]
            by_cases hi : i < vs0.length
            · have h5 := r3 i _ (List.getElem?_eq_getElem hi)
              have h6 := hc1 i _ (List.getElem?_eq_getElem hi)
              rw [Nat.zero_add] at h5
              rw [h5, h6]
              split <;> rfl
            · rw [Array.getElem?_eq_none (by omega), Array.getElem?_eq_none (by omega)]
          subst hck
          exact ⟨_, F', σ', _, run_lit1 hu i1 i2 (by omega) (by omega) (by omega), k2.trans r4, k3.mono r4.le⟩
    · cases hvs'
  · exact lit_sound wf hu hs hz h hlen hp
def sgApp (σ : Sg) (id id2 N bn on : Nat) : Sg := fun x p => if x = id then (match p with | none => some (bn, on) | some (i, j) => if i < N then σ id (some (i, j)) else σ id2 (some (0, j))) else σ x p
theorem step_appN {w' : World} (wf : Wf w F σ M) {id id2 sz bn on : Nat} {fl fl2 : Bool} {es : List (List C)} {e : List C} {cur' : Array Value} {ty : TypeId} (hid : M id = some (.vec fl sz es)) (hid2 : M id2 = some (.vec fl2 sz [e])) (hne : id ≠ id2)
    (hos : w'.os = w.os) (htape : w'.tape = w.tape) (hout : w'.output = w.output) (hsize : w.heap.size ≤ w'.heap.size) (hbn : (∃ o0, σ id none = some (bn, o0)) ∨ w.heap.size ≤ bn)
    (hrest : ∀ b1, b1 < w.heap.size → b1 ≠ bn → w'.heap[b1]? = w.heap[b1]?) (hrow : ∀ b k, Row w b k → Row w' b k) (hnew : w'.heap[bn]? = some (.cells cur' ty (0, 0)))
    (hcell : ∀ (i j : Nat) (e' : List C) (c : C), (es ++ [e])[i]? = some e' → e'[j]? = some c → ∃ u, cur'[on + i * sz + j]? = some u ∧ RepC w F (if i < es.length then σ id (some (i, j)) else σ id2 (some (0, j))) c u) :
    Step w F σ M w' F (sgApp σ id id2 es.length bn on) (upd (upd M id2 (some .dead)) id (some (.vec false sz (es ++ [e])))) := by
  generalize hσ' : sgApp σ id id2 es.length bn on = σ'
  have s_none : σ' id none = some (bn, on) := by rw [← hσ']; simp [sgApp]
  have s_row : ∀ i j, σ' id (some (i, j)) = if i < es.length then σ id (some (i, j)) else σ id2 (some (0, j)) := fun i j => by rw [← hσ']; simp [sgApp]
  have s_old : ∀ x p, x ≠ id → σ' x p = σ x p := fun x p hx => by rw [← hσ']; simp [sgApp, hx]
  generalize hM' : upd (upd M id2 (some Ob.dead)) id (some (Ob.vec false sz (es ++ [e]))) = M'
  have m_id : M' id = some (Ob.vec false sz (es ++ [e])) := by rw [← hM']; exact upd_same ..
  have m_id2 : M' id2 = some .dead := by rw [← hM', upd_ne _ _ (Ne.symm hne)]; exact upd_same ..
  have m_ne : ∀ x, x ≠ id → x ≠ id2 → M' x = M x := fun x x1 x2 => by rw [← hM', upd_ne _ _ x1, upd_ne _ _ x2]
  have l1 : Live M id none := ⟨_, hid, by simp⟩
  have was : ∀ x p, Live M' x p → (x = id ∧ p = none) ∨ ∃ y q, Live M y q ∧ σ' x p = σ y q ∧ ¬ (y = id ∧ q = none) ∧ (x, p) = if y = id2 then (id, q.map fun (r : Nat × Nat) => (es.length + r.1, r.2)) else (y, q) := fun x p hl => by
    by_cases x1 : x = id
    · subst x1
      cases p with
      | none => exact .inl ⟨rfl, rfl⟩
      | some q =>
        obtain ⟨i, j⟩ := q
        obtain ⟨fl', sz', es', e', s, r, g1, g2, g3⟩ := hl
        rw [m_id] at g1
        obtain ⟨rfl, rfl, rfl⟩ := Ob.vec.inj (Option.some.inj g1)
        by_cases hi : i < es.length
        · rw [List.getElem?_append_left hi] at g2
          exact .inr ⟨x, some (i, j), ⟨fl, sz, es, e', s, r, hid, g2, g3⟩, by rw [s_row, if_pos hi], by simp, by rw [if_neg hne]⟩
        · rw [List.getElem?_append_right (by omega)] at g2
          have hi0 : i - es.length = 0 := by
            have := (List.getElem?_eq_some_iff.1 g2).1
            simp at this
            omega
          rw [hi0] at g2
          have : i = es.length := by omega
          subst this
          exact .inr ⟨id2, some (0, j), ⟨fl2, sz, [e], e', s, r, hid2, g2, g3⟩, by rw [s_row, if_neg hi], by simp, by rw [if_pos rfl]; simp⟩
    · by_cases x2 : x = id2
      · subst x2
        exfalso
        cases p with
        | none => obtain ⟨ob, g1, g2⟩ := hl; rw [m_id2] at g1; exact g2 (Option.some.inj g1).symm
        | some q => obtain ⟨a, b''⟩ := q; obtain ⟨fl', sz', es', e', s, r, g1, _⟩ := hl; rw [m_id2] at g1; cases g1
      · refine .inr ⟨x, p, ?_, s_old _ _ x1, fun h => x1 h.1, by rw [if_neg x2]⟩
        cases p with
        | none => obtain ⟨ob, g1, g2⟩ := hl; rw [m_ne x x1 x2] at g1; exact ⟨ob, g1, g2⟩
        | some q => obtain ⟨a, b''⟩ := q; obtain ⟨fl', sz', es', e', s, r, g1, g2⟩ := hl; rw [m_ne x x1 x2] at g1; exact ⟨fl', sz', es', e', s, r, g1, g2⟩
  have old : ∀ id p b a, Live M id p → σ id p = some (b, a) → b < w.heap.size := fun id p b a h k => by
    obtain ⟨_, c, e, h3⟩ := wf.row id p b a h k
    exact (Array.getElem?_eq_some_iff.1 h3).1
  have hoth : ∀ y q b a, Live M y q → ¬ (y = id ∧ q = none) → σ y q = some (b, a) → b ≠ bn := fun y q b a h1 h2 h3 h4 => by
    subst h4
    rcases hbn with ⟨o0, h5⟩ | h5
    · exact h2 (wf.inj _ _ _ _ _ _ _ h1 l1 h3 h5)
    · have := old _ _ _ _ h1 h3
      omega
  have hF : ∀ b, F b → b ≠ bn := fun b h1 h2 => by
    subst h2
    rcases hbn with ⟨o0, h5⟩ | h5
    · exact (wf.row _ _ _ _ l1 h5).1 h1
    · have := wf.lt _ h1
      omega
  have le : Le w F σ M w' F σ' M' := by
    refine ⟨fun _ h => h, fun b1 h => hrest b1 (wf.lt b1 h) (hF b1 h), fun x o1 hx => ?_, hrow⟩
    by_cases x1 : x = id
    · subst x1
      rw [hid] at hx
      obtain rfl := Option.some.inj hx
      refine ⟨_, m_id, ⟨fun m' hm => ?_⟩⟩
      obtain rfl := Option.some.inj hm
      exact ⟨_, rfl, by simp, fun he => by simp at he⟩
    · by_cases x2 : x = id2
      · subst x2
        exact ⟨.dead, m_id2, ⟨fun m' hm => by cases hm⟩⟩
      · exact ⟨o1, by rw [m_ne x x1 x2]; exact hx, ⟨fun m' hm => ⟨m', hm, Nat.le_refl _, fun _ => ⟨rfl, fun z hz => by rw [s_old _ _ x1]; exact hz, fun fl' sz' es' he' => ⟨fl', es', he', fun a b'' e1 c0 v0 ha hb' h0v => ⟨e1, c0, v0, ha, hb', h0v, Nat.le_refl _, fun _ => ⟨fun _ r0 h0c => ⟨r0, h0c⟩, fun z hz => by rw [s_old _ _ x1]; exact hz⟩⟩⟩⟩⟩⟩⟩
  refine ⟨le, ⟨fun x o1 hx => ?_, fun id1 p1 id2' p2 b1 a1 a2 q1 q2 q3 q4 => ?_, fun id1 p1 b1 a1 q1 q2 => ?_, fun b1 q1 => Nat.lt_of_lt_of_le (wf.lt b1 q1) hsize⟩, ⟨hos, htape, hout, hsize, fun b1 h1 hno => hrest b1 h1 fun e1 => ?_, fun b1 h => .inl h, fun b1 ⟨id1, p1, a1, q1, q2⟩ => ?_⟩⟩
  · by_cases x1 : x = id
    · subst x1
      rw [m_id] at hx
      obtain rfl := Option.some.inj hx
      have hszs : (∀ e0 ∈ es, e0.length = sz) ∧ e.length = sz ∧ 0 < sz := by
        have h1 := wf.obj _ _ hid
        have h2 := wf.obj _ _ hid2
        cases h1 with
        | vec h0 hsz _ _ => cases h2 with
          | vec _ hsz2 _ _ => exact ⟨hsz, hsz2 e (by simp), h0⟩
      refine .vec hszs.2.2 (fun e' he' => ?_) (fun hf => by cases hf) fun _ => ⟨bn, on, cur', ty, s_none, hnew, fun i j e' c hi hj => ?_⟩
      · rcases List.mem_append.1 he' with h | h
        · exact hszs.1 e' h
        · obtain rfl := List.mem_singleton.1 h
          exact hszs.2.1
      · obtain ⟨u, k1, k2⟩ := hcell i j e' c hi hj
        refine ⟨u, k1, ?_⟩
        rw [s_row]
        refine k2.mono le.fF le.same fun b3 o3 hs3 ⟨nn, ll, hcr⟩ => ?_
        subst hcr
        split at hs3
        · rename_i hlt
          rw [List.getElem?_append_left hlt] at hi
          have hl : Live M x (some (i, j)) := ⟨fl, sz, es, e', nn, ll, hid, hi, hj⟩
          exact hrest b3 (old _ _ _ _ hl hs3) (hoth _ _ _ _ hl (by simp) hs3)
        · rename_i hlt
          rw [List.getElem?_append_right (by omega)] at hi
          have hi0 : i - es.length = 0 := by
            have := (List.getElem?_eq_some_iff.1 hi).1
            simp at this
            omega
          rw [hi0] at hi
          have hl : Live M id2 (some (0, j)) := ⟨fl2, sz, [e], e', nn, ll, hid2, hi, hj⟩
          exact hrest b3 (old _ _ _ _ hl hs3) (hoth _ _ _ _ hl (by simp) hs3)
    · by_cases x2 : x = id2
      · subst x2
        rw [m_id2] at hx
        obtain rfl := Option.some.inj hx
        exact .dead
      · rw [m_ne x x1 x2] at hx
        exact (wf.obj x o1 hx).mono le hx (fun p => s_old _ _ x1) fun p b1 a1 hq hk => hrest b1 (old _ _ _ _ hq hk) (hoth _ _ _ _ hq (fun h => x1 h.1) hk)
  · rcases was _ _ q1 with ⟨rfl, rfl⟩ | ⟨y1, r1, t1, t2, t3, t4⟩ <;> rcases was _ _ q2 with ⟨x1, x2⟩ | ⟨y2, r2, v1, v2, v3, v4⟩
    · exact ⟨x1.symm, x2.symm⟩
    · exfalso
      rw [s_none] at q3
      obtain ⟨rfl, _⟩ := Prod.mk.inj (Option.some.inj q3)
      rw [v2] at q4
      exact hoth _ _ _ _ v1 v3 q4 rfl
    · exfalso
      subst x1; subst x2
      rw [s_none] at q4
      obtain ⟨rfl, _⟩ := Prod.mk.inj (Option.some.inj q4)
      rw [t2] at q3
      exact hoth _ _ _ _ t1 t3 q3 rfl
    · rw [t2] at q3
      rw [v2] at q4
      obtain ⟨rfl, rfl⟩ := wf.inj _ _ _ _ _ _ _ t1 v1 q3 q4
      exact Prod.mk.inj (t4.trans v4.symm)
  · rcases was _ _ q1 with ⟨rfl, rfl⟩ | ⟨y1, r1, t1, t2, t3, t4⟩
    · rw [s_none] at q2
      obtain ⟨rfl, _⟩ := Prod.mk.inj (Option.some.inj q2)
      exact ⟨fun h => hF _ h rfl, cur', ty, hnew⟩
    · rw [t2] at q2
      obtain ⟨g1, c1, e1, g2⟩ := wf.row _ _ _ _ t1 q2
      exact ⟨g1, c1, e1, by rw [hrest b1 (old _ _ _ _ t1 q2) (hoth _ _ _ _ t1 t3 q2)]; exact g2⟩
  · subst e1
    rcases hbn with ⟨o0, h5⟩ | h5
    · exact hno ⟨_, _, _, l1, h5⟩
    · omega
  · rcases was _ _ q1 with ⟨rfl, rfl⟩ | ⟨y1, r1, t1, t2, t3, t4⟩
    · rw [s_none] at q2
      obtain ⟨rfl, _⟩ := Prod.mk.inj (Option.some.inj q2)
      rcases hbn with ⟨o0, h5⟩ | h5
      · exact .inl ⟨_, _, _, l1, h5⟩
      · exact .inr h5
    · rw [t2] at q2
      exact .inl ⟨_, _, _, t1, q2⟩
theorem cells_of {b o len cap sz k : Nat} (h : ∀ q, q < k * sz → ∃ u, w.cell? ⟨b, o + q, none⟩ = some u ∧ u.oneCell' = true) :
    ∃ news : List Value, news.length = k * sz ∧ (∀ q, q < k * sz → news[q]? = w.cell? ⟨b, o + q, none⟩) ∧ (∀ u ∈ news, u.oneCell' = true) ∧
      ∀ (P : Program) (w' : World), w'.heap = w.heap → (Builtin.firstCells sz k (.slice (some ⟨b, o, none⟩) len cap)).run P w' = .ok news.toArray w' := by
  refine ⟨(List.range (k * sz)).map fun q => (w.cell? ⟨b, o + q, none⟩).getD Go.undef, by simp, fun q hq => ?_, fun u hu => ?_, fun P w' hw => ?_⟩
  · obtain ⟨u, h1, _⟩ := h q hq
    rw [List.getElem?_map, List.getElem?_range hq]
    simp [h1]
  · simp at hu
    obtain ⟨q, hq, rfl⟩ := hu
    obtain ⟨u, h1, h2⟩ := h q hq
    rw [h1]
    exact h2
  · refine run_firstCells_some w' sz k _ len cap _ (by simp) fun j v hj => ?_
    rw [List.getElem?_map, Option.map_eq_some_iff] at hj
    obtain ⟨q, hq, rfl⟩ := hj
    have hqj : q = j := by
      obtain ⟨h1, h2⟩ := List.getElem?_eq_some_iff.1 hq
      simpa using h2.symm
    subst hqj
    have hlt : q < k * sz := by
      have := (List.getElem?_eq_some_iff.1 hq).1
      simpa using this
    obtain ⟨u, h1, _⟩ := h q hlt
    have e1 : w'.cell? ((⟨b, o, none⟩ : Addr).add q) = w.cell? ⟨b, o + q, none⟩ := by rw [addr_add]; simp [World.cell?, hw]
    rw [e1, h1]; rfl
theorem oneCell_C {s : Option (Nat × Nat)} {c : C} {u : Value} (h : RepC w F s c u) : u.oneCell' = true := by
  cases h with
  | t h => exact oneCell_T h
  | row => rfl
  | gone _ _ h => exact h
theorem vec_cells (wf : Wf w F σ M) {id sz k : Nat} {fl : Bool} {es : List (List C)} (hid : M id = some (.vec fl sz es)) (hk : k ≤ es.length) (h0 : 0 < k) :
    ∃ b o cur ty, σ id none = some (b, o) ∧ w.heap[b]? = some (.cells cur ty (0, 0)) ∧ (∀ (i j : Nat) (e : List C) (c : C), es[i]? = some e → e[j]? = some c → ∃ u, cur[o + i * sz + j]? = some u ∧ RepC w F (σ id (some (i, j))) c u) ∧
      ∀ q, q < k * sz → ∃ u, w.cell? ⟨b, o + q, none⟩ = some u ∧ u.oneCell' = true := by
  cases wf.obj _ _ hid with
  | vec z0 hsz hfl hr =>
    have hne : es ≠ [] := by rintro rfl; simp at hk; omega
    obtain ⟨b, o, cur, ty, h1, h2, h3⟩ := hr hne
    refine ⟨b, o, cur, ty, h1, h2, h3, fun q hq => ?_⟩
    have hi : q / sz < es.length := by
      have : q / sz < k := by rw [Nat.div_lt_iff_lt_mul z0]; exact hq
      omega
    have hm := hsz _ (List.getElem_mem hi)
    have hj : q % sz < (es[q / sz]).length := by rw [hm]; exact Nat.mod_lt _ z0
    obtain ⟨u, k1, k2⟩ := h3 _ _ _ _ (List.getElem?_eq_getElem hi) (List.getElem?_eq_getElem hj)
    have e1 := Nat.div_add_mod q sz
    rw [Nat.mul_comm] at e1
    refine ⟨u, ?_, oneCell_C k2⟩
    rw [show o + q = o + q / sz * sz + q % sz by omega]
    simp [World.cell?, h2, k1]
theorem appN_sound {P : Program} (wf : Wf w F σ M) {t u e : TypeId} {info : TypeInfo} {d : TypeDesc} {ty : TypeId} {zv : Value} {id id2 n sz len : Nat} {sv xv : Value} {r : V} {M' : Mem}
    (ht : P.underlying t = some (.slice e)) (hi : P.info? e = some info) (hz0 : info.zero = some zv) (hu : P.underlying u = some d) (hd : ∀ k, d ≠ .int k) (hs : info.size = sz) (hzs : zv.cells.size = sz)
    (h : appN M sz info.bytes id n len id2 = some (r, M')) (hsv : RepV w F σ M (.vec id n sz 0 len) sv) (hxv : RepV w F σ M (.vec id2 1 sz 0 1) xv) :
    ∃ w' F' σ' c, (Builtin.append_ #[t, u] ty #[sv, xv]).run P w = .ok c w' ∧ Step w F σ M w' F' σ' M' ∧ RepV w' F' σ' M' r c := by
  subst hs
  unfold appN at h
  split at h
  · rename_i hc0
    obtain ⟨h0, hby, hne⟩ := hc0
    split at h
    · rename_i fl2 sz2 el hid2
      split at h
      · rename_i fl1 sz1 es hid
        split at h
        · rename_i hc
          obtain ⟨rfl, rfl, hn, rfl, hroom⟩ := hc
          obtain ⟨rfl, rfl⟩ := Prod.mk.inj (Option.some.inj h)
          cases hxv with
          | @vec _ _ _ _ _ a2 cap2 ob2 ho2 hl2 hcp2 ha2 hh2 =>
            rw [hid2] at ho2
            obtain rfl := Option.some.inj ho2
            obtain ⟨_, _, _, hq2⟩ := (hh2 _ rfl).2 rfl
            obtain ⟨b2, o2, g1, g2, _⟩ := hq2 (by omega)
            obtain ⟨b2', o2', cur2, ty2, z1, z2, z3, z4⟩ := vec_cells (k := 1) wf hid2 (by simp) (by omega)
            rw [z1] at g1
            obtain ⟨rfl, rfl⟩ := Prod.mk.inj (Option.some.inj g1)
            obtain rfl : a2 = some ⟨b2', o2', none⟩ := by rw [g2]; simp
            obtain ⟨news, n1, n2, n3, n4⟩ := cells_of (len := 1) (cap := cap2) z4
            have hnl : news.length = info.size := by omega
            have hlen : ∀ w' : World, (Builtin.lenOf (.slice (some ⟨b2', o2', none⟩) 1 cap2)).run P w' = .ok 1 w' := fun w' => by simp [Builtin.lenOf]
            have hnew : ∀ (j : Nat) (c : C), el[j]? = some c → ∃ u, news[j]? = some u ∧ RepC w F (σ id2 (some (0, j))) c u := fun j c hj => by
              obtain ⟨u, k1, k2⟩ := z3 0 j el c rfl hj
              have hjl : j < 1 * info.size := by
                cases wf.obj _ _ hid2 with
                | vec _ hsz2 _ _ => have := hsz2 el (by simp); have := (List.getElem?_eq_some_iff.1 hj).1; omega
              refine ⟨u, ?_, k2⟩
              rw [n2 j hjl]
              simp only [Nat.zero_mul, Nat.add_zero] at k1
              simp [World.cell?, z2, k1]
            have hel : el.length = info.size := by
              cases wf.obj _ _ hid2 with
              | vec _ hsz2 _ _ => exact hsz2 el (by simp)
            have hszs : ∀ e0 ∈ es, e0.length = info.size := by
              cases wf.obj _ _ hid with
              | vec _ hsz _ _ => exact hsz
            cases hsv with
            | @vec _ _ _ _ _ base cap ob ho hl hcp ha hh =>
              rw [hid] at ho
              obtain rfl := Option.some.inj ho
              obtain ⟨_, _, _, hq⟩ := (hh _ rfl).2 hn.symm
              by_cases hc : len + 1 ≤ cap
              · obtain ⟨b, o0, y1, rfl, cur, tyb, y3, y4⟩ := hq (by omega)
                have hfit : o0 + len * info.size + info.size ≤ cur.size := by
                  have : (len + 1) * info.size ≤ (0 + cap) * info.size := Nat.mul_le_mul_right _ (by omega)
                  rw [Nat.add_mul] at this
                  omega
                have hrun := run_storeCells_at P b (o0 + len * info.size) tyb news 0 cur w y3 (by rw [hnl]; simpa using hfit) n3
                simp only [Nat.add_zero] at hrun
                have ead : (⟨b, o0 + 0 * info.size, none⟩ : Addr).add (len * info.size) = ⟨b, o0 + len * info.size, none⟩ := by rw [addr_add]; simp
                have e1 : ∀ k, (cur.toList.take (o0 + len * info.size) ++ news ++ cur.toList.drop (o0 + len * info.size + news.length)).toArray[k]? = if k < o0 + len * info.size then cur[k]? else if k < o0 + len * info.size + news.length then news[k - (o0 + len * info.size)]? else cur[k]? := fun k => by
                  rw [List.getElem?_toArray, get_seg _ _ _ _ (by rw [hnl]; simpa using hfit)]
                  simp
                have hsz' : (cur.toList.take (o0 + len * info.size) ++ news ++ cur.toList.drop (o0 + len * info.size + news.length)).toArray.size = cur.size := by simp; omega
                have st := step_appN (w' := w.setRow b (cur.toList.take (o0 + len * info.size) ++ news ++ cur.toList.drop (o0 + len * info.size + news.length)).toArray) (bn := b) (on := o0) wf hid hid2 hne rfl rfl rfl (by simp) (.inl ⟨o0, y1⟩)
                  (fun b1 _ h => setRow_other w b b1 _ h) (fun _ _ h => row_setRow y3 hsz' h) (setRow_heap w b cur _ tyb _ y3) (fun i j e' c hi hj => by
                    have hjl : j < info.size := by
                      have : e'.length = info.size := by
                        rcases List.mem_append.1 (List.mem_of_getElem? hi) with h | h
                        · exact hszs e' h
                        · obtain rfl := List.mem_singleton.1 h; exact hel
                      rw [← this]; exact (List.getElem?_eq_some_iff.1 hj).1
                    by_cases hlt : i < es.length
                    · rw [List.getElem?_append_left hlt] at hi
                      obtain ⟨b', o', cur', ty', q1, q2, q3, _⟩ := vec_cells (k := es.length) wf hid (Nat.le_refl _) (by omega)
                      rw [y1] at q1
                      obtain ⟨rfl, rfl⟩ := Prod.mk.inj (Option.some.inj q1)
                      rw [y3] at q2
                      obtain ⟨rfl, rfl⟩ : cur = cur' ∧ tyb = ty' := by simpa using q2
                      obtain ⟨u, k1, k2⟩ := q3 i j e' c hi hj
                      refine ⟨u, ?_, by rw [if_pos hlt]; exact k2⟩
                      have : (i + 1) * info.size ≤ len * info.size := Nat.mul_le_mul_right _ (by omega)
                      rw [Nat.add_mul] at this
                      rw [e1, if_pos (by omega)]
                      exact k1
                    · rw [List.getElem?_append_right (by omega)] at hi
                      have hi0 : i - es.length = 0 := by
                        have := (List.getElem?_eq_some_iff.1 hi).1
                        simp at this
                        omega
                      rw [hi0] at hi
                      obtain rfl : el = e' := by simpa using hi
                      obtain ⟨u, k1, k2⟩ := hnew j c hj
                      refine ⟨u, ?_, by rw [if_neg hlt]; exact k2⟩
                      have : i = len := by omega
                      subst this
                      rw [e1, if_neg (by omega), if_pos (by omega), ← k1]
                      congr 1
                      omega)
                refine ⟨_, F, _, _, run_app_room (ty := ty) ht hi hu hd (hlen w) (n4 P w rfl) hc (w' := w.setRow b _) (by simp only [ead]; exact hrun), st, ?_⟩
                refine .vec (upd_same ..) (by omega) (by omega) ha fun m hm => ⟨by have := Option.some.inj hm; simp at this; omega, fun _ => ⟨false, _, rfl, fun _ => ⟨b, o0, by simp [sgApp], rfl, _, tyb, setRow_heap w b cur _ tyb _ y3, by omega⟩⟩⟩
              · have holds : ∃ olds : List Value, olds.length = len * info.size ∧ (∀ (P : Program) (w' : World), w'.heap = w.heap → (Builtin.firstCells info.size len (.slice base len cap)).run P w' = .ok olds.toArray w') ∧
                    ∀ (i j : Nat) (e' : List C) (c : C), es[i]? = some e' → e'[j]? = some c → ∃ u, olds[i * info.size + j]? = some u ∧ RepC w F (σ id (some (i, j))) c u := by
                  by_cases hl0 : len = 0
                  · subst hl0
                    obtain rfl : es = [] := List.length_eq_zero_iff.1 hn
                    exact ⟨[], by simp, fun P w' _ => first_zero .., fun i j e' c hi => by simp at hi⟩
                  · obtain ⟨b', o', cur', ty', q1, q2, q3, q4⟩ := vec_cells (k := len) wf hid (by omega) (by omega)
                    obtain ⟨b, o0, y1, rfl, cur, tyb, y3, y4⟩ := hq (by omega)
                    rw [y1] at q1
                    obtain ⟨rfl, rfl⟩ := Prod.mk.inj (Option.some.inj q1)
                    obtain ⟨olds, p1, p2, p3, p4⟩ := cells_of (len := len) (cap := cap) q4
                    refine ⟨olds, p1, fun P w' hw => by simpa using p4 P w' hw, fun i j e' c hi hj => ?_⟩
                    obtain ⟨u, k1, k2⟩ := q3 i j e' c hi hj
                    have hjl : j < info.size := by rw [← hszs e' (List.mem_of_getElem? hi)]; exact (List.getElem?_eq_some_iff.1 hj).1
                    have hil := (List.getElem?_eq_some_iff.1 hi).1
                    have : (i + 1) * info.size ≤ len * info.size := Nat.mul_le_mul_right _ (by omega)
                    rw [Nat.add_mul] at this
                    refine ⟨u, ?_, k2⟩
                    rw [p2 _ (by omega)]
                    rw [show o0 + (i * info.size + j) = o0 + i * info.size + j by omega]
                    simp [World.cell?, q2, k1]
                obtain ⟨olds, p1, p2, p3⟩ := holds
                have hr := run_app_grow (ty := ty) ht hi hz0 hu hd (hlen w) (n4 P w.drew rfl) (p2 P w.drew rfl) hc hroom hby
                have hge := grownCap_ge w (len + 1) cap e
                have cellAt : ∀ k, k < olds.length + news.length → (olds.toArray ++ (news.toArray ++ Builtin.zeroCells zv.cells (grownCap w (len + 1) cap e - (len + 1))))[k]? = if k < olds.length then olds[k]? else news[k - olds.length]? := fun k hk => by
                  rw [Array.getElem?_append]
                  by_cases h : k < olds.length
                  · simp [h]
                  · rw [if_neg (by simpa using h), if_neg h, Array.getElem?_append, if_pos (by simp; omega)]
                    simp
                have hblock : ∀ b, b < w.heap.size → (w.drew.alloc (.cells (olds.toArray ++ (news.toArray ++ Builtin.zeroCells zv.cells (grownCap w (len + 1) cap e - (len + 1)))) e)).heap[b]? = w.heap[b]? := fun b hb => by
                  rw [Go.RowKit.Below.heap_alloc w.drew _ b hb]; rfl
                have st := step_appN (w' := w.drew.alloc (.cells (olds.toArray ++ (news.toArray ++ Builtin.zeroCells zv.cells (grownCap w (len + 1) cap e - (len + 1)))) e)) (bn := w.heap.size) (on := 0) wf hid hid2 hne rfl rfl rfl (by simp) (.inr (Nat.le_refl _))
                  (fun b1 hb _ => hblock b1 hb) (fun b k ⟨c, e, h1, h2⟩ => ⟨c, e, by rw [hblock b (Array.getElem?_eq_some_iff.1 h1).1]; exact h1, h2⟩) (heap_alloc_new w.drew _) (fun i j e' c hi hj => by
                    have hjl : j < info.size := by
                      have : e'.length = info.size := by
                        rcases List.mem_append.1 (List.mem_of_getElem? hi) with h | h
                        · exact hszs e' h
                        · obtain rfl := List.mem_singleton.1 h; exact hel
                      rw [← this]; exact (List.getElem?_eq_some_iff.1 hj).1
                    by_cases hlt : i < es.length
                    · rw [List.getElem?_append_left hlt] at hi
                      obtain ⟨u, k1, k2⟩ := p3 i j e' c hi hj
                      refine ⟨u, ?_, by rw [if_pos hlt]; exact k2⟩
                      have : (i + 1) * info.size ≤ len * info.size := Nat.mul_le_mul_right _ (by omega)
                      rw [Nat.add_mul] at this
                      rw [Nat.zero_add, cellAt _ (by omega), if_pos (by omega)]
                      exact k1
                    · rw [List.getElem?_append_right (by omega)] at hi
                      have hi0 : i - es.length = 0 := by
                        have := (List.getElem?_eq_some_iff.1 hi).1
                        simp at this
                        omega
                      rw [hi0] at hi
                      obtain rfl : el = e' := by simpa using hi
                      obtain ⟨u, k1, k2⟩ := hnew j c hj
                      refine ⟨u, ?_, by rw [if_neg hlt]; exact k2⟩
                      have : i = len := by omega
                      subst this
                      rw [Nat.zero_add, cellAt _ (by omega), if_neg (by omega), ← k1]
                      congr 1
                      omega)
                refine ⟨_, F, _, _, hr, st, .vec (upd_same ..) (by omega) (by omega) (fun _ => rfl) fun m hm => ⟨by have := Option.some.inj hm; simp at this; omega, fun _ => ⟨false, _, rfl, fun _ => ⟨w.heap.size, 0, by simp [sgApp], by simp, _, e, heap_alloc_new w.drew _, ?_⟩⟩⟩⟩
                simp only [Array.size_append, List.size_toArray, size_zeroCells, hzs, p1, hnl]
                have : (0 + grownCap w (len + 1) cap e) * info.size = len * info.size + (1 * info.size + (grownCap w (len + 1) cap e - (len + 1)) * info.size) := by
                  rw [← Nat.add_mul, ← Nat.add_mul]; congr 1; omega
                omega
        · cases h
      · cases h
    · cases h
  · cases h
theorem appX_sound {P : Program} (wf : Wf w F σ M) {t u e : TypeId} {info : TypeInfo} {d : TypeDesc} {ty : TypeId} {z : List T} {nb sz : Nat} {s x r : V} {sv xv : Value} {M' : Mem}
    (ht : P.underlying t = some (.slice e)) (hi : P.info? e = some info) (hz : zeroT P e = some z) (hzl : z.length = sz) (hu : P.underlying u = some d) (hd : ∀ k, d ≠ .int k) (hs : info.size = sz)
    (h : appX nb M sz info.bytes s x = some (r, M')) (hsv : RepV w F σ M s sv) (hxv : RepV w F σ M x xv) :
    ∃ w' F' σ' c, (Builtin.append_ #[t, u] ty #[sv, xv]).run P w = .ok c w' ∧ Step w F σ M w' F' σ' M' ∧ RepV w' F' σ' M' r c := by
  unfold appX at h
  split at h
  · rename_i id n sz' off len id2 n2 sz2 off2 len2
    cases hb : rowsO (M id2) with
    | false =>
      rw [hb] at h
      simp only [cond_false] at h
      exact app_sound wf ht hi hz hzl hu hd hs h hsv hxv
    | true =>
      rw [hb] at h
      simp only [cond_true] at h
      split at h
      · rename_i hc
        obtain ⟨rfl, rfl, rfl, rfl, rfl, rfl⟩ := hc
        obtain ⟨info', zv, i1, i2, i3, _⟩ := zero_sound hz
        rw [hi] at i1
        obtain rfl := Option.some.inj i1
        exact appN_sound wf ht hi i2 hu hd hs (by omega) h hsv hxv
      · cases h
  · exact app_sound wf ht hi hz hzl hu hd hs h hsv hxv
end
end Go.Ev

namespace Go.Ev
set_option linter.unusedVariables false
set_option linter.unusedSimpArgs false
section
variable {w : World} {F : Nat → Prop} {σ : Sg} {M : Mem}
theorem mapM_total {α β : Type} {f : α → Option β} : ∀ {l : List α}, (∀ a ∈ l, (f a).isSome = true) → ∃ r, l.mapM f = some r
  | [], _ => ⟨[], rfl⟩
  | a :: l, h => by
    obtain ⟨b, hb⟩ := Option.isSome_iff_exists.1 (h a (by simp))
    obtain ⟨r, hr⟩ := mapM_total (l := l) fun x hx => h x (by simp [hx])
    exact ⟨b :: r, by rw [List.mapM_cons, hb, hr]; rfl⟩
theorem mapM_get {α β : Type} {f : α → Option β} : ∀ {l : List α} {r : List β}, l.mapM f = some r → ∀ (i : Nat) (a : α) (b : β), l[i]? = some a → f a = some b → r[i]? = some b
  | [], r, h, i, a, b, hi, _ => by simp at hi
  | x :: l, r, h, i, a, b, hi, hf => by
    rw [List.mapM_cons] at h
    obtain ⟨y, hy, h⟩ := Option.bind_eq_some_iff.1 h
    obtain ⟨r', hr, h⟩ := Option.bind_eq_some_iff.1 h
    obtain rfl := Option.some.inj h
    cases i with
    | zero =>
      obtain rfl : x = a := by simpa using hi
      rw [hf] at hy
      simpa using hy.symm
    | succ i => simpa using mapM_get hr i a b (by simpa using hi) hf
theorem build_sound {P : Program} {t : TypeId} {z : List T} {ps : List (Nat × V)} {ps' : Array (Nat × Value)} {vs : List V} (hok : structOk P t = true) (hz : zeroT P t = some z)
    (h : fillV (fun i => (fieldT P t i).map fun f => (f.1, f.2.1)) (z.map V.t) ps = some vs) (hlen : ps.length = ps'.size) (hp : ∀ (j : Nat) (p : Nat × V), ps[j]? = some p → ∃ u, ps'[j]? = some (p.1, u) ∧ RepV w F σ M p.2 u) :
    ∃ c, (Instr.build t ps').run P w = .ok c w ∧ RepV w F σ M (.agg vs) c := by
  obtain ⟨info, zv, i1, i2, i3, i4⟩ := zero_sound hz
  unfold structOk at hok
  split at hok
  · rename_i fs hu
    obtain ⟨places, hpl⟩ := mapM_total (l := fs.toList) (f := fun f => (P.info? f.type).map fun i => (f.offset, i.size)) fun f hf => by
      rw [List.all_eq_true] at hok
      simpa using hok f hf
    obtain ⟨cs', f1, f2, f3⟩ := fill_sound (w := w) (F := F) (σ := σ) (M := M) _ (places.toArray[·]?) (fun i x hx => by
      obtain ⟨fi, hfi, rfl⟩ := Option.map_eq_some_iff.1 hx
      unfold fieldT at hfi
      rw [hu] at hfi
      obtain ⟨fd, hfd, hfi⟩ := Option.bind_eq_some_iff.1 hfi
      obtain ⟨n, hn, hfi⟩ := Option.bind_eq_some_iff.1 hfi
      obtain ⟨ag, hag, rfl⟩ := Option.map_eq_some_iff.1 hfi
      rw [List.getElem?_toArray]
      refine mapM_get hpl i fd _ (by simpa using hfd) ?_
      unfold szT at hn
      obtain ⟨inf, hinf, rfl⟩ := Option.map_eq_some_iff.1 hn
      rw [hinf]; rfl) ps ps'.toList (z.map V.t) vs zv.cells h ⟨by simpa using i3, fun i x hi => by
      rw [List.getElem?_map, Option.map_eq_some_iff] at hi
      obtain ⟨y, hy, rfl⟩ := hi
      obtain ⟨u, k1, k2⟩ := i4 i y hy
      rw [getD_of_get k1]
      exact .t (k2 w F)⟩ (by simpa using hlen) (fun j p hj => by
      obtain ⟨u, k1, k2⟩ := hp j p hj
      exact ⟨u, by simpa using k1, k2⟩)
    refine ⟨_, run_build w t ps' cs' ?_, .agg f2.1 f2.2⟩
    unfold Program.built
    simp only [i1, hu, i2, hpl]
    exact f1
  · cases hok
theorem nilChk_form {v v' : V} {c : Value} (h : nilChk v = some v') (hv : RepV w F σ M v c) : v' = v ∧ ((∃ a, c = .pointer (some a)) ∨ ∃ f caps, c = .func (.func f) #[] caps) := by
  unfold nilChk at h
  split at h
  · obtain rfl := Option.some.inj h
    cases hv with | t hv => cases hv; exact ⟨rfl, .inl ⟨_, rfl⟩⟩
  · obtain rfl := Option.some.inj h
    cases hv; exact ⟨rfl, .inl ⟨_, rfl⟩⟩
  · obtain rfl := Option.some.inj h
    cases hv; exact ⟨rfl, .inl ⟨_, rfl⟩⟩
  · obtain rfl := Option.some.inj h
    cases hv with | t hv => cases hv; exact ⟨rfl, .inr ⟨_, _, rfl⟩⟩
  · obtain rfl := Option.some.inj h
    cases hv; exact ⟨rfl, .inr ⟨_, _, rfl⟩⟩
  · cases h
theorem minmax_sound {P : Program} {mx : Bool} (z : Sem Value) : ∀ (vs : List V) (cs : List Value) {r : V}, minmax mx vs = some r → vs.length = cs.length → (∀ (i : Nat) (v : V), vs[i]? = some v → RepV w F σ M v (cs.getD i Go.undef)) →
    ∃ c, (match cs with | [] => z | x :: rest => rest.foldlM (if mx then Builtin.max2 else Builtin.min2) x : Sem Value).run P w = .ok c w ∧ RepV w F σ M r c := by
  have go : ∀ (vs : List V) (cs : List Value) (v : V) (c : Value) {r : V}, vs.foldlM (fun x y => match x, y with
      | .t (.int k a), .t (.int k' b) => if k = k' then some (V.t (.int k (bif mx then (if b > a then b else a) else (if b < a then b else a)))) else none
      | _, _ => none) v = some r → vs.length = cs.length → (∀ (i : Nat) (v : V), vs[i]? = some v → RepV w F σ M v (cs.getD i Go.undef)) → RepV w F σ M v c →
      ∃ u, (cs.foldlM (if mx then Builtin.max2 else Builtin.min2) c : Sem Value).run P w = .ok u w ∧ RepV w F σ M r u := fun vs => by
    induction vs with
    | nil =>
      intro cs v c r h hl hv hc
      obtain rfl : cs = [] := by cases cs <;> simp_all
      obtain rfl : v = r := by simpa using h
      exact ⟨c, rfl, hc⟩
    | cons y vs ih =>
      intro cs v c r h hl hv hc
      cases cs with
      | nil => simp at hl
      | cons d cs =>
        rw [List.foldlM_cons] at h
        obtain ⟨m, hm, h⟩ := Option.bind_eq_some_iff.1 h
        have hd := hv 0 y rfl
        simp only [List.getD_cons_zero] at hd
        split at hm
        · rename_i k a k' b
          split at hm
          · rename_i hk
            subst hk
            obtain rfl := Option.some.inj hm
            obtain rfl := rep_int hc
            obtain rfl := rep_int hd
            obtain ⟨u, h1, h2⟩ := ih cs _ (.int k (bif mx then (if b > a then b else a) else (if b < a then b else a))) h (by simpa using hl) (fun i v hi => by simpa using hv (i + 1) v (by simpa using hi)) (.t (.int ..))
            refine ⟨u, ?_, h2⟩
            rw [List.foldlM_cons]
            cases mx <;> simpa [Builtin.max2, Builtin.min2] using h1
          · cases hm
        · cases hm
  intro vs cs r h hl hv
  cases vs with
  | nil => cases h
  | cons v vs =>
    cases cs with
    | nil => simp at hl
    | cons c cs => exact go vs cs v c h (by simpa using hl) (fun i v hi => by simpa using hv (i + 1) v (by simpa using hi)) (by simpa using hv 0 v rfl)
theorem clr_sound {P : Program} (wf : Wf w F σ M) {t e : TypeId} {ty : TypeId} {sz : Nat} {z : List T} {x : V} {M' : Mem} {c : Value} (hu : P.underlying t = some (.slice e)) (hs : szT P e = some sz) (hz : zeroT P e = some z)
    (h : clr M sz z x = some M') (hx : RepV w F σ M x c) : ∃ w', (Builtin.clear_ #[t] ty #[c]).run P w = .ok (.tuple #[]) w' ∧ Step w F σ M w' F σ M' := by
  obtain ⟨info, zv, i1, i2, i3, i4⟩ := zero_sound hz
  unfold szT at hs
  rw [i1] at hs
  obtain rfl : info.size = sz := by simpa using hs
  unfold clr at h
  split at h
  · rename_i id n sz' off len
    split at h
    · rename_i fl sz'' es hM
      split at h
      · rename_i hc
        obtain ⟨hn, rfl, rfl, hoff, rfl, hzl⟩ := hc
        obtain rfl := Option.some.inj h
        cases hx with
        | vec ho hln hcp ha hh =>
          rename_i a cap o
          rw [hM] at ho
          obtain rfl := Option.some.inj ho
          by_cases hl0 : len = 0
          · subst hl0
            have e1 : es.take off ++ List.replicate 0 (z.map C.t) ++ es.drop (off + 0) = es := by simp
            rw [e1, upd_eta hM]
            refine ⟨w, ?_, .refl wf⟩
            cases a <;> simp [Builtin.clear_, run_underlying hu]
          · obtain ⟨fl', es0, he, hw⟩ := (hh _ rfl).2 hn.symm
            obtain ⟨_, _, rfl⟩ := Ob.vec.inj he
            obtain ⟨b, o0, q1, rfl, cur, ty', q3, q4⟩ := hw (by omega)
            cases wf.obj id _ hM with
            | vec hpos hsz hfl hrr =>
              have rep : RepE w F info.size (List.replicate len (z.map C.t)) (Builtin.zeroCells zv.cells len).toList := by
                have hget : ∀ k, k < len * info.size → (Builtin.zeroCells zv.cells len).toList[k]? = zv.cells[k % info.size]? := fun k hk => by
                  have hm : k % zv.cells.size < zv.cells.size := Nat.mod_lt _ (by omega)
                  rw [Array.getElem?_toList]
                  simp only [Builtin.zeroCells, Array.getElem?_map]
                  rw [Array.getElem?_range, if_pos (by rw [← i3, hzl]; exact hk)]
                  simp only [Option.map_some]
                  have hz' : zv.cells.size = info.size := by omega
                  rw [getElem!_pos zv.cells (k % zv.cells.size) hm, ← Array.getElem?_eq_getElem hm, hz']
                refine ⟨by simp [size_zeroCells, ← i3, hzl], fun c hc => by simp at hc; rw [hc.2]; simp [hzl], fun c hc d hd => by
                  simp at hc; rw [hc.2] at hd; simp at hd; obtain ⟨y, _, rfl⟩ := hd; rfl, fun i j c y hi hj => ?_, fun u hu' => ?_⟩
                · obtain ⟨hil, hel⟩ := List.getElem?_eq_some_iff.1 hi
                  simp at hil
                  have hc' : c = z.map C.t := by rw [← hel]; simp
                  subst hc'
                  rw [List.getElem?_map, Option.map_eq_some_iff] at hj
                  obtain ⟨y', hy, he⟩ := hj
                  obtain rfl := C.t.inj he
                  obtain ⟨u, k1, k2⟩ := i4 j y' hy
                  have hjl : j < info.size := by rw [← hzl]; exact (List.getElem?_eq_some_iff.1 hy).1
                  have : (i + 1) * info.size ≤ len * info.size := Nat.mul_le_mul_right _ (by omega)
                  rw [Nat.add_mul] at this
                  refine ⟨u, ?_, k2 w F⟩
                  rw [hget _ (by omega), Nat.mul_comm, Nat.mul_add_mod, Nat.mod_eq_of_lt hjl]
                  exact k1
                · obtain ⟨k, hk⟩ := List.getElem?_of_mem hu'
                  have hkl : k < len * info.size := by
                    have := (List.getElem?_eq_some_iff.1 hk).1
                    simpa [size_zeroCells, ← i3, hzl] using this
                  rw [hget k hkl] at hk
                  have hkz : k % info.size < z.length := by rw [hzl]; exact Nat.mod_lt _ hpos
                  obtain ⟨u', k1, k2⟩ := i4 _ _ (List.getElem?_eq_getElem hkz)
                  rw [k1] at hk
                  obtain rfl := Option.some.inj hk
                  exact oneCell_T (k2 w F)
              have hfit : o0 + (off + (List.replicate len (z.map C.t)).length) * info.size ≤ cur.size := by
                have : (off + len) * info.size ≤ (off + cap) * info.size := Nat.mul_le_mul_right _ (by omega)
                simp
                omega
              obtain ⟨cur', c1, c2, st⟩ := app_store (P := P) (es' := es.take off ++ List.replicate len (z.map C.t) ++ es.drop (off + len)) wf hpos hM q1 q3 hfit rep (fun i c hi => by
                have e0 : (List.replicate len (z.map C.t)).length = len := by simp
                rw [show off + len = off + (List.replicate len (z.map C.t)).length by rw [e0], get_seg es _ off i (by omega)] at hi
                split at hi
                · rename_i h; exact .inl ⟨h, hi⟩
                · split at hi
                  · exact .inr (.inl ⟨by omega, hi⟩)
                  · exact .inr (.inr ⟨by omega, hi⟩)) (by simp; omega)
              refine ⟨_, ?_, st⟩
              obtain ⟨m, rfl⟩ : ∃ m, len = m + 1 := ⟨len - 1, by omega⟩
              simp [Builtin.clear_, run_underlying hu, zeroValue, typeInfo, i1, i2, c2]
      · cases h
    · cases h
  · cases h
theorem copy_run {P : Program} {t u e : TypeId} {ty : TypeId} {a : Option Addr} {len cap k : Nat} {xv : Value} {news : List Value} {w w' : World} {info : TypeInfo} (hu : P.underlying t = some (.slice e)) (hi : P.info? e = some info) {m : Nat}
    (hl : (Builtin.lenOf xv).run P w = .ok m w) (hk : Nat.min m len = k) (hf : (Builtin.firstCells info.size k xv).run P w = .ok news.toArray w)
    (hs : (match a with | some ad => (storeCells ad news 0).run P w | none => Result.ok () w) = Result.ok () w') : (Builtin.copy_ #[t, u] ty #[.slice a len cap, xv]).run P w = .ok (goInt k) w' := by
  cases a with
  | none => 
    obtain rfl : w = w' := by simpa using hs
    simp [Builtin.copy_, run_underlying hu, hl, hk, sizeOf, typeInfo, hi, hf]
  | some ad =>
    have hs : (storeCells ad news 0).run P w = Result.ok () w' := hs
    simp [Builtin.copy_, run_underlying hu, hl, hk, sizeOf, typeInfo, hi, hf, hs]
theorem cpy_sound {P : Program} (wf : Wf w F σ M) {t u e : TypeId} {ty : TypeId} {sz k : Nat} {d x : V} {M' : Mem} {dv xv : Value} (hu : P.underlying t = some (.slice e)) (hs : szT P e = some sz)
    (h : cpy M sz d x = some (k, M')) (hd : RepV w F σ M d dv) (hx : RepV w F σ M x xv) : ∃ w', (Builtin.copy_ #[t, u] ty #[dv, xv]).run P w = .ok (goInt k) w' ∧ Step w F σ M w' F σ M' := by
  unfold szT at hs
  obtain ⟨info, hi, rfl⟩ := Option.map_eq_some_iff.1 hs
  unfold cpy at h
  split at h
  · rename_i id n sz' off len
    obtain ⟨x', hx', h1⟩ := Option.bind_eq_some_iff.1 h
    obtain ⟨xs, hxs, h2⟩ := Option.bind_eq_some_iff.1 h1
    clear h h1
    split at h2
    · rename_i fl sz'' es hM
      split at h2
      · rename_i hc
        have h3 := Option.some.inj h2
        obtain ⟨h0, hn, hsz1, hsz2, hoff, hfl, hle⟩ := hc
        subst hsz1
        subst hsz2
        subst hfl
        obtain ⟨rfl, rfl⟩ := Prod.mk.inj h3
        clear h2 h3
        -- what is copied
        obtain ⟨news, m, rep, hl, hmin, hf⟩ : ∃ (news : List Value) (m : Nat), RepE w F info.size xs news ∧ (Builtin.lenOf xv).run P w = .ok m w ∧ Nat.min m len = xs.length ∧ (Builtin.firstCells info.size xs.length xv).run P w = .ok news.toArray w := by
          by_cases hsh : lenN x ≤ len
          · rw [decide_eq_true hsh] at hx'
            obtain rfl := Option.some.inj hx'
            obtain ⟨news, rep, hl, hf⟩ := src_sound wf h0 hxs hx
            exact ⟨news, xs.length, rep, hl P w, Nat.min_eq_left hle, hf P w rfl⟩
          · rw [decide_eq_false hsh] at hx'
            change truncV len x = some x' at hx'
            unfold truncV at hx'
            split at hx'
            · rename_i sz0 es0
              obtain rfl := Option.some.inj hx'
              have hlt : len < es0.length := by simp only [lenN] at hsh; omega
              cases hx with
              | t hx =>
                cases hx with
                | seq0 sz a cap => simp at hlt
                | seq h1 h2 h3 h4 h5 =>
                  rename_i b o cap vals
                  have hx2 : RepV w F σ M (.t (.seq sz0 (es0.take len))) (.slice (some ⟨b, o, none⟩) (es0.take len).length cap) := .t (.seq h1 (by simp; omega) (fun i e hi => h3 i e (by rw [List.getElem?_take] at hi; split at hi; exact hi; cases hi)) (fun i j e t hi hj => h4 i j e t (by rw [List.getElem?_take] at hi; split at hi; exact hi; cases hi) hj) (fun i j e t hi hj => h5 i j e t (by rw [List.getElem?_take] at hi; split at hi; exact hi; cases hi) hj))
                  obtain ⟨news, rep, hl, hf⟩ := src_sound wf h0 hxs hx2
                  have e1 : (es0.take len).length = xs.length := by
                    have := hl P w
                    simpa [Builtin.lenOf] using this
                  have e2 : (es0.take len).length = len := by simp; omega
                  exact ⟨news, es0.length, rep, by simp [Builtin.lenOf], by rw [← e1, e2]; exact Nat.min_eq_right (by omega), hf P w rfl⟩
            · rename_i id2 n2 sz2 off2 len2
              obtain rfl := Option.some.inj hx'
              have hlt : len < len2 := by simp only [lenN] at hsh; omega
              cases hx with
              | @vec _ _ _ _ _ av cap o2 ho2 hl2 hc2 ha2 hh2 =>
                have hx2 : RepV w F σ M (.vec id2 n2 sz2 off2 len) (.slice av len cap) := .vec ho2 (by omega) hc2 ha2 hh2
                obtain ⟨news, rep, hl, hf⟩ := src_sound wf h0 hxs hx2
                have e1 : len = xs.length := by
                  have := hl P w
                  simpa [Builtin.lenOf] using this
                exact ⟨news, len2, rep, by simp [Builtin.lenOf], by rw [← e1]; exact Nat.min_eq_right (by omega), by have := hf P w rfl; cases av <;> exact this⟩
            · cases hx'
        cases hd with
        | vec ho hln hcp ha hh =>
          rename_i a cap o
          rw [hM] at ho
          obtain rfl := Option.some.inj ho
          by_cases hl0 : xs.length = 0
          · obtain rfl : xs = [] := List.length_eq_zero_iff.1 hl0
            obtain rfl : news = [] := List.length_eq_zero_iff.1 (by have := rep.len; simpa using this)
            have e1 : es.take off ++ [] ++ es.drop (off + ([] : List (List C)).length) = es := by simp
            rw [e1, upd_eta hM]
            refine ⟨w, copy_run hu hi hl hmin hf ?_, .refl wf⟩
            cases a <;> simp [storeCells]
          · obtain ⟨fl', es0, he, hw⟩ := (hh _ rfl).2 hn.symm
            obtain ⟨_, _, rfl⟩ := Ob.vec.inj he
            obtain ⟨b, o0, q1, rfl, cur, ty', q3, q4⟩ := hw (by omega)
            have hfit : o0 + (off + xs.length) * info.size ≤ cur.size := by
              have : (off + xs.length) * info.size ≤ (off + cap) * info.size := Nat.mul_le_mul_right _ (by omega)
              omega
            obtain ⟨cur', c1, c2, st⟩ := app_store (P := P) (es' := es.take off ++ xs ++ es.drop (off + xs.length)) wf h0 hM q1 q3 hfit rep (fun i c hi => by
              rw [get_seg es xs off i (by omega)] at hi
              split at hi
              · rename_i h; exact .inl ⟨h, hi⟩
              · split at hi
                · exact .inr (.inl ⟨by omega, hi⟩)
                · exact .inr (.inr ⟨by omega, hi⟩)) (by simp; omega)
            exact ⟨_, copy_run hu hi hl hmin hf (by simpa using c2), st⟩
      · cases h2
    · cases h2
  · cases h
end
end Go.Ev

namespace Go.Ev
set_option linter.unusedVariables false
set_option linter.unusedSimpArgs false
section
theorem place_go {id : Nat} : ∀ (L : List Nat) (k j : Nat), place.go id L k = some j → k ≤ j ∧ L[j - k]? = some id
  | [], k, j, h => by cases h
  | x :: L, k, j, h => by
    simp only [place.go] at h
    split at h
    · rename_i e
      obtain rfl := Option.some.inj h
      exact ⟨Nat.le_refl _, by simp [e]⟩
    · obtain ⟨h1, h2⟩ := place_go L (k + 1) j h
      refine ⟨by omega, ?_⟩
      rw [show j - k = (j - (k + 1)) + 1 by omega]
      simpa using h2
theorem place_some {L : List Nat} {id j : Nat} (h : place L id = some j) : L[j]? = some id := by
  have := place_go L 0 j h
  simpa using this.2
theorem place_go_mem {id : Nat} : ∀ (L : List Nat) (k : Nat), id ∈ L → ∃ j, place.go id L k = some j
  | [], k, h => by simp at h
  | x :: L, k, h => by
    simp only [place.go]
    split
    · exact ⟨_, rfl⟩
    · rename_i e
      exact place_go_mem L (k + 1) ((List.mem_cons.1 h).resolve_left e)
theorem place_of {L : List Nat} (hn : L.Nodup) {id j : Nat} (h : L[j]? = some id) : place L id = some j := by
  obtain ⟨k, hk⟩ := place_go_mem L 0 (List.mem_of_getElem? h)
  have h2 := place_some (L := L) hk
  obtain ⟨a1, a2⟩ := List.getElem?_eq_some_iff.1 h
  obtain ⟨b1, b2⟩ := List.getElem?_eq_some_iff.1 h2
  have : k = j := (List.getElem_inj hn).1 (b2.trans a2.symm)
  subst this
  exact hk

theorem RepT.flat {w w' : World} {F F' : Nat → Prop} {x : T} {c : Value} (hf : x.flat = true) (h : RepT w F x c) : RepT w' F' x c := by
  cases h <;> first | (simp [T.flat] at hf; done) | (constructor; done) | exact .any _ ‹_›
def Moves (fl : Bool) (w : World) (F : Nat → Prop) (w' : World) (F' : Nat → Prop) : Prop := fl = false → (∀ b, F b → F' b) ∧ ∀ b, F b → w'.heap[b]? = w.heap[b]?
theorem RepT.moves {fl : Bool} {w w' : World} {F F' : Nat → Prop} (h : Moves fl w F w' F') {x : T} {c : Value} (hf : fl = true → x.flat = true) (hr : RepT w F x c) : RepT w' F' x c := by
  cases fl with
  | true => exact hr.flat (hf rfl)
  | false => exact hr.mono (h rfl).1 (h rfl).2
structure Ren (σ : Sg) (M : Mem) (r : Nat → Option Nat) (σ' : Sg) (M' : Mem) : Prop where
  obj : ∀ id j, r id = some j → ∀ o, M id = some o → ∃ o', M' j = some o' ∧ o'.cnt = o.cnt ∧ o'.sz = o.sz ∧ ∀ fl sz es, o = .vec fl sz es → o' = .vec fl sz es
  sg : ∀ id j, r id = some j → ∀ o, M id = some o → ∀ p, σ' j p = σ id p
theorem refsL_get {vs : List V} {r : Nat → Option Nat} {i : Nat} {v : V} (h : (V.renL r vs)[i]? = some v) : ∃ u, vs[i]? = some u ∧ v = u.ren r := by
  induction vs generalizing i with
  | nil => simp [V.renL] at h
  | cons x xs ih =>
    simp only [V.renL] at h
    cases i with
    | zero => exact ⟨x, rfl, by simpa using h.symm⟩
    | succ i => exact ih (by simpa using h)
theorem renL_length (r : Nat → Option Nat) (vs : List V) : (V.renL r vs).length = vs.length := by
  induction vs with
  | nil => rfl
  | cons x xs ih => simp [V.renL, ih]
theorem flatL_get {vs : List V} (h : V.flatL vs = true) {i : Nat} {v : V} (hi : vs[i]? = some v) : v.flat = true := by
  induction vs generalizing i with
  | nil => simp at hi
  | cons x xs ih =>
    simp only [V.flatL, Bool.and_eq_true] at h
    cases i with
    | zero => obtain rfl : x = v := by simpa using hi
              exact h.1
    | succ i => exact ih h.2 (by simpa using hi)
theorem RepV.ren {fl : Bool} {w w' : World} {F F' : Nat → Prop} {σ σ' : Sg} {M M' : Mem} {r : Nat → Option Nat} (hm : Moves fl w F w' F') (hrow : ∀ b k, Row w b k → Row w' b k) (rn : Ren σ M r σ' M') {v : V} {c : Value}
    (h : RepV w F σ M v c) (hf : fl = true → v.flat = true) : RepV w' F' σ' M' (v.ren r) c := by
  induction h with
  | undef c => exact .undef c
  | t h => exact .t (h.moves hm hf)
  | ptr ho h =>
    rename_i id n i off a o
    simp only [V.ren]
    split
    · rename_i j hj
      obtain ⟨o', h1, h2, h3, h4⟩ := rn.obj _ _ hj _ ho
      refine .ptr h1 fun m hm => ?_
      obtain ⟨k1, k2⟩ := h m (h2 ▸ hm)
      refine ⟨k1, fun e => ?_⟩
      obtain ⟨b, o0, q1, q2⟩ := k2 e
      exact ⟨b, o0, by rw [rn.sg _ _ hj _ ho]; exact q1, by rw [h3]; exact q2⟩
    · exact .undef _
  | vec ho hl hc ha h =>
    rename_i id n sz off len a cap o
    simp only [V.ren]
    split
    · rename_i j hj
      obtain ⟨o', h1, h2, h3, h4⟩ := rn.obj _ _ hj _ ho
      refine .vec h1 hl hc ha fun m hm => ?_
      obtain ⟨k1, k2⟩ := h m (h2 ▸ hm)
      refine ⟨k1, fun e => ?_⟩
      obtain ⟨fl, es, q1, q2⟩ := k2 e
      refine ⟨fl, es, h4 _ _ _ q1, fun hp => ?_⟩
      obtain ⟨b, o0, t1, t2, t3⟩ := q2 hp
      exact ⟨b, o0, by rw [rn.sg _ _ hj _ ho]; exact t1, t2, hrow _ _ t3⟩
    · exact .undef _
  | row ho ha h =>
    rename_i id n i j sz len a cap o
    simp only [V.ren]
    split
    · rename_i k hk
      obtain ⟨o', h1, h2, h3, h4⟩ := rn.obj _ _ hk _ ho
      refine .row h1 ha fun m hm => ?_
      obtain ⟨k1, k2⟩ := h m (h2 ▸ hm)
      refine ⟨k1, fun e => ?_⟩
      obtain ⟨fl, s0, es, e, x, v, q1, q2, q3, q4, q5, q6⟩ := k2 e
      refine ⟨fl, s0, es, e, x, v, h4 _ _ _ q1, q2, q3, q4, q5, fun hv => ?_⟩
      obtain ⟨r, p1, p2, p3, p4⟩ := q6 hv
      refine ⟨r, p1, p2, p3, fun hp => ?_⟩
      obtain ⟨b, o0, z1, z2, z3⟩ := p4 hp
      exact ⟨b, o0, by rw [rn.sg _ _ hk _ ho]; exact z1, z2, hrow _ _ z3⟩
    · exact .undef _
  | rptr ho h =>
    rename_i id n i j l e off a o
    simp only [V.ren]
    split
    · rename_i k hk
      obtain ⟨o', h1, h2, h3, h4⟩ := rn.obj _ _ hk _ ho
      refine .rptr h1 fun m hm => ?_
      obtain ⟨k1, k2⟩ := h m (h2 ▸ hm)
      refine ⟨k1, fun e => ?_⟩
      obtain ⟨fl, s0, es, el, x, v, q1, q2, q3, q4, q5, q6⟩ := k2 e
      refine ⟨fl, s0, es, el, x, v, h4 _ _ _ q1, q2, q3, q4, q5, fun hv => ?_⟩
      obtain ⟨sz, r, b, o0, p1, p2, p3, p4, p5⟩ := q6 hv
      exact ⟨sz, r, b, o0, p1, p2, p3, by rw [rn.sg _ _ hk _ ho]; exact p4, p5⟩
    · exact .undef _
  | agg hl h ih =>
    refine .agg (by rw [renL_length]; exact hl) fun i v hi => ?_
    obtain ⟨u, hu, rfl⟩ := refsL_get hi
    exact ih i u hu fun e => flatL_get (by have := hf e; simpa [V.flat] using this) hu
  | tup hl h ih =>
    refine .tup (by rw [renL_length]; exact hl) fun i v hi => ?_
    obtain ⟨u, hu, rfl⟩ := refsL_get hi
    exact ih i u hu fun e => flatL_get (by have := hf e; simpa [V.flat] using this) hu
  | clo hl h ih =>
    refine .clo (by rw [renL_length]; exact hl) fun i v hi => ?_
    obtain ⟨u, hu, rfl⟩ := refsL_get hi
    exact ih i u hu fun e => flatL_get (by have := hf e; simpa [V.flat] using this) hu
theorem RepO.ren {fl : Bool} {w w' : World} {F F' : Nat → Prop} {σ σ' : Sg} {M M' : Mem} {r : Nat → Option Nat} (hm : Moves fl w F w' F') (hrow : ∀ b k, Row w b k → Row w' b k) (rn : Ren σ M r σ' M') {id j : Nat} {o : Ob}
    (hs : ∀ p, σ' j p = σ id p) (hb : ∀ p b o0, Live M id p → σ id p = some (b, o0) → w'.heap[b]? = w.heap[b]?) (hid : M id = some o) (h : RepO w F σ M id o) (hf : fl = true → o.flat = true) : RepO w' F' σ' M' j (o.ren r) := by
  cases h with
  | dead => exact .dead
  | @box cs b o0 cur ty h1 h2 h3 =>
    refine .box (by rw [hs]; exact h1) (by rw [hb none _ _ ⟨_, hid, by simp⟩ h1]; exact h2) fun i v hi => ?_
    obtain ⟨u, hu, rfl⟩ := refsL_get hi
    obtain ⟨x, k1, k2⟩ := h3 i u hu
    exact ⟨x, k1, k2.ren hm hrow rn fun e => flatL_get (by have := hf e; simpa [Ob.flat] using this) hu⟩
  | vec h0 hsz hfl h =>
    refine .vec h0 hsz hfl fun hne => ?_
    obtain ⟨b, o0, cur, ty, h1, h2, h3⟩ := h hne
    refine ⟨b, o0, cur, ty, by rw [hs]; exact h1, by rw [hb none _ _ ⟨_, hid, by simp⟩ h1]; exact h2, fun i k e c hi hk => ?_⟩
    obtain ⟨u, k1, k2⟩ := h3 i k e c hi hk
    refine ⟨u, k1, ?_⟩
    rw [hs]
    have hcf : fl = true → c.flat = true := fun e' => by
      have := hf e'
      simp only [Ob.flat, List.all_eq_true] at this
      exact this e (List.mem_of_getElem? hi) c (List.mem_of_getElem? hk)
    cases k2 with
    | t k2 => exact .t (k2.moves hm hcf)
    | row hcap h0' hsz' hr =>
      refine .row hcap h0' hsz' fun hne' => ?_
      obtain ⟨b2, o2, q1, q2, ⟨cur2, ty2, q3, q4⟩, q5⟩ := hr hne'
      refine ⟨b2, o2, q1, q2, ⟨cur2, ty2, by rw [hb (some (i, k)) _ _ ⟨_, _, _, _, _, _, hid, hi, hk⟩ q1]; exact q3, fun a b' e2 t ha hb' => ?_⟩, hrow _ _ q5⟩
      obtain ⟨u2, t1, t2⟩ := q4 a b' e2 t ha hb'
      refine ⟨u2, t1, t2.moves hm fun e' => ?_⟩
      have := hcf e'
      simp only [C.flat, List.all_eq_true] at this
      exact this e2 (List.mem_of_getElem? ha) t (List.mem_of_getElem? hb')
    | gone k u h => exact .gone k u h
theorem Ob.ren_cnt (r : Nat → Option Nat) (o : Ob) : (o.ren r).cnt = o.cnt := by cases o <;> rfl
theorem Ob.ren_sz (r : Nat → Option Nat) (o : Ob) : (o.ren r).sz = o.sz := by cases o <;> simp [Ob.ren, Ob.sz, renL_length]
theorem Ob.ren_vec {r : Nat → Option Nat} {o : Ob} {fl : Bool} {sz : Nat} {es : List (List C)} : o.ren r = .vec fl sz es ↔ o = .vec fl sz es := by cases o <;> simp [Ob.ren]

variable {w : World} {F : Nat → Prop} {σ : Sg} {M : Mem}
def locM (L : List Nat) (M : Mem) : List Ob := L.map fun id => orenD (place L) (M id)
def locS (L : List Nat) (σ : Sg) : Sg := fun j p => match L[j]? with | some id => σ id p | none => none
theorem locM_get {L : List Nat} {j : Nat} {o : Ob} (h : ofL (locM L M) j = some o) : ∃ id, L[j]? = some id ∧ o = orenD (place L) (M id) := by
  unfold ofL locM at h
  rw [List.getElem?_map, Option.map_eq_some_iff] at h
  obtain ⟨id, h1, h2⟩ := h
  exact ⟨id, h1, h2.symm⟩
theorem locM_at {L : List Nat} {j id : Nat} (h : L[j]? = some id) : ofL (locM L M) j = some (orenD (place L) (M id)) := by
  unfold ofL locM
  rw [List.getElem?_map, h]; rfl
theorem locS_at {L : List Nat} {j id : Nat} (h : L[j]? = some id) (p : Option (Nat × Nat)) : locS L σ j p = σ id p := by unfold locS; rw [h]
theorem live_loc {L : List Nat} {j : Nat} {p : Option (Nat × Nat)} (h : Live (ofL (locM L M)) j p) : ∃ id, L[j]? = some id ∧ Live M id p := by
  cases p with
  | none =>
    obtain ⟨o, h1, h2⟩ := h
    obtain ⟨id, h3, rfl⟩ := locM_get h1
    refine ⟨id, h3, ?_⟩
    cases hm : M id with
    | none => rw [hm] at h2; exact absurd rfl h2
    | some o => rw [hm] at h2; exact ⟨o, hm, fun e => by subst e; exact h2 rfl⟩
  | some q =>
    obtain ⟨i, k⟩ := q
    obtain ⟨fl, sz, es, e, s, r, h1, h2, h3⟩ := h
    obtain ⟨id, h4, h5⟩ := locM_get h1
    refine ⟨id, h4, ?_⟩
    cases hm : M id with
    | none => rw [hm] at h5; cases h5
    | some o => rw [hm] at h5; exact ⟨fl, sz, es, e, s, r, by rw [hm, Ob.ren_vec.1 h5.symm], h2, h3⟩
theorem loc_ren (L : List Nat) : Ren σ M (place L) (locS L σ) (ofL (locM L M)) := by
  refine ⟨fun id j h o ho => ?_, fun id j h _ _ p => locS_at (place_some h) p⟩
  refine ⟨_, locM_at (place_some h), ?_⟩
  rw [ho]
  exact ⟨Ob.ren_cnt _ _, Ob.ren_sz _ _, fun fl sz es e => Ob.ren_vec.2 e⟩
theorem own_loc {L : List Nat} {b : Nat} (h : Own (locS L σ) (ofL (locM L M)) b) : ∃ id p o, id ∈ L ∧ Live M id p ∧ σ id p = some (b, o) := by
  obtain ⟨j, p, o, h1, h2⟩ := h
  obtain ⟨id, h3, h4⟩ := live_loc h1
  rw [locS_at h3] at h2
  exact ⟨id, p, o, List.mem_of_getElem? h3, h4, h2⟩
theorem loc_wf (wf : Wf w F σ M) {L : List Nat} (hn : L.Nodup) : Wf w F (locS L σ) (ofL (locM L M)) := by
  refine ⟨fun j o h => ?_, fun j1 p1 j2 p2 b a1 a2 h1 h2 k1 k2 => ?_, fun j p b o h k => ?_, wf.lt⟩
  · obtain ⟨id, h1, rfl⟩ := locM_get h
    cases hm : M id with
    | none => exact .dead
    | some o => exact (wf.obj id o hm).ren (fl := false) (fun _ => ⟨fun _ h => h, fun _ _ => rfl⟩) (fun _ _ h => h) (loc_ren L) (fun p => locS_at h1 p) (fun _ _ _ _ _ => rfl) hm (fun e => by cases e)
  · obtain ⟨id1, l1, v1⟩ := live_loc h1
    obtain ⟨id2, l2, v2⟩ := live_loc h2
    rw [locS_at l1] at k1
    rw [locS_at l2] at k2
    obtain ⟨rfl, rfl⟩ := wf.inj _ _ _ _ _ _ _ v1 v2 k1 k2
    refine ⟨?_, rfl⟩
    have e1 := place_of hn l1
    have e2 := place_of hn l2
    rw [e1] at e2
    exact Option.some.inj e2
  · obtain ⟨id, l1, v1⟩ := live_loc h
    rw [locS_at l1] at k
    exact wf.row _ _ _ _ v1 k
theorem loc_rep {L : List Nat} {v : V} {c : Value} (h : RepV w F σ M v c) : RepV w F (locS L σ) (ofL (locM L M)) (v.ren (place L)) c :=
  h.ren (fl := false) (fun _ => ⟨fun _ h => h, fun _ _ => rfl⟩) (fun _ _ h => h) (loc_ren L) (fun e => by cases e)
theorem norm_step {w0 : World} {F0 : Nat → Prop} {σ0 : Sg} {H0 : List Ob} (st : Step w0 F0 σ0 (ofL H0) w F σ M) {k0 : Nat} (hk : H0.length = k0) {L : List Nat} (hn : L.Nodup) (hp : ∃ r, L = List.range k0 ++ r) :
    Step w0 F0 σ0 (ofL H0) w F (locS L σ) (ofL (locM L M)) := by
  obtain ⟨r, hr⟩ := hp
  have at_ : ∀ j, j < k0 → L[j]? = some j := fun j hj => by rw [hr, List.getElem?_append_left (by simpa using hj)]; simp [hj]
  refine ⟨⟨st.le.fF, st.le.same, fun id o ho => ?_, st.le.row⟩, loc_wf st.wf hn, ⟨st.fr.os, st.fr.tape, st.fr.output, st.fr.size, st.fr.block, st.fr.fF, fun b hb => ?_⟩⟩
  · have hid : id < k0 := by rw [← hk]; exact (List.getElem?_eq_some_iff.1 ho).1
    obtain ⟨o', h1, h2⟩ := st.le.obj id o ho
    refine ⟨_, locM_at (at_ id hid), ?_⟩
    rw [h1]
    refine ⟨fun m' hm => ?_⟩
    simp only [orenD, Ob.ren_cnt] at hm
    obtain ⟨m, e1, e2, e3⟩ := h2.cnt m' hm
    refine ⟨m, e1, e2, fun e => ?_⟩
    obtain ⟨a1, a2, a3⟩ := e3 e
    refine ⟨by simp only [orenD, Ob.ren_sz]; exact a1, fun x hx => by rw [locS_at (at_ id hid)]; exact a2 x hx, fun fl sz es he => ?_⟩
    obtain ⟨fl', es', q1, q2⟩ := a3 fl sz es he
    refine ⟨fl', es', Ob.ren_vec.2 q1, fun i j e s r hi hj hv => ?_⟩
    obtain ⟨e', r', v', t1, t2, t3, t4, t5⟩ := q2 i j e s r hi hj hv
    exact ⟨e', r', v', t1, t2, t3, t4, fun hv => ⟨(t5 hv).1, fun x hx => by rw [locS_at (at_ id hid)]; exact (t5 hv).2 x hx⟩⟩
  · obtain ⟨id, p, o, _, h2, h3⟩ := own_loc hb
    exact st.fr.own b ⟨id, p, o, h2, h3⟩
end
end Go.Ev

namespace Go.Ev
set_option linter.unusedVariables false
set_option linter.unusedSimpArgs false
def CallOk (P : Program) (E : Q → Option Out) : Prop :=
  ∀ (f : FuncId) (args : List V) (H : List Ob) (v : V) (H' : List Ob), E (.call f args H) = some (.val v H') → callable P f = true ∧
    ∀ (w : World) (F : Nat → Prop) (σ : Sg) (cs : Array Value), Wf w F σ (ofL H) → RepL w F σ (ofL H) args cs →
      Calls P f cs w fun e w' => ∃ c F' σ', e = .returned c ∧ Step w F σ (ofL H) w' F' σ' (ofL H') ∧ RepV w' F' σ' (ofL H') v c
section
variable {w : World} {F : Nat → Prop} {σ : Sg} {M : Mem}
theorem prepM_sound : ∀ (ms : List Mode) (vs : List V) {F : Nat → Prop} {M M' : Mem} {r : List V} (cs : Nat → Value) (b : Nat), Wf w F σ M → prepM ms vs M = some (r, M') → (∀ (i : Nat) (v : V), vs[i]? = some v → RepV w F σ M v (cs (b + i))) →
    ∃ F', Step w F σ M w F' σ M' ∧ r.length = vs.length ∧ ∀ (i : Nat) (v : V), r[i]? = some v → RepV w F' σ M' v (cs (b + i))
  | ms, [], F, M, M', r, cs, b, wf, h, hv => by
    have : prepM ms [] M = some ([], M) := by cases ms with | nil => rfl | cons m ms => cases m <;> rfl
    rw [this] at h
    obtain ⟨rfl, rfl⟩ := Prod.mk.inj (Option.some.inj h)
    exact ⟨F, .refl wf, rfl, fun i v hi => by simp at hi⟩
  | ms, v :: vs, F, M, M', r, cs, b, wf, h, hv => by
    have plain : ∀ ms', ((prepM ms' vs M).map fun (r, M') => (v :: r, M')) = some (r, M') → ∃ F', Step w F σ M w F' σ M' ∧ r.length = (v :: vs).length ∧ ∀ (i : Nat) (v : V), r[i]? = some v → RepV w F' σ M' v (cs (b + i)) := fun ms' h => by
      obtain ⟨⟨r', M1⟩, h1, he⟩ := Option.map_eq_some_iff.1 h
      obtain ⟨rfl, rfl⟩ := Prod.mk.inj he
      obtain ⟨F', st, hl, hr⟩ := prepM_sound ms' vs cs (b + 1) wf h1 (fun i x hi => by
        have := hv (i + 1) x (by simpa using hi)
        rwa [show b + (i + 1) = b + 1 + i by omega] at this)
      refine ⟨F', st, by simp [hl], fun i x hi => ?_⟩
      cases i with
      | zero => obtain rfl : v = x := by simpa using hi
                exact (hv 0 v rfl).mono st.le
      | succ i => rw [show b + (i + 1) = b + 1 + i by omega]; exact hr i x (by simpa using hi)
    cases ms with
    | nil => exact plain [] h
    | cons m ms =>
      cases m with
      | pass => exact plain ms h
      | borrow => exact plain ms h
      | move =>
        simp only [prepM] at h
        obtain ⟨⟨v', M1⟩, h1, h⟩ := Option.bind_eq_some_iff.1 h
        obtain ⟨⟨r', M2⟩, h2, he⟩ := Option.map_eq_some_iff.1 h
        obtain ⟨rfl, rfl⟩ := Prod.mk.inj he
        obtain ⟨F1, st1, hr1⟩ := mvV_sound wf h1 (hv 0 v rfl)
        obtain ⟨F', st, hl, hr⟩ := prepM_sound ms vs cs (b + 1) st1.wf h2 (fun i x hi => by
          have := (hv (i + 1) x (by simpa using hi)).mono st1.le
          rwa [show b + (i + 1) = b + 1 + i by omega] at this)
        refine ⟨F', st1.trans st, by simp [hl], fun i x hi => ?_⟩
        cases i with
        | zero => obtain rfl : v' = x := by simpa using hi
                  exact hr1.mono st.le
        | succ i => rw [show b + (i + 1) = b + 1 + i by omega]; exact hr i x (by simpa using hi)
theorem prepB_sound (wf : Wf w F σ M) {B : List Nat} (hB : Closed M B) : ∀ (ms : List Mode) (vs : List V) {r : List V} {Br : List Nat} (cs : Nat → Value) (b : Nat), prepB M ms vs = some (r, Br) → (∀ x ∈ Br, x ∈ B) → (∀ (i : Nat) (v : V), vs[i]? = some v → RepV w F σ M v (cs (b + i))) →
    r.length = vs.length ∧ ∀ (i : Nat) (v : V), r[i]? = some v → RepV w (killF F σ M B) σ (killL B M) v (cs (b + i))
  | ms, [], r, Br, cs, b, h, hb, hv => by
    have : prepB M ms [] = some ([], []) := by cases ms with | nil => rfl | cons m ms => cases m <;> rfl
    rw [this] at h
    obtain ⟨rfl, rfl⟩ := Prod.mk.inj (Option.some.inj h)
    exact ⟨rfl, fun i v hi => by simp at hi⟩
  | ms, v :: vs, r, Br, cs, b, h, hb, hv => by
    have plain : ∀ ms', ((prepB M ms' vs).map fun (r, B) => (v :: r, B)) = some (r, Br) → r.length = (v :: vs).length ∧ ∀ (i : Nat) (v : V), r[i]? = some v → RepV w (killF F σ M B) σ (killL B M) v (cs (b + i)) := fun ms' h => by
      obtain ⟨⟨r', B1⟩, h1, he⟩ := Option.map_eq_some_iff.1 h
      obtain ⟨rfl, rfl⟩ := Prod.mk.inj he
      obtain ⟨hl, hr⟩ := prepB_sound wf hB ms' vs cs (b + 1) h1 hb (fun i x hi => by
        have := hv (i + 1) x (by simpa using hi)
        rwa [show b + (i + 1) = b + 1 + i by omega] at this)
      refine ⟨by simp [hl], fun i x hi => ?_⟩
      cases i with
      | zero => obtain rfl : v = x := by simpa using hi
                exact (hv 0 v rfl).mono (step_kill wf B).le
      | succ i => rw [show b + (i + 1) = b + 1 + i by omega]; exact hr i x (by simpa using hi)
    cases ms with
    | nil => exact plain [] h
    | cons m ms =>
      cases m with
      | pass => exact plain ms h
      | move => exact plain ms h
      | borrow =>
        simp only [prepB] at h
        obtain ⟨v', h1, h⟩ := Option.bind_eq_some_iff.1 h
        obtain ⟨⟨r', B1⟩, h2, he⟩ := Option.map_eq_some_iff.1 h
        obtain ⟨rfl, rfl⟩ := Prod.mk.inj he
        obtain ⟨hl, hr⟩ := prepB_sound wf hB ms vs cs (b + 1) h2 (fun x hx => hb x (List.mem_append_right _ hx)) (fun i x hi => by
          have := hv (i + 1) x (by simpa using hi)
          rwa [show b + (i + 1) = b + 1 + i by omega] at this)
        refine ⟨by simp [hl], fun i x hi => ?_⟩
        cases i with
        | zero => obtain rfl : v' = x := by simpa using hi
                  exact fzV_sound wf hB h1 (fun y hy => hb y (List.mem_append_left _ hy)) (hv 0 v rfl)
        | succ i => rw [show b + (i + 1) = b + 1 + i by omega]; exact hr i x (by simpa using hi)
theorem putL_spec {r : Nat → Option Nat} : ∀ (L : List Nat) (H : List Ob) {M M1 : Mem} {N : List Ob}, putL r M L H = some (M1, N) → ∃ H1, H = H1 ++ N ∧ H1.length = L.length ∧
    (L.Nodup → ∀ (j id : Nat), L[j]? = some id → ∃ o : Ob, H1[j]? = some o ∧ M1 id = some (o.ren r)) ∧ ∀ id, id ∉ L → M1 id = M id
  | [], H, M, M1, N, h => by
    obtain ⟨rfl, rfl⟩ := Prod.mk.inj (Option.some.inj h)
    exact ⟨[], rfl, rfl, fun _ j id hj => by simp at hj, fun _ _ => rfl⟩
  | x :: L, [], M, M1, N, h => by cases h
  | x :: L, o :: H, M, M1, N, h => by
    simp only [putL] at h
    obtain ⟨H1, e1, e2, e3, e4⟩ := putL_spec L H h
    refine ⟨o :: H1, by rw [e1]; rfl, by simp [e2], fun hn j id hj => ?_, fun id hid => ?_⟩
    · have hn' := List.nodup_cons.1 hn
      cases j with
      | zero =>
        obtain rfl : x = id := by simpa using hj
        exact ⟨o, rfl, by rw [e4 x hn'.1, upd_same]⟩
      | succ j => exact e3 hn'.2 j id (by simpa using hj)
    · have : id ≠ x ∧ id ∉ L := by simpa using hid
      rw [e4 id this.2, upd_ne _ _ this.1]
theorem putNew_spec {r : Nat → Option Nat} : ∀ (N : List Ob) (nb : Nat) {M M2 : Mem}, putNew r M nb N = some M2 → (∀ (k : Nat) (o : Ob), N[k]? = some o → M (nb + k) = none ∧ M2 (nb + k) = some (o.ren r)) ∧ ∀ id, (∀ k, k < N.length → id ≠ nb + k) → M2 id = M id
  | [], nb, M, M2, h => by
    obtain rfl := Option.some.inj h
    exact ⟨fun k o hk => by simp at hk, fun _ _ => rfl⟩
  | o :: N, nb, M, M2, h => by
    simp only [putNew] at h
    obtain ⟨M1, h1, h2⟩ := Option.bind_eq_some_iff.1 h
    unfold mk at h1
    split at h1
    · rename_i hn
      obtain rfl := Option.some.inj h1
      obtain ⟨e1, e2⟩ := putNew_spec N (nb + 1) h2
      refine ⟨fun k o' hk => ?_, fun id hid => ?_⟩
      · cases k with
        | zero =>
          obtain rfl : o = o' := by simpa using hk
          refine ⟨by simpa using hn, ?_⟩
          rw [e2 (nb + 0) (fun k _ => by omega)]
          exact upd_same ..
        | succ k =>
          obtain ⟨a1, a2⟩ := e1 k o' (by simpa using hk)
          rw [show nb + (k + 1) = nb + 1 + k by omega]
          refine ⟨?_, a2⟩
          rw [upd_ne _ _ (by omega)] at a1
          exact a1
      · rw [e2 id (fun k hk => by have := hid (k + 1) (by simpa using hk); omega), upd_ne _ _ (by have := hid 0 (by simp); omega)]
    · cases h1

def backS (L : List Nat) (nb : Nat) (n : Nat) (σ σ' : Sg) : Sg := fun id p => match place L id with
  | some j => σ' j p
  | none => if nb ≤ id ∧ id < nb + n then σ' (L.length + (id - nb)) p else σ id p
theorem place_none {L : List Nat} {id : Nat} (h : id ∉ L) : place L id = none := by
  cases hp : place L id with
  | none => rfl
  | some j => exact absurd (List.mem_of_getElem? (place_some hp)) h
theorem soft1_sound (z : Nat) {v : V} {c : Value} (h : RepV w F σ M v c) : RepV w F σ M (soft1 z v) c := by
  unfold soft1
  split
  · cases hz : z == 0 with
    | true => exact h
    | false =>
      cases h with
      | t h => cases h; exact .t (.seq0 ..)
  · exact h
theorem softL_get : ∀ (zs : List Nat) (vs : List V), (softL zs vs).length = vs.length ∧ ∀ (i : Nat) (v : V), (softL zs vs)[i]? = some v → ∃ u, vs[i]? = some u ∧ (v = u ∨ ∃ z, v = soft1 z u)
  | [], vs => ⟨by simp [softL], fun i v h => ⟨v, by simpa [softL] using h, .inl rfl⟩⟩
  | z :: zs, [] => ⟨rfl, fun i v h => by simp [softL] at h⟩
  | z :: zs, u :: vs => by
    obtain ⟨h1, h2⟩ := softL_get zs vs
    refine ⟨by simp [softL, h1], fun i v h => ?_⟩
    cases i with
    | zero => exact ⟨u, rfl, .inr ⟨z, by simpa [softL] using h.symm⟩⟩
    | succ i => exact h2 i v (by simpa [softL] using h)
theorem repL_soft (zs : List Nat) {vs : List V} {cs : Array Value} (h : RepL w F σ M vs cs) : RepL w F σ M (softL zs vs) cs := by
  obtain ⟨h1, h2⟩ := softL_get zs vs
  refine ⟨h1.trans h.1, fun i v hi => ?_⟩
  obtain ⟨u, hu, rfl | ⟨z, rfl⟩⟩ := h2 i v hi
  · exact h.2 i _ hu
  · exact soft1_sound z (h.2 i u hu)
theorem call_sound {P : Program} {pr : Pr} {E : Q → Option Out} (hE : CallOk P E) (wf : Wf w F σ M) {f : FuncId} {args : List V} {nb : Nat} {v : V} {M' : Mem} {cs : Array Value}
    (h : callE pr E f args M nb (fun v M => some (v, M)) = some (v, M')) (hv : RepL w F σ M args cs) :
    callable P f = true ∧ Calls P f cs w fun e w' => ∃ c F' σ', e = .returned c ∧ Step w F σ M w' F' σ' M' ∧ RepV w' F' σ' M' v c := by
  unfold callE at h
  have hv := repL_soft (pr.pol f).argS hv
  generalize softL (pr.pol f).argS args = args at h hv
  obtain ⟨⟨az, M1⟩, h1, h⟩ := Option.bind_eq_some_iff.1 h
  obtain ⟨⟨bs, Br⟩, h2, h⟩ := Option.bind_eq_some_iff.1 h
  obtain ⟨B, h3, h⟩ := Option.bind_eq_some_iff.1 h
  obtain ⟨L, h4, h⟩ := Option.bind_eq_some_iff.1 h
  simp only [Bool.cond_eq_ite] at h
  split at h
  · rename_i hdis
    obtain ⟨out, h5, h⟩ := Option.bind_eq_some_iff.1 h
    obtain ⟨⟨v2, M2⟩, h6, h⟩ := Option.bind_eq_some_iff.1 h
    obtain ⟨rfl, rfl⟩ := Prod.mk.inj (Option.some.inj h)
    obtain ⟨F1, st1, l1, r1⟩ := prepM_sound _ _ (fun i => cs.getD i Go.undef) 0 wf h1 (fun i x hi => by rw [Nat.zero_add]; exact hv.2 i x hi)
    obtain ⟨hBc, hBm⟩ := clos_of_refs h3
    have hLn : L.Nodup := clos_nodup _ h4 (by simp)
    have dis : ∀ id, id ∈ B → id ∉ L := fun id hid => by
      rw [List.all_eq_true] at hdis
      simpa using hdis id hid
    obtain ⟨l2, r2⟩ := prepB_sound st1.wf hBc _ _ (fun i => cs.getD i Go.undef) 0 h2 hBm r1
    have stk := step_kill st1.wf B
    -- what the callee sees
    have same : ∀ id ∈ L, killL B M1 id = M1 id := fun id hid => by
      unfold killL
      rw [if_neg]
      intro hc
      exact dis id (by simpa using hc) hid
    have hH : L.map (fun id => orenD (place L) (M1 id)) = locM L (killL B M1) := by
      unfold locM
      exact List.map_congr_left fun id hid => by rw [same id hid]
    rw [hH] at h5
    unfold merge at h6
    split at h6
    · rename_i v0 H'
      split at h6
      · rename_i hflat
        obtain ⟨⟨M3, N⟩, h7, h6⟩ := Option.bind_eq_some_iff.1 h6
        dsimp only at h6
        split at h6
        · obtain ⟨M4, h8, he⟩ := Option.map_eq_some_iff.1 h6
          obtain ⟨rfl, rfl⟩ := Prod.mk.inj he
          refine ⟨(hE f _ _ v0 H' h5).1, ?_⟩
          refine ((hE f _ _ v0 H' h5).2 w (killF F1 σ M1 B) (locS L σ) cs (loc_wf stk.wf hLn) ⟨by rw [renL_length, l2, l1]; exact hv.1, fun i x hi => ?_⟩).mono fun e w' ⟨c, F', σ', he, st, hr⟩ => ?_
          · obtain ⟨u, hu, rfl⟩ := refsL_get hi
            have := r2 i u hu
            rw [Nat.zero_add] at this
            exact loc_rep this
          · obtain ⟨H1, e1, e2, e3, e4⟩ := putL_spec L H' h7
            obtain ⟨n1, n2⟩ := putNew_spec N nb h8
            have e3' := e3 hLn
            -- the objects behind
            have inL : ∀ (j id : Nat), L[j]? = some id → ∃ o : Ob, H'[j]? = some o ∧ M4 id = some (o.ren (back L nb)) := fun j id hj => by
              obtain ⟨o, k1, k2⟩ := e3' j id hj
              have hjl : j < H1.length := (List.getElem?_eq_some_iff.1 k1).1
              refine ⟨o, by rw [e1, List.getElem?_append_left hjl]; exact k1, ?_⟩
              rw [n2 id fun k hk e => ?_]
              · exact k2
              · have := (n1 k _ (List.getElem?_eq_getElem hk)).1
                rw [← e, k2] at this
                cases this
            have inN : ∀ k, k < N.length → ∃ o : Ob, H'[L.length + k]? = some o ∧ M4 (nb + k) = some (o.ren (back L nb)) ∧ nb + k ∉ L ∧ M1 (nb + k) = none := fun k hk => by
              obtain ⟨a1, a2⟩ := n1 k _ (List.getElem?_eq_getElem hk)
              have hnl : nb + k ∉ L := fun hm => by
                obtain ⟨j, hj⟩ := List.getElem?_of_mem hm
                obtain ⟨o, _, k2⟩ := e3' j _ hj
                rw [k2] at a1
                cases a1
              refine ⟨N[k], ?_, a2, hnl, by rw [← e4 _ hnl]; exact a1⟩
              rw [e1, List.getElem?_append_right (by omega), e2]
              simp [hk]
            have out' : ∀ id, id ∉ L → (∀ k, k < N.length → id ≠ nb + k) → M4 id = M1 id := fun id a b => by rw [n2 id b, e4 id a]
            have hlen : H'.length = L.length + N.length := by rw [e1, List.length_append, e2]
            -- the places behind
            have sL : ∀ (j id : Nat), L[j]? = some id → ∀ p, backS L nb N.length σ σ' id p = σ' j p := fun j id hj p => by unfold backS; rw [place_of hLn hj]
            have sN : ∀ k, k < N.length → ∀ p, backS L nb N.length σ σ' (nb + k) p = σ' (L.length + k) p := fun k hk p => by
              unfold backS
              obtain ⟨_, _, _, hnl, _⟩ := inN k hk
              rw [place_none hnl]
              dsimp only
              rw [if_pos ⟨by omega, by omega⟩]
              congr 1
              omega
            have sO : ∀ id, id ∉ L → (∀ k, k < N.length → id ≠ nb + k) → ∀ p, backS L nb N.length σ σ' id p = σ id p := fun id a b p => by
              unfold backS
              rw [place_none a]
              dsimp only
              rw [if_neg]
              rintro ⟨c1, c2⟩
              exact b (id - nb) (by omega) (by omega)
            have kinds : ∀ id, (∃ j, L[j]? = some id) ∨ (∃ k, k < N.length ∧ id = nb + k) ∨ (id ∉ L ∧ ∀ k, k < N.length → id ≠ nb + k) := fun id => by
              by_cases hm : id ∈ L
              · exact .inl (List.getElem?_of_mem hm)
              · by_cases hk : ∃ k, k < N.length ∧ id = nb + k
                · exact .inr (.inl hk)
                · exact .inr (.inr ⟨hm, fun k h1 h2 => hk ⟨k, h1, h2⟩⟩)
            -- blocks
            let Bk : Nat → Prop := fun b => ∃ id p o, id ∈ B ∧ Live M1 id p ∧ σ id p = some (b, o)
            have ownL : ∀ b, Own (locS L σ) (ofL (locM L (killL B M1))) b → ∃ id p o, id ∈ L ∧ Live M1 id p ∧ σ id p = some (b, o) := fun b hb => by
              obtain ⟨id, p, o, a1, a2, a3⟩ := own_loc hb
              exact ⟨id, p, o, a1, (live_kill a2).2, a3⟩
            have other : ∀ id p b o, id ∉ L → Live M1 id p → σ id p = some (b, o) → b < w.heap.size ∧ ¬ Own (locS L σ) (ofL (locM L (killL B M1))) b := fun id p b o hid hl hs => by
              obtain ⟨_, cc, ee, h3⟩ := st1.wf.row id p b o hl hs
              refine ⟨(Array.getElem?_eq_some_iff.1 h3).1, fun hb => ?_⟩
              obtain ⟨id', p', o', a1, a2, a3⟩ := ownL b hb
              have := (st1.wf.inj _ _ _ _ _ _ _ hl a2 hs a3).1
              exact hid (this ▸ a1)
            let F2 : Nat → Prop := fun b => F' b ∧ ¬ Bk b
            have flag : ∃ fl : Bool, (fl = true → v0.flat = true ∧ H'.all Ob.flat = true) ∧ Moves fl w' F' w' F2 := by
              rcases hflat with hb | hf
              · have hB0 : B = [] := by simpa using hb
                have hno : ∀ b, ¬ Bk b := fun b ⟨id, p, o, hm, _⟩ => by rw [hB0] at hm; simp at hm
                exact ⟨false, ⟨fun e => (by cases e), fun _ => ⟨fun b hb' => ⟨hb', hno b⟩, fun _ _ => rfl⟩⟩⟩
              · exact ⟨true, ⟨fun _ => by simpa using hf, fun e => (by cases e)⟩⟩
            obtain ⟨fl, hfl, hmv⟩ := flag
            have rn : Ren σ' (ofL H') (back L nb) (backS L nb N.length σ σ') M4 := by
              have key : ∀ j o, ofL H' j = some o → ∃ id, back L nb j = some id ∧ M4 id = some (o.ren (back L nb)) ∧ ∀ p, backS L nb N.length σ σ' id p = σ' j p := fun j o ho => by
                have hjl : j < H'.length := (List.getElem?_eq_some_iff.1 ho).1
                by_cases hj : j < L.length
                · have hL : L[j]? = some L[j] := List.getElem?_eq_getElem hj
                  obtain ⟨o', k1, k2⟩ := inL j _ hL
                  have : H'[j]? = some o := ho
                  rw [this] at k1
                  obtain rfl := Option.some.inj k1
                  exact ⟨L[j], by simp [back, hL], k2, fun p => sL j _ hL p⟩
                · have hk : j - L.length < N.length := by omega
                  obtain ⟨o', k1, k2, _⟩ := inN _ hk
                  rw [show L.length + (j - L.length) = j by omega] at k1
                  have : H'[j]? = some o := ho
                  rw [this] at k1
                  obtain rfl := Option.some.inj k1
                  refine ⟨nb + (j - L.length), by simp [back, List.getElem?_eq_none (Nat.le_of_not_lt hj)], k2, fun p => ?_⟩
                  rw [sN _ hk]
                  congr 1
                  omega
              refine ⟨fun j id hj o ho => ?_, fun j id hj o ho p => ?_⟩
              · obtain ⟨id', q1, q2, _⟩ := key j o ho
                rw [hj] at q1
                obtain rfl := Option.some.inj q1
                exact ⟨_, q2, Ob.ren_cnt _ _, Ob.ren_sz _ _, fun fl sz es e => Ob.ren_vec.2 e⟩
              · obtain ⟨id', q1, _, q3⟩ := key j o ho
                rw [hj] at q1
                obtain rfl := Option.some.inj q1
                exact q3 p
            have liveL : ∀ j id, L[j]? = some id → ∀ p, Live M4 id p → Live (ofL H') j p := fun j id hj p hl => by
              obtain ⟨o, k1, k2⟩ := inL j id hj
              cases p with
              | none => obtain ⟨o', a1, a2⟩ := hl; rw [k2] at a1; exact ⟨o, k1, fun e => a2 (by rw [← Option.some.inj a1, e]; rfl)⟩
              | some q =>
                obtain ⟨a, b⟩ := q
                obtain ⟨fl, sz, es, e, s, r, a1, a2, a3⟩ := hl
                rw [k2] at a1
                exact ⟨fl, sz, es, e, s, r, by rw [show ofL H' j = some o from k1, Ob.ren_vec.1 (Option.some.inj a1)], a2, a3⟩
            have liveN : ∀ k, k < N.length → ∀ p, Live M4 (nb + k) p → Live (ofL H') (L.length + k) p := fun k hk p hl => by
              obtain ⟨o, k1, k2, _⟩ := inN k hk
              cases p with
              | none => obtain ⟨o', a1, a2⟩ := hl; rw [k2] at a1; exact ⟨o, k1, fun e => a2 (by rw [← Option.some.inj a1, e]; rfl)⟩
              | some q =>
                obtain ⟨a, b⟩ := q
                obtain ⟨fl, sz, es, e, s, r, a1, a2, a3⟩ := hl
                rw [k2] at a1
                exact ⟨fl, sz, es, e, s, r, by rw [show ofL H' (L.length + k) = some o from k1, Ob.ren_vec.1 (Option.some.inj a1)], a2, a3⟩
            have liveO : ∀ id, id ∉ L → (∀ k, k < N.length → id ≠ nb + k) → ∀ p, Live M4 id p → Live M1 id p := fun id a b p hl => by
              cases p with
              | none => obtain ⟨o', a1, a2⟩ := hl; exact ⟨o', by rw [← out' id a b]; exact a1, a2⟩
              | some q =>
                obtain ⟨x, y⟩ := q
                obtain ⟨fl, sz, es, e, s, r, a1, a2, a3⟩ := hl
                exact ⟨fl, sz, es, e, s, r, by rw [← out' id a b]; exact a1, a2, a3⟩
            -- who holds a place: the callee (at j), or it is az it was
            have who : ∀ id p b o, Live M4 id p → backS L nb N.length σ σ' id p = some (b, o) →
                (∃ j, back L nb j = some id ∧ Live (ofL H') j p ∧ σ' j p = some (b, o)) ∨ (id ∉ L ∧ (∀ k, k < N.length → id ≠ nb + k) ∧ Live M1 id p ∧ σ id p = some (b, o)) := fun id p b o hl hs => by
              rcases kinds id with ⟨j, hj⟩ | ⟨k, hk, rfl⟩ | ⟨a, b'⟩
              · exact .inl ⟨j, by simp [back, hj], liveL j id hj p hl, by rw [← sL j id hj]; exact hs⟩
              · exact .inl ⟨L.length + k, by simp [back], liveN k hk p hl, by rw [← sN k hk]; exact hs⟩
              · exact .inr ⟨a, b', liveO id a b' p hl, by rw [← sO id a b']; exact hs⟩
            have wfc := st.wf
            have frOwn : ∀ b, Own σ' (ofL H') b → (∃ id p o, id ∈ L ∧ Live M1 id p ∧ σ id p = some (b, o)) ∨ w.heap.size ≤ b := fun b hb => by
              rcases st.fr.own b hb with h | h
              · exact .inl (ownL b h)
              · exact .inr h
            have keep : ∀ id p b o, id ∉ L → Live M1 id p → σ id p = some (b, o) → w'.heap[b]? = w.heap[b]? := fun id p b o a hl hs => by
              obtain ⟨q1, q2⟩ := other id p b o a hl hs
              exact st.fr.block b q1 q2
            have le : Le w F1 σ M1 w' F2 (backS L nb N.length σ σ') M4 := by
              refine ⟨fun b hb => ⟨st.le.fF b (.inl hb), fun ⟨id, p, o, _, a2, a3⟩ => (st1.wf.row id p b o a2 a3).1 hb⟩, fun b hb => st.le.same b (.inl hb), fun id o ho => ?_, st.le.row⟩
              rcases kinds id with ⟨j, hj⟩ | ⟨k, hk, rfl⟩ | ⟨a, b'⟩
              · have hm : id ∈ L := List.mem_of_getElem? hj
                obtain ⟨o', k1, k2⟩ := inL j id hj
                have hcj : ofL (locM L (killL B M1)) j = some (o.ren (place L)) := by rw [locM_at hj, same id hm, ho]; rfl
                obtain ⟨o2, q1, q2⟩ := st.le.obj j _ hcj
                have : ofL H' j = some o' := k1
                rw [this] at q1
                obtain rfl := Option.some.inj q1
                refine ⟨_, k2, ⟨fun m' hm' => ?_⟩⟩
                rw [Ob.ren_cnt] at hm'
                obtain ⟨m, t1, t2, t3⟩ := q2.cnt m' hm'
                rw [Ob.ren_cnt] at t1
                refine ⟨m, t1, t2, fun e => ?_⟩
                obtain ⟨u1, u2, u3⟩ := t3 e
                refine ⟨by rw [Ob.ren_sz, u1, Ob.ren_sz], fun x hx => by rw [sL j id hj]; exact u2 x (by rw [locS_at hj]; exact hx), fun fl sz es he => ?_⟩
                obtain ⟨fl', es', v1, v2⟩ := u3 fl sz es (Ob.ren_vec.2 he)
                refine ⟨fl', es', Ob.ren_vec.2 v1, fun a b e s r ha hb hv => ?_⟩
                obtain ⟨e', r', v', x1, x2, x3, x4, x5⟩ := v2 a b e s r ha hb hv
                exact ⟨e', r', v', x1, x2, x3, x4, fun hvv => ⟨(x5 hvv).1, fun x hx => by rw [sL j id hj]; exact (x5 hvv).2 x (by rw [locS_at hj]; exact hx)⟩⟩
              · obtain ⟨_, _, _, _, hnone⟩ := inN k hk
                rw [hnone] at ho
                cases ho
              · refine ⟨o, by rw [out' id a b']; exact ho, ⟨fun m' hm' => ⟨m', hm', Nat.le_refl _, fun _ => ⟨rfl, fun x hx => by rw [sO id a b']; exact hx, fun fl sz es he => ⟨fl, es, he, fun x y e c0 v0 h1 h2 h0v => ⟨e, c0, v0, h1, h2, h0v, Nat.le_refl _, fun _ => ⟨fun _ r0 h0c => ⟨r0, h0c⟩, fun z hz => by rw [sO id a b']; exact hz⟩⟩⟩⟩⟩⟩⟩
            have hrow : ∀ b k, Row w' b k → Row w' b k := fun _ _ h => h
            have flO : ∀ (j : Nat) (o : Ob), H'[j]? = some o → fl = true → o.flat = true := fun j o ho e => by
              have := (hfl e).2
              rw [List.all_eq_true] at this
              exact this o (List.mem_of_getElem? ho)
            refine ⟨c, F2, backS L nb N.length σ σ', he, st1.trans ⟨le, ⟨fun id o ho => ?_, fun id1 p1 id2 p2 b a1 a2 q1 q2 k1 k2 => ?_, fun id p b o q k => ?_, fun b hb => wfc.lt b hb.1⟩, ?_⟩, hr.ren hmv hrow rn fun e => (hfl e).1⟩
            · have ho : M4 id = some o := ho
              rcases kinds id with ⟨j, hj⟩ | ⟨k, hk, rfl⟩ | ⟨a, b'⟩
              · obtain ⟨o', k1, k2⟩ := inL j id hj
                rw [k2] at ho
                obtain rfl := Option.some.inj ho
                exact (wfc.obj j o' k1).ren hmv hrow rn (fun p => sL j id hj p) (fun _ _ _ _ _ => rfl) k1 (flO j o' k1)
              · obtain ⟨o', k1, k2, _⟩ := inN k hk
                rw [k2] at ho
                obtain rfl := Option.some.inj ho
                exact (wfc.obj _ o' k1).ren hmv hrow rn (fun p => sN k hk p) (fun _ _ _ _ _ => rfl) k1 (flO _ o' k1)
              · rw [out' id a b'] at ho
                exact (st1.wf.obj id o ho).mono le ho (fun p => sO id a b' p) fun p b o0 hl hs => keep id p b o0 a hl hs
            · rcases who _ _ _ _ q1 k1 with ⟨j1, x1, x2, x3⟩ | ⟨x1, y1, x2, x3⟩ <;> rcases who _ _ _ _ q2 k2 with ⟨j2, z1, z2, z3⟩ | ⟨z1, y2, z2, z3⟩
              · obtain ⟨rfl, rfl⟩ := wfc.inj _ _ _ _ _ _ _ x2 z2 x3 z3
                rw [x1] at z1
                exact ⟨Option.some.inj z1, rfl⟩
              · exfalso
                obtain ⟨s1, s2⟩ := other _ _ _ _ z1 z2 z3
                rcases st.fr.own b ⟨j1, p1, a1, x2, x3⟩ with h | h
                · exact s2 h
                · omega
              · exfalso
                obtain ⟨s1, s2⟩ := other _ _ _ _ x1 x2 x3
                rcases st.fr.own b ⟨j2, p2, a2, z2, z3⟩ with h | h
                · exact s2 h
                · omega
              · exact st1.wf.inj _ _ _ _ _ _ _ x2 z2 x3 z3
            · rcases who _ _ _ _ q k with ⟨j, x1, x2, x3⟩ | ⟨x1, y1, x2, x3⟩
              · obtain ⟨s1, s2⟩ := wfc.row _ _ _ _ x2 x3
                exact ⟨fun h => s1 h.1, s2⟩
              · obtain ⟨s1, cc, ee, s2⟩ := st1.wf.row _ _ _ _ x2 x3
                refine ⟨fun h => ?_, cc, ee, by rw [keep _ _ _ _ x1 x2 x3]; exact s2⟩
                obtain ⟨t1, t2⟩ := other _ _ _ _ x1 x2 x3
                rcases st.fr.fF b h.1 with h' | h' | h'
                · rcases h' with h' | ⟨id', p', o', m1, m2, m3⟩
                  · exact s1 h'
                  · exact h.2 ⟨id', p', o', m1, m2, m3⟩
                · exact t2 h'
                · omega
            · refine ⟨st.fr.os, st.fr.tape, st.fr.output, st.fr.size, fun b hb ho => st.fr.block b hb fun h => ?_, fun b hb => ?_, fun b ⟨id, p, o, q, k⟩ => ?_⟩
              · obtain ⟨id, p, o, _, a2, a3⟩ := ownL b h
                exact ho ⟨id, p, o, a2, a3⟩
              · rcases st.fr.fF b hb.1 with h' | h' | h'
                · rcases h' with h' | h'
                  · exact .inl h'
                  · exact absurd h' hb.2
                · obtain ⟨id, p, o, _, a2, a3⟩ := ownL b h'
                  exact .inr (.inl ⟨id, p, o, a2, a3⟩)
                · exact .inr (.inr h')
              · rcases who _ _ _ _ q k with ⟨j, x1, x2, x3⟩ | ⟨x1, y1, x2, x3⟩
                · rcases frOwn b ⟨j, p, o, x2, x3⟩ with ⟨id', p', o', _, a2, a3⟩ | h'
                  · exact .inl ⟨id', p', o', a2, a3⟩
                  · exact .inr h'
                · exact .inl ⟨id, p, o, x2, x3⟩
        · cases h6
      · cases h6
    · cases h6
  · cases h
end
end Go.Ev

namespace Go.Ev
set_option linter.unusedVariables false
set_option linter.unusedSimpArgs false
section
variable {w : World} {F : Nat → Prop} {σ : Sg} {M : Mem}
theorem argL_sound {s : S} {a : Act} (st : St w F σ s a) {xs : Array Operand} {vs : List V} (h : argL s.env xs = some vs) : RepL w F σ s.mem vs (xs.map a.eval) := by
  unfold argL at h
  obtain ⟨h1, h2⟩ := mapM_some_get h
  refine ⟨by simp [h1], fun i v hi => ?_⟩
  obtain ⟨x, hx, hv⟩ := h2 i v hi
  rw [getD_of_get (c := a.eval x)]
  · exact rep_arg st hv
  · rw [Array.getElem?_toList] at hx
    rw [Array.getElem?_map, hx]; rfl
theorem argPs_sound {s : S} {a : Act} (st : St w F σ s a) : ∀ (ps : List (Nat × Operand)) {vs : List (Nat × V)}, argPs s.env ps = some vs →
    vs.length = ps.length ∧ ∀ (j : Nat) (p : Nat × V), vs[j]? = some p → ∃ x, ps[j]? = some (p.1, x) ∧ RepV w F σ s.mem p.2 (a.eval x)
  | [], vs, h => by obtain rfl := Option.some.inj h; exact ⟨rfl, fun j p hj => by simp at hj⟩
  | (i, x) :: ps, vs, h => by
    simp only [argPs] at h
    obtain ⟨v, hv, h⟩ := Option.bind_eq_some_iff.1 h
    obtain ⟨r, hr, rfl⟩ := Option.map_eq_some_iff.1 h
    obtain ⟨h1, h2⟩ := argPs_sound st ps hr
    refine ⟨by simp [h1], fun j p hj => ?_⟩
    cases j with
    | zero => obtain rfl : (i, v) = p := by simpa using hj
              exact ⟨x, rfl, rep_arg st hv⟩
    | succ j => exact h2 j p (by simpa using hj)
theorem argPs_parts {s : S} {a : Act} (st : St w F σ s a) {ps : Array (Nat × Operand)} {vs : List (Nat × V)} (h : argPs s.env ps.toList = some vs) :
    vs.length = (ps.map fun (i, x) => (i, a.eval x)).size ∧ ∀ (j : Nat) (p : Nat × V), vs[j]? = some p → ∃ u, (ps.map fun (i, x) => (i, a.eval x))[j]? = some (p.1, u) ∧ RepV w F σ s.mem p.2 u := by
  obtain ⟨h1, h2⟩ := argPs_sound st ps.toList h
  refine ⟨by simpa using h1, fun j p hj => ?_⟩
  obtain ⟨x, hx, hv⟩ := h2 j p hj
  refine ⟨a.eval x, ?_, hv⟩
  rw [Array.getElem?_toList] at hx
  rw [Array.getElem?_map, hx]; rfl
theorem argO_sound {s : S} {a : Act} (st : St w F σ s a) {x : Option Operand} {v : Option V} (h : argO s.env x = some v) : RepOV w F σ s.mem v (x.map a.eval) := by
  cases x with
  | none => obtain rfl := Option.some.inj h; trivial
  | some x =>
    obtain ⟨u, hu, rfl⟩ := Option.map_eq_some_iff.1 h
    exact rep_arg st hu
theorem run_callFunc {P : Program} {f : FuncId} (h : callable P f = true) (args : Array Value) (w : World) : (callFunc f args).run P w = .ok (.enter f args) w := by
  unfold callable at h
  split at h
  · rename_i fn hf
    simp only [Bool.and_eq_true, bne_iff_ne, ne_eq] at h
    have h1 : ¬ fn.name = "runtime.NumGoroutine" := h.1
    have h2 : ¬ fn.body = none := by
      intro hb
      rw [hb] at h
      simp at h
    simp [callFunc, hf, h1, h2]
  · cases h
theorem wp_enter {P : Program} {o : Oper} {a : Act} {next : Act → World → Prop} {Q : Exit → Act → World → Prop} {f : FuncId} {args : Array Value} {w' : World} {R : Value → World → Prop}
    (hr : (execOp a.eval o).run P w = .ok (.enter f args) w') (hc : Calls P f args w' fun e w'' => ∃ c, e = .returned c ∧ R c w'') (h : ∀ c w'', R c w'' → next (a.put o.dst c) w'') : o.wp P a w next Q := by
  unfold Oper.wp
  rw [hr, Oper.upon_enter]
  refine hc.mono fun e w'' ⟨c, he, hR⟩ => ?_
  subst he
  exact h c w'' hR
theorem wp_value {P : Program} {o : Oper} {a : Act} {next : Act → World → Prop} {Q : Exit → Act → World → Prop} {c : Value} {w' : World} (hr : (execOp a.eval o).run P w = .ok (.value c) w') (h : next (a.put o.dst c) w') : o.wp P a w next Q := by
  unfold Oper.wp
  rw [hr, Oper.upon_value]
  exact h
theorem isCell_of_wr0 {nest : Bool} {p : V} {i : Nat} {M M1 : Mem} {x : V} (h1 : wr0 nest M p i x = some M1) : x.isCell = true := by
  unfold wr0 at h1
  split at h1
  · split at h1
    · split at h1
      · rename_i hc; exact hc.2.2.2
      · cases h1
    · obtain ⟨⟨c, M2⟩, hq, _⟩ := Option.bind_eq_some_iff.1 h1
      cases x with
      | undef => simp [toC, mvV, fzV, fz1, fz] at hq
      | agg us =>
        simp only [toC] at hq
        obtain ⟨⟨v', M3⟩, hq1, hq2⟩ := Option.bind_eq_some_iff.1 hq
        unfold mvV at hq1
        obtain ⟨x', hx', hq1⟩ := Option.bind_eq_some_iff.1 hq1
        simp only [fzV, fz1] at hx'
        obtain ⟨l, _, rfl⟩ := Option.map_eq_some_iff.1 hx'
        obtain ⟨L, _, he⟩ := Option.map_eq_some_iff.1 hq1
        obtain ⟨rfl, rfl⟩ := Prod.mk.inj he
        simp at hq2
      | tup us =>
        simp only [toC] at hq
        obtain ⟨⟨v', M3⟩, hq1, hq2⟩ := Option.bind_eq_some_iff.1 hq
        unfold mvV at hq1
        obtain ⟨x', hx', hq1⟩ := Option.bind_eq_some_iff.1 hq1
        simp only [fzV] at hx'
        obtain ⟨l, _, rfl⟩ := Option.map_eq_some_iff.1 hx'
        obtain ⟨L, _, he⟩ := Option.map_eq_some_iff.1 hq1
        obtain ⟨rfl, rfl⟩ := Prod.mk.inj he
        simp at hq2
      | _ => rfl
    · cases h1
  · cases h1
theorem cells_cell_of_wrs {nest : Bool} {p : V} : ∀ {vs : List V} {i : Nat} {M M' : Mem}, wrs nest M p i vs = some M' → ∀ x ∈ vs, x.isCell = true
  | [], i, M, M', h, x, hx => by simp at hx
  | v :: vs, i, M, M', h, x, hx => by
    simp only [wrs] at h
    obtain ⟨M1, h1, h2⟩ := Option.bind_eq_some_iff.1 h
    rcases List.mem_cons.1 hx with rfl | hx
    · unfold wr at h1
      split at h1
      · unfold wrR at h1
        split at h1
        · assumption
        · cases h1
      · rfl
      · exact isCell_of_wr0 h1
    · exact cells_cell_of_wrs h2 x hx
def OpOk (P : Program) (o : Oper) (a : Act) (w : World) (F : Nat → Prop) (σ : Sg) (M : Mem) (v : V) (M' : Mem) : Prop :=
  ∀ (next : Act → World → Prop) (Q : Exit → Act → World → Prop), (∀ c w' F' σ', Step w F σ M w' F' σ' M' → RepV w' F' σ' M' v c → next (a.put o.dst c) w') → o.wp P a w next Q
theorem OpOk.pure {P : Program} {o : Oper} {a : Act} (wf : Wf w F σ M) {v : V} {c : Value} (hr : (execOp a.eval o).run P w = .ok (.value c) w) (hv : RepV w F σ M v c) : OpOk P o a w F σ M v M :=
  fun next Q h => wp_value hr (h c w F σ (.refl wf) hv)
theorem OpOk.step {P : Program} {o : Oper} {a : Act} {w' : World} {F' : Nat → Prop} {σ' : Sg} {M' : Mem} {v : V} {c : Value} (hr : (execOp a.eval o).run P w = .ok (.value c) w') (st : Step w F σ M w' F' σ' M') (hv : RepV w' F' σ' M' v c) : OpOk P o a w F σ M v M' :=
  fun next Q h => wp_value hr (h c w' F' σ' st hv)
theorem call_ok {pr : Pr} {E : Q → Option Out} (hE : CallOk pr.P E) {o : Oper} {a : Act} (wf : Wf w F σ M) {f : FuncId} {args : List V} {v : V} {M' : Mem} {cs : Array Value}
    (h : callE pr E f args M (bound o) (fun v M => some (v, M)) = some (v, M')) (hv : RepL w F σ M args cs) (hr : callable pr.P f = true → (execOp a.eval o).run pr.P w = .ok (.enter f cs) w) : OpOk pr.P o a w F σ M v M' := by
  intro next Q hn
  obtain ⟨hc, hcalls⟩ := call_sound hE wf h hv
  exact wp_enter (hr hc) (hcalls.mono fun e w' ⟨c, F', σ', he, h1, h2⟩ => ⟨c, he, F', σ', h1, h2⟩) (R := fun c w' => ∃ F' σ', Step w F σ M w' F' σ' M' ∧ RepV w' F' σ' M' v c)
    fun c w' ⟨F', σ', h1, h2⟩ => hn c w' F' σ' h1 h2
theorem mapM_T {vs : List V} {ts : List T} (h : vs.mapM tOf = some ts) : vs = ts.map V.t := by
  induction vs generalizing ts with
  | nil => simp at h; subst h; rfl
  | cons v vs ih =>
    rw [List.mapM_cons] at h
    obtain ⟨x, hx, h⟩ := Option.bind_eq_some_iff.1 h
    obtain ⟨r, hr, h⟩ := Option.bind_eq_some_iff.1 h
    obtain rfl := Option.some.inj h
    rw [ih hr]
    unfold tOf at hx
    split at hx
    · obtain rfl := Option.some.inj hx; rfl
    · cases hx
theorem opK_sound {pr : Pr} {E : Q → Option Out} (hE : CallOk pr.P E) {nest : Bool} {o : Oper} {s : S} {a : Act} {v : V} {M' : Mem} (st : St w F σ s a)
    (h : opK pr E nest o s (fun v M => some (v, M)) = some (v, M')) : OpOk pr.P o a w F σ s.mem v M' := by
  unfold opK at h
  dsimp only at h
  have wf := st.wf
  split at h
  · rename_i x ho
    obtain ⟨u, hu, h⟩ := Option.bind_eq_some_iff.1 h
    obtain ⟨rfl, rfl⟩ := Prod.mk.inj (Option.some.inj h)
    exact .pure wf (by simp [execOp, ho]) (rep_arg st hu)
  · rename_i x ho
    obtain ⟨u, hu, h⟩ := Option.bind_eq_some_iff.1 h
    obtain ⟨rfl, rfl⟩ := Prod.mk.inj (Option.some.inj h)
    exact .pure wf (by simp [execOp, ho]) (rep_arg st hu)
  · rename_i c x y ho
    obtain ⟨u1, h1, h⟩ := Option.bind_eq_some_iff.1 h
    obtain ⟨u2, h2, h⟩ := Option.bind_eq_some_iff.1 h
    obtain ⟨u3, h3, h⟩ := Option.bind_eq_some_iff.1 h
    obtain ⟨u4, h4, h⟩ := Option.bind_eq_some_iff.1 h
    obtain ⟨rfl, rfl⟩ := Prod.mk.inj (Option.some.inj h)
    obtain ⟨r, k1, k2⟩ := pick_sound (P := pr.P) h4 (rep_arg st h1) (rep_arg st h2) (rep_arg st h3)
    refine .pure wf ?_ k2
    unfold execOp
    simp only [ho]
    exact k1
  · rename_i t ho
    obtain ⟨z, h1, h⟩ := Option.bind_eq_some_iff.1 h
    obtain ⟨⟨u, M1⟩, h2, h⟩ := Option.bind_eq_some_iff.1 h
    obtain ⟨rfl, rfl⟩ := Prod.mk.inj (Option.some.inj h)
    obtain ⟨w', σ', c, k1, k2, k3⟩ := alloc_sound wf h1 h2
    exact .step (by simp [execOp, ho, k1]) k2 k3
  · rename_i t x ho
    obtain ⟨u, h1, h⟩ := Option.bind_eq_some_iff.1 h
    obtain ⟨⟨u2, M1⟩, h2, h⟩ := Option.bind_eq_some_iff.1 h
    obtain ⟨rfl, rfl⟩ := Prod.mk.inj (Option.some.inj h)
    obtain ⟨w', σ', c, k1, k2, k3⟩ := box_sound (t := t) (P := pr.P) wf h2 (rep_arg st h1)
    exact .step (by simp [execOp, ho, k1]) k2 k3
  · rename_i t parts ho
    simp only [Bool.cond_eq_ite] at h
    split at h
    · cases h
    · rename_i hok
      obtain ⟨ps, h1, h⟩ := Option.bind_eq_some_iff.1 h
      obtain ⟨z, h2, h⟩ := Option.bind_eq_some_iff.1 h
      obtain ⟨vs, h3, h⟩ := Option.bind_eq_some_iff.1 h
      obtain ⟨rfl, rfl⟩ := Prod.mk.inj (Option.some.inj h)
      obtain ⟨p1, p2⟩ := argPs_parts st h1
      obtain ⟨c, k1, k2⟩ := build_sound (by simpa using hok) h2 h3 p1 p2
      exact .pure wf (by simp only [execOp, ho, Sem.run_bind, k1, Result.andThen_ok]; rfl) k2
  · rename_i t len parts ho
    obtain ⟨ps, h1, h⟩ := Option.bind_eq_some_iff.1 h
    obtain ⟨e, h2, h⟩ := Option.bind_eq_some_iff.1 h
    obtain ⟨sz, h3, h⟩ := Option.bind_eq_some_iff.1 h
    obtain ⟨z, h4, h⟩ := Option.bind_eq_some_iff.1 h
    obtain ⟨⟨u, M1⟩, h5, h⟩ := Option.bind_eq_some_iff.1 h
    obtain ⟨rfl, rfl⟩ := Prod.mk.inj (Option.some.inj h)
    obtain ⟨p1, p2⟩ := argPs_parts st h1
    unfold elemT at h2
    split at h2
    · rename_i e' hu
      obtain rfl := Option.some.inj h2
      obtain ⟨w', F', σ', c, k1, k2, k3⟩ := litN_sound wf hu h3 h4 h5 p1 p2
      exact .step (by simp only [execOp, ho, Sem.run_bind, k1, Result.andThen_ok]; rfl) k2 k3
    · cases h2
  · rename_i t x ho
    obtain ⟨p, h1, h⟩ := Option.bind_eq_some_iff.1 h
    obtain ⟨ag, h2, h⟩ := Option.bind_eq_some_iff.1 h
    obtain ⟨n, h3, h⟩ := Option.bind_eq_some_iff.1 h
    obtain ⟨u, h4, h⟩ := Option.bind_eq_some_iff.1 h
    obtain ⟨rfl, rfl⟩ := Prod.mk.inj (Option.some.inj h)
    obtain ⟨c, k1, k2⟩ := ld_sound (P := pr.P) wf h2 h3 h4 (rep_arg st h1)
    exact .pure wf (by simp [execOp, ho, k1]) k2
  · rename_i t x y ho
    obtain ⟨p, h1, h⟩ := Option.bind_eq_some_iff.1 h
    obtain ⟨u, h2, h⟩ := Option.bind_eq_some_iff.1 h
    obtain ⟨n, h3, h⟩ := Option.bind_eq_some_iff.1 h
    split at h
    · rename_i hc
      obtain ⟨M1, h4, h⟩ := Option.bind_eq_some_iff.1 h
      obtain ⟨rfl, rfl⟩ := Prod.mk.inj (Option.some.inj h)
      obtain ⟨w', F', σ', k1, k2⟩ := store_sound (P := pr.P) wf h3 hc.1 hc.2 h4 (rep_arg st h1) (rep_arg st h2) (cells_cell_of_wrs h4)
      intro next Q hn
      unfold Oper.wp
      have hr : (execOp a.eval o).run pr.P w = .ok .skip w' := by simp [execOp, ho, k1]
      rw [hr, Oper.upon_skip]
      exact hn Go.undef w' F' σ' k2 (.undef _)
    · cases h
  · rename_i x ho
    obtain ⟨u, h1, h⟩ := Option.bind_eq_some_iff.1 h
    obtain ⟨u2, h2, h⟩ := Option.bind_eq_some_iff.1 h
    obtain ⟨rfl, rfl⟩ := Prod.mk.inj (Option.some.inj h)
    have hv := rep_arg st h1
    obtain ⟨rfl, hc⟩ := nilChk_form h2 hv
    refine .pure wf ?_ hv
    unfold execOp
    simp only [ho]
    rcases hc with ⟨ad, he⟩ | ⟨f, caps, he⟩ <;> rw [he] <;> rfl
  · rename_i op t x y yt ho
    obtain ⟨u1, h1, h⟩ := Option.bind_eq_some_iff.1 h
    obtain ⟨u2, h2, h⟩ := Option.bind_eq_some_iff.1 h
    obtain ⟨r, h3, h⟩ := Option.bind_eq_some_iff.1 h
    obtain ⟨rfl, rfl⟩ := Prod.mk.inj (Option.some.inj h)
    obtain ⟨c, k1, k2⟩ := binX_sound x y h3 (rep_arg st h1) (rep_arg st h2) (fun v hv => by rw [hv]; rfl)
    refine .pure wf ?_ k2
    unfold execOp
    simp only [ho]
    rw [Sem.run_bind, k1]
    rfl
  · rename_i op t x ho
    obtain ⟨u1, h1, h⟩ := Option.bind_eq_some_iff.1 h
    obtain ⟨r, h3, h⟩ := Option.bind_eq_some_iff.1 h
    obtain ⟨rfl, rfl⟩ := Prod.mk.inj (Option.some.inj h)
    obtain ⟨c, k1, k2⟩ := un_sound (P := pr.P) h3 (rep_arg st h1)
    exact .pure wf (by simp [execOp, ho, k1]) k2
  · rename_i src dst x ho
    obtain ⟨u1, h1, h⟩ := Option.bind_eq_some_iff.1 h
    obtain ⟨r, h3, h⟩ := Option.bind_eq_some_iff.1 h
    obtain ⟨rfl, rfl⟩ := Prod.mk.inj (Option.some.inj h)
    obtain ⟨w', F', c, k1, k2, k3⟩ := conv_sound (P := pr.P) wf h3 (rep_arg st h1)
    exact .step (by simp [execOp, ho, k1]) k2 k3
  · rename_i f first captured ho
    split at h
    · rename_i hfirst
      obtain rfl : first = #[] := by simpa using hfirst
      obtain ⟨vs, h1, h⟩ := Option.bind_eq_some_iff.1 h
      have hL := argL_sound st h1
      split at h
      · rename_i ts hts
        obtain ⟨rfl, rfl⟩ := Prod.mk.inj (Option.some.inj h)
        have e := mapM_T hts
        subst e
        refine .pure wf (c := .func (.func f) #[] (captured.map a.eval)) (by simp [execOp, ho, Instr.makeFunc]) (.t (.clo (by have := hL.1; simpa using this) fun i t hi => ?_))
        have := hL.2 i (.t t) (by rw [List.getElem?_map, hi]; rfl)
        cases this with | t h => exact h
      · obtain ⟨rfl, rfl⟩ := Prod.mk.inj (Option.some.inj h)
        exact .pure wf (c := .func (.func f) #[] (captured.map a.eval)) (by simp [execOp, ho, Instr.makeFunc]) (.clo hL.1 hL.2)
    · cases h
  · rename_i t l c ho
    obtain ⟨u1, h1, h⟩ := Option.bind_eq_some_iff.1 h
    obtain ⟨u2, h2, h⟩ := Option.bind_eq_some_iff.1 h
    obtain ⟨e, h3, h⟩ := Option.bind_eq_some_iff.1 h
    obtain ⟨sz, h4, h⟩ := Option.bind_eq_some_iff.1 h
    obtain ⟨z, h5, h⟩ := Option.bind_eq_some_iff.1 h
    obtain ⟨inf, h6, h⟩ := Option.bind_eq_some_iff.1 h
    obtain ⟨⟨u, M1⟩, h7, h⟩ := Option.bind_eq_some_iff.1 h
    obtain ⟨rfl, rfl⟩ := Prod.mk.inj (Option.some.inj h)
    unfold elemT at h3
    split at h3
    · rename_i e' hu
      obtain rfl := Option.some.inj h3
      obtain ⟨w', σ', c', k1, k2, k3⟩ := make_sound wf hu h4 h6 h5 h7 (rep_arg st h1) (rep_arg st h2)
      exact .step (by simp [execOp, ho, k1]) k2 k3
    · cases h3
  · rename_i t x lo hi mx ho
    obtain ⟨u, h1, h⟩ := Option.bind_eq_some_iff.1 h
    obtain ⟨lo', h2, h⟩ := Option.bind_eq_some_iff.1 h
    obtain ⟨hi', h3, h⟩ := Option.bind_eq_some_iff.1 h
    obtain ⟨mx', h4, h⟩ := Option.bind_eq_some_iff.1 h
    simp only [Bool.cond_eq_ite] at h
    split at h
    · cases h
    · rename_i hmx
      have hmx2 : maxOk u mx' = true ∧ (mx'.isSome = true → ¬ hi' = none) := by simpa using hmx
      have hmx' : maxOk u mx' = true := hmx2.1
      have a4 : mx'.isSome = true → hi'.isSome = true := fun e => Option.isSome_iff_ne_none.2 (hmx2.2 e)
      split at h
      · rename_i e hu
        split at h
        · cases h
        · rename_i hstr
          obtain ⟨sz, h5, h⟩ := Option.bind_eq_some_iff.1 h
          obtain ⟨r, h6, h⟩ := Option.bind_eq_some_iff.1 h
          obtain ⟨rfl, rfl⟩ := Prod.mk.inj (Option.some.inj h)
          obtain ⟨c, k1, k2⟩ := sub_slice_sound hu h5 hmx' h6 (fun b e => hstr b e) (rep_arg st h1) (argO_sound st h2) (argO_sound st h3) (argO_sound st h4) a4
          exact .pure wf (by simp [execOp, ho, k1]) k2
      · rename_i hu
        split at h
        · rename_i b
          obtain ⟨r, h6, h⟩ := Option.bind_eq_some_iff.1 h
          obtain ⟨rfl, rfl⟩ := Prod.mk.inj (Option.some.inj h)
          cases mx' with
          | some m => simp [maxOk] at hmx'
          | none =>
            have e4 : mx = none := by
              cases mx with
              | none => rfl
              | some m => simp only [argO] at h4; obtain ⟨_, _, h4⟩ := Option.map_eq_some_iff.1 h4; cases h4
            subst e4
            obtain ⟨c, k1, k2⟩ := sub_str_sound (P := pr.P) hu h6 (rep_arg st h1) (argO_sound st h2) (argO_sound st h3)
            exact .pure wf (by simp [execOp, ho, k1]) k2
        · cases h
      · cases h
  · rename_i t x f ho
    obtain ⟨u, h1, h⟩ := Option.bind_eq_some_iff.1 h
    obtain ⟨fi, h2, h⟩ := Option.bind_eq_some_iff.1 h
    split at h
    · cases h
    · rename_i hz
      obtain ⟨r, h3, h⟩ := Option.bind_eq_some_iff.1 h
      obtain ⟨rfl, rfl⟩ := Prod.mk.inj (Option.some.inj h)
      obtain ⟨c, k1, k2⟩ := fldA_sound h2 hz h3 (rep_arg st h1)
      exact .pure wf (by simp [execOp, ho, k1]) k2
  · rename_i t x f ho
    obtain ⟨u, h1, h⟩ := Option.bind_eq_some_iff.1 h
    obtain ⟨fi, h2, h⟩ := Option.bind_eq_some_iff.1 h
    obtain ⟨r, h3, h⟩ := Option.bind_eq_some_iff.1 h
    obtain ⟨rfl, rfl⟩ := Prod.mk.inj (Option.some.inj h)
    obtain ⟨c, k1, k2⟩ := fld_sound h2 h3 (rep_arg st h1)
    exact .pure wf (by simp [execOp, ho, k1]) k2
  · rename_i t x i ho
    obtain ⟨u1, h1, h⟩ := Option.bind_eq_some_iff.1 h
    obtain ⟨u2, h2, h⟩ := Option.bind_eq_some_iff.1 h
    obtain ⟨e, h3, h⟩ := Option.bind_eq_some_iff.1 h
    obtain ⟨sz, h4, h⟩ := Option.bind_eq_some_iff.1 h
    split at h
    · cases h
    · rename_i hz
      obtain ⟨r, h5, h⟩ := Option.bind_eq_some_iff.1 h
      obtain ⟨rfl, rfl⟩ := Prod.mk.inj (Option.some.inj h)
      unfold elemT at h3
      split at h3
      · rename_i e' hu
        obtain rfl := Option.some.inj h3
        obtain ⟨c, k1, k2⟩ := idx_sound hu h4 hz h5 (rep_arg st h1) (rep_arg st h2)
        exact .pure wf (by simp [execOp, ho, k1]) k2
      · cases h3
  · rename_i t x i ho
    obtain ⟨u1, h1, h⟩ := Option.bind_eq_some_iff.1 h
    obtain ⟨u2, h2, h⟩ := Option.bind_eq_some_iff.1 h
    split at h
    · rename_i hu
      obtain ⟨r, h5, h⟩ := Option.bind_eq_some_iff.1 h
      obtain ⟨rfl, rfl⟩ := Prod.mk.inj (Option.some.inj h)
      obtain ⟨c, k1, k2⟩ := idxS_sound hu h5 (rep_arg st h1) (rep_arg st h2)
      exact .pure wf (by simp [execOp, ho, k1]) k2
    · cases h
  · rename_i x i ho
    obtain ⟨u1, h1, h⟩ := Option.bind_eq_some_iff.1 h
    obtain ⟨r, h5, h⟩ := Option.bind_eq_some_iff.1 h
    obtain ⟨rfl, rfl⟩ := Prod.mk.inj (Option.some.inj h)
    obtain ⟨c, k1, k2⟩ := ext_sound (P := pr.P) h5 (rep_arg st h1)
    exact .pure wf (by simp [execOp, ho, k1]) k2
  · rename_i c ho
    split at h
    · rename_i hcal
      obtain ⟨vs, h1, h⟩ := Option.bind_eq_some_iff.1 h
      have hL := argL_sound st h1
      have hargs : ∀ v, vs = [v] → ∃ u, c.args.map a.eval = #[u] ∧ RepV w F σ s.mem v u := fun v e => by
        subst e
        have h0 := hL.2 0 v rfl
        have hs : (c.args.map a.eval).size = 1 := by rw [← hL.1]; rfl
        obtain ⟨u, hu⟩ : ∃ u, c.args.map a.eval = #[u] := by
          match hm : c.args.map a.eval, hs with
          | ⟨[u]⟩, _ => exact ⟨u, rfl⟩
        exact ⟨u, hu, by rw [hu] at h0; exact h0⟩
      split at h
      · rename_i z hu
        obtain ⟨r, h2, h⟩ := Option.bind_eq_some_iff.1 h
        obtain ⟨rfl, rfl⟩ := Prod.mk.inj (Option.some.inj h)
        obtain ⟨u, hu1, hu2⟩ := hargs _ rfl
        obtain ⟨t, ht, hu⟩ := Option.bind_eq_some_iff.1 hu
        obtain rfl := rep_str hu2
        obtain rfl := Option.some.inj h2
        refine .pure wf (c := .int .i64 z.size) ?_ (.t (.int ..))
        simp [execOp, ho, resolve, hcal, invoke, builtin, hu1, Builtin.len_, ht, run_underlying hu, goInt]
      · rename_i x e hu
        obtain ⟨u, hu1, hu2⟩ := hargs _ rfl
        obtain ⟨t, ht, hu⟩ := Option.bind_eq_some_iff.1 hu
        split at h
        · cases h
        · rename_i hstr
          obtain ⟨r, h2, h⟩ := Option.bind_eq_some_iff.1 h
          obtain ⟨rfl, rfl⟩ := Prod.mk.inj (Option.some.inj h)
          rcases rep_len h2 hu2 with ⟨z, e1, _⟩ | ⟨_, b, n, cap, rfl, rfl⟩
          · exact absurd e1 (hstr z)
          · refine .pure wf (c := .int .i64 n) ?_ (.t (.int ..))
            simp [execOp, ho, resolve, hcal, invoke, builtin, hu1, Builtin.len_, ht, run_underlying hu, goInt]
      · cases h
    · rename_i hcal
      obtain ⟨vs, h1, h⟩ := Option.bind_eq_some_iff.1 h
      obtain ⟨r, h2, h⟩ := Option.bind_eq_some_iff.1 h
      obtain ⟨rfl, rfl⟩ := Prod.mk.inj (Option.some.inj h)
      have hL := argL_sound st h1
      obtain ⟨u, k1, k2⟩ := minmax_sound (P := pr.P) (stuck "max: at least one argument expected") vs (c.args.map a.eval).toList h2 (by simpa using hL.1) (fun i v hi => by
        have := hL.2 i v hi
        rwa [Array.getD_eq_getD_getElem?, ← Array.getElem?_toList, ← List.getD_eq_getElem?_getD] at this)
      refine .pure wf ?_ k2
      simp only [if_true] at k1
      unfold execOp
      have k3 : (Builtin.max_ c.argTypes o.type (c.args.map a.eval)).run pr.P w = .ok u w := by
        unfold Builtin.max_
        revert k1
        cases (c.args.map a.eval).toList <;> exact id
      simp only [ho, resolve, hcal, invoke, builtin, Sem.run_bind, Sem.run_pure, Result.andThen_ok, k3]
    · rename_i hcal
      obtain ⟨vs, h1, h⟩ := Option.bind_eq_some_iff.1 h
      obtain ⟨r, h2, h⟩ := Option.bind_eq_some_iff.1 h
      obtain ⟨rfl, rfl⟩ := Prod.mk.inj (Option.some.inj h)
      have hL := argL_sound st h1
      obtain ⟨u, k1, k2⟩ := minmax_sound (P := pr.P) (stuck "min: at least one argument expected") vs (c.args.map a.eval).toList h2 (by simpa using hL.1) (fun i v hi => by
        have := hL.2 i v hi
        rwa [Array.getD_eq_getD_getElem?, ← Array.getElem?_toList, ← List.getD_eq_getElem?_getD] at this)
      refine .pure wf ?_ k2
      simp only [Bool.false_eq_true, if_false] at k1
      unfold execOp
      have k3 : (Builtin.min_ c.argTypes o.type (c.args.map a.eval)).run pr.P w = .ok u w := by
        unfold Builtin.min_
        revert k1
        cases (c.args.map a.eval).toList <;> exact id
      simp only [ho, resolve, hcal, invoke, builtin, Sem.run_bind, Sem.run_pure, Result.andThen_ok, k3]
    · rename_i hcal
      obtain ⟨vs, h1, h⟩ := Option.bind_eq_some_iff.1 h
      have hL := argL_sound st h1
      split at h
      · rename_i x y t u ht1 ht2
        split at h
        · cases h
        · cases h
        · rename_i hnint hnn
          obtain ⟨e, h2, h⟩ := Option.bind_eq_some_iff.1 h
          obtain ⟨sz, h3, h⟩ := Option.bind_eq_some_iff.1 h
          obtain ⟨inf, h4, h⟩ := Option.bind_eq_some_iff.1 h
          obtain ⟨z, h5, h⟩ := Option.bind_eq_some_iff.1 h
          split at h
          · rename_i hz
            obtain ⟨⟨r, M1⟩, h6, h⟩ := Option.bind_eq_some_iff.1 h
            obtain ⟨rfl, rfl⟩ := Prod.mk.inj (Option.some.inj h)
            unfold elemT at h2
            split at h2
            · rename_i e' hu
              obtain rfl := Option.some.inj h2
              have hs : inf.size = sz := by
                unfold szT at h3
                rw [h4] at h3
                simpa using h3
              have q0 := hL.2 0 x rfl
              have q1 := hL.2 1 y rfl
              obtain ⟨sv, xv, hsv⟩ : ∃ sv xv, c.args.map a.eval = #[sv, xv] := by
                have hs : (c.args.map a.eval).size = 2 := by rw [← hL.1]; rfl
                match hm : c.args.map a.eval, hs with
                | ⟨[u, v]⟩, _ => exact ⟨u, v, rfl⟩
              rw [hsv] at q0 q1
              have q0 : RepV w F σ s.mem x sv := q0
              have q1 : RepV w F σ s.mem y xv := q1
              -- the second type
              cases hd : pr.P.underlying u with
              | none => exact absurd hd hnn
              | some d =>
                have hdi : ∀ k, d ≠ .int k := fun k e => hnint k (by rw [hd, e])
                obtain ⟨w', F', σ', cc, k1, k2, k3⟩ := appX_sound (ty := o.type) wf hu h4 h5 hz hd hdi hs h6 q0 q1
                refine .step ?_ k2 k3
                have hat : c.argTypes[0]? = some t ∧ c.argTypes[1]? = some u := ⟨ht1, ht2⟩
                have k1' : (Builtin.append_ c.argTypes o.type (c.args.map a.eval)).run pr.P w = .ok cc w' := by
                  rw [hsv, ← k1]
                  have e0 : c.argTypes[0]? = #[t, u][0]? := hat.1
                  have e1 : c.argTypes[1]? = #[t, u][1]? := hat.2
                  unfold Builtin.append_
                  simp only [e0, e1]
                unfold execOp
                simp only [ho, resolve, hcal, invoke, builtin, Sem.run_bind, Sem.run_pure, Result.andThen_ok]
                rw [k1']
                rfl
            · cases h2
          · cases h
      · cases h
    · rename_i hcal
      obtain ⟨vs, h1, h⟩ := Option.bind_eq_some_iff.1 h
      have hL := argL_sound st h1
      split at h
      · rename_i x t ht1
        obtain ⟨e, h2, h⟩ := Option.bind_eq_some_iff.1 h
        obtain ⟨sz, h3, h⟩ := Option.bind_eq_some_iff.1 h
        obtain ⟨z, h5, h⟩ := Option.bind_eq_some_iff.1 h
        obtain ⟨M1, h6, h⟩ := Option.bind_eq_some_iff.1 h
        obtain ⟨rfl, rfl⟩ := Prod.mk.inj (Option.some.inj h)
        unfold elemT at h2
        split at h2
        · rename_i e' hu
          obtain rfl := Option.some.inj h2
          have q0 := hL.2 0 x rfl
          obtain ⟨sv, hsv⟩ : ∃ sv, c.args.map a.eval = #[sv] := by
            have hs : (c.args.map a.eval).size = 1 := by rw [← hL.1]; rfl
            match hm : c.args.map a.eval, hs with
            | ⟨[u]⟩, _ => exact ⟨u, rfl⟩
          rw [hsv] at q0
          have q0 : RepV w F σ s.mem x sv := q0
          obtain ⟨w', k1, k2⟩ := clr_sound (P := pr.P) (ty := o.type) wf hu h3 h5 h6 q0
          refine .step (c := .tuple #[]) ?_ k2 (.undef _)
          have k1' : (Builtin.clear_ c.argTypes o.type (c.args.map a.eval)).run pr.P w = .ok (.tuple #[]) w' := by
            rw [hsv, ← k1]
            have e0 : c.argTypes[0]? = #[t][0]? := ht1
            unfold Builtin.clear_
            simp only [e0]
          unfold execOp
          simp only [ho, resolve, hcal, invoke, builtin, Sem.run_bind, Sem.run_pure, Result.andThen_ok]
          rw [k1']
          rfl
        · cases h2
      · cases h
    · rename_i hcal
      obtain ⟨vs, h1, h⟩ := Option.bind_eq_some_iff.1 h
      have hL := argL_sound st h1
      split at h
      · rename_i x y t ht1
        obtain ⟨e, h2, h⟩ := Option.bind_eq_some_iff.1 h
        obtain ⟨sz, h3, h⟩ := Option.bind_eq_some_iff.1 h
        obtain ⟨⟨k, M1⟩, h6, h⟩ := Option.bind_eq_some_iff.1 h
        obtain ⟨rfl, rfl⟩ := Prod.mk.inj (Option.some.inj h)
        unfold elemT at h2
        split at h2
        · rename_i e' hu
          obtain rfl := Option.some.inj h2
          have q0 := hL.2 0 x rfl
          have q1 := hL.2 1 y rfl
          obtain ⟨sv, xv, hsv⟩ : ∃ sv xv, c.args.map a.eval = #[sv, xv] := by
            have hs : (c.args.map a.eval).size = 2 := by rw [← hL.1]; rfl
            match hm : c.args.map a.eval, hs with
            | ⟨[u, v]⟩, _ => exact ⟨u, v, rfl⟩
          rw [hsv] at q0 q1
          have q0 : RepV w F σ s.mem x sv := q0
          have q1 : RepV w F σ s.mem y xv := q1
          obtain ⟨w', k1, k2⟩ := cpy_sound (P := pr.P) (u := t) (ty := o.type) wf hu h3 h6 q0 q1
          refine .step (c := goInt k) ?_ k2 (.t (.int .i64 k))
          have k1' : (Builtin.copy_ c.argTypes o.type (c.args.map a.eval)).run pr.P w = .ok (goInt k) w' := by
            rw [hsv, ← k1]
            have e0 : c.argTypes[0]? = #[t, t][0]? := ht1
            unfold Builtin.copy_
            simp only [e0]
          unfold execOp
          simp only [ho, resolve, hcal, invoke, builtin, Sem.run_bind, Sem.run_pure, Result.andThen_ok]
          rw [k1']
          rfl
        · cases h2
      · cases h
    · rename_i f hcal
      obtain ⟨vs, h1, h⟩ := Option.bind_eq_some_iff.1 h
      have hL := argL_sound st h1
      refine call_ok hE wf h hL fun hc => ?_
      unfold execOp
      simp only [ho, resolve, hcal, Sem.run_bind]
      simp [Act.eval, Deferred.ofValue, invoke, run_callFunc hc]
    · rename_i x hnf hcal
      obtain ⟨fv, h1, h⟩ := Option.bind_eq_some_iff.1 h
      obtain ⟨vs, h2, h⟩ := Option.bind_eq_some_iff.1 h
      have hL := argL_sound st h2
      have hf := rep_arg st h1
      unfold callV at h
      have ap : ∀ (l1 l2 : List V) (c1 c2 : Array Value), RepL w F σ s.mem l1 c1 → RepL w F σ s.mem l2 c2 → RepL w F σ s.mem (l1 ++ l2) (c1 ++ c2) := fun l1 l2 c1 c2 r1 r2 => by
        refine ⟨by simp [r1.1, r2.1], fun i v hi => ?_⟩
        by_cases hlt : i < l1.length
        · rw [List.getElem?_append_left hlt] at hi
          have := r1.2 i v hi
          rw [Array.getD_eq_getD_getElem?] at this ⊢
          rwa [Array.getElem?_append, if_pos (by rw [← r1.1]; exact hlt)]
        · rw [List.getElem?_append_right (by omega)] at hi
          have := r2.2 _ v hi
          rw [Array.getD_eq_getD_getElem?] at this ⊢
          rwa [Array.getElem?_append, if_neg (by rw [← r1.1]; exact hlt), ← r1.1]
      split at h
      · rename_i f caps
        cases hf with
        | t hf =>
          generalize hev : a.eval x = fx at hf
          cases hf with
          | clo hl hr =>
            rename_i vals
            refine call_ok hE wf h (ap _ _ _ vals hL ⟨by simpa using hl, fun i v hi => ?_⟩) fun hc => ?_
            · rw [List.getElem?_map, Option.map_eq_some_iff] at hi
              obtain ⟨t, ht, rfl⟩ := hi
              exact .t (hr i t ht)
            · unfold execOp
              simp only [ho, resolve, hcal, Sem.run_bind]
              simp [hev, Deferred.ofValue, invoke, run_callFunc hc]
      · rename_i f caps
        generalize hev : a.eval x = fx at hf
        cases hf with
        | clo hl hr =>
          rename_i vals
          refine call_ok hE wf h (ap _ _ _ vals hL ⟨hl, hr⟩) fun hc => ?_
          unfold execOp
          simp only [ho, resolve, hcal, Sem.run_bind]
          simp [hev, Deferred.ofValue, invoke, run_callFunc hc]
      · cases h
    · cases h
  · cases h
end
end Go.Ev

namespace Go.Ev
set_option linter.unusedVariables false
set_option linter.unusedSimpArgs false
section
variable {w : World} {F : Nat → Prop} {σ : Sg} {M : Mem}
theorem opFK_sound {pr : Pr} {E : Q → Option Out} (hE : CallOk pr.P E) {frz : List Nat} {nest : Bool} {o : Oper} {s : S} {a : Act} {v : V} {M' : Mem} (st : St w F σ s a)
    (h : opFK pr E frz nest o s (fun v M => some (v, M)) = some (v, M')) : OpOk pr.P o a w F σ s.mem v M' := by
  unfold opFK at h
  simp only [Bool.cond_eq_ite] at h
  split at h
  · rw [opK_bind] at h
    obtain ⟨⟨v1, M1⟩, h1, h⟩ := Option.bind_eq_some_iff.1 h
    obtain ⟨⟨v2, M2⟩, h2, h⟩ := Option.bind_eq_some_iff.1 h
    obtain ⟨L, h3, h⟩ := Option.bind_eq_some_iff.1 h
    split at h
    · obtain ⟨rfl, rfl⟩ := Prod.mk.inj (Option.some.inj h)
      intro next Q hn
      refine opK_sound hE st h1 next Q fun c w' F' σ' s1 r1 => ?_
      obtain ⟨F2, s2, r2⟩ := mvV_sound s1.wf h2 r1
      exact hn c w' F2 σ' (s1.trans s2) r2
    · cases h
  · exact opK_sound hE st h
structure Ac (nt : Nat) (a : Act) : Prop where
  size : a.tmps.size = nt
  defers : a.defers = []
theorem put_size (a : Act) (d : Option Tmp) (c : Value) : (a.put d c).tmps.size = a.tmps.size := by cases d <;> simp [Act.put]
theorem put_defers (a : Act) (d : Option Tmp) (c : Value) : (a.put d c).defers = a.defers := by cases d <;> rfl
theorem fin_sound {nt : Nat} {o : Oper} {s s' : S} {a : Act} {v : V} {M' : Mem} {w' : World} {F' : Nat → Prop} {σ' : Sg} {c : Value} (st : St w F σ s a) (ac : Ac nt a) (h : fin nt o s v M' some = some s')
    (hs : Step w F σ s.mem w' F' σ' M') (hr : RepV w' F' σ' M' v c) : s'.mem = M' ∧ s'.k0 = s.k0 ∧ St w' F' σ' s' (a.put o.dst c) ∧ Ac nt (a.put o.dst c) := by
  unfold fin at h
  cases hd : o.dst with
  | none =>
    rw [hd] at h
    obtain rfl := Option.some.inj h
    exact ⟨rfl, rfl, ⟨hs.wf, fun t => (st.env t).mono hs.le⟩, ac⟩
  | some d =>
    rw [hd] at h
    dsimp only at h
    split at h
    · rename_i hlt
      obtain rfl := Option.some.inj h
      refine ⟨rfl, rfl, ⟨hs.wf, fun t => ?_⟩, ⟨by rw [put_size]; exact ac.size, by rw [put_defers]; exact ac.defers⟩⟩
      by_cases e : t = d
      · subst e
        simp only [upd_same, Act.put]
        rw [Array.getD_eq_getD_getElem?, Array.getElem?_setIfInBounds_self_of_lt (by rw [ac.size]; exact hlt)]
        exact hr
      · simp only [upd_ne s.env _ e, Act.put]
        rw [Array.getD_eq_getD_getElem?, Array.getElem?_setIfInBounds_ne (fun h => e h.symm), ← Array.getD_eq_getD_getElem?]
        exact (st.env t).mono hs.le
    · cases h
theorem wantV_sound {ops : Array Oper} {s : S} {a : Act} {j : Nat} {b y : Bool} (st : St w F σ s a) (h : wantV ops s.env j b = some y) : (yielded ops a.tmps j == some b) = y := by
  unfold wantV at h
  unfold yielded
  split at h
  · rename_i t ht
    rw [ht]
    have he := st.env t
    split at h
    · rename_i b' hb'
      rw [hb'] at he
      have e := rep_bool he
      obtain rfl := Option.some.inj h
      have : a.tmps[t]? = some (.bool b') := by
        rw [Array.getD_eq_getD_getElem?] at e
        cases hx : a.tmps[t]? with
        | none => rw [hx] at e; cases e
        | some x => rw [hx] at e; rw [← e]; rfl
      simp [this]
    · rename_i hb'
      rw [hb'] at he
      obtain rfl := Option.some.inj h
      have e : a.tmps.getD t Go.undef = .tuple #[] := by
        generalize hc : a.tmps.getD t Go.undef = c at he
        cases he with
        | tup hl hv =>
          rename_i cs
          have : cs = #[] := Array.size_eq_zero_iff.1 (by simpa using hl.symm)
          rw [this]
      rw [Array.getD_eq_getD_getElem?] at e
      cases hx : a.tmps[t]? with
      | none => simp [hx]
      | some x => rw [hx] at e; simp only [Option.getD_some] at e; subst e; simp [hx]
    · cases h
  · cases h
def Op1Ok (P : Program) (nt : Nat) (ops : Array Oper) (i : Nat) (a : Act) (w : World) (F : Nat → Prop) (σ : Sg) (s s' : S) : Prop :=
  ∀ (K : Act → World → Prop) (Q : Exit → Act → World → Prop), (∀ a' w' F' σ', Step w F σ s.mem w' F' σ' s'.mem → St w' F' σ' s' a' → Ac nt a' → K a' w') → wpOp P ops Q i K a w
theorem op1_k0 {pr : Pr} {E : Q → Option Out} {nt : Nat} {frz : List Nat} {nest : Bool} {ops : Array Oper} {o : Oper} {s s' : S} (h : op1K pr E nt frz nest ops o s some = some s') : s'.k0 = s.k0 := by
  have key : ∀ v M, fin nt o s v M some = some s' → s'.k0 = s.k0 := fun v M h => by
    unfold fin at h
    split at h
    · split at h
      · obtain rfl := Option.some.inj h; rfl
      · cases h
    · obtain rfl := Option.some.inj h; rfl
  unfold op1K at h
  split at h
  · rw [opFK_bind] at h
    obtain ⟨p, _, h⟩ := Option.bind_eq_some_iff.1 h
    exact key _ _ h
  · obtain ⟨y, _, h⟩ := Option.bind_eq_some_iff.1 h
    obtain ⟨p, _, h⟩ := Option.bind_eq_some_iff.1 h
    exact key _ _ h
theorem op1_sound {pr : Pr} {E : Q → Option Out} (hE : CallOk pr.P E) {nt : Nat} {frz : List Nat} {nest : Bool} {ops : Array Oper} {i : Nat} {o : Oper} {s s' : S} {a : Act} (ho : ops[i]? = some o) (st : St w F σ s a) (ac : Ac nt a)
    (h : op1K pr E nt frz nest ops o s some = some s') : Op1Ok pr.P nt ops i a w F σ s s' := by
  intro K Q hK
  unfold wpOp
  simp only [ho]
  unfold op1K at h
  split at h
  · rename_i hg
    rw [opFK_bind] at h
    obtain ⟨⟨v, M'⟩, h1, h⟩ := Option.bind_eq_some_iff.1 h
    have hw : Region.wanted o (yielded ops a.tmps) = true := by unfold Region.wanted; rw [hg]
    rw [if_pos hw]
    refine .inl (opFK_sound hE st h1 _ _ fun c w' F' σ' hs hr => ?_)
    obtain ⟨k1, k2, k3, k4⟩ := fin_sound st ac h hs hr
    exact hK _ _ _ _ (by rw [k1]; exact hs) k3 k4
  · rename_i j b hg
    obtain ⟨y, hy, hb⟩ := Option.bind_eq_some_iff.1 h
    obtain ⟨⟨v, M'⟩, h1, hf⟩ := Option.bind_eq_some_iff.1 hb
    have hf : fin nt o s v M' some = some s' := hf
    clear h hb
    have hw : Region.wanted o (yielded ops a.tmps) = y := by unfold Region.wanted; rw [hg]; exact wantV_sound st hy
    cases y with
    | true =>
      rw [if_pos hw]
      simp only [cond_true] at h1
      refine .inl (opFK_sound hE st h1 _ _ fun c w' F' σ' hs hr => ?_)
      obtain ⟨k1, k2, k3, k4⟩ := fin_sound st ac hf hs hr
      exact hK _ _ _ _ (by rw [k1]; exact hs) k3 k4
    | false =>
      rw [if_neg (by rw [hw]; simp)]
      simp only [cond_false] at h1
      obtain ⟨rfl, rfl⟩ := Prod.mk.inj (Option.some.inj h1)
      obtain ⟨k1, k2, k3, k4⟩ := fin_sound st ac hf (.refl st.wf) (show RepV w F σ s.mem (.tup []) Go.undef from .tup rfl fun i v hi => by simp at hi)
      exact hK _ _ _ _ (by rw [k1]; exact .refl st.wf) k3 k4
def RegOk (nt : Nat) (w : World) (F : Nat → Prop) (σ : Sg) (s s' : S) (a' : Act) (w' : World) : Prop :=
  ∃ F' σ', Step w F σ s.mem w' F' σ' s'.mem ∧ St w' F' σ' s' a' ∧ Ac nt a' ∧ s'.k0 = s.k0
theorem opsK_sound {pr : Pr} {E : Q → Option Out} (hE : CallOk pr.P E) {nt : Nat} {frz : List Nat} {nest : Bool} {ops : Array Oper} {Q : Exit → Act → World → Prop} : ∀ (l : List Nat) {w : World} {F : Nat → Prop} {σ : Sg} {s s' : S} {a : Act}, St w F σ s a → Ac nt a →
    opsK pr E nt frz nest ops l s some = some s' → (∀ a' w', RegOk nt w F σ s s' a' w' → Q .normal a' w') → wpOps pr.P ops Q l a w
  | [], w, F, σ, s, s', a, st, ac, h, hQ => by
    obtain rfl := Option.some.inj h
    exact hQ a w ⟨F, σ, .refl st.wf, st, ac, rfl⟩
  | i :: l, w, F, σ, s, s', a, st, ac, h, hQ => by
    simp only [opsK] at h
    split at h
    · rename_i o ho
      rw [op1K_bind] at h
      obtain ⟨s1, h1, h⟩ := Option.bind_eq_some_iff.1 h
      rw [wpOps_cons]
      refine op1_sound hE ho st ac h1 _ _ fun a' w' F' σ' hs st' ac' => opsK_sound hE l st' ac' h fun a'' w'' ⟨F2, σ2, q1, q2, q3, q4⟩ => ?_
      exact hQ a'' w'' ⟨F2, σ2, hs.trans q1, q2, q3, q4.trans (op1_k0 h1)⟩
    · cases h
theorem region_sound {pr : Pr} {E : Q → Option Out} (hE : CallOk pr.P E) {nt : Nat} {frz : List Nat} {nest : Bool} {id : Nat} {ops : Array Oper} {s s' : S} {a : Act} (st : St w F σ s a) (ac : Ac nt a)
    (h : opsK pr E nt frz nest ops (List.range ops.size) s some = some s') (Q : Exit → Act → World → Prop) (hQ : ∀ a' w', RegOk nt w F σ s s' a' w' → Q .normal a' w') : (Code.region id ops false).wp pr.P Q a w :=
  wp_region (opsK_sound hE _ st ac h hQ)
end
end Go.Ev

namespace Go.Ev
set_option linter.unusedVariables false
set_option linter.unusedSimpArgs false
open Classical in
noncomputable def patch (I : Nat → Prop) (M N : Mem) : Mem := fun id => if I id then M id else N id
theorem patch_in {I : Nat → Prop} {M N : Mem} {id : Nat} (h : I id) : patch I M N id = M id := by unfold patch; rw [if_pos h]
theorem patch_out {I : Nat → Prop} {M N : Mem} {id : Nat} (h : ¬ I id) : patch I M N id = N id := by unfold patch; rw [if_neg h]
theorem patch_same {I : Nat → Prop} {M N : Mem} (h : ∀ id, I id → N id = M id) : patch I M N = N := by
  funext id
  by_cases hi : I id
  · rw [patch_in hi, h id hi]
  · rw [patch_out hi]
theorem patch_patch {I : Nat → Prop} {M M1 N : Mem} : patch I M (patch I M1 N) = patch I M N := by
  funext id
  by_cases hi : I id
  · rw [patch_in hi, patch_in hi]
  · rw [patch_out hi, patch_out hi, patch_out hi]
def LocAt {α : Type} (I : Nat → Prop) (M : Mem) (f : Mem → Option (α × Mem)) : Prop :=
  ∀ v M', f M = some (v, M') → (∀ id, ¬ I id → M' id = M id) ∧ ∀ N, (∀ id, I id → N id = M id) → f N = some (v, patch I M' N)
theorem LocAt.bind {α β : Type} {I : Nat → Prop} {M : Mem} {f : Mem → Option (α × Mem)} {g : α → Mem → Option (β × Mem)} (hf : LocAt I M f) (hg : ∀ v M1, f M = some (v, M1) → LocAt I M1 (g v)) :
    LocAt I M fun M => (f M).bind fun p => g p.1 p.2 := by
  intro v M' h
  obtain ⟨⟨u, M1⟩, h1, h2⟩ := Option.bind_eq_some_iff.1 h
  obtain ⟨a1, a2⟩ := hf u M1 h1
  obtain ⟨b1, b2⟩ := hg u M1 h1 v M' h2
  refine ⟨fun id hi => (b1 id hi).trans (a1 id hi), fun N hN => ?_⟩
  dsimp only
  rw [a2 N hN, Option.bind_some, b2 (patch I M1 N) fun id hi => patch_in hi, patch_patch]
theorem LocAt.val {α : Type} {I : Nat → Prop} {M : Mem} (v : α) : LocAt I M fun M => some (v, M) := by
  intro v' M' h
  obtain ⟨rfl, rfl⟩ := Prod.mk.inj (Option.some.inj h)
  exact ⟨fun _ _ => rfl, fun N hN => by rw [patch_same hN]⟩
theorem LocAt.none {α : Type} {I : Nat → Prop} {M : Mem} : LocAt I M (fun _ => (none : Option (α × Mem))) := by
  intro v' M' h; cases h
def RdAt {α : Type} (I : Nat → Prop) (M : Mem) (f : Mem → Option α) : Prop := ∀ v, f M = some v → ∀ N, (∀ id, I id → N id = M id) → f N = some v
theorem RdAt.loc {α β : Type} {I : Nat → Prop} {M : Mem} {f : Mem → Option α} {g : α → Mem → Option (β × Mem)} (hf : RdAt I M f) (hg : ∀ v, f M = some v → LocAt I M (g v)) : LocAt I M fun M => (f M).bind fun v => g v M := by
  intro v M' h
  obtain ⟨u, h1, h2⟩ := Option.bind_eq_some_iff.1 h
  obtain ⟨b1, b2⟩ := hg u h1 v M' h2
  exact ⟨b1, fun N hN => by dsimp only; rw [hf u h1 N hN, Option.bind_some, b2 N hN]⟩
theorem RdAt.const {α : Type} {I : Nat → Prop} {M : Mem} (x : Option α) : RdAt I M fun _ => x := fun v h N _ => h
theorem RdAt.bind {α β : Type} {I : Nat → Prop} {M : Mem} {f : Mem → Option α} {g : α → Mem → Option β} (hf : RdAt I M f) (hg : ∀ v, f M = some v → RdAt I M (g v)) : RdAt I M fun M => (f M).bind fun v => g v M := by
  intro v h N hN
  obtain ⟨u, h1, h2⟩ := Option.bind_eq_some_iff.1 h
  dsimp only
  rw [hf u h1 N hN, Option.bind_some]
  exact hg u h1 v h2 N hN
theorem RdAt.map {α β : Type} {I : Nat → Prop} {M : Mem} {f : Mem → Option α} {g : α → β} (hf : RdAt I M f) : RdAt I M fun M => (f M).map g := by
  intro v h N hN
  obtain ⟨u, h1, rfl⟩ := Option.map_eq_some_iff.1 h
  dsimp only
  rw [hf u h1 N hN]; rfl
theorem RdAt.mapM {α β : Type} {I : Nat → Prop} {M : Mem} {f : α → Mem → Option β} : ∀ {l : List α}, (∀ a ∈ l, RdAt I M (f a)) → RdAt I M fun M => l.mapM fun a => f a M
  | [], _ => fun v h N _ => h
  | a :: l, hf => by
    intro v h N hN
    dsimp only at h ⊢
    rw [List.mapM_cons] at h ⊢
    obtain ⟨b, h1, h⟩ := Option.bind_eq_some_iff.1 h
    obtain ⟨r, h2, h⟩ := Option.bind_eq_some_iff.1 h
    show ((f a N).bind fun b => ((l.mapM fun a => f a N).bind fun r => pure (b :: r))) = some v
    have ih : (l.mapM fun a => f a N) = some r := RdAt.mapM (l := l) (fun x hx => hf x (by simp [hx])) r h2 N hN
    rw [hf a (by simp) b h1 N hN, Option.bind_some, ih, Option.bind_some]
    exact h
section
variable {I : Nat → Prop} {M : Mem}
theorem rd_loc {p : V} {k : Nat} (h : ∀ r ∈ p.refs, I r) : RdAt I M fun M => rd M p k := by
  intro v hv N hN
  unfold rd at hv ⊢
  cases p with
  | ptr id n i o => dsimp only at hv ⊢; rw [hN id (h id (by simp [V.refs]))]; exact hv
  | rptr id n i j e o => dsimp only at hv ⊢; rw [hN id (h id (by simp [V.refs]))]; exact hv
  | t x => cases x <;> exact hv
  | _ => exact hv
theorem rds_loc {p : V} (h : ∀ r ∈ p.refs, I r) : ∀ n i, RdAt I M fun M => rds M p i n
  | 0, i => RdAt.const _
  | n + 1, i => (rd_loc h).bind fun v _ => (rds_loc h n (i + 1)).map
theorem ld_loc {p : V} {ag : Bool} {n : Nat} (h : ∀ r ∈ p.refs, I r) : RdAt I M fun M => ld M p ag n := by
  intro v hv N hN
  unfold ld at hv ⊢
  cases ag with
  | false => exact rd_loc h v hv N hN
  | true =>
    simp only [cond_true] at hv ⊢
    cases hn : (n == 0) with
    | true => rw [hn] at hv; cases hv
    | false =>
      rw [hn] at hv
      simp only [cond_false] at hv ⊢
      exact (rds_loc h n 0).map v hv N hN
theorem fz_loc (hc : ∀ id, I id → ∀ r ∈ orefs (M id), I r) : ∀ (k : Nat) (v : V), (∀ r ∈ v.refs, I r) → RdAt I M fun M => fz M k v
  | 0, v, h => RdAt.const _
  | k + 1, v, h => by
    intro x hx N hN
    cases v with
    | vec id n sz off len => simp only [fz] at hx ⊢; rw [hN id (h id (by simp [V.refs]))]; exact hx
    | row id n i j sz len => simp only [fz] at hx ⊢; rw [hN id (h id (by simp [V.refs]))]; exact hx
    | ptr id n i o =>
      have hid := h id (by simp [V.refs])
      simp only [fz] at hx ⊢
      rw [hN id hid]
      cases hM : M id with
      | none => rw [hM] at hx; exact hx
      | some ob =>
        rw [hM] at hx
        cases ob with
        | box cs =>
          dsimp only at hx ⊢
          split at hx
          · rename_i hcond
            rw [if_pos hcond]
            refine (RdAt.mapM (f := fun v M => fz M k v) (l := cs) fun a ha => fz_loc hc k a fun r hr => ?_).map x hx N hN
            obtain ⟨i, hi⟩ := List.getElem?_of_mem ha
            exact hc id hid r (by rw [hM]; exact refsL_mem hi hr)
          · cases hx
        | vec fl sz es => exact hx
        | dead => exact hx
    | clo f caps =>
      simp only [fz] at hx ⊢
      refine (RdAt.mapM (f := fun v M => fz M k v) (l := caps) fun a ha => fz_loc hc k a fun r hr => ?_).map x hx N hN
      obtain ⟨i, hi⟩ := List.getElem?_of_mem ha
      exact h r (by simp only [V.refs]; exact refsL_mem hi hr)
    | _ => exact hx
theorem fz1_loc (hc : ∀ id, I id → ∀ r ∈ orefs (M id), I r) {v : V} (h : ∀ r ∈ v.refs, I r) : RdAt I M fun M => fz1 M v := by
  intro x hx N hN
  cases v with
  | agg vs =>
    simp only [fz1] at hx ⊢
    refine (RdAt.mapM (f := fun v M => fz M 16 v) (l := vs) fun a ha => fz_loc hc 16 a fun r hr => ?_).map x hx N hN
    obtain ⟨i, hi⟩ := List.getElem?_of_mem ha
    exact h r (by simp only [V.refs]; exact refsL_mem hi hr)
  | _ => exact (fz_loc hc 16 _ h).map (g := V.t) x hx N hN
theorem fzV_loc (hc : ∀ id, I id → ∀ r ∈ orefs (M id), I r) {v : V} (h : ∀ r ∈ v.refs, I r) : RdAt I M fun M => fzV M v := by
  intro x hx N hN
  cases v with
  | tup vs =>
    simp only [fzV] at hx ⊢
    refine (RdAt.mapM (f := fun v M => fz1 M v) (l := vs) fun a ha => fz1_loc hc fun r hr => ?_).map x hx N hN
    obtain ⟨i, hi⟩ := List.getElem?_of_mem ha
    exact h r (by simp only [V.refs]; exact refsL_mem hi hr)
  | _ => exact fz1_loc hc h x hx N hN
theorem clos_sub (hc : ∀ id, I id → ∀ r ∈ orefs (M id), I r) : ∀ (n : Nat) {todo done L : List Nat}, clos M n todo done = some L → (∀ x ∈ todo, I x) → (∀ x ∈ done, I x) → ∀ x ∈ L, I x
  | 0, todo, done, L, h, _, _ => by simp [clos] at h
  | n + 1, [], done, L, h, _, hd => by obtain rfl := Option.some.inj h; exact hd
  | n + 1, id :: todo, done, L, h, ht, hd => by
    simp only [clos] at h
    split at h
    · exact clos_sub hc n h (fun x hx => ht x (by simp [hx])) hd
    · refine clos_sub hc n h (fun x hx => ?_) (fun x hx => ?_)
      · rcases List.mem_append.1 hx with hx | hx
        · exact ht x (by simp [hx])
        · exact hc id (ht id (by simp)) x hx
      · rcases List.mem_append.1 hx with hx | hx
        · exact hd x hx
        · obtain rfl : x = id := by simpa using hx
          exact ht x (by simp)
theorem clos_loc {N : Mem} : ∀ (n : Nat) {todo done L : List Nat}, clos M n todo done = some L → (∀ x ∈ L, N x = M x) → clos N n todo done = some L
  | 0, todo, done, L, h, _ => by simp [clos] at h
  | n + 1, [], done, L, h, _ => h
  | n + 1, id :: todo, done, L, h, hN => by
    simp only [clos] at h ⊢
    split at h
    · rename_i hcd
      rw [if_pos hcd]
      exact clos_loc n h hN
    · rename_i hcd
      rw [if_neg hcd]
      obtain ⟨r, hr⟩ := clos_prefix n h
      have : N id = M id := hN id (by rw [hr]; simp)
      rw [this]
      exact clos_loc n h hN
theorem clos_rd {rs : List Nat} (hc : ∀ id, I id → ∀ r ∈ orefs (M id), I r) (h : ∀ r ∈ rs, I r) : RdAt I M fun M => clos M fuel0 rs [] :=
  fun L hL N hN => clos_loc fuel0 hL fun x hx => hN x (clos_sub hc fuel0 hL h (by simp) x hx)
theorem LocAt.set {α : Type} {v : α} {id : Nat} {o : Option Ob} (h : I id) : LocAt I M fun M => some (v, upd M id o) := by
  intro v' M' he
  obtain ⟨rfl, rfl⟩ := Prod.mk.inj (Option.some.inj he)
  refine ⟨fun x hx => upd_ne M o (fun e => hx (e ▸ h)), fun N hN => congrArg (fun m => some (v, m)) ?_⟩
  funext x
  by_cases e : x = id
  · subst e; rw [patch_in h, upd_same, upd_same]
  · rw [upd_ne N o e]
    by_cases hx : I x
    · rw [patch_in hx, upd_ne M o e, hN x hx]
    · rw [patch_out hx]
theorem mk_loc {nb : Nat} {o : Ob} (h : I nb) : LocAt I M fun M => (mk nb M o).map fun M' => ((), M') := by
  intro v' M' he
  obtain ⟨M1, h1, h2⟩ := Option.map_eq_some_iff.1 he
  obtain ⟨_, rfl⟩ := Prod.mk.inj h2
  unfold mk at h1
  split at h1
  · rename_i hn
    obtain rfl := Option.some.inj h1
    obtain ⟨a, b⟩ := LocAt.set (M := M) (v := ()) (o := some o) h () _ rfl
    refine ⟨a, fun N hN => ?_⟩
    have := b N hN
    have hn' : (N nb).isNone = true := by rw [hN nb h]; exact hn
    show (mk nb N o).map _ = _
    unfold mk
    rw [if_pos hn']
    exact this
  · cases h1
theorem mk_locV {α : Type} {nb : Nat} {o : Ob} (v : α) (h : I nb) : LocAt I M fun M => (mk nb M o).map fun M' => (v, M') := by
  have := (mk_loc (o := o) (M := M) h).bind (g := fun _ M => some (v, M)) fun _ _ _ => LocAt.val v
  intro v' M' he
  have e : ∀ M, ((mk nb M o).map fun M' => (v, M')) = (((mk nb M o).map fun M' => ((), M')).bind fun p => some (v, p.2)) := fun M => by cases mk nb M o <;> rfl
  have he' := he
  dsimp only at he'
  rw [e] at he'
  obtain ⟨a, b⟩ := this v' M' he'
  exact ⟨a, fun N hN => by show ((mk nb N o).map fun M' => (v, M')) = _; rw [e]; exact b N hN⟩
theorem newBox_loc {nb : Nat} {vs : List V} (h : I nb) : LocAt I M fun M => newBox nb M vs := by
  unfold newBox
  split
  · exact mk_locV _ h
  · exact LocAt.none
theorem killL_loc {α : Type} {v : α} {L : List Nat} (h : ∀ x ∈ L, I x) : LocAt I M fun M => some (v, killL L M) := by
  intro v' M' he
  obtain ⟨rfl, rfl⟩ := Prod.mk.inj (Option.some.inj he)
  have hk : ∀ (M : Mem) x, x ∉ L → killL L M x = M x := fun M x hx => by unfold killL; rw [if_neg (by simpa using hx)]
  have hd : ∀ (M : Mem) x, x ∈ L → killL L M x = some .dead := fun M x hx => by unfold killL; rw [if_pos (by simpa using hx)]
  refine ⟨fun x hx => hk M x fun hm => hx (h x hm), fun N hN => congrArg (fun m => some (v, m)) ?_⟩
  funext x
  by_cases hm : x ∈ L
  · rw [hd N x hm, patch_in (h x hm), hd M x hm]
  · rw [hk N x hm]
    by_cases hx : I x
    · rw [patch_in hx, hk M x hm, hN x hx]
    · rw [patch_out hx]
theorem mvV_loc (hc : ∀ id, I id → ∀ r ∈ orefs (M id), I r) {v : V} (h : ∀ r ∈ v.refs, I r) : LocAt I M fun M => mvV M v := by
  unfold mvV
  refine RdAt.loc (fzV_loc hc h) fun v' _ => ?_
  cases v with
  | t x => exact LocAt.val _
  | _ =>
    intro u M' he
    obtain ⟨L, h1, h2⟩ := Option.map_eq_some_iff.1 he
    obtain ⟨a, b⟩ := killL_loc (M := M) (v := v') (clos_sub hc fuel0 h1 h (by simp)) u M' (congrArg some h2)
    refine ⟨a, fun N hN => ?_⟩
    have := clos_rd hc h L h1 N hN
    dsimp only at this
    have hb := b N hN
    show ((clos N fuel0 _ []).map fun L => (v', killL L N)) = _
    rw [this]
    exact hb
theorem killL_refs {L : List Nat} {id r : Nat} (h : r ∈ orefs (killL L M id)) : r ∈ orefs (M id) := by
  unfold killL at h
  split at h
  · simp [orefs, Ob.refs] at h
  · exact h
theorem mvV_closed (hc : ∀ id, I id → ∀ r ∈ orefs (M id), I r) {v v' : V} {M' : Mem} (h : mvV M v = some (v', M')) : ∀ id, I id → ∀ r ∈ orefs (M' id), I r := by
  unfold mvV at h
  obtain ⟨x, _, h⟩ := Option.bind_eq_some_iff.1 h
  split at h
  · obtain ⟨_, rfl⟩ := Prod.mk.inj (Option.some.inj h); exact hc
  · obtain ⟨L, _, h⟩ := Option.map_eq_some_iff.1 h
    obtain ⟨_, rfl⟩ := Prod.mk.inj h
    exact fun id hi r hr => hc id hi r (killL_refs hr)
end
end Go.Ev

namespace Go.Ev
set_option linter.unusedVariables false
set_option linter.unusedSimpArgs false
theorem LocAt.bind' {α β : Type} {I : Nat → Prop} {M : Mem} {f : Mem → Option (α × Mem)} {g : α × Mem → Option (β × Mem)} (hf : LocAt I M f) (hg : ∀ v M1, f M = some (v, M1) → LocAt I M1 fun M => g (v, M)) :
    LocAt I M fun M => (f M).bind g := by
  intro v M' h
  obtain ⟨⟨u, M1⟩, h1, h2⟩ := Option.bind_eq_some_iff.1 h
  obtain ⟨a1, a2⟩ := hf u M1 h1
  obtain ⟨b1, b2⟩ := hg u M1 h1 v M' h2
  refine ⟨fun id hi => (b1 id hi).trans (a1 id hi), fun N hN => ?_⟩
  dsimp only
  rw [a2 N hN, Option.bind_some]
  have := b2 (patch I M1 N) fun id hi => patch_in hi
  dsimp only at this
  rw [this, patch_patch]
theorem LocAt.map' {α β : Type} {I : Nat → Prop} {M : Mem} {f : Mem → Option (α × Mem)} {g : α → β} (hf : LocAt I M f) : LocAt I M fun M => (f M).map fun p => (g p.1, p.2) := by
  intro v M' h
  obtain ⟨⟨u, M1⟩, h1, h2⟩ := Option.map_eq_some_iff.1 h
  obtain ⟨rfl, rfl⟩ := Prod.mk.inj h2
  obtain ⟨a1, a2⟩ := hf u M1 h1
  exact ⟨a1, fun N hN => by dsimp only; rw [a2 N hN]; rfl⟩
theorem LocAt.mono {α : Type} {I J : Nat → Prop} {M : Mem} {f : Mem → Option (α × Mem)} (hf : LocAt I M f) (h : ∀ id, I id → J id) : LocAt J M f := by
  intro v M' he
  obtain ⟨a, b⟩ := hf v M' he
  refine ⟨fun id hi => a id fun hI => hi (h id hI), fun N hN => ?_⟩
  rw [b N fun id hi => hN id (h id hi)]
  refine congrArg (fun m => some (v, m)) (funext fun id => ?_)
  by_cases hi : I id
  · rw [patch_in hi, patch_in (h id hi)]
  · rw [patch_out hi]
    by_cases hj : J id
    · rw [patch_in hj, a id hi, hN id hj]
    · rw [patch_out hj]
theorem LocAt.congr {α : Type} {I : Nat → Prop} {M : Mem} {f g : Mem → Option (α × Mem)} (h : ∀ M, f M = g M) (hg : LocAt I M g) : LocAt I M f := (funext h : f = g) ▸ hg
section
variable {I : Nat → Prop} {M : Mem}
theorem toC_loc {nest : Bool} (hc : ∀ id, I id → ∀ r ∈ orefs (M id), I r) {v : V} (h : ∀ r ∈ v.refs, I r) : LocAt I M fun M => toC nest M v := by
  have key : ∀ u : V, (∀ r ∈ u.refs, I r) → LocAt I M fun M => (mvV M u).bind fun | (.t x, M') => some (C.t x, M') | _ => none := fun u hu =>
    (mvV_loc hc hu).bind' fun v' M1 _ => by cases v' <;> first | exact LocAt.val _ | exact LocAt.none
  cases v with
  | t x => exact LocAt.val _
  | vec id n sz off len =>
    cases nest
    · exact key _ h
    · exact LocAt.none
  | _ => exact key _ h
theorem toC_closed {nest : Bool} (hc : ∀ id, I id → ∀ r ∈ orefs (M id), I r) {v : V} {c : C} {M' : Mem} (h : toC nest M v = some (c, M')) : ∀ id, I id → ∀ r ∈ orefs (M' id), I r := by
  have key : ∀ u : V, ((mvV M u).bind fun | (.t x, M') => some (C.t x, M') | _ => none) = some (c, M') → ∀ id, I id → ∀ r ∈ orefs (M' id), I r := fun u hu => by
    obtain ⟨⟨v', M1⟩, h1, h2⟩ := Option.bind_eq_some_iff.1 hu
    cases v' with
    | t x => obtain ⟨_, rfl⟩ := Prod.mk.inj (Option.some.inj h2); exact mvV_closed hc h1
    | _ => cases h2
  have k2 := key v
  cases v with
  | t x => obtain ⟨_, rfl⟩ := Prod.mk.inj (Option.some.inj h); exact hc
  | vec id n sz off len =>
    cases nest
    · exact k2 h
    · cases h
  | _ => exact k2 h
theorem toCs_loc {nest : Bool} : ∀ {vs : List V} {M : Mem}, (∀ id, I id → ∀ r ∈ orefs (M id), I r) → (∀ r ∈ V.refsL vs, I r) → LocAt I M fun M => toCs nest M vs
  | [], M, _, _ => LocAt.val _
  | v :: vs, M, hc, h => (toC_loc hc fun r hr => h r (by simp [V.refsL, hr])).bind' fun c M1 h1 =>
    (toCs_loc (vs := vs) (toC_closed hc h1) fun r hr => h r (by simp [V.refsL, hr])).map' (g := fun cs => c :: cs)
theorem toCs_closed {nest : Bool} : ∀ {vs : List V} {M : Mem} {cs : List C} {M' : Mem}, (∀ id, I id → ∀ r ∈ orefs (M id), I r) → toCs nest M vs = some (cs, M') → ∀ id, I id → ∀ r ∈ orefs (M' id), I r
  | [], M, cs, M', hc, h => by obtain ⟨_, rfl⟩ := Prod.mk.inj (Option.some.inj h); exact hc
  | v :: vs, M, cs, M', hc, h => by
    obtain ⟨⟨c, M1⟩, h1, h2⟩ := Option.bind_eq_some_iff.1 h
    obtain ⟨⟨r, M2⟩, h3, h4⟩ := Option.map_eq_some_iff.1 h2
    obtain ⟨_, rfl⟩ := Prod.mk.inj h4
    exact toCs_closed (toC_closed hc h1) h3
theorem toCss_loc {nest : Bool} : ∀ {vs : List (List V)} {M : Mem}, (∀ id, I id → ∀ r ∈ orefs (M id), I r) → (∀ l ∈ vs, ∀ r ∈ V.refsL l, I r) → LocAt I M fun M => toCss nest M vs
  | [], M, _, _ => LocAt.val _
  | v :: vs, M, hc, h => (toCs_loc hc fun r hr => h v (by simp) r hr).bind' fun c M1 h1 =>
    (toCss_loc (vs := vs) (toCs_closed hc h1) fun l hl => h l (by simp [hl])).map' (g := fun cs => c :: cs)
theorem wr0_loc {nest : Bool} {J : Nat → Prop} (hc : ∀ id, J id → ∀ r ∈ orefs (M id), J r) {p v : V} {k : Nat} (hp : ∀ r ∈ p.refs, I r) (hv : ∀ r ∈ v.refs, J r) (hJ : ∀ id, J id → I id) :
    LocAt I M fun M => (wr0 nest M p k v).map fun M' => ((), M') := by
  unfold wr0
  cases p with
  | ptr id n i o =>
    have hid := hp id (by simp [V.refs])
    refine LocAt.congr (g := fun M => (some (M id)).bind fun ob => match ob with
      | some (.box cs) => if n = 1 ∧ i = 0 ∧ o + k < cs.length ∧ v.isCell = true then some ((), upd M id (some (.box (cs.set (o + k) v)))) else none
      | some (.vec ..) => (toC nest M v).bind fun q => (some (q.2 id)).bind fun ob => match ob with
        | some (.vec fl sz es) => if es.length = n then match es[i]? with
            | some e => match e[o + k]? with
              | some (.t _) => some ((), upd q.2 id (some (.vec (fl && q.1.isT) sz (es.set i (e.set (o + k) q.1)))))
              | _ => none
            | none => none else none
        | _ => none
      | _ => none) (fun M => ?_) ?_
    · dsimp only [Option.bind_some]
      cases M id with
      | none => rfl
      | some ob =>
        cases ob with
        | box cs => dsimp only; split <;> rfl
        | vec fl sz es =>
          dsimp only
          cases toC nest M v with
          | none => rfl
          | some q =>
            obtain ⟨c, M1⟩ := q
            dsimp only [Option.bind_some]
            cases M1 id with
            | none => rfl
            | some ob =>
              cases ob with
              | vec fl sz es =>
                dsimp only
                by_cases hn : es.length = n
                · rw [if_pos hn, if_pos hn]
                  cases es[i]? with
                  | none => rfl
                  | some e =>
                    dsimp only
                    cases e[o + k]? with
                    | none => rfl
                    | some x => cases x <;> rfl
                · rw [if_neg hn, if_neg hn]; rfl
              | _ => rfl
        | dead => rfl
    · refine RdAt.loc (show RdAt I M fun M => some (M id) from fun v hv N hN => by dsimp only at hv ⊢; rw [hN id hid]; exact hv) fun ob _ => ?_
      cases ob with
      | none => exact LocAt.none
      | some ob =>
        cases ob with
        | box cs =>
          dsimp only
          by_cases h : n = 1 ∧ i = 0 ∧ o + k < cs.length ∧ v.isCell = true
          · simp only [if_pos h]; exact LocAt.set hid
          · simp only [if_neg h]; exact LocAt.none
        | vec fl sz es =>
          dsimp only
          refine ((toC_loc hc hv).mono hJ).bind' fun c M1 _ => ?_
          refine RdAt.loc (show RdAt I M1 fun M => some (M id) from fun v hv N hN => by dsimp only at hv ⊢; rw [hN id hid]; exact hv) fun ob _ => ?_
          cases ob with
          | none => exact LocAt.none
          | some ob =>
            cases ob with
            | vec fl sz es =>
              dsimp only
              by_cases hn : es.length = n
              · simp only [if_pos hn]
                cases es[i]? with
                | none => exact LocAt.none
                | some e =>
                  dsimp only
                  cases e[o + k]? with
                  | none => exact LocAt.none
                  | some x => cases x <;> first | exact LocAt.set hid | exact LocAt.none
              · simp only [if_neg hn]; exact LocAt.none
            | _ => exact LocAt.none
        | dead => exact LocAt.none
  | _ => exact LocAt.none
theorem refsL_set {cs : List V} {v : V} : ∀ {j r : Nat}, r ∈ V.refsL (cs.set j v) → r ∈ V.refsL cs ∨ r ∈ v.refs := by
  induction cs with
  | nil => intro j r h; simp [V.refsL] at h
  | cons x cs ih =>
    intro j r h
    cases j with
    | zero =>
      rcases List.mem_append.1 (by simpa [V.refsL] using h : r ∈ v.refs ++ V.refsL cs) with h | h
      · exact .inr h
      · exact .inl (by simp [V.refsL, h])
    | succ j =>
      rcases List.mem_append.1 (by simpa [V.refsL] using h : r ∈ x.refs ++ V.refsL (cs.set j v)) with h | h
      · exact .inl (by simp [V.refsL, h])
      · rcases ih h with h | h
        · exact .inl (by simp [V.refsL, h])
        · exact .inr h
theorem wr0_closed {nest : Bool} {J : Nat → Prop} (hc : ∀ id, J id → ∀ r ∈ orefs (M id), J r) {p v : V} {k : Nat} {M' : Mem} (hv : ∀ r ∈ v.refs, J r) (h : wr0 nest M p k v = some M') : ∀ id, J id → ∀ r ∈ orefs (M' id), J r := by
  unfold wr0 at h
  split at h
  · rename_i id n i o
    split at h
    · rename_i cs hM
      split at h
      · obtain rfl := Option.some.inj h
        intro x hx r hr
        by_cases e : x = id
        · subst e
          rw [upd_same] at hr
          rcases refsL_set hr with hr | hr
          · exact hc x hx r (by rw [hM]; exact hr)
          · exact hv r hr
        · rw [upd_ne M _ e] at hr; exact hc x hx r hr
      · cases h
    · obtain ⟨⟨c, M1⟩, h1, h⟩ := Option.bind_eq_some_iff.1 h
      have hc1 := toC_closed hc h1
      dsimp only at h
      split at h
      · split at h
        · split at h
          · split at h
            · obtain rfl := Option.some.inj h
              intro x hx r hr
              by_cases e : x = id
              · subst e; rw [upd_same] at hr; simp [orefs, Ob.refs] at hr
              · rw [upd_ne M1 _ e] at hr; exact hc1 x hx r hr
            · cases h
          · cases h
        · cases h
      · cases h
    · cases h
  · cases h
theorem wrN_loc {id n i c id2 n2 sz2 off2 len2 : Nat} (h1 : I id) (h2 : I id2) : LocAt I M fun M => (wrN M id n i c id2 n2 sz2 off2 len2).map fun M' => ((), M') := by
  unfold wrN
  by_cases hne : id = id2 ∨ off2 ≠ 0
  · simp only [if_pos hne]; exact LocAt.none
  simp only [if_neg hne]
  refine LocAt.congr (g := fun M => (some (M id2)).bind fun ob2 => match ob2 with
    | some (.vec fl2 sz2' es2) => if es2.length = n2 ∧ sz2' = sz2 ∧ fl2 = true ∧ len2 ≤ n2 then (some (M id)).bind fun ob => match ob with
      | some (.vec fl sz es) => if es.length = n then match es[i]? with
        | some e => match e[c]? with
          | some x => bif x.room len2 then (some ((), upd M id2 (some .dead))).bind fun q => some ((), upd q.2 id (some (.vec false sz (es.set i (e.set c (.row sz2 ((es2.take len2).map (·.map C.fz)))))))) else none
          | none => none
        | none => none else none
      | _ => none else none
    | _ => none) (fun M => ?_) ?_
  · dsimp only [Option.bind_some]
    cases M id2 with
    | none => rfl
    | some ob =>
      cases ob with
      | vec fl2 sz2' es2 =>
        dsimp only
        by_cases hc : es2.length = n2 ∧ sz2' = sz2 ∧ fl2 = true ∧ len2 ≤ n2
        · rw [if_pos hc, if_pos hc]
          cases M id with
          | none => rfl
          | some ob =>
            cases ob with
            | vec fl sz es =>
              dsimp only
              by_cases hn : es.length = n
              · rw [if_pos hn, if_pos hn]
                cases es[i]? with
                | none => rfl
                | some e =>
                  dsimp only
                  cases e[c]? with
                  | none => rfl
                  | some x => dsimp only; cases C.room len2 x <;> rfl
              · rw [if_neg hn, if_neg hn]; rfl
            | _ => rfl
        · rw [if_neg hc, if_neg hc]; rfl
      | _ => rfl
  · refine RdAt.loc (show RdAt I M fun M => some (M id2) from fun v hv N hN => by dsimp only at hv ⊢; rw [hN id2 h2]; exact hv) fun ob2 _ => ?_
    cases ob2 with
    | none => exact LocAt.none
    | some ob2 =>
      cases ob2 with
      | vec fl2 sz2' es2 =>
        dsimp only
        by_cases hc : es2.length = n2 ∧ sz2' = sz2 ∧ fl2 = true ∧ len2 ≤ n2
        · simp only [if_pos hc]
          refine RdAt.loc (show RdAt I M fun M => some (M id) from fun v hv N hN => by dsimp only at hv ⊢; rw [hN id h1]; exact hv) fun ob _ => ?_
          cases ob with
          | none => exact LocAt.none
          | some ob =>
            cases ob with
            | vec fl sz es =>
              dsimp only
              by_cases hn : es.length = n
              · simp only [if_pos hn]
                cases es[i]? with
                | none => exact LocAt.none
                | some e =>
                  dsimp only
                  cases e[c]? with
                  | none => exact LocAt.none
                  | some x =>
                    dsimp only
                    cases C.room len2 x with
                    | true => simp only [cond_true]; exact (LocAt.set h2).bind' fun _ M1 _ => LocAt.set h1
                    | false => simp only [cond_false]; exact LocAt.none
              · simp only [if_neg hn]; exact LocAt.none
            | _ => exact LocAt.none
        · simp only [if_neg hc]; exact LocAt.none
      | _ => exact LocAt.none
theorem wrN_closed {J : Nat → Prop} {id n i c id2 n2 sz2 off2 len2 : Nat} (hc : ∀ id, J id → ∀ r ∈ orefs (M id), J r) {M' : Mem} (h : wrN M id n i c id2 n2 sz2 off2 len2 = some M') : ∀ id, J id → ∀ r ∈ orefs (M' id), J r := by
  unfold wrN at h
  split at h
  · cases h
  split at h
  · split at h
    · split at h
      · split at h
        · split at h
          · split at h
            · rw [Bool.cond_eq_ite] at h
              split at h
              · obtain rfl := Option.some.inj h
                intro x hx r hr
                by_cases e : x = id
                · subst e; rw [upd_same] at hr; simp [orefs, Ob.refs] at hr
                · rw [upd_ne _ _ e] at hr
                  by_cases e2 : x = id2
                  · subst e2; rw [upd_same] at hr; simp [orefs, Ob.refs] at hr
                  · rw [upd_ne _ _ e2] at hr; exact hc x hx r hr
              · cases h
            · cases h
          · cases h
        · cases h
      · cases h
    · cases h
  · cases h
theorem wrR_loc {J : Nat → Prop} (hc : ∀ id, J id → ∀ r ∈ orefs (M id), J r) {id n i j l e o k : Nat} {v : V} (hid : I id) (hv : ∀ r ∈ v.refs, J r) (hJ : ∀ id, J id → I id) :
    LocAt I M fun M => (wrR M id n i j l e o k v).map fun M' => ((), M') := by
  unfold wrR
  by_cases hcell : v.isCell = true
  · simp only [if_pos hcell]
    refine LocAt.congr (g := fun M => (toC false M v).bind fun q => (some (q.2 id)).bind fun ob => match q.1, ob with
      | .t x, some (.vec fl sz es) => if es.length = n then match es[i]? with
        | some el => match el[j]? with
          | some (.row s r) => match r[e]? with
            | some q2 => if o + k < q2.length ∧ r.length = l then some ((), upd q.2 id (some (.vec fl sz (es.set i (el.set j (.row s (r.set e (q2.set (o + k) x)))))))) else none
            | none => none
          | _ => none
        | none => none else none
      | _, _ => none) (fun M => ?_) ?_
    · cases toC false M v with
      | none => rfl
      | some q =>
        obtain ⟨c, M1⟩ := q
        dsimp only [Option.bind_some]
        cases c with
        | row s r => cases M1 id <;> rfl
        | gone _ => cases M1 id <;> rfl
        | t x =>
          cases M1 id with
          | none => rfl
          | some ob =>
            cases ob with
            | vec fl sz es =>
              dsimp only
              by_cases hn : es.length = n
              · rw [if_pos hn, if_pos hn]
                cases es[i]? with
                | none => rfl
                | some el =>
                  dsimp only
                  cases el[j]? with
                  | none => rfl
                  | some c =>
                    cases c with
                    | t x => rfl
                    | gone _ => rfl
                    | row s r =>
                      dsimp only
                      cases r[e]? with
                      | none => rfl
                      | some q2 => dsimp only; split <;> rfl
              · rw [if_neg hn, if_neg hn]; rfl
            | _ => rfl
    · refine ((toC_loc hc hv).mono hJ).bind' fun c M1 _ => ?_
      refine RdAt.loc (show RdAt I M1 fun M => some (M id) from fun v hv N hN => by dsimp only at hv ⊢; rw [hN id hid]; exact hv) fun ob _ => ?_
      cases c with
      | row s r => exact LocAt.none
      | gone _ => exact LocAt.none
      | t x =>
        cases ob with
        | none => exact LocAt.none
        | some ob =>
          cases ob with
          | vec fl sz es =>
            dsimp only
            by_cases hn : es.length = n
            · simp only [if_pos hn]
              cases es[i]? with
              | none => exact LocAt.none
              | some el =>
                dsimp only
                cases el[j]? with
                | none => exact LocAt.none
                | some c =>
                  cases c with
                  | t x => exact LocAt.none
                  | gone _ => exact LocAt.none
                  | row s r =>
                    dsimp only
                    cases r[e]? with
                    | none => exact LocAt.none
                    | some q2 =>
                      dsimp only
                      by_cases hl : o + k < q2.length ∧ r.length = l
                      · simp only [if_pos hl]; exact LocAt.set hid
                      · simp only [if_neg hl]; exact LocAt.none
            · simp only [if_neg hn]; exact LocAt.none
          | _ => exact LocAt.none
  · simp only [if_neg hcell]; exact LocAt.none
theorem wrR_closed {J : Nat → Prop} (hc : ∀ id, J id → ∀ r ∈ orefs (M id), J r) {id n i j l e o k : Nat} {v : V} {M' : Mem} (h : wrR M id n i j l e o k v = some M') : ∀ id, J id → ∀ r ∈ orefs (M' id), J r := by
  unfold wrR at h
  split at h
  · obtain ⟨⟨c, M1⟩, h1, h⟩ := Option.bind_eq_some_iff.1 h
    have hc1 := toC_closed hc h1
    dsimp only at h
    split at h
    · split at h
      · split at h
        · split at h
          · split at h
            · split at h
              · obtain rfl := Option.some.inj h
                intro x hx r hr
                by_cases e : x = id
                · subst e; rw [upd_same] at hr; simp [orefs, Ob.refs] at hr
                · rw [upd_ne M1 _ e] at hr; exact hc1 x hx r hr
              · cases h
            · cases h
          · cases h
        · cases h
      · cases h
    · cases h
  · cases h
theorem wr_loc {nest : Bool} {J : Nat → Prop} (hc : ∀ id, J id → ∀ r ∈ orefs (M id), J r) {p v : V} {k : Nat} (hp : ∀ r ∈ p.refs, I r) (hv : ∀ r ∈ v.refs, J r) (hJ : ∀ id, J id → I id) :
    LocAt I M fun M => (wr nest M p k v).map fun M' => ((), M') := by
  have old : ∀ (p v : V), (∀ r ∈ p.refs, I r) → (∀ r ∈ v.refs, J r) → LocAt I M fun M => (wr0 false M p k v).map fun M' => ((), M') := fun p v hp hv => wr0_loc hc hp hv hJ
  cases p with
  | rptr id n i j l e o => 
    have : (fun M => (wr nest M (.rptr id n i j l e o) k v).map fun M' => ((), M')) = fun M => (wrR M id n i j l e o k v).map fun M' => ((), M') := by funext M; rfl
    rw [this]
    exact wrR_loc hc (hp id (by simp [V.refs])) hv hJ
  | ptr id n i o =>
    cases v with
    | vec id2 n2 sz2 off2 len2 =>
      refine LocAt.congr (g := fun M => (some (nest && isVecO (M id))).bind fun b => bif b then (wrN M id n i (o + k) id2 n2 sz2 off2 len2).map fun M' => ((), M') else (wr0 false M (.ptr id n i o) k (.vec id2 n2 sz2 off2 len2)).map fun M' => ((), M')) (fun M => ?_) ?_
      · show Option.map _ (bif nest && isVecO (M id) then _ else _) = _
        dsimp only [Option.bind_some]
        cases nest && isVecO (M id) <;> rfl
      · refine RdAt.loc (show RdAt I M fun M => some (nest && isVecO (M id)) from fun v hv N hN => by dsimp only at hv ⊢; rw [hN id (hp id (by simp [V.refs]))]; exact hv) fun b _ => ?_
        cases b with
        | true => exact wrN_loc (hp id (by simp [V.refs])) (hJ _ (hv id2 (by simp [V.refs])))
        | false => exact old _ _ hp hv
    | _ => exact old _ _ hp hv
  | _ => 
    cases v <;> exact old _ _ hp hv
theorem wr_closed {nest : Bool} {J : Nat → Prop} (hc : ∀ id, J id → ∀ r ∈ orefs (M id), J r) {p v : V} {k : Nat} {M' : Mem} (hv : ∀ r ∈ v.refs, J r) (h : wr nest M p k v = some M') : ∀ id, J id → ∀ r ∈ orefs (M' id), J r := by
  unfold wr at h
  split at h
  · exact wrR_closed hc h
  · rw [Bool.cond_eq_ite] at h
    split at h
    · exact wrN_closed hc h
    · exact wr0_closed hc hv h
  · exact wr0_closed hc hv h
theorem wrs_loc {nest : Bool} {J : Nat → Prop} {p : V} (hp : ∀ r ∈ p.refs, I r) (hJ : ∀ id, J id → I id) : ∀ {vs : List V} {M : Mem} {i : Nat}, (∀ id, J id → ∀ r ∈ orefs (M id), J r) → (∀ r ∈ V.refsL vs, J r) →
    LocAt I M fun M => (wrs nest M p i vs).map fun M' => ((), M')
  | [], M, i, hc, h => LocAt.val _
  | v :: vs, M, i, hc, h => by
    have hv : ∀ r ∈ v.refs, J r := fun r hr => h r (by simp [V.refsL, hr])
    have hvs : ∀ r ∈ V.refsL vs, J r := fun r hr => h r (by simp [V.refsL, hr])
    refine LocAt.congr (g := fun M => ((wr nest M p i v).map fun M' => ((), M')).bind fun q => (wrs nest q.2 p (i + 1) vs).map fun M' => ((), M')) (fun M => ?_) ?_
    · show ((wr nest M p i v).bind fun M' => wrs nest M' p (i + 1) vs).map _ = _
      cases wr nest M p i v <;> rfl
    · refine (wr_loc hc hp hv hJ).bind' fun _ M1 h1 => wrs_loc hp hJ ?_ hvs
      obtain ⟨M2, h2, h3⟩ := Option.map_eq_some_iff.1 h1
      obtain ⟨_, rfl⟩ := Prod.mk.inj h3
      exact wr_closed hc hv h2
theorem src_loc {sz : Nat} {x : V} (h : ∀ r ∈ x.refs, I r) : RdAt I M fun M => src M sz x := by
  intro v hv N hN
  unfold src at hv ⊢
  cases x with
  | vec id n sz' off len => dsimp only at hv ⊢; rw [hN id (h id (by simp [V.refs]))]; exact hv
  | row id n i j sz' len => dsimp only at hv ⊢; rw [hN id (h id (by simp [V.refs]))]; exact hv
  | t x => cases x <;> exact hv
  | _ => exact hv
theorem app0_loc {sz id n len : Nat} {es xs : List (List C)} (h : I id) : LocAt I M fun M => some (app0 M sz id n len es xs) := by
  unfold app0
  split <;> exact LocAt.set h
theorem RdAt.at {id : Nat} (h : I id) : RdAt I M fun M => some (M id) := fun v hv N hN => by
  dsimp only at hv ⊢; rw [hN id h]; exact hv
theorem truncV_refs {k : Nat} {x x' : V} (h : truncV k x = some x') : x'.refs = x.refs := by
  unfold truncV at h
  split at h
  · obtain rfl := Option.some.inj h; rfl
  · obtain rfl := Option.some.inj h; rfl
  · cases h
theorem cpy_loc {sz : Nat} {d x : V} (hd : ∀ r ∈ d.refs, I r) (hx : ∀ r ∈ x.refs, I r) : LocAt I M fun M => cpy M sz d x := by
  unfold cpy
  cases d with
  | vec id n sz' off len =>
    have hid := hd id (by simp [V.refs])
    dsimp only
    refine RdAt.loc (RdAt.const _) fun x' hx' => ?_
    have hx2 : ∀ r ∈ x'.refs, I r := by
      cases hb : decide (lenN x ≤ len) with
      | true => rw [hb] at hx'; obtain rfl := Option.some.inj hx'; exact hx
      | false => rw [hb] at hx'; rw [truncV_refs hx']; exact hx
    refine RdAt.loc (src_loc hx2) fun xs _ => ?_
    refine LocAt.congr (g := fun M => (some (M id)).bind fun ob => match ob with
      | some (.vec fl sz'' es) => if 0 < sz ∧ es.length = n ∧ sz' = sz ∧ sz'' = sz ∧ off + len ≤ n ∧ fl = true ∧ xs.length ≤ len then
          some (xs.length, upd M id (some (.vec true sz (es.take off ++ xs ++ es.drop (off + xs.length))))) else none
      | _ => none) (fun M => rfl) ?_
    refine RdAt.loc (RdAt.at hid) fun ob _ => ?_
    cases ob with
    | none => exact LocAt.none
    | some ob =>
      cases ob with
      | vec fl sz'' es =>
        dsimp only
        by_cases h1 : 0 < sz ∧ es.length = n ∧ sz' = sz ∧ sz'' = sz ∧ off + len ≤ n ∧ fl = true ∧ xs.length ≤ len
        · simp only [if_pos h1]; exact LocAt.set hid
        · simp only [if_neg h1]; exact LocAt.none
      | _ => exact LocAt.none
  | _ => exact LocAt.none
theorem app_loc {nb sz bytes : Nat} {s x : V} (hs : ∀ r ∈ s.refs, I r) (hx : ∀ r ∈ x.refs, I r) (hn : I nb) : LocAt I M fun M => app nb M sz bytes s x := by
  unfold app
  by_cases hcd : 0 < sz ∧ bytes ≤ small
  · simp only [if_pos hcd]
    refine RdAt.loc (src_loc hx) fun xs _ => ?_
    cases s with
    | t y =>
      cases y with
      | nils =>
        dsimp only
        by_cases hr : xs.length ≤ room
        · simp only [if_pos hr]; exact mk_locV _ hn
        · simp only [if_neg hr]; exact LocAt.none
      | _ => exact LocAt.none
    | vec id n sz' off len =>
      have hid := hs id (by simp [V.refs])
      refine LocAt.congr (g := fun M => (some (M id)).bind fun ob => match ob with
        | some (.vec fl' sz'' es) =>
          if es.length = n ∧ sz' = sz ∧ sz'' = sz ∧ off + len ≤ n ∧ len + xs.length ≤ room ∧ fl' = true then
            if off = 0 then some (app0 M sz id n len es xs)
            else if off + len = n then (mk nb M (.vec true sz (es.drop off))).map fun M2 => app0 (upd M2 id (some .dead)) sz nb (n - off) len (es.drop off) xs
            else none
          else none
        | _ => none) (fun M => rfl) ?_
      refine RdAt.loc (RdAt.at hid) fun ob _ => ?_
      cases ob with
      | none => exact LocAt.none
      | some ob =>
        cases ob with
        | vec fl' sz'' es =>
          dsimp only
          by_cases h1 : es.length = n ∧ sz' = sz ∧ sz'' = sz ∧ off + len ≤ n ∧ len + xs.length ≤ room ∧ fl' = true
          · simp only [if_pos h1]
            by_cases h2 : off = 0
            · simp only [if_pos h2]; exact app0_loc hid
            · simp only [if_neg h2]
              by_cases h3 : off + len = n
              · simp only [if_pos h3]
                refine LocAt.congr (g := fun M => ((mk nb M (.vec true sz (es.drop off))).map fun M' => ((), M')).bind fun p => (some ((), upd p.2 id (some .dead))).bind fun q => some (app0 q.2 sz nb (n - off) len (es.drop off) xs)) (fun M => ?_) ?_
                · cases mk nb M (.vec true sz (es.drop off)) <;> rfl
                · exact (mk_loc hn).bind' fun _ M1 _ => (LocAt.set hid).bind' fun _ M2 _ => app0_loc hn
              · simp only [if_neg h3]; exact LocAt.none
          · simp only [if_neg h1]; exact LocAt.none
        | _ => exact LocAt.none
    | row id n i j sz' len =>
      have hid := hs id (by simp [V.refs])
      refine LocAt.congr (g := fun M => (some (M id)).bind fun ob => match ob with
        | some (.vec _ s0 es) => if es.length = n ∧ sz' = sz ∧ 0 < len ∧ 0 < xs.length ∧ len + xs.length ≤ room then match es[i]? with
          | some e => match e[j]? with
            | some (.row sz'' r) => if sz'' = sz ∧ r.length = len then (mk nb (upd M id (some (.vec false s0 (es.set i (e.set j (.gone len)))))) (.vec true sz (r.map (·.map C.t)))).map fun M2 => app0 M2 sz nb len len (r.map (·.map C.t)) xs else none
            | _ => none
          | none => none else none
        | _ => none) (fun M => rfl) ?_
      refine RdAt.loc (RdAt.at hid) fun ob _ => ?_
      cases ob with
      | none => exact LocAt.none
      | some ob =>
        cases ob with
        | vec fl' s0 es =>
          dsimp only
          by_cases h1 : es.length = n ∧ sz' = sz ∧ 0 < len ∧ 0 < xs.length ∧ len + xs.length ≤ room
          · simp only [if_pos h1]
            cases es[i]? with
            | none => exact LocAt.none
            | some e =>
              dsimp only
              cases e[j]? with
              | none => exact LocAt.none
              | some c =>
                cases c with
                | t x => exact LocAt.none
                | gone _ => exact LocAt.none
                | row sz'' r =>
                  dsimp only
                  by_cases h2 : sz'' = sz ∧ r.length = len
                  · simp only [if_pos h2]
                    refine LocAt.congr (g := fun M => (some ((), upd M id (some (.vec false s0 (es.set i (e.set j (.gone len))))))).bind fun p => ((mk nb p.2 (.vec true sz (r.map (·.map C.t)))).map fun M' => ((), M')).bind fun q => some (app0 q.2 sz nb len len (r.map (·.map C.t)) xs)) (fun M => ?_) ?_
                    · dsimp only [Option.bind_some]
                      cases mk nb (upd M id (some (.vec false s0 (es.set i (e.set j (.gone len)))))) (.vec true sz (r.map (·.map C.t))) <;> rfl
                    · exact (LocAt.set hid).bind' fun _ M1 _ => (mk_loc hn).bind' fun _ M2 _ => app0_loc hn
                  · simp only [if_neg h2]; exact LocAt.none
          · simp only [if_neg h1]; exact LocAt.none
        | _ => exact LocAt.none
    | _ => exact LocAt.none
  · simp only [if_neg hcd]; exact LocAt.none
theorem appN_loc {sz bytes id n len id2 : Nat} (h1 : I id) (h2 : I id2) : LocAt I M fun M => appN M sz bytes id n len id2 := by
  unfold appN
  by_cases hcd : 0 < sz ∧ bytes ≤ small ∧ id ≠ id2
  · simp only [if_pos hcd]
    refine LocAt.congr (g := fun M => (some (M id2)).bind fun ob2 => match ob2 with
      | some (.vec _ sz2 [e]) => (some (M id)).bind fun ob => match ob with
        | some (.vec _ sz1 es) => if sz2 = sz ∧ sz1 = sz ∧ es.length = n ∧ len = n ∧ n + 1 ≤ room then
            (some ((), upd M id2 (some .dead))).bind fun q => some (V.vec id (n + 1) sz 0 (n + 1), upd q.2 id (some (.vec false sz (es ++ [e])))) else none
        | _ => none
      | _ => none) (fun M => rfl) ?_
    refine RdAt.loc (RdAt.at h2) fun ob2 _ => ?_
    match ob2 with
    | some (.vec _ sz2 [e]) =>
      dsimp only
      refine RdAt.loc (RdAt.at h1) fun ob _ => ?_
      match ob with
      | some (.vec _ sz1 es) =>
        dsimp only
        by_cases h3 : sz2 = sz ∧ sz1 = sz ∧ es.length = n ∧ len = n ∧ n + 1 ≤ room
        · simp only [if_pos h3]; exact (LocAt.set h2).bind' fun _ M1 _ => LocAt.set h1
        · simp only [if_neg h3]; exact LocAt.none
      | some (.box _) => exact LocAt.none
      | some .dead => exact LocAt.none
      | none => exact LocAt.none
    | some (.vec _ _ []) => exact LocAt.none
    | some (.vec _ _ (_ :: _ :: _)) => exact LocAt.none
    | some (.box _) => exact LocAt.none
    | some .dead => exact LocAt.none
    | none => exact LocAt.none
  · simp only [if_neg hcd]; exact LocAt.none
theorem appX_loc {nb sz bytes : Nat} {s x : V} (hs : ∀ r ∈ s.refs, I r) (hx : ∀ r ∈ x.refs, I r) (hn : I nb) : LocAt I M fun M => appX nb M sz bytes s x := by
  unfold appX
  split
  · rename_i id n sz' off len id2 n2 sz2 off2 len2
    have i1 := hs id (by simp [V.refs])
    have i2 := hx id2 (by simp [V.refs])
    refine LocAt.congr (g := fun M => (some (M id2)).bind fun ob => bif rowsO ob then (if sz' = sz ∧ sz2 = sz ∧ off = 0 ∧ n2 = 1 ∧ off2 = 0 ∧ len2 = 1 then appN M sz bytes id n len id2 else none) else app nb M sz bytes (.vec id n sz' off len) (.vec id2 n2 sz2 off2 len2)) (fun M => rfl) ?_
    refine RdAt.loc (RdAt.at i2) fun ob _ => ?_
    cases rowsO ob with
    | true =>
      simp only [cond_true]
      by_cases hc : sz' = sz ∧ sz2 = sz ∧ off = 0 ∧ n2 = 1 ∧ off2 = 0 ∧ len2 = 1
      · simp only [if_pos hc]; exact appN_loc i1 i2
      · simp only [if_neg hc]; exact LocAt.none
    | false => exact app_loc hs hx hn
  · exact app_loc hs hx hn
theorem fz_refs {M : Mem} {v v' : V} (h : fzV M v = some v') : v'.refs = [] := by
  have hL : ∀ l : List T, V.refsL (l.map V.t) = [] := fun l => by induction l with
    | nil => rfl
    | cons a l ih => simp [V.refsL, V.refs, ih]
  have h1 : ∀ {v v' : V}, fz1 M v = some v' → v'.refs = [] := fun {v v'} h => by
    cases v with
    | agg vs => simp only [fz1] at h; obtain ⟨l, _, rfl⟩ := Option.map_eq_some_iff.1 h; simp only [V.refs]; exact hL l
    | _ => simp only [fz1] at h; obtain ⟨x, _, rfl⟩ := Option.map_eq_some_iff.1 h; rfl
  have k2 := h1 (v := v) (v' := v')
  cases v with
  | tup vs =>
    simp only [fzV] at h
    obtain ⟨l, hl, rfl⟩ := Option.map_eq_some_iff.1 h
    simp only [V.refs]
    clear h k2
    induction vs generalizing l with
    | nil => obtain rfl := Option.some.inj hl; rfl
    | cons a vs ih =>
      rw [List.mapM_cons] at hl
      obtain ⟨b, h2, hl⟩ := Option.bind_eq_some_iff.1 hl
      obtain ⟨r, h3, hl⟩ := Option.bind_eq_some_iff.1 hl
      obtain rfl := Option.some.inj hl
      simp [V.refsL, h1 h2, ih r h3]
  | _ => exact k2 h
theorem mvV_refs {M M' : Mem} {v v' : V} (h : mvV M v = some (v', M')) : v'.refs = [] := by
  unfold mvV at h
  obtain ⟨x, h1, h⟩ := Option.bind_eq_some_iff.1 h
  split at h
  · obtain ⟨rfl, _⟩ := Prod.mk.inj (Option.some.inj h); exact fz_refs h1
  · obtain ⟨L, _, h⟩ := Option.map_eq_some_iff.1 h
    obtain ⟨rfl, _⟩ := Prod.mk.inj h
    exact fz_refs h1
theorem prepM_loc : ∀ {vs : List V} {ms : List Mode} {M : Mem}, (∀ id, I id → ∀ r ∈ orefs (M id), I r) → (∀ r ∈ V.refsL vs, I r) → LocAt I M fun M => prepM ms vs M
  | [], ms, M, hc, h => LocAt.congr (g := fun M => some ([], M)) (fun M => by cases ms with | nil => rfl | cons m ms => cases m <;> rfl) (LocAt.val _)
  | v :: vs, ms, M, hc, h => by
    have hv : ∀ r ∈ v.refs, I r := fun r hr => h r (by simp [V.refsL, hr])
    have hvs : ∀ r ∈ V.refsL vs, I r := fun r hr => h r (by simp [V.refsL, hr])
    cases ms with
    | nil => exact (prepM_loc hc hvs).map' (g := fun r => v :: r)
    | cons m ms =>
      cases m with
      | move => exact (mvV_loc hc hv).bind' fun v' M1 h1 => (prepM_loc (mvV_closed hc h1) hvs).map' (g := fun r => v' :: r)
      | pass => exact (prepM_loc (ms := ms) hc hvs).map' (g := fun r => v :: r)
      | borrow => exact (prepM_loc (ms := ms) hc hvs).map' (g := fun r => v :: r)
theorem prepM_refs : ∀ {vs : List V} {ms : List Mode} {M M' : Mem} {az : List V}, prepM ms vs M = some (az, M') → ∀ r ∈ V.refsL az, r ∈ V.refsL vs
  | [], ms, M, M', az, h => by
    have e : prepM ms [] M = some ([], M) := by cases ms with | nil => rfl | cons m ms => cases m <;> rfl
    rw [e] at h
    obtain ⟨rfl, _⟩ := Prod.mk.inj (Option.some.inj h)
    exact fun r hr => hr
  | v :: vs, ms, M, M', az, h => by
    have key : ∀ {ms : List Mode} {M1 : Mem} {u : V}, (∀ r ∈ u.refs, r ∈ v.refs) → (prepM ms vs M1).map (fun p => (u :: p.1, p.2)) = some (az, M') → ∀ r ∈ V.refsL az, r ∈ V.refsL (v :: vs) := fun {ms M1 u} hu h => by
      obtain ⟨⟨x, M2⟩, h2, h3⟩ := Option.map_eq_some_iff.1 h
      obtain ⟨rfl, _⟩ := Prod.mk.inj h3
      intro r hr
      rcases List.mem_append.1 (by simpa [V.refsL] using hr : r ∈ u.refs ++ V.refsL x) with hr | hr
      · simp [V.refsL, hu r hr]
      · simp [V.refsL, prepM_refs h2 r hr]
    cases ms with
    | nil => exact key (u := v) (fun _ h => h) h
    | cons m ms =>
      cases m with
      | move =>
        obtain ⟨⟨v', M1⟩, h1, h⟩ := Option.bind_eq_some_iff.1 h
        exact key (u := v') (fun r hr => by rw [mvV_refs h1] at hr; cases hr) h
      | pass => exact key (u := v) (ms := ms) (fun _ h => h) h
      | borrow => exact key (u := v) (ms := ms) (fun _ h => h) h
theorem prepM_closed : ∀ {vs : List V} {ms : List Mode} {M M' : Mem} {az : List V}, (∀ id, I id → ∀ r ∈ orefs (M id), I r) → prepM ms vs M = some (az, M') → ∀ id, I id → ∀ r ∈ orefs (M' id), I r
  | [], ms, M, M', az, hc, h => by
    have e : prepM ms [] M = some ([], M) := by cases ms with | nil => rfl | cons m ms => cases m <;> rfl
    rw [e] at h
    obtain ⟨_, rfl⟩ := Prod.mk.inj (Option.some.inj h)
    exact hc
  | v :: vs, ms, M, M', az, hc, h => by
    have key : ∀ {ms : List Mode} {M1 : Mem} {u : V}, (∀ id, I id → ∀ r ∈ orefs (M1 id), I r) → (prepM ms vs M1).map (fun p => (u :: p.1, p.2)) = some (az, M') → ∀ id, I id → ∀ r ∈ orefs (M' id), I r := fun {ms M1 u} hu h => by
      obtain ⟨⟨x, M2⟩, h2, h3⟩ := Option.map_eq_some_iff.1 h
      obtain ⟨_, rfl⟩ := Prod.mk.inj h3
      exact prepM_closed hu h2
    cases ms with
    | nil => exact key (u := v) hc h
    | cons m ms =>
      cases m with
      | move =>
        obtain ⟨⟨v', M1⟩, h1, h⟩ := Option.bind_eq_some_iff.1 h
        exact key (u := v') (mvV_closed hc h1) h
      | pass => exact key (u := v) (ms := ms) hc h
      | borrow => exact key (u := v) (ms := ms) hc h
theorem prepB_loc (hc : ∀ id, I id → ∀ r ∈ orefs (M id), I r) : ∀ {vs : List V} {ms : List Mode}, (∀ r ∈ V.refsL vs, I r) → RdAt I M fun M => prepB M ms vs
  | [], ms, h => by
    intro v hv N hN
    cases ms with | nil => exact hv | cons m ms => cases m <;> exact hv
  | v :: vs, ms, h => by
    have hv : ∀ r ∈ v.refs, I r := fun r hr => h r (by simp [V.refsL, hr])
    have hvs : ∀ r ∈ V.refsL vs, I r := fun r hr => h r (by simp [V.refsL, hr])
    cases ms with
    | nil => exact (prepB_loc hc hvs).map
    | cons m ms =>
      cases m with
      | borrow => exact (fzV_loc hc hv).bind fun v' _ => (prepB_loc hc hvs).map
      | pass => exact (prepB_loc (ms := ms) hc hvs).map
      | move => exact (prepB_loc (ms := ms) hc hvs).map
theorem prepB_refs : ∀ {vs : List V} {ms : List Mode} {bs : List V} {B : List Nat}, prepB M ms vs = some (bs, B) → (∀ r ∈ V.refsL bs, r ∈ V.refsL vs) ∧ ∀ r ∈ B, r ∈ V.refsL vs
  | [], ms, bs, B, h => by
    have e : prepB M ms [] = some ([], []) := by cases ms with | nil => rfl | cons m ms => cases m <;> rfl
    rw [e] at h
    obtain ⟨rfl, rfl⟩ := Prod.mk.inj (Option.some.inj h)
    exact ⟨fun r hr => hr, fun r hr => by cases hr⟩
  | v :: vs, ms, bs, B, h => by
    have key : ∀ {ms : List Mode}, (prepB M ms vs).map (fun p => (v :: p.1, p.2)) = some (bs, B) → (∀ r ∈ V.refsL bs, r ∈ V.refsL (v :: vs)) ∧ ∀ r ∈ B, r ∈ V.refsL (v :: vs) := fun {ms} h => by
      obtain ⟨⟨x, B2⟩, h2, h3⟩ := Option.map_eq_some_iff.1 h
      obtain ⟨rfl, rfl⟩ := Prod.mk.inj h3
      obtain ⟨q1, q2⟩ := prepB_refs h2
      refine ⟨fun r hr => ?_, fun r hr => by simp [V.refsL, q2 r hr]⟩
      rcases List.mem_append.1 (by simpa [V.refsL] using hr : r ∈ v.refs ++ V.refsL x) with hr | hr
      · simp [V.refsL, hr]
      · simp [V.refsL, q1 r hr]
    cases ms with
    | nil => exact key h
    | cons m ms =>
      cases m with
      | borrow =>
        obtain ⟨v', h1, h⟩ := Option.bind_eq_some_iff.1 h
        obtain ⟨⟨x, B2⟩, h2, h3⟩ := Option.map_eq_some_iff.1 h
        obtain ⟨rfl, rfl⟩ := Prod.mk.inj h3
        obtain ⟨q1, q2⟩ := prepB_refs h2
        refine ⟨fun r hr => ?_, fun r hr => ?_⟩
        · have : r ∈ V.refsL x := by simpa [V.refsL, fz_refs h1] using hr
          simp [V.refsL, q1 r this]
        · rcases List.mem_append.1 hr with hr | hr
          · simp [V.refsL, hr]
          · simp [V.refsL, q2 r hr]
      | pass => exact key (ms := ms) h
      | move => exact key (ms := ms) h
theorem putL_loc {r : Nat → Option Nat} : ∀ {ids : List Nat} {os : List Ob} {M : Mem}, (∀ x ∈ ids, I x) → LocAt I M fun M => (putL r M ids os).map fun p => (p.2, p.1)
  | [], os, M, h => LocAt.val _
  | id :: ids, [], M, h => LocAt.none
  | id :: ids, o :: os, M, h => by
    refine LocAt.congr (g := fun M => (some ((), upd M id (some (o.ren r)))).bind fun q => (putL r q.2 ids os).map fun p => (p.2, p.1)) (fun M => rfl) ?_
    exact (LocAt.set (h id (by simp))).bind' fun _ M1 _ => putL_loc fun x hx => h x (by simp [hx])
theorem putNew_loc {r : Nat → Option Nat} : ∀ {os : List Ob} {nb : Nat} {M : Mem}, (∀ k, k < os.length → I (nb + k)) → LocAt I M fun M => (putNew r M nb os).map fun M' => ((), M')
  | [], nb, M, h => LocAt.val _
  | o :: os, nb, M, h => by
    refine LocAt.congr (g := fun M => ((mk nb M (o.ren r)).map fun M' => ((), M')).bind fun q => (putNew r q.2 (nb + 1) os).map fun M' => ((), M')) (fun M => ?_) ?_
    · show ((mk nb M (o.ren r)).bind fun M' => putNew r M' (nb + 1) os).map _ = _
      cases mk nb M (o.ren r) <;> rfl
    · refine (mk_loc (by simpa using h 0 (by simp))).bind' fun _ M1 _ => putNew_loc fun k hk => ?_
      have := h (k + 1) (by simp; omega)
      rw [show nb + 1 + k = nb + (k + 1) by omega]
      exact this
theorem merge_loc {L : List Nat} {nb : Nat} {B : List Nat} {out : Out} (hL : ∀ x ∈ L, I x) (hn : ∀ k, k < 8 → I (nb + k)) : LocAt I M fun M => merge L nb B M out := by
  unfold merge
  cases out with
  | val v H =>
    dsimp only
    by_cases hb : B.isEmpty = true ∨ (v.flat && H.all Ob.flat) = true
    · simp only [if_pos hb]
      refine LocAt.congr (g := fun M => ((putL (back L nb) M L H).map fun p => (p.2, p.1)).bind fun q => if q.1.length ≤ 8 then ((putNew (back L nb) q.2 nb q.1).map fun M' => ((), M')).map fun p => (v.ren (back L nb), p.2) else none) (fun M => ?_) ?_
      · cases putL (back L nb) M L H with
        | none => rfl
        | some p =>
          obtain ⟨M1, new⟩ := p
          show (if new.length ≤ 8 then _ else _) = (if new.length ≤ 8 then _ else _)
          by_cases h8 : new.length ≤ 8
          · simp only [if_pos h8]; cases putNew (back L nb) M1 nb new <;> rfl
          · simp only [if_neg h8]
      · refine (putL_loc hL).bind' fun new M1 _ => ?_
        dsimp only
        by_cases h8 : new.length ≤ 8
        · simp only [if_pos h8]
          exact (putNew_loc fun k hk => hn k (by omega)).map' (g := fun _ => v.ren (back L nb))
        · simp only [if_neg h8]; exact LocAt.none
    · simp only [if_neg hb]; exact LocAt.none
  | _ => exact LocAt.none
theorem soft1_refs (z : Nat) (v : V) : (soft1 z v).refs = v.refs := by
  unfold soft1
  split
  · cases z == 0 <;> rfl
  · rfl
theorem softL_refs : ∀ (zs : List Nat) (vs : List V), V.refsL (softL zs vs) = V.refsL vs
  | [], vs => by simp [softL]
  | z :: zs, [] => rfl
  | z :: zs, v :: vs => by simp only [softL, V.refsL, soft1_refs, softL_refs zs vs]
theorem callE_loc {pr : Pr} {E : Q → Option Out} {f : FuncId} {args : List V} {nb : Nat} {J : Nat → Prop} (hc : ∀ id, J id → ∀ r ∈ orefs (M id), J r) (h : ∀ r ∈ V.refsL args, J r) (hJ : ∀ id, J id → I id) (hn : ∀ k, k < 8 → I (nb + k)) :
    LocAt I M fun M => callE pr E f args M nb fun v M => some (v, M) := by
  unfold callE
  rw [← softL_refs (pr.pol f).argS args] at h
  generalize softL (pr.pol f).argS args = args at h ⊢
  refine ((prepM_loc hc h).mono hJ).bind' fun az M1 h1 => ?_
  have hc1 := prepM_closed hc h1
  have ha : ∀ r ∈ V.refsL az, J r := fun r hr => h r (prepM_refs h1 r hr)
  have up : ∀ {α : Type} {f : Mem → Option α}, RdAt J M1 f → RdAt I M1 f := fun hf v hv N hN => hf v hv N fun id hi => hN id (hJ id hi)
  dsimp only
  refine RdAt.loc (g := fun p M => (clos M fuel0 p.2 []).bind fun B => (clos M fuel0 (V.refsL p.1) []).bind fun L => bif B.all (fun i => !L.contains i) then (E (.call f (V.renL (place L) p.1) (L.map fun id => orenD (place L) (M id)))).bind fun out => (merge L nb B M out).bind fun (v, M2) => some (v, M2) else none) (up (prepB_loc hc1 ha)) fun p hp => ?_
  obtain ⟨bs, Br⟩ := p
  obtain ⟨q1, q2⟩ := prepB_refs hp
  have hb : ∀ r ∈ V.refsL bs, J r := fun r hr => ha r (q1 r hr)
  have hB : ∀ r ∈ Br, J r := fun r hr => ha r (q2 r hr)
  dsimp only
  refine RdAt.loc (up (clos_rd hc1 hB)) fun B _ => ?_
  refine RdAt.loc (up (clos_rd hc1 hb)) fun L hL => ?_
  have hLJ := clos_sub hc1 fuel0 hL hb (by simp)
  cases hcond : B.all (fun i => !L.contains i) with
  | false => exact LocAt.none
  | true =>
    simp only [cond_true]
    refine RdAt.loc (f := fun M => E (.call f (V.renL (place L) bs) (L.map fun id => orenD (place L) (M id)))) (fun out ho N hN => ?_) fun out _ => ?_
    · dsimp only at ho ⊢
      rw [List.map_congr_left (g := fun id => orenD (place L) (M1 id)) fun id hi => by rw [hN id (hJ id (hLJ id hi))]]
      exact ho
    · exact (merge_loc (fun x hx => hJ x (hLJ x hx)) hn).bind' fun v M2 _ => LocAt.val _
end
end Go.Ev

namespace Go.Ev
set_option linter.unusedVariables false
set_option linter.unusedSimpArgs false
def Touch.has (t : Touch) (id : Nat) : Prop := id ∈ t.ids ∨ (t.b ≤ id ∧ id < t.b + 8)
def Oper.pure (o : Oper) : Bool :=
  match o.op with
  | .alloc _ | .box .. | .buildSlice .. | .makeSlice .. | .load .. | .store .. => false
  | .call c => match c.callee with
    | .builtin .len | .builtin .max | .builtin .min => true
    | _ => false
  | _ => true
section
variable {R : Type} {pr : Pr} {E : Q → Option Out} {nest : Bool}
theorem opK_pure {o : Oper} (hp : Ev.Oper.pure o = true) (env : Nat → V) (M M0 : Mem) (k0 k1 : Nat) (K : V → Mem → Option R) :
    opK pr E nest o ⟨env, M, k0⟩ K = (opK pr E nest o ⟨env, M0, k1⟩ fun v _ => some v).bind fun v => K v M := by
  obtain ⟨dst, op, type, pos, after, guard⟩ := o
  unfold opK
  cases op
  case call c =>
    unfold Ev.Oper.pure at hp
    dsimp only at hp ⊢
    split at hp
    · rename_i hc
      rw [hc]
      dsimp only
      rw [Option.bind_assoc]; refine congrArg _ (funext fun _ => ?_)
      repeat' (first
        | rfl
        | (rw [Option.bind_assoc]; refine congrArg _ (funext fun _ => ?_))
        | split)
    · rename_i hc
      rw [hc]
      dsimp only
      repeat' (first
        | rfl
        | (rw [Option.bind_assoc]; refine congrArg _ (funext fun _ => ?_)))
    · rename_i hc
      rw [hc]
      dsimp only
      repeat' (first
        | rfl
        | (rw [Option.bind_assoc]; refine congrArg _ (funext fun _ => ?_)))
    · cases hp
  case makeFunc fn first captured =>
    cases fn with
    | func f =>
      dsimp only
      split
      · rw [Option.bind_assoc]; refine congrArg _ (funext fun vs => ?_)
        split <;> rfl
      · rfl
    | _ => rfl
  all_goals first
    | (cases hp; done)
    | (dsimp only
       repeat' (first
        | rfl
        | (rw [Option.bind_assoc]; refine congrArg _ (funext fun _ => ?_))
        | split
        | simp only [Bool.cond_eq_ite]))
end
theorem refsL_app : ∀ (a b : List V) (r : Nat), r ∈ V.refsL (a ++ b) ↔ r ∈ V.refsL a ∨ r ∈ V.refsL b
  | [], b, r => by simp [V.refsL]
  | v :: a, b, r => by simp [V.refsL, refsL_app a b r, or_assoc]
theorem refsL_t : ∀ l : List T, V.refsL (l.map V.t) = []
  | [] => rfl
  | a :: l => by simp [V.refsL, V.refs, refsL_t l]
theorem refsL_iff : ∀ {l : List V} {r : Nat}, r ∈ V.refsL l ↔ ∃ v ∈ l, r ∈ v.refs
  | [], r => by simp [V.refsL]
  | v :: l, r => by simp [V.refsL, refsL_iff (l := l)]
theorem cells_refs (v : V) : V.refsL v.cells = v.refs := by cases v <;> simp [V.cells, V.refsL, V.refs]
theorem fillV_refs {place : Nat → Option (Nat × Nat)} : ∀ {ps : List (Nat × V)} {cells vs : List V}, fillV place cells ps = some vs → ∀ r ∈ V.refsL vs, r ∈ V.refsL cells ∨ ∃ p ∈ ps, r ∈ p.2.refs
  | [], cells, vs, h => by obtain rfl := Option.some.inj h; exact fun r hr => .inl hr
  | (i, v) :: ps, cells, vs, h => by
    simp only [fillV] at h
    split at h
    · cases h
    · split at h
      · intro r hr
        rcases fillV_refs h r hr with hr | ⟨p, hp, hr⟩
        · obtain ⟨u, hu, hr⟩ := refsL_iff.1 hr
          rcases List.mem_append.1 hu with hu | hu
          · rcases List.mem_append.1 hu with hu | hu
            · exact .inl (refsL_iff.2 ⟨u, List.mem_of_mem_take hu, hr⟩)
            · exact .inr ⟨(i, v), by simp, by rw [← cells_refs]; exact refsL_iff.2 ⟨u, hu, hr⟩⟩
          · exact .inl (refsL_iff.2 ⟨u, List.mem_of_mem_drop hu, hr⟩)
        · exact .inr ⟨p, by simp [hp], hr⟩
      · cases h
theorem chunks_refs {sz : Nat} : ∀ {n : Nat} {l : List V}, ∀ c ∈ chunks sz n l, ∀ r ∈ V.refsL c, r ∈ V.refsL l
  | 0, l => fun c hc => by cases hc
  | n + 1, l => fun c hc r hr => by
    rcases List.mem_cons.1 hc with rfl | hc
    · obtain ⟨u, hu, hr⟩ := refsL_iff.1 hr; exact refsL_iff.2 ⟨u, List.mem_of_mem_take hu, hr⟩
    · obtain ⟨u, hu, hr⟩ := refsL_iff.1 (chunks_refs c hc r hr); exact refsL_iff.2 ⟨u, List.mem_of_mem_drop hu, hr⟩
theorem refsOs_argL {env : Nat → V} : ∀ {xs : List Operand} {vs : List V}, xs.mapM (arg env) = some vs → V.refsL vs = refsOs env xs
  | [], vs, h => by obtain rfl := Option.some.inj h; rfl
  | x :: xs, vs, h => by
    rw [List.mapM_cons] at h
    obtain ⟨b, h1, h⟩ := Option.bind_eq_some_iff.1 h
    obtain ⟨r, h2, h⟩ := Option.bind_eq_some_iff.1 h
    obtain rfl := Option.some.inj h
    simp only [V.refsL, refsOs, refsO, h1, refsOs_argL h2]
theorem refsOs_argPs {env : Nat → V} : ∀ {xs : List (Nat × Operand)} {ps : List (Nat × V)}, argPs env xs = some ps → ∀ p ∈ ps, ∀ r ∈ p.2.refs, r ∈ refsOs env (xs.map (·.2))
  | [], ps, h => by obtain rfl := Option.some.inj h; exact fun p hp => by cases hp
  | (i, x) :: xs, ps, h => by
    simp only [argPs] at h
    obtain ⟨v, h1, h⟩ := Option.bind_eq_some_iff.1 h
    obtain ⟨r, h2, rfl⟩ := Option.map_eq_some_iff.1 h
    intro p hp r hr
    rcases List.mem_cons.1 hp with rfl | hp
    · simp only [List.map_cons, refsOs, refsO, h1]; exact List.mem_append_left _ hr
    · simp only [List.map_cons, refsOs]; exact List.mem_append_right _ (refsOs_argPs h2 p hp r hr)
section
variable {pr : Pr} {E : Q → Option Out} {nest : Bool} {I J : Nat → Prop} {M : Mem}
theorem mkLit_loc {nb sz len : Nat} {z : List T} {ps : List (Nat × V)} (hc : ∀ id, J id → ∀ r ∈ orefs (M id), J r) (h : ∀ p ∈ ps, ∀ r ∈ p.2.refs, J r) (hJ : ∀ id, J id → I id) (hn : I nb) :
    LocAt I M fun M => mkLit nest nb M sz len z ps := by
  unfold mkLit
  by_cases hcd : z.length = sz ∧ 0 < sz ∧ len * sz ≤ 16777216
  · simp only [if_pos hcd]
    refine RdAt.loc (RdAt.const _) fun vs hv => ?_
    refine ((toCss_loc hc fun l hl r hr => ?_).mono hJ).bind' fun es M1 _ => mk_locV _ hn
    rcases fillV_refs hv r (chunks_refs l hl r hr) with h1 | ⟨p, hp, hr⟩
    · obtain ⟨u, hu, hr⟩ := refsL_iff.1 h1
      obtain ⟨l2, hl2, hu⟩ := List.mem_flatten.1 hu
      rw [List.mem_replicate] at hl2
      obtain ⟨_, rfl⟩ := hl2
      have : r ∈ V.refsL (z.map V.t) := refsL_iff.2 ⟨u, hu, hr⟩
      rw [refsL_t] at this
      cases this
    · exact h p hp r hr
  · simp only [if_neg hcd]; exact LocAt.none
theorem mvIn_loc {nb : Nat} (hn : I nb) : ∀ {vs : List V} {j : Nat} {M : Mem}, (∀ r ∈ V.refsL vs, I r) → LocAt I M fun M => (mvIn nb j vs M).map fun M' => ((), M')
  | [], j, M, h => LocAt.val _
  | v :: vs, j, M, h => by
    have hvs : ∀ r ∈ V.refsL vs, I r := fun r hr => h r (by simp [V.refsL, hr])
    cases v with
    | vec id2 n2 sz2 off2 len2 =>
      refine LocAt.congr (g := fun M => ((wrN M nb 1 0 j id2 n2 sz2 off2 len2).map fun M' => ((), M')).bind fun q => (mvIn nb (j + 1) vs q.2).map fun M' => ((), M')) (fun M => ?_) ?_
      · show ((wrN M nb 1 0 j id2 n2 sz2 off2 len2).bind fun M' => mvIn nb (j + 1) vs M').map _ = _
        cases wrN M nb 1 0 j id2 n2 sz2 off2 len2 <;> rfl
      · exact (wrN_loc hn (h id2 (by simp [V.refsL, V.refs]))).bind' fun _ M1 _ => mvIn_loc hn hvs
    | _ => simp only [mvIn]; exact mvIn_loc hn hvs
theorem nilC_refs {v : V} {r : Nat} (h : r ∈ (nilC v).refs) : r ∈ v.refs := by
  cases v with
  | vec => simp [nilC, V.refs] at h
  | _ => exact h
theorem mkLitN_loc {nb sz len : Nat} {z : List T} {ps : List (Nat × V)} (hc : ∀ id, J id → ∀ r ∈ orefs (M id), J r) (h : ∀ p ∈ ps, ∀ r ∈ p.2.refs, J r) (hJ : ∀ id, J id → I id) (hn : I nb) :
    LocAt I M fun M => mkLitN nest nb M sz len z ps := by
  unfold mkLitN
  cases hv : (bif nest then litOne sz len ps else none) with
  | none => exact mkLit_loc hc h hJ hn
  | some vs =>
    have hlo : litOne sz len ps = some vs := by cases nest <;> simp at hv; exact hv
    have hps : ps = [(0, .agg vs)] := by
      unfold litOne at hlo
      split at hlo
      · rename_i vs0
        cases hb : (len == 1 && vs0.length == sz && vs0.any V.isVec) with
        | false => rw [hb] at hlo; cases hlo
        | true => rw [hb] at hlo; rw [Option.some.inj hlo]
      · cases hlo
    subst hps
    have hvs : ∀ r ∈ V.refsL vs, J r := fun r hr => h (0, .agg vs) (by simp) r (by simpa [V.refs] using hr)
    dsimp only
    refine LocAt.congr (g := fun M => (mkLit false nb M sz 1 z [(0, .agg (vs.map nilC))]).bind fun p => ((mvIn nb 0 vs p.2).map fun M' => ((), M')).bind fun q => some (p.1, q.2)) (fun M => ?_) ?_
    · cases mkLit false nb M sz 1 z [(0, .agg (vs.map nilC))] with
      | none => rfl
      | some p => obtain ⟨v, M1⟩ := p; dsimp only [Option.bind_some]; cases mvIn nb 0 vs M1 <;> rfl
    · refine (mkLit_loc hc (fun p hp r hr => ?_) hJ hn).bind' fun v M1 _ => (mvIn_loc hn fun r hr => hJ r (hvs r hr)).bind' fun _ M2 _ => LocAt.val _
      obtain rfl := List.mem_singleton.1 hp
      simp only [V.refs] at hr
      obtain ⟨u, hu, hr⟩ := refsL_iff.1 hr
      obtain ⟨y, hy, rfl⟩ := List.mem_map.1 hu
      exact hvs r (refsL_iff.2 ⟨y, hy, nilC_refs hr⟩)
theorem mkMake_loc {nb sz bytes : Nat} {z : List T} {l c : V} (hn : I nb) : LocAt I M fun M => mkMake nb M sz bytes z l c := by
  unfold mkMake
  refine RdAt.loc (RdAt.const _) fun n _ => ?_
  refine RdAt.loc (RdAt.const _) fun c _ => ?_
  by_cases hcd : z.length = sz ∧ 0 < sz ∧ n ≤ c ∧ c ≤ room ∧ bytes ≤ small
  · simp only [if_pos hcd]; exact mk_locV _ hn
  · simp only [if_neg hcd]; exact LocAt.none
theorem callV_loc {fv : V} {args : List V} {nb : Nat} (hc : ∀ id, J id → ∀ r ∈ orefs (M id), J r) (hf : ∀ r ∈ fv.refs, J r) (h : ∀ r ∈ V.refsL args, J r) (hJ : ∀ id, J id → I id) (hn : ∀ k, k < 8 → I (nb + k)) :
    LocAt I M fun M => callV pr E fv args M nb fun v M => some (v, M) := by
  unfold callV
  cases fv with
  | t x =>
    cases x with
    | clo f caps => exact callE_loc hc (fun r hr => by rw [refsL_app, refsL_t] at hr; exact h r (by simpa using hr)) hJ hn
    | _ => exact LocAt.none
  | clo f caps =>
    refine callE_loc hc (fun r hr => ?_) hJ hn
    rw [refsL_app] at hr
    rcases hr with hr | hr
    · exact h r hr
    · exact hf r (by simpa [V.refs] using hr)
  | _ => exact LocAt.none
theorem opK_loc {o : Oper} {s : S} {t : Touch} (ht : touch pr o s = some t) : LocAt t.has s.mem fun M => opK pr E nest o { s with mem := M } fun v M => some (v, M) := by
  by_cases hp : Ev.Oper.pure o = true
  · refine LocAt.congr (fun M => opK_pure hp s.env M (fun _ => none) s.k0 0 _) ?_
    exact RdAt.loc (RdAt.const _) fun v _ => LocAt.val _
  · obtain ⟨dst, op, type, pos, after, guard⟩ := o
    replace hp : Ev.Oper.pure ⟨dst, op, type, pos, after, guard⟩ = false := by simpa using hp
    have cl : ∀ {rs L : List Nat}, clos s.mem fuel0 rs [] = some L → (∀ id, id ∈ L → ∀ r ∈ orefs (s.mem id), r ∈ L) ∧ ∀ r ∈ rs, r ∈ L := fun h => clos_of_refs h
    unfold opK
    unfold Ev.Oper.pure at hp
    unfold touch at ht
    cases op <;> first | (cases hp; done) | skip
    case alloc t' =>
      obtain rfl := Option.some.inj ht
      dsimp only
      refine RdAt.loc (RdAt.const _) fun z _ => ?_
      exact (newBox_loc (.inr ⟨Nat.le_refl _, by simp [bound]⟩)).bind' fun v M1 _ => LocAt.val _
    case box t' x =>
      obtain rfl := Option.some.inj ht
      dsimp only
      refine RdAt.loc (RdAt.const _) fun z _ => ?_
      exact (newBox_loc (.inr ⟨Nat.le_refl _, by simp [bound]⟩)).bind' fun v M1 _ => LocAt.val _
    case buildSlice t' len parts =>
      dsimp only at ht ⊢
      obtain ⟨L, hL, rfl⟩ := Option.map_eq_some_iff.1 ht
      obtain ⟨c1, c2⟩ := cl hL
      refine RdAt.loc (RdAt.const _) fun ps hps => ?_
      refine RdAt.loc (RdAt.const _) fun e _ => ?_
      refine RdAt.loc (RdAt.const _) fun sz _ => ?_
      refine RdAt.loc (RdAt.const _) fun z _ => ?_
      refine (mkLitN_loc (J := (· ∈ L)) c1 (fun p hp r hr => c2 r (refsOs_argPs hps p hp r hr)) (fun id h => .inl h) (.inr ⟨Nat.le_refl _, by simp [bound]⟩)).bind' fun v M1 _ => LocAt.val _
    case load t' a =>
      obtain rfl := Option.some.inj ht
      dsimp only
      refine RdAt.loc (RdAt.const _) fun p hp => ?_
      refine RdAt.loc (RdAt.const _) fun ag _ => ?_
      refine RdAt.loc (RdAt.const _) fun n _ => ?_
      exact RdAt.loc (ld_loc fun r hr => .inl (by show r ∈ refsO s.env a; rw [refsO, hp]; exact hr)) fun v _ => LocAt.val _
    case store t' a x =>
      dsimp only at ht ⊢
      obtain ⟨L, hL, rfl⟩ := Option.map_eq_some_iff.1 ht
      obtain ⟨c1, c2⟩ := cl hL
      refine RdAt.loc (RdAt.const _) fun p hp => ?_
      refine RdAt.loc (RdAt.const _) fun v hv => ?_
      refine RdAt.loc (RdAt.const _) fun n _ => ?_
      by_cases hcd : v.cells.length = n ∧ n ≠ 0
      · simp only [if_pos hcd]
        refine LocAt.congr (g := fun M => ((wrs nest M p 0 v.cells).map fun M' => ((), M')).bind fun q => some (.undef, q.2)) (fun M => by cases wrs nest M p 0 v.cells <;> rfl) ?_
        refine (wrs_loc (J := (· ∈ L)) (fun r hr => .inl (List.mem_append_left _ ?_)) (fun id h => .inl (List.mem_append_right _ h)) c1 fun r hr => c2 r ?_).bind' fun _ M1 _ => LocAt.val _
        · rw [refsO, hv]; rw [cells_refs] at hr; exact hr
        · rw [refsO, hp]; exact hr
      · simp only [if_neg hcd]; exact LocAt.none
    case makeSlice t' l c =>
      obtain rfl := Option.some.inj ht
      dsimp only
      iterate 6 refine RdAt.loc (RdAt.const _) fun _ _ => ?_
      exact (mkMake_loc (.inr ⟨Nat.le_refl _, by simp [bound]⟩)).bind' fun v M1 _ => LocAt.val _
    case call c =>
      dsimp only at ht hp ⊢
      have ha : ∀ {vs}, argL s.env c.args = some vs → V.refsL vs = refsOs s.env c.args.toList := fun h => refsOs_argL h
      cases hce : c.callee with
      | builtin b =>
        rw [hce] at ht hp
        cases b <;> first | (cases hp; done) | (cases ht; done) | exact LocAt.none | skip
        case copy =>
          dsimp only at ht ⊢
          obtain rfl := Option.some.inj ht
          refine RdAt.loc (RdAt.const _) fun vs hvs => ?_
          have hr := ha hvs
          have low : (∀ r ∈ V.refsL vs, r ∈ refsOs s.env c.args.toList) := fun r h => by rw [← hr]; exact h
          match vs, c.argTypes[0]?, low with
          | [a, b], some t', low =>
            dsimp only
            refine RdAt.loc (RdAt.const _) fun e _ => RdAt.loc (RdAt.const _) fun sz _ => ?_
            exact (cpy_loc (fun r hr => .inl (low r (by simp [V.refsL, hr]))) (fun r hr => .inl (low r (by simp [V.refsL, hr])))).bind' fun v M1 _ => LocAt.val _
          | [], _, _ => exact LocAt.none
          | [_], _, _ => exact LocAt.none
          | _ :: _ :: _ :: _, _, _ => exact LocAt.none
          | [_, _], none, _ => exact LocAt.none
        dsimp only at ht ⊢
        obtain rfl := Option.some.inj ht
        refine RdAt.loc (RdAt.const _) fun vs hvs => ?_
        have hr := ha hvs
        have low : (∀ r ∈ V.refsL vs, r ∈ refsOs s.env c.args.toList) := fun r h => by rw [← hr]; exact h
        match vs, c.argTypes[0]?, c.argTypes[1]?, low with
        | [a, b], some t', some u, low =>
          dsimp only
          have fin : LocAt (Touch.has ⟨refsOs s.env c.args.toList, true, 1000 + 8 * dst.getD 0⟩) s.mem fun M =>
              (elemT pr.P t').bind fun e => (szT pr.P e).bind fun sz => (pr.P.info? e).bind fun i => (zeroT pr.P e).bind fun z =>
              if z.length = sz then (appX (1000 + 8 * dst.getD 0) M sz i.bytes a b).bind fun (v, M') => some (v, M') else none := by
            iterate 4 refine RdAt.loc (RdAt.const _) fun _ _ => ?_
            rename_i sz _ i _ z _
            by_cases hz : z.length = sz
            · simp only [if_pos hz]
              exact (appX_loc (fun r hr => .inl (low r (by simp [V.refsL, hr]))) (fun r hr => .inl (low r (by simp [V.refsL, hr]))) (.inr ⟨Nat.le_refl _, by simp⟩)).bind' fun v M1 _ => LocAt.val _
            · simp only [if_neg hz]; exact LocAt.none
          match pr.P.underlying u with
          | none => exact LocAt.none
          | some ty => cases ty <;> first | exact fin | exact LocAt.none
        | [], _, _, _ => exact LocAt.none
        | [_], _, _, _ => exact LocAt.none
        | _ :: _ :: _ :: _, _, _, _ => exact LocAt.none
        | [_, _], none, _, _ => exact LocAt.none
        | [_, _], some _, none, _ => exact LocAt.none
      | value x =>
        rw [hce] at ht
        cases x with
        | func f =>
          dsimp only at ht ⊢
          obtain ⟨L, hL, rfl⟩ := Option.map_eq_some_iff.1 ht
          obtain ⟨c1, c2⟩ := cl hL
          refine RdAt.loc (RdAt.const _) fun vs hvs => ?_
          exact callE_loc (J := (· ∈ L)) c1 (fun r hr => c2 r (by rw [← ha hvs]; exact hr)) (fun id h => .inl h) fun k hk => .inr ⟨by simp [bound], by simp [bound]; omega⟩
        | _ =>
          dsimp only at ht ⊢
          obtain ⟨L, hL, rfl⟩ := Option.map_eq_some_iff.1 ht
          obtain ⟨c1, c2⟩ := cl hL
          refine RdAt.loc (RdAt.const _) fun fv hfv => ?_
          refine RdAt.loc (RdAt.const _) fun vs hvs => ?_
          exact callV_loc (J := (· ∈ L)) c1 (fun r hr => c2 r (List.mem_append_left _ (by rw [refsO, hfv]; exact hr))) (fun r hr => c2 r (List.mem_append_right _ (by rw [← ha hvs]; exact hr))) (fun id h => .inl h) fun k hk => .inr ⟨by simp [bound], by simp [bound]; omega⟩
      | invoke r m => exact LocAt.none
end
end Go.Ev

namespace Go.Ev
set_option linter.unusedVariables false
set_option linter.unusedSimpArgs false
def Touch.own (t : Touch) (id : Nat) : Prop := t.b ≤ id ∧ id < t.b + 8
def putE (env : Nat → V) (d : Option Nat) (v : V) : Nat → V := match d with | some d => upd env d v | none => env
section
variable {pr : Pr} {E : Q → Option Out} {nest : Bool}
theorem allBorrow_prep : ∀ {ms : List Mode} {xs : List Operand} {vs : List V} {M : Mem}, allBorrow ms xs = true → vs.length = xs.length →
    (∀ {az M'}, prepM ms vs M = some (az, M') → az = vs ∧ M' = M) ∧ ∀ {bs B}, prepB M ms vs = some (bs, B) → V.refsL bs = []
  | [], [], [], M, _, _ => ⟨fun h => by obtain ⟨rfl, rfl⟩ := Prod.mk.inj (Option.some.inj h); exact ⟨rfl, rfl⟩, fun h => by obtain ⟨rfl, rfl⟩ := Prod.mk.inj (Option.some.inj h); rfl⟩
  | m :: ms, [], [], M, _, _ => ⟨fun h => by cases m <;> (obtain ⟨rfl, rfl⟩ := Prod.mk.inj (Option.some.inj h); exact ⟨rfl, rfl⟩), fun h => by cases m <;> (obtain ⟨rfl, rfl⟩ := Prod.mk.inj (Option.some.inj h); rfl)⟩
  | [], x :: xs, vs, M, h, _ => by simp [allBorrow] at h
  | ms, x :: xs, [], M, h, hl => by simp at hl
  | ms, [], v :: vs, M, h, hl => by simp at hl
  | .borrow :: ms, x :: xs, v :: vs, M, h, hl => by
    obtain ⟨q1, q2⟩ := allBorrow_prep (M := M) (by simpa [allBorrow] using h : allBorrow ms xs = true) (by simpa using hl : vs.length = xs.length)
    refine ⟨fun {az M'} h => ?_, fun {bs B} h => ?_⟩
    · obtain ⟨⟨r, M1⟩, h1, h2⟩ := Option.map_eq_some_iff.1 (h : (prepM ms vs M).map (fun p => (v :: p.1, p.2)) = _)
      obtain ⟨rfl, rfl⟩ := Prod.mk.inj h2
      obtain ⟨rfl, rfl⟩ := q1 h1
      exact ⟨rfl, rfl⟩
    · obtain ⟨v', h1, h⟩ := Option.bind_eq_some_iff.1 (h : (fzV M v).bind _ = _)
      obtain ⟨⟨r, B2⟩, h2, h3⟩ := Option.map_eq_some_iff.1 h
      obtain ⟨rfl, rfl⟩ := Prod.mk.inj h3
      simp [V.refsL, fz_refs h1, q2 h2]
  | .pass :: ms, x :: xs, v :: vs, M, h, hl => by simp [allBorrow] at h
  | .move :: ms, x :: xs, v :: vs, M, h, hl => by simp [allBorrow] at h
theorem clos_nil {M : Mem} {L : List Nat} (h : clos M fuel0 [] [] = some L) : L = [] := by
  have : fuel0 = 4095 + 1 := rfl
  rw [this] at h
  simp only [clos] at h
  exact (Option.some.inj h).symm
theorem opK_ro {o : Oper} {s : S} {t : Touch} {v : V} {M' : Mem} (ht : touch pr o s = some t) (hw : t.w = false) (h : opK pr E nest o s (fun v M => some (v, M)) = some (v, M')) (id : Nat) (hid : ¬ t.own id) : M' id = s.mem id := by
  by_cases hp : Ev.Oper.pure o = true
  · rw [show s = ⟨s.env, s.mem, s.k0⟩ from rfl, opK_pure hp s.env s.mem (fun _ => none) s.k0 0] at h
    obtain ⟨u, _, h⟩ := Option.bind_eq_some_iff.1 h
    obtain ⟨_, rfl⟩ := Prod.mk.inj (Option.some.inj h)
    rfl
  · obtain ⟨dst, op, type, pos, after, guard⟩ := o
    replace hp : Ev.Oper.pure ⟨dst, op, type, pos, after, guard⟩ = false := by simpa using hp
    unfold opK at h
    unfold Ev.Oper.pure at hp
    unfold touch at ht
    cases op <;> first | (cases hp; done) | skip
    case alloc t' =>
      obtain rfl := Option.some.inj ht
      obtain ⟨z, _, h⟩ := Option.bind_eq_some_iff.1 h
      obtain ⟨⟨u, M1⟩, h1, h⟩ := Option.bind_eq_some_iff.1 h
      obtain ⟨_, rfl⟩ := Prod.mk.inj (Option.some.inj h)
      exact (newBox_loc (I := Touch.own ⟨[], false, bound ⟨dst, .alloc t', type, pos, after, guard⟩⟩) (M := s.mem) (vs := z.map V.t) ⟨Nat.le_refl _, by simp⟩ u M1 h1).1 id hid
    case box t' x =>
      obtain rfl := Option.some.inj ht
      obtain ⟨z, _, h⟩ := Option.bind_eq_some_iff.1 h
      obtain ⟨⟨u, M1⟩, h1, h⟩ := Option.bind_eq_some_iff.1 h
      obtain ⟨_, rfl⟩ := Prod.mk.inj (Option.some.inj h)
      exact (newBox_loc (I := Touch.own ⟨[], false, bound ⟨dst, .box t' x, type, pos, after, guard⟩⟩) (M := s.mem) (vs := z.cells) ⟨Nat.le_refl _, by simp⟩ u M1 h1).1 id hid
    case buildSlice t' len parts => obtain ⟨L, _, rfl⟩ := Option.map_eq_some_iff.1 ht; cases hw
    case load t' a =>
      obtain ⟨p, _, h⟩ := Option.bind_eq_some_iff.1 h
      obtain ⟨ag, _, h⟩ := Option.bind_eq_some_iff.1 h
      obtain ⟨n, _, h⟩ := Option.bind_eq_some_iff.1 h
      obtain ⟨u, _, h⟩ := Option.bind_eq_some_iff.1 h
      obtain ⟨_, rfl⟩ := Prod.mk.inj (Option.some.inj h)
      rfl
    case store t' a x => obtain ⟨L, _, rfl⟩ := Option.map_eq_some_iff.1 ht; cases hw
    case makeSlice t' l c =>
      obtain rfl := Option.some.inj ht
      obtain ⟨l', _, h⟩ := Option.bind_eq_some_iff.1 h
      obtain ⟨c', _, h⟩ := Option.bind_eq_some_iff.1 h
      obtain ⟨e, _, h⟩ := Option.bind_eq_some_iff.1 h
      obtain ⟨sz, _, h⟩ := Option.bind_eq_some_iff.1 h
      obtain ⟨z, _, h⟩ := Option.bind_eq_some_iff.1 h
      obtain ⟨i, _, h⟩ := Option.bind_eq_some_iff.1 h
      obtain ⟨⟨u, M1⟩, h1, h⟩ := Option.bind_eq_some_iff.1 h
      obtain ⟨_, rfl⟩ := Prod.mk.inj (Option.some.inj h)
      exact (mkMake_loc (I := Touch.own ⟨[], false, bound ⟨dst, .makeSlice t' l c, type, pos, after, guard⟩⟩) (M := s.mem) ⟨Nat.le_refl _, by simp⟩ u M1 h1).1 id hid
    case call c =>
      dsimp only at ht hp h
      cases hce : c.callee with
      | builtin b =>
        rw [hce] at ht hp h
        cases b <;> first | (cases hp; done) | (cases ht; done) | (cases h; done) | (obtain rfl := Option.some.inj ht; cases hw)
      | value x =>
        rw [hce] at ht h
        cases x with
        | func f =>
          dsimp only at ht h
          obtain ⟨L0, hL0, rfl⟩ := Option.map_eq_some_iff.1 ht
          have hab : allBorrow (pr.pol f).modes c.args.toList = true := by simpa using hw
          obtain ⟨vs, hvs, h⟩ := Option.bind_eq_some_iff.1 h
          have hlen : vs.length = c.args.toList.length := (mapM_some_get hvs).1
          unfold callE at h
          have hlen := (softL_get (pr.pol f).argS vs).1.trans hlen
          generalize softL (pr.pol f).argS vs = vs at h hlen
          obtain ⟨⟨az, M1⟩, h1, h⟩ := Option.bind_eq_some_iff.1 h
          obtain ⟨⟨bs, Br⟩, h2, h⟩ := Option.bind_eq_some_iff.1 h
          obtain ⟨q1, _⟩ := allBorrow_prep (M := s.mem) hab hlen
          obtain ⟨rfl, rfl⟩ := q1 h1
          obtain ⟨_, q2⟩ := allBorrow_prep (M := s.mem) hab hlen
          have hb := q2 h2
          obtain ⟨B, h3, h⟩ := Option.bind_eq_some_iff.1 h
          obtain ⟨L, h4, h⟩ := Option.bind_eq_some_iff.1 h
          rw [hb] at h4
          obtain rfl := clos_nil h4
          dsimp only at h
          simp only [Bool.cond_eq_ite] at h
          split at h
          · obtain ⟨out, _, h⟩ := Option.bind_eq_some_iff.1 h
            obtain ⟨⟨u, M2⟩, h5, h⟩ := Option.bind_eq_some_iff.1 h
            obtain ⟨_, rfl⟩ := Prod.mk.inj (Option.some.inj h)
            exact (merge_loc (I := Touch.own ⟨L0, false, bound ⟨dst, .call c, type, pos, after, guard⟩⟩) (M := s.mem) (L := []) (fun x hx => by cases hx) (fun k hk => ⟨by simp [bound], by simp [bound]; omega⟩) u M2 h5).1 id hid
          · cases h
        | _ =>
          dsimp only at ht h
          obtain ⟨L0, hL0, rfl⟩ := Option.map_eq_some_iff.1 ht
          cases hw
      | invoke r m => rw [hce] at h; cases h
theorem argL_congr {e1 e2 : Nat → V} : ∀ {xs : List Operand}, (∀ x ∈ xs, arg e1 x = arg e2 x) → xs.mapM (arg e1) = xs.mapM (arg e2)
  | [], _ => rfl
  | x :: xs, h => by rw [List.mapM_cons, List.mapM_cons, h x (by simp), argL_congr fun y hy => h y (by simp [hy])]
theorem refsOs_congr {e1 e2 : Nat → V} : ∀ {xs : List Operand}, (∀ x ∈ xs, arg e1 x = arg e2 x) → refsOs e1 xs = refsOs e2 xs
  | [], _ => rfl
  | x :: xs, h => by rw [refsOs, refsOs, refsO, refsO, h x (by simp), refsOs_congr fun y hy => h y (by simp [hy])]
theorem argPs_congr {e1 e2 : Nat → V} : ∀ {xs : List (Nat × Operand)}, (∀ x ∈ xs.map (·.2), arg e1 x = arg e2 x) → argPs e1 xs = argPs e2 xs
  | [], _ => rfl
  | (i, x) :: xs, h => by rw [argPs, argPs, h x (by simp), argPs_congr fun y hy => h y (by simp only [List.map_cons, List.mem_cons]; exact .inr hy)]
theorem argO_congr {e1 e2 : Nat → V} {x : Option Operand} (h : ∀ y, x = some y → arg e1 y = arg e2 y) : argO e1 x = argO e2 x := by
  cases x with
  | none => rfl
  | some x => simp only [argO, h x rfl]
theorem opK_env {R : Type} {o : Oper} {e1 e2 : Nat → V} (h : ∀ x ∈ o.op.operands, arg e1 x = arg e2 x) (M : Mem) (k0 k1 : Nat) (K : V → Mem → Option R) : opK pr E nest o ⟨e1, M, k0⟩ K = opK pr E nest o ⟨e2, M, k1⟩ K := by
  obtain ⟨dst, op, type, pos, after, guard⟩ := o
  cases op <;> simp only [Op.operands] at h <;> unfold opK <;> dsimp only
  case build t ps => rw [argPs_congr fun x hx => h x (by simpa using hx)]
  case buildSlice t n ps => rw [argPs_congr fun x hx => h x (by simpa using hx)]
  case makeFunc fn first captured =>
    cases fn with
    | func f => dsimp only; unfold argL; rw [argL_congr fun x hx => h x (by simp; exact .inr (by simpa using hx))]
    | _ => rfl
  case call c =>
    have ha : argL e1 c.args = argL e2 c.args := argL_congr fun x hx => h x (by simp [Call.operands]; exact .inr (by simpa using hx))
    rw [ha]
    cases hce : c.callee with
    | builtin b => cases b <;> rfl
    | value x =>
      have := h x (by simp [Call.operands, hce])
      cases x <;> first | rfl | (dsimp only; rw [this])
    | invoke r m => rfl
  case slice t x lo hi mx =>
    rw [h x (by simp), argO_congr (x := lo) fun y hy => h y (by simp [hy]), argO_congr (x := hi) fun y hy => h y (by simp [hy]), argO_congr (x := mx) fun y hy => h y (by simp [hy])]
  all_goals first | rfl | (simp_all; done)
theorem touch_env {o : Oper} {e1 e2 : Nat → V} (h : ∀ x ∈ o.op.operands, arg e1 x = arg e2 x) (M : Mem) (k0 k1 : Nat) : touch pr o ⟨e1, M, k0⟩ = touch pr o ⟨e2, M, k1⟩ := by
  obtain ⟨dst, op, type, pos, after, guard⟩ := o
  cases op <;> simp only [Op.operands] at h <;> unfold touch <;> dsimp only
  case load t a => rw [refsO, refsO, h a (by simp)]
  case store t a x => rw [refsO, refsO, refsO, refsO, h a (by simp), h x (by simp)]
  case buildSlice t n ps => rw [refsOs_congr (xs := ps.toList.map (·.2)) fun x hx => h x (by simpa using hx)]
  case call c =>
    have ha : refsOs e1 c.args.toList = refsOs e2 c.args.toList := refsOs_congr fun x hx => h x (by simp [Call.operands]; exact .inr (by simpa using hx))
    rw [ha]
    cases hce : c.callee with
    | builtin b => cases b <;> rfl
    | value x =>
      have := h x (by simp [Call.operands, hce])
      cases x <;> first | rfl | (dsimp only; rw [refsO, refsO, this])
    | invoke r m => rfl
theorem touch_mem {o : Oper} {s : S} {t : Touch} (h : touch pr o s = some t) {N : Mem} (hN : ∀ id, id ∈ t.ids → N id = s.mem id) : touch pr o { s with mem := N } = some t := by
  have cl : ∀ {rs : List Nat} {L : List Nat} {g : List Nat → Touch}, (clos s.mem fuel0 rs []).map g = some t → (∀ L, (g L).ids = L) → (clos N fuel0 rs []).map g = some t := fun {rs L g} h hg => by
    obtain ⟨L, h1, rfl⟩ := Option.map_eq_some_iff.1 h
    rw [clos_loc fuel0 h1 fun x hx => hN x (by rw [hg]; exact hx)]
    rfl
  obtain ⟨dst, op, type, pos, after, guard⟩ := o
  unfold touch at h ⊢
  cases op <;> first | exact h | skip
  case buildSlice t' n ps => exact cl (L := []) h fun _ => rfl
  case store t' a x =>
    dsimp only at h ⊢
    obtain ⟨L, h1, rfl⟩ := Option.map_eq_some_iff.1 h
    rw [clos_loc fuel0 h1 fun y hy => hN y (List.mem_append_right _ hy)]
    rfl
  case call c =>
    dsimp only at h ⊢
    cases hce : c.callee with
    | builtin b => rw [hce] at h; cases b <;> exact h
    | value x =>
      rw [hce] at h
      cases x <;> exact cl (L := []) h fun _ => rfl
    | invoke r m => rw [hce] at h; cases h
theorem touch_b {o : Oper} {s : S} {t : Touch} (h : touch pr o s = some t) : t.b = bound o := by
  obtain ⟨dst, op, type, pos, after, guard⟩ := o
  unfold touch at h
  cases op <;> first | (obtain rfl := Option.some.inj h; rfl) | skip
  case buildSlice t' n ps => obtain ⟨L, _, rfl⟩ := Option.map_eq_some_iff.1 h; rfl
  case store t' a x => obtain ⟨L, _, rfl⟩ := Option.map_eq_some_iff.1 h; rfl
  case call c =>
    dsimp only at h
    cases hce : c.callee with
    | builtin b => rw [hce] at h; cases b <;> first | (cases h; done) | (obtain rfl := Option.some.inj h; rfl)
    | value x =>
      rw [hce] at h
      cases x <;> (obtain ⟨L, _, rfl⟩ := Option.map_eq_some_iff.1 h; rfl)
    | invoke r m => rw [hce] at h; cases h
end
end Go.Ev
