import Derived.Test.YtdbpimeaipgpfabGreatKFnExactStepMachine2
namespace Go.Ev
set_option linter.unusedVariables false
set_option linter.unusedSimpArgs false
section
variable {pr : Pr} {E : Q → Option Out} {nest : Bool} {frz : List Nat} {nt : Nat} {ops : Array Oper}
theorem opFK_loc {o : Oper} {s : S} {t : Touch} (ht : touch pr o s = some t) : LocAt t.has s.mem fun M => opFK pr E frz nest o { s with mem := M } fun v M => some (v, M) := by
  unfold opFK
  cases (o.dst.any fun d => frz.contains d) with
  | false => exact opK_loc ht
  | true =>
    simp only [cond_true]
    refine LocAt.congr (fun M => opK_bind ..) ?_
    refine (opK_loc ht).bind' fun v M1 _ => ?_
    intro x M' h
    dsimp only at h ⊢
    obtain ⟨⟨v', M2⟩, h1, h⟩ := Option.bind_eq_some_iff.1 h
    obtain ⟨L, h2, h⟩ := Option.bind_eq_some_iff.1 h
    dsimp only at h2 h
    simp only [Bool.cond_eq_ite] at h
    split at h
    · rename_i hall
      obtain ⟨rfl, rfl⟩ := Prod.mk.inj (Option.some.inj h)
      have hb := touch_b ht
      obtain ⟨c1, c2⟩ := clos_of_refs h2
      have hown : ∀ id, id ∈ L → t.has id := fun id hi => by
        have := List.all_eq_true.1 hall id hi
        simp only [Bool.and_eq_true, decide_eq_true_eq] at this
        exact .inr (by rw [hb]; exact this)
      obtain ⟨a, b⟩ := ((mvV_loc (I := (· ∈ L)) (M := M1) c1 c2).mono hown) v' M2 h1
      refine ⟨a, fun N hN => ?_⟩
      have b' : mvV N v = some (v', patch t.has M2 N) := b N hN
      rw [b', Option.bind_some, clos_loc fuel0 h2 fun x hx => hN x (hown x hx), Option.bind_some]
      dsimp only
      rw [hall]
      rfl
    · cases h
theorem killL_out {L : List Nat} {M : Mem} {x : Nat} (h : x ∉ L) : killL L M x = M x := by unfold killL; rw [if_neg (by simpa using h)]
theorem mvV_out {M M' : Mem} {v v' : V} {L : List Nat} (h : mvV M v = some (v', M')) (hL : clos M fuel0 v.refs [] = some L) {x : Nat} (hx : x ∉ L) : M' x = M x := by
  unfold mvV at h
  obtain ⟨y, _, h⟩ := Option.bind_eq_some_iff.1 h
  split at h
  · obtain ⟨_, rfl⟩ := Prod.mk.inj (Option.some.inj h); rfl
  · rw [hL] at h
    obtain ⟨_, rfl⟩ := Prod.mk.inj (Option.some.inj h)
    exact killL_out hx
theorem opFK_ro {o : Oper} {s : S} {t : Touch} {v : V} {M' : Mem} (ht : touch pr o s = some t) (hw : t.w = false) (h : opFK pr E frz nest o s (fun v M => some (v, M)) = some (v, M')) (id : Nat) (hid : ¬ t.own id) : M' id = s.mem id := by
  unfold opFK at h
  simp only [Bool.cond_eq_ite] at h
  split at h
  · rw [opK_bind] at h
    obtain ⟨⟨v1, M1⟩, h1, h⟩ := Option.bind_eq_some_iff.1 h
    obtain ⟨⟨v2, M2⟩, h2, h⟩ := Option.bind_eq_some_iff.1 h
    obtain ⟨L, h3, h⟩ := Option.bind_eq_some_iff.1 h
    split at h
    · rename_i hall
      obtain ⟨rfl, rfl⟩ := Prod.mk.inj (Option.some.inj h)
      rw [← opK_ro ht hw h1 id hid]
      refine mvV_out h2 h3 fun hm => hid ?_
      have := List.all_eq_true.1 hall id hm
      simp only [Bool.and_eq_true, decide_eq_true_eq] at this
      show t.b ≤ id ∧ id < t.b + 8
      rw [touch_b ht]
      exact this
    · cases h
  · exact opK_ro ht hw h id hid
theorem opFK_env {o : Oper} {e1 e2 : Nat → V} (h : ∀ x ∈ o.op.operands, arg e1 x = arg e2 x) (M : Mem) (k0 k1 : Nat) {R : Type} (K : V → Mem → Option R) : opFK pr E frz nest o ⟨e1, M, k0⟩ K = opFK pr E frz nest o ⟨e2, M, k1⟩ K := by
  unfold opFK
  rw [opK_env h M k0 k1, opK_env h M k0 k1]
theorem arg_looks {o : Oper} {e1 e2 : Nat → V} (h : ∀ d ∈ o.looksAt ops, e1 d = e2 d) : ∀ x ∈ o.op.operands, arg e1 x = arg e2 x := fun x hx => by
  cases x with
  | tmp t => exact congrArg some (h t (List.mem_append_left _ (List.mem_filterMap.2 ⟨.tmp t, by simpa using hx, rfl⟩)))
  | _ => rfl
theorem want_looks {o : Oper} {e1 e2 : Nat → V} (h : ∀ d ∈ o.looksAt ops, e1 d = e2 d) {j : Nat} {b : Bool} (hg : o.guard = some (j, b)) : wantV ops e1 j b = wantV ops e2 j b := by
  unfold wantV
  cases ht : (ops[j]?).bind (·.dst) with
  | none => rfl
  | some t =>
    have : e1 t = e2 t := h t (by simp [Oper.looksAt, hg, ht])
    dsimp only
    rw [this]
structure Did (pr : Pr) (E : Q → Option Out) (nt : Nat) (frz : List Nat) (nest : Bool) (ops : Array Oper) (o : Oper) (s : S) (y : Bool) (t : Touch) (v : V) (M' : Mem) : Prop where
  tb : t.b = bound o
  want : wanted1 ops o s = some y
  tch : (bif y then touch pr o s else some ⟨[], false, bound o⟩) = some t
  run : (bif y then opFK pr E frz nest o s (fun v M => some (v, M)) else some (.tup [], s.mem)) = some (v, M')
  dst : ∀ d, o.dst = some d → d < nt
variable {o : Oper} {s : S} {y : Bool} {t : Touch} {v : V} {M' : Mem}
theorem Did.frame (h : Did pr E nt frz nest ops o s y t v M') (id : Nat) (hi : ¬ t.has id) : M' id = s.mem id := by
  have h1 := h.tch
  have h2 := h.run
  cases y with
  | true => exact (opFK_loc h1 v M' h2).1 id hi
  | false => obtain ⟨_, rfl⟩ := Prod.mk.inj (Option.some.inj h2); rfl
theorem Did.ro (h : Did pr E nt frz nest ops o s y t v M') (hw : t.w = false) (id : Nat) (hi : ¬ t.own id) : M' id = s.mem id := by
  have h1 := h.tch
  have h2 := h.run
  cases y with
  | true => exact opFK_ro h1 hw h2 id hi
  | false => obtain ⟨_, rfl⟩ := Prod.mk.inj (Option.some.inj h2); rfl
theorem Did.moved (h : Did pr E nt frz nest ops o s y t v M') {s2 : S} (he : ∀ d ∈ o.looksAt ops, s2.env d = s.env d) (hm : ∀ id, t.has id → s2.mem id = s.mem id) :
    Did pr E nt frz nest ops o s2 y t v (patch t.has M' s2.mem) := by
  have h1 := h.tch
  have h2 := h.run
  have ha := arg_looks he
  refine ⟨h.tb, ?_, ?_, ?_, h.dst⟩
  · have := h.want
    unfold wanted1 at this ⊢
    split
    · rename_i hg; rw [hg] at this; exact this
    · rename_i j b hg; rw [hg] at this; rw [want_looks he hg]; exact this
  · cases y with
    | true =>
      show touch pr o s2 = some t
      rw [show s2 = ⟨s2.env, s2.mem, s2.k0⟩ from rfl, touch_env ha s2.mem s2.k0 s.k0]
      exact touch_mem h1 fun id hi => hm id (.inl hi)
    | false => exact h1
  · cases y with
    | true =>
      show opFK pr E frz nest o s2 (fun v M => some (v, M)) = _
      rw [show s2 = ⟨s2.env, s2.mem, s2.k0⟩ from rfl, opFK_env ha s2.mem s2.k0 s.k0]
      exact (opFK_loc h1 v M' h2).2 s2.mem hm
    | false =>
      obtain ⟨rfl, rfl⟩ := Prod.mk.inj (Option.some.inj h2)
      show some _ = some _
      rw [patch_same fun id hi => hm id hi]
def putS (s : S) (d : Option Nat) (v : V) (M : Mem) : S := ⟨putE s.env d v, M, s.k0⟩
theorem Did.op (h : Did pr E nt frz nest ops o s y t v M') : op1K pr E nt frz nest ops o s some = some (putS s o.dst v M') := by
  have hf : fin nt o s v M' some = some (putS s o.dst v M') := by
    unfold fin putS putE
    cases hd : o.dst with
    | none => rfl
    | some d => dsimp only; rw [if_pos (h.dst d hd)]
  have h1 := h.want
  have h2 := h.run
  unfold op1K
  unfold wanted1 at h1
  split
  · rename_i hg
    rw [hg] at h1
    obtain rfl := Option.some.inj h1
    rw [opFK_bind, show opFK pr E frz nest o s (fun v M => some (v, M)) = some (v, M') from h2]
    exact hf
  · rename_i j b hg
    rw [hg] at h1
    dsimp only at h1
    rw [h1, Option.bind_some, h2]
    exact hf
theorem Did.of (hw : wanted1 ops o s = some y) (ht : (bif y then touch pr o s else some ⟨[], false, bound o⟩) = some t) {s' : S} (h : op1K pr E nt frz nest ops o s some = some s') :
    ∃ v M', Did pr E nt frz nest ops o s y t v M' ∧ s' = putS s o.dst v M' := by
  have tb : t.b = bound o := by
    cases y with
    | true => exact touch_b ht
    | false => obtain rfl := Option.some.inj ht; rfl
  have key : ∀ v M', fin nt o s v M' some = some s' → (∀ d, o.dst = some d → d < nt) ∧ s' = putS s o.dst v M' := fun v M' h => by
    unfold fin at h
    unfold putS putE
    cases hd : o.dst with
    | none => rw [hd] at h; obtain rfl := Option.some.inj h; exact ⟨fun d hx => (by cases hx), rfl⟩
    | some d =>
      rw [hd] at h
      dsimp only at h
      split at h
      · rename_i hlt
        obtain rfl := Option.some.inj h
        exact ⟨fun d' hx => (by obtain rfl := Option.some.inj hx; exact hlt), rfl⟩
      · cases h
  unfold op1K at h
  unfold wanted1 at hw
  cases hg : o.guard with
  | none =>
    rw [hg] at h hw
    obtain rfl := Option.some.inj hw
    dsimp only at h
    rw [opFK_bind] at h
    obtain ⟨⟨v, M'⟩, h1, h⟩ := Option.bind_eq_some_iff.1 h
    obtain ⟨k1, k2⟩ := key v M' h
    exact ⟨v, M', ⟨tb, by unfold wanted1; rw [hg], ht, h1, k1⟩, k2⟩
  | some g =>
    obtain ⟨j, b⟩ := g
    rw [hg] at h hw
    dsimp only at h hw
    rw [hw, Option.bind_some] at h
    obtain ⟨⟨v, M'⟩, h1, h⟩ := Option.bind_eq_some_iff.1 h
    obtain ⟨k1, k2⟩ := key v M' h
    exact ⟨v, M', ⟨tb, by unfold wanted1; rw [hg]; exact hw, ht, h1, k1⟩, k2⟩
theorem meet_spec {a b : Touch} {p q : Nat} (ha : a.b = 1000 + 8 * p) (hb : b.b = 1000 + 8 * q) (h : meet a b = false) {id : Nat} (h1 : a.has id) (h2 : b.has id) : a.w = false ∧ b.w = false ∧ ¬ a.own id ∧ ¬ b.own id := by
  unfold meet meet0 at h
  simp only [Bool.or_eq_false_iff, List.any_eq_false, Bool.and_eq_true, decide_eq_true_eq, beq_eq_false_iff_ne] at h
  obtain ⟨⟨⟨n0, n1⟩, n2⟩, n3⟩ := h
  have o1 : ¬ a.own id := fun ho => by
    rcases h2 with h2 | h2
    · exact n2 id h2 ho
    · obtain ⟨x1, x2⟩ := ho
      obtain ⟨x3, x4⟩ := h2
      exact n0 (by omega)
  have o2 : ¬ b.own id := fun ho => by
    rcases h1 with h1 | h1
    · exact n1 id h1 ho
    · obtain ⟨x1, x2⟩ := ho
      obtain ⟨x3, x4⟩ := h1
      exact n0 (by omega)
  have i1 : id ∈ a.ids := h1.resolve_right o1
  have i2 : id ∈ b.ids := h2.resolve_right o2
  have : (a.w || b.w) = false := by
    cases hw : (a.w || b.w) with
    | false => rfl
    | true =>
      rw [hw] at n3
      have : (a.ids.any fun i => b.ids.contains i) = true := List.any_eq_true.2 ⟨id, i1, by simpa using i2⟩
      rw [this] at n3
      cases n3
  simp only [Bool.or_eq_false_iff] at this
  exact ⟨this.1, this.2, o1, o2⟩
theorem swap {a b : Oper} {ya yb : Bool} {ta tb : Touch} {va vb : V} {M1 M2 : Mem} (hap : a.apart ops b = true) (hmt : meet ta tb = false)
    (h1 : Did pr E nt frz nest ops a s ya ta va M1) (h2 : Did pr E nt frz nest ops b (putS s a.dst va M1) yb tb vb M2) :
    ∃ N1 N2, Did pr E nt frz nest ops b s yb tb vb N1 ∧ Did pr E nt frz nest ops a (putS s b.dst vb N1) ya ta va N2 ∧ putS (putS s b.dst vb N1) a.dst va N2 = putS (putS s a.dst va M1) b.dst vb M2 ∧
      (∀ id, tb.has id → N1 id = M2 id ∧ s.mem id = M1 id) ∧ ∀ id, ta.has id → N2 id = M1 id ∧ N1 id = s.mem id := by
  obtain ⟨p1, p2, p3⟩ := Oper.apart_spec hap
  have mt : ∀ {id}, ta.has id → tb.has id → ta.w = false ∧ tb.w = false ∧ ¬ ta.own id ∧ ¬ tb.own id := fun x1 x2 => meet_spec (h1.tb.trans rfl) (h2.tb.trans rfl) hmt x1 x2
  have env : ∀ {d : Option Nat} {v : V} {x : Nat}, (∀ e, d = some e → x ≠ e) → putE s.env d v x = s.env x := fun {d v x} h => by
    cases d with
    | none => rfl
    | some e => exact upd_ne _ _ (h e rfl)
  have q1 : Did pr E nt frz nest ops b s yb tb vb (patch tb.has M2 s.mem) := by
    refine h2.moved (s2 := s) (fun d hd => (env fun e he hx => p1 e he (hx ▸ hd)).symm) fun id hi => ?_
    show s.mem id = M1 id
    by_cases ha : ta.has id
    · obtain ⟨w1, _, o1, _⟩ := mt ha hi
      exact (h1.ro w1 id o1).symm
    · exact (h1.frame id ha).symm
  have q2 : Did pr E nt frz nest ops a (putS s b.dst vb (patch tb.has M2 s.mem)) ya ta va (patch ta.has M1 (patch tb.has M2 s.mem)) := by
    refine h1.moved (s2 := putS s b.dst vb (patch tb.has M2 s.mem)) (fun d hd => env fun e he hx => p3 e he (hx ▸ hd)) fun id hi => ?_
    show patch tb.has M2 s.mem id = s.mem id
    by_cases hb : tb.has id
    · obtain ⟨w1, w2, o1, o2⟩ := mt hi hb
      rw [patch_in hb, h2.ro w2 id o2]
      exact h1.ro w1 id o1
    · rw [patch_out hb]
  refine ⟨_, _, q1, q2, ?_, fun id hi => ⟨patch_in hi, ?_⟩, fun id hi => ⟨patch_in hi, ?_⟩⟩
  rotate_left
  · by_cases ha : ta.has id
    · obtain ⟨w1, _, o1, _⟩ := mt ha hi
      exact (h1.ro w1 id o1).symm
    · exact (h1.frame id ha).symm
  · by_cases hb : tb.has id
    · obtain ⟨w1, w2, o1, o2⟩ := mt hi hb
      rw [patch_in hb, h2.ro w2 id o2]
      exact h1.ro w1 id o1
    · rw [patch_out hb]
  have he : putE (putE s.env b.dst vb) a.dst va = putE (putE s.env a.dst va) b.dst vb := by
    cases ha : a.dst with
    | none => rfl
    | some d =>
      cases hb : b.dst with
      | none => rfl
      | some e =>
        have hne : d ≠ e := fun x => p2 d ha (x ▸ hb)
        funext x
        simp only [putE, upd]
        by_cases hd : x = d
        · subst hd; rw [if_pos rfl, if_neg hne, if_pos rfl]
        · rw [if_neg hd]
          by_cases hxe : x = e
          · rw [if_pos hxe, if_pos hxe]
          · rw [if_neg hxe, if_neg hxe, if_neg hd]
  have hm : patch ta.has M1 (patch tb.has M2 s.mem) = M2 := by
    funext id
    by_cases ha : ta.has id
    · rw [patch_in ha]
      by_cases hb : tb.has id
      · obtain ⟨w1, w2, o1, o2⟩ := mt ha hb
        exact (h2.ro w2 id o2).symm
      · exact (h2.frame id hb).symm
    · rw [patch_out ha]
      by_cases hb : tb.has id
      · rw [patch_in hb]
      · rw [patch_out hb]
        exact ((h2.frame id hb).trans (h1.frame id ha)).symm
  show (⟨_, _, _⟩ : S) = ⟨_, _, _⟩
  rw [hm]
  exact congrArg (fun e => (⟨e, M2, s.k0⟩ : S)) he
theorem putE_swap {e0 : Nat → V} {da db : Option Nat} {va vb : V} (h : ∀ d, da = some d → db ≠ some d) : putE (putE e0 db vb) da va = putE (putE e0 da va) db vb := by
  cases da with
  | none => rfl
  | some d =>
    cases db with
    | none => rfl
    | some e =>
      have hne : d ≠ e := fun x => h d rfl (x ▸ rfl)
      funext x
      simp only [putE, upd]
      by_cases hd : x = d
      · subst hd; rw [if_pos rfl, if_neg hne, if_pos rfl]
      · rw [if_neg hd]
        by_cases hxe : x = e
        · rw [if_pos hxe, if_pos hxe]
        · rw [if_neg hxe, if_neg hxe, if_neg hd]
def IsLoad (pr : Pr) (frz : List Nat) (o : Oper) (y : Bool) (env : Nat → V) (id c : Nat) : Prop :=
  y = true ∧ (o.dst.any fun d => frz.contains d) = false ∧ ∃ t a, o.op = .load t a ∧ aggT pr.P t = some false ∧ arg env a = some (.ptr id 1 0 c)
theorem cellOf_spec {o : Oper} {y : Bool} {env : Nat → V} {id c : Nat} (h : cellOf pr frz o y env = some (id, c)) : IsLoad pr frz o y env id c := by
  unfold cellOf at h
  rw [Bool.cond_eq_ite] at h
  split at h
  · rename_i hc
    rw [Bool.and_eq_true, Bool.not_eq_true'] at hc
    split at h
    · rename_i t a ho
      split at h
      · rename_i h1 h2
        obtain ⟨rfl, rfl⟩ := Prod.mk.inj (Option.some.inj h)
        exact ⟨hc.1, hc.2, t, a, ho, h1, h2⟩
      · cases h
    · cases h
  · cases h
theorem IsLoad.env {o : Oper} {y : Bool} {e1 e2 : Nat → V} {id c : Nat} (h : IsLoad pr frz o y e1 id c) (he : ∀ d ∈ o.looksAt ops, e1 d = e2 d) : IsLoad pr frz o y e2 id c := by
  obtain ⟨h1, h2, t, a, h3, h4, h5⟩ := h
  refine ⟨h1, h2, t, a, h3, h4, ?_⟩
  rw [← arg_looks he a (by simp [h3, Op.operands])]
  exact h5
theorem IsLoad.run {o : Oper} {y : Bool} {s : S} {id c : Nat} {x : V} (h : IsLoad pr frz o y s.env id c) (hx : cellAt s.mem id c = some x) {v : V} {M' : Mem}
    (hr : (bif y then opFK pr E frz nest o s (fun v M => some (v, M)) else some (.tup [], s.mem)) = some (v, M')) :
    v = x ∧ M' = s.mem ∧ ∀ s2 : S, IsLoad pr frz o y s2.env id c → cellAt s2.mem id c = some x → (bif y then opFK pr E frz nest o s2 (fun v M => some (v, M)) else some (.tup [], s2.mem)) = some (x, s2.mem) := by
  obtain ⟨rfl, h2, t, a, h3, h4, h5⟩ := h
  have key : ∀ (s2 : S) (x : V), arg s2.env a = some (.ptr id 1 0 c) → cellAt s2.mem id c = some x → opFK pr E frz nest o s2 (fun v M => some (v, M)) = (szT pr.P t).bind fun _ => some (x, s2.mem) := fun s2 x q1 q2 => by
    unfold opFK
    rw [h2, cond_false]
    unfold opK
    rw [h3]
    dsimp only
    rw [q1, h4, Option.bind_some, Option.bind_some]
    refine congrArg _ (funext fun n => ?_)
    have : ld s2.mem (.ptr id 1 0 c) false n = some x := by
      unfold cellAt at q2
      split at q2
      · rename_i cs hM
        simp only [ld, cond_false, rd, hM]
        simpa using q2
      · cases q2
    rw [this, Option.bind_some]
  have hr' : opFK pr E frz nest o s (fun v M => some (v, M)) = some (v, M') := hr
  rw [key s x h5 hx] at hr'
  obtain ⟨n, hn, hr2⟩ := Option.bind_eq_some_iff.1 hr'
  obtain ⟨rfl, rfl⟩ := Prod.mk.inj (Option.some.inj hr2)
  refine ⟨rfl, rfl, fun s2 hl hc => ?_⟩
  obtain ⟨_, _, t2, a2, g3, g4, g5⟩ := hl
  obtain ⟨rfl, rfl⟩ := Op.load.inj (h3.symm.trans g3)
  show opFK pr E frz nest o s2 (fun v M => some (v, M)) = _
  rw [key s2 _ g5 hc, hn]
  rfl
structure DidL (pr : Pr) (E : Q → Option Out) (nt : Nat) (frz : List Nat) (nest : Bool) (ops : Array Oper) (o : Oper) (s : S) (y : Bool) (l : Lg) (v : V) (M' : Mem) : Prop where
  did : Did pr E nt frz nest ops o s y l.t v M'
  cell : ∀ id c, l.cell = some (id, c) → IsLoad pr frz o y s.env id c
  keep : ∀ id c, l.keep id c = true → id ∈ l.t.ids ∧ ∃ x, cellAt s.mem id c = some x ∧ cellAt M' id c = some x
  one : l.cell ≠ none → ∀ id c, l.keep id c = false
theorem cellAt_congr {M N : Mem} {id c : Nat} (h : M id = N id) : cellAt M id c = cellAt N id c := by unfold cellAt; rw [h]
theorem sameT_eq {x y : T} (h : sameT x y = true) : x = y := by
  unfold sameT at h
  split at h
  · rw [of_decide_eq_true h]
  · obtain ⟨rfl, rfl⟩ := of_decide_eq_true h; rfl
  · rw [of_decide_eq_true h]
  · rfl
  · rfl
  · rfl
  · rfl
  · cases h
theorem sameV_eq {x y : V} (h : sameV x y = true) : x = y := by
  unfold sameV at h
  split at h
  · rw [sameT_eq h]
  · obtain ⟨rfl, rfl, rfl, rfl⟩ := of_decide_eq_true h; rfl
  · obtain ⟨rfl, rfl, rfl, rfl, rfl⟩ := of_decide_eq_true h; rfl
  · cases h
theorem DidL.of {o : Oper} {s : S} {y : Bool} {t : Touch} {v : V} {M' : Mem} (h : Did pr E nt frz nest ops o s y t v M') : DidL pr E nt frz nest ops o s y (mkLg pr frz o y s.env t s.mem M') v M' := by
  refine ⟨h, fun id c hc => cellOf_spec hc, fun id c hk => ?_, fun hc id c => ?_⟩
  rotate_left
  · show ((cellOf pr frz o y s.env).isNone && _) = false
    have hc : cellOf pr frz o y s.env ≠ none := hc
    cases hx : cellOf pr frz o y s.env with
    | none => exact absurd hx hc
    | some p => rfl
  have hk : ((cellOf pr frz o y s.env).isNone && keepOf t s.mem M' id c) = true := hk
  rw [Bool.and_eq_true] at hk
  have hk := hk.2
  simp only [keepOf, Bool.and_eq_true] at hk
  refine ⟨show id ∈ t.ids by simpa using hk.1, ?_⟩
  have h2 := hk.2
  split at h2
  · rename_i x x' h3 h4
    obtain rfl := sameV_eq h2
    exact ⟨x, h3, h4⟩
  · cases h2
theorem swapL {a b : Oper} {s : S} {ya yb : Bool} {la lb : Lg} {va vb : V} {M1 M2 : Mem} (hap : a.apart ops b = true) (hmt : meetL la lb = false)
    (h1 : DidL pr E nt frz nest ops a s ya la va M1) (h2 : DidL pr E nt frz nest ops b (putS s a.dst va M1) yb lb vb M2) :
    ∃ N1 N2, DidL pr E nt frz nest ops b s yb lb vb N1 ∧ DidL pr E nt frz nest ops a (putS s b.dst vb N1) ya la va N2 ∧ putS (putS s b.dst vb N1) a.dst va N2 = putS (putS s a.dst va M1) b.dst vb M2 := by
  obtain ⟨p1, p2, p3⟩ := Oper.apart_spec hap
  have env : ∀ {d : Option Nat} {v : V} {x : Nat}, (∀ e, d = some e → x ≠ e) → putE s.env d v x = s.env x := fun {d v x} h => by
    cases d with
    | none => rfl
    | some e => exact upd_ne _ _ (h e rfl)
  have eb : ∀ d ∈ b.looksAt ops, s.env d = (putS s a.dst va M1).env d := fun d hd => (env fun e he hx => p1 e he (hx ▸ hd)).symm
  have ea : ∀ (N : Mem), ∀ d ∈ a.looksAt ops, (putS s b.dst vb N).env d = s.env d := fun N d hd => env fun e he hx => p3 e he (hx ▸ hd)
  by_cases hm : meet la.t lb.t = false
  · obtain ⟨N1, N2, q1, q2, q3, q4, q5⟩ := swap hap hm h1.did h2.did
    refine ⟨N1, N2, ⟨q1, fun id c hc => (h2.cell id c hc).env fun d hd => (eb d hd).symm, fun id c hk => ?_, h2.one⟩, ⟨q2, fun id c hc => (h1.cell id c hc).env fun d hd => (ea N1 d hd).symm, fun id c hk => ?_, h1.one⟩, q3⟩
    · obtain ⟨k1, x, k2, k3⟩ := h2.keep id c hk
      obtain ⟨e1, e2⟩ := q4 id (.inl k1)
      exact ⟨k1, x, (cellAt_congr e2).trans k2, (cellAt_congr e1).trans k3⟩
    · obtain ⟨k1, x, k2, k3⟩ := h1.keep id c hk
      obtain ⟨e1, e2⟩ := q5 id (.inl k1)
      exact ⟨k1, x, (cellAt_congr e2).trans k2, (cellAt_congr e1).trans k3⟩
  · have hm' : meet la.t lb.t = true := by simpa using hm
    simp only [meetL, hm', Bool.true_and, Bool.or_eq_false_iff, Bool.not_eq_false', Bool.or_eq_true] at hmt
    obtain ⟨h0, hex⟩ := hmt
    rcases hex with hex | hex
    · -- the first reads, the second keeps
      unfold exempt at hex
      split at hex
      · rename_i id c hc
        have ld := h1.cell id c hc
        obtain ⟨k1, x, k2, k3⟩ := h2.keep id c hex
        have hro : la.t.w = false := by
          obtain ⟨rfl, _, t, ad, g3, _⟩ := ld
          have := h1.did.tch
          simp only [cond_true, touch, g3] at this
          rw [← Option.some.inj this]
        have M1eq : M1 = s.mem := by
          have hr := h1.did.run
          obtain ⟨rfl, f2, t, ad, g3, g4, g5⟩ := ld
          have hr' : opFK pr E frz nest a s (fun v M => some (v, M)) = some (va, M1) := hr
          unfold opFK at hr'
          rw [f2, cond_false] at hr'
          have hr2 := hr'
          unfold opK at hr2
          rw [g3] at hr2
          dsimp only at hr2
          obtain ⟨p, _, hr2⟩ := Option.bind_eq_some_iff.1 hr2
          obtain ⟨q, _, hr2⟩ := Option.bind_eq_some_iff.1 hr2
          obtain ⟨r, _, hr2⟩ := Option.bind_eq_some_iff.1 hr2
          obtain ⟨u, _, hr2⟩ := Option.bind_eq_some_iff.1 hr2
          exact (Prod.mk.inj (Option.some.inj hr2)).2.symm
        subst M1eq
        obtain ⟨rv, _, rmv⟩ := ld.run k2 h1.did.run
        subst rv
        have q1 := h2.did.moved (s2 := s) eb fun id hi => rfl
        have e2 : patch lb.t.has M2 s.mem = M2 := by
          funext id
          by_cases hb : lb.t.has id
          · rw [patch_in hb]
          · rw [patch_out hb]; exact (h2.did.frame id hb).symm
        rw [e2] at q1
        have ld2 : IsLoad pr frz a ya (putS s b.dst vb M2).env id c := ld.env fun d hd => (ea M2 d hd).symm
        refine ⟨M2, M2, ⟨q1, fun id c hc => (h2.cell id c hc).env fun d hd => (eb d hd).symm, h2.keep, h2.one⟩, ⟨⟨h1.did.tb, ?_, ?_, rmv _ ld2 k3, h1.did.dst⟩, fun id c hc => (h1.cell id c hc).env fun d hd => (ea M2 d hd).symm, fun id' c' hk => ?_, h1.one⟩, ?_⟩
        · have := h1.did.want
          unfold wanted1 at this ⊢
          split
          · rename_i hg; rw [hg] at this; exact this
          · rename_i j bb hg; rw [hg] at this; rw [want_looks (ea M2) hg]; exact this
        · have := h1.did.tch
          obtain ⟨rfl, f2, t, ad, g3, g4, g5⟩ := ld
          obtain ⟨_, _, t', ad', g3', g4', g5'⟩ := ld2
          obtain ⟨rfl, rfl⟩ := Op.load.inj (g3.symm.trans g3')
          simp only [cond_true, touch, g3, refsO, g5] at this
          simp only [cond_true, touch, g3, refsO, g5']
          exact this
        · rw [h1.one (by rw [hc]; simp)] at hk; cases hk
        · show (⟨_, _, _⟩ : S) = ⟨_, _, _⟩
          exact congrArg (fun e => (⟨e, M2, s.k0⟩ : S)) (putE_swap p2)
      · cases hex
    · -- the second reads, the first keeps
      unfold exempt at hex
      split at hex
      · rename_i id c hc
        have ld := h2.cell id c hc
        obtain ⟨k1, x, k2, k3⟩ := h1.keep id c hex
        obtain ⟨rv, M2eq, rmv⟩ := ld.run k3 h2.did.run
        subst rv
        have M2eq : M2 = M1 := M2eq
        subst M2eq
        have ld2 : IsLoad pr frz b yb s.env id c := ld.env fun d hd => (eb d hd).symm
        have q2 := h1.did.moved (s2 := putS s b.dst vb s.mem) (ea s.mem) fun id hi => rfl
        have e2 : patch la.t.has M2 s.mem = M2 := by
          funext id
          by_cases hb : la.t.has id
          · rw [patch_in hb]
          · rw [patch_out hb]; exact (h1.did.frame id hb).symm
        have q2 : Did pr E nt frz nest ops a (putS s b.dst vb s.mem) ya la.t va M2 := by
          have := q2
          rw [show (putS s b.dst vb s.mem).mem = s.mem from rfl, e2] at this
          exact this
        refine ⟨s.mem, M2, ⟨⟨h2.did.tb, ?_, ?_, rmv _ ld2 k2, h2.did.dst⟩, fun id c hc => (h2.cell id c hc).env fun d hd => (eb d hd).symm, fun id' c' hk => ?_, h2.one⟩, ⟨q2, fun id c hc => (h1.cell id c hc).env fun d hd => (ea s.mem d hd).symm, h1.keep, h1.one⟩, ?_⟩
        · have := h2.did.want
          unfold wanted1 at this ⊢
          split
          · rename_i hg; rw [hg] at this; exact this
          · rename_i j bb hg; rw [hg] at this; rw [want_looks eb hg]; exact this
        · have := h2.did.tch
          obtain ⟨rfl, f2, t, ad, g3, g4, g5⟩ := ld
          obtain ⟨_, _, t', ad', g3', g4', g5'⟩ := ld2
          obtain ⟨rfl, rfl⟩ := Op.load.inj (g3.symm.trans g3')
          simp only [cond_true, touch, g3, refsO, g5] at this
          simp only [cond_true, touch, g3, refsO, g5']
          exact this
        · rw [h2.one (by rw [hc]; simp)] at hk; cases hk
        · show (⟨_, _, _⟩ : S) = ⟨_, _, _⟩
          exact congrArg (fun e => (⟨e, M2, s.k0⟩ : S)) (putE_swap p2)
      · cases hex
inductive Runs (pr : Pr) (E : Q → Option Out) (nt : Nat) (frz : List Nat) (nest : Bool) (ops : Array Oper) (τ : Nat → Lg) : List Nat → S → S → Prop
  | nil {s : S} : Runs pr E nt frz nest ops τ [] s s
  | cons {i : Nat} {r : List Nat} {s sf : S} {o : Oper} {y : Bool} {v : V} {M' : Mem} : ops[i]? = some o → DidL pr E nt frz nest ops o s y (τ i) v M' → Runs pr E nt frz nest ops τ r (putS s o.dst v M') sf → Runs pr E nt frz nest ops τ (i :: r) s sf
def Free (ops : Array Oper) (τ : Nat → Lg) (j i : Nat) : Prop := (∀ a b, ops[j]? = some a → ops[i]? = some b → a.apart ops b = true) ∧ meetL (τ j) (τ i) = false
theorem bubble {τ : Nat → Lg} {i : Nat} {R2 : List Nat} {sf : S} : ∀ {R1 : List Nat} {s : S}, Runs pr E nt frz nest ops τ (R1 ++ i :: R2) s sf → (∀ j ∈ R1, Free ops τ j i) → Runs pr E nt frz nest ops τ (i :: (R1 ++ R2)) s sf
  | [], s, h, _ => h
  | j :: R1, s, h, hf => by
    cases h with
    | cons ho h1 hr =>
      have := bubble hr fun k hk => hf k (by simp [hk])
      cases this with
      | cons ho2 h2 hr2 =>
        obtain ⟨f1, f2⟩ := hf j (by simp)
        obtain ⟨N1, N2, g1, g2, ge⟩ := swapL (f1 _ _ ho ho2) f2 h1 h2
        rw [← ge] at hr2
        exact .cons ho2 g1 (.cons ho g2 hr2)
theorem runs_congr {τ τ' : Nat → Lg} {sf : S} : ∀ {l : List Nat} {s : S}, Runs pr E nt frz nest ops τ l s sf → (∀ i ∈ l, τ' i = τ i) → Runs pr E nt frz nest ops τ' l s sf
  | [], s, h, _ => by cases h; exact .nil
  | i :: l, s, h, he => by
    cases h with
    | cons ho h1 hr => exact .cons ho (by rw [he i (by simp)]; exact h1) (runs_congr hr fun k hk => he k (by simp [hk]))
theorem clear_spec {bm : Array Nat} {i : Nat} {t : Lg} : ∀ {log : List (Nat × Lg)}, clear bm i t log = true → ∀ p ∈ log, ordered bm p.1 i = true ∨ meetL p.2 t = false
  | [], _ => fun p hp => by cases hp
  | (j, u) :: r, h => fun p hp => by
    simp only [clear, Bool.and_eq_true, Bool.or_eq_true, Bool.not_eq_true'] at h
    rcases List.mem_cons.1 hp with rfl | hp
    · exact h.1
    · exact clear_spec h.2 p hp
theorem opsD_runs {bm : Array Nat} {sf : S} : ∀ {l : List Nat} {log : List (Nat × Lg)} {s : S}, l.Nodup → opsD pr E nt frz nest ops bm l log s some = some sf →
    ∃ τ, Runs pr E nt frz nest ops τ l s sf ∧ l.Pairwise (fun j i => ordered bm j i = true ∨ meetL (τ j) (τ i) = false) ∧ ∀ p ∈ log, ∀ i ∈ l, ordered bm p.1 i = true ∨ meetL p.2 (τ i) = false
  | [], log, s, _, h => by
    obtain rfl := Option.some.inj h
    exact ⟨fun _ => ⟨⟨[], false, 0⟩, none, fun _ _ => false⟩, .nil, .nil, fun p _ i hi => by cases hi⟩
  | i :: l, log, s, hn, h => by
    simp only [opsD] at h
    split at h
    · rename_i o ho
      obtain ⟨y, hy, h⟩ := Option.bind_eq_some_iff.1 h
      obtain ⟨t, ht, h⟩ := Option.bind_eq_some_iff.1 h
      rw [op1K_bind] at h
      obtain ⟨s1, h1, h⟩ := Option.bind_eq_some_iff.1 h
      obtain ⟨v, M', hd, rfl⟩ := Did.of hy ht h1
      simp only [Bool.cond_eq_ite] at h
      split at h
      · rename_i hcl
        have hL := DidL.of hd
        rw [show (putS s o.dst v M').mem = M' from rfl] at hcl h
        generalize mkLg pr frz o y s.env t s.mem M' = lg at hL hcl h
        rw [List.nodup_cons] at hn
        obtain ⟨τ, r1, r2, r3⟩ := opsD_runs hn.2 h
        have hτ : ∀ k ∈ l, upd τ i lg k = τ k := fun k hk => upd_ne _ _ fun e => hn.1 (e ▸ hk)
        refine ⟨upd τ i lg, .cons ho (by rw [upd_same]; exact hL) (runs_congr r1 hτ), .cons (fun k hk => ?_) (r2.imp_of_mem fun {a b} ha hb hx => by rw [hτ a ha, hτ b hb]; exact hx), fun p hp k hk => ?_⟩
        · rw [upd_same, hτ k hk]
          exact r3 (i, lg) (by simp) k hk
        · rcases List.mem_cons.1 hk with rfl | hk
          · rw [upd_same]; exact clear_spec hcl p hp
          · rw [hτ k hk]; exact r3 p (by simp [hp]) k hk
      · cases h
    · cases h
theorem before_spec {i j : Nat} (h : ordered (Region.before ops) j i = true) : ∃ o e, ops[i]? = some o ∧ e ∈ o.after ∧ Region.binds .any e = true ∧ (e.on = j ∨ ordered (Region.before ops) j e.on = true) := by
  have key : (Region.before ops).size = ops.size ∧ ∀ i, ((Region.before ops).getD i 0).testBit j = true → ∃ o e, ops[i]? = some o ∧ e ∈ o.after ∧ Region.binds .any e = true ∧ (e.on = j ∨ ((Region.before ops).getD e.on 0).testBit j = true) := by
    unfold Region.before
    refine Array.foldl_induction (motive := fun (n : Nat) (acc : Array Nat) => acc.size = n ∧ ∀ i, (acc.getD i 0).testBit j = true → ∃ o e, ops[i]? = some o ∧ e ∈ o.after ∧ Region.binds .any e = true ∧ (e.on = j ∨ (acc.getD e.on 0).testBit j = true)) ⟨rfl, fun i h => by simp at h⟩ fun k acc ⟨hs, hI⟩ => ⟨by simp [hs], fun i h => ?_⟩
    have keep : ∀ (x m : Nat), (acc.getD m 0).testBit j = true → ((acc.push x).getD m 0).testBit j = true := fun x m hm => by
      rcases Nat.lt_or_ge m acc.size with hlt | hge
      · rw [Array.getD_eq_getD_getElem?, Array.getElem?_push_lt hlt] 
        rw [Array.getD_eq_getD_getElem?, Array.getElem?_eq_getElem hlt] at hm
        exact hm
      · rw [Array.getD_eq_getD_getElem?, Array.getElem?_eq_none hge] at hm
        simp at hm
    rcases Nat.lt_trichotomy i acc.size with hlt | heq | hgt
    · rw [Array.getD_eq_getD_getElem?, Array.getElem?_push_lt hlt] at h
      obtain ⟨o, e, h1, h2, h3, h4⟩ := hI i (by rw [Array.getD_eq_getD_getElem?, Array.getElem?_eq_getElem hlt]; exact h)
      exact ⟨o, e, h1, h2, h3, h4.imp id (keep _ _)⟩
    · subst heq
      rw [Array.getD_eq_getD_getElem?, Array.getElem?_push_size] at h
      have hk : ops[acc.size]? = some ops[k] := by rw [hs]; exact Array.getElem?_eq_getElem k.2
      have in_ : ∀ (l : List Edge) (z : Nat), (l.foldl (fun s e => if Region.binds .any e then s ||| 2 ^ e.on ||| acc.getD e.on 0 else s) z).testBit j = true →
          z.testBit j = true ∨ ∃ e ∈ l, Region.binds .any e = true ∧ (e.on = j ∨ (acc.getD e.on 0).testBit j = true) := by
        intro l
        induction l with
        | nil => exact fun z h => .inl h
        | cons e l ih =>
          intro z h
          rcases ih _ h with h | ⟨e', h1, h2⟩
          · dsimp only at h
            split at h
            · rename_i hb
              rw [Nat.testBit_or, Nat.testBit_or, Bool.or_eq_true, Bool.or_eq_true] at h
              rcases h with (h | h) | h
              · exact .inl h
              · rw [Nat.testBit_two_pow] at h
                exact .inr ⟨e, by simp, hb, .inl (by simpa using h)⟩
              · exact .inr ⟨e, by simp, hb, .inr h⟩
            · exact .inl h
          · exact .inr ⟨e', by simp [h1], h2⟩
      simp only [Option.getD_some] at h
      rw [← Array.foldl_toList] at h
      rcases in_ _ _ h with h | ⟨e, h1, h2, h3⟩
      · simp at h
      · exact ⟨_, e, hk, by simpa using h1, h2, h3.imp id (keep _ _)⟩
    · rw [Array.getD_eq_getD_getElem?, Array.getElem?_eq_none (by simp; omega)] at h
      simp at h
  exact key.2 i h
theorem drawOk_spec (h : drawOk ops = true) {i j : Nat} (hij : i < j) (hj : j < ops.size) : ordered (Region.before ops) i j = true ∨ ∀ a b, ops[i]? = some a → ops[j]? = some b → a.apart ops b = true := by
  unfold drawOk at h
  have h1 := List.all_eq_true.1 h j (List.mem_range.2 hj)
  rw [Bool.and_eq_true] at h1
  have := List.all_eq_true.1 h1.2 i (List.mem_range.2 hij)
  split at this
  · rename_i x y hx hy
    rcases Bool.or_eq_true_iff.1 this with h | h
    · exact .inl h
    · exact .inr fun a b ha hb => by
        obtain rfl := Option.some.inj (hx.symm.trans ha)
        obtain rfl := Option.some.inj (hy.symm.trans hb)
        exact h
  · cases this
theorem drawOk_back (h : drawOk ops = true) {j : Nat} {o : Oper} (hj : ops[j]? = some o) : ∀ e ∈ o.after, Region.binds .any e = true → e.on < j := by
  unfold drawOk at h
  have h1 := List.all_eq_true.1 h j (List.mem_range.2 (Array.getElem?_eq_some_iff.1 hj).1)
  rw [Bool.and_eq_true, hj] at h1
  have h2 : (o.after.all fun e => !Region.binds .any e || decide (e.on < j)) = true := h1.1
  exact fun e he hb => by
    have h3 := Array.all_eq_true_iff_forall_mem.1 h2 e he
    rw [hb] at h3
    simpa using h3
end
section
variable {w : World} {F : Nat → Prop} {σ : Sg} {pr : Pr} {E : Q → Option Out} {nest : Bool} {frz : List Nat} {nt : Nat} {ops : Array Oper}
theorem any_sound (hE : CallOk pr.P E) (hok : drawOk ops = true) {τ : Nat → Lg} {sf : S} {Q : Exit → Act → World → Prop} : ∀ (fuel : Nat) {listed : Array Bool} {R : List Nat} {w : World} {F : Nat → Prop} {σ : Sg} {s : S} {a : Act},
    St w F σ s a → Ac nt a → Runs pr E nt frz nest ops τ R s sf → R.Pairwise (fun j i => ordered (Region.before ops) j i = true ∨ Free ops τ j i) →
    R.Nodup → (∀ i, i ∈ R ↔ i < ops.size ∧ listed.getD i true = false) → listed.size = ops.size →
    (∀ k, listed.getD k false = true → ∀ j, ordered (Region.before ops) j k = true → listed.getD j false = true) → R.length = fuel →
    (∀ a' w', RegOk nt w F σ s sf a' w' → Q .normal a' w') → wpAny pr.P .any ops Q fuel listed a w := by
  have flip : ∀ {listed : Array Bool} {k : Nat}, k < listed.size → listed.getD k true = listed.getD k false := fun {listed k} h => by simp [h]
  intro fuel
  induction fuel with
  | zero =>
    intro listed R w F σ s a st ac hr hp hn hR hs hd hl hQ
    obtain rfl := List.length_eq_zero_iff.1 hl
    refine ⟨List.eq_nil_iff_forall_not_mem.2 fun j hj => ?_, ?_⟩
    · obtain ⟨h0, o, ho, _⟩ := mem_ready.1 hj
      have := (hR j).2 ⟨(Array.getElem?_eq_some_iff.1 ho).1, h0⟩
      cases this
    · cases hr
      exact hQ a w ⟨F, σ, .refl st.wf, st, ac, rfl⟩
  | succ fuel ih =>
    intro listed R w F σ s a st ac hr hp hn hR hs hd hl hQ
    refine ⟨fun he => ?_, fun i hi => ?_⟩
    · exfalso
      have none_ : ∀ n i, i < n → i ∉ R := by
        intro n
        induction n with
        | zero => exact fun i h => absurd h (Nat.not_lt_zero i)
        | succ n ihn =>
          intro i hi hiR
          obtain ⟨hlt, hun⟩ := (hR i).1 hiR
          have ho : ops[i]? = some ops[i] := Array.getElem?_eq_getElem hlt
          have : i ∈ Region.ready .any ops listed := mem_ready.2 ⟨hun, _, ho, fun e he hb => by
            have h1 := drawOk_back hok ho e he hb
            have h2 := ihn e.on (by omega)
            rw [hR e.on] at h2
            have h3 : e.on < ops.size := by omega
            rw [← flip (by omega)]
            cases hx : listed.getD e.on true with
            | true => rfl
            | false => exact absurd ⟨h3, hx⟩ h2⟩
          rw [he] at this
          cases this
      obtain ⟨i, hi⟩ : ∃ i, i ∈ R := by
        cases R with
        | nil => simp at hl
        | cons i R => exact ⟨i, by simp⟩
      exact none_ (i + 1) i (Nat.lt_succ_self i) hi
    · obtain ⟨h0, o, ho, hall⟩ := mem_ready.1 hi
      have hi' : i ∈ R := (hR i).2 ⟨(Array.getElem?_eq_some_iff.1 ho).1, h0⟩
      have hbef : ∀ j, ordered (Region.before ops) j i = true → listed.getD j false = true := fun j hj => by
        obtain ⟨o', e, ho', he, hb, hx⟩ := before_spec hj
        obtain rfl := Option.some.inj (ho.symm.trans ho')
        have := hall e he hb
        rcases hx with rfl | hx
        · exact this
        · exact hd _ this j hx
      obtain ⟨R1, R2, rfl⟩ := List.append_of_mem hi'
      have hfree : ∀ j ∈ R1, Free ops τ j i := fun j hj => by
        rcases (List.pairwise_append.1 hp).2.2 j hj i (by simp) with h | h
        · have h1 := hbef j h
          have h2 := ((hR j).1 (by simp [hj])).2
          rcases Nat.lt_or_ge j listed.size with h' | h'
          · simp [h'] at h1 h2; rw [h1] at h2; cases h2
          · simp [Array.getElem?_eq_none h'] at h1
        · exact h
      have hb := bubble hr hfree
      cases hb with
      | cons ho2 hd1 hr2 =>
        obtain rfl := Option.some.inj (ho.symm.trans ho2)
        refine op1_sound hE ho st ac hd1.did.op _ _ fun a' w' F' σ' hst st' ac' => ?_
        have hn2 : (R1 ++ R2).Nodup ∧ i ∉ R1 ++ R2 := by
          have := (List.perm_middle (a := i) (l₁ := R1) (l₂ := R2)).nodup_iff.1 hn
          rw [List.nodup_cons] at this
          exact ⟨this.2, this.1⟩
        have hlt : i < listed.size := by rw [hs]; exact (Array.getElem?_eq_some_iff.1 ho).1
        refine ih (R := R1 ++ R2) st' ac' hr2 ?_ hn2.1 (fun k => ?_) (by simp [hs]) (fun k hk j hj => ?_) (by simp at hl ⊢; omega) fun a'' w'' ⟨F2, σ2, q1, q2, q3, q4⟩ => ?_
        · exact hp.sublist (List.Sublist.append_left (List.sublist_cons_self i R2) R1)
        · by_cases e : k = i
          · subst e
            constructor
            · exact fun h => absurd h hn2.2
            · intro ⟨_, h⟩
              simp [hlt] at h
          · rw [getD_set_ne true (Ne.symm e), ← hR k]
            simp [e]
        · by_cases e : k = i
          · subst e; exact getD_set_true (hbef j hj)
          · rw [getD_set_ne false (Ne.symm e)] at hk
            exact getD_set_true (hd k hk j hj)
        · exact hQ a'' w'' ⟨F2, σ2, hst.trans q1, q2, q3, q4⟩
theorem draw_sound (hm : pr.P.follows .mixedOrders = true) (hE : CallOk pr.P E) {id : Nat} {s s' : S} {a : Act} (st : St w F σ s a) (ac : Ac nt a)
    (hok : drawOk ops = true) (h : opsD pr E nt frz nest ops (Region.before ops) (List.range ops.size) [] s some = some s') (Q : Exit → Act → World → Prop) (hQ : ∀ a' w', RegOk nt w F σ s s' a' w' → Q .normal a' w') : (Code.region id ops true).wp pr.P Q a w := by
  obtain ⟨τ, h1, h2, _⟩ := opsD_runs List.nodup_range h
  have le : Le w F σ s.mem { w with drawn := w.drawn + 1 } F σ s.mem := ⟨fun _ h => h, fun _ _ => rfl, fun id o h => ⟨o, h, ObLe.refl _ _ _⟩, fun _ _ h => h⟩
  have wf2 : Wf { w with drawn := w.drawn + 1 } F σ s.mem := ⟨fun id o h => (st.wf.obj id o h).mono le h (fun _ => rfl) (fun _ _ _ _ _ => rfl), st.wf.inj, st.wf.row, st.wf.lt⟩
  have step : Step w F σ s.mem { w with drawn := w.drawn + 1 } F σ s.mem := ⟨le, wf2, ⟨rfl, rfl, rfl, Nat.le_refl _, fun _ _ _ => rfl, fun _ h => .inl h, fun _ h => .inl h⟩⟩
  refine wp_region_any hm (any_sound hE hok _ (R := List.range ops.size) ⟨wf2, fun t => (st.env t).mono le⟩ ac h1 ?_ List.nodup_range (fun i => ?_) (by simp) (fun k hk => ?_) (by simp) fun a' w' ⟨F2, σ2, q1, q2, q3, q4⟩ => hQ a' w' ⟨F2, σ2, step.trans q1, q2, q3, q4⟩)
  · refine (h2.and List.pairwise_lt_range).imp_of_mem fun {j i} hj hi ⟨x1, x2⟩ => ?_
    rcases x1 with x1 | x1
    · exact .inl x1
    · rcases drawOk_spec hok x2 (List.mem_range.1 hi) with x3 | x3
      · exact .inl x3
      · exact .inr ⟨x3, x1⟩
  · rw [List.mem_range]
    constructor
    · exact fun h => ⟨h, by simp [h]⟩
    · exact fun h => h.1
  · exfalso
    rcases Nat.lt_or_ge k ops.size with h' | h'
    · simp [h'] at hk
    · rw [Array.getD_eq_getD_getElem?, Array.getElem?_eq_none (by simpa using h')] at hk
      simp at hk
end
end Go.Ev

namespace Go.Ev
set_option linter.unusedVariables false
set_option linter.unusedSimpArgs false
section
variable {w : World} {F : Nat → Prop} {σ : Sg} {M : Mem}
theorem ofE_map (live : List Nat) (g : Nat → V) (t : Nat) : ofE (live.map fun t => (t, g t)) t = if t ∈ live then g t else .undef := by
  induction live with
  | nil => rfl
  | cons x l ih =>
    simp only [List.map_cons, ofE]
    by_cases e : t = x
    · subst e; simp
    · rw [if_neg e, ih]
      simp [e]
theorem zip_renL (r : Nat → Option Nat) (g : Nat → V) : ∀ live : List Nat, live.zip (V.renL r (live.map g)) = live.map fun t => (t, (g t).ren r)
  | [] => rfl
  | x :: l => by simp [V.renL, zip_renL r g l]
theorem mask_sound {s : S} {a : Act} (st : St w F σ s a) (live : List Nat) : St w F σ (mask live s) a := by
  refine ⟨st.wf, fun t => ?_⟩
  show RepV w F σ s.mem (ofE (live.map fun t => (t, s.env t)) t) _
  rw [ofE_map]
  split
  · exact st.env t
  · exact .undef _
theorem norm_spec {k0 : Nat} {vs : List V} {M : Mem} {vs' : List V} {H : List Ob} (h : norm k0 vs M = some (vs', H)) :
    ∃ L, vs' = V.renL (place L) vs ∧ H = locM L M ∧ L.Nodup ∧ ∃ r, L = List.range k0 ++ r := by
  unfold norm at h
  obtain ⟨L, hL, he⟩ := Option.map_eq_some_iff.1 h
  obtain ⟨rfl, rfl⟩ := Prod.mk.inj he
  refine ⟨L, rfl, rfl, clos_nodup _ hL (by simp), ?_⟩
  rw [List.range_eq_range'] at hL
  obtain ⟨r, hr⟩ := clos_range (M := M) k0 fuel0 0 (by simpa using hL)
  exact ⟨r, by simpa using hr⟩
structure At (nt : Nat) (w0 : World) (F0 : Nat → Prop) (σ0 : Sg) (H0 : List Ob) (s : S) (a : Act) (w : World) (F : Nat → Prop) (σ : Sg) : Prop where
  st : St w F σ s a
  ac : Ac nt a
  step : Step w0 F0 σ0 (ofL H0) w F σ s.mem
  k0 : s.k0 = H0.length
variable {nt : Nat} {w0 : World} {F0 : Nat → Prop} {σ0 : Sg} {H0 : List Ob}
theorem normS_sound {live : List Nat} {s s' : S} {a : Act} (h : normS live s = some s') (at_ : At nt w0 F0 σ0 H0 s a w F σ) : ∃ σ', At nt w0 F0 σ0 H0 s' a w F σ' := by
  unfold normS at h
  obtain ⟨⟨vs, H⟩, h1, rfl⟩ := Option.map_eq_some_iff.1 h
  obtain ⟨L, e1, e2, hn, hp⟩ := norm_spec h1
  subst e1
  subst e2
  refine ⟨locS L σ, ⟨⟨loc_wf at_.st.wf hn, fun t => ?_⟩, at_.ac, norm_step at_.step at_.k0.symm hn hp, at_.k0⟩⟩
  have e : ofE (live.zip (V.renL (place L) (live.map s.env))) t = if t ∈ live then (s.env t).ren (place L) else .undef := by
    rw [zip_renL, ofE_map live (fun t => (s.env t).ren (place L)) t]
  show RepV w F (locS L σ) (ofL (locM L s.mem)) (ofE (live.zip (V.renL (place L) (live.map s.env))) t) _
  rw [e]
  split
  · exact loc_rep (at_.st.env t)
  · exact .undef _
theorem empty_sound (wf : Wf w F σ M) {nb sz : Nat} {M' : Mem} (h0 : 0 < sz) (h : mk nb M (.vec true sz []) = some M') :
    Step w F σ M w F (sgNew σ nb none) M' ∧ RepV w F (sgNew σ nb none) M' (.vec nb 0 sz 0 0) (.slice none 0 0) := by
  unfold mk at h
  split at h
  · rename_i hn
    obtain rfl := Option.some.inj h
    refine ⟨step_new wf (by simpa using hn) rfl rfl rfl (Nat.le_refl _) (fun _ _ => rfl) (fun b o hx => by cases hx) (fun q hq => ?_) fun le => .vec h0 (by simp) (by simp) (by simp), ?_⟩
    · cases q with
      | none => rfl
      | some q => obtain ⟨i, j⟩ := q; obtain ⟨fl, sz', es2, e, s, r, h1, h2, _⟩ := hq; rw [upd_same] at h1; obtain ⟨_, _, rfl⟩ := Ob.vec.inj (Option.some.inj h1); simp at h2
    · exact .vec (upd_same ..) (by simp) (by simp) (by simp) fun m hm => ⟨by simp, fun _ => ⟨true, [], rfl, fun hp => by simp at hp⟩⟩
  · cases h
theorem thaw1_sound {x : Nat × Option Nat × Nat} {s s' : S} {a : Act} (h : thaw1 s x = some s') (at_ : At nt w0 F0 σ0 H0 s a w F σ) : ∃ σ', At nt w0 F0 σ0 H0 s' a w F σ' := by
  unfold thaw1 at h
  split at h
  · rename_i t sz
    simp only [Bool.cond_eq_ite] at h
    split at h
    · cases h
    · rename_i hz
      have h0 : 0 < sz := by have : sz ≠ 0 := by simpa using hz
                             omega
      split at h
      · rename_i he
        obtain ⟨M1, hM1, rfl⟩ := Option.map_eq_some_iff.1 h
        obtain ⟨st1, hr⟩ := empty_sound at_.st.wf h0 hM1
        refine ⟨_, ⟨⟨st1.wf, fun t' => ?_⟩, at_.ac, at_.step.trans st1, at_.k0⟩⟩
        by_cases e : t' = t
        · subst e
          have := at_.st.env t'
          rw [he] at this
          rw [rep_nils this]
          simp only [upd_same]
          exact hr
        · simp only [upd_ne s.env _ e]
          exact (at_.st.env t').mono st1.le
      · obtain rfl := Option.some.inj h
        exact ⟨σ, at_⟩
  · rename_i t c sz
    simp only [Bool.cond_eq_ite] at h
    split at h
    · cases h
    · rename_i hz
      have h0 : 0 < sz := by have : sz ≠ 0 := by simpa using hz
                             omega
      split at h
      · rename_i id n i o he
        split at h
        · rename_i cs hM
          split at h
          · rename_i hc
            obtain ⟨M1, hM1, rfl⟩ := Option.map_eq_some_iff.1 h
            obtain ⟨st1, hr⟩ := empty_sound at_.st.wf h0 hM1
            -- the box is az it was; its cell is told otherwise
            obtain ⟨ob, hid1, _⟩ := st1.le.obj id _ hM
            have hidne : id ≠ 2000000 + 100 * t + c := fun e => by
              unfold mk at hM1
              rw [← e, hM] at hM1
              simp at hM1
            have hid : M1 id = some (.box cs) := by
              unfold mk at hM1
              split at hM1
              · obtain rfl := Option.some.inj hM1
                rw [upd_ne _ _ hidne]; exact hM
              · cases hM1
            cases st1.wf.obj id _ hid with
            | @box _ b o0 cur ty hs hb hcs =>
              have hlt : c < cs.length := (List.getElem?_eq_some_iff.1 hc).1
              have stp := step_store (cur' := cur) st1.wf (p := none) (o' := .box (cs.set c (.vec (2000000 + 100 * t + c) 0 sz 0 0))) hid ⟨_, hid, by simp⟩ hs hb rfl ⟨fun m' hm => by
                obtain rfl := Option.some.inj hm
                exact ⟨1, rfl, Nat.le_refl _, fun _ => ⟨by simp [Ob.sz], fun _ h => h, fun fl sz es he => by cases he⟩⟩⟩ (fun q hq => by
                cases q with
                | none => exact ⟨_, hid, by simp⟩
                | some q => obtain ⟨i, j⟩ := q; obtain ⟨fl, sz, es, e, s, r, h1, _⟩ := hq; rw [upd_same] at h1; cases h1) (fun le => by
                rw [setRow_self w b cur ty (0, 0) hb] at le ⊢
                refine .box hs hb fun j x hj => ?_
                rw [List.getElem?_set] at hj
                by_cases hjk : c = j
                · subst hjk
                  rw [if_pos rfl, if_pos hlt] at hj
                  obtain rfl := Option.some.inj hj
                  obtain ⟨u, k1, k2⟩ := hcs c _ hc
                  rw [rep_nils k2] at k1
                  exact ⟨_, k1, hr.mono le⟩
                · rw [if_neg hjk] at hj
                  obtain ⟨u1, q1, q2⟩ := hcs j x hj
                  exact ⟨u1, q1, q2.mono le⟩)
              rw [setRow_self w b cur ty (0, 0) hb] at stp
              exact ⟨_, ⟨⟨stp.wf, fun t' => ((at_.st.env t').mono st1.le).mono stp.le⟩, at_.ac, (at_.step.trans st1).trans stp, at_.k0⟩⟩
          · obtain rfl := Option.some.inj h
            exact ⟨σ, at_⟩
        · obtain rfl := Option.some.inj h
          exact ⟨σ, at_⟩
      · obtain rfl := Option.some.inj h
        exact ⟨σ, at_⟩
theorem thawS_sound : ∀ (l : List (Nat × Option Nat × Nat)) {σ : Sg} {s s' : S} {a : Act}, thawS l s = some s' → At nt w0 F0 σ0 H0 s a w F σ → ∃ σ', At nt w0 F0 σ0 H0 s' a w F σ'
  | [], σ, s, s', a, h, at_ => by obtain rfl := Option.some.inj h; exact ⟨σ, at_⟩
  | x :: l, σ, s, s', a, h, at_ => by
    simp only [thawS] at h
    obtain ⟨s1, h1, h2⟩ := Option.bind_eq_some_iff.1 h
    obtain ⟨σ1, k1⟩ := thaw1_sound h1 at_
    exact thawS_sound l h2 k1
def OutOk (nt : Nat) (w0 : World) (F0 : Nat → Prop) (σ0 : Sg) (H0 : List Ob) (out : Out) (e : Exit) (a' : Act) (w' : World) : Prop :=
  match out with
  | .next s' => e = .normal ∧ ∃ F' σ', At nt w0 F0 σ0 H0 s' a' w' F' σ'
  | .exit id s' => e = .exit id ∧ ∃ F' σ', At nt w0 F0 σ0 H0 s' a' w' F' σ'
  | .ret s' => e = .ret ∧ ∃ F' σ', At nt w0 F0 σ0 H0 s' a' w' F' σ'
  | .val .. => False
def LoopOk (pr : Pr) (E : Q → Option Out) : Prop :=
  ∀ (l : LoopQ) (s : S) (out : Out), E (.loop l s) = some out → ∀ (w0 : World) (F0 : Nat → Prop) (σ0 : Sg) (H0 : List Ob) (w : World) (F : Nat → Prop) (σ : Sg) (a : Act),
    At (ntOf pr l.f) w0 F0 σ0 H0 s a w F σ → (Code.loop l.c).wp pr.P (OutOk (ntOf pr l.f) w0 F0 σ0 H0 out) a w
theorem loopE_sound {pr : Pr} {E : Q → Option Out} (hL : LoopOk pr E) {l : LoopQ} {s : S} {out : Out} {a : Act} (h : loopE E l s = some out) (at_ : At (ntOf pr l.f) w0 F0 σ0 H0 s a w F σ) :
    (Code.loop l.c).wp pr.P (OutOk (ntOf pr l.f) w0 F0 σ0 H0 out) a w := by
  unfold loopE at h
  obtain ⟨s1, h1, h⟩ := Option.bind_eq_some_iff.1 h
  obtain ⟨s2, h2, h⟩ := Option.bind_eq_some_iff.1 h
  obtain ⟨σ1, k1⟩ := thawS_sound _ h1 at_
  obtain ⟨σ2, k2⟩ := normS_sound h2 k1
  exact hL l s2 out h w0 F0 σ0 H0 w F σ2 a k2
theorem exec_sound {pr : Pr} {E : Q → Option Out} (hm : pr.P.follows .mixedOrders = true) (hE : CallOk pr.P E) (hL : LoopOk pr E) {f : FuncId} {frz : List Nat} {nest : Bool} : ∀ (x : Ann) (c : Code) {w : World} {F : Nat → Prop} {σ : Sg} {s : S} {out : Out} {a : Act},
    exec pr E f (ntOf pr f) frz nest x c s some = some out → At (ntOf pr f) w0 F0 σ0 H0 s a w F σ → c.wp pr.P (OutOk (ntOf pr f) w0 F0 σ0 H0 out) a w
  | .cut live x, c, w, F, σ, s, out, a, h, at_ => by
    simp only [exec] at h
    exact exec_sound hm hE hL x c h ⟨mask_sound at_.st live, at_.ac, at_.step, at_.k0⟩
  | .seq x y, c, w, F, σ, s, out, a, h, at_ => by
    cases c <;> simp only [exec] at h <;> try (cases h; done)
    rename_i c1 c2
    rw [exec_bind] at h
    obtain ⟨o1, h1, h2⟩ := Option.bind_eq_some_iff.1 h
    refine wp_seq (wp_mono (exec_sound hm hE hL x c1 h1 at_) fun e a' w' he => ?_)
    cases o1 with
    | next s' =>
      obtain ⟨rfl, F', σ', k⟩ := he
      exact exec_sound hm hE hL y c2 h2 k
    | exit id s' =>
      obtain rfl := Option.some.inj h2
      obtain ⟨rfl, F', σ', k⟩ := he
      exact ⟨rfl, F', σ', k⟩
    | ret s' =>
      obtain rfl := Option.some.inj h2
      obtain ⟨rfl, F', σ', k⟩ := he
      exact ⟨rfl, F', σ', k⟩
    | val v H => exact he.elim
  | .cond x y, c, w, F, σ, s, out, a, h, at_ => by
    cases c <;> simp only [exec] at h <;> try (cases h; done)
    rename_i cc c1 c2
    obtain ⟨v, h1, h⟩ := Option.bind_eq_some_iff.1 h
    have hv := rep_arg at_.st h1
    split at h
    · rename_i t
      have he := rep_bool hv
      cases t with
      | true => exact wp_cond_true he (exec_sound hm hE hL x c1 h at_)
      | false => exact wp_cond_false he (exec_sound hm hE hL y c2 h at_)
    · cases h
  | .block x, c, w, F, σ, s, out, a, h, at_ => by
    cases c <;> simp only [exec] at h <;> try (cases h; done)
    rename_i id c1
    rw [exec_bind] at h
    obtain ⟨o1, h1, h2⟩ := Option.bind_eq_some_iff.1 h
    refine wp_block (wp_mono (exec_sound hm hE hL x c1 h1 at_) fun e a' w' he => ?_)
    cases o1 with
    | next s' =>
      obtain rfl := Option.some.inj h2
      obtain ⟨rfl, F', σ', k⟩ := he
      exact ⟨rfl, F', σ', k⟩
    | exit id' s' =>
      obtain ⟨rfl, F', σ', k⟩ := he
      dsimp only at h2
      split at h2
      · rename_i hid
        obtain rfl := Option.some.inj h2
        simp only [Exit.inBlock, hid, if_true]
        exact ⟨rfl, F', σ', k⟩
      · rename_i hid
        obtain rfl := Option.some.inj h2
        simp only [Exit.inBlock, hid, if_false]
        exact ⟨rfl, F', σ', k⟩
    | ret s' =>
      obtain rfl := Option.some.inj h2
      obtain ⟨rfl, F', σ', k⟩ := he
      exact ⟨rfl, F', σ', k⟩
    | val v H => exact he.elim
  | .loop live after rets thaw x, c, w, F, σ, s, out, a, h, at_ => by
    cases c <;> simp only [exec] at h <;> try (cases h; done)
    rename_i c1
    obtain ⟨o, h1, h2⟩ := Option.bind_eq_some_iff.1 h
    obtain rfl := Option.some.inj h2
    exact loopE_sound hL h1 at_
  | .n, c, w, F, σ, s, out, a, h, at_ => by
    cases c with
    | skip =>
      obtain rfl := Option.some.inj h
      exact wp_skip ⟨rfl, F, σ, at_⟩
    | exit id =>
      obtain rfl := Option.some.inj h
      exact wp_exit ⟨rfl, F, σ, at_⟩
    | ret =>
      obtain rfl := Option.some.inj h
      exact wp_ret ⟨rfl, F, σ, at_⟩
    | region id ops draw =>
      cases draw with
      | false =>
        simp only [exec] at h
        rw [opsK_bind] at h
        obtain ⟨s1, h1, h2⟩ := Option.bind_eq_some_iff.1 h
        obtain rfl := Option.some.inj h2
        exact region_sound hE at_.st at_.ac h1 _ fun a' w' ⟨F', σ', q1, q2, q3, q4⟩ => ⟨rfl, F', σ', q2, q3, at_.step.trans q1, q4.trans at_.k0⟩
      | true =>
        simp only [exec, Bool.cond_eq_ite] at h
        split at h
        · rename_i hok
          rw [opsD_bind] at h
          obtain ⟨s1, h1, h2⟩ := Option.bind_eq_some_iff.1 h
          obtain rfl := Option.some.inj h2
          exact draw_sound hm hE at_.st at_.ac hok h1 _ fun a' w' ⟨F', σ', q1, q2, q3, q4⟩ => ⟨rfl, F', σ', q2, q3, at_.step.trans q1, q4.trans at_.k0⟩
        · cases h
    | _ => simp [exec] at h
def PrimOk (pr : Pr) : Prop :=
  ∀ (f : FuncId) (p : List V → List Ob → Option (V × List Ob)), pr.prim f = some p → ∀ (args : List V) (H : List Ob) (v : V) (H' : List Ob), p args H = some (v, H') →
    ∀ (w : World) (F : Nat → Prop) (σ : Sg) (cs : Array Value), Wf w F σ (ofL H) → RepL w F σ (ofL H) args cs →
      Calls pr.P f cs w fun e w' => ∃ c F' σ', e = .returned c ∧ Step w F σ (ofL H) w' F' σ' (ofL H') ∧ RepV w' F' σ' (ofL H') v c
def resOne (a : Act) : ResultVar → Sem Value
  | .tmp t => pure (a.tmps.getD t Go.undef)
  | .cell x t => do loadVar t (← asAddr (a.tmps.getD x Go.undef))
theorem resV_sound {P : Program} {s : S} {a : Act} (st : St w F σ s a) : ∀ (rs : List ResultVar) {vs : List V}, resV P s.mem s.env rs = some vs →
    ∃ cs : List Value, (rs.mapM (resOne a)).run P w = Result.ok cs w ∧ cs.length = vs.length ∧
      ∀ (i : Nat) (v : V), vs[i]? = some v → RepV w F σ s.mem v (cs.getD i Go.undef)
  | [], vs, h => by
    obtain rfl := Option.some.inj h
    exact ⟨[], rfl, rfl, fun i v hi => by simp at hi⟩
  | .tmp t :: rs, vs, h => by
    simp only [resV] at h
    obtain ⟨vs', h1, rfl⟩ := Option.map_eq_some_iff.1 h
    obtain ⟨cs, k1, k2, k3⟩ := resV_sound st rs h1
    refine ⟨a.tmps.getD t Go.undef :: cs, ?_, by simp [k2], fun i v hi => ?_⟩
    · rw [List.mapM_cons]
      simp only [resOne, Sem.run_bind, Sem.run_pure, Result.andThen_ok, k1]
    · cases i with
      | zero => obtain rfl : s.env t = v := by simpa using hi
                exact st.env t
      | succ i => simpa using k3 i v (by simpa using hi)
  | .cell x t :: rs, vs, h => by
    simp only [resV] at h
    obtain ⟨ag, h1, h⟩ := Option.bind_eq_some_iff.1 h
    obtain ⟨n, h2, h⟩ := Option.bind_eq_some_iff.1 h
    obtain ⟨v, h3, h⟩ := Option.bind_eq_some_iff.1 h
    obtain ⟨vs', h4, rfl⟩ := Option.map_eq_some_iff.1 h
    obtain ⟨cs, k1, k2, k3⟩ := resV_sound st rs h4
    obtain ⟨u, r1, r2⟩ := ld_sound (P := P) st.wf h1 h2 h3 (st.env x)
    have hp : ∃ ad, a.tmps.getD x Go.undef = .pointer (some ad) := by
      cases hx : a.tmps.getD x Go.undef with
      | pointer ad =>
        cases ad with
        | some ad => exact ⟨ad, rfl⟩
        | none => rw [hx] at r1; simp [Instr.loadAt, Instr.sureAddr, stuck] at r1
      | _ => rw [hx] at r1; simp [Instr.loadAt, Instr.sureAddr, stuck] at r1
    obtain ⟨ad, had⟩ := hp
    rw [had] at r1
    have r1' : (loadVar t ad).run P w = .ok u w := by simpa [Instr.loadAt, Instr.sureAddr] using r1
    have ha : (asAddr (a.tmps.getD x Go.undef)).run P w = .ok ad w := by rw [had]; rfl
    refine ⟨u :: cs, ?_, by simp [k2], fun i v' hi => ?_⟩
    · rw [List.mapM_cons]
      simp only [resOne, Sem.run_bind, Sem.run_pure, Result.andThen_ok, ha, r1', k1]
    · cases i with
      | zero => obtain rfl : v = v' := by simpa using hi
                exact r2
      | succ i => simpa using k3 i v' (by simpa using hi)
theorem softA_sound (zs : List Nat) {v : V} {c : Value} (h : RepV w F σ M v c) : RepV w F σ M (softA zs v) c := by
  unfold softA
  split
  · rename_i vs
    cases h with
    | agg hl h =>
      obtain ⟨h1, h2⟩ := softL_get zs vs
      refine .agg (h1.trans hl) fun i v hi => ?_
      obtain ⟨u, hu, hv⟩ := h2 i v hi
      rcases hv with rfl | ⟨z, rfl⟩
      · exact h i v hu
      · exact soft1_sound z (h i u hu)
  · exact soft1_sound _ h
theorem softT_get : ∀ (zs : List (List Nat)) (vs : List V), (softT zs vs).length = vs.length ∧ ∀ (i : Nat) (v : V), (softT zs vs)[i]? = some v → ∃ u, vs[i]? = some u ∧ (v = u ∨ ∃ z, v = softA z u)
  | [], vs => ⟨by simp [softT], fun i v h => ⟨v, by simpa [softT] using h, .inl rfl⟩⟩
  | z :: zs, [] => ⟨rfl, fun i v h => by simp [softT] at h⟩
  | z :: zs, u :: vs => by
    obtain ⟨h1, h2⟩ := softT_get zs vs
    refine ⟨by simp [softT, h1], fun i v h => ?_⟩
    cases i with
    | zero => exact ⟨u, rfl, .inr ⟨z, by simpa [softT] using h.symm⟩⟩
    | succ i => exact h2 i v (by simpa [softT] using h)
theorem softR_sound (zs : List (List Nat)) {v : V} {c : Value} (h : RepV w F σ M v c) : RepV w F σ M (softR zs v) c := by
  unfold softR
  split
  · exact softA_sound _ h
  · rename_i vs _
    cases h with
    | tup hl h =>
      obtain ⟨h1, h2⟩ := softT_get zs vs
      refine .tup (h1.trans hl) fun i v hi => ?_
      obtain ⟨u, hu, hv⟩ := h2 i v hi
      rcases hv with rfl | ⟨z, rfl⟩
      · exact h i v hu
      · exact softA_sound z (h i u hu)
  · exact h
theorem results_sound {P : Program} {fn : Func} {s : S} {a : Act} (st : St w F σ s a) {vs : List V} (h : resV P s.mem s.env fn.results.toList = some vs) :
    ∃ c, (results fn a.tmps).run P w = .ok c w ∧ RepV w F σ s.mem (one vs) c := by
  obtain ⟨cs, k1, k2, k3⟩ := resV_sound st fn.results.toList h
  have hr : (fn.results.mapM (resOne a)).run P w = .ok cs.toArray w := by
    rw [Array.mapM_eq_mapM_toList]
    simp [k1]
  have hres : results fn a.tmps = (do let vs ← fn.results.mapM (resOne a); pure (if h : vs.size = 1 then vs[0] else .tuple vs)) := by
    unfold results
    congr 1
  refine ⟨if h : cs.toArray.size = 1 then cs.toArray[0] else .tuple cs.toArray, ?_, ?_⟩
  · rw [hres, Sem.run_bind, hr]
    rfl
  · by_cases h1 : cs.toArray.size = 1
    · rw [dif_pos h1]
      have hl : vs.length = 1 := by rw [← k2]; simpa using h1
      match vs, cs, hl, h1, k3 with
      | [v], [c], _, _, k3 => exact k3 0 v rfl
    · rw [dif_neg h1]
      have hl : vs.length ≠ 1 := by rw [← k2]; simpa using h1
      have : one vs = .tup vs := by
        match vs, hl with
        | [], _ => rfl
        | [_], hl => simp at hl
        | _ :: _ :: _, _ => rfl
      rw [this]
      refine .tup (by simp [k2]) fun i v hi => ?_
      have := k3 i v hi
      rwa [List.getD_eq_getElem?_getD, ← List.getElem?_toArray, ← Array.getD_eq_getD_getElem?] at this
theorem callOk_step {pr : Pr} {E : Q → Option Out} (hm : pr.P.follows .mixedOrders = true) (hp : PrimOk pr) (hE : CallOk pr.P E) (hL : LoopOk pr E) : CallOk pr.P (step pr E) := by
  intro f args H v H' h
  simp only [step, Bool.cond_eq_ite] at h
  split at h
  · cases h
  · rename_i hc
    refine ⟨by simpa using hc, fun w F σ cs wf hrep => ?_⟩
    split at h
    · rename_i p hpf
      obtain ⟨⟨v1, H1⟩, h1, he⟩ := Option.map_eq_some_iff.1 h
      obtain ⟨rfl, rfl⟩ := Out.val.inj he
      exact hp f p hpf args H v1 H1 h1 w F σ cs wf hrep
    · split at h
      · rename_i fn hf
        obtain ⟨c, hb, h⟩ := Option.bind_eq_some_iff.1 h
        split at h
        · rename_i hlen
          rw [exec_bind] at h
          obtain ⟨out, h1, h2⟩ := Option.bind_eq_some_iff.1 h
          have hnt : fn.ntmps = ntOf pr f := by unfold ntOf; rw [hf]; rfl
          rw [hnt] at h1
          refine calls_of_wp hf hb (wp_mono (exec_sound (w0 := w) (F0 := F) (σ0 := σ) (H0 := H) (F := F) (σ := σ) hm hE hL _ c h1 ⟨⟨wf, fun t => ?_⟩, ⟨?_, rfl⟩, .refl wf, rfl⟩) fun e a' w' he => ?_)
          · show RepV w F σ (ofL H) (ofArgs args t) _
            have e1 : (cs ++ Array.replicate (fn.ntmps - cs.size) Go.undef).getD t Go.undef = cs.getD t Go.undef := by
              rw [Array.getD_eq_getD_getElem?, Array.getD_eq_getD_getElem?, Array.getElem?_append]
              split
              · rfl
              · rename_i hge
                rw [Array.getElem?_eq_none (by omega : cs.size ≤ t), Array.getElem?_replicate]
                split <;> rfl
            rw [e1]
            unfold ofArgs
            cases hi : args[t]? with
            | none => exact .undef _
            | some x => exact hrep.2 t x hi
          · simp
            have := hrep.1
            omega
          · have fin : ∀ s', retK pr (pr.pol f) fn s' = some (.val v H') → ∀ F' σ', At (ntOf pr f) w F σ H s' a' w' F' σ' → a'.defers = [] ∧ ∃ v', (results fn a'.tmps).run pr.P w' = .ok v' w' ∧
                ∃ c F' σ', Ending.returned v' = .returned c ∧ Step w F σ (ofL H) w' F' σ' (ofL H') ∧ RepV w' F' σ' (ofL H') v c := fun s' hr F' σ' at_ => by
              refine ⟨at_.ac.defers, ?_⟩
              unfold retK at hr
              obtain ⟨vs, r1, hr⟩ := Option.bind_eq_some_iff.1 hr
              obtain ⟨⟨v1, M1⟩, r2, hr⟩ := Option.bind_eq_some_iff.1 hr
              obtain ⟨⟨vs2, H2⟩, r3, hr⟩ := Option.bind_eq_some_iff.1 hr
              obtain ⟨c, k1, k2⟩ := results_sound at_.st r1
              replace k2 := softR_sound (pr.pol f).soft k2
              refine ⟨c, k1, ?_⟩
              have mv : ∃ F2, Step w' F' σ' s'.mem w' F2 σ' M1 ∧ RepV w' F2 σ' M1 v1 c := by
                cases ho : (pr.pol f).own with
                | true =>
                  rw [ho] at r2
                  simp only [cond_true] at r2
                  obtain ⟨rfl, rfl⟩ := Prod.mk.inj (Option.some.inj r2)
                  exact ⟨F', .refl at_.st.wf, k2⟩
                | false =>
                  rw [ho] at r2
                  simp only [cond_false] at r2
                  exact mvV_sound at_.st.wf r2 k2
              obtain ⟨F2, st2, k3⟩ := mv
              obtain ⟨L, e1, e2, hn, hpx⟩ := norm_spec r3
              subst e1
              subst e2
              simp only [V.renL] at hr
              obtain ⟨rfl, rfl⟩ := Out.val.inj (Option.some.inj hr)
              exact ⟨c, F2, locS L σ', rfl, norm_step (at_.step.trans st2) at_.k0.symm hn hpx, loc_rep k3⟩
            cases out with
            | next s' => obtain ⟨rfl, F', σ', k⟩ := he; exact fin s' h2 F' σ' k
            | ret s' => obtain ⟨rfl, F', σ', k⟩ := he; exact fin s' h2 F' σ' k
            | exit id s' => cases h2
            | val _ _ => cases h2
        · cases h
      · cases h
theorem least {p : Nat → Prop} (h : ∃ n, p n) : ∃ m, p m ∧ ∀ k, p k → m ≤ k := by
  obtain ⟨n, hn⟩ := h
  induction n using Nat.strongRecOn with
  | _ n ih =>
    by_cases hk : ∃ k, k < n ∧ p k
    · obtain ⟨k, h1, h2⟩ := hk
      exact ih k h1 h2
    · exact ⟨n, hn, fun k hp => by
        rcases Nat.lt_or_ge k n with h | h
        · exact absurd ⟨k, h, hp⟩ hk
        · exact h⟩
theorem all_ok {pr : Pr} (hm : pr.P.follows .mixedOrders = true) (hp : PrimOk pr) : ∀ n, CallOk pr.P (evF pr n) ∧ LoopOk pr (evF pr n) := by
  intro n
  induction n using Nat.strongRecOn with
  | _ n ih =>
    cases n with
    | zero => exact ⟨fun f args H v H' h => (by cases h), fun l s out h => (by cases h)⟩
    | succ k =>
      obtain ⟨hE, hL⟩ := ih k (Nat.lt_succ_self k)
      refine ⟨callOk_step hm hp hE hL, fun l s out h w0 F0 σ0 H0 w F σ a at_ => ?_⟩
      let I : Act → World → Prop := fun a w => ∃ j s', j ≤ k ∧ evF pr (j + 1) (.loop l s') = some out ∧ ∃ F σ, At (ntOf pr l.f) w0 F0 σ0 H0 s' a w F σ
      let R : Act → World → Nat → Prop := fun a w j => ∃ s', j ≤ k ∧ evF pr (j + 1) (.loop l s') = some out ∧ ∃ F σ, At (ntOf pr l.f) w0 F0 σ0 H0 s' a w F σ
      have hIR : ∀ a w, I a w → ∃ j, R a w j := fun a w h => h
      classical
      let μ : Act → World → Nat := fun a w => if h : ∃ j, R a w j then Classical.choose (least h) else 0
      refine wp_loop I μ ⟨k, s, Nat.le_refl _, h, F, σ, at_⟩ fun a w hI => ?_
      have hj : ∃ j, R a w j := hIR a w hI
      have hμ : μ a w = Classical.choose (least hj) := dif_pos hj
      obtain ⟨s', hle, hrun, F1, σ1, at1⟩ := (Classical.choose_spec (least hj)).1
      obtain ⟨hE1, hL1⟩ := ih (Classical.choose (least hj)) (by omega)
      have hrun' : step pr (evF pr (Classical.choose (least hj))) (.loop l s') = some out := hrun
      simp only [step] at hrun'
      rw [exec_bind] at hrun'
      obtain ⟨o1, h1, h2⟩ := Option.bind_eq_some_iff.1 hrun'
      refine wp_mono (exec_sound hm hE1 hL1 l.a l.c h1 at1) fun e a' w' he => ?_
      cases o1 with
      | next s1 =>
        obtain ⟨rfl, F', σ', k1⟩ := he
        simp only [Exit.then]
        dsimp only at h2
        unfold loopE at h2
        obtain ⟨s2, q1, h2⟩ := Option.bind_eq_some_iff.1 h2
        obtain ⟨s3, q2, h2⟩ := Option.bind_eq_some_iff.1 h2
        obtain ⟨σ2, t1⟩ := thawS_sound _ q1 k1
        obtain ⟨σ3, t2⟩ := normS_sound q2 t1
        cases hm' : Classical.choose (least hj) with
        | zero => rw [hm'] at h2; cases h2
        | succ m =>
          rw [hm'] at h2
          have hR : R a' w' m := ⟨s3, by omega, h2, F', σ3, t2⟩
          refine ⟨⟨m, hR⟩, ?_⟩
          have hj' : ∃ j, R a' w' j := ⟨m, hR⟩
          have : μ a' w' = Classical.choose (least hj') := dif_pos hj'
          rw [this, hμ, hm']
          have := (Classical.choose_spec (least hj')).2 m hR
          omega
      | exit id s1 =>
        obtain ⟨rfl, F', σ', k1⟩ := he
        obtain ⟨s2, q1, rfl⟩ := Option.map_eq_some_iff.1 h2
        obtain ⟨σ2, t1⟩ := normS_sound q1 k1
        exact ⟨rfl, F', σ2, t1⟩
      | ret s1 =>
        obtain ⟨rfl, F', σ', k1⟩ := he
        obtain ⟨s2, q1, rfl⟩ := Option.map_eq_some_iff.1 h2
        obtain ⟨σ2, t1⟩ := normS_sound q1 k1
        exact ⟨rfl, F', σ2, t1⟩
      | val _ _ => exact he.elim
end
end Go.Ev

namespace Go.Ev
set_option linter.unusedVariables false
set_option linter.unusedSimpArgs false
inductive Ty where
  | int | nat | rows | crows | str | row | crow | u8
  deriving DecidableEq
@[reducible] def Ty.ty : Ty → Type
  | .int => Int
  | .nat => Nat
  | .rows => List (List T)
  | .crows => List (List C)
  | .str => ByteArray
  | .row => List T
  | .crow => List C
  | .u8 => UInt8
inductive Fm where
  | fail
  | ret (o : Out)
  | ask (q : Q) (k : Out → Fm)
  | br (b : Bool) (k : Bool → Fm)
  | must (b : Bool) (k : Fm)
  | nrm (t : Ty) (x : t.ty) (k : t.ty → Fm)
  | get (t : Ty) (x : Option t.ty) (k : t.ty → Fm)
def interp (E : Q → Option Out) : Fm → Option Out
  | .fail => none
  | .ret o => some o
  | .ask q k => (E q).bind fun o => interp E (k o)
  | .br b k => interp E (k b)
  | .must b k => bif b then interp E k else none
  | .nrm _ x k => interp E (k x)
  | .get _ x k => x.bind fun v => interp E (k v)
def Mo (α : Type) : Type := (α → Fm) → Fm
section
variable {α β γ : Type}
def pureM (a : α) : Mo α := fun k => k a
def bnd (m : Mo α) (f : α → Mo β) : Mo β := fun k => m fun a => f a k
def failM : Mo α := fun _ => .fail
def optM (x : Option α) : Mo α := fun k => match x with
  | some a => k a
  | none => .fail
def mustM (b : Bool) : Mo Unit := fun k => .must b (k ())
def brM (b : Bool) : Mo Bool := fun k => .br b k
def nrmM (t : Ty) (x : t.ty) : Mo t.ty := fun k => .nrm t x k
def getM (t : Ty) (x : Option t.ty) : Mo t.ty := fun k => .get t x k
def askM (q : Q) : Mo Out := fun k => .ask q k
def mapMo (f : α → Mo β) : List α → Mo (List β)
  | [] => pureM []
  | a :: l => bnd (f a) fun b => bnd (mapMo f l) fun r => pureM (b :: r)
def lkp (es : List α) (i : Int) : Option α := if 0 ≤ i then es[i.toNat]? else none
def lkpS (s : ByteArray) (i : Int) : Option UInt8 := if 0 ≤ i then s[i.toNat]? else none
end
def seqV1 {α : Type} (v : V) (k : V → α) : α :=
  match v with
  | .undef => k .undef
  | .t x => k (.t x)
  | .ptr a b c d => k (.ptr a b c d)
  | .vec a b c d e => k (.vec a b c d e)
  | .row a b c d e f => k (.row a b c d e f)
  | .rptr a b c d e f g => k (.rptr a b c d e f g)
  | .agg vs => k (.agg vs)
  | .tup vs => k (.tup vs)
  | .clo f vs => k (.clo f vs)
def seqL {α : Type} : List V → (List V → α) → α
  | [], k => k []
  | v :: r, k => seqV1 v fun v => seqL r fun r => k (v :: r)
def seqV {α : Type} (v : V) (k : V → α) : α :=
  match v with
  | .undef => k .undef
  | .t x => k (.t x)
  | .ptr a b c d => k (.ptr a b c d)
  | .vec a b c d e => k (.vec a b c d e)
  | .row a b c d e f => k (.row a b c d e f)
  | .rptr a b c d e f g => k (.rptr a b c d e f g)
  | .agg vs => seqL vs fun vs => k (.agg vs)
  | .tup vs => seqL vs fun vs => k (.tup vs)
  | .clo f vs => seqL vs fun vs => k (.clo f vs)
def seqP {α : Type} : List (Nat × V) → (List (Nat × V) → α) → α
  | [], k => k []
  | (t, v) :: r, k => seqV v fun v => seqP r fun r => k ((t, v) :: r)
theorem seqV1_eq {α : Type} (v : V) (k : V → α) : seqV1 v k = k v := by cases v <;> rfl
theorem seqL_eq {α : Type} : ∀ (l : List V) (k : List V → α), seqL l k = k l
  | [], k => rfl
  | v :: r, k => by simp only [seqL, seqV1_eq, seqL_eq r]
theorem seqV_eq {α : Type} (v : V) (k : V → α) : seqV v k = k v := by cases v <;> simp only [seqV, seqL_eq]
theorem seqP_eq {α : Type} : ∀ (l : List (Nat × V)) (k : List (Nat × V) → α), seqP l k = k l
  | [], k => rfl
  | (t, v) :: r, k => by simp only [seqP, seqV_eq, seqP_eq r]
def fzM (M : Mem) : Nat → V → Mo T
  | 0, _ => failM
  | _ + 1, .t x => pureM x
  | _ + 1, .vec id n sz off len => match M id with
    | some (.vec _ sz' es) => if sz' = sz then bnd (mustM (decide (es.length = n ∧ off + len ≤ n))) fun _ => bnd (nrmM .rows (((es.drop off).take len).map (·.map C.fz))) fun es' => pureM (.seq sz es') else failM
    | _ => failM
  | _ + 1, .row id n i j sz len => match M id with
    | some (.vec _ _ es) => bnd (mustM (decide (es.length = n))) fun _ => bnd (getM .crow es[i]?) fun el => match el[j]? with
        | some (.row sz' r) => if sz' = sz then bnd (mustM (decide (r.length = len))) fun _ => pureM (.seq sz r) else failM
        | _ => failM
    | _ => failM
  | k + 1, .ptr id n i o => match M id with
    | some (.box cs) => if n = 1 ∧ i = 0 then bnd (mapMo (fzM M k) cs) fun l => pureM (T.ptr l o) else failM
    | some (.vec _ _ es) => bnd (mustM (decide (es.length = n))) fun _ => bnd (getM .crow es[i]?) fun e => pureM (T.ptr (e.map C.fz) o)
    | _ => failM
  | k + 1, .clo f caps => bnd (mapMo (fzM M k) caps) fun l => pureM (T.clo f l)
  | _ + 1, _ => failM
def fz1M (M : Mem) : V → Mo V
  | .agg vs => bnd (mapMo (fzM M 16) vs) fun l => pureM (V.agg (l.map V.t))
  | v => bnd (fzM M 16 v) fun x => pureM (V.t x)
def fzVM (M : Mem) : V → Mo V
  | .tup vs => bnd (mapMo (fz1M M) vs) fun l => pureM (V.tup l)
  | v => fz1M M v
def mvVM (M : Mem) (v : V) : Mo (V × Mem) :=
  bnd (fzVM M v) fun v' => match v with
    | .t _ => pureM (v', M)
    | _ => bnd (optM (clos M fuel0 v.refs [])) fun L => pureM (v', killL L M)
def rdM (M : Mem) (p : V) (k : Nat) : Mo V :=
  match p with
  | .t (.ptr cs o) => optM ((cs[o + k]?).map V.t)
  | .ptr id n i o => match M id with
    | some (.box cs) => if n = 1 ∧ i = 0 then optM (cs[o + k]?) else failM
    | some (.vec _ _ es) => bnd (mustM (decide (es.length = n))) fun _ => bnd (getM .crow es[i]?) fun e => optM ((e[o + k]?).map (rdC id n i (o + k)))
    | _ => failM
  | .rptr id n i j l e o => match M id with
    | some (.vec _ _ es) => bnd (mustM (decide (es.length = n))) fun _ => bnd (getM .crow es[i]?) fun el => match el[j]? with
        | some (.row _ r) => bnd (mustM (decide (r.length = l))) fun _ => bnd (getM .row r[e]?) fun g => optM ((g[o + k]?).map V.t)
        | _ => failM
    | _ => failM
  | _ => failM
def rdsM (M : Mem) (p : V) : Nat → Nat → Mo (List V)
  | _, 0 => pureM []
  | i, n + 1 => bnd (rdM M p i) fun v => bnd (rdsM M p (i + 1) n) fun l => pureM (v :: l)
def ldM (M : Mem) (p : V) (agg : Bool) (n : Nat) : Mo V :=
  bif agg then (bif n == 0 then failM else bnd (rdsM M p 0 n) fun l => pureM (.agg l)) else rdM M p 0
def asC (p : V × Mem) : Mo (C × Mem) := match p with
  | (.t x, M') => pureM (.t x, M')
  | _ => failM
def toCM (nest : Bool) (M : Mem) : V → Mo (C × Mem)
  | .t x => pureM (.t x, M)
  | .vec id n sz off len => bif nest then failM else bnd (mvVM M (.vec id n sz off len)) asC
  | v => bnd (mvVM M v) asC
def toCsM (nest : Bool) (M : Mem) : List V → Mo (List C × Mem)
  | [] => pureM ([], M)
  | v :: vs => bnd (toCM nest M v) fun p => bnd (toCsM nest p.2 vs) fun q => pureM (p.1 :: q.1, q.2)
def toCssM (nest : Bool) (M : Mem) : List (List V) → Mo (List (List C) × Mem)
  | [] => pureM ([], M)
  | v :: vs => bnd (toCsM nest M v) fun p => bnd (toCssM nest p.2 vs) fun q => pureM (p.1 :: q.1, q.2)
def wr0M (nest : Bool) (M : Mem) (p : V) (k : Nat) (v : V) : Mo Mem :=
  match p with
  | .ptr id n i o => match M id with
    | some (.box cs) => if n = 1 ∧ i = 0 ∧ o + k < cs.length ∧ v.isCell = true then seqL (cs.set (o + k) v) fun cs' => pureM (upd M id (some (.box cs'))) else failM
    | some (.vec ..) => bnd (toCM nest M v) fun q => match q.2 id with
      | some (.vec fl sz es) => bnd (mustM (decide (es.length = n))) fun _ => bnd (getM .crow es[i]?) fun e => match e[o + k]? with
          | some (.t _) => bnd (nrmM .crows (es.set i (e.set (o + k) q.1))) fun es' => pureM (upd q.2 id (some (.vec (fl && q.1.isT) sz es')))
          | _ => failM
      | _ => failM
    | _ => failM
  | _ => failM
def wrNM (M : Mem) (id n i c id2 n2 sz2 off2 len2 : Nat) : Mo Mem :=
  if id = id2 ∨ off2 ≠ 0 then failM else
  match M id2 with
  | some (.vec fl2 sz2' es2) => if sz2' = sz2 ∧ fl2 = true then bnd (mustM (decide (es2.length = n2 ∧ len2 ≤ n2))) fun _ =>
      match M id with
      | some (.vec _ sz es) => bnd (mustM (decide (es.length = n))) fun _ => bnd (getM .crow es[i]?) fun e => match e[c]? with
          | some (.t _) => bnd (nrmM .rows ((es2.take len2).map (·.map C.fz))) fun r => bnd (nrmM .crows (es.set i (e.set c (.row sz2 r)))) fun es' => pureM (upd (upd M id2 (some .dead)) id (some (.vec false sz es')))
          | some (.gone g) => bnd (mustM (decide (g < len2))) fun _ => bnd (nrmM .rows ((es2.take len2).map (·.map C.fz))) fun r => bnd (nrmM .crows (es.set i (e.set c (.row sz2 r)))) fun es' => pureM (upd (upd M id2 (some .dead)) id (some (.vec false sz es')))
          | _ => failM
      | _ => failM
    else failM
  | _ => failM
def wrRM (M : Mem) (id n i j l e o k : Nat) (v : V) : Mo Mem :=
  if v.isCell = true then bnd (toCM false M v) fun q => match q.1, q.2 id with
    | .t x, some (.vec fl sz es) => bnd (mustM (decide (es.length = n))) fun _ => bnd (getM .crow es[i]?) fun el => match el[j]? with
        | some (.row s r) => bnd (getM .row r[e]?) fun g => bnd (mustM (decide (o + k < g.length ∧ r.length = l))) fun _ =>
            bnd (nrmM .crows (es.set i (el.set j (.row s (r.set e (g.set (o + k) x)))))) fun es' => pureM (upd q.2 id (some (.vec fl sz es')))
        | _ => failM
    | _, _ => failM
  else failM
def wrM (nest : Bool) (M : Mem) (p : V) (k : Nat) (v : V) : Mo Mem :=
  match p, v with
  | .rptr id n i j l e o, v => wrRM M id n i j l e o k v
  | .ptr id n i o, .vec id2 n2 sz2 off2 len2 => bif nest && isVecO (M id) then wrNM M id n i (o + k) id2 n2 sz2 off2 len2 else wr0M false M (.ptr id n i o) k (.vec id2 n2 sz2 off2 len2)
  | p, v => wr0M false M p k v
def wrs0M (nest : Bool) (M : Mem) (p : V) : Nat → List V → Mo Mem
  | _, [] => pureM M
  | i, v :: vs => bnd (wrM nest M p i v) fun M' => wrs0M nest M' p (i + 1) vs
def wrsM (nest : Bool) (M : Mem) (p : V) (vs : List V) : Mo Mem :=
  match p with
  | .ptr id n j 0 => match M id, vs.mapM tOf with
    | some (.vec fl sz es), some ts => bnd (mustM (decide (es.length = n))) fun _ => bnd (getM .crow es[j]?) fun e =>
        if e.length = ts.length ∧ e.all C.isT = true then bnd (nrmM .crows (es.set j (ts.map C.t))) fun es' => pureM (upd M id (some (.vec fl sz es'))) else wrs0M nest M p 0 vs
    | _, _ => wrs0M nest M p 0 vs
  | _ => wrs0M nest M p 0 vs
def nrmV (x : Option V) : Mo V :=
  match x with
  | some (.t (.int k n)) => bnd (nrmM .int n) fun n => pureM (.t (.int k n))
  | some v => pureM v
  | none => failM
def pow2 (b : Int) (w : Nat) : Int := 2 ^ min b.toNat w
def binM (P : Program) (op : BinOp) (t : TypeId) (x y : V) : Mo V :=
  match op, x, y with
  | .add, .t (.str a), .t (.str b) => bnd (mustM (decide (a.size + b.size ≤ 9223372036854775807))) fun _ => bnd (nrmM .str (a ++ b)) fun s => pureM (.t (.str s))
  | .quo, .t (.int k a), .t (.int k' b) => if k = k' then bnd (mustM (decide (b ≠ 0))) fun _ => bnd (nrmM .int (k.wrap (a.tdiv b))) fun n => pureM (.t (.int k n)) else failM
  | .rem, .t (.int k a), .t (.int k' b) => if k = k' then bnd (mustM (decide (b ≠ 0))) fun _ => bnd (nrmM .int (a.tmod b)) fun n => pureM (.t (.int k n)) else failM
  | .shl, .t (.int k a), .t (.int _ b) => bnd (mustM (decide (0 ≤ b))) fun _ => bnd (nrmM .int (k.wrap (a * pow2 b k.bits))) fun n => pureM (.t (.int k n))
  | .shr, .t (.int k a), .t (.int _ b) => bnd (mustM (decide (0 ≤ b))) fun _ => bnd (nrmM .int (a.fdiv (pow2 b k.bits))) fun n => pureM (.t (.int k n))
  | op, x, .t .nils => match x with
    | .t .nils => nrmV (bin P op t (.t .nils) (.t .nils))
    | .t (.sn b) => nrmV (bin P op t (.t (.sn b)) (.t .nils))
    | x => bnd (mustM (decide (0 < lenN x))) fun _ => optM (binN P op t)
  | op, x, y => nrmV (bin P op t x y)
def binXM (P : Program) (op : BinOp) (t : TypeId) (oy : Operand) (x y : V) : Mo V :=
  match oy, x with
  | .const .nilIface, .t .nili => nrmV (binX P op t (.const .nilIface) (.t .nili) y)
  | _, _ => binM P op t x y
def idxAM (sz : Nat) (x i : V) : Mo V :=
  match i with
  | .t (.int _ i) => match x with
      | .t (.seq sz' es) => if sz' = sz then bnd (getM .row (lkp es i)) fun e => pureM (.t (.ptr e 0)) else failM
      | .vec id n sz' off len => if sz' = sz then bnd (mustM (decide (0 ≤ i ∧ i.toNat < len))) fun _ => bnd (nrmM .nat (off + i.toNat)) fun j => pureM (.ptr id n j 0) else failM
      | .row id n a b sz' len => if sz' = sz then bnd (mustM (decide (0 ≤ i ∧ i.toNat < len))) fun _ => bnd (nrmM .nat i.toNat) fun e => pureM (.rptr id n a b len e 0) else failM
      | _ => failM
  | _ => failM
def idxSM (x i : V) : Mo V :=
  match x, i with
  | .t (.str s), .t (.int _ i) => bnd (getM .u8 (lkpS s i)) fun b => pureM (.t (.int .u8 b.toNat))
  | _, _ => failM
def intOr (d : Int) : Option V → Option Int
  | none => some d
  | some (.t (.int _ n)) => some n
  | _ => none
def subM (sz : Nat) (x : V) (lo hi : Option V) : Mo V :=
  match x with
  | .t (.str s) => bnd (optM (intOr 0 lo)) fun l => bnd (optM (intOr s.size hi)) fun h => bnd (mustM (decide (0 ≤ l ∧ l ≤ h ∧ h ≤ s.size))) fun _ => bnd (nrmM .str (s.extract l.toNat h.toNat)) fun s => pureM (.t (.str s))
  | .t .nils => bnd (optM (intOr 0 lo)) fun l => bnd (optM (intOr 0 hi)) fun h => bnd (mustM (decide (l = 0 ∧ h = 0))) fun _ => pureM (.t .nils)
  | .t (.seq sz' es) => if sz' = sz then bnd (optM (intOr 0 lo)) fun l => bnd (optM (intOr es.length hi)) fun h => bnd (mustM (decide (0 ≤ l ∧ l ≤ h ∧ h ≤ es.length))) fun _ =>
      bnd (nrmM .rows ((es.drop l.toNat).take (h.toNat - l.toNat))) fun es => pureM (.t (.seq sz es)) else failM
  | .vec id n sz' off len => if sz' = sz then bnd (optM (intOr 0 lo)) fun l => bnd (optM (intOr len hi)) fun h => bnd (mustM (decide (0 ≤ l ∧ l ≤ h ∧ off + h.toNat ≤ n))) fun _ =>
      bnd (nrmM .nat (off + l.toNat)) fun a => bnd (nrmM .nat (h.toNat - l.toNat)) fun b => pureM (.vec id n sz a b) else failM
  | _ => failM
def mkLitM (nest : Bool) (nb : Nat) (M : Mem) (sz len : Nat) (z : List T) (parts : List (Nat × V)) : Mo (V × Mem) :=
  if z.length = sz ∧ 0 < sz ∧ len * sz ≤ 16777216 then
    bnd (optM (fillV (fun i => some (i * sz, sz)) ((List.replicate len (z.map V.t)).flatten) parts)) fun vs =>
    bnd (toCssM nest M (chunks sz len vs)) fun p =>
    bnd (optM (mk nb p.2 (.vec (p.1.all (·.all C.isT)) sz p.1))) fun M2 => pureM (.vec nb len sz 0 len, M2)
  else failM
def mvInM (id : Nat) : Nat → List V → Mem → Mo Mem
  | _, [], M => pureM M
  | j, .vec id2 n2 sz2 off2 len2 :: r, M => bnd (wrNM M id 1 0 j id2 n2 sz2 off2 len2) fun M' => mvInM id (j + 1) r M'
  | j, _ :: r, M => mvInM id (j + 1) r M
def mkLitNM (nest : Bool) (nb : Nat) (M : Mem) (sz len : Nat) (z : List T) (parts : List (Nat × V)) : Mo (V × Mem) :=
  match (bif nest then litOne sz len parts else none) with
  | some vs => bnd (mkLitM false nb M sz 1 z [(0, .agg (vs.map nilC))]) fun p => bnd (mvInM nb 0 vs p.2) fun M2 => pureM (p.1, M2)
  | none => mkLitM false nb M sz len z parts
def mkMakeM (nb : Nat) (M : Mem) (sz bytes : Nat) (z : List T) (len cap : V) : Mo (V × Mem) :=
  match len, cap with
  | .t (.int _ n), .t (.int _ c) =>
    if z.length = sz ∧ 0 < sz ∧ bytes ≤ small then
      bnd (mustM (decide (0 ≤ n ∧ n ≤ c ∧ c ≤ 4294967296))) fun _ => bnd (nrmM .nat n.toNat) fun n => bnd (nrmM .crows (List.replicate n (z.map C.t))) fun es =>
      bnd (optM (mk nb M (.vec true sz es))) fun M' => pureM (.vec nb n sz 0 n, M')
    else failM
  | _, _ => failM
def srcM (M : Mem) (sz : Nat) (x : V) : Mo (List (List C)) :=
  match x with
  | .t .nils => pureM []
  | .t (.seq sz' es) => if sz' = sz then pureM (es.map (·.map C.t)) else failM
  | .t (.sn _) => pureM []
  | .t (.str s) => if sz = 1 then pureM (s.data.toList.map fun b => [C.t (.int .u8 b.toNat)]) else failM
  | .vec id n sz' off len => match M id with
    | some (.vec fl sz'' es) => if sz' = sz ∧ sz'' = sz ∧ fl = true then bnd (mustM (decide (es.length = n ∧ off + len ≤ n))) fun _ => pureM ((es.drop off).take len) else failM
    | _ => failM
  | _ => failM
def app0M (M : Mem) (sz id n len : Nat) (es xs : List (List C)) : Mo (V × Mem) :=
  bnd (brM (decide (len + xs.length ≤ n))) fun b => bnd (nrmM .nat (len + xs.length)) fun l =>
    bif b then bnd (nrmM .crows (es.take len ++ xs ++ es.drop (len + xs.length))) fun es' => pureM (.vec id n sz 0 l, upd M id (some (.vec true sz es')))
    else bnd (nrmM .crows (es.take len ++ xs)) fun es' => pureM (.vec id l sz 0 l, upd M id (some (.vec true sz es')))
def appM (nb : Nat) (M : Mem) (sz bytes : Nat) (s x : V) : Mo (V × Mem) :=
  if 0 < sz ∧ bytes ≤ small then
  bnd (srcM M sz x) fun xs =>
  match s with
  | .t .nils => bnd (mustM (decide (xs.length ≤ 4294967296))) fun _ => bnd (nrmM .nat xs.length) fun l => bnd (nrmM .crows xs) fun xs => bnd (optM (mk nb M (.vec true sz xs))) fun M2 => pureM (.vec nb l sz 0 l, M2)
  | .vec id n sz' off len => match M id with
    | some (.vec fl' sz'' es) =>
      if sz' = sz ∧ sz'' = sz ∧ fl' = true then
        bnd (mustM (decide (es.length = n ∧ off + len ≤ n ∧ len + xs.length ≤ 4294967296))) fun _ =>
        if off = 0 then app0M M sz id n len es xs
        else bnd (mustM (decide (off + len = n))) fun _ => bnd (optM (mk nb M (.vec true sz (es.drop off)))) fun M2 => app0M (upd M2 id (some .dead)) sz nb (n - off) len (es.drop off) xs
      else failM
    | _ => failM
  | .row id n i j sz' len => match M id with
    | some (.vec _ s0 es) => if sz' = sz then bnd (mustM (decide (es.length = n ∧ 0 < len ∧ 0 < xs.length ∧ len + xs.length ≤ 4294967296))) fun _ => bnd (getM .crow es[i]?) fun e => match e[j]? with
        | some (.row sz'' r) => if sz'' = sz then bnd (mustM (decide (r.length = len))) fun _ => bnd (nrmM .crows (es.set i (e.set j (.gone len)))) fun es' => bnd (nrmM .crows (r.map (·.map C.t))) fun r' =>
            bnd (optM (mk nb (upd M id (some (.vec false s0 es'))) (.vec true sz r'))) fun M2 => app0M M2 sz nb len len r' xs else failM
        | _ => failM
      else failM
    | _ => failM
  | _ => failM
  else failM
def appNM (M : Mem) (sz bytes id n len id2 : Nat) : Mo (V × Mem) :=
  if 0 < sz ∧ bytes ≤ small ∧ id ≠ id2 then
  match M id2 with
  | some (.vec _ sz2 [e]) => match M id with
    | some (.vec _ sz1 es) => if sz2 = sz ∧ sz1 = sz then
        bnd (mustM (decide (es.length = n ∧ len = n ∧ n + 1 ≤ 4294967296))) fun _ => bnd (nrmM .nat (n + (1 : Nat))) fun l => bnd (nrmM .crows (es ++ [e])) fun es' =>
        pureM (.vec id l sz 0 l, upd (upd M id2 (some .dead)) id (some (.vec false sz es'))) else failM
    | _ => failM
  | _ => failM
  else failM
def appXM (nb : Nat) (M : Mem) (sz bytes : Nat) (s x : V) : Mo (V × Mem) :=
  match s, x with
  | .vec id n sz' off len, .vec id2 n2 sz2 off2 len2 => bif rowsO (M id2) then (bnd (mustM (decide (sz' = sz ∧ sz2 = sz ∧ off = 0 ∧ n2 = 1 ∧ off2 = 0 ∧ len2 = 1))) fun _ => appNM M sz bytes id n len id2) else appM nb M sz bytes (.vec id n sz' off len) (.vec id2 n2 sz2 off2 len2)
  | s, x => appM nb M sz bytes s x
def clrM (M : Mem) (sz : Nat) (z : List T) (x : V) : Mo Mem :=
  match x with
  | .vec id n sz' off len => match M id with
    | some (.vec fl sz'' es) => if sz' = sz ∧ sz'' = sz ∧ fl = true ∧ z.length = sz then
        bnd (mustM (decide (es.length = n ∧ off + len ≤ n))) fun _ => bnd (nrmM .crows (es.take off ++ List.replicate len (z.map C.t) ++ es.drop (off + len))) fun es' =>
        pureM (upd M id (some (.vec true sz es'))) else failM
    | _ => failM
  | _ => failM
def cpyM (M : Mem) (sz : Nat) (d x : V) : Mo (Nat × Mem) :=
  match d with
  | .vec id n sz' off len =>
    bnd (brM (decide (lenN x ≤ len))) fun b => bnd (optM (bif b then some x else truncV len x)) fun x' => bnd (srcM M sz x') fun xs => match M id with
    | some (.vec fl sz'' es) => if 0 < sz ∧ sz' = sz ∧ sz'' = sz ∧ fl = true then bnd (mustM (decide (es.length = n ∧ off + len ≤ n ∧ xs.length ≤ len))) fun _ =>
        bnd (nrmM .nat xs.length) fun k => bnd (nrmM .crows (es.take off ++ xs ++ es.drop (off + xs.length))) fun es' => pureM (k, upd M id (some (.vec true sz es'))) else failM
    | _ => failM
  | _ => failM
def prepMM : List Mode → List V → Mem → Mo (List V × Mem)
  | _, [], M => pureM ([], M)
  | .move :: ms, v :: vs, M => bnd (mvVM M v) fun p => bnd (prepMM ms vs p.2) fun q => pureM (p.1 :: q.1, q.2)
  | ms, v :: vs, M => bnd (prepMM ms.tail vs M) fun q => pureM (v :: q.1, q.2)
def prepBM (M : Mem) : List Mode → List V → Mo (List V × List Nat)
  | _, [] => pureM ([], [])
  | .borrow :: ms, v :: vs => bnd (fzVM M v) fun v' => bnd (prepBM M ms vs) fun q => pureM (v' :: q.1, v.refs ++ q.2)
  | ms, v :: vs => bnd (prepBM M ms.tail vs) fun q => pureM (v :: q.1, q.2)
def mergeM (L : List Nat) (nb : Nat) (B : List Nat) (M : Mem) (out : Out) : Mo (V × Mem) :=
  match out with
  | .val v H => bnd (bif B.isEmpty then pureM () else mustM (v.flat && H.all Ob.flat)) fun _ =>
      bnd (optM (putL (back L nb) M L H)) fun p => if p.2.length ≤ 8 then bnd (optM (putNew (back L nb) p.1 nb p.2)) fun M2 => pureM (v.ren (back L nb), M2) else failM
  | _ => failM
section
variable (pr : Pr)
def callEM (f : FuncId) (args : List V) (M : Mem) (nb : Nat) : Mo (V × Mem) :=
  bnd (prepMM (pr.pol f).modes (softL (pr.pol f).argS args) M) fun p =>
  bnd (prepBM p.2 (pr.pol f).modes p.1) fun q =>
  bnd (optM (clos p.2 fuel0 q.2 [])) fun B =>
  bnd (optM (clos p.2 fuel0 (V.refsL q.1) [])) fun L =>
  bif B.all (fun i => !L.contains i) then
    bnd (askM (.call f (V.renL (place L) q.1) (L.map fun id => orenD (place L) (p.2 id)))) fun out => mergeM L nb B p.2 out
  else failM
def callVM (fv : V) (args : List V) (M : Mem) (nb : Nat) : Mo (V × Mem) :=
  match fv with
  | .t (.clo f caps) => callEM pr f (args ++ caps.map V.t) M nb
  | .clo f caps => callEM pr f (args ++ caps) M nb
  | _ => failM
def withM (M : Mem) (v : V) : Mo (V × Mem) := pureM (v, M)
abbrev Kn := List (Nat × Bool)
def Kn.at : Kn → Nat → Option Bool
  | [], _ => none
  | (t, v) :: r, x => if t = x then some v else Kn.at r x
def kget (kn : Kn) : Operand → Option Bool
  | .tmp t => kn.at t
  | _ => none
def Kn.drop (kn : Kn) : Option Nat → Kn
  | none => kn
  | some d => kn.filter fun p => p.1 != d
def opM (nest : Bool) (kn : Kn) (o : Oper) (s : S) : Mo (V × Mem) :=
  let P := pr.P
  let M := s.mem
  match o.op with
  | .move x | .assign x => bnd (optM (arg s.env x)) (withM M)
  | .pick c a b => bnd (optM (arg s.env a)) fun a => bnd (optM (arg s.env b)) fun b => match kget kn c with
      | some c => withM M (bif c then a else b)
      | none => bnd (optM (arg s.env c)) fun
        | .t (.bool c) => bnd (brM c) fun c => withM M (bif c then a else b)
        | _ => failM
  | .alloc t => bnd (optM (zeroT P t)) fun z => optM (newBox (bound o) M (z.map V.t))
  | .box _ x => bnd (optM (arg s.env x)) fun v => optM (newBox (bound o) M v.cells)
  | .build t parts => bif !structOk P t then failM else bnd (optM (argPs s.env parts.toList)) fun ps => bnd (optM (zeroT P t)) fun z =>
      bnd (optM (fillV (fun i => (fieldT P t i).map fun f => (f.1, f.2.1)) (z.map V.t) ps)) fun vs => withM M (.agg vs)
  | .buildSlice t len parts => bnd (optM (argPs s.env parts.toList)) fun ps => bnd (optM (elemT P t)) fun e => bnd (optM (szT P e)) fun sz => bnd (optM (zeroT P e)) fun z =>
      mkLitNM nest (bound o) M sz len z ps
  | .load t a => bnd (optM (arg s.env a)) fun p => bnd (optM (aggT P t)) fun ag => bnd (optM (szT P t)) fun n => bnd (ldM M p ag n) (withM M)
  | .store t a x => bnd (optM (arg s.env a)) fun p => bnd (optM (arg s.env x)) fun v => bnd (optM (szT P t)) fun n =>
      if v.cells.length = n ∧ n ≠ 0 then bnd (wrsM nest M p v.cells) fun M' => pureM (.undef, M') else failM
  | .nilCheck x => bnd (optM (arg s.env x)) fun v => bnd (optM (nilChk v)) (withM M)
  | .binOp op t x y _ => bnd (optM (arg s.env x)) fun a => bnd (optM (arg s.env y)) fun b => bnd (binXM P op t y a b) (withM M)
  | .unOp op _ x => bnd (optM (arg s.env x)) fun a => bnd (nrmV (un op a)) (withM M)
  | .convert src dst x => bnd (optM (arg s.env x)) fun a => bnd (nrmV (conv P src dst a)) (withM M)
  | .makeFunc (.func f) first captured => if first.size = 0 then bnd (optM (argL s.env captured)) fun vs =>
      match vs.mapM tOf with
      | some ts => withM M (.t (.clo f ts))
      | none => withM M (.clo f vs) else failM
  | .makeSlice t l c => bnd (optM (arg s.env l)) fun l => bnd (optM (arg s.env c)) fun c => bnd (optM (elemT P t)) fun e => bnd (optM (szT P e)) fun sz => bnd (optM (zeroT P e)) fun z => bnd (optM (P.info? e)) fun i =>
      mkMakeM (bound o) M sz i.bytes z l c
  | .slice t x lo hi mx => bnd (optM (arg s.env x)) fun v => bnd (optM (argO s.env lo)) fun lo => bnd (optM (argO s.env hi)) fun hi => bnd (optM (argO s.env mx)) fun mx =>
      bnd (bif mx.isNone then pureM () else mustM (maxOk v mx && (mx.isNone || hi.isSome))) fun _ =>
      match P.underlying t with
      | some (.slice e) => match v with
        | .t (.str _) => failM
        | v => bnd (optM (szT P e)) fun sz => bnd (subM sz v lo hi) (withM M)
      | some .string => match v with
        | .t (.str _) => bnd (subM 1 v lo hi) (withM M)
        | _ => failM
      | _ => failM
  | .fieldAddr t x f => bnd (optM (arg s.env x)) fun p => bnd (optM (fieldT P t f)) fun fi => if fi.2.1 = 0 then failM else bnd (optM (fldA fi.1 p)) (withM M)
  | .field t x f => bnd (optM (arg s.env x)) fun p => bnd (optM (fieldT P t f)) fun fi => bnd (optM (fld fi.1 fi.2.1 fi.2.2 p)) (withM M)
  | .indexAddr t x i => bnd (optM (arg s.env x)) fun x => bnd (optM (arg s.env i)) fun i => bnd (optM (elemT P t)) fun e => bnd (optM (szT P e)) fun sz => if sz = 0 then failM else bnd (idxAM sz x i) (withM M)
  | .index t x i => bnd (optM (arg s.env x)) fun x => bnd (optM (arg s.env i)) fun i =>
      match P.underlying t with
      | some .string => bnd (idxSM x i) (withM M)
      | _ => failM
  | .extract x i => bnd (optM (arg s.env x)) fun x => bnd (optM (ext i x)) (withM M)
  | .call c => match c.callee with
    | .builtin .len => bnd (optM (argL s.env c.args)) fun vs => match vs, (c.argTypes[0]?).bind P.underlying with
      | [.t (.str z)], some .string => bnd (nrmV (lenV (.t (.str z)))) (withM M)
      | [v], some (.slice _) => match v with
        | .t (.str _) => failM
        | v => bnd (nrmV (lenV v)) (withM M)
      | _, _ => failM
    | .builtin .max => bnd (optM (argL s.env c.args)) fun vs => bnd (nrmV (minmax true vs)) (withM M)
    | .builtin .min => bnd (optM (argL s.env c.args)) fun vs => bnd (nrmV (minmax false vs)) (withM M)
    | .builtin .append => bnd (optM (argL s.env c.args)) fun vs => match vs, c.argTypes[0]?, c.argTypes[1]? with
      | [a, b], some t, some u => match P.underlying u with
        | some (.int _) => failM
        | none => failM
        | _ => bnd (optM (elemT P t)) fun e => bnd (optM (szT P e)) fun sz => bnd (optM (P.info? e)) fun i => bnd (optM (zeroT P e)) fun z =>
          if z.length = sz then appXM (bound o) M sz i.bytes a b else failM
      | _, _, _ => failM
    | .builtin .clear => bnd (optM (argL s.env c.args)) fun vs => match vs, c.argTypes[0]? with
      | [a], some t => bnd (optM (elemT P t)) fun e => bnd (optM (szT P e)) fun sz => bnd (optM (zeroT P e)) fun z => bnd (clrM M sz z a) fun M' => pureM (.undef, M')
      | _, _ => failM
    | .builtin .copy => bnd (optM (argL s.env c.args)) fun vs => match vs, c.argTypes[0]? with
      | [a, b], some t => bnd (optM (elemT P t)) fun e => bnd (optM (szT P e)) fun sz => bnd (cpyM M sz a b) fun q => pureM (.t (.int .i64 q.1), q.2)
      | _, _ => failM
    | .value (.func f) => bnd (optM (argL s.env c.args)) fun vs => callEM pr f vs M (bound o)
    | .value x => bnd (optM (arg s.env x)) fun fv => bnd (optM (argL s.env c.args)) fun vs => callVM pr fv vs M (bound o)
    | _ => failM
  | _ => failM
def finM (nt : Nat) (o : Oper) (s : S) (p : V × Mem) : Mo S :=
  match o.dst with
  | some d => if d < nt then seqV p.1 fun v => pureM { s with env := upd s.env d v, mem := p.2 } else failM
  | none => pureM { s with mem := p.2 }
def opFM (frz : List Nat) (nest : Bool) (kn : Kn) (o : Oper) (s : S) : Mo (V × Mem) :=
  bif (o.dst.any fun d => frz.contains d) then bnd (opM pr nest kn o s) fun p =>
    bnd (mvVM p.2 p.1) fun q => bnd (optM (clos p.2 fuel0 p.1.refs [])) fun L => bif L.all (fun id => bound o ≤ id && id < bound o + 8) then pureM q else failM
  else opM pr nest kn o s
def wantM (ops : Array Oper) (env : Nat → V) (kn : Kn) (j : Nat) (b : Bool) : Mo (Bool × Kn) :=
  match (ops[j]?).bind (·.dst) with
  | some t => match kn.at t with
    | some v => pureM (v == b, kn)
    | none => match env t with
      | .t (.bool b') => bnd (brM b') fun v => pureM (v == b, (t, v) :: kn)
      | .tup [] => pureM (false, kn)
      | _ => failM
  | none => failM
def wanted1M (ops : Array Oper) (kn : Kn) (o : Oper) (s : S) : Mo (Bool × Kn) :=
  match o.guard with
  | none => pureM (true, kn)
  | some (j, b) => wantM ops s.env kn j b
def op1M (nt : Nat) (frz : List Nat) (nest : Bool) (o : Oper) (y : Bool) (kn : Kn) (s : S) : Mo S :=
  bif y then bnd (opFM pr frz nest kn o s) (finM nt o s) else finM nt o s (.tup [], s.mem)
def opsM (nt : Nat) (frz : List Nat) (nest : Bool) (ops : Array Oper) : List Nat → Kn → S → Mo S
  | [], _, s => pureM s
  | i :: r, kn, s => match ops[i]? with
    | some o => bnd (wanted1M ops kn o s) fun y => bnd (op1M pr nt frz nest o y.1 y.2 s) fun s' => opsM nt frz nest ops r (y.2.drop o.dst) s'
    | none => failM
def opsDM (nt : Nat) (frz : List Nat) (nest : Bool) (ops : Array Oper) (bm : Array Nat) : List Nat → List (Nat × Lg) → Kn → S → Mo S
  | [], _, _, s => pureM s
  | i :: r, log, kn, s => match ops[i]? with
    | some o => bnd (wanted1M ops kn o s) fun y => bnd (optM (bif y.1 then touch pr o s else some ⟨[], false, bound o⟩)) fun t =>
        bnd (op1M pr nt frz nest o y.1 y.2 s) fun s' => bnd (mustM (clear bm i (mkLg pr frz o y.1 s.env t s.mem s'.mem) log)) fun _ =>
        opsDM nt frz nest ops bm r ((i, (mkLg pr frz o y.1 s.env t s.mem s'.mem)) :: log) (y.2.drop o.dst) s'
    | none => failM
def loopM (l : LoopQ) (s : S) : Mo Out := bnd (optM (thawS l.thaw s)) fun s1 => bnd (optM (normS l.live s1)) fun s2 => askM (.loop l s2)
def execM (f : FuncId) (nt : Nat) (frz : List Nat) (nest : Bool) : Ann → Code → S → Mo Out
  | .cut live a, c, s => seqP (live.map fun t => (t, s.env t)) fun l => execM f nt frz nest a c { s with env := ofE l }
  | .seq x y, .seq a b, s => bnd (execM f nt frz nest x a s) fun
    | .next s' => execM f nt frz nest y b s'
    | o => pureM o
  | .cond x y, .cond c a b, s => bnd (optM (arg s.env c)) fun
    | .t (.bool t) => bnd (brM t) fun t => bif t then execM f nt frz nest x a s else execM f nt frz nest y b s
    | _ => failM
  | .block x, .block id c, s => bnd (execM f nt frz nest x c s) fun
    | .exit id' s' => if id' = id then pureM (.next s') else pureM (.exit id' s')
    | o => pureM o
  | .loop live after rets thaw x, .loop c, s => loopM ⟨f, live, after, rets, thaw, x, c⟩ s
  | .n, .skip, s => pureM (.next s)
  | .n, .region _ ops false, s => bnd (opsM pr nt frz nest ops (List.range ops.size) [] s) fun s' => pureM (.next s')
  | .n, .region _ ops true, s => bif drawOk ops then bnd (opsDM pr nt frz nest ops (Region.before ops) (List.range ops.size) [] [] s) fun s' => pureM (.next s') else failM
  | .n, .exit id, s => pureM (.exit id s)
  | .n, .ret, s => pureM (.ret s)
  | _, _, _ => failM
def resM (P : Program) (M : Mem) (env : Nat → V) : List ResultVar → Mo (List V)
  | [] => pureM []
  | .tmp t :: r => bnd (resM P M env r) fun l => pureM (env t :: l)
  | .cell a t :: r => bnd (optM (aggT P t)) fun ag => bnd (optM (szT P t)) fun n => bnd (ldM M (env a) ag n) fun v => bnd (resM P M env r) fun l => pureM (v :: l)
def retM (pol : Pol) (fn : Func) (s : S) : Mo Out :=
  bnd (resM pr.P s.mem s.env fn.results.toList) fun vs =>
    bnd (bif pol.own then pureM (softR pol.soft (one vs), s.mem) else mvVM s.mem (softR pol.soft (one vs))) fun p => bnd (optM (norm s.k0 [p.1] p.2)) fun q => match q.1 with
      | [v] => pureM (.val v q.2)
      | _ => failM
def stepM : Q → Mo Out
  | .call f args H => bif !callable pr.P f then failM else match pr.prim f with
    | some p => bnd (optM (p args H)) fun q => pureM (.val q.1 q.2)
    | none => match pr.P.funcs[f]? with
    | some fn => bnd (optM fn.body) fun c => if args.length ≤ fn.ntmps then
        bnd (execM pr f fn.ntmps (pr.pol f).frz (pr.pol f).nest (pr.ann f) c ⟨ofArgs args, ofL H, H.length⟩) fun
          | .next s | .ret s => retM pr (pr.pol f) fn s
          | _ => failM
      else failM
    | none => failM
  | .loop l s => bnd (execM pr l.f (ntOf pr l.f) (pr.pol l.f).frz (pr.pol l.f).nest l.a l.c s) fun
    | .next s' => loopM l s'
    | .exit id s' => bnd (optM (normS l.after s')) fun s => pureM (.exit id s)
    | .ret s' => bnd (optM (normS l.rets s')) fun s => pureM (.ret s)
    | .val .. => failM
def tree (q : Q) : Fm := stepM pr q .ret
end
end Go.Ev

namespace Go.Ev
set_option linter.unusedVariables false
set_option linter.unusedSimpArgs false
variable {E : Q → Option Out}
def Sim (E : Q → Option Out) {α : Type} (m : Mo α) (x : Option α) : Prop := ∀ k r, interp E (m k) = some r → ∃ v, x = some v ∧ interp E (k v) = some r
section
variable {α β γ : Type}
theorem Sim.pure {a : α} {x : Option α} (h : x = some a) : Sim E (pureM a) x := fun k r hr => ⟨a, h, hr⟩
theorem Sim.fail {x : Option α} : Sim E failM x := fun k r hr => by cases hr
theorem Sim.sub {m : Mo α} {y : Option α} {f : α → Mo β} {x : Option β} (hm : Sim E m y) (h : ∀ a, y = some a → Sim E (f a) x) : Sim E (bnd m f) x := fun k r hr => by
  obtain ⟨a, ha, hk⟩ := hm _ r hr
  exact h a ha k r hk
theorem Sim.bind {m : Mo α} {y : Option α} {f : α → Mo β} {g : α → Option β} (hm : Sim E m y) (h : ∀ a, y = some a → Sim E (f a) (g a)) : Sim E (bnd m f) (y.bind g) :=
  hm.sub fun a ha => by rw [ha]; exact h a ha
theorem Sim.opt {o : Option α} : Sim E (optM o) o := fun k r hr => by
  cases o with
  | none => cases hr
  | some a => exact ⟨a, rfl, hr⟩
theorem Sim.map {m : Mo α} {y : Option α} {g : α → β} (hm : Sim E m y) : Sim E (bnd m fun a => pureM (g a)) (y.map g) := hm.sub fun a ha => .pure (by rw [ha]; rfl)
theorem Sim.must {b : Bool} {f : Unit → Mo β} {x : Option β} (h : b = true → Sim E (f ()) x) : Sim E (bnd (mustM b) f) x := fun k r hr => by
  cases b with
  | true => exact h rfl k r hr
  | false => cases hr
theorem Sim.nrm {t : Ty} {a : t.ty} {f : t.ty → Mo β} {x : Option β} (h : Sim E (f a) x) : Sim E (bnd (nrmM t a) f) x := fun k r hr => h k r hr
theorem Sim.get {t : Ty} {o : Option t.ty} {f : t.ty → Mo β} {x : Option β} (h : ∀ a, o = some a → Sim E (f a) x) : Sim E (bnd (getM t o) f) x := fun k r hr => by
  obtain ⟨a, ha, hk⟩ := Option.bind_eq_some_iff.1 (show (o.bind fun v => interp E (f v k)) = some r from hr)
  exact h a ha k r hk
theorem Sim.br {b : Bool} {f : Bool → Mo β} {x : Option β} (h : Sim E (f b) x) : Sim E (bnd (brM b) f) x := fun k r hr => h k r hr
theorem Sim.ask {q : Q} : Sim E (askM q) (E q) := fun k r hr => Option.bind_eq_some_iff.1 hr
theorem Sim.mapM {f : α → Mo β} {g : α → Option β} (h : ∀ a, Sim E (f a) (g a)) : ∀ l : List α, Sim E (mapMo f l) (l.mapM g)
  | [] => .pure rfl
  | a :: l => by
    rw [List.mapM_cons]
    exact (h a).bind fun b hb => (Sim.mapM h l).sub fun r hr => .pure (by rw [hr]; rfl)
end
theorem fz_sim {M : Mem} : ∀ (k : Nat) (v : V), Sim E (fzM M k v) (fz M k v)
  | 0, v => .fail
  | k + 1, v => by
    cases v with
    | t x => exact .pure rfl
    | vec id n sz off len =>
      simp only [fzM, fz]
      cases M id with
      | none => exact .fail
      | some ob =>
        cases ob with
        | vec fl sz' es =>
          dsimp only
          split
          · rename_i hs
            refine .must fun hb => .nrm (.pure ?_)
            have hb := of_decide_eq_true hb
            rw [if_pos ⟨hb.1, hs, hb.2⟩]
          · exact .fail
        | _ => exact .fail
    | row id n i j sz len =>
      simp only [fzM, fz]
      cases M id with
      | none => exact .fail
      | some ob =>
        cases ob with
        | vec fl s0 es =>
          refine .must fun hb => .get fun el he => ?_
          dsimp only
          rw [if_pos (of_decide_eq_true hb), he]
          simp only [Option.bind_some]
          cases el[j]? with
          | none => exact .fail
          | some c =>
            cases c with
            | t x => exact .fail
            | gone _ => exact .fail
            | row sz' r =>
              dsimp only
              split
              · rename_i hz
                refine .must fun hb2 => .pure ?_
                rw [if_pos ⟨hz, of_decide_eq_true hb2⟩]
              · exact .fail
        | _ => exact .fail
    | ptr id n i o =>
      simp only [fzM, fz]
      cases M id with
      | none => exact .fail
      | some ob =>
        cases ob with
        | box cs =>
          dsimp only
          split
          · exact (Sim.mapM (fun v => fz_sim (M := M) k v) _).map
          · exact .fail
        | vec fl sz' es =>
          refine .must fun hb => .get fun e he => .pure ?_
          dsimp only
          rw [if_pos (of_decide_eq_true hb), he]; rfl
        | dead => exact .fail
    | clo f caps => exact (Sim.mapM (fun v => fz_sim (M := M) k v) _).map
    | _ => exact .fail
theorem fz1_sim {M : Mem} (v : V) : Sim E (fz1M M v) (fz1 M v) := by
  cases v with
  | agg vs => exact (Sim.mapM (fun v => fz_sim (M := M) 16 v) _).map
  | _ => exact (fz_sim 16 _).map
theorem fzV_sim {M : Mem} (v : V) : Sim E (fzVM M v) (fzV M v) := by
  have k2 := fz1_sim (E := E) (M := M) v
  cases v with
  | tup vs => exact (Sim.mapM (fun v => fz1_sim (M := M) v) _).map
  | _ => exact k2
theorem mvV_sim {M : Mem} (v : V) : Sim E (mvVM M v) (mvV M v) := by
  refine (fzV_sim v).bind fun v' h => ?_
  cases v with
  | t x => exact .pure rfl
  | _ => exact (Sim.opt (E := E)).map
theorem rd_sim {M : Mem} {p : V} {k : Nat} : Sim E (rdM M p k) (rd M p k) := by
  unfold rdM rd
  cases p with
  | t x => cases x <;> first | exact .opt | exact .fail
  | ptr id n i o =>
    dsimp only
    cases M id with
    | none => exact .fail
    | some ob =>
      cases ob with
      | box cs =>
        dsimp only
        split
        · exact .opt
        · exact .fail
      | vec fl sz' es =>
        refine .must fun hb => .get fun e he => ?_
        dsimp only
        rw [if_pos (of_decide_eq_true hb), he]
        exact .opt
      | dead => exact .fail
  | rptr id n i j l e o =>
    dsimp only
    cases M id with
    | none => exact .fail
    | some ob =>
      cases ob with
      | vec fl sz' es =>
        refine .must fun hb => .get fun el he => ?_
        dsimp only
        rw [if_pos (of_decide_eq_true hb), he]
        simp only [Option.bind_some]
        cases el[j]? with
        | none => exact .fail
        | some c =>
          cases c with
          | t x => exact .fail
          | gone _ => exact .fail
          | row s r =>
            refine .must fun hl => .get fun g hg => ?_
            dsimp only
            rw [if_pos (of_decide_eq_true hl), hg]
            exact .opt
      | _ => exact .fail
  | _ => exact .fail
theorem rds_sim {M : Mem} {p : V} : ∀ n i, Sim E (rdsM M p i n) (rds M p i n)
  | 0, i => .pure rfl
  | n + 1, i => rd_sim.bind fun v _ => (rds_sim n (i + 1)).map
theorem ld_sim {M : Mem} {p : V} {ag : Bool} {n : Nat} : Sim E (ldM M p ag n) (ld M p ag n) := by
  unfold ldM ld
  cases ag with
  | false => exact rd_sim
  | true =>
    simp only [cond_true]
    cases n == 0 with
    | true => exact .fail
    | false => exact (rds_sim n 0).map
theorem asC_sim {m : Mo (V × Mem)} {y : Option (V × Mem)} (h : Sim E m y) : Sim E (bnd m asC) (y.bind fun | (.t x, M') => some (C.t x, M') | _ => none) := h.bind fun p _ => by
  obtain ⟨v, M'⟩ := p
  cases v <;> first | exact .pure rfl | exact .fail
theorem toC_sim {nest : Bool} {M : Mem} (v : V) : Sim E (toCM nest M v) (toC nest M v) := by
  cases v with
  | t x => exact .pure rfl
  | vec id n sz off len =>
    cases nest with
    | true => exact .fail
    | false =>
      have := asC_sim (mvV_sim (E := E) (M := M) (.vec id n sz off len))
      exact this
  | _ => exact asC_sim (mvV_sim _)
theorem toCs_sim {nest : Bool} : ∀ (vs : List V) (M : Mem), Sim E (toCsM nest M vs) (toCs nest M vs)
  | [], M => .pure rfl
  | v :: vs, M => (toC_sim v).bind fun p _ => (toCs_sim vs p.2).map
theorem toCss_sim {nest : Bool} : ∀ (vs : List (List V)) (M : Mem), Sim E (toCssM nest M vs) (toCss nest M vs)
  | [], M => .pure rfl
  | v :: vs, M => (toCs_sim v M).bind fun p _ => (toCss_sim vs p.2).map
theorem wr0_sim {nest : Bool} {M : Mem} {p : V} {k : Nat} {v : V} : Sim E (wr0M nest M p k v) (wr0 nest M p k v) := by
  unfold wr0M wr0
  cases p with
  | ptr id n i o =>
    dsimp only
    cases M id with
    | none => exact .fail
    | some ob =>
      cases ob with
      | box cs =>
        dsimp only
        split
        · rw [seqL_eq]; exact .pure rfl
        · exact .fail
      | vec fl0 sz0 es0 =>
        refine (toC_sim v).bind fun q _ => ?_
        obtain ⟨c, M1⟩ := q
        dsimp only
        cases M1 id with
        | none => exact .fail
        | some ob =>
          cases ob with
          | vec fl sz es =>
            refine .must fun hb => .get fun e he => ?_
            dsimp only
            rw [if_pos (of_decide_eq_true hb), he]
            dsimp only
            cases e[o + k]? with
            | none => exact .fail
            | some c' => cases c' <;> first | exact .nrm (.pure rfl) | exact .fail
          | _ => exact .fail
      | dead => exact .fail
  | _ => exact .fail
theorem wrN_sim {M : Mem} {id n i c id2 n2 sz2 off2 len2 : Nat} : Sim E (wrNM M id n i c id2 n2 sz2 off2 len2) (wrN M id n i c id2 n2 sz2 off2 len2) := by
  unfold wrNM wrN
  split
  · exact .fail
  cases M id2 with
  | none => exact .fail
  | some ob =>
    cases ob with
    | vec fl2 sz2' es2 =>
      dsimp only
      split
      · rename_i h1
        refine .must fun hb => ?_
        have hb := of_decide_eq_true hb
        rw [if_pos ⟨hb.1, h1.1, h1.2, hb.2⟩]
        cases M id with
        | none => exact .fail
        | some ob =>
          cases ob with
          | vec fl sz es =>
            refine .must fun hn => .get fun e he => ?_
            dsimp only
            rw [if_pos (of_decide_eq_true hn), he]
            dsimp only
            cases e[c]? with
            | none => exact .fail
            | some x =>
              cases x with
              | t _ => exact .nrm (.nrm (.pure rfl))
              | row _ _ => exact .fail
              | gone g => exact .must fun hg => .nrm (.nrm (.pure (by dsimp only [C.room]; rw [hg]; rfl)))
          | _ => exact .fail
      · exact .fail
    | _ => exact .fail
theorem wrR_sim {M : Mem} {id n i j l e o k : Nat} {v : V} : Sim E (wrRM M id n i j l e o k v) (wrR M id n i j l e o k v) := by
  unfold wrRM wrR
  split
  · refine (toC_sim v).bind fun q _ => ?_
    obtain ⟨c, M1⟩ := q
    dsimp only
    cases c with
    | row s r => exact .fail
    | gone _ => exact .fail
    | t x =>
      cases M1 id with
      | none => exact .fail
      | some ob =>
        cases ob with
        | vec fl sz es =>
          refine .must fun hn => .get fun el he => ?_
          dsimp only
          rw [if_pos (of_decide_eq_true hn), he]
          dsimp only
          cases el[j]? with
          | none => exact .fail
          | some c =>
            cases c with
            | t x => exact .fail
            | gone _ => exact .fail
            | row s r =>
              refine .get fun g hg => .must fun hl => .nrm (.pure ?_)
              dsimp only
              rw [hg]
              dsimp only
              rw [if_pos (of_decide_eq_true hl)]
        | _ => exact .fail
  · exact .fail
theorem wr_sim {nest : Bool} {M : Mem} {p : V} {k : Nat} {v : V} : Sim E (wrM nest M p k v) (wr nest M p k v) := by
  cases p with
  | rptr id n i j l e o =>
    have := wrR_sim (E := E) (M := M) (id := id) (n := n) (i := i) (j := j) (l := l) (e := e) (o := o) (k := k) (v := v)
    unfold wrM wr
    exact this
  | ptr id n i o =>
    cases v with
    | vec id2 n2 sz2 off2 len2 =>
      unfold wrM wr
      dsimp only
      cases nest && isVecO (M id) with
      | true => simp only [cond_true]; exact wrN_sim
      | false => simp only [cond_false]; exact wr0_sim
    | _ => unfold wrM wr; exact wr0_sim
  | _ => cases v <;> (unfold wrM wr; exact wr0_sim)
theorem wrs0_sim {nest : Bool} {p : V} : ∀ (vs : List V) (M : Mem) (i : Nat), Sim E (wrs0M nest M p i vs) (wrs nest M p i vs)
  | [], M, i => .pure rfl
  | v :: vs, M, i => wr_sim.bind fun M' _ => wrs0_sim vs M' (i + 1)
theorem tOf_map : ∀ {vs : List V} {ts : List T}, vs.mapM tOf = some ts → vs = ts.map V.t := fun h => mapM_T h
theorem wrs_wide {nest fl : Bool} {id n j sz : Nat} : ∀ (ts : List T) (k : Nat) (e : List C) (es : List (List C)) (M : Mem), M id = some (.vec fl sz es) → es.length = n → es[j]? = some e → k + ts.length = e.length → e.all C.isT = true →
    wrs nest M (.ptr id n j 0) k (ts.map V.t) = some (upd M id (some (.vec fl sz (es.set j (e.take k ++ ts.map C.t)))))
  | [], k, e, es, M, hM, hn, he, hk, ha => by
    have hk : k = e.length := by simpa using hk
    simp only [List.map_nil, wrs, List.append_nil, hk, List.take_length]
    have : es.set j e = es := by
      apply List.ext_getElem?
      intro i
      rw [List.getElem?_set]
      split
      · rename_i h; subst h
        have hj := (List.getElem?_eq_some_iff.1 he).1
        rw [if_pos hj, he]
      · rfl
    rw [this, ← hM]
    congr 1
    funext i
    unfold upd
    split
    · rename_i h; rw [h]
    · rfl
  | x :: ts, k, e, es, M, hM, hn, he, hk, ha => by
    have hlt : k < e.length := by simp at hk; omega
    obtain ⟨y, hy⟩ : ∃ y, e[k]? = some (C.t y) := by
      have hm : e[k]'hlt ∈ e := List.getElem_mem hlt
      have := List.all_eq_true.1 ha _ hm
      cases hx : e[k]'hlt with
      | t y => exact ⟨y, by rw [List.getElem?_eq_getElem hlt, hx]⟩
      | row s r => rw [hx] at this; cases this
      | gone _ => rw [hx] at this; cases this
    have hw : wr nest M (.ptr id n j 0) k (.t x) = some (upd M id (some (.vec fl sz (es.set j (e.set k (.t x)))))) := by
      show wr0 false M (.ptr id n j 0) k (.t x) = _
      unfold wr0
      simp only [hM, toC, Option.bind_some, if_pos hn, he, Nat.zero_add, hy, C.isT, Bool.and_true]
    simp only [List.map_cons, wrs, hw, Option.bind_some]
    have hj := (List.getElem?_eq_some_iff.1 he).1
    rw [wrs_wide ts (k + 1) (e.set k (.t x)) (es.set j (e.set k (.t x))) _ (upd_same ..) (by simpa using hn) (by rw [List.getElem?_set_self hj]) (by simp at hk ⊢; omega) (List.all_eq_true.2 fun c hc => by
      rcases List.mem_or_eq_of_mem_set hc with hc | rfl
      · exact List.all_eq_true.1 ha c hc
      · rfl)]
    congr 1
    have e1 : (e.set k (C.t x)).take (k + 1) ++ ts.map C.t = e.take k ++ C.t x :: ts.map C.t := by
      rw [List.take_add_one, List.take_set_of_le (Nat.le_refl k), List.getElem?_set_self hlt]
      simp
    rw [e1, List.set_set]
    funext i
    unfold upd
    split <;> rfl
theorem wrs_sim {nest : Bool} {p : V} (vs : List V) (M : Mem) : Sim E (wrsM nest M p vs) (wrs nest M p 0 vs) := by
  unfold wrsM
  split
  · rename_i id n j
    split
    · rename_i fl sz es ts hM hts
      refine .must fun hb => .get fun e he => ?_
      split
      · rename_i hc
        refine .nrm (.pure ?_)
        rw [tOf_map hts, wrs_wide ts 0 e es M hM (of_decide_eq_true hb) he (by omega) hc.2]
        simp
      · exact wrs0_sim _ _ _
    · exact wrs0_sim _ _ _
  · exact wrs0_sim _ _ _
theorem nrmV_sim {x : Option V} : Sim E (nrmV x) x := by
  unfold nrmV
  split
  · exact .nrm (.pure rfl)
  · exact .pure rfl
  · exact .fail
theorem bin_sim {P : Program} {op : BinOp} {t : TypeId} {x y : V} : Sim E (binM P op t x y) (bin P op t x y) := by
  unfold binM
  split
  · refine .must fun hb => .nrm (.pure ?_)
    simp only [bin, strBin]
    rw [if_pos (of_decide_eq_true hb)]; rfl
  · split
    · rename_i hk
      subst hk
      refine .must fun hb => .nrm (.pure ?_)
      have hb := of_decide_eq_true hb
      simp [bin, intBin, hb]
    · exact .fail
  · split
    · rename_i hk
      subst hk
      refine .must fun hb => .nrm (.pure ?_)
      have hb := of_decide_eq_true hb
      simp [bin, intBin, hb]
    · exact .fail
  · refine .must fun hb => .nrm (.pure ?_)
    have hb := of_decide_eq_true hb
    simp only [bin]
    rw [if_neg (by omega)]
    rfl
  · refine .must fun hb => .nrm (.pure ?_)
    have hb := of_decide_eq_true hb
    simp only [bin]
    rw [if_neg (by omega)]
    rfl
  · split
    · exact nrmV_sim
    · exact nrmV_sim
    · rename_i hx hx2
      refine .must fun hb => ?_
      have e : bin P op t x (.t .nils) = binN P op t := by
        have hb := of_decide_eq_true hb
        cases x with
        | t x =>
          cases x with
          | seq sz es => simp only [bin]; rw [if_pos hb]
          | nils => exact (hx rfl).elim
          | sn b => exact (hx2 b rfl).elim
          | _ => simp [lenN] at hb
        | vec => simp only [bin]; rw [if_pos hb]
        | row => simp only [bin]; rw [if_pos hb]
        | _ => simp [lenN] at hb
      rw [e]
      exact .opt
  · exact nrmV_sim
theorem binX_sim {P : Program} {op : BinOp} {t : TypeId} {oy : Operand} {x y : V} : Sim E (binXM P op t oy x y) (binX P op t oy x y) := by
  unfold binXM
  split
  · exact nrmV_sim
  · rename_i hne
    have e : binX P op t oy x y = bin P op t x y := by
      unfold binX
      split
      · exact absurd rfl (hne rfl)
      · rfl
    rw [e]
    exact bin_sim
theorem idxA_sim {sz : Nat} {x i : V} : Sim E (idxAM sz x i) (idxA sz x i) := by
  unfold idxAM idxA
  cases i with
  | t i =>
    cases i with
    | int k i =>
      dsimp only
      cases x with
      | t x =>
        cases x with
        | seq sz' es =>
          dsimp only
          split
          · rename_i hs
            refine .get fun e he => .pure ?_
            unfold lkp at he
            split at he
            · rename_i hi
              rw [if_pos hi, he]; rfl
            · cases he
          · exact .fail
        | _ => exact .fail
      | vec id n sz' off len =>
        dsimp only
        split
        · rename_i hs
          refine .must fun hb => .nrm (.pure ?_)
          have hb := of_decide_eq_true hb
          rw [if_pos hb.1, if_pos ⟨hs, hb.2⟩]
        · exact .fail
      | row id n a b sz' len =>
        dsimp only
        split
        · rename_i hs
          refine .must fun hb => .nrm (.pure ?_)
          have hb := of_decide_eq_true hb
          rw [if_pos hb.1, if_pos ⟨hs, hb.2⟩]
        · exact .fail
      | _ => exact .fail
    | _ => exact .fail
  | _ => exact .fail
theorem idxS_sim {x i : V} : Sim E (idxSM x i) (idxS x i) := by
  unfold idxSM idxS
  split
  · refine .get fun e he => .pure ?_
    unfold lkpS at he
    split at he
    · rename_i hi
      dsimp only
      rw [if_pos hi, he]; rfl
    · cases he
  · exact .fail
theorem natOr_of {d : Nat} {x : Option V} {n : Int} (h : intOr d x = some n) (h0 : 0 ≤ n) : natOr d x = some n.toNat := by
  unfold intOr at h
  split at h
  · obtain rfl := Option.some.inj h; simp [natOr]
  · obtain rfl := Option.some.inj h
    simp [natOr, natV, h0]
  · cases h
theorem sub_sim {sz : Nat} {x : V} {lo hi : Option V} : Sim E (subM sz x lo hi) (sub sz x lo hi) := by
  unfold subM sub
  split
  · refine Sim.opt.sub fun l hl => Sim.opt.sub fun h hh => .must fun hb => .nrm (.pure ?_)
    have hb := of_decide_eq_true hb
    dsimp only
    rw [natOr_of (d := 0) hl hb.1, Option.bind_some, natOr_of hh (by omega), Option.bind_some, if_pos ⟨by omega, by omega⟩]
  · refine Sim.opt.sub fun l hl => Sim.opt.sub fun h hh => .must fun hb => .pure ?_
    have hb := of_decide_eq_true hb
    dsimp only
    rw [natOr_of (d := 0) hl (by omega), Option.bind_some, natOr_of (d := 0) hh (by omega), Option.bind_some, if_pos ⟨by omega, by omega⟩]
  · split
    · rename_i hs
      refine Sim.opt.sub fun l hl => Sim.opt.sub fun h hh => .must fun hb => .nrm (.pure ?_)
      have hb := of_decide_eq_true hb
      dsimp only
      rw [natOr_of (d := 0) hl hb.1, Option.bind_some, natOr_of hh (by omega), Option.bind_some, if_pos ⟨hs, by omega, by omega⟩]
    · exact .fail
  · split
    · rename_i hs
      refine Sim.opt.sub fun l hl => Sim.opt.sub fun h hh => .must fun hb => .nrm (.nrm (.pure ?_))
      have hb := of_decide_eq_true hb
      dsimp only
      rw [natOr_of (d := 0) hl hb.1, Option.bind_some, natOr_of hh (by omega), Option.bind_some, if_pos ⟨hs, by omega, by omega⟩]
    · exact .fail
  · exact .fail
theorem mkLit_sim {nest : Bool} {nb : Nat} {M : Mem} {sz len : Nat} {z : List T} {ps : List (Nat × V)} : Sim E (mkLitM nest nb M sz len z ps) (mkLit nest nb M sz len z ps) := by
  unfold mkLitM mkLit
  split
  · exact Sim.opt.bind fun vs _ => (toCss_sim _ M).bind fun p _ => Sim.opt.map
  · exact .fail
theorem mvIn_sim {id : Nat} : ∀ (vs : List V) (j : Nat) (M : Mem), Sim E (mvInM id j vs M) (mvIn id j vs M)
  | [], j, M => .pure rfl
  | v :: vs, j, M => by
    cases v with
    | vec id2 n2 sz2 off2 len2 => exact wrN_sim.bind fun M' _ => mvIn_sim vs (j + 1) M'
    | _ => simp only [mvInM, mvIn]; exact mvIn_sim vs (j + 1) M
theorem mkLitN_sim {nest : Bool} {nb : Nat} {M : Mem} {sz len : Nat} {z : List T} {ps : List (Nat × V)} : Sim E (mkLitNM nest nb M sz len z ps) (mkLitN nest nb M sz len z ps) := by
  unfold mkLitNM mkLitN
  cases (bif nest then litOne sz len ps else none) with
  | none => exact mkLit_sim
  | some vs =>
    refine mkLit_sim.bind fun p _ => ?_
    obtain ⟨v, M1⟩ := p
    dsimp only
    rw [Option.map_eq_bind]
    exact (mvIn_sim vs 0 M1).bind fun M2 _ => .pure rfl
theorem mkMake_sim {nb : Nat} {M : Mem} {sz bytes : Nat} {z : List T} {l c : V} : Sim E (mkMakeM nb M sz bytes z l c) (mkMake nb M sz bytes z l c) := by
  unfold mkMakeM mkMake
  split
  · rename_i k n k' m
    split
    · rename_i hc
      refine .must fun hb => ?_
      have hb := of_decide_eq_true hb
      simp only [natV]
      rw [if_pos hb.1, Option.bind_some, if_pos (by omega), Option.bind_some, if_pos ⟨hc.1, hc.2.1, by omega, by unfold room; omega, hc.2.2⟩]
      exact .nrm (.nrm Sim.opt.map)
    · exact .fail
  · exact .fail
theorem src_sim {M : Mem} {sz : Nat} {x : V} : Sim E (srcM M sz x) (src M sz x) := by
  unfold srcM src
  split
  · exact .pure rfl
  · split
    · rename_i h; exact .pure (by first | (dsimp only; rw [if_pos h]; done) | rfl | (subst h; rfl))
    · exact .fail
  · exact .pure rfl
  · split
    · rename_i h; exact .pure (by first | (dsimp only; rw [if_pos h]; done) | rfl | (subst h; rfl))
    · exact .fail
  · rename_i id n sz' off len
    dsimp only
    cases M id with
    | none => exact .fail
    | some ob =>
      cases ob with
      | vec fl sz'' es =>
        dsimp only
        split
        · rename_i hc
          refine .must fun hb => .pure ?_
          have hb := of_decide_eq_true hb
          rw [if_pos ⟨hb.1, hc.1, hc.2.1, hb.2, hc.2.2⟩]
        · exact .fail
      | _ => exact .fail
  · exact .fail
theorem app0_sim {M : Mem} {sz id n len : Nat} {es xs : List (List C)} : Sim E (app0M M sz id n len es xs) (some (app0 M sz id n len es xs)) := by
  unfold app0M app0
  refine .br (.nrm ?_)
  by_cases h : len + xs.length ≤ n
  · rw [if_pos h, decide_eq_true h]
    exact .nrm (.pure rfl)
  · rw [if_neg h, decide_eq_false h]
    exact .nrm (.pure rfl)
theorem app_sim {nb : Nat} {M : Mem} {sz bytes : Nat} {s x : V} : Sim E (appM nb M sz bytes s x) (app nb M sz bytes s x) := by
  unfold appM app
  split
  · refine src_sim.bind fun xs _ => ?_
    split
    · refine .must fun hb => .nrm (.nrm ?_)
      dsimp only
      rw [if_pos (show xs.length ≤ room by unfold room; exact of_decide_eq_true hb)]
      exact Sim.opt.map
    · rename_i id n sz' off len
      dsimp only
      cases M id with
      | none => exact .fail
      | some ob =>
        cases ob with
        | vec fl' sz'' es =>
          dsimp only
          split
          · rename_i hc
            refine .must fun hb => ?_
            have hb := of_decide_eq_true hb
            rw [if_pos (show es.length = n ∧ sz' = sz ∧ sz'' = sz ∧ off + len ≤ n ∧ len + xs.length ≤ room ∧ fl' = true from ⟨hb.1, hc.1, hc.2.1, hb.2.1, by unfold room; exact hb.2.2, hc.2.2⟩)]
            by_cases h0 : off = 0
            · simp only [if_pos h0]; exact app0_sim
            · simp only [if_neg h0]
              refine .must fun hb2 => ?_
              rw [if_pos (of_decide_eq_true hb2)]
              refine Sim.opt.sub fun M2 h2 => ?_
              rw [h2]
              exact app0_sim
          · exact .fail
        | _ => exact .fail
    · rename_i id n i j sz' len
      dsimp only
      cases M id with
      | none => exact .fail
      | some ob =>
        cases ob with
        | vec fl' s0 es =>
          dsimp only
          split
          · rename_i hc
            refine .must fun hb => .get fun e he => ?_
            have hb := of_decide_eq_true hb
            rw [if_pos (show es.length = n ∧ sz' = sz ∧ 0 < len ∧ 0 < xs.length ∧ len + xs.length ≤ room from ⟨hb.1, hc, hb.2.1, hb.2.2.1, by unfold room; exact hb.2.2.2⟩), he]
            dsimp only
            cases e[j]? with
            | none => exact .fail
            | some c =>
              cases c with
              | t _ => exact .fail
              | gone _ => exact .fail
              | row sz'' r =>
                dsimp only
                split
                · rename_i hz
                  refine .must fun hb2 => .nrm (.nrm ?_)
                  rw [if_pos ⟨hz, of_decide_eq_true hb2⟩]
                  refine Sim.opt.sub fun M2 h2 => ?_
                  rw [h2]
                  exact app0_sim
                · exact .fail
          · exact .fail
        | _ => exact .fail
    · exact .fail
  · exact .fail
theorem appN_sim {M : Mem} {sz bytes id n len id2 : Nat} : Sim E (appNM M sz bytes id n len id2) (appN M sz bytes id n len id2) := by
  unfold appNM appN
  split
  · match M id2 with
    | some (.vec _ sz2 [e]) =>
      dsimp only
      match M id with
      | some (.vec _ sz1 es) =>
        dsimp only
        split
        · rename_i hc
          refine .must fun hb => ?_
          have hb := of_decide_eq_true hb
          rw [if_pos (show sz2 = sz ∧ sz1 = sz ∧ es.length = n ∧ len = n ∧ n + 1 ≤ room from ⟨hc.1, hc.2, hb.1, hb.2.1, by unfold room; exact hb.2.2⟩)]
          exact .nrm (.nrm (.pure rfl))
        · exact .fail
      | some (.box _) => exact .fail
      | some .dead => exact .fail
      | none => exact .fail
    | some (.vec _ _ []) => exact .fail
    | some (.vec _ _ (_ :: _ :: _)) => exact .fail
    | some (.box _) => exact .fail
    | some .dead => exact .fail
    | none => exact .fail
  · exact .fail
theorem appX_sim {nb : Nat} {M : Mem} {sz bytes : Nat} {s x : V} : Sim E (appXM nb M sz bytes s x) (appX nb M sz bytes s x) := by
  unfold appXM appX
  split
  · rename_i id n sz' off len id2 n2 sz2 off2 len2
    have key : ∀ b : Bool, Sim E (bif b then (bnd (mustM (decide (sz' = sz ∧ sz2 = sz ∧ off = 0 ∧ n2 = 1 ∧ off2 = 0 ∧ len2 = 1))) fun _ => appNM M sz bytes id n len id2) else appM nb M sz bytes (.vec id n sz' off len) (.vec id2 n2 sz2 off2 len2))
        (bif b then (if sz' = sz ∧ sz2 = sz ∧ off = 0 ∧ n2 = 1 ∧ off2 = 0 ∧ len2 = 1 then appN M sz bytes id n len id2 else none) else app nb M sz bytes (.vec id n sz' off len) (.vec id2 n2 sz2 off2 len2)) := fun b => by
      cases b
      · simp only [cond_false]; exact app_sim
      · simp only [cond_true]
        refine .must fun hb => ?_
        rw [if_pos (of_decide_eq_true hb)]
        exact appN_sim
    exact key _
  · split
    · rename_i hno
      exact False.elim (hno _ _ _ _ _ _ _ _ _ _ rfl rfl)
    · exact app_sim
theorem cpy_sim {M : Mem} {sz : Nat} {d x : V} : Sim E (cpyM M sz d x) (cpy M sz d x) := by
  unfold cpyM cpy
  cases d with
  | vec id n sz' off len =>
    dsimp only
    refine .br (Sim.opt.bind fun x' _ => src_sim.bind fun xs _ => ?_)
    cases M id with
    | none => exact .fail
    | some ob =>
      cases ob with
      | vec fl sz'' es =>
        dsimp only
        split
        · rename_i hc
          refine .must fun hb => .nrm (.nrm (.pure ?_))
          have hb := of_decide_eq_true hb
          rw [if_pos ⟨hc.1, hb.1, hc.2.1, hc.2.2.1, hb.2.1, hc.2.2.2, hb.2.2⟩]
        · exact .fail
      | _ => exact .fail
  | _ => exact .fail
theorem clr_sim {M : Mem} {sz : Nat} {z : List T} {x : V} : Sim E (clrM M sz z x) (clr M sz z x) := by
  unfold clrM clr
  split
  · rename_i id n sz' off len
    dsimp only
    cases M id with
    | none => exact .fail
    | some ob =>
      cases ob with
      | vec fl sz'' es =>
        dsimp only
        split
        · rename_i hc
          refine .must fun hb => .nrm (.pure ?_)
          have hb := of_decide_eq_true hb
          rw [if_pos ⟨hb.1, hc.1, hc.2.1, hb.2, hc.2.2.1, hc.2.2.2⟩]
        · exact .fail
      | _ => exact .fail
  · exact .fail
theorem prepM_sim : ∀ (vs : List V) (ms : List Mode) (M : Mem), Sim E (prepMM ms vs M) (prepM ms vs M)
  | [], ms, M => by cases ms with | nil => exact .pure rfl | cons m ms => cases m <;> exact .pure rfl
  | v :: vs, ms, M => by
    cases ms with
    | nil => exact (prepM_sim vs _ M).map
    | cons m ms =>
      cases m with
      | move => exact (mvV_sim v).bind fun p _ => (prepM_sim vs ms p.2).map
      | pass => exact (prepM_sim vs ms M).map
      | borrow => exact (prepM_sim vs ms M).map
theorem prepB_sim {M : Mem} : ∀ (vs : List V) (ms : List Mode), Sim E (prepBM M ms vs) (prepB M ms vs)
  | [], ms => by cases ms with | nil => exact .pure rfl | cons m ms => cases m <;> exact .pure rfl
  | v :: vs, ms => by
    cases ms with
    | nil => exact (prepB_sim vs _).map
    | cons m ms =>
      cases m with
      | borrow => exact (fzV_sim v).bind fun p _ => (prepB_sim vs ms).map
      | pass => exact (prepB_sim vs ms).map
      | move => exact (prepB_sim vs ms).map
theorem merge_sim {L : List Nat} {nb : Nat} {B : List Nat} {M : Mem} {out : Out} : Sim E (mergeM L nb B M out) (merge L nb B M out) := by
  unfold mergeM merge
  cases out with
  | val v H =>
    dsimp only
    have key : (B.isEmpty = true ∨ (v.flat && H.all Ob.flat) = true) → Sim E (bnd (optM (putL (back L nb) M L H)) fun p => if p.2.length ≤ 8 then bnd (optM (putNew (back L nb) p.1 nb p.2)) fun M2 => pureM (v.ren (back L nb), M2) else failM)
        (if B.isEmpty = true ∨ (v.flat && H.all Ob.flat) = true then (putL (back L nb) M L H).bind fun (M1, new) => if new.length ≤ 8 then (putNew (back L nb) M1 nb new).map fun M2 => (v.ren (back L nb), M2) else none else none) := fun h => by
      rw [if_pos h]
      refine Sim.opt.bind fun p _ => ?_
      obtain ⟨M1, new⟩ := p
      dsimp only
      split
      · exact Sim.opt.map
      · exact .fail
    cases hB : B.isEmpty with
    | true => rw [hB] at key; exact (Sim.pure (a := ()) (x := some ()) rfl).sub fun _ _ => key (.inl rfl)
    | false => rw [hB] at key; exact .must fun hb => key (.inr hb)
  | _ => exact .fail
theorem callE_sim {pr : Pr} {f : FuncId} {args : List V} {M : Mem} {nb : Nat} : Sim E (callEM pr f args M nb) (callE pr E f args M nb fun v M => some (v, M)) := by
  unfold callEM callE
  refine (prepM_sim _ _ M).bind fun p _ => (prepB_sim p.1 _).bind fun q _ => Sim.opt.bind fun B _ => Sim.opt.bind fun L _ => ?_
  dsimp only
  cases B.all (fun i => !L.contains i) with
  | false => exact .fail
  | true =>
    simp only [cond_true]
    refine Sim.ask.bind fun out _ => ?_
    have : (merge L nb B p.2 out) = (merge L nb B p.2 out).bind fun x => some (x.1, x.2) := by cases merge L nb B p.2 out <;> rfl
    rw [← this]
    exact merge_sim
theorem callV_sim {pr : Pr} {fv : V} {args : List V} {M : Mem} {nb : Nat} : Sim E (callVM pr fv args M nb) (callV pr E fv args M nb fun v M => some (v, M)) := by
  unfold callVM callV
  split <;> first | exact callE_sim | exact .fail
def Kn.ok (kn : Kn) (env : Nat → V) : Prop := ∀ p ∈ kn, env p.1 = .t (.bool p.2)
theorem kn_at {kn : Kn} {env : Nat → V} (h : kn.ok env) {t : Nat} {v : Bool} (ha : kn.at t = some v) : env t = .t (.bool v) := by
  induction kn with
  | nil => cases ha
  | cons p kn ih =>
    obtain ⟨x, y⟩ := p
    simp only [Kn.at] at ha
    split at ha
    · rename_i e
      obtain rfl := Option.some.inj ha
      subst e
      exact h (x, y) (by simp)
    · exact ih (fun q hq => h q (by simp [hq])) ha
theorem opM_sim {pr : Pr} {nest : Bool} {kn : Kn} {o : Oper} {s : S} (hk : kn.ok s.env) : Sim E (opM pr nest kn o s) (opK pr E nest o s fun v M => some (v, M)) := by
  have eta : ∀ {y : Option (V × Mem)}, (y.bind fun x => some (x.1, x.2)) = y := fun {y} => by cases y <;> rfl
  obtain ⟨dst, op, type, pos, after, guard⟩ := o
  unfold opM opK
  cases op <;> dsimp only
  case move x => exact Sim.opt.bind fun v _ => .pure rfl
  case assign x => exact Sim.opt.bind fun v _ => .pure rfl
  case pick c a b =>
    refine Sim.opt.sub fun va ha => Sim.opt.sub fun vb hb => ?_
    rw [ha, hb]
    cases hg : kget kn c with
    | some y =>
      cases c with
      | tmp t =>
        have : arg s.env (.tmp t) = some (.t (.bool y)) := congrArg some (kn_at hk hg)
        rw [this]
        exact .pure rfl
      | _ => cases hg
    | none =>
      refine Sim.opt.bind fun c _ => ?_
      cases c with
      | t x => cases x <;> first | exact .br (.pure rfl) | exact .fail
      | _ => exact .fail
  case alloc t => exact Sim.opt.bind fun z _ => by rw [eta]; exact .opt
  case box t x => exact Sim.opt.bind fun z _ => by rw [eta]; exact .opt
  case build t ps =>
    cases !structOk pr.P t with
    | true => exact .fail
    | false => exact Sim.opt.bind fun ps _ => Sim.opt.bind fun z _ => Sim.opt.bind fun vs _ => .pure rfl
  case buildSlice t n ps => exact Sim.opt.bind fun ps _ => Sim.opt.bind fun e _ => Sim.opt.bind fun sz _ => Sim.opt.bind fun z _ => by rw [eta]; exact mkLitN_sim
  case load t a => exact Sim.opt.bind fun p _ => Sim.opt.bind fun ag _ => Sim.opt.bind fun n _ => ld_sim.bind fun v _ => .pure rfl
  case store t a x =>
    refine Sim.opt.bind fun p _ => Sim.opt.bind fun v _ => Sim.opt.bind fun n _ => ?_
    split
    · exact (wrs_sim _ _).bind fun M' _ => .pure rfl
    · exact .fail
  case nilCheck x => exact Sim.opt.bind fun v _ => Sim.opt.bind fun v _ => .pure rfl
  case binOp op t x y _ => exact Sim.opt.bind fun a _ => Sim.opt.bind fun b _ => binX_sim.bind fun v _ => .pure rfl
  case unOp op t x => exact Sim.opt.bind fun a _ => nrmV_sim.bind fun v _ => .pure rfl
  case convert src dst x => exact Sim.opt.bind fun a _ => nrmV_sim.bind fun v _ => .pure rfl
  case makeFunc fn first captured =>
    cases fn with
    | func f =>
      dsimp only
      split
      · refine Sim.opt.bind fun vs _ => ?_
        cases vs.mapM tOf <;> exact .pure rfl
      · exact .fail
    | _ => exact .fail
  case makeSlice t l c => exact Sim.opt.bind fun l _ => Sim.opt.bind fun c _ => Sim.opt.bind fun e _ => Sim.opt.bind fun sz _ => Sim.opt.bind fun z _ => Sim.opt.bind fun i _ => by rw [eta]; exact mkMake_sim
  case slice t x lo hi mx =>
    refine Sim.opt.bind fun v _ => Sim.opt.bind fun lo _ => Sim.opt.bind fun hi _ => Sim.opt.bind fun mx _ => ?_
    cases hmx : (maxOk v mx && (mx.isNone || hi.isSome)) with
    | false =>
      cases mx with
      | none => simp [maxOk] at hmx
      | some m => exact .must fun hb => by cases hb
    | true =>
      simp only [Bool.not_true, cond_false]
      refine Sim.sub (y := some ()) ?_ fun _ _ => ?_
      · cases mx with
        | none => exact .pure rfl
        | some m => exact fun k r hr => ⟨(), rfl, hr⟩
      · cases pr.P.underlying t with
        | none => exact .fail
        | some ty =>
          cases ty with
          | slice e =>
            cases v with
            | t x => cases x <;> first | exact .fail | exact Sim.opt.bind fun sz _ => sub_sim.bind fun v _ => .pure rfl
            | _ => exact Sim.opt.bind fun sz _ => sub_sim.bind fun v _ => .pure rfl
          | string =>
            cases v with
            | t x => cases x <;> first | exact .fail | exact sub_sim.bind fun v _ => .pure rfl
            | _ => exact .fail
          | _ => exact .fail
  case fieldAddr t x f =>
    refine Sim.opt.bind fun p _ => Sim.opt.bind fun fi _ => ?_
    split
    · exact .fail
    · exact Sim.opt.bind fun v _ => .pure rfl
  case field t x f => exact Sim.opt.bind fun p _ => Sim.opt.bind fun fi _ => Sim.opt.bind fun v _ => .pure rfl
  case indexAddr t x i =>
    refine Sim.opt.bind fun x _ => Sim.opt.bind fun i _ => Sim.opt.bind fun e _ => Sim.opt.bind fun sz _ => ?_
    split
    · exact .fail
    · exact idxA_sim.bind fun v _ => .pure rfl
  case index t x i =>
    refine Sim.opt.bind fun x _ => Sim.opt.bind fun i _ => ?_
    cases pr.P.underlying t with
    | none => exact .fail
    | some ty => cases ty <;> first | exact .fail | exact idxS_sim.bind fun v _ => .pure rfl
  case extract x i => exact Sim.opt.bind fun x _ => Sim.opt.bind fun v _ => .pure rfl
  case call c =>
    cases hce : c.callee with
    | builtin b =>
      cases b <;> first | exact .fail | skip
      case len =>
        refine Sim.opt.bind fun vs _ => ?_
        cases (c.argTypes[0]?).bind pr.P.underlying with
        | none =>
          match vs with
          | [] => exact .fail
          | [v] => cases v with
            | t x => cases x <;> exact .fail
            | _ => exact .fail
          | v :: _ :: _ => cases v with
            | t x => cases x <;> exact .fail
            | _ => exact .fail
        | some ty =>
          match vs with
          | [] => cases ty <;> exact .fail
          | [v] => cases v with
            | t x => cases x <;> cases ty <;> first | exact .fail | exact nrmV_sim.bind fun v _ => .pure rfl
            | _ => cases ty <;> first | exact .fail | exact nrmV_sim.bind fun v _ => .pure rfl
          | v :: _ :: _ => cases v with
            | t x => cases x <;> cases ty <;> exact .fail
            | _ => cases ty <;> exact .fail
      case append =>
        refine Sim.opt.bind fun vs _ => ?_
        match vs, c.argTypes[0]?, c.argTypes[1]? with
        | [a, b], some t, some u =>
          have key : Sim E (bnd (optM (elemT pr.P t)) fun e => bnd (optM (szT pr.P e)) fun sz => bnd (optM (pr.P.info? e)) fun i => bnd (optM (zeroT pr.P e)) fun z =>
              if z.length = sz then appXM (1000 + 8 * dst.getD 0) s.mem sz i.bytes a b else failM)
            ((elemT pr.P t).bind fun e => (szT pr.P e).bind fun sz => (pr.P.info? e).bind fun i => (zeroT pr.P e).bind fun z =>
              if z.length = sz then (appX (1000 + 8 * dst.getD 0) s.mem sz i.bytes a b).bind fun x => some (x.1, x.2) else none) := by
            refine Sim.opt.bind fun e _ => Sim.opt.bind fun sz _ => Sim.opt.bind fun i _ => Sim.opt.bind fun z _ => ?_
            by_cases hz : z.length = sz
            · simp only [if_pos hz]; rw [eta]; exact appX_sim
            · simp only [if_neg hz]; exact .fail
          dsimp only
          cases pr.P.underlying u with
          | none => exact .fail
          | some ty => cases ty <;> first | exact .fail | exact key
        | [], _, _ => exact .fail
        | [_], _, _ => exact .fail
        | _ :: _ :: _ :: _, _, _ => exact .fail
        | [_, _], none, _ => exact .fail
        | [_, _], some _, none => exact .fail
      case clear =>
        refine Sim.opt.bind fun vs _ => ?_
        match vs, c.argTypes[0]? with
        | [a], some t => exact Sim.opt.bind fun e _ => Sim.opt.bind fun sz _ => Sim.opt.bind fun z _ => clr_sim.bind fun M' _ => .pure rfl
        | [], _ => exact .fail
        | _ :: _ :: _, _ => exact .fail
        | [_], none => exact .fail
      case copy =>
        refine Sim.opt.bind fun vs _ => ?_
        match vs, c.argTypes[0]? with
        | [a, b], some t => exact Sim.opt.bind fun e _ => Sim.opt.bind fun sz _ => cpy_sim.bind fun q _ => .pure rfl
        | [], _ => exact .fail
        | [_], _ => exact .fail
        | _ :: _ :: _ :: _, _ => exact .fail
        | [_, _], none => exact .fail
      case max => exact Sim.opt.bind fun vs _ => nrmV_sim.bind fun v _ => .pure rfl
      case min => exact Sim.opt.bind fun vs _ => nrmV_sim.bind fun v _ => .pure rfl
    | value x =>
      cases x with
      | func f => exact Sim.opt.bind fun vs _ => callE_sim
      | _ => exact Sim.opt.bind fun fv _ => Sim.opt.bind fun vs _ => callV_sim
    | invoke r m => exact .fail
  all_goals exact .fail
end Go.Ev

namespace Go.Ev
set_option linter.unusedVariables false
set_option linter.unusedSimpArgs false
variable {E : Q → Option Out}
section
variable {pr : Pr} {frz : List Nat} {nest : Bool} {nt : Nat} {ops : Array Oper}
theorem fin_sim {o : Oper} {s : S} {p : V × Mem} : Sim E (finM nt o s p) (fin nt o s p.1 p.2 some) := by
  unfold finM fin
  cases o.dst with
  | none => exact .pure rfl
  | some d =>
    dsimp only
    by_cases h : d < nt
    · rw [if_pos h, if_pos h, seqV_eq]; exact .pure rfl
    · rw [if_neg h, if_neg h]; exact .fail
theorem opF_sim {kn : Kn} {o : Oper} {s : S} (hk : kn.ok s.env) : Sim E (opFM pr frz nest kn o s) (opFK pr E frz nest o s fun v M => some (v, M)) := by
  unfold opFM opFK
  cases (o.dst.any fun d => frz.contains d) with
  | false => exact opM_sim hk
  | true =>
    simp only [cond_true]
    rw [opK_bind]
    refine (opM_sim hk).bind fun p _ => (mvV_sim p.1).bind fun q _ => Sim.opt.bind fun L _ => ?_
    cases L.all (fun id => bound o ≤ id && id < bound o + 8) with
    | false => exact .fail
    | true => exact .pure rfl
def SimK (E : Q → Option Out) (env : Nat → V) (m : Mo (Bool × Kn)) (x : Option Bool) : Prop := ∀ k r, interp E (m k) = some r → ∃ y kn, x = some y ∧ Kn.ok kn env ∧ interp E (k (y, kn)) = some r
theorem SimK.sub {env : Nat → V} {β : Type} {m : Mo (Bool × Kn)} {x : Option Bool} {f : Bool × Kn → Mo β} {y : Option β} (h : SimK E env m x) (hf : ∀ b kn, x = some b → Kn.ok kn env → Sim E (f (b, kn)) y) : Sim E (bnd m f) y := fun k r hr => by
  obtain ⟨b, kn, h1, h2, h3⟩ := h _ r hr
  exact hf b kn h1 h2 k r h3
theorem wanted1_sim {kn : Kn} {o : Oper} {s : S} (hk : kn.ok s.env) : SimK E s.env (wanted1M ops kn o s) (wanted1 ops o s) := by
  unfold wanted1M wanted1
  cases o.guard with
  | none => exact fun k r hr => ⟨true, kn, rfl, hk, hr⟩
  | some g =>
    obtain ⟨j, b⟩ := g
    unfold wantM wantV
    dsimp only
    cases (ops[j]?).bind (·.dst) with
    | none => exact fun k r hr => by cases hr
    | some t =>
      dsimp only
      cases hv : kn.at t with
      | some v => rw [kn_at hk hv]; exact fun k r hr => ⟨v == b, kn, rfl, hk, hr⟩
      | none =>
        dsimp only
        cases he : s.env t with
        | t x =>
          cases x with
          | bool c =>
            refine fun k r hr => ⟨c == b, (t, c) :: kn, rfl, fun p hp => ?_, hr⟩
            rcases List.mem_cons.1 hp with rfl | hp
            · exact he
            · exact hk p hp
          | _ => exact fun k r hr => by cases hr
        | tup vs =>
          cases vs with
          | nil => exact fun k r hr => ⟨false, kn, rfl, hk, hr⟩
          | cons x y => exact fun k r hr => by cases hr
        | _ => exact fun k r hr => by cases hr
theorem op1_sim {kn : Kn} {o : Oper} {s : S} {y : Bool} (hk : kn.ok s.env) (hw : wanted1 ops o s = some y) : Sim E (op1M pr nt frz nest o y kn s) (op1K pr E nt frz nest ops o s some) := by
  unfold op1M op1K
  unfold wanted1 at hw
  cases hg : o.guard with
  | none =>
    rw [hg] at hw
    obtain rfl := Option.some.inj hw
    dsimp only
    rw [opFK_bind]
    exact (opF_sim hk).bind fun p _ => fin_sim
  | some g =>
    obtain ⟨j, b⟩ := g
    rw [hg] at hw
    dsimp only at hw ⊢
    rw [hw, Option.bind_some]
    cases y with
    | true => exact (opF_sim hk).bind fun p _ => fin_sim
    | false => exact fin_sim (p := (.tup [], s.mem))
theorem drop_ok {kn : Kn} {o : Oper} {s s' : S} (hk : kn.ok s.env) (h : op1K pr E nt frz nest ops o s some = some s') : (kn.drop o.dst).ok s'.env := by
  have key : ∀ v M, fin nt o s v M some = some s' → (kn.drop o.dst).ok s'.env := fun v M hf => by
    unfold fin at hf
    unfold Kn.drop
    cases hd : o.dst with
    | none => rw [hd] at hf; obtain rfl := Option.some.inj hf; exact hk
    | some d =>
      rw [hd] at hf
      dsimp only at hf ⊢
      split at hf
      · obtain rfl := Option.some.inj hf
        intro p hp
        rw [List.mem_filter] at hp
        have hne : p.1 ≠ d := by simpa using hp.2
        show upd s.env d v p.1 = _
        rw [upd_ne _ _ hne]
        exact hk p hp.1
      · cases hf
  unfold op1K at h
  split at h
  · rw [opFK_bind] at h
    obtain ⟨p, _, h⟩ := Option.bind_eq_some_iff.1 h
    exact key _ _ h
  · obtain ⟨y, _, h⟩ := Option.bind_eq_some_iff.1 h
    obtain ⟨p, _, h⟩ := Option.bind_eq_some_iff.1 h
    exact key _ _ h
theorem ops_sim : ∀ (l : List Nat) (kn : Kn) (s : S), kn.ok s.env → Sim E (opsM pr nt frz nest ops l kn s) (opsK pr E nt frz nest ops l s some)
  | [], kn, s, _ => .pure rfl
  | i :: r, kn, s, hk => by
    simp only [opsM, opsK]
    cases ops[i]? with
    | none => exact .fail
    | some o =>
      dsimp only
      rw [op1K_bind]
      exact (wanted1_sim hk).sub fun y kn' hy hk' => (op1_sim hk' hy).bind fun s' hs => ops_sim r _ s' (drop_ok hk' hs)
theorem opsD_sim {bm : Array Nat} : ∀ (l : List Nat) (log : List (Nat × Lg)) (kn : Kn) (s : S), kn.ok s.env → Sim E (opsDM pr nt frz nest ops bm l log kn s) (opsD pr E nt frz nest ops bm l log s some)
  | [], log, kn, s, _ => .pure rfl
  | i :: r, log, kn, s, hk => by
    simp only [opsDM, opsD]
    cases ops[i]? with
    | none => exact .fail
    | some o =>
      dsimp only
      refine (wanted1_sim hk).sub fun y kn' hy hk' => ?_
      rw [hy, Option.bind_some]
      refine Sim.opt.bind fun t _ => ?_
      rw [op1K_bind]
      refine (op1_sim hk' hy).bind fun s' hs => .must fun hc => ?_
      rw [hc]
      exact opsD_sim r _ _ s' (drop_ok hk' hs)
theorem loop_sim {l : LoopQ} {s : S} : Sim E (loopM l s) (loopE E l s) := Sim.opt.bind fun s1 _ => Sim.opt.bind fun s2 _ => .ask
theorem exec_sim {f : FuncId} : ∀ (x : Ann) (c : Code) (s : S), Sim E (execM pr f nt frz nest x c s) (exec pr E f nt frz nest x c s some)
  | .cut live x, c, s => by simp only [execM, exec, seqP_eq]; exact exec_sim x c _
  | .seq x y, c, s => by
    cases c <;> simp only [execM, exec] <;> first | exact .fail | skip
    rename_i a b
    rw [exec_bind pr E f nt frz nest x a s Out]
    refine (exec_sim x a s).bind fun o _ => ?_
    cases o <;> first | exact .pure rfl | exact exec_sim y b _
  | .cond x y, c, s => by
    cases c <;> simp only [execM, exec] <;> first | exact .fail | skip
    rename_i c a b
    refine Sim.opt.bind fun v _ => ?_
    cases v with
    | t v =>
      cases v with
      | bool t =>
        refine .br ?_
        cases t with
        | true => exact exec_sim x a s
        | false => exact exec_sim y b s
      | _ => exact .fail
    | _ => exact .fail
  | .block x, c, s => by
    cases c <;> simp only [execM, exec] <;> first | exact .fail | skip
    rename_i id c
    rw [exec_bind pr E f nt frz nest x c s Out]
    refine (exec_sim x c s).bind fun o _ => ?_
    cases o with
    | exit id' s' =>
      dsimp only
      by_cases h : id' = id
      · rw [if_pos h, if_pos h]; exact .pure rfl
      · rw [if_neg h, if_neg h]; exact .pure rfl
    | _ => exact .pure rfl
  | .loop live after rets thaw x, c, s => by
    cases c <;> simp only [execM, exec] <;> first | exact .fail | skip
    rename_i c
    have : ((loopE E ⟨f, live, after, rets, thaw, x, c⟩ s).bind some) = loopE E ⟨f, live, after, rets, thaw, x, c⟩ s := by cases loopE E ⟨f, live, after, rets, thaw, x, c⟩ s <;> rfl
    rw [this]
    exact loop_sim
  | .n, c, s => by
    cases c with
    | region id ops draw =>
      cases draw with
      | false => simp only [execM, exec]; rw [opsK_bind]; exact (ops_sim _ _ _ (fun p hp => by cases hp)).bind fun s' _ => .pure rfl
      | true =>
        simp only [execM, exec]
        cases drawOk ops with
        | false => exact .fail
        | true => simp only [cond_true]; rw [opsD_bind]; exact (opsD_sim _ _ _ _ (fun p hp => by cases hp)).bind fun s' _ => .pure rfl
    | _ => first | exact .fail | (simp only [execM, exec]; exact .pure rfl)
theorem res_sim {P : Program} {M : Mem} {env : Nat → V} : ∀ rs : List ResultVar, Sim E (resM P M env rs) (resV P M env rs)
  | [] => .pure rfl
  | .tmp t :: r => (res_sim r).map
  | .cell a t :: r => Sim.opt.bind fun ag _ => Sim.opt.bind fun n _ => ld_sim.bind fun v _ => (res_sim r).map
theorem ret_sim {pol : Pol} {fn : Func} {s : S} : Sim E (retM pr pol fn s) (retK pr pol fn s) := by
  unfold retM retK
  refine (res_sim _).bind fun vs _ => ?_
  have key : Sim E (bif pol.own then pureM (softR pol.soft (one vs), s.mem) else mvVM s.mem (softR pol.soft (one vs))) (bif pol.own then some (softR pol.soft (one vs), s.mem) else mvV s.mem (softR pol.soft (one vs))) := by
    cases pol.own with
    | true => exact .pure rfl
    | false => exact mvV_sim _
  refine key.bind fun p _ => Sim.opt.bind fun q _ => ?_
  obtain ⟨vs, H⟩ := q
  dsimp only
  match vs with
  | [] => exact .fail
  | [v] => exact .pure rfl
  | _ :: _ :: _ => exact .fail
theorem step_sim : ∀ q : Q, Sim E (stepM pr q) (step pr E q)
  | .call f args H => by
    simp only [stepM, step]
    cases !callable pr.P f with
    | true => exact .fail
    | false =>
      simp only [cond_false]
      cases pr.prim f with
      | some p => exact Sim.opt.map
      | none =>
        dsimp only
        cases pr.P.funcs[f]? with
        | none => exact .fail
        | some fn =>
          refine Sim.opt.bind fun c _ => ?_
          by_cases h : args.length ≤ fn.ntmps
          · rw [if_pos h, if_pos h, exec_bind]
            refine (exec_sim _ _ _).bind fun o _ => ?_
            cases o <;> first | exact ret_sim | exact .fail
          · rw [if_neg h, if_neg h]; exact .fail
  | .loop l s => by
    simp only [stepM, step]
    rw [exec_bind]
    refine (exec_sim _ _ _).bind fun o _ => ?_
    cases o with
    | next s' => exact loop_sim
    | exit id s' => exact Sim.opt.map
    | ret s' => exact Sim.opt.map
    | val _ _ => exact .fail
theorem tree_sim {q : Q} {o : Out} (h : interp E (tree pr q) = some o) : step pr E q = some o := by
  obtain ⟨v, h1, h2⟩ := step_sim q .ret o h
  rw [h1]; exact h2
end
inductive Tr where
  | b (b v : Bool)
  | m (b : Bool)
  | n (t : Ty) (x y : t.ty)
  | g (t : Ty) (x : Option t.ty) (y : t.ty)
  | a (q : Q) (o : Out)
def Tr.says (E : Q → Option Out) : Tr → Prop
  | .b c v => c = v
  | .m c => c = true
  | .n _ x y => x = y
  | .g _ x y => x = some y
  | .a q o => E q = some o
def chk : Fm → List Tr → Out → Prop
  | .ret o, [], r => o = r
  | .br b k, .b b' v :: l, r => b = b' ∧ chk (k v) l r
  | .must b k, .m b' :: l, r => b = b' ∧ chk k l r
  | .nrm t x k, .n t' x' y :: l, r => if h : t' = t then x = h ▸ x' ∧ chk (k (h ▸ y)) l r else False
  | .get t x k, .g t' x' y :: l, r => if h : t' = t then x = h ▸ x' ∧ chk (k (h ▸ y)) l r else False
  | .ask q k, .a q' o :: l, r => q = q' ∧ chk (k o) l r
  | _, _, _ => False
def good : List Tr → Out → Prop
  | [], r => r = r
  | .b b v :: l, r => b = b ∧ good l r
  | .m b :: l, r => b = b ∧ good l r
  | .n _ x y :: l, r => x = x ∧ good l r
  | .g _ x y :: l, r => x = x ∧ good l r
  | .a q o :: l, r => q = q ∧ good l r
theorem good_ok : ∀ (l : List Tr) (r : Out), good l r
  | [], r => rfl
  | .b b v :: l, r => ⟨rfl, good_ok l r⟩
  | .m b :: l, r => ⟨rfl, good_ok l r⟩
  | .n _ x y :: l, r => ⟨rfl, good_ok l r⟩
  | .g _ x y :: l, r => ⟨rfl, good_ok l r⟩
  | .a q o :: l, r => ⟨rfl, good_ok l r⟩
theorem chk_sound : ∀ (F : Fm) (l : List Tr) (r : Out), chk F l r → (∀ x ∈ l, x.says E) → interp E F = some r := by
  intro F
  induction F with
  | fail => intro l r h _; cases l <;> exact h.elim
  | ret o => intro l r h _; cases l with | nil => exact congrArg some h | cons x l => cases x <;> exact h.elim
  | ask q k ih =>
    intro l r h hs
    cases l with
    | nil => exact h.elim
    | cons x l =>
      cases x with
      | a q' o =>
        obtain ⟨rfl, h⟩ := h
        have : E q = some o := hs (.a q o) (by simp)
        simp only [interp, this, Option.bind_some]
        exact ih o l r h fun x hx => hs x (by simp [hx])
      | _ => exact h.elim
  | br b k ih =>
    intro l r h hs
    cases l with
    | nil => exact h.elim
    | cons x l =>
      cases x with
      | b b' v =>
        obtain ⟨rfl, h⟩ := h
        have : b = v := hs (.b b v) (by simp)
        simp only [interp]
        rw [this]
        exact ih v l r h fun x hx => hs x (by simp [hx])
      | _ => exact h.elim
  | must b k ih =>
    intro l r h hs
    cases l with
    | nil => exact h.elim
    | cons x l =>
      cases x with
      | m b' =>
        obtain ⟨rfl, h⟩ := h
        have : b = true := hs (.m b) (by simp)
        simp only [interp, this, cond_true]
        exact ih l r h fun x hx => hs x (by simp [hx])
      | _ => exact h.elim
  | nrm t x k ih =>
    intro l r h hs
    cases l with
    | nil => exact h.elim
    | cons y l =>
      cases y with
      | n t' x' y =>
        simp only [chk] at h
        split at h
        · rename_i ht
          subst ht
          obtain ⟨rfl, h⟩ := h
          have : x = y := hs (.n _ x y) (by simp)
          simp only [interp]
          rw [this]
          exact ih y l r h fun x hx => hs x (by simp [hx])
        · exact h.elim
      | _ => exact h.elim
  | get t x k ih =>
    intro l r h hs
    cases l with
    | nil => exact h.elim
    | cons y l =>
      cases y with
      | g t' x' y =>
        simp only [chk] at h
        split at h
        · rename_i ht
          subst ht
          obtain ⟨rfl, h⟩ := h
          have : x = some y := hs (.g _ x y) (by simp)
          simp only [interp, this, Option.bind_some]
          exact ih y l r h fun x hx => hs x (by simp [hx])
        · exact h.elim
      | _ => exact h.elim
def Ev (pr : Pr) (q : Q) (o : Out) : Prop := ∃ n0, ∀ n, n0 ≤ n → evF pr n q = some o
def Tr.ok (pr : Pr) : Tr → Prop
  | .b c v => c = v
  | .m c => c = true
  | .n _ x y => x = y
  | .g _ x y => x = some y
  | .a q o => Ev pr q o
def oks (pr : Pr) : List Tr → Prop
  | [] => True
  | x :: l => x.ok pr ∧ oks pr l
theorem oks_says {pr : Pr} : ∀ {l : List Tr}, oks pr l → ∃ n0, ∀ n, n0 ≤ n → ∀ x ∈ l, x.says (evF pr n)
  | [], _ => ⟨0, fun n _ x hx => by cases hx⟩
  | x :: l, h => by
    obtain ⟨n1, h1⟩ := oks_says h.2
    have h0 := h.1
    have : ∃ n0, ∀ n, n0 ≤ n → x.says (evF pr n) := by
      cases x with
      | a q o => exact h0
      | b c v => exact ⟨0, fun n _ => h0⟩
      | m c => exact ⟨0, fun n _ => h0⟩
      | n t x y => exact ⟨0, fun n _ => h0⟩
      | g t x y => exact ⟨0, fun n _ => h0⟩
    obtain ⟨n2, h2⟩ := this
    refine ⟨max n1 n2, fun n hn y hy => ?_⟩
    rcases List.mem_cons.1 hy with rfl | hy
    · exact h2 n (by omega)
    · exact h1 n (by omega) y hy
theorem Ev.tr {pr : Pr} {q : Q} {o : Out} (l : List Tr) (hc : good l o = chk (tree pr q) l o) (h : oks pr l) : Ev pr q o := by
  obtain ⟨n0, h0⟩ := oks_says h
  refine ⟨n0 + 1, fun n hn => ?_⟩
  obtain ⟨m, rfl⟩ : ∃ m, n = m + 1 := ⟨n - 1, by omega⟩
  exact tree_sim (chk_sound _ l o (hc ▸ good_ok l o) (h0 m (by omega)))
inductive Tp (pr : Pr) where
  | b {c v : Bool} (h : c = v)
  | m {c : Bool} (h : c = true)
  | i {x y : Int} (h : x = y)
  | c {x y : Nat} (h : x = y)
  | n (t : Ty) {x y : t.ty} (h : x = y)
  | e {x : Option (List T)} {y : List T} (h : x = some y)
  | g (t : Ty) {x : Option t.ty} {y : t.ty} (h : x = some y)
  | a {q : Q} {o : Out} (h : Ev pr q o)
def Tp.tr {pr : Pr} : Tp pr → Tr
  | @Tp.b _ z v _ => .b z v
  | @Tp.m _ z _ => .m z
  | @Tp.i _ x y _ => .n .int x y
  | @Tp.c _ x y _ => .n .nat x y
  | @Tp.n _ t x y _ => .n t x y
  | @Tp.e _ x y _ => .g .row x y
  | @Tp.g _ t x y _ => .g t x y
  | @Tp.a _ q o _ => .a q o
def trs {pr : Pr} : List (Tp pr) → List Tr
  | [] => []
  | x :: l => x.tr :: trs l
theorem trs_ok {pr : Pr} : ∀ l : List (Tp pr), oks pr (trs l)
  | [] => trivial
  | x :: l => ⟨by cases x <;> (rename_i h; exact h), trs_ok l⟩
theorem Ev.tp {pr : Pr} {q : Q} {o : Out} (l : List (Tp pr)) (hc : good (trs l) o = chk (tree pr q) (trs l) o) : Ev pr q o := Ev.tr _ hc (trs_ok l)
end Go.Ev

namespace Go.Ev
set_option linter.unusedVariables false
set_option linter.unusedSimpArgs false
def Opens {α : Type} (P : Program) (t : TypeId) (ce : α → List T) (ok : α → Prop) : Prop :=
  ∀ (H : Type) (enc : TypeId × Value → H) (W : World) (fuel : Nat) (cs : List Value) (x : DataW H × List MemPlace),
    DataW.trod enc P W 0 (fun _ => true) true fuel t cs = some x → ∃ y, ok y ∧ cs.length = (ce y).length ∧ ∀ (i : Nat) (u : T) (c : Value), (ce y)[i]? = some u → cs[i]? = some c → RepT W (fun b => b < W.heap.size) u c
theorem one_cell {W : World} {F : Nat → Prop} {u : T} {c : Value} (h : RepT W F u c) : ∀ (i : Nat) (u' : T) (c' : Value), [u][i]? = some u' → [c][i]? = some c' → RepT W F u' c' := by
  intro i u' c' h1 h2
  cases i with
  | zero => obtain rfl : u = u' := by simpa using h1
            obtain rfl : c = c' := by simpa using h2
            exact h
  | succ i => simp at h1
theorem opens_int {P : Program} {t : TypeId} {k : IntKind} (ht : P.underlying t = some (.int k)) : Opens P t (fun n => [T.int k n]) (fun n => (Lit.int k n).wf = true) := by
  intro H enc W fuel cs x h
  obtain ⟨n, rfl, _, hw⟩ := DataW.trod_int ht h
  exact ⟨n, hw, rfl, one_cell (.int k n)⟩
theorem opens_bool {P : Program} {t : TypeId} (ht : P.underlying t = some .bool) : Opens P t (fun b => [T.bool b]) (fun _ => True) := by
  intro H enc W fuel cs x h
  obtain ⟨b, rfl, _⟩ := DataW.trod_bool ht h
  exact ⟨b, trivial, rfl, one_cell (.bool b)⟩
theorem choose_list {α : Type} (R : Nat → α → Prop) : ∀ n : Nat, (∀ i, i < n → ∃ y, R i y) → ∃ l : List α, l.length = n ∧ ∀ i y, l[i]? = some y → R i y
  | 0, _ => ⟨[], rfl, fun i y h => by simp at h⟩
  | n + 1, h => by
    obtain ⟨l, hl, hr⟩ := choose_list R n (fun i hi => h i (by omega))
    obtain ⟨y, hy⟩ := h n (by omega)
    refine ⟨l ++ [y], by simp [hl], fun i z hz => ?_⟩
    by_cases hi : i < l.length
    · rw [List.getElem?_append_left hi] at hz
      exact hr i z hz
    · have hj : i = l.length := by
        have := (List.getElem?_eq_some_iff.1 hz).1
        rw [List.length_append, List.length_singleton] at this
        omega
      subst hj
      have e : y = z := by simpa using hz
      subst e
      rw [hl]
      exact hy
theorem cell_some {W : World} {a : Addr} {v : Value} (h : W.cell? a = some v) : a.spot = none ∧ a.block < W.heap.size := by
  unfold World.cell? at h
  split at h
  · rename_i c _ _ hb
    split at h
    · cases h
    · rename_i hs
      exact ⟨by simpa using hs, (Array.getElem?_eq_some_iff.1 hb).1⟩
  · cases h
theorem opens_slice {α : Type} {P : Program} {t e : TypeId} {sz : Nat} {ce : α → List T} {ok : α → Prop} (ht : P.underlying t = some (.slice e)) (hc : P.cellsOf e = sz) (h0 : 0 < sz) (hsz : ∀ y, (ce y).length = sz) (hd : Opens P e ce ok) :
    Opens P t (fun l : List α => [T.seq sz (l.map ce)]) (fun l => l.length ≤ 9223372036854775807 ∧ ∀ y ∈ l, ok y) := by
  intro H enc W fuel cs x h
  rcases DataW.trod_slice ht h with ⟨rfl, _⟩ | ⟨a, len, cap, elems, rest, n, _, rfl, _, _, hl, hm, hlen, hel, _, _⟩
  · exact ⟨[], ⟨by simp, fun y hy => by simp at hy⟩, rfl, one_cell (.seq0 ..)⟩
  · have each : ∀ i, i < len → ∃ y, ok y ∧ ∃ c : List Value, c.length = sz ∧ (∀ (j : Nat) (u : T) (v : Value), (ce y)[j]? = some u → c[j]? = some v → RepT W (fun b => b < W.heap.size) u v) ∧ ∀ (j : Nat) (u : Value), c[j]? = some u → W.cell? (a.add (i * sz + j)) = some u := by
      intro i hi
      have h1 := hel i hi
      have h2 : i < elems.length := by omega
      rw [List.getElem?_eq_getElem h2, Option.bind_eq_some_iff] at h1
      obtain ⟨c, hcc, hy⟩ := h1
      obtain ⟨y, ho, hk, hr⟩ := hd H enc W n c _ hy
      obtain ⟨g1, g2, g3⟩ := World.cells?_some hcc
      refine ⟨y, ho, c, by rw [g2, hc], hr, fun j u hj => ?_⟩
      have hj' := (List.getElem?_eq_some_iff.1 hj).1
      have := g3 j (by rw [← g2]; exact hj')
      rw [← hj, ← this, hc, Addr.add_add]
    obtain ⟨l, hll, hlr⟩ := choose_list _ len each
    subst hll
    refine ⟨l, ⟨Nat.le_trans hl hm, fun y hy => ?_⟩, rfl, one_cell ?_⟩
    · obtain ⟨i, hi⟩ := List.getElem?_of_mem hy
      exact (hlr i y hi).1
    · match l, hlr with
      | [], _ => exact .seq0 ..
      | y0 :: l', hlr =>
        obtain ⟨_, c0, k1, _, k3⟩ := hlr 0 y0 rfl
        have hv : ∃ v, c0[0]? = some v := ⟨c0[0]'(by omega), List.getElem?_eq_getElem (by omega)⟩
        obtain ⟨v0, hv0⟩ := hv
        obtain ⟨s1, s2⟩ := cell_some (k3 0 v0 hv0)
        obtain ⟨ab, ao, az⟩ := a
        obtain rfl : az = none := by simpa [Addr.add] using s1
        have addk : ∀ k, Addr.add ⟨ab, ao, none⟩ k = ⟨ab, ao + k, none⟩ := fun k => by
          unfold Addr.add
          by_cases hk : k = 0
          · rw [if_pos hk, hk]; rfl
          · rw [if_neg hk]
        rw [addk] at s2
        have hget : ∀ (i j : Nat) (e : List T) (u : T), ((y0 :: l').map ce)[i]? = some e → e[j]? = some u → ∃ v, W.cell? ⟨ab, ao + i * sz + j, none⟩ = some v ∧ RepT W (fun b => b < W.heap.size) u v := fun i j e u hi hj => by
          rw [List.getElem?_map] at hi
          obtain ⟨y, hy, rfl⟩ := Option.map_eq_some_iff.1 hi
          obtain ⟨_, c, q1, q2, q3⟩ := hlr i y hy
          have hjl := (List.getElem?_eq_some_iff.1 hj).1
          rw [hsz] at hjl
          have hv : c[j]? = some (c[j]'(by omega)) := List.getElem?_eq_getElem (by omega)
          refine ⟨_, ?_, q2 j u _ hj hv⟩
          have := q3 j _ hv
          rw [← this, addk, Nat.add_assoc]
        have := RepT.seq (w := W) (F := fun b => b < W.heap.size) (sz := sz) (es := (y0 :: l').map ce) (b := ab) (o := ao) (cap := cap) (vals := fun i j => (W.cell? ⟨ab, ao + i * sz + j, none⟩).getD Go.undef) s2 (by simpa using hl)
          (fun i e hi => by rw [List.getElem?_map] at hi; obtain ⟨y, _, rfl⟩ := Option.map_eq_some_iff.1 hi; exact hsz y)
          (fun i j e u hi hj => by obtain ⟨v, hv, _⟩ := hget i j e u hi hj; rw [hv]; rfl)
          (fun i j e u hi hj => by obtain ⟨v, hv, hr⟩ := hget i j e u hi hj; rw [hv]; exact hr)
        simpa using this
end Go.Ev

namespace Go.Ev
set_option linter.unusedVariables false
set_option linter.unusedSimpArgs false
theorem wf_none (W : World) : Wf W (fun b => b < W.heap.size) (fun _ _ => none) (ofL []) :=
  ⟨fun id o h => by simp [ofL] at h, fun id p id' p' b o o' h => by cases p <;> simp [Live, ofL] at h, fun id p b o h => by cases p <;> simp [Live, ofL] at h, fun b h => h⟩
theorem law_calls {pr : Pr} (hm : pr.P.follows .mixedOrders = true) (hp : PrimOk pr) {f : FuncId} {args : List V} {cs : Array Value} {W : World} (h : Ev pr (.call f args []) (.val (.t (.bool true)) []))
    (hr : RepL W (fun b => b < W.heap.size) (fun _ _ => none) (ofL []) args cs) : Calls pr.P f cs W fun e W' => e = .returned (.bool true) ∧ RowKit.Below W.heap.size W W' := by
  obtain ⟨n0, hn⟩ := h
  obtain ⟨_, hc⟩ := (all_ok hm hp n0).1 f args [] _ _ (hn n0 (Nat.le_refl _))
  refine (hc W _ _ cs (wf_none W) hr).mono fun e w' ⟨c, F', σ', he, hs, hv⟩ => ⟨?_, hs.fr.os, hs.fr.tape, hs.fr.output, hs.fr.size, fun k hk => hs.fr.block k hk fun ⟨id, p, o, hl, _⟩ => by cases p <;> simp [Live, ofL] at hl⟩
  rw [he]
  cases hv with
  | t hv => cases hv; rfl
theorem rep_one {w : World} {F : Nat → Prop} {σ : Sg} {M : Mem} {u : T} {c : Value} (h : ∀ (i : Nat) (x : T) (v : Value), [u][i]? = some x → [c][i]? = some v → RepT w F x v) : RepV w F σ M (.t u) c := .t (h 0 u c rfl rfl)
theorem rep_agg {w : World} {F : Nat → Prop} {σ : Sg} {M : Mem} {us : List T} {cs : Array Value} (hl : us.length = cs.size) (h : ∀ (i : Nat) (x : T) (v : Value), us[i]? = some x → cs.toList[i]? = some v → RepT w F x v) : RepV w F σ M (.agg (us.map V.t)) (.agg cs) := by
  refine .agg (by simpa using hl) fun i v hi => ?_
  rw [List.getElem?_map] at hi
  obtain ⟨u, hu, rfl⟩ := Option.map_eq_some_iff.1 hi
  have hlt := (List.getElem?_eq_some_iff.1 hu).1
  have hc : cs.toList[i]? = some (cs.getD i Go.undef) := by
    rw [Array.getElem?_toList, Array.getD_eq_getD_getElem?, Array.getElem?_eq_getElem (by omega)]; rfl
  exact .t (h i u _ hu hc)
end Go.Ev

namespace Go.Ev
set_option linter.unusedVariables false
set_option linter.unusedSimpArgs false
def loopsOf (f : FuncId) : Ann → Code → List LoopQ
  | .cut _ a, c => loopsOf f a c
  | .seq x y, .seq a b => loopsOf f x a ++ loopsOf f y b
  | .cond x y, .cond _ a b => loopsOf f x a ++ loopsOf f y b
  | .block x, .block _ c => loopsOf f x c
  | .loop live after rets thaw x, .loop c => ⟨f, live, after, rets, thaw, x, c⟩ :: loopsOf f x c
  | _, _ => []
def lq (pr : Pr) (f : FuncId) (i : Nat) : LoopQ :=
  match (pr.P.funcs[f]?).bind (·.body) with
  | some c => ((loopsOf f (pr.ann f) c)[i]?).getD ⟨0, [], [], [], [], .n, .skip⟩
  | none => ⟨0, [], [], [], [], .n, .skip⟩
def at_ (l : List (Nat × V)) (H : List Ob) (k0 : Nat) : S := ⟨ofE l, ofL H, k0⟩
def i64 (n : Int) : V := .t (.int .i64 n)
def bl (b : Bool) : V := .t (.bool b)
def sl (sz : Nat) (es : List (List T)) : V := .t (.seq sz es)
theorem wrap_i64 {a : Int} (h1 : -9223372036854775808 ≤ a) (h2 : a ≤ 9223372036854775807) : IntKind.i64.wrap a = a := by
  have hb : IntKind.i64.bits = 64 := rfl
  have hs : IntKind.i64.signed = true := rfl
  unfold IntKind.wrap
  rw [hb, hs]
  simp only [Bool.true_and, decide_eq_true_eq]
  have e1 : (2 : Int) ^ 64 = 18446744073709551616 := by decide
  have e2 : (2 : Int) ^ (64 - 1) = 9223372036854775808 := by decide
  rw [e1, e2]
  split <;> omega
end Go.Ev
namespace Go.Ev
def Tp.l {pr : Pr} (n : Nat) : Tp pr := .i (rfl : (n : Int) = n)
def Tp.ll {pr : Pr} {α : Type} (ce : α → List T) (l : List α) : Tp pr := .i (show ((l.map ce).length : Int) = l.length by rw [List.length_map])
theorem lkp_get {α : Type} (ce : α → List T) {l : List α} {i : Int} {x : α} (h0 : 0 ≤ i) (h : l[i.toNat]? = some x) : lkp (l.map ce) i = some (ce x) := by
  unfold lkp
  rw [if_pos h0]
  simp [h]
def part {α : Type} (g : α → List C) (z : List C) (l done : List α) : List (List C) := done.map g ++ List.replicate (l.length - done.length) z
end Go.Ev

namespace Go.Ev
set_option linter.unusedVariables false
set_option linter.unusedSimpArgs false
theorem Ev.tpe {pr : Pr} {q : Q} {o : Out} (l : List (Tp pr)) (o' : Out) (hc : good (trs l) o' = chk (tree pr q) (trs l) o') (e : o' = o) : Ev pr q o := e ▸ Ev.tp l hc
theorem Ev.castq {pr : Pr} {q q' : Q} {o : Out} (e : q = q') (h : Ev pr q o) : Ev pr q' o := e ▸ h
attribute [simp] i64 bl sl
def Tp.mT {pr : Pr} : Tp pr := .m (rfl : true = true)
def Tp.bT {pr : Pr} : Tp pr := .b (rfl : true = true)
def Tp.bF {pr : Pr} : Tp pr := .b (rfl : false = false)
def tc (l : List T) : List C := l.map C.t
@[simp] theorem tc_fz (l : List T) : (tc l).map C.fz = l := by simp [tc, C.fz, Function.comp_def]
@[simp] theorem tc_len (l : List T) : (tc l).length = l.length := by simp [tc]
@[simp] theorem map_t_fz (l : List T) : (l.map C.t).map C.fz = l := tc_fz l
@[simp] theorem map_tc_fz {α : Type} (ce : α → List T) (l : List α) : (l.map fun x => tc (ce x)).map (List.map C.fz) = l.map ce := by simp [Function.comp_def]
@[simp] theorem map_tc_fz1 (l : List (List T)) : (l.map tc).map (List.map C.fz) = l := by simp [Function.comp_def]
@[simp] theorem map_tc_fz2 (l : List (List T)) : (l.map (List.map C.t)).map (List.map C.fz) = l := by simp [Function.comp_def, C.fz]
@[simp] theorem lkp_app {α : Type} (az : List α) (y : α) (bs : List α) : lkp (az ++ y :: bs) (az.length : Int) = some y := by simp [lkp]
@[simp] theorem lkp_mapapp {α β : Type} (f : β → α) (az : List β) (y : α) (bs : List α) : lkp (az.map f ++ y :: bs) (az.length : Int) = some y := by
  have := lkp_app (az.map f) y bs
  simpa using this
@[simp] theorem lkp_zero {α : Type} (y : α) (l : List α) : lkp (y :: l) 0 = some y := by simp [lkp]
@[simp] theorem lkp_one {α : Type} (x y : α) (l : List α) : lkp (x :: y :: l) 1 = some y := by simp [lkp]
theorem lkp_some {α β : Type} (f : α → β) {l : List α} {i : Int} {x : α} (h0 : 0 ≤ i) (h : l[i.toNat]? = some x) : lkp (l.map f) i = some (f x) := by simp [lkp, h0, h]
@[simp] theorem set_mid {α : Type} (az : List α) (y z : α) (bs : List α) : (az ++ y :: bs).set az.length z = az ++ z :: bs := by simp
@[simp] theorem set_mapmid {α β : Type} (f : β → α) (az : List β) (y z : α) (bs : List α) : (az.map f ++ y :: bs).set az.length z = az.map f ++ z :: bs := by simp
@[simp high] theorem get_mid {α : Type} (az : List α) (y : α) (bs : List α) : (az ++ y :: bs)[az.length]? = some y := by simp
@[simp high] theorem get_mapmid {α β : Type} (f : β → α) (az : List β) (y : α) (bs : List α) : (az.map f ++ y :: bs)[az.length]? = some y := by simp
@[simp] theorem toNat_add1 (n : Nat) : ((n : Int) + 1).toNat = n + 1 := by omega
@[simp] theorem take_len_map {α β : Type} (f : α → β) (l : List α) : (l.map f).take l.length = l.map f := by rw [← List.length_map (f := f), List.take_length]
end Go.Ev

namespace Go.Ev
set_option linter.unusedVariables false
set_option linter.unusedSimpArgs false
def clonePrim : List V → List Ob → Option (V × List Ob)
  | [.t (.seq 1 es)], [] => if es.length ≤ 1048576 then some (.vec 0 es.length 1 0 es.length, [.vec true 1 (es.map (List.map C.t))]) else none
  | _, _ => none
theorem Ev.prim {pr : Pr} {f : FuncId} {args : List V} {H H' : List Ob} {v : V} {p : List V → List Ob → Option (V × List Ob)} (hc : callable pr.P f = true) (hp : pr.prim f = some p) (h : p args H = some (v, H')) : Ev pr (.call f args H) (.val v H') := by
  refine ⟨1, fun n hn => ?_⟩
  obtain ⟨k, rfl⟩ : ∃ k, n = k + 1 := ⟨n - 1, by omega⟩
  simp only [evF, step, hc, Bool.not_true, Bool.cond_false, hp, h, Option.map_some]
end Go.Ev

namespace Go.Ev
set_option linter.unusedVariables false
set_option linter.unusedSimpArgs false
theorem bytes_ext {a b : ByteArray} (h : a.toList = b.toList) : a = b := by
  rw [ByteArray.toList_eq, ByteArray.toList_eq] at h
  cases a; cases b
  congr 1
  exact Array.toList_inj.1 h
def letter (b : UInt8) : Bool := decide (97 ≤ (b.toNat : Int)) && decide ((b.toNat : Int) ≤ 122)
def strength (l : List UInt8) : Int :=
  if l = [124, 124] then 1 else if l = [38, 38] then 2 else if l = [61, 61] ∨ l = [33, 61] then 3 else if l = [60] ∨ l = [60, 61] then 4
  else if l = [43] ∨ l = [45] then 5 else if l = [42] ∨ l = [47] ∨ l = [37] then 6 else if l = [60, 60] then 7 else 0
def nameOk (s : ByteArray) : Bool := decide (1 ≤ s.size ∧ s.size ≤ 8) && s.toList.all letter
end Go.Ev

namespace Go.Ev
set_option linter.unusedVariables false
set_option linter.unusedSimpArgs false
abbrev e0 : ByteArray := ⟨#[]⟩
@[simp] theorem toList_nil (s : ByteArray) : s.toList = [] ↔ s = e0 := by
  constructor
  · intro h; exact bytes_ext (by rw [h]; simp [ByteArray.toList_eq])
  · intro h; rw [h]; simp [ByteArray.toList_eq]
def vs (l : List T) : V := .agg (l.map V.t)
attribute [simp] vs
structure Ex where
  kind : Int
  num : Int
  text : ByteArray
def Ex.ce (x : Ex) : List T := [.int .i64 x.kind, .int .i64 x.num, .str x.text]
def Ex.z : List C := [.t (.int .i64 0), .t (.int .i64 0), .t (.str e0)]
def exs (l : List Ex) : V := sl 3 (l.map Ex.ce)
attribute [simp] exs
structure Line where
  kind : Int
  name : Int
  expr : List Ex
def Line.ce (x : Line) : List T := [.int .i64 x.kind, .int .i64 x.name, .seq 3 (x.expr.map Ex.ce)]
def Line.z : List C := [.t (.int .i64 0), .t (.int .i64 0), .t .nils]
def lines (l : List Line) : V := sl 3 (l.map Line.ce)
inductive E where
  | num (n : Int)
  | name (s : ByteArray)
  | neg (a : E)
  | not (a : E)
  | two (s : ByteArray) (a b : E)
  deriving Inhabited
def E.kind : E → Int
  | .num _ => 1
  | .name _ => 2
  | .neg _ => 3
  | .not _ => 4
  | .two .. => 5
def E.nm : E → Int
  | .num n => n
  | _ => 0
def E.text : E → ByteArray
  | .name s => s
  | .two s _ _ => s
  | _ => e0
def E.tab : E → T × T
  | .neg a | .not a => (.ptr [.int .i64 a.kind, .int .i64 a.nm, .str a.text, a.tab.1, a.tab.2] 0, .nilp)
  | .two _ a b => (.ptr [.int .i64 a.kind, .int .i64 a.nm, .str a.text, a.tab.1, a.tab.2] 0, .ptr [.int .i64 b.kind, .int .i64 b.nm, .str b.text, b.tab.1, b.tab.2] 0)
  | _ => (.nilp, .nilp)
def E.tp (e : E) : T := .ptr [.int .i64 e.kind, .int .i64 e.nm, .str e.text, e.tab.1, e.tab.2] 0
def E.kids : E → List (List T)
  | .neg a | .not a => [[.int .i64 a.kind, .int .i64 a.nm, .str a.text, .seq 4 a.kids]]
  | .two _ a b => [[.int .i64 a.kind, .int .i64 a.nm, .str a.text, .seq 4 a.kids], [.int .i64 b.kind, .int .i64 b.nm, .str b.text, .seq 4 b.kids]]
  | _ => []
def E.ts (e : E) : List T := [.int .i64 e.kind, .int .i64 e.nm, .str e.text, .seq 4 e.kids]
@[simp] theorem E.kind_num (n : Int) : (E.num n).kind = 1 := rfl
@[simp] theorem E.kind_name (s : ByteArray) : (E.name s).kind = 2 := rfl
@[simp] theorem E.kind_neg (a : E) : (E.neg a).kind = 3 := rfl
@[simp] theorem E.kind_not (a : E) : (E.not a).kind = 4 := rfl
@[simp] theorem E.kind_two (s : ByteArray) (a b : E) : (E.two s a b).kind = 5 := rfl
@[simp] theorem E.nm_num (n : Int) : (E.num n).nm = n := rfl
@[simp] theorem E.nm_name (s : ByteArray) : (E.name s).nm = 0 := rfl
@[simp] theorem E.nm_neg (a : E) : (E.neg a).nm = 0 := rfl
@[simp] theorem E.nm_not (a : E) : (E.not a).nm = 0 := rfl
@[simp] theorem E.nm_two (s : ByteArray) (a b : E) : (E.two s a b).nm = 0 := rfl
@[simp] theorem E.text_num (n : Int) : (E.num n).text = e0 := rfl
@[simp] theorem E.text_name (s : ByteArray) : (E.name s).text = s := rfl
@[simp] theorem E.text_neg (a : E) : (E.neg a).text = e0 := rfl
@[simp] theorem E.text_not (a : E) : (E.not a).text = e0 := rfl
@[simp] theorem E.text_two (s : ByteArray) (a b : E) : (E.two s a b).text = s := rfl
def readE : Nat → List Ex → Option (E × List Ex)
  | 0, _ => none
  | _ + 1, [] => none
  | n + 1, x :: r =>
    if x.kind = 1 then (if 0 ≤ x.num ∧ x.num ≤ 999999999 then if x.text = e0 then some (.num x.num, r) else none else none)
    else if x.kind = 2 then (if x.num = 0 then if nameOk x.text = true then some (.name x.text, r) else none else none)
    else if x.kind = 3 then (if x.num = 0 then if x.text = e0 then match readE n r with
        | some (a, r) => some (.neg a, r)
        | none => none else none else none)
    else if x.kind = 4 then (if x.num = 0 then if x.text = e0 then match readE n r with
        | some (a, r) => some (.not a, r)
        | none => none else none else none)
    else if x.kind = 5 then (if x.num = 0 then if strength x.text.toList = 0 then none else match readE n r with
        | some (a, r1) => match readE n r1 with
          | some (b, r2) => some (.two x.text a b, r2)
          | none => none
        | none => none else none)
    else none
def outP : Option (E × List Ex) → V
  | none => .tup [.t .nilp, exs []]
  | some (e, r) => .tup [.t e.tp, exs r]
def outS (n : Nat) : Option (E × List Ex) → V
  | none => .tup [vs [.int .i64 0, .int .i64 0, .str e0, .seq 4 []], i64 0]
  | some (e, r) => .tup [vs e.ts, i64 (n - r.length)]
def nameNo (s : ByteArray) : Int :=
  match s.toList with
  | [b] => if 97 ≤ (b.toNat : Int) ∧ (b.toNat : Int) ≤ 106 then (b.toNat : Int) - 97 else -1
  | _ => -1
def bad (x : Ex) : Bool := decide (x.kind = 2) && decide (nameNo x.text < 0)
def E.names : E → Bool
  | .num _ => true
  | .name s => decide (0 ≤ nameNo s)
  | .neg a | .not a => a.names
  | .two _ a b => a.names && b.names
def idxFrom {α : Type} (p : α → Bool) (i : Int) : List α → Int
  | [] => -1
  | x :: r => if p x = true then i else idxFrom p (i + 1) r
def parse (l : List Ex) : Option E :=
  if l.length ≤ 40 then match readE l.length l with
    | some (e, []) => some e
    | _ => none else none
def outE : Option E → V
  | none => .t .nilp
  | some e => .t e.tp
def parseL (l : List Ex) : Option E := if l.any bad = true then none else parse l
def lineOk (x : Line) : Bool :=
  if x.kind = 1 then (decide (x.name ≥ 0) && decide (x.name ≤ 9)) && (parseL x.expr).isSome
  else if x.kind = 2 then decide (x.name = 0) && (parseL x.expr).isSome
  else decide (x.kind = 3) && decide (x.name = 0) && decide (x.expr.length = 0)
def tree? (l : List Ex) : Option E := if l.length ≤ 40 then (readE l.length l).map (·.1) else none
def oKind : Option E → Int
  | some e => e.kind
  | none => 0
def oNm : Option E → Int
  | some e => e.nm
  | none => 0
def oText : Option E → ByteArray
  | some e => e.text
  | none => e0
def oKids : Option E → List (List T)
  | some e => e.kids
  | none => []
def oe (o : Option E) : List T := [.int .i64 (oKind o), .int .i64 (oNm o), .str (oText o), .seq 4 (oKids o)]
@[simp] theorem oKind_some (e : E) : oKind (some e) = e.kind := rfl
@[simp] theorem oNm_some (e : E) : oNm (some e) = e.nm := rfl
@[simp] theorem oText_some (e : E) : oText (some e) = e.text := rfl
@[simp] theorem oKids_some (e : E) : oKids (some e) = e.kids := rfl
@[simp] theorem oKind_none : oKind none = 0 := rfl
@[simp] theorem oNm_none : oNm none = 0 := rfl
@[simp] theorem oText_none : oText none = e0 := rfl
@[simp] theorem oKids_none : oKids none = [] := rfl
def endsGo : List Line → Int → List Int → List Int → List Int → Option (List Int × List Int × List Int)
  | [], _, out, st, junk => some (out, st, junk)
  | x :: r, i, out, st, junk =>
    if x.kind = 2 then endsGo r (i + 1) out (i :: st) junk.tail
    else if x.kind = 3 then match st with
      | [] => none
      | j :: st' => endsGo r (i + 1) ((out.set i.toNat j).set j.toNat i) st' (j :: junk)
    else endsGo r (i + 1) out st junk
def intc (n : Int) : List C := [.t (.int .i64 n)]
def intt (n : Int) : List T := [.int .i64 n]
def ints (l : List Int) : List (List C) := l.map intc
@[simp] theorem ints_len (l : List Int) : (ints l).length = l.length := by simp [ints]
@[simp] theorem ints_nil : ints [] = [] := rfl
theorem ints_app (a b : List Int) : ints (a ++ b) = ints a ++ ints b := by simp [ints]
theorem ints_cons (a : Int) (b : List Int) : ints (a :: b) = intc a :: ints b := rfl
theorem ints_set (l : List Int) (k : Nat) (n : Int) : (ints l).set k (intc n) = ints (l.set k n) := by simp [ints, List.map_set]
@[simp] theorem take_rev0 (l : List Int) : (ints l.reverse).take l.length = ints l.reverse := by simp [ints, List.take_of_length_le]
@[simp] theorem take_rev (l b : List Int) : (ints (l.reverse ++ b)).take l.length = ints l.reverse := by rw [ints_app, List.take_left' (by simp)]
@[simp] theorem drop_rev (l b : List Int) (j : Int) : (ints (l.reverse ++ j :: b)).drop (l.length + 1) = ints b := by
  rw [show l.reverse ++ j :: b = (l.reverse ++ [j]) ++ b by simp, ints_app, List.drop_left' (by simp)]
@[simp high] theorem get_rev (l b : List Int) (j : Int) : (ints (l.reverse ++ j :: b))[l.length]? = some (intc j) := by
  rw [ints_app, ints_cons, List.getElem?_append_right (by simp)]; simp
@[simp] theorem ints_setC (l : List Int) (k : Nat) (n : Int) : (ints l).set k [C.t (.int .i64 n)] = ints (l.set k n) := ints_set l k n
def endsOk (l : List Line) : Bool :=
  match endsGo l 0 (List.replicate l.length 0) [] [] with
  | some (_, st, _) => decide (st.length = 0)
  | none => false
def goodProgram (l : List Line) : Bool :=
  (decide ((l.length : Int) ≥ 1) && decide ((l.length : Int) ≤ 12)) && !(l.any fun x => !lineOk x) && endsOk l
@[simp] theorem ints_fz (l : List Int) : (ints l).map (List.map C.fz) = l.map intt := by simp [ints, Function.comp_def, intc, intt, C.fz]
@[simp] theorem ints_fz' (l : List Int) : List.map (fun x => List.map C.fz x) (ints l) = l.map intt := ints_fz l
@[simp] theorem ints_rep (n : Nat) (a : Int) : ints (List.replicate n a) = List.replicate n [C.t (.int .i64 a)] := by simp [ints, intc]
def specGo : List Line → Int → Option Int
  | [], o => some o
  | x :: r, o =>
    if x.kind = 1 then (if (parseL x.expr).isSome = true then if 0 ≤ x.name ∧ x.name ≤ 9 then specGo r o else none else none)
    else if x.kind = 2 then (if (parseL x.expr).isSome = true then if x.name = 0 then specGo r (o + 1) else none else none)
    else if x.kind = 3 then (if x.name = 0 then if x.expr = [] then if o = 0 then none else specGo r (o - 1) else none else none)
    else none
end Go.Ev

namespace Go.Ev
set_option linter.unusedVariables false
set_option linter.unusedSimpArgs false
structure Obj where
  mark : Int
  links : List Int
structure Hp where
  objects : List Obj
  roots : List Int
def linkOk (many : Nat) (k : Int) : Bool := decide (k ≥ -1) && decide (k ≤ (many : Int) - 1)
def objOk (many : Nat) (o : Obj) : Bool := (decide (o.mark ≥ 0) && decide (o.mark ≤ 1000)) && (decide (o.links.length ≤ 4) && o.links.all (linkOk many))
def goodHeap (h : Hp) : Bool := (decide (h.objects.length ≤ 40) && (decide (h.roots.length ≤ 10) && h.roots.all (linkOk h.objects.length))) && h.objects.all (objOk h.objects.length)
def newNo : List Int → Int → Int → Int
  | [], _, _ => -1
  | x :: r, k, i => if x = k then i else newNo r k (i + 1)
def push (l : List Int) (k : Int) : List Int := if k < 0 then l else if l.contains k = true then l else l ++ [k]
def pushAll (l : List Int) (ks : List Int) : List Int := ks.foldl push l
def objAt (h : Hp) (k : Int) : Obj := h.objects.getD k.toNat ⟨0, []⟩
def orderGo (h : Hp) : Nat → Nat → List Int → List Int
  | 0, _, l => l
  | n + 1, i, l => match l[i]? with
    | some k => orderGo h n (i + 1) (pushAll l (objAt h k).links)
    | none => l
def order (h : Hp) : List Int := orderGo h (h.objects.length + 1) 0 (pushAll [] h.roots)
def newOf (l : List Int) (k : Int) : Int := newNo l k 0
def copyObj (l : List Int) (o : Obj) : Obj := ⟨o.mark, o.links.map (newOf l)⟩
def copyH (h : Hp) : Hp := ⟨(order h).map fun k => copyObj (order h) (objAt h k), h.roots.map (newOf (order h))⟩
def nameGo : List Int → List Int → List Int × List Int     -- order, what is named; the order behind, the names
  | l, [] => (l, [])
  | l, k :: ks => ((nameGo (push l k) ks).1, newOf (push l k) k :: (nameGo (push l k) ks).2)
def copyGo (h : Hp) : Nat → Nat → List Int → List Int × List Obj
  | 0, _, l => (l, [])
  | n + 1, i, l => match l[i]? with
    | some k => ((copyGo h n (i + 1) (nameGo l (objAt h k).links).1).1, ⟨(objAt h k).mark, (nameGo l (objAt h k).links).2⟩ :: (copyGo h n (i + 1) (nameGo l (objAt h k).links).1).2)
    | none => (l, [])
def done (h : Hp) : Nat → Nat → List Int → Prop
  | 0, i, l => l.length ≤ i
  | n + 1, i, l => match l[i]? with
    | some k => done h n (i + 1) (pushAll l (objAt h k).links)
    | none => True
structure GoodH (h : Hp) : Prop where
  objs : h.objects.length ≤ 40
  rlen : h.roots.length ≤ 10
  roots : ∀ k ∈ h.roots, -1 ≤ k ∧ k < h.objects.length
  marks : ∀ o ∈ h.objects, 0 ≤ o.mark ∧ o.mark ≤ 1000
  llen : ∀ o ∈ h.objects, o.links.length ≤ 4
  links : ∀ o ∈ h.objects, ∀ k ∈ o.links, -1 ≤ k ∧ k < h.objects.length
end Go.Ev

namespace Go.Ev
set_option linter.unusedVariables false
set_option linter.unusedSimpArgs false
def insL : List Int → Int → List Int
  | [], n => [n]
  | x :: r, n => if x < n then x :: insL r n else if x = n then x :: r else n :: x :: r
def upto (p : Int → Bool) : Nat → Int → List Int
  | 0, _ => []
  | n + 1, i => if p i = true then i :: upto p n (i + 1) else upto p n (i + 1)
def reach (h : Hp) : List Int := upto (fun x => (order h).contains x) h.objects.length 0
end Go.Ev

namespace Go.Ev
set_option linter.unusedVariables false
set_option linter.unusedSimpArgs false
def Obj.ce (o : Obj) : List T := [.int .i64 o.mark, .seq 1 (o.links.map intt)]
def Hp.ce (h : Hp) : List T := [.seq 2 (h.objects.map Obj.ce), .seq 1 (h.roots.map intt)]
def Obj.cc (o : Obj) : List C := [.t (.int .i64 o.mark), .row 1 (o.links.map intt)]
def oz : List C := [.t (.int .i64 0), .t .nils]
abbrev isq (l : List Int) : V := .t (.seq 1 (l.map intt))
abbrev osq (l : List Obj) : V := .t (.seq 2 (l.map Obj.ce))
theorem obj_fz (l : List Obj) : (l.map Obj.cc).map (List.map C.fz) = l.map Obj.ce := by simp [Function.comp_def, Obj.cc, Obj.ce, C.fz]
@[simp] theorem obj_fz2 (l : List Obj) : List.map ((fun x => List.map C.fz x) ∘ Obj.cc) l = l.map Obj.ce := by rw [← List.map_map]; exact obj_fz l
@[simp high] theorem get_oc_mid (P Q : List Obj) (x : Obj) : ((P ++ x :: Q).map Obj.cc)[P.length]? = some [C.t (.int .i64 x.mark), C.row 1 (x.links.map intt)] := by simp [Obj.cc]
@[simp high] theorem get_intt_mid (m rest : List Int) (x : Int) : ((m ++ x :: rest).map intt)[m.length]? = some [T.int .i64 x] := by simp [intt]
@[simp high] theorem set_intt_mid (m rest : List Int) (x y : Int) : ((m ++ x :: rest).map intt).set m.length [T.int .i64 y] = (m ++ y :: rest).map intt := by simp [intt]
def markI (k : Int) : Nat → List Int
  | 0 => []
  | n + 1 => k :: markI (k + 1) n
@[simp high] theorem ints_get_mid (m : List Int) (x : Int) (r : List Int) : (ints (m ++ x :: r))[m.length]? = some [C.t (.int .i64 x)] := by simp [ints, intc]
@[simp high] theorem ints_set_mid (m : List Int) (x y : Int) (r : List Int) : (ints (m ++ x :: r)).set m.length [C.t (.int .i64 y)] = ints (m ++ y :: r) := by simp [ints, intc]
def marksO : List Obj → Int
  | [] => 0
  | x :: r => 1 + x.links.length + marksO r
def markedO : Int → List Obj → List Obj
  | _, [] => []
  | k, x :: r => ⟨k, markI (k + 1) x.links.length⟩ :: markedO (k + 1 + x.links.length) r
def szI (l : List Int) (n : Int) : Int := if n - l.length < 0 then -1 else n - l.length
def szOL : List Obj → Int → Option Int
  | [], n => some n
  | x :: r, n => if szI x.links n < 0 then none else szOL r (szI x.links n)
def szO (l : List Obj) (n : Int) : Int := if n - l.length < 0 then -1 else (szOL l (n - l.length)).getD (-1)
def szH (h : Hp) (n : Int) : Int := if szO h.objects n < 0 then -1 else szI h.roots (szO h.objects n)
end Go.Ev

namespace Go.Ev
set_option linter.unusedVariables false
set_option linter.unusedSimpArgs false
def intsOf : List (List C) → Option (List Int)
  | [] => some []
  | [.t (.int .i64 n)] :: r => (intsOf r).map (n :: ·)
  | _ => none
def srt (zs : List Int) : List Int := zs.mergeSort fun x y => decide (x ≤ y)
def sortPrim : List V → List Ob → Option (V × List Ob)
  | [.vec 0 n 1 0 m], [.vec true 1 es] => if m = n ∧ es.length = n ∧ n ≤ 1048576 then
      if n = 0 then some (.tup [], [.vec true 1 []]) else (intsOf es).map fun zs => (.tup [], [.vec true 1 ((srt zs).map fun n => [.t (.int .i64 n)])]) else none
  | _, _ => none
theorem srt_len (zs : List Int) : (srt zs).length = zs.length := List.length_mergeSort zs
theorem intsOf_spec : ∀ {es : List (List C)} {zs : List Int}, intsOf es = some zs → es = zs.map fun n => [.t (.int .i64 n)]
  | [], zs, h => by obtain rfl := Option.some.inj h; rfl
  | e :: es, zs, h => by
    unfold intsOf at h
    split at h
    · rename_i h1; cases h1
    · rename_i n r h1
      obtain ⟨rfl, rfl⟩ := List.cons.inj h1
      obtain ⟨zs', h2, rfl⟩ := Option.map_eq_some_iff.1 h
      rw [intsOf_spec h2]
      rfl
    · cases h
theorem intsOf_map : ∀ zs : List Int, intsOf (zs.map fun n => [.t (.int .i64 n)]) = some zs
  | [] => rfl
  | z :: zs => by simp only [List.map_cons, intsOf, intsOf_map zs, Option.map_some]
theorem step_grow {w w' : World} {F : Nat → Prop} {σ : Sg} {M : Mem} (wf : Wf w F σ M) (hos : w'.os = w.os) (ht : w'.tape = w.tape) (ho : w'.output = w.output) (hsize : w.heap.size ≤ w'.heap.size)
    (hb : ∀ b, b < w.heap.size → w'.heap[b]? = w.heap[b]?) : Step w F σ M w' F σ M := by
  have le : Le w F σ M w' F σ M := ⟨fun _ h => h, fun b h => hb b (wf.lt b h), fun id o h => ⟨o, h, ObLe.refl _ _ _⟩, fun b k ⟨c, e, h1, h2⟩ => ⟨c, e, by rw [hb b (Array.getElem?_eq_some_iff.1 h1).1]; exact h1, h2⟩⟩
  have lt : ∀ id p b o, Live M id p → σ id p = some (b, o) → b < w.heap.size := fun id p b o h k => by
    obtain ⟨_, c, e, h3⟩ := wf.row id p b o h k
    exact (Array.getElem?_eq_some_iff.1 h3).1
  refine ⟨le, ⟨fun id o h => (wf.obj id o h).mono le h (fun _ => rfl) fun p b o0 hl hs => hb b (lt _ _ _ _ hl hs), wf.inj, fun id p b o hl hs => ?_, fun b h => Nat.lt_of_lt_of_le (wf.lt b h) hsize⟩, ⟨hos, ht, ho, hsize, fun b h _ => hb b h, fun b h => .inl h, fun b h => .inl h⟩⟩
  obtain ⟨h1, c, e, h2⟩ := wf.row id p b o hl hs
  exact ⟨h1, c, e, by rw [hb b (lt _ _ _ _ hl hs)]; exact h2⟩
theorem sort_ok {pr0 : Pr} (hm : pr0.P.follows .mixedOrders = true) (hp0 : PrimOk pr0) {f : FuncId} (h0 : Ev pr0 (.call f [.vec 0 0 1 0 0] [.vec true 1 []]) (.val (.tup []) [.vec true 1 []]))
    (hcon : ∀ (blk off cap : Nat) (zs : List Int) (w : World), Go.Sort.Holds (Value.int .i64) w blk off zs.toArray → blk < w.heap.size → zs.length < 4611686018427387904 →
      Calls pr0.P f #[.slice (some ⟨blk, off, none⟩) zs.length cap] w fun e w' => e = .returned (.tuple #[]) ∧ ∃ n os, w' = Go.Sort.grow (Go.Sort.putRow (Value.int .i64) (Go.Sort.ahead w n) blk off (zs.mergeSort fun x y => decide (x ≤ y)).toArray) os)
    (args : List V) (H : List Ob) (v : V) (H' : List Ob) (hc : sortPrim args H = some (v, H')) (w : World) (F : Nat → Prop) (σ : Sg) (cs : Array Value) (wf : Wf w F σ (ofL H)) (hr : RepL w F σ (ofL H) args cs) :
    Calls pr0.P f cs w fun e w' => ∃ c F' σ', e = .returned c ∧ Step w F σ (ofL H) w' F' σ' (ofL H') ∧ RepV w' F' σ' (ofL H') v c := by
  unfold sortPrim at hc
  split at hc
  · rename_i n m es
    split at hc
    · rename_i hcnd
      obtain ⟨rfl, hlen, hmax⟩ := hcnd
      split at hc
      · rename_i hn0
        subst hn0
        obtain rfl : es = [] := List.length_eq_zero_iff.1 hlen
        obtain ⟨rfl, rfl⟩ := Prod.mk.inj (Option.some.inj hc)
        obtain ⟨n0, hn⟩ := h0
        obtain ⟨_, hcl⟩ := (all_ok hm hp0 n0).1 f _ _ _ _ (hn n0 (Nat.le_refl _))
        exact hcl w F σ cs wf hr
      · rename_i hn0
        obtain ⟨zs, hzs, he⟩ := Option.map_eq_some_iff.1 hc
        obtain ⟨rfl, rfl⟩ := Prod.mk.inj he
        have hes := intsOf_spec hzs
        have hzl : zs.length = m := by rw [← hlen, hes]; simp
        have hsz : cs.size = 1 := hr.1.symm
        have hv := hr.2 0 _ rfl
        obtain ⟨c0, rfl⟩ : ∃ c0, cs = #[c0] := by
          match cs, hsz with
          | ⟨[c0]⟩, _ => exact ⟨c0, rfl⟩
        have hv : RepV w F σ (ofL [.vec true 1 es]) (.vec 0 m 1 0 m) c0 := hv
        cases hv with
        | @vec _ _ _ _ _ a cap o ho hl hcp ha hh =>
          have hob : ofL [Ob.vec true 1 es] 0 = some (.vec true 1 es) := rfl
          rw [hob] at ho
          obtain rfl := Option.some.inj ho
          obtain ⟨_, _, _, hw⟩ := (hh _ rfl).2 hlen.symm
          obtain ⟨b, o0, hs, rfl, _⟩ := hw (by omega)
          cases wf.obj 0 _ hob with
          | vec h0' hszs hfl hrr =>
            obtain ⟨b', o', cur, ty, q1, q2, q3⟩ := hrr (by rintro rfl; simp at hlen; omega)
            rw [hs] at q1
            obtain ⟨rfl, rfl⟩ := Prod.mk.inj (Option.some.inj q1)
            have hblk : b < w.heap.size := (Array.getElem?_eq_some_iff.1 q2).1
            have cell : ∀ j (hj : j < zs.length), cur[o0 + j]? = some (.int .i64 (zs[j])) := fun j hj => by
              have hej : es[j]? = some [.t (.int .i64 (zs[j]))] := by rw [hes]; simp [hj]
              obtain ⟨u, k1, k2⟩ := q3 j 0 _ _ hej rfl
              cases k2 with
              | t k2 => cases k2 with
                | int => simpa using k1
            have hH : Go.Sort.Holds (Value.int .i64) w b o0 zs.toArray := fun j hj => by
              have hj' : j < zs.length := by simpa using hj
              refine ⟨?_, ?_⟩
              · rw [cell_of q2, cell j hj']
                simp [hj']
              · simp [World.frozen?, q2]
            have hcon' := hcon b o0 cap zs w hH hblk (by omega)
            rw [show zs.length = m from hzl] at hcon'
            have ead : (⟨b, o0 + 0 * 1, none⟩ : Addr) = ⟨b, o0, none⟩ := by simp
            rw [ead]
            refine hcon'.mono fun e w' ⟨he, nn, os, hw'⟩ => ?_
            subst he
            refine ⟨_, F, σ, rfl, ?_, .tup rfl fun i v hi => by simp at hi⟩
            have st1 : Step w F σ (ofL [.vec true 1 es]) (w.setRow b (Go.Sort.putCells (Value.int .i64) o0 (srt zs).toArray cur)) F σ (upd (ofL [.vec true 1 es]) 0 (some (.vec true 1 ((srt zs).map fun n => [.t (.int .i64 n)])))) := by
              refine step_store wf (p := none) hob ⟨_, hob, by simp⟩ hs q2 (by simp [Go.Sort.putCells]) ⟨fun m' hm => ?_⟩ (fun q hq => ?_) fun le => ?_
              · obtain rfl := Option.some.inj hm
                refine ⟨_, rfl, by simp [srt_len, hzl, hlen], fun _ => ⟨rfl, fun _ h => h, fun fl s2 es2 he2 => ?_⟩⟩
                obtain ⟨rfl, rfl, rfl⟩ := Ob.vec.inj he2
                refine ⟨_, _, rfl, fun i j e c v h1 h2 hv => ?_⟩
                have := hfl rfl e (List.mem_of_getElem? h1) c (List.mem_of_getElem? h2)
                cases c with
                | t _ => cases hv
                | row _ _ => cases this
                | gone _ => cases this
              · cases q with
                | none => exact ⟨_, hob, by simp⟩
                | some q =>
                  obtain ⟨i, j⟩ := q
                  obtain ⟨fl, sz', es2, e, s, r, g1, g2, g3⟩ := hq
                  rw [upd_same] at g1
                  obtain ⟨_, _, rfl⟩ := Ob.vec.inj (Option.some.inj g1)
                  rw [List.getElem?_map, Option.map_eq_some_iff] at g2
                  obtain ⟨y, _, rfl⟩ := g2
                  cases j with
                  | zero => cases g3
                  | succ j => simp at g3
              · refine .vec (by omega) (fun e he => ?_) (fun _ e he c hc => ?_) fun _ => ⟨b, o0, _, ty, hs, setRow_heap w b cur _ ty _ q2, fun i j e c hi hj => ?_⟩
                · obtain ⟨y, _, rfl⟩ := List.mem_map.1 he; rfl
                · obtain ⟨y, _, rfl⟩ := List.mem_map.1 he
                  obtain rfl := List.mem_singleton.1 hc
                  rfl
                · rw [List.getElem?_map, Option.map_eq_some_iff] at hi
                  obtain ⟨y, hy, rfl⟩ := hi
                  obtain ⟨rfl, rfl⟩ : j = 0 ∧ c = .t (.int .i64 y) := by
                    cases j with
                    | zero => exact ⟨rfl, (Option.some.inj hj).symm⟩
                    | succ j => simp at hj
                  have hi' : i < (srt zs).length := (List.getElem?_eq_some_iff.1 hy).1
                  have hlt : o0 + i < cur.size := by
                    have := cell i (by rw [← srt_len]; exact hi')
                    exact (Array.getElem?_eq_some_iff.1 this).1
                  refine ⟨.int .i64 y, ?_, .t (.int ..)⟩
                  have e1 : o0 + i * 1 + 0 = o0 + i := by omega
                  rw [e1]
                  have e2 : (srt zs)[i] = y := (List.getElem?_eq_some_iff.1 hy).2
                  simp [Go.Sort.putCells, hlt, hi', e2]
            have hM : upd (ofL [Ob.vec true 1 es]) 0 (some (.vec true 1 ((srt zs).map fun n => [.t (.int .i64 n)]))) = ofL [.vec true 1 ((srt zs).map fun n => [.t (.int .i64 n)])] := by
              funext i
              cases i with
              | zero => rfl
              | succ i => simp [upd, ofL]
            rw [hM] at st1
            have hrow : (Go.Sort.putRow (Value.int .i64) (Go.Sort.ahead w nn) b o0 (zs.mergeSort fun x y => decide (x ≤ y)).toArray).heap = (w.setRow b (Go.Sort.putCells (Value.int .i64) o0 (srt zs).toArray cur)).heap := by
              apply Array.ext_getElem?
              intro i
              simp only [Go.Sort.putRow, Go.Sort.mapBlock, World.setRow, Go.Sort.ahead, Array.getElem?_modify]
              by_cases hi : b = i
              · subst hi
                simp only [if_pos rfl, q2, Option.map_some, Go.Sort.onCells]
                rfl
              · simp only [if_neg hi]
            refine st1.trans (step_grow st1.wf ?_ ?_ ?_ ?_ fun b1 hb1 => ?_)
            · rw [hw']; rfl
            · rw [hw']; rfl
            · rw [hw']; rfl
            · rw [hw', Go.Sort.size_grow, hrow]; omega
            · rw [hw']
              simp only [Go.Sort.grow]
              rw [hrow, Array.getElem?_append_left hb1]
    · cases hc
  · cases hc
end Go.Ev

namespace Go.Ev
set_option linter.unusedVariables false
set_option linter.unusedSimpArgs false
def clonePrimN (sz : Nat) : List V → List Ob → Option (V × List Ob)
  | [.t (.seq sz' es)], [] => if sz' = sz ∧ es.length ≤ 1048576 then some (.vec 0 es.length sz 0 es.length, [.vec true sz (es.map (List.map C.t))]) else none
  | _, _ => none
theorem cloneN_ok {pr0 : Pr} {sz : Nat} (h0 : 0 < sz) (hm : pr0.P.follows .mixedOrders = true) (hp0 : PrimOk pr0) {f : FuncId} (h1 : Ev pr0 (.call f [.t (.sn true)] []) (.val (.t .nils) [])) (h2 : Ev pr0 (.call f [.t (.sn false)] []) (.val (.vec 0 0 sz 0 0) [.vec true sz []]))
    (h3 : ∀ (e : List T) (es : List (List T)), es.length + 1 ≤ 1048576 → Ev pr0 (.call f [.t (.seq sz (e :: es))] []) (.val (.vec 0 (es.length + 1) sz 0 (es.length + 1)) [.vec true sz ((e :: es).map (List.map C.t))]))
    (args : List V) (H : List Ob) (v : V) (H' : List Ob) (hc : clonePrimN sz args H = some (v, H')) (w : World) (F : Nat → Prop) (σ : Sg) (cs : Array Value) (wf : Wf w F σ (ofL H)) (hr : RepL w F σ (ofL H) args cs) :
    Calls pr0.P f cs w fun e w' => ∃ c F' σ', e = .returned c ∧ Step w F σ (ofL H) w' F' σ' (ofL H') ∧ RepV w' F' σ' (ofL H') v c := by
  have run : ∀ {q : List V} {o : V} {Ho : List Ob}, Ev pr0 (.call f q []) (.val o Ho) → Wf w F σ (ofL []) → RepL w F σ (ofL []) q cs → Calls pr0.P f cs w fun e w' => ∃ c F' σ', e = .returned c ∧ Step w F σ (ofL []) w' F' σ' (ofL Ho) ∧ RepV w' F' σ' (ofL Ho) o c := fun h wf hr => by
    obtain ⟨n0, hn⟩ := h
    obtain ⟨_, hc⟩ := (all_ok hm hp0 n0).1 f _ [] _ _ (hn n0 (Nat.le_refl _))
    exact hc w F σ cs wf hr
  unfold clonePrimN at hc
  split at hc
  · rename_i sz' es
    split at hc
    · rename_i hlen
      obtain ⟨rfl, hlen⟩ := hlen
      obtain ⟨rfl, rfl⟩ := Prod.mk.inj (Option.some.inj hc)
      cases es with
      | cons e es => exact run (h3 e es (by simpa using hlen)) wf hr
      | nil =>
        have hsz : cs.size = 1 := hr.1.symm
        have hv := hr.2 0 _ rfl
        have hform : ∃ a cap, cs.getD 0 Go.undef = .slice a 0 cap := by
          generalize cs.getD 0 Go.undef = c at hv
          cases hv with
          | t hv =>
            cases hv with
            | seq0 sz a cap => exact ⟨_, _, rfl⟩
            | seq => exact ⟨_, _, rfl⟩
        obtain ⟨a, cap, hac⟩ := hform
        have hr2 : RepL w F σ (ofL []) [.t (.sn a.isNone)] cs := ⟨by simp [hsz], fun i x hi => by
          cases i with
          | zero => obtain rfl : V.t (.sn a.isNone) = x := by simpa using hi
                    rw [hac]; exact .t (.sn a cap)
          | succ i => simp at hi⟩
        cases ha : a.isNone with
        | false => rw [ha] at hr2; exact run h2 wf hr2
        | true =>
          rw [ha] at hr2
          refine (run h1 wf hr2).mono fun e w' ⟨c, F', σ', he, hs, hv⟩ => ?_
          obtain rfl := rep_nils hv
          have hM : upd (ofL []) 0 (some (Ob.vec true sz' [])) = ofL [Ob.vec true sz' []] := by
            funext i
            cases i with
            | zero => rfl
            | succ i => simp [upd, ofL]
          have st := step_new (w' := w') (nb := 0) (o := .vec true sz' []) (x := none) hs.wf rfl rfl rfl rfl (Nat.le_refl _) (fun _ _ => rfl) (fun b o hx => by cases hx) (fun q hq => by
            cases q with
            | none => rfl
            | some q => obtain ⟨i, j⟩ := q; obtain ⟨fl, sz2, es2, e, s, r, h1, h2, _⟩ := hq; rw [upd_same] at h1; obtain ⟨_, _, rfl⟩ := Ob.vec.inj (Option.some.inj h1); simp at h2) (fun le => .vec h0 (by simp) (by simp) (by simp))
          rw [hM] at st
          refine ⟨_, F', _, he, hs.trans st, ?_⟩
          exact .vec (o := .vec true sz' []) rfl (by simp) (by simp) (by simp) fun m hm => ⟨by simp, fun _ => ⟨true, [], rfl, fun hp => by simp at hp⟩⟩
    · cases hc
  · cases hc
end Go.Ev

namespace Go.Ev
set_option linter.unusedVariables false
set_option linter.unusedSimpArgs false
structure Cell where
  kind : Int
  n : Int
def Cell.ce (x : Cell) : List T := [.int .i64 x.kind, .int .i64 x.n]
def Cell.cc (x : Cell) : List C := [.t (.int .i64 x.kind), .t (.int .i64 x.n)]
inductive Tm where
  | node (k n : Int) (ks : List Tm)
def arity (k : Int) : Int := if k = 1 then 0 else if k = 2 then 0 else if k = 3 then 1 else if k = 4 then 2 else if k = 5 then 2 else if k = 7 then 2 else if k = 6 then 3 else -1
def bindsAt (k : Int) (i : Nat) : Nat := if k = 3 then 1 else if k = 7 ∧ i = 1 then 1 else 0
def cellGood (c : Cell) : Bool := if c.kind = 1 then decide (0 ≤ c.n ∧ c.n ≤ 99) else if c.kind = 2 then decide (-1000000 ≤ c.n ∧ c.n ≤ 1000000) else decide (arity c.kind > 0 ∧ c.n = 0)
def readK (rd : List Cell → Option (Tm × List Cell)) : Nat → List Cell → Option (List Tm × List Cell)
  | 0, l => some ([], l)
  | n + 1, l => match rd l with
    | none => none
    | some (t, r) => match readK rd n r with
      | none => none
      | some (ts, q) => some (t :: ts, q)
def readT : Nat → List Cell → Option (Tm × List Cell)
  | 0, _ => none
  | _ + 1, [] => none
  | f + 1, c :: r => if cellGood c = true then match readK (readT f) (arity c.kind).toNat r with
      | none => none
      | some (ts, q) => some (.node c.kind c.n ts, q)
    else none
mutual
def Tm.cells : Tm → List Cell
  | .node k n ks => ⟨k, n⟩ :: Tm.cellsL ks
def Tm.cellsL : List Tm → List Cell
  | [] => []
  | t :: ts => t.cells ++ Tm.cellsL ts
end
mutual
def Tm.frees : Nat → Tm → List Int
  | d, .node k n ks => if k = 1 then (if n ≥ d then [n - d] else []) else Tm.freesL k d 0 ks
def Tm.freesL : Int → Nat → Nat → List Tm → List Int
  | _, _, _, [] => []
  | k, d, i, t :: ts => t.frees (d + bindsAt k i) ++ Tm.freesL k d (i + 1) ts
end
mutual
def Tm.sizes : Tm → List Int
  | .node k n ks => (Tm.cells (.node k n ks)).length :: Tm.sizesL ks
def Tm.sizesL : List Tm → List Int
  | [] => []
  | t :: ts => t.sizes ++ Tm.sizesL ts
end
mutual
def Tm.bounds : Nat → Tm → List Int
  | d, .node k n ks => (d : Int) :: Tm.boundsL k d 0 ks
def Tm.boundsL : Int → Nat → Nat → List Tm → List Int
  | _, _, _, [] => []
  | k, d, i, t :: ts => t.bounds (d + bindsAt k i) ++ Tm.boundsL k d (i + 1) ts
end
def begins : Nat → List Tm → List Int
  | _, [] => []
  | p, t :: ts => (p : Int) :: begins (p + t.cells.length) ts
mutual
def Tm.kidsAt : Nat → Tm → List (List Int)
  | p, .node k n ks => begins (p + 1) ks :: Tm.kidsAtL (p + 1) ks
def Tm.kidsAtL : Nat → List Tm → List (List Int)
  | _, [] => []
  | p, t :: ts => t.kidsAt p ++ Tm.kidsAtL (p + t.cells.length) ts
end
mutual
def Tm.ok : Tm → Prop
  | .node k n ks => cellGood ⟨k, n⟩ = true ∧ (ks.length : Int) = arity k ∧ Tm.okL ks
def Tm.okL : List Tm → Prop
  | [] => True
  | t :: ts => t.ok ∧ Tm.okL ts
end
theorem arity_bd (k : Int) : -1 ≤ arity k ∧ arity k ≤ 3 := by unfold arity; repeat' split <;> omega
theorem cellGood_ar {c : Cell} (h : cellGood c = true) : 0 ≤ arity c.kind := by
  unfold cellGood at h
  split at h
  · rename_i e; rw [e]; decide
  · split at h
    · rename_i e; rw [e]; decide
    · have := of_decide_eq_true h; omega
theorem cells_pos : ∀ t : Tm, 0 < t.cells.length
  | .node k n ks => by simp [Tm.cells]
theorem readK_spec {rd : List Cell → Option (Tm × List Cell)} (hr : ∀ l t r, rd l = some (t, r) → l = t.cells ++ r ∧ t.ok) : ∀ (n : Nat) (l : List Cell) (ts : List Tm) (q : List Cell), readK rd n l = some (ts, q) → l = Tm.cellsL ts ++ q ∧ ts.length = n ∧ Tm.okL ts
  | 0, l, ts, q, h => by
    obtain ⟨rfl, rfl⟩ := Prod.mk.inj (Option.some.inj h)
    exact ⟨rfl, rfl, trivial⟩
  | n + 1, l, ts, q, h => by
    unfold readK at h
    split at h
    · cases h
    · rename_i t r h1
      split at h
      · cases h
      · rename_i ts2 q2 h2
        obtain ⟨rfl, rfl⟩ := Prod.mk.inj (Option.some.inj h)
        obtain ⟨e1, o1⟩ := hr _ _ _ h1
        obtain ⟨e2, l2, o2⟩ := readK_spec hr n _ _ _ h2
        exact ⟨by rw [e1, e2, Tm.cellsL, List.append_assoc], by simp [l2], o1, o2⟩
theorem readT_spec : ∀ (f : Nat) (l : List Cell) (t : Tm) (r : List Cell), readT f l = some (t, r) → l = t.cells ++ r ∧ t.ok
  | 0, l, t, r, h => by cases h
  | f + 1, [], t, r, h => by cases h
  | f + 1, c :: l, t, r, h => by
    unfold readT at h
    split at h
    · rename_i hc
      split at h
      · cases h
      · rename_i ts q h2
        obtain ⟨rfl, rfl⟩ := Prod.mk.inj (Option.some.inj h)
        obtain ⟨e, l2, o2⟩ := readK_spec (readT_spec f) _ _ _ _ h2
        have := cellGood_ar hc
        exact ⟨by rw [e]; rfl, hc, by omega, o2⟩
    · cases h
mutual
theorem sizes_len : ∀ t : Tm, t.sizes.length = t.cells.length
  | .node k n ks => by simp only [Tm.sizes, Tm.cells, List.length_cons, sizesL_len ks]
theorem sizesL_len : ∀ ts : List Tm, (Tm.sizesL ts).length = (Tm.cellsL ts).length
  | [] => rfl
  | t :: ts => by simp only [Tm.sizesL, Tm.cellsL, List.length_append, sizes_len t, sizesL_len ts]
end
mutual
theorem bounds_len : ∀ (d : Nat) (t : Tm), (t.bounds d).length = t.cells.length
  | d, .node k n ks => by simp only [Tm.bounds, Tm.cells, List.length_cons, boundsL_len k d 0 ks]
theorem boundsL_len : ∀ (k : Int) (d i : Nat) (ts : List Tm), (Tm.boundsL k d i ts).length = (Tm.cellsL ts).length
  | k, d, i, [] => rfl
  | k, d, i, t :: ts => by simp only [Tm.boundsL, Tm.cellsL, List.length_append, bounds_len _ t, boundsL_len k d (i + 1) ts]
end
mutual
theorem kidsAt_len : ∀ (p : Nat) (t : Tm), (t.kidsAt p).length = t.cells.length
  | p, .node k n ks => by simp only [Tm.kidsAt, Tm.cells, List.length_cons, kidsAtL_len _ ks]
theorem kidsAtL_len : ∀ (p : Nat) (ts : List Tm), (Tm.kidsAtL p ts).length = (Tm.cellsL ts).length
  | p, [] => rfl
  | p, t :: ts => by simp only [Tm.kidsAtL, Tm.cellsL, List.length_append, kidsAt_len _ t, kidsAtL_len _ ts]
end
def codeOf (l : List Cell) : Option Tm := if l.length > 600 then none else match readT 601 l with
  | some (t, []) => if t.frees 0 = [] then some t else none
  | _ => none
def termOf (l : List Cell) : Option Tm := if l.length > 600 then none else match readT 601 l with
  | some (t, []) => some t
  | _ => none
mutual
def Tm.tp : Tm → T
  | .node k n ks => .ptr [.int .i64 k, .int .i64 n, .seq 1 (Tm.tpL ks), .int .i64 (min ((Tm.cells (.node k n ks)).length : Int) 1000000)] 0
def Tm.tpL : List Tm → List (List T)
  | [] => []
  | t :: ts => [t.tp] :: Tm.tpL ts
end
mutual
def Tm.ts : Tm → List T
  | .node k n ks => [.int .i64 k, .int .i64 n, .seq 3 (Tm.tsL ks)]
def Tm.tsL : List Tm → List (List T)
  | [] => []
  | t :: ts => t.ts :: Tm.tsL ts
end
@[simp] theorem tpL_len : ∀ ts : List Tm, (Tm.tpL ts).length = ts.length
  | [] => rfl
  | t :: ts => by simp [Tm.tpL, tpL_len ts]
@[simp] theorem tsL_len : ∀ ts : List Tm, (Tm.tsL ts).length = ts.length
  | [] => rfl
  | t :: ts => by simp [Tm.tsL, tsL_len ts]
theorem tpL_app : ∀ a b : List Tm, Tm.tpL (a ++ b) = Tm.tpL a ++ Tm.tpL b
  | [], b => rfl
  | x :: a, b => by simp [Tm.tpL, tpL_app a b]
theorem tsL_app : ∀ a b : List Tm, Tm.tsL (a ++ b) = Tm.tsL a ++ Tm.tsL b
  | [], b => rfl
  | x :: a, b => by simp [Tm.tsL, tsL_app a b]
theorem cellsL_app : ∀ a b : List Tm, Tm.cellsL (a ++ b) = Tm.cellsL a ++ Tm.cellsL b
  | [], b => rfl
  | x :: a, b => by simp [Tm.cellsL, cellsL_app a b]
def Tm.size (t : Tm) : Int := min (t.cells.length : Int) 1000000
theorem Tm.tp_cells (t : Tm) : ∃ k n s, t.tp = .ptr [.int .i64 k, .int .i64 n, s, .int .i64 t.size] 0 := by
  cases t with
  | node k n ks => exact ⟨k, n, _, rfl⟩
mutual
theorem frees_len : ∀ (t : Tm) (d : Nat), (t.frees d).length ≤ t.cells.length
  | .node k n ks, d => by
    have := freesL_len ks k d 0
    unfold Tm.frees
    simp only [Tm.cells, List.length_cons]
    split
    · split <;> simp
    · omega
theorem freesL_len : ∀ (ts : List Tm) (k : Int) (d i : Nat), (Tm.freesL k d i ts).length ≤ (Tm.cellsL ts).length
  | [], k, d, i => by simp [Tm.freesL]
  | t :: ts, k, d, i => by
    have h1 := frees_len t (d + bindsAt k i)
    have h2 := freesL_len ts k d (i + 1)
    simp only [Tm.freesL, Tm.cellsL, List.length_append]
    omega
end
theorem bindsAt_le (k : Int) (i : Nat) : bindsAt k i ≤ 1 := by
  unfold bindsAt
  split
  · omega
  · split <;> omega
def sumC : List Tm → Int
  | [] => 0
  | t :: ts => t.size + sumC ts
theorem Tm.size_bd (t : Tm) : 0 ≤ t.size ∧ t.size ≤ 1000000 := by unfold Tm.size; omega
theorem sumC_cap : ∀ ts : List Tm, min (1 + sumC ts) 1000000 = min (1 + ((Tm.cellsL ts).length : Int)) 1000000
  | [] => rfl
  | t :: ts => by
    have ih := sumC_cap ts
    simp only [sumC, Tm.cellsL, List.length_append, Tm.size]
    omega
theorem Tm.tp_node (k n : Int) (ks : List Tm) : Tm.tp (.node k n ks) = .ptr [.int .i64 k, .int .i64 n, .seq 1 (Tm.tpL ks), .int .i64 (if (1000000 : Int) < 1 + sumC ks then 1000000 else 1 + sumC ks)] 0 := by
  have h := sumC_cap ks
  simp only [Tm.tp, Tm.cells, List.length_cons]
  have e : min (((Tm.cellsL ks).length + 1 : Nat) : Int) 1000000 = if (1000000 : Int) < 1 + sumC ks then 1000000 else 1 + sumC ks := by
    split <;> omega
  rw [e]
end Go.Ev

namespace Go.Ev
set_option linter.unusedVariables false
set_option linter.unusedSimpArgs false
structure Frm where
  kind : Int
  pl : Int
  env : Int
  val : Int
structure Vl where
  fn : Bool
  num : Int
  pl : Int
  env : Int
structure Bd where
  val : Int
  up : Int
structure Mc where
  done : Bool
  pl : Int
  env : Int
  val : Int
  frs : List Frm
  vals : List Vl
  bds : List Bd
structure Cd where
  cells : List Cell
  sizes : List Int
  bounds : List Int
  kids : List (List Int)
def Tm.cd (t : Tm) : Cd := ⟨t.cells, t.sizes, t.bounds 0, t.kidsAt 0⟩
def Frm.ce (x : Frm) : List T := [.int .i64 x.kind, .int .i64 x.pl, .int .i64 x.env, .int .i64 x.val]
def Vl.ce (x : Vl) : List T := [.bool x.fn, .int .i64 x.num, .int .i64 x.pl, .int .i64 x.env]
def Bd.ce (x : Bd) : List T := [.int .i64 x.val, .int .i64 x.up]
def Frm.cc (x : Frm) : List C := [.t (.int .i64 x.kind), .t (.int .i64 x.pl), .t (.int .i64 x.env), .t (.int .i64 x.val)]
def Vl.cc (x : Vl) : List C := [.t (.bool x.fn), .t (.int .i64 x.num), .t (.int .i64 x.pl), .t (.int .i64 x.env)]
def Bd.cc (x : Bd) : List C := [.t (.int .i64 x.val), .t (.int .i64 x.up)]
inductive Sr where
  | ok (m : Mc)
  | no
  | full
def upN (bs : List Bd) : Nat → Int → Int
  | 0, e => e
  | n + 1, e => upN bs n (bs.getD e.toNat ⟨0, -1⟩).up
def Mc.next (m : Mc) (p e : Int) : Mc := { m with done := false, pl := p, env := e, val := -1 }
def Mc.come (m : Mc) (v : Int) : Mc := { m with done := true, pl := -1, env := -1, val := v }
def Mc.new (m : Mc) (v : Vl) : Sr := if m.vals.length = 500 then .full else .ok (Mc.come { m with vals := m.vals ++ [v] } m.vals.length)
def Mc.bind (m : Mc) (v up p : Int) : Sr := if m.bds.length = 500 then .full else .ok (Mc.next { m with bds := m.bds ++ [⟨v, up⟩] } p m.bds.length)
def Cd.at_ (c : Cd) (p : Int) : Cell := c.cells.getD p.toNat ⟨0, 0⟩
def Cd.kid (c : Cd) (p : Int) (i : Nat) : Int := (c.kids.getD p.toNat []).getD i 0
def Mc.vl (m : Mc) (k : Int) : Vl := m.vals.getD k.toNat ⟨false, 0, 0, 0⟩
def Mc.begin (c : Cd) (m : Mc) : Sr :=
  if (c.at_ m.pl).kind = 2 then m.new ⟨false, (c.at_ m.pl).n, 0, 0⟩
  else if (c.at_ m.pl).kind = 3 then m.new ⟨true, 0, m.pl, m.env⟩
  else if (c.at_ m.pl).kind = 1 then .ok (m.come (m.bds.getD (upN m.bds (c.at_ m.pl).n.toNat m.env).toNat ⟨0, 0⟩).val)
  else if m.frs.length = 500 then .full
  else .ok (Mc.next { m with frs := ⟨(c.at_ m.pl).kind, m.pl, m.env, -1⟩ :: m.frs } (m.pl + 1) m.env)
def Mc.goOn (c : Cd) (m : Mc) (f : Frm) (r : List Frm) : Sr :=
  if f.kind = 7 then Mc.bind { m with frs := r } m.val f.env (c.kid f.pl 1)
  else if f.kind = 6 then (if (m.vl m.val).fn = true then .no else .ok (Mc.next { m with frs := r } (c.kid f.pl (if (m.vl m.val).num = 0 then 1 else 2)) f.env))
  else if f.val < 0 then .ok (Mc.next { m with frs := { f with val := m.val } :: r } (c.kid f.pl 1) f.env)
  else if f.kind = 4 then (if (m.vl f.val).fn = true then Mc.bind { m with frs := r } m.val (m.vl f.val).env (c.kid (m.vl f.val).pl 0) else .no)
  else if (m.vl f.val).fn = true ∨ (m.vl m.val).fn = true ∨ ¬ (-1000000 ≤ (m.vl f.val).num + (m.vl m.val).num ∧ (m.vl f.val).num + (m.vl m.val).num ≤ 1000000) then .no
  else Mc.new { m with frs := r } ⟨false, (m.vl f.val).num + (m.vl m.val).num, 0, 0⟩
def Mc.step (c : Cd) (m : Mc) : Sr :=
  if m.done = true then match m.frs with
    | [] => .no
    | f :: r => m.goOn c f r
  else m.begin c
def Mc.start : Mc := ⟨false, 0, -1, -1, [], [], []⟩
def Mc.play (c : Cd) : Nat → Mc → Mc × Nat
  | 0, m => (m, 0)
  | k + 1, m => match m.step c with
    | .ok m' => ((m'.play c k).1, (m'.play c k).2 + 1)
    | _ => (m, 0)

inductive BChain (bs : List Bd) : Int → Nat → Prop
  | nil : BChain bs (-1) 0
  | cons {e : Nat} {b : Bd} {n : Nat} : bs[e]? = some b → BChain bs b.up n → BChain bs e (n + 1)
inductive Elder (bs : List Bd) (k : Int) : Int → Prop
  | nil : Elder bs k (-1)
  | cons {e : Nat} {b : Bd} : bs[e]? = some b → b.val < k → Elder bs k b.up → Elder bs k e
structure MFits (c : Cd) (bs : List Bd) (p e : Int) : Prop where
  pl : 0 ≤ p
  fit : ∃ b : Nat, c.bounds[p.toNat]? = some (b : Int) ∧ BChain bs e b
structure VlOk (c : Cd) (bs : List Bd) (k : Nat) (v : Vl) : Prop where
  num : v.fn = false → v.pl = 0 ∧ v.env = 0 ∧ -1000000 ≤ v.num ∧ v.num ≤ 1000000
  fun_ : v.fn = true → v.num = 0 ∧ MFits c bs v.pl v.env ∧ (c.at_ v.pl).kind = 3 ∧ Elder bs k v.env
structure FrmOk (c : Cd) (bs : List Bd) (n : Nat) (f : Frm) : Prop where
  fits : MFits c bs f.pl f.env
  kind : (c.at_ f.pl).kind = f.kind
  one : f.kind = 4 ∨ f.kind = 5 ∨ f.kind = 6 ∨ f.kind = 7
  val : f.kind = 4 ∨ f.kind = 5 → -1 ≤ f.val ∧ f.val < n
  none : f.kind = 6 ∨ f.kind = 7 → f.val = -1
structure MGood (c : Cd) (m : Mc) : Prop where
  lv : m.vals.length ≤ 500
  lb : m.bds.length ≤ 500
  lf : m.frs.length ≤ 500
  bds : ∀ (k : Nat) (b : Bd), m.bds[k]? = some b → 0 ≤ b.val ∧ b.val < m.vals.length ∧ -1 ≤ b.up ∧ b.up < k
  vals : ∀ (k : Nat) (v : Vl), m.vals[k]? = some v → VlOk c m.bds k v
  frs : ∀ f ∈ m.frs, FrmOk c m.bds m.vals.length f
  did : m.done = true → m.pl = -1 ∧ m.env = -1 ∧ 0 ≤ m.val ∧ m.val < m.vals.length
  todo : m.done = false → m.val = -1 ∧ MFits c m.bds m.pl m.env
structure PlaceOk (c : Cd) (p : Nat) (x : Cell) (b : Nat) (ks : List Int) : Prop where
  cell : c.cells[p]? = some x
  bound : c.bounds[p]? = some (b : Int)
  kids : c.kids[p]? = some ks
  good : cellGood x = true
  many : (ks.length : Int) = arity x.kind
  var : x.kind = 1 → x.n < b
  part : ∀ (i : Nat) (k : Int), ks[i]? = some k → ∃ (q : Nat) (s : Nat), k = q ∧ c.bounds[q]? = some ((b + bindsAt x.kind i : Nat) : Int) ∧ c.sizes[q]? = some (s : Int) ∧ (i = 0 → q = p + 1) ∧ ∀ k', ks[i + 1]? = some k' → k' = k + s
structure CdOk (c : Cd) : Prop where
  len : c.cells.length ≤ 600
  sizes : c.sizes.length = c.cells.length
  bounds : c.bounds.length = c.cells.length
  kids : c.kids.length = c.cells.length
  pos : 0 < c.cells.length
  zero : c.bounds[0]? = some 0
  place : ∀ p, p < c.cells.length → ∃ x b ks, PlaceOk c p x b ks
theorem BChain.app {bs : List Bd} {e : Int} {n : Nat} (h : BChain bs e n) (x : List Bd) : BChain (bs ++ x) e n := by
  induction h with
  | nil => exact .nil
  | cons h1 _ ih => exact .cons (by rw [List.getElem?_append_left (List.getElem?_eq_some_iff.1 h1).1]; exact h1) ih
theorem Elder.app {bs : List Bd} {k e : Int} (h : Elder bs k e) (x : List Bd) : Elder (bs ++ x) k e := by
  induction h with
  | nil => exact .nil
  | cons h1 h2 _ ih => exact .cons (by rw [List.getElem?_append_left (List.getElem?_eq_some_iff.1 h1).1]; exact h1) h2 ih
theorem Elder.mono {bs : List Bd} {k k' e : Int} (h : Elder bs k e) (hk : k ≤ k') : Elder bs k' e := by
  induction h with
  | nil => exact .nil
  | cons h1 h2 _ ih => exact .cons h1 (by omega) ih
theorem MFits.app {c : Cd} {bs : List Bd} {p e : Int} (h : MFits c bs p e) (x : List Bd) : MFits c (bs ++ x) p e :=
  ⟨h.pl, let ⟨b, h1, h2⟩ := h.fit; ⟨b, h1, h2.app x⟩⟩
theorem VlOk.app {c : Cd} {bs : List Bd} {k : Nat} {v : Vl} (h : VlOk c bs k v) (x : List Bd) : VlOk c (bs ++ x) k v :=
  ⟨h.num, fun e => let ⟨h1, h2, h3, h4⟩ := h.fun_ e; ⟨h1, h2.app x, h3, h4.app x⟩⟩
theorem FrmOk.app {c : Cd} {bs : List Bd} {n n' : Nat} {f : Frm} (h : FrmOk c bs n f) (x : List Bd) (hn : n ≤ n') : FrmOk c (bs ++ x) n' f :=
  ⟨h.fits.app x, h.kind, h.one, fun e => ⟨(h.val e).1, by have := (h.val e).2; omega⟩, h.none⟩
theorem BChain.bd {bs : List Bd} {e : Int} {n : Nat} (h : BChain bs e n) : -1 ≤ e ∧ e < bs.length := by
  cases h with
  | nil => omega
  | cons h1 _ => have := (List.getElem?_eq_some_iff.1 h1).1; omega
theorem BChain.up {bs : List Bd} {e : Int} {n : Nat} (h : BChain bs e (n + 1)) : 0 ≤ e ∧ ∃ b, bs[e.toNat]? = some b ∧ BChain bs b.up n := by
  cases h with
  | cons h1 h2 => exact ⟨by omega, _, by simpa using h1, h2⟩
theorem chain_upN {bs : List Bd} : ∀ (k n : Nat) (e : Int), BChain bs e (k + n) → BChain bs (upN bs k e) n
  | 0, n, e, h => by simpa [upN] using h
  | k + 1, n, e, h => by
    have h' : BChain bs e (k + n + 1) := by rw [show k + n + 1 = k + 1 + n by omega]; exact h
    obtain ⟨h0, b, hb, hc⟩ := h'.up
    have := chain_upN k n b.up hc
    simp only [upN, List.getD_eq_getElem?_getD, hb, Option.getD_some]
    exact this
theorem MFits.chain {c : Cd} {bs : List Bd} {p e : Int} {x : Cell} {b : Nat} {ks : List Int} (h : MFits c bs p e) (hp : PlaceOk c p.toNat x b ks) : BChain bs e b := by
  obtain ⟨b', h1, h2⟩ := h.fit
  have h3 := hp.bound
  rw [h1] at h3
  have : b' = b := by have := Option.some.inj h3; omega
  rw [← this]; exact h2
theorem MFits.place {c : Cd} (hc : CdOk c) {bs : List Bd} {p e : Int} (h : MFits c bs p e) : ∃ x b ks, PlaceOk c p.toNat x b ks := by
  obtain ⟨b', h1, h2⟩ := h.fit
  have := (List.getElem?_eq_some_iff.1 h1).1
  exact hc.place _ (by rw [← hc.bounds]; exact this)
theorem PlaceOk.at_ {c : Cd} {p : Int} {x : Cell} {b : Nat} {ks : List Int} (h : PlaceOk c p.toNat x b ks) : c.at_ p = x := by
  simp [Cd.at_, List.getD_eq_getElem?_getD, h.cell]
theorem PlaceOk.kid {c : Cd} {p : Int} {x : Cell} {b : Nat} {ks : List Int} (h : PlaceOk c p.toNat x b ks) (i : Nat) : c.kid p i = ks.getD i 0 := by
  simp [Cd.kid, List.getD_eq_getElem?_getD, h.kids]
theorem PlaceOk.fits {c : Cd} {p : Int} {x : Cell} {b : Nat} {ks : List Int} (h : PlaceOk c p.toNat x b ks) {bs : List Bd} {e : Int} (i : Nat) (hi : (i : Int) < arity x.kind) (hc : BChain bs e (b + bindsAt x.kind i)) : MFits c bs (c.kid p i) e := by
  have hl := h.many
  have hi' : i < ks.length := by omega
  have hg : ks[i]? = some ks[i] := List.getElem?_eq_getElem hi'
  obtain ⟨q, s, h1, h2, h3, h4, h5⟩ := h.part i _ hg
  rw [h.kid i, List.getD_eq_getElem?_getD, hg, Option.getD_some]
  exact ⟨by omega, _, by rw [h1]; simpa using h2, hc⟩
theorem new_good {c : Cd} {m m' : Mc} {v : Vl} (hv : VlOk c m.bds m.vals.length v) (lv : m.vals.length ≤ 500) (lb : m.bds.length ≤ 500) (lf : m.frs.length ≤ 500)
    (bds : ∀ (k : Nat) (b : Bd), m.bds[k]? = some b → 0 ≤ b.val ∧ b.val < m.vals.length ∧ -1 ≤ b.up ∧ b.up < k)
    (vals : ∀ (k : Nat) (v : Vl), m.vals[k]? = some v → VlOk c m.bds k v) (frs : ∀ f ∈ m.frs, FrmOk c m.bds m.vals.length f) (h : m.new v = .ok m') : MGood c m' := by
  unfold Mc.new at h
  split at h
  · cases h
  · rename_i hl
    obtain rfl := Sr.ok.inj h
    refine ⟨by simp [Mc.come]; omega, lb, lf, fun k b hb => ?_, fun k v' hk => ?_, fun f hf => ?_, fun _ => ⟨rfl, rfl, by simp [Mc.come], by simp [Mc.come]; omega⟩, fun hd => by simp [Mc.come] at hd⟩
    · have := bds k b hb
      simp [Mc.come]; omega
    · simp only [Mc.come] at hk ⊢
      by_cases hk' : k < m.vals.length
      · rw [List.getElem?_append_left hk'] at hk
        exact vals k v' hk
      · rw [List.getElem?_append_right (by omega)] at hk
        have : k - m.vals.length = 0 := by
          have := (List.getElem?_eq_some_iff.1 hk).1
          simp at this; omega
        rw [this] at hk
        obtain rfl := Option.some.inj hk
        rw [show k = m.vals.length by omega]
        exact hv
    · have := (frs f hf).app [] (n' := (m.vals ++ [v]).length) (by simp)
      simpa [Mc.come] using this
theorem bind_good {c : Cd} {m m' : Mc} {v up p : Int} (hv : 0 ≤ v ∧ v < m.vals.length) (hu : -1 ≤ up ∧ up < m.bds.length) (hp : MFits c (m.bds ++ [⟨v, up⟩]) p m.bds.length)
    (lv : m.vals.length ≤ 500) (lb : m.bds.length ≤ 500) (lf : m.frs.length ≤ 500)
    (bds : ∀ (k : Nat) (b : Bd), m.bds[k]? = some b → 0 ≤ b.val ∧ b.val < m.vals.length ∧ -1 ≤ b.up ∧ b.up < k)
    (vals : ∀ (k : Nat) (v : Vl), m.vals[k]? = some v → VlOk c m.bds k v) (frs : ∀ f ∈ m.frs, FrmOk c m.bds m.vals.length f) (h : m.bind v up p = .ok m') : MGood c m' := by
  unfold Mc.bind at h
  split at h
  · cases h
  · rename_i hl
    obtain rfl := Sr.ok.inj h
    refine ⟨lv, by simp [Mc.next]; omega, lf, fun k b hb => ?_, fun k v' hk => (vals k v' hk).app _, fun f hf => (frs f hf).app _ (Nat.le_refl _), fun hd => by simp [Mc.next] at hd, fun _ => ⟨rfl, hp⟩⟩
    simp only [Mc.next] at hb ⊢
    by_cases hk' : k < m.bds.length
    · rw [List.getElem?_append_left hk'] at hb
      exact bds k b hb
    · rw [List.getElem?_append_right (by omega)] at hb
      have : k - m.bds.length = 0 := by
        have := (List.getElem?_eq_some_iff.1 hb).1
        simp at this; omega
      rw [this] at hb
      obtain rfl := Option.some.inj hb
      simp only
      omega
theorem vl_ok {c : Cd} {m : Mc} (g : MGood c m) {k : Int} (h0 : 0 ≤ k) (h1 : k < m.vals.length) : VlOk c m.bds k.toNat (m.vl k) := by
  refine g.vals k.toNat _ ?_
  have : k.toNat < m.vals.length := by omega
  simp [Mc.vl, List.getD_eq_getElem?_getD, List.getElem?_eq_getElem this]
theorem chain_new {bs : List Bd} {v up : Int} {n : Nat} (h : BChain bs up n) : BChain (bs ++ [⟨v, up⟩]) bs.length (n + 1) :=
  .cons (b := ⟨v, up⟩) (by simp) (h.app _)
theorem chain_elder {bs : List Bd} {k : Int} (hb : ∀ (e : Nat) (b : Bd), bs[e]? = some b → b.val < k) {e : Int} {n : Nat} (h : BChain bs e n) : Elder bs k e := by
  induction h with
  | nil => exact .nil
  | cons h1 _ ih => exact .cons h1 (hb _ _ h1) ih
theorem begin_good {c : Cd} (hc : CdOk c) {m m' : Mc} (g : MGood c m) (hd : m.done = false) (h : m.begin c = .ok m') : MGood c m' := by
  obtain ⟨hv, hf⟩ := g.todo hd
  obtain ⟨x, b, ks, hp⟩ := hf.place hc
  have hch := hf.chain hp
  unfold Mc.begin at h
  rw [hp.at_] at h
  split at h
  · rename_i hk
    refine new_good ⟨fun _ => ⟨rfl, rfl, ?_⟩, fun e => by cases e⟩ g.lv g.lb g.lf g.bds g.vals g.frs h
    have := hp.good
    rw [cellGood, if_neg (by omega), if_pos hk] at this
    exact of_decide_eq_true this
  · rename_i hk2
    split at h
    · rename_i hk3
      refine new_good ⟨fun e => (by cases e), fun _ => ⟨rfl, hf, ?_, ?_⟩⟩ g.lv g.lb g.lf g.bds g.vals g.frs h
      · show (c.at_ m.pl).kind = 3
        rw [hp.at_]; exact hk3
      · exact chain_elder (fun e b h => (g.bds e b h).2.1) hch
    · rename_i hk3
      split at h
      · rename_i hk1
        obtain rfl := Sr.ok.inj h
        have hvar := hp.var hk1
        have hge : 0 ≤ x.n := by
          have := hp.good
          rw [cellGood, if_pos hk1] at this
          exact (of_decide_eq_true this).1
        have hcc : BChain m.bds m.env (x.n.toNat + (b - x.n.toNat - 1 + 1)) := by
          rw [show x.n.toNat + (b - x.n.toNat - 1 + 1) = b by omega]; exact hch
        obtain ⟨h0, bb, hbb, _⟩ := (chain_upN x.n.toNat _ m.env hcc).up
        refine ⟨g.lv, g.lb, g.lf, g.bds, g.vals, g.frs, fun _ => ⟨rfl, rfl, ?_⟩, fun hd => by simp [Mc.come] at hd⟩
        have := g.bds _ _ hbb
        simp only [Mc.come, List.getD_eq_getElem?_getD, hbb, Option.getD_some]
        omega
      · rename_i hk1
        split at h
        · cases h
        · rename_i hl
          obtain rfl := Sr.ok.inj h
          have hgd := hp.good
          rw [cellGood, if_neg hk1, if_neg hk2] at hgd
          obtain ⟨ha, hn⟩ := of_decide_eq_true hgd
          have hone : x.kind = 4 ∨ x.kind = 5 ∨ x.kind = 6 ∨ x.kind = 7 := by
            unfold arity at ha
            repeat' split at ha
            all_goals first | omega | simp_all
          have hfk : MFits c m.bds (c.kid m.pl 0) m.env := hp.fits 0 (by omega) (by
            have : bindsAt x.kind 0 = 0 := by unfold bindsAt; rw [if_neg hk3, if_neg (by omega)]
            rw [this]; exact hch)
          have hk0 : c.kid m.pl 0 = m.pl + 1 := by
            rw [hp.kid 0, List.getD_eq_getElem?_getD]
            have hl0 : 0 < ks.length := by have := hp.many; omega
            have hg := List.getElem?_eq_getElem hl0
            obtain ⟨q, s, h1, _, _, h4, _⟩ := hp.part 0 _ hg
            rw [hg, Option.getD_some, h1, h4 rfl]
            have := hf.pl
            omega
          rw [hk0] at hfk
          refine ⟨g.lv, g.lb, ?_, g.bds, g.vals, fun f hf' => ?_, fun hd => by simp [Mc.next] at hd, fun _ => ⟨rfl, hfk⟩⟩
          · have := g.lf
            simp [Mc.next]; omega
          · rcases List.mem_cons.1 hf' with rfl | hf'
            · exact ⟨hf, by show (c.at_ m.pl).kind = _; rw [hp.at_], hone, fun _ => by simp; omega, fun _ => rfl⟩
            · exact g.frs f hf'
theorem goOn_good {c : Cd} (hc : CdOk c) {m m' : Mc} (g : MGood c m) (hd : m.done = true) {f : Frm} {r : List Frm} (hfr : m.frs = f :: r) (h : m.goOn c f r = .ok m') : MGood c m' := by
  obtain ⟨_, _, hv0, hv1⟩ := g.did hd
  have hf := g.frs f (by rw [hfr]; simp)
  have hr : ∀ f ∈ r, FrmOk c m.bds m.vals.length f := fun f hf => g.frs f (by rw [hfr]; simp [hf])
  have hlr : r.length < 500 := by have := g.lf; rw [hfr] at this; simp at this; omega
  obtain ⟨x, b, ks, hp⟩ := hf.fits.place hc
  have hch := hf.fits.chain hp
  have hxk : x.kind = f.kind := by rw [← hf.kind, hp.at_]
  unfold Mc.goOn at h
  split at h
  · rename_i hk
    refine bind_good (m := { m with frs := r }) ⟨hv0, hv1⟩ hch.bd ?_ g.lv g.lb (by dsimp only; omega) g.bds g.vals hr h
    refine hp.fits 1 (by rw [hxk, hk]; decide) ?_
    have : bindsAt x.kind 1 = 1 := by rw [hxk, hk]; decide
    rw [this]; exact chain_new hch
  · rename_i hk7
    split at h
    · rename_i hk
      split at h
      · cases h
      · obtain rfl := Sr.ok.inj h
        refine ⟨g.lv, g.lb, by simp [Mc.next]; omega, g.bds, g.vals, hr, fun hd => by simp [Mc.next] at hd, fun _ => ⟨rfl, ?_⟩⟩
        refine hp.fits _ (by rw [hxk, hk]; split <;> decide) ?_
        have : ∀ i, bindsAt x.kind i = 0 := fun i => by rw [hxk, hk]; unfold bindsAt; rw [if_neg (by decide), if_neg (by simp)]
        rw [this]; exact hch
    · rename_i hk6
      have h45 : f.kind = 4 ∨ f.kind = 5 := by have := hf.one; omega
      split at h
      · rename_i hneg
        obtain rfl := Sr.ok.inj h
        refine ⟨g.lv, g.lb, by simp [Mc.next]; omega, g.bds, g.vals, fun f' hf' => ?_, fun hd => by simp [Mc.next] at hd, fun _ => ⟨rfl, ?_⟩⟩
        · rcases List.mem_cons.1 hf' with rfl | hf'
          · exact ⟨hf.fits, hf.kind, hf.one, fun _ => ⟨by simp; omega, hv1⟩, fun e => by simp at e; omega⟩
          · exact hr f' hf'
        · refine hp.fits 1 (by rw [hxk]; rcases h45 with e | e <;> rw [e] <;> decide) ?_
          have : bindsAt x.kind 1 = 0 := by rw [hxk]; rcases h45 with e | e <;> rw [e] <;> decide
          rw [this]; exact hch
      · rename_i hpos
        have hfv := hf.val h45
        have gv := vl_ok g (k := f.val) (by omega) hfv.2
        split at h
        · rename_i hk4
          split at h
          · rename_i hfn
            obtain ⟨_, hft, hlam, _⟩ := gv.fun_ hfn
            obtain ⟨y, d, js, hq⟩ := hft.place hc
            have hcq := hft.chain hq
            have hyk : y.kind = 3 := by rw [← hlam, hq.at_]
            refine bind_good (m := { m with frs := r }) ⟨hv0, hv1⟩ hcq.bd ?_ g.lv g.lb (by dsimp only; omega) g.bds g.vals hr h
            refine hq.fits 0 (by rw [hyk]; decide) ?_
            have : bindsAt y.kind 0 = 1 := by rw [hyk]; decide
            rw [this]; exact chain_new hcq
          · cases h
        · split at h
          · cases h
          · rename_i hnn
            refine new_good (m := { m with frs := r }) ⟨fun _ => ⟨rfl, rfl, ?_⟩, fun e => by cases e⟩ g.lv g.lb (by dsimp only; omega) g.bds g.vals hr h
            simp only [not_or, Decidable.not_not] at hnn
            exact hnn.2.2
theorem step_good {c : Cd} (hc : CdOk c) {m m' : Mc} (g : MGood c m) (h : m.step c = .ok m') : MGood c m' := by
  unfold Mc.step at h
  split at h
  · rename_i hd
    split at h
    · cases h
    · rename_i f r hfr
      exact goOn_good hc g hd hfr h
  · rename_i hd
    exact begin_good hc g (by simpa using hd) h
def rtEnd (c : Cd) (m : Mc) (k : Nat) : Int × Int × Int × Bool :=
  if m.done = true ∧ m.frs = [] then (if (m.vl m.val).fn = true then (2, 0, k, true) else (1, (m.vl m.val).num, k, true))
  else match m.step c with
    | .ok _ => (4, 0, k, true)
    | .full => (5, 0, k, true)
    | .no => (3, 0, k, true)
def runTerm (l : List Cell) (fuel : Int) : Int × Int × Int × Bool :=
  match codeOf l with
  | none => (0, 0, 0, false)
  | some t => if 0 ≤ fuel ∧ fuel ≤ 2000 then rtEnd t.cd (Mc.start.play t.cd fuel.toNat).1 (Mc.start.play t.cd fuel.toNat).2 else (0, 0, 0, false)
end Go.Ev

namespace Go.Ev
set_option linter.unusedVariables false
set_option linter.unusedSimpArgs false
theorem bounds_hd (t : Tm) (d : Nat) : (t.bounds d)[0]? = some (d : Int) := by
  cases t with
  | node k n ks => simp [Tm.bounds]
theorem sizes_hd (t : Tm) : t.sizes[0]? = some (t.cells.length : Int) := by
  cases t with
  | node k n ks => simp [Tm.sizes]
theorem begins_len : ∀ (q : Nat) (ts : List Tm), (begins q ts).length = ts.length
  | q, [] => rfl
  | q, t :: ts => by simp [begins, begins_len _ ts]
theorem begins_at : ∀ (ts : List Tm) (q : Nat) (kk : Int) (d i0 i : Nat) (k : Int), (begins q ts)[i]? = some k →
    ∃ j s : Nat, k = ((q + j : Nat) : Int) ∧ (Tm.boundsL kk d i0 ts)[j]? = some ((d + bindsAt kk (i0 + i) : Nat) : Int) ∧ (Tm.sizesL ts)[j]? = some (s : Int) ∧ (i = 0 → j = 0) ∧ ∀ k', (begins q ts)[i + 1]? = some k' → k' = k + s
  | [], q, kk, d, i0, i, k, h => by simp [begins] at h
  | t :: ts, q, kk, d, i0, 0, k, h => by
    have hp := cells_pos t
    simp only [begins, List.getElem?_cons_zero, Option.some.injEq] at h
    refine ⟨0, t.cells.length, by omega, ?_, ?_, fun _ => rfl, fun k' hk => ?_⟩
    · rw [Tm.boundsL, List.getElem?_append_left (by rw [bounds_len]; exact hp), bounds_hd]; simp
    · rw [Tm.sizesL, List.getElem?_append_left (by rw [sizes_len]; exact hp), sizes_hd]
    · simp only [begins, Nat.zero_add, List.getElem?_cons_succ] at hk
      cases ts with
      | nil => simp [begins] at hk
      | cons u us =>
        simp only [begins, List.getElem?_cons_zero, Option.some.injEq] at hk
        omega
  | t :: ts, q, kk, d, i0, i + 1, k, h => by
    simp only [begins, List.getElem?_cons_succ] at h
    obtain ⟨j, s, h1, h2, h3, h4, h5⟩ := begins_at ts (q + t.cells.length) kk d (i0 + 1) i k h
    refine ⟨t.cells.length + j, s, by omega, ?_, ?_, fun e => by omega, fun k' hk => ?_⟩
    · rw [Tm.boundsL, List.getElem?_append_right (by rw [bounds_len]; omega), bounds_len, Nat.add_sub_cancel_left, h2, show i0 + 1 + i = i0 + (i + 1) by omega]
    · rw [Tm.sizesL, List.getElem?_append_right (by rw [sizes_len]; omega), sizes_len, Nat.add_sub_cancel_left, h3]
    · simp only [begins, List.getElem?_cons_succ] at hk
      exact h5 k' hk
def PlAt (p : Nat) (S B : List Int) (K : List (List Int)) (i : Nat) (x : Cell) : Prop :=
  ∃ (b : Nat) (ks : List Int), B[i]? = some (b : Int) ∧ K[i]? = some ks ∧ cellGood x = true ∧ (ks.length : Int) = arity x.kind ∧ (x.kind = 1 → x.n < b) ∧
    ∀ (i' : Nat) (k : Int), ks[i']? = some k → ∃ j s : Nat, k = ((p + j : Nat) : Int) ∧ B[j]? = some ((b + bindsAt x.kind i' : Nat) : Int) ∧ S[j]? = some (s : Int) ∧ (i' = 0 → j = i + 1) ∧ ∀ k', ks[i' + 1]? = some k' → k' = k + s
theorem PlAt.left {p : Nat} {S B : List Int} {K : List (List Int)} {i : Nat} {x : Cell} (h : PlAt p S B K i x) (S' B' : List Int) (K' : List (List Int)) : PlAt p (S ++ S') (B ++ B') (K ++ K') i x := by
  have lt : ∀ {α : Type} {l l' : List α} {j : Nat} {y : α}, l[j]? = some y → (l ++ l')[j]? = some y := fun h => by
    rw [List.getElem?_append_left (List.getElem?_eq_some_iff.1 h).1]; exact h
  obtain ⟨b, ks, h1, h2, h3, h4, h5, h6⟩ := h
  refine ⟨b, ks, lt h1, lt h2, h3, h4, h5, fun i' k hk => ?_⟩
  obtain ⟨j, s, g1, g2, g3, g4, g5⟩ := h6 i' k hk
  exact ⟨j, s, g1, lt g2, lt g3, g4, g5⟩
theorem PlAt.right {p : Nat} {S B : List Int} {K : List (List Int)} {i : Nat} {x : Cell} (n : Nat) (S' B' : List Int) (K' : List (List Int)) (hS : S'.length = n) (hB : B'.length = n) (hK : K'.length = n) (h : PlAt (p + n) S B K i x) : PlAt p (S' ++ S) (B' ++ B) (K' ++ K) (n + i) x := by
  have rt : ∀ {α : Type} {l l' : List α} {j : Nat} {y : α}, l'.length = n → l[j]? = some y → (l' ++ l)[n + j]? = some y := fun e h => by
    rw [List.getElem?_append_right (by omega), e, Nat.add_sub_cancel_left]; exact h
  obtain ⟨b, ks, h1, h2, h3, h4, h5, h6⟩ := h
  refine ⟨b, ks, rt hB h1, rt hK h2, h3, h4, h5, fun i' k hk => ?_⟩
  obtain ⟨j, s, g1, g2, g3, g4, g5⟩ := h6 i' k hk
  exact ⟨n + j, s, by rw [g1, Nat.add_assoc], rt hB g2, rt hS g3, fun e => by have := g4 e; omega, g5⟩
mutual
theorem tree_place : ∀ (t : Tm) (p d : Nat), t.ok → t.frees d = [] → ∀ (i : Nat) (x : Cell), t.cells[i]? = some x → PlAt p t.sizes (t.bounds d) (t.kidsAt p) i x
  | .node k n ks, p, d, ho, hf, 0, x, h => by
    obtain ⟨h1, h2, h3⟩ := ho
    simp only [Tm.cells, List.getElem?_cons_zero, Option.some.injEq] at h
    subst h
    refine ⟨d, begins (p + 1) ks, by simp [Tm.bounds], by simp [Tm.kidsAt], h1, by rw [begins_len]; exact h2, fun hk => ?_, fun i' k' hk' => ?_⟩
    · unfold Tm.frees at hf
      dsimp only at hk
      rw [if_pos hk] at hf
      split at hf
      · cases hf
      · dsimp only; omega
    · obtain ⟨j, s, g1, g2, g3, g4, g5⟩ := begins_at ks (p + 1) k d 0 i' k' hk'
      refine ⟨j + 1, s, by omega, ?_, ?_, fun e => by have := g4 e; omega, g5⟩
      · rw [Tm.bounds, List.getElem?_cons_succ, g2, Nat.zero_add]
      · rw [Tm.sizes, List.getElem?_cons_succ, g3]
  | .node k n ks, p, d, ho, hf, i + 1, x, h => by
    obtain ⟨h1, h2, h3⟩ := ho
    simp only [Tm.cells, List.getElem?_cons_succ] at h
    have hks : Tm.freesL k d 0 ks = [] := by
      unfold Tm.frees at hf
      split at hf
      · rename_i hk
        subst hk
        have : ks = [] := List.length_eq_zero_iff.1 (by have : arity 1 = 0 := rfl; omega)
        rw [this]; rfl
      · exact hf
    have := PlAt.right (p := p) 1 [((Tm.cells (.node k n ks)).length : Int)] [(d : Int)] [begins (p + 1) ks] rfl rfl rfl (trees_place ks k (p + 1) d 0 h3 hks i x h)
    rw [Nat.add_comm 1 i] at this
    exact this
theorem trees_place : ∀ (ts : List Tm) (kk : Int) (p d i0 : Nat), Tm.okL ts → Tm.freesL kk d i0 ts = [] → ∀ (i : Nat) (x : Cell), (Tm.cellsL ts)[i]? = some x → PlAt p (Tm.sizesL ts) (Tm.boundsL kk d i0 ts) (Tm.kidsAtL p ts) i x
  | [], kk, p, d, i0, ho, hf, i, x, h => by simp [Tm.cellsL] at h
  | t :: ts, kk, p, d, i0, ho, hf, i, x, h => by
    obtain ⟨ho1, ho2⟩ := ho
    simp only [Tm.freesL, List.append_eq_nil_iff] at hf
    simp only [Tm.cellsL] at h
    by_cases hi : i < t.cells.length
    · rw [List.getElem?_append_left hi] at h
      exact (tree_place t p _ ho1 hf.1 i x h).left _ _ _
    · rw [List.getElem?_append_right (by omega)] at h
      have := PlAt.right (p := p) t.cells.length t.sizes (t.bounds (d + bindsAt kk i0)) (t.kidsAt p) (sizes_len t) (bounds_len _ t) (kidsAt_len p t) (trees_place ts kk (p + t.cells.length) d (i0 + 1) ho2 hf.2 _ x h)
      rw [show t.cells.length + (i - t.cells.length) = i by omega] at this
      exact this
end
theorem cd_ok {t : Tm} (ho : t.ok) (hf : t.frees 0 = []) (hl : t.cells.length ≤ 600) : CdOk t.cd where
  len := hl
  sizes := sizes_len t
  bounds := bounds_len 0 t
  kids := kidsAt_len 0 t
  pos := cells_pos t
  zero := bounds_hd t 0
  place p hp := by
    have hx := List.getElem?_eq_getElem hp
    obtain ⟨b, ks, h1, h2, h3, h4, h5, h6⟩ := tree_place t 0 0 ho hf p _ hx
    refine ⟨_, b, ks, hx, h1, h2, h3, h4, h5, fun i k hk => ?_⟩
    obtain ⟨j, s, g1, g2, g3, g4, g5⟩ := h6 i k hk
    exact ⟨j, s, by omega, g2, g3, g4, g5⟩
def spl {α : Type} (l : List α) (p : Nat) (m : List α) : List α := l.take p ++ m ++ l.drop (p + m.length)
theorem spl_len {α : Type} {l : List α} {p : Nat} {m : List α} (h : p + m.length ≤ l.length) : (spl l p m).length = l.length := by
  simp [spl]; omega
theorem spl_get {α : Type} {l : List α} {p : Nat} {x : α} {m : List α} (h : p ≤ l.length) : (spl l p (x :: m))[p]? = some x := by
  unfold spl
  rw [List.append_assoc, List.getElem?_append_right (by simp; omega)]
  simp [Nat.min_eq_left h]
theorem spl_snoc {α : Type} {l a b : List α} {p : Nat} (h : p + a.length + b.length ≤ l.length) : spl (spl l p a) (p + a.length) b = spl l p (a ++ b) := by
  unfold spl
  have hp : (l.take p).length = p := by simp; omega
  have e1 : List.take (p + a.length) (l.take p ++ a ++ l.drop (p + a.length)) = l.take p ++ a := by
    rw [List.take_left' (by simp; omega)]
  have e2 : List.drop (p + a.length + b.length) (l.take p ++ a ++ l.drop (p + a.length)) = l.drop (p + (a ++ b).length) := by
    rw [List.drop_append, List.drop_of_length_le (by simp; omega), List.nil_append, List.drop_drop]
    congr 1
    simp; omega
  rw [e1, e2, List.append_assoc]
  simp
theorem spl_cons {α : Type} {l m : List α} {p : Nat} {x : α} (h : p + 1 + m.length ≤ l.length) : (spl l (p + 1) m).set p x = spl l p (x :: m) := by
  unfold spl
  have hp : (l.take p).length = p := by simp; omega
  have e1 : l.take (p + 1) = l.take p ++ [l[p]'(by omega)] := (List.take_append_getElem (by omega)).symm
  rw [e1, List.append_assoc, List.append_assoc, List.set_append_right _ _ (by omega), hp, Nat.sub_self, show p + (x :: m).length = p + 1 + m.length by simp; omega]
  simp
theorem spl_set {α : Type} {l : List α} {p : Nat} {x : α} (h : p < l.length) : l.set p x = spl l p [x] := by
  have := spl_cons (l := l) (m := []) (p := p) (x := x) (by simp; omega)
  rw [← this]
  congr 1
  unfold spl
  simp
theorem spl_nil {α : Type} (l : List α) (p : Nat) : spl l p [] = l := by simp [spl]
theorem spl_all {α : Type} {l m : List α} (h : m.length = l.length) : spl l 0 m = m := by
  simp [spl, h]
end Go.Ev

namespace Go.Ev
set_option linter.unusedVariables false
set_option linter.unusedSimpArgs false
def bdAt (bs : List Bd) (e : Int) : Bd := bs.getD e.toNat ⟨0, -1⟩
def chainN (bs : List Bd) : Nat → Int → Nat
  | 0, _ => 0
  | n + 1, e => if e < 0 then 0 else chainN bs n (bdAt bs e).up + 1
def elderB (bs : List Bd) (k : Int) : Nat → Int → Bool
  | 0, _ => true
  | n + 1, e => if e < 0 then true else if k ≤ (bdAt bs e).val then false else elderB bs k n (bdAt bs e).up
def fitsB (c : Cd) (bs : List Bd) (p e : Int) : Bool :=
  decide (0 ≤ p ∧ p < c.cells.length) && (decide (-1 ≤ e ∧ e < bs.length) && decide ((chainN bs (e + 1).toNat e : Int) = c.bounds.getD p.toNat 0))
def bdB (nv k : Nat) (b : Bd) : Bool := decide (0 ≤ b.val ∧ b.val < nv) && decide (-1 ≤ b.up ∧ b.up < k)
def bdsB (nv : Nat) : Nat → List Bd → Bool
  | _, [] => true
  | k, b :: r => bdB nv k b && bdsB nv (k + 1) r
def vlB (c : Cd) (bs : List Bd) (k : Nat) (v : Vl) : Bool :=
  if v.fn = true then decide (v.num = 0) && (fitsB c bs v.pl v.env && (decide ((c.at_ v.pl).kind = 3) && elderB bs k (v.env + 1).toNat v.env))
  else decide (-1000000 ≤ v.num ∧ v.num ≤ 1000000) && (decide (v.pl = 0) && decide (v.env = 0))
def vlsB (c : Cd) (bs : List Bd) : Nat → List Vl → Bool
  | _, [] => true
  | k, v :: r => vlB c bs k v && vlsB c bs (k + 1) r
def frmB (c : Cd) (bs : List Bd) (nv : Nat) (f : Frm) : Bool :=
  fitsB c bs f.pl f.env && (decide ((c.at_ f.pl).kind = f.kind) &&
    (if f.kind = 4 ∨ f.kind = 5 then decide (-1 ≤ f.val ∧ f.val < nv) else if f.kind = 6 ∨ f.kind = 7 then decide (f.val = -1) else false))
def frsB (c : Cd) (bs : List Bd) (nv : Nat) : List Frm → Bool
  | [] => true
  | f :: r => frmB c bs nv f && frsB c bs nv r
def endB (c : Cd) (m : Mc) : Bool :=
  if m.done = true then decide (m.pl = -1) && (decide (m.env = -1) && decide (0 ≤ m.val ∧ m.val < m.vals.length))
  else decide (m.val = -1) && fitsB c m.bds m.pl m.env
def goodB (c : Cd) (m : Mc) : Bool :=
  decide (m.vals.length ≤ 500 ∧ m.bds.length ≤ 500 ∧ m.frs.length ≤ 500) && (bdsB m.vals.length 0 m.bds && (vlsB c m.bds 0 m.vals && (frsB c m.bds m.vals.length m.frs.reverse && endB c m)))
def Down (bs : List Bd) : Prop := ∀ (k : Nat) (b : Bd), bs[k]? = some b → -1 ≤ b.up ∧ b.up < k
theorem bdsB_all {nv : Nat} : ∀ {l : List Bd} {k : Nat}, bdsB nv k l = true → ∀ (i : Nat) (b : Bd), l[i]? = some b → 0 ≤ b.val ∧ b.val < nv ∧ -1 ≤ b.up ∧ b.up < ((k + i : Nat) : Int)
  | [], k, h, i, b, e => by simp at e
  | x :: l, k, h, i, b, e => by
    simp only [bdsB, bdB, Bool.and_eq_true, decide_eq_true_eq] at h
    cases i with
    | zero => simp at e; subst e; omega
    | succ i =>
      have := bdsB_all h.2 i b (by simpa using e)
      omega
theorem down_of {nv : Nat} {l : List Bd} (h : bdsB nv 0 l = true) : Down l := fun k b e => by
  have := bdsB_all h k b e
  omega
theorem bdAt_some {bs : List Bd} {e : Int} (h0 : 0 ≤ e) (h : e < bs.length) : bs[e.toNat]? = some (bdAt bs e) := by
  unfold bdAt
  have hl : e.toNat < bs.length := by omega
  rw [List.getD_eq_getElem?_getD, List.getElem?_eq_getElem hl]
  rfl
theorem chain_of {bs : List Bd} (hd : Down bs) : ∀ (n : Nat) (e : Int), -1 ≤ e → e < bs.length → e < n → BChain bs e (chainN bs n e)
  | 0, e, h0, h1, h2 => by
    obtain rfl : e = -1 := by omega
    exact .nil
  | n + 1, e, h0, h1, h2 => by
    unfold chainN
    by_cases he : e < 0
    · obtain rfl : e = -1 := by omega
      rw [if_pos he]
      exact .nil
    · rw [if_neg he]
      have hb := bdAt_some (by omega) h1
      have hu := hd _ _ hb
      obtain ⟨k, rfl⟩ : ∃ k : Nat, e = k := ⟨e.toNat, by omega⟩
      exact .cons (by simpa using hb) (chain_of hd n _ hu.1 (by omega) (by omega))
theorem elder_of {bs : List Bd} (hd : Down bs) (k : Int) : ∀ (n : Nat) (e : Int), -1 ≤ e → e < bs.length → e < n → elderB bs k n e = true → Elder bs k e
  | 0, e, h0, h1, h2, h => by
    obtain rfl : e = -1 := by omega
    exact .nil
  | n + 1, e, h0, h1, h2, h => by
    unfold elderB at h
    by_cases he : e < 0
    · obtain rfl : e = -1 := by omega
      exact .nil
    · rw [if_neg he] at h
      by_cases hv : k ≤ (bdAt bs e).val
      · rw [if_pos hv] at h; simp at h
      · rw [if_neg hv] at h
        have hb := bdAt_some (by omega) h1
        have hu := hd _ _ hb
        obtain ⟨j, rfl⟩ : ∃ k : Nat, e = k := ⟨e.toNat, by omega⟩
        exact .cons (by simpa using hb) (by omega) (elder_of hd k n _ hu.1 (by omega) (by omega) h)
theorem fits_of {c : Cd} {bs : List Bd} (hd : Down bs) (hb : c.bounds.length = c.cells.length) {p e : Int} (h : fitsB c bs p e = true) : MFits c bs p e := by
  simp only [fitsB, Bool.and_eq_true, decide_eq_true_eq] at h
  obtain ⟨⟨h1, h2⟩, ⟨h3, h4⟩, h5⟩ := h
  refine ⟨h1, _, ?_, chain_of hd (e + 1).toNat e h3 h4 (by omega)⟩
  have hl : p.toNat < c.bounds.length := by omega
  rw [h5, List.getD_eq_getElem?_getD, List.getElem?_eq_getElem hl]
  rfl
theorem vlsB_all {c : Cd} {bs : List Bd} : ∀ {l : List Vl} {k : Nat}, vlsB c bs k l = true → ∀ (i : Nat) (v : Vl), l[i]? = some v → vlB c bs (k + i) v = true
  | [], k, h, i, b, e => by simp at e
  | x :: l, k, h, i, b, e => by
    simp only [vlsB, Bool.and_eq_true] at h
    cases i with
    | zero => simp at e; subst e; exact h.1
    | succ i =>
      have := vlsB_all h.2 i b (by simpa using e)
      rwa [show k + (i + 1) = k + 1 + i by omega]
theorem frsB_all {c : Cd} {bs : List Bd} {nv : Nat} : ∀ {l : List Frm}, frsB c bs nv l = true → ∀ f ∈ l, frmB c bs nv f = true
  | [], h, f, e => by simp at e
  | x :: l, h, f, e => by
    simp only [frsB, Bool.and_eq_true] at h
    rcases List.mem_cons.1 e with rfl | e
    · exact h.1
    · exact frsB_all h.2 f e
theorem good_of {c : Cd} (hc : CdOk c) {m : Mc} (h : goodB c m = true) : MGood c m := by
  simp only [goodB, Bool.and_eq_true, decide_eq_true_eq] at h
  obtain ⟨⟨l1, l2, l3⟩, h1, h2, h3, h4⟩ := h
  have hd := down_of h1
  have hb := hc.bounds
  refine ⟨l1, l2, l3, ?_, ?_, ?_, ?_, ?_⟩
  · intro k b e
    have := bdsB_all h1 k b e
    omega
  · intro k v e
    have hv := vlsB_all h2 k v e
    rw [Nat.zero_add] at hv
    unfold vlB at hv
    constructor
    · intro hf
      rw [if_neg (by simp [hf])] at hv
      simp only [Bool.and_eq_true, decide_eq_true_eq] at hv
      omega
    · intro hf
      rw [if_pos hf] at hv
      simp only [Bool.and_eq_true, decide_eq_true_eq] at hv
      obtain ⟨v1, v2, v3, v4⟩ := hv
      have hf2 := fits_of hd hb v2
      simp only [fitsB, Bool.and_eq_true, decide_eq_true_eq] at v2
      exact ⟨v1, hf2, v3, elder_of hd k _ _ v2.2.1.1 v2.2.1.2 (by omega) v4⟩
  · intro f hf
    have hv := frsB_all h3 f (by simpa using hf)
    simp only [frmB, Bool.and_eq_true, decide_eq_true_eq] at hv
    obtain ⟨v1, v2, v3⟩ := hv
    by_cases k1 : f.kind = 4 ∨ f.kind = 5
    · rw [if_pos k1] at v3
      simp only [decide_eq_true_eq] at v3
      exact ⟨fits_of hd hb v1, v2, by omega, fun _ => v3, fun h => by omega⟩
    · rw [if_neg k1] at v3
      by_cases k2 : f.kind = 6 ∨ f.kind = 7
      · rw [if_pos k2] at v3
        simp only [decide_eq_true_eq] at v3
        exact ⟨fits_of hd hb v1, v2, by omega, fun h => by omega, fun _ => v3⟩
      · rw [if_neg k2] at v3; simp at v3
  · intro hdn
    unfold endB at h4
    rw [if_pos hdn] at h4
    simp only [Bool.and_eq_true, decide_eq_true_eq] at h4
    omega
  · intro hdn
    unfold endB at h4
    rw [if_neg (by simp [hdn])] at h4
    simp only [Bool.and_eq_true, decide_eq_true_eq] at h4
    exact ⟨h4.1, fits_of hd hb h4.2⟩
end Go.Ev
