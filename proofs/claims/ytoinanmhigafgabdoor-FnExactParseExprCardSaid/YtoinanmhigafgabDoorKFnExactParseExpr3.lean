import Derived.Test.YtoinanmhigafgabDoorKFnExactParseExpr2
/- The evaluator, twenty-second text: regions of open order. -/
namespace Go.Ev
set_option linter.unusedVariables false
set_option linter.unusedSimpArgs false
set_option linter.unusedVariables false
set_option linter.unusedSimpArgs false
section
variable {pr : Pr} {E : Q → Option Out} {nest : Bool} {frz : List Nat} {nt : Nat} {ops : Array Oper}
theorem opFK_loc {o : Oper} {s : S} {t : Touch} (ht : touch pr o s = some t) : LocAt t.has s.mem fun M => opFK pr E frz nest o { s with mem := M } fun v M => some (v, M) := by
  unfold opFK
  cases (o.dst.any fun d => frz.contains d) with
  | false => exact opK_loc ht
  | true =>
    simp only [cond_true]
    refine LocAt.congr (fun M => opK_bind ..) ?_
    refine (opK_loc ht).bind' fun v M1 _ => ?_
    intro x M' h
    dsimp only at h ⊢
    obtain ⟨⟨v', M2⟩, h1, h⟩ := Option.bind_eq_some_iff.1 h
    obtain ⟨L, h2, h⟩ := Option.bind_eq_some_iff.1 h
    dsimp only at h2 h
    simp only [Bool.cond_eq_ite] at h
    split at h
    · rename_i hall
      obtain ⟨rfl, rfl⟩ := Prod.mk.inj (Option.some.inj h)
      have hb := touch_b ht
      obtain ⟨c1, c2⟩ := clos_of_refs h2
      have hown : ∀ id, id ∈ L → t.has id := fun id hi => by
        have := List.all_eq_true.1 hall id hi
        simp only [Bool.and_eq_true, decide_eq_true_eq] at this
        exact .inr (by rw [hb]; exact this)
      obtain ⟨a, b⟩ := ((mvV_loc (I := (· ∈ L)) (M := M1) c1 c2).mono hown) v' M2 h1
      refine ⟨a, fun N hN => ?_⟩
      have b' : mvV N v = some (v', patch t.has M2 N) := b N hN
      rw [b', Option.bind_some, clos_loc fuel0 h2 fun x hx => hN x (hown x hx), Option.bind_some]
      dsimp only
      rw [hall]
      rfl
    · cases h
theorem killL_out {L : List Nat} {M : Mem} {x : Nat} (h : x ∉ L) : killL L M x = M x := by unfold killL; rw [if_neg (by simpa using h)]
theorem mvV_out {M M' : Mem} {v v' : V} {L : List Nat} (h : mvV M v = some (v', M')) (hL : clos M fuel0 v.refs [] = some L) {x : Nat} (hx : x ∉ L) : M' x = M x := by
  unfold mvV at h
  obtain ⟨y, _, h⟩ := Option.bind_eq_some_iff.1 h
  split at h
  · obtain ⟨_, rfl⟩ := Prod.mk.inj (Option.some.inj h); rfl
  · rw [hL] at h
    obtain ⟨_, rfl⟩ := Prod.mk.inj (Option.some.inj h)
    exact killL_out hx
theorem opFK_ro {o : Oper} {s : S} {t : Touch} {v : V} {M' : Mem} (ht : touch pr o s = some t) (hw : t.w = false) (h : opFK pr E frz nest o s (fun v M => some (v, M)) = some (v, M')) (id : Nat) (hid : ¬ t.own id) : M' id = s.mem id := by
  unfold opFK at h
  simp only [Bool.cond_eq_ite] at h
  split at h
  · rw [opK_bind] at h
    obtain ⟨⟨v1, M1⟩, h1, h⟩ := Option.bind_eq_some_iff.1 h
    obtain ⟨⟨v2, M2⟩, h2, h⟩ := Option.bind_eq_some_iff.1 h
    obtain ⟨L, h3, h⟩ := Option.bind_eq_some_iff.1 h
    split at h
    · rename_i hall
      obtain ⟨rfl, rfl⟩ := Prod.mk.inj (Option.some.inj h)
      rw [← opK_ro ht hw h1 id hid]
      refine mvV_out h2 h3 fun hm => hid ?_
      have := List.all_eq_true.1 hall id hm
      simp only [Bool.and_eq_true, decide_eq_true_eq] at this
      show t.b ≤ id ∧ id < t.b + 8
      rw [touch_b ht]
      exact this
    · cases h
  · exact opK_ro ht hw h id hid
theorem opFK_env {o : Oper} {e1 e2 : Nat → V} (h : ∀ x ∈ o.op.operands, arg e1 x = arg e2 x) (M : Mem) (k0 k1 : Nat) {R : Type} (K : V → Mem → Option R) : opFK pr E frz nest o ⟨e1, M, k0⟩ K = opFK pr E frz nest o ⟨e2, M, k1⟩ K := by
  unfold opFK
  rw [opK_env h M k0 k1, opK_env h M k0 k1]
theorem arg_looks {o : Oper} {e1 e2 : Nat → V} (h : ∀ d ∈ o.looksAt ops, e1 d = e2 d) : ∀ x ∈ o.op.operands, arg e1 x = arg e2 x := fun x hx => by
  cases x with
  | tmp t => exact congrArg some (h t (List.mem_append_left _ (List.mem_filterMap.2 ⟨.tmp t, by simpa using hx, rfl⟩)))
  | _ => rfl
theorem want_looks {o : Oper} {e1 e2 : Nat → V} (h : ∀ d ∈ o.looksAt ops, e1 d = e2 d) {j : Nat} {b : Bool} (hg : o.guard = some (j, b)) : wantV ops e1 j b = wantV ops e2 j b := by
  unfold wantV
  cases ht : (ops[j]?).bind (·.dst) with
  | none => rfl
  | some t =>
    have : e1 t = e2 t := h t (by simp [Oper.looksAt, hg, ht])
    dsimp only
    rw [this]
/-- What one operation did. -/
structure Did (pr : Pr) (E : Q → Option Out) (nt : Nat) (frz : List Nat) (nest : Bool) (ops : Array Oper) (o : Oper) (s : S) (y : Bool) (t : Touch) (v : V) (M' : Mem) : Prop where
  tb : t.b = bound o
  want : wanted1 ops o s = some y
  tch : (bif y then touch pr o s else some ⟨[], false, bound o⟩) = some t
  run : (bif y then opFK pr E frz nest o s (fun v M => some (v, M)) else some (.tup [], s.mem)) = some (v, M')
  dst : ∀ d, o.dst = some d → d < nt
variable {o : Oper} {s : S} {y : Bool} {t : Touch} {v : V} {M' : Mem}
theorem Did.frame (h : Did pr E nt frz nest ops o s y t v M') (id : Nat) (hi : ¬ t.has id) : M' id = s.mem id := by
  have h1 := h.tch
  have h2 := h.run
  cases y with
  | true => exact (opFK_loc h1 v M' h2).1 id hi
  | false => obtain ⟨_, rfl⟩ := Prod.mk.inj (Option.some.inj h2); rfl
theorem Did.ro (h : Did pr E nt frz nest ops o s y t v M') (hw : t.w = false) (id : Nat) (hi : ¬ t.own id) : M' id = s.mem id := by
  have h1 := h.tch
  have h2 := h.run
  cases y with
  | true => exact opFK_ro h1 hw h2 id hi
  | false => obtain ⟨_, rfl⟩ := Prod.mk.inj (Option.some.inj h2); rfl
theorem Did.moved (h : Did pr E nt frz nest ops o s y t v M') {s2 : S} (he : ∀ d ∈ o.looksAt ops, s2.env d = s.env d) (hm : ∀ id, t.has id → s2.mem id = s.mem id) :
    Did pr E nt frz nest ops o s2 y t v (patch t.has M' s2.mem) := by
  have h1 := h.tch
  have h2 := h.run
  have ha := arg_looks he
  refine ⟨h.tb, ?_, ?_, ?_, h.dst⟩
  · have := h.want
    unfold wanted1 at this ⊢
    split
    · rename_i hg; rw [hg] at this; exact this
    · rename_i j b hg; rw [hg] at this; rw [want_looks he hg]; exact this
  · cases y with
    | true =>
      show touch pr o s2 = some t
      rw [show s2 = ⟨s2.env, s2.mem, s2.k0⟩ from rfl, touch_env ha s2.mem s2.k0 s.k0]
      exact touch_mem h1 fun id hi => hm id (.inl hi)
    | false => exact h1
  · cases y with
    | true =>
      show opFK pr E frz nest o s2 (fun v M => some (v, M)) = _
      rw [show s2 = ⟨s2.env, s2.mem, s2.k0⟩ from rfl, opFK_env ha s2.mem s2.k0 s.k0]
      exact (opFK_loc h1 v M' h2).2 s2.mem hm
    | false =>
      obtain ⟨rfl, rfl⟩ := Prod.mk.inj (Option.some.inj h2)
      show some _ = some _
      rw [patch_same fun id hi => hm id hi]
def putS (s : S) (d : Option Nat) (v : V) (M : Mem) : S := ⟨putE s.env d v, M, s.k0⟩
/-- The operation itself. -/
theorem Did.op (h : Did pr E nt frz nest ops o s y t v M') : op1K pr E nt frz nest ops o s some = some (putS s o.dst v M') := by
  have hf : fin nt o s v M' some = some (putS s o.dst v M') := by
    unfold fin putS putE
    cases hd : o.dst with
    | none => rfl
    | some d => dsimp only; rw [if_pos (h.dst d hd)]
  have h1 := h.want
  have h2 := h.run
  unfold op1K
  unfold wanted1 at h1
  split
  · rename_i hg
    rw [hg] at h1
    obtain rfl := Option.some.inj h1
    rw [opFK_bind, show opFK pr E frz nest o s (fun v M => some (v, M)) = some (v, M') from h2]
    exact hf
  · rename_i j b hg
    rw [hg] at h1
    dsimp only at h1
    rw [h1, Option.bind_some, h2]
    exact hf
theorem Did.of (hw : wanted1 ops o s = some y) (ht : (bif y then touch pr o s else some ⟨[], false, bound o⟩) = some t) {s' : S} (h : op1K pr E nt frz nest ops o s some = some s') :
    ∃ v M', Did pr E nt frz nest ops o s y t v M' ∧ s' = putS s o.dst v M' := by
  have tb : t.b = bound o := by
    cases y with
    | true => exact touch_b ht
    | false => obtain rfl := Option.some.inj ht; rfl
  have key : ∀ v M', fin nt o s v M' some = some s' → (∀ d, o.dst = some d → d < nt) ∧ s' = putS s o.dst v M' := fun v M' h => by
    unfold fin at h
    unfold putS putE
    cases hd : o.dst with
    | none => rw [hd] at h; obtain rfl := Option.some.inj h; exact ⟨fun d hx => (by cases hx), rfl⟩
    | some d =>
      rw [hd] at h
      dsimp only at h
      split at h
      · rename_i hlt
        obtain rfl := Option.some.inj h
        exact ⟨fun d' hx => (by obtain rfl := Option.some.inj hx; exact hlt), rfl⟩
      · cases h
  unfold op1K at h
  unfold wanted1 at hw
  cases hg : o.guard with
  | none =>
    rw [hg] at h hw
    obtain rfl := Option.some.inj hw
    dsimp only at h
    rw [opFK_bind] at h
    obtain ⟨⟨v, M'⟩, h1, h⟩ := Option.bind_eq_some_iff.1 h
    obtain ⟨k1, k2⟩ := key v M' h
    exact ⟨v, M', ⟨tb, by unfold wanted1; rw [hg], ht, h1, k1⟩, k2⟩
  | some g =>
    obtain ⟨j, b⟩ := g
    rw [hg] at h hw
    dsimp only at h hw
    rw [hw, Option.bind_some] at h
    obtain ⟨⟨v, M'⟩, h1, h⟩ := Option.bind_eq_some_iff.1 h
    obtain ⟨k1, k2⟩ := key v M' h
    exact ⟨v, M', ⟨tb, by unfold wanted1; rw [hg]; exact hw, ht, h1, k1⟩, k2⟩
theorem meet_spec {a b : Touch} {p q : Nat} (ha : a.b = 1000 + 8 * p) (hb : b.b = 1000 + 8 * q) (h : meet a b = false) {id : Nat} (h1 : a.has id) (h2 : b.has id) : a.w = false ∧ b.w = false ∧ ¬ a.own id ∧ ¬ b.own id := by
  unfold meet meet0 at h
  simp only [Bool.or_eq_false_iff, List.any_eq_false, Bool.and_eq_true, decide_eq_true_eq, beq_eq_false_iff_ne] at h
  obtain ⟨⟨⟨n0, n1⟩, n2⟩, n3⟩ := h
  have o1 : ¬ a.own id := fun ho => by
    rcases h2 with h2 | h2
    · exact n2 id h2 ho
    · obtain ⟨x1, x2⟩ := ho
      obtain ⟨x3, x4⟩ := h2
      exact n0 (by omega)
  have o2 : ¬ b.own id := fun ho => by
    rcases h1 with h1 | h1
    · exact n1 id h1 ho
    · obtain ⟨x1, x2⟩ := ho
      obtain ⟨x3, x4⟩ := h1
      exact n0 (by omega)
  have i1 : id ∈ a.ids := h1.resolve_right o1
  have i2 : id ∈ b.ids := h2.resolve_right o2
  have : (a.w || b.w) = false := by
    cases hw : (a.w || b.w) with
    | false => rfl
    | true =>
      rw [hw] at n3
      have : (a.ids.any fun i => b.ids.contains i) = true := List.any_eq_true.2 ⟨id, i1, by simpa using i2⟩
      rw [this] at n3
      cases n3
  simp only [Bool.or_eq_false_iff] at this
  exact ⟨this.1, this.2, o1, o2⟩
/-- Two that are apart change places. -/
theorem swap {a b : Oper} {ya yb : Bool} {ta tb : Touch} {va vb : V} {M1 M2 : Mem} (hap : a.apart ops b = true) (hmt : meet ta tb = false)
    (h1 : Did pr E nt frz nest ops a s ya ta va M1) (h2 : Did pr E nt frz nest ops b (putS s a.dst va M1) yb tb vb M2) :
    ∃ N1 N2, Did pr E nt frz nest ops b s yb tb vb N1 ∧ Did pr E nt frz nest ops a (putS s b.dst vb N1) ya ta va N2 ∧ putS (putS s b.dst vb N1) a.dst va N2 = putS (putS s a.dst va M1) b.dst vb M2 ∧
      (∀ id, tb.has id → N1 id = M2 id ∧ s.mem id = M1 id) ∧ ∀ id, ta.has id → N2 id = M1 id ∧ N1 id = s.mem id := by
  obtain ⟨p1, p2, p3⟩ := Oper.apart_spec hap
  have mt : ∀ {id}, ta.has id → tb.has id → ta.w = false ∧ tb.w = false ∧ ¬ ta.own id ∧ ¬ tb.own id := fun x1 x2 => meet_spec (h1.tb.trans rfl) (h2.tb.trans rfl) hmt x1 x2
  have env : ∀ {d : Option Nat} {v : V} {x : Nat}, (∀ e, d = some e → x ≠ e) → putE s.env d v x = s.env x := fun {d v x} h => by
    cases d with
    | none => rfl
    | some e => exact upd_ne _ _ (h e rfl)
  have q1 : Did pr E nt frz nest ops b s yb tb vb (patch tb.has M2 s.mem) := by
    refine h2.moved (s2 := s) (fun d hd => (env fun e he hx => p1 e he (hx ▸ hd)).symm) fun id hi => ?_
    show s.mem id = M1 id
    by_cases ha : ta.has id
    · obtain ⟨w1, _, o1, _⟩ := mt ha hi
      exact (h1.ro w1 id o1).symm
    · exact (h1.frame id ha).symm
  have q2 : Did pr E nt frz nest ops a (putS s b.dst vb (patch tb.has M2 s.mem)) ya ta va (patch ta.has M1 (patch tb.has M2 s.mem)) := by
    refine h1.moved (s2 := putS s b.dst vb (patch tb.has M2 s.mem)) (fun d hd => env fun e he hx => p3 e he (hx ▸ hd)) fun id hi => ?_
    show patch tb.has M2 s.mem id = s.mem id
    by_cases hb : tb.has id
    · obtain ⟨w1, w2, o1, o2⟩ := mt hi hb
      rw [patch_in hb, h2.ro w2 id o2]
      exact h1.ro w1 id o1
    · rw [patch_out hb]
  refine ⟨_, _, q1, q2, ?_, fun id hi => ⟨patch_in hi, ?_⟩, fun id hi => ⟨patch_in hi, ?_⟩⟩
  rotate_left
  · by_cases ha : ta.has id
    · obtain ⟨w1, _, o1, _⟩ := mt ha hi
      exact (h1.ro w1 id o1).symm
    · exact (h1.frame id ha).symm
  · by_cases hb : tb.has id
    · obtain ⟨w1, w2, o1, o2⟩ := mt hi hb
      rw [patch_in hb, h2.ro w2 id o2]
      exact h1.ro w1 id o1
    · rw [patch_out hb]
  have he : putE (putE s.env b.dst vb) a.dst va = putE (putE s.env a.dst va) b.dst vb := by
    cases ha : a.dst with
    | none => rfl
    | some d =>
      cases hb : b.dst with
      | none => rfl
      | some e =>
        have hne : d ≠ e := fun x => p2 d ha (x ▸ hb)
        funext x
        simp only [putE, upd]
        by_cases hd : x = d
        · subst hd; rw [if_pos rfl, if_neg hne, if_pos rfl]
        · rw [if_neg hd]
          by_cases hxe : x = e
          · rw [if_pos hxe, if_pos hxe]
          · rw [if_neg hxe, if_neg hxe, if_neg hd]
  have hm : patch ta.has M1 (patch tb.has M2 s.mem) = M2 := by
    funext id
    by_cases ha : ta.has id
    · rw [patch_in ha]
      by_cases hb : tb.has id
      · obtain ⟨w1, w2, o1, o2⟩ := mt ha hb
        exact (h2.ro w2 id o2).symm
      · exact (h2.frame id hb).symm
    · rw [patch_out ha]
      by_cases hb : tb.has id
      · rw [patch_in hb]
      · rw [patch_out hb]
        exact ((h2.frame id hb).trans (h1.frame id ha)).symm
  show (⟨_, _, _⟩ : S) = ⟨_, _, _⟩
  rw [hm]
  exact congrArg (fun e => (⟨e, M2, s.k0⟩ : S)) he
/-- The two environments that a change of places leaves are one. -/
theorem putE_swap {e0 : Nat → V} {da db : Option Nat} {va vb : V} (h : ∀ d, da = some d → db ≠ some d) : putE (putE e0 db vb) da va = putE (putE e0 da va) db vb := by
  cases da with
  | none => rfl
  | some d =>
    cases db with
    | none => rfl
    | some e =>
      have hne : d ≠ e := fun x => h d rfl (x ▸ rfl)
      funext x
      simp only [putE, upd]
      by_cases hd : x = d
      · subst hd; rw [if_pos rfl, if_neg hne, if_pos rfl]
      · rw [if_neg hd]
        by_cases hxe : x = e
        · rw [if_pos hxe, if_pos hxe]
        · rw [if_neg hxe, if_neg hxe, if_neg hd]
/-- A load of one cell. -/
def IsLoad (pr : Pr) (frz : List Nat) (o : Oper) (y : Bool) (env : Nat → V) (id c : Nat) : Prop :=
  y = true ∧ (o.dst.any fun d => frz.contains d) = false ∧ ∃ t a, o.op = .load t a ∧ aggT pr.P t = some false ∧ arg env a = some (.ptr id 1 0 c)
theorem cellOf_spec {o : Oper} {y : Bool} {env : Nat → V} {id c : Nat} (h : cellOf pr frz o y env = some (id, c)) : IsLoad pr frz o y env id c := by
  unfold cellOf at h
  rw [Bool.cond_eq_ite] at h
  split at h
  · rename_i hc
    rw [Bool.and_eq_true, Bool.not_eq_true'] at hc
    split at h
    · rename_i t a ho
      split at h
      · rename_i h1 h2
        obtain ⟨rfl, rfl⟩ := Prod.mk.inj (Option.some.inj h)
        exact ⟨hc.1, hc.2, t, a, ho, h1, h2⟩
      · cases h
    · cases h
  · cases h
theorem IsLoad.env {o : Oper} {y : Bool} {e1 e2 : Nat → V} {id c : Nat} (h : IsLoad pr frz o y e1 id c) (he : ∀ d ∈ o.looksAt ops, e1 d = e2 d) : IsLoad pr frz o y e2 id c := by
  obtain ⟨h1, h2, t, a, h3, h4, h5⟩ := h
  refine ⟨h1, h2, t, a, h3, h4, ?_⟩
  rw [← arg_looks he a (by simp [h3, Op.operands])]
  exact h5
theorem IsLoad.run {o : Oper} {y : Bool} {s : S} {id c : Nat} {x : V} (h : IsLoad pr frz o y s.env id c) (hx : cellAt s.mem id c = some x) {v : V} {M' : Mem}
    (hr : (bif y then opFK pr E frz nest o s (fun v M => some (v, M)) else some (.tup [], s.mem)) = some (v, M')) :
    v = x ∧ M' = s.mem ∧ ∀ s2 : S, IsLoad pr frz o y s2.env id c → cellAt s2.mem id c = some x → (bif y then opFK pr E frz nest o s2 (fun v M => some (v, M)) else some (.tup [], s2.mem)) = some (x, s2.mem) := by
  obtain ⟨rfl, h2, t, a, h3, h4, h5⟩ := h
  have key : ∀ (s2 : S) (x : V), arg s2.env a = some (.ptr id 1 0 c) → cellAt s2.mem id c = some x → opFK pr E frz nest o s2 (fun v M => some (v, M)) = (szT pr.P t).bind fun _ => some (x, s2.mem) := fun s2 x q1 q2 => by
    unfold opFK
    rw [h2, cond_false]
    unfold opK
    rw [h3]
    dsimp only
    rw [q1, h4, Option.bind_some, Option.bind_some]
    refine congrArg _ (funext fun n => ?_)
    have : ld s2.mem (.ptr id 1 0 c) false n = some x := by
      unfold cellAt at q2
      split at q2
      · rename_i cs hM
        simp only [ld, cond_false, rd, hM]
        simpa using q2
      · cases q2
    rw [this, Option.bind_some]
  have hr' : opFK pr E frz nest o s (fun v M => some (v, M)) = some (v, M') := hr
  rw [key s x h5 hx] at hr'
  obtain ⟨n, hn, hr2⟩ := Option.bind_eq_some_iff.1 hr'
  obtain ⟨rfl, rfl⟩ := Prod.mk.inj (Option.some.inj hr2)
  refine ⟨rfl, rfl, fun s2 hl hc => ?_⟩
  obtain ⟨_, _, t2, a2, g3, g4, g5⟩ := hl
  obtain ⟨rfl, rfl⟩ := Op.load.inj (h3.symm.trans g3)
  show opFK pr E frz nest o s2 (fun v M => some (v, M)) = _
  rw [key s2 _ g5 hc, hn]
  rfl
structure DidL (pr : Pr) (E : Q → Option Out) (nt : Nat) (frz : List Nat) (nest : Bool) (ops : Array Oper) (o : Oper) (s : S) (y : Bool) (l : Lg) (v : V) (M' : Mem) : Prop where
  did : Did pr E nt frz nest ops o s y l.t v M'
  cell : ∀ id c, l.cell = some (id, c) → IsLoad pr frz o y s.env id c
  keep : ∀ id c, l.keep id c = true → id ∈ l.t.ids ∧ ∃ x, cellAt s.mem id c = some x ∧ cellAt M' id c = some x
  one : l.cell ≠ none → ∀ id c, l.keep id c = false
theorem cellAt_congr {M N : Mem} {id c : Nat} (h : M id = N id) : cellAt M id c = cellAt N id c := by unfold cellAt; rw [h]
theorem sameT_eq {x y : T} (h : sameT x y = true) : x = y := by
  unfold sameT at h
  split at h
  · rw [of_decide_eq_true h]
  · obtain ⟨rfl, rfl⟩ := of_decide_eq_true h; rfl
  · rw [of_decide_eq_true h]
  · rfl
  · rfl
  · rfl
  · rfl
  · cases h
theorem sameV_eq {x y : V} (h : sameV x y = true) : x = y := by
  unfold sameV at h
  split at h
  · rw [sameT_eq h]
  · obtain ⟨rfl, rfl, rfl, rfl⟩ := of_decide_eq_true h; rfl
  · obtain ⟨rfl, rfl, rfl, rfl, rfl⟩ := of_decide_eq_true h; rfl
  · cases h
theorem DidL.of {o : Oper} {s : S} {y : Bool} {t : Touch} {v : V} {M' : Mem} (h : Did pr E nt frz nest ops o s y t v M') : DidL pr E nt frz nest ops o s y (mkLg pr frz o y s.env t s.mem M') v M' := by
  refine ⟨h, fun id c hc => cellOf_spec hc, fun id c hk => ?_, fun hc id c => ?_⟩
  rotate_left
  · show ((cellOf pr frz o y s.env).isNone && _) = false
    have hc : cellOf pr frz o y s.env ≠ none := hc
    cases hx : cellOf pr frz o y s.env with
    | none => exact absurd hx hc
    | some p => rfl
  have hk : ((cellOf pr frz o y s.env).isNone && keepOf t s.mem M' id c) = true := hk
  rw [Bool.and_eq_true] at hk
  have hk := hk.2
  simp only [keepOf, Bool.and_eq_true] at hk
  refine ⟨show id ∈ t.ids by simpa using hk.1, ?_⟩
  have h2 := hk.2
  split at h2
  · rename_i x x' h3 h4
    obtain rfl := sameV_eq h2
    exact ⟨x, h3, h4⟩
  · cases h2
/-- Two that are apart change places, though one reads a cell of what the other writes: of that cell nothing turns. -/
theorem swapL {a b : Oper} {s : S} {ya yb : Bool} {la lb : Lg} {va vb : V} {M1 M2 : Mem} (hap : a.apart ops b = true) (hmt : meetL la lb = false)
    (h1 : DidL pr E nt frz nest ops a s ya la va M1) (h2 : DidL pr E nt frz nest ops b (putS s a.dst va M1) yb lb vb M2) :
    ∃ N1 N2, DidL pr E nt frz nest ops b s yb lb vb N1 ∧ DidL pr E nt frz nest ops a (putS s b.dst vb N1) ya la va N2 ∧ putS (putS s b.dst vb N1) a.dst va N2 = putS (putS s a.dst va M1) b.dst vb M2 := by
  obtain ⟨p1, p2, p3⟩ := Oper.apart_spec hap
  have env : ∀ {d : Option Nat} {v : V} {x : Nat}, (∀ e, d = some e → x ≠ e) → putE s.env d v x = s.env x := fun {d v x} h => by
    cases d with
    | none => rfl
    | some e => exact upd_ne _ _ (h e rfl)
  have eb : ∀ d ∈ b.looksAt ops, s.env d = (putS s a.dst va M1).env d := fun d hd => (env fun e he hx => p1 e he (hx ▸ hd)).symm
  have ea : ∀ (N : Mem), ∀ d ∈ a.looksAt ops, (putS s b.dst vb N).env d = s.env d := fun N d hd => env fun e he hx => p3 e he (hx ▸ hd)
  by_cases hm : meet la.t lb.t = false
  · obtain ⟨N1, N2, q1, q2, q3, q4, q5⟩ := swap hap hm h1.did h2.did
    refine ⟨N1, N2, ⟨q1, fun id c hc => (h2.cell id c hc).env fun d hd => (eb d hd).symm, fun id c hk => ?_, h2.one⟩, ⟨q2, fun id c hc => (h1.cell id c hc).env fun d hd => (ea N1 d hd).symm, fun id c hk => ?_, h1.one⟩, q3⟩
    · obtain ⟨k1, x, k2, k3⟩ := h2.keep id c hk
      obtain ⟨e1, e2⟩ := q4 id (.inl k1)
      exact ⟨k1, x, (cellAt_congr e2).trans k2, (cellAt_congr e1).trans k3⟩
    · obtain ⟨k1, x, k2, k3⟩ := h1.keep id c hk
      obtain ⟨e1, e2⟩ := q5 id (.inl k1)
      exact ⟨k1, x, (cellAt_congr e2).trans k2, (cellAt_congr e1).trans k3⟩
  · have hm' : meet la.t lb.t = true := by simpa using hm
    simp only [meetL, hm', Bool.true_and, Bool.or_eq_false_iff, Bool.not_eq_false', Bool.or_eq_true] at hmt
    obtain ⟨h0, hex⟩ := hmt
    rcases hex with hex | hex
    · -- the first reads, the second keeps
      unfold exempt at hex
      split at hex
      · rename_i id c hc
        have ld := h1.cell id c hc
        obtain ⟨k1, x, k2, k3⟩ := h2.keep id c hex
        have hro : la.t.w = false := by
          obtain ⟨rfl, _, t, ad, g3, _⟩ := ld
          have := h1.did.tch
          simp only [cond_true, touch, g3] at this
          rw [← Option.some.inj this]
        have M1eq : M1 = s.mem := by
          have hr := h1.did.run
          obtain ⟨rfl, f2, t, ad, g3, g4, g5⟩ := ld
          have hr' : opFK pr E frz nest a s (fun v M => some (v, M)) = some (va, M1) := hr
          unfold opFK at hr'
          rw [f2, cond_false] at hr'
          have hr2 := hr'
          unfold opK at hr2
          rw [g3] at hr2
          dsimp only at hr2
          obtain ⟨p, _, hr2⟩ := Option.bind_eq_some_iff.1 hr2
          obtain ⟨q, _, hr2⟩ := Option.bind_eq_some_iff.1 hr2
          obtain ⟨r, _, hr2⟩ := Option.bind_eq_some_iff.1 hr2
          obtain ⟨u, _, hr2⟩ := Option.bind_eq_some_iff.1 hr2
          exact (Prod.mk.inj (Option.some.inj hr2)).2.symm
        subst M1eq
        obtain ⟨rv, _, rmv⟩ := ld.run k2 h1.did.run
        subst rv
        have q1 := h2.did.moved (s2 := s) eb fun id hi => rfl
        have e2 : patch lb.t.has M2 s.mem = M2 := by
          funext id
          by_cases hb : lb.t.has id
          · rw [patch_in hb]
          · rw [patch_out hb]; exact (h2.did.frame id hb).symm
        rw [e2] at q1
        have ld2 : IsLoad pr frz a ya (putS s b.dst vb M2).env id c := ld.env fun d hd => (ea M2 d hd).symm
        refine ⟨M2, M2, ⟨q1, fun id c hc => (h2.cell id c hc).env fun d hd => (eb d hd).symm, h2.keep, h2.one⟩, ⟨⟨h1.did.tb, ?_, ?_, rmv _ ld2 k3, h1.did.dst⟩, fun id c hc => (h1.cell id c hc).env fun d hd => (ea M2 d hd).symm, fun id' c' hk => ?_, h1.one⟩, ?_⟩
        · have := h1.did.want
          unfold wanted1 at this ⊢
          split
          · rename_i hg; rw [hg] at this; exact this
          · rename_i j bb hg; rw [hg] at this; rw [want_looks (ea M2) hg]; exact this
        · have := h1.did.tch
          obtain ⟨rfl, f2, t, ad, g3, g4, g5⟩ := ld
          obtain ⟨_, _, t', ad', g3', g4', g5'⟩ := ld2
          obtain ⟨rfl, rfl⟩ := Op.load.inj (g3.symm.trans g3')
          simp only [cond_true, touch, g3, refsO, g5] at this
          simp only [cond_true, touch, g3, refsO, g5']
          exact this
        · rw [h1.one (by rw [hc]; simp)] at hk; cases hk
        · show (⟨_, _, _⟩ : S) = ⟨_, _, _⟩
          exact congrArg (fun e => (⟨e, M2, s.k0⟩ : S)) (putE_swap p2)
      · cases hex
    · -- the second reads, the first keeps
      unfold exempt at hex
      split at hex
      · rename_i id c hc
        have ld := h2.cell id c hc
        obtain ⟨k1, x, k2, k3⟩ := h1.keep id c hex
        obtain ⟨rv, M2eq, rmv⟩ := ld.run k3 h2.did.run
        subst rv
        have M2eq : M2 = M1 := M2eq
        subst M2eq
        have ld2 : IsLoad pr frz b yb s.env id c := ld.env fun d hd => (eb d hd).symm
        have q2 := h1.did.moved (s2 := putS s b.dst vb s.mem) (ea s.mem) fun id hi => rfl
        have e2 : patch la.t.has M2 s.mem = M2 := by
          funext id
          by_cases hb : la.t.has id
          · rw [patch_in hb]
          · rw [patch_out hb]; exact (h1.did.frame id hb).symm
        have q2 : Did pr E nt frz nest ops a (putS s b.dst vb s.mem) ya la.t va M2 := by
          have := q2
          rw [show (putS s b.dst vb s.mem).mem = s.mem from rfl, e2] at this
          exact this
        refine ⟨s.mem, M2, ⟨⟨h2.did.tb, ?_, ?_, rmv _ ld2 k2, h2.did.dst⟩, fun id c hc => (h2.cell id c hc).env fun d hd => (eb d hd).symm, fun id' c' hk => ?_, h2.one⟩, ⟨q2, fun id c hc => (h1.cell id c hc).env fun d hd => (ea s.mem d hd).symm, h1.keep, h1.one⟩, ?_⟩
        · have := h2.did.want
          unfold wanted1 at this ⊢
          split
          · rename_i hg; rw [hg] at this; exact this
          · rename_i j bb hg; rw [hg] at this; rw [want_looks eb hg]; exact this
        · have := h2.did.tch
          obtain ⟨rfl, f2, t, ad, g3, g4, g5⟩ := ld
          obtain ⟨_, _, t', ad', g3', g4', g5'⟩ := ld2
          obtain ⟨rfl, rfl⟩ := Op.load.inj (g3.symm.trans g3')
          simp only [cond_true, touch, g3, refsO, g5] at this
          simp only [cond_true, touch, g3, refsO, g5']
          exact this
        · rw [h2.one (by rw [hc]; simp)] at hk; cases hk
        · show (⟨_, _, _⟩ : S) = ⟨_, _, _⟩
          exact congrArg (fun e => (⟨e, M2, s.k0⟩ : S)) (putE_swap p2)
      · cases hex
/-- A region in the order of a list, with what each one touches. -/
inductive Runs (pr : Pr) (E : Q → Option Out) (nt : Nat) (frz : List Nat) (nest : Bool) (ops : Array Oper) (τ : Nat → Lg) : List Nat → S → S → Prop
  | nil {s : S} : Runs pr E nt frz nest ops τ [] s s
  | cons {i : Nat} {r : List Nat} {s sf : S} {o : Oper} {y : Bool} {v : V} {M' : Mem} : ops[i]? = some o → DidL pr E nt frz nest ops o s y (τ i) v M' → Runs pr E nt frz nest ops τ r (putS s o.dst v M') sf → Runs pr E nt frz nest ops τ (i :: r) s sf
def Free (ops : Array Oper) (τ : Nat → Lg) (j i : Nat) : Prop := (∀ a b, ops[j]? = some a → ops[i]? = some b → a.apart ops b = true) ∧ meetL (τ j) (τ i) = false
theorem bubble {τ : Nat → Lg} {i : Nat} {R2 : List Nat} {sf : S} : ∀ {R1 : List Nat} {s : S}, Runs pr E nt frz nest ops τ (R1 ++ i :: R2) s sf → (∀ j ∈ R1, Free ops τ j i) → Runs pr E nt frz nest ops τ (i :: (R1 ++ R2)) s sf
  | [], s, h, _ => h
  | j :: R1, s, h, hf => by
    cases h with
    | cons ho h1 hr =>
      have := bubble hr fun k hk => hf k (by simp [hk])
      cases this with
      | cons ho2 h2 hr2 =>
        obtain ⟨f1, f2⟩ := hf j (by simp)
        obtain ⟨N1, N2, g1, g2, ge⟩ := swapL (f1 _ _ ho ho2) f2 h1 h2
        rw [← ge] at hr2
        exact .cons ho2 g1 (.cons ho g2 hr2)
theorem runs_congr {τ τ' : Nat → Lg} {sf : S} : ∀ {l : List Nat} {s : S}, Runs pr E nt frz nest ops τ l s sf → (∀ i ∈ l, τ' i = τ i) → Runs pr E nt frz nest ops τ' l s sf
  | [], s, h, _ => by cases h; exact .nil
  | i :: l, s, h, he => by
    cases h with
    | cons ho h1 hr => exact .cons ho (by rw [he i (by simp)]; exact h1) (runs_congr hr fun k hk => he k (by simp [hk]))
theorem clear_spec {bm : Array Nat} {i : Nat} {t : Lg} : ∀ {log : List (Nat × Lg)}, clear bm i t log = true → ∀ p ∈ log, ordered bm p.1 i = true ∨ meetL p.2 t = false
  | [], _ => fun p hp => by cases hp
  | (j, u) :: r, h => fun p hp => by
    simp only [clear, Bool.and_eq_true, Bool.or_eq_true, Bool.not_eq_true'] at h
    rcases List.mem_cons.1 hp with rfl | hp
    · exact h.1
    · exact clear_spec h.2 p hp
theorem opsD_runs {bm : Array Nat} {sf : S} : ∀ {l : List Nat} {log : List (Nat × Lg)} {s : S}, l.Nodup → opsD pr E nt frz nest ops bm l log s some = some sf →
    ∃ τ, Runs pr E nt frz nest ops τ l s sf ∧ l.Pairwise (fun j i => ordered bm j i = true ∨ meetL (τ j) (τ i) = false) ∧ ∀ p ∈ log, ∀ i ∈ l, ordered bm p.1 i = true ∨ meetL p.2 (τ i) = false
  | [], log, s, _, h => by
    obtain rfl := Option.some.inj h
    exact ⟨fun _ => ⟨⟨[], false, 0⟩, none, fun _ _ => false⟩, .nil, .nil, fun p _ i hi => by cases hi⟩
  | i :: l, log, s, hn, h => by
    simp only [opsD] at h
    split at h
    · rename_i o ho
      obtain ⟨y, hy, h⟩ := Option.bind_eq_some_iff.1 h
      obtain ⟨t, ht, h⟩ := Option.bind_eq_some_iff.1 h
      rw [op1K_bind] at h
      obtain ⟨s1, h1, h⟩ := Option.bind_eq_some_iff.1 h
      obtain ⟨v, M', hd, rfl⟩ := Did.of hy ht h1
      simp only [Bool.cond_eq_ite] at h
      split at h
      · rename_i hcl
        have hL := DidL.of hd
        rw [show (putS s o.dst v M').mem = M' from rfl] at hcl h
        generalize mkLg pr frz o y s.env t s.mem M' = lg at hL hcl h
        rw [List.nodup_cons] at hn
        obtain ⟨τ, r1, r2, r3⟩ := opsD_runs hn.2 h
        have hτ : ∀ k ∈ l, upd τ i lg k = τ k := fun k hk => upd_ne _ _ fun e => hn.1 (e ▸ hk)
        refine ⟨upd τ i lg, .cons ho (by rw [upd_same]; exact hL) (runs_congr r1 hτ), .cons (fun k hk => ?_) (r2.imp_of_mem fun {a b} ha hb hx => by rw [hτ a ha, hτ b hb]; exact hx), fun p hp k hk => ?_⟩
        · rw [upd_same, hτ k hk]
          exact r3 (i, lg) (by simp) k hk
        · rcases List.mem_cons.1 hk with rfl | hk
          · rw [upd_same]; exact clear_spec hcl p hp
          · rw [hτ k hk]; exact r3 p (by simp [hp]) k hk
      · cases h
    · cases h
theorem before_spec {i j : Nat} (h : ordered (Region.before ops) j i = true) : ∃ o e, ops[i]? = some o ∧ e ∈ o.after ∧ Region.binds .any e = true ∧ (e.on = j ∨ ordered (Region.before ops) j e.on = true) := by
  have key : (Region.before ops).size = ops.size ∧ ∀ i, ((Region.before ops).getD i 0).testBit j = true → ∃ o e, ops[i]? = some o ∧ e ∈ o.after ∧ Region.binds .any e = true ∧ (e.on = j ∨ ((Region.before ops).getD e.on 0).testBit j = true) := by
    unfold Region.before
    refine Array.foldl_induction (motive := fun (n : Nat) (acc : Array Nat) => acc.size = n ∧ ∀ i, (acc.getD i 0).testBit j = true → ∃ o e, ops[i]? = some o ∧ e ∈ o.after ∧ Region.binds .any e = true ∧ (e.on = j ∨ (acc.getD e.on 0).testBit j = true)) ⟨rfl, fun i h => by simp at h⟩ fun k acc ⟨hs, hI⟩ => ⟨by simp [hs], fun i h => ?_⟩
    have keep : ∀ (x m : Nat), (acc.getD m 0).testBit j = true → ((acc.push x).getD m 0).testBit j = true := fun x m hm => by
      rcases Nat.lt_or_ge m acc.size with hlt | hge
      · rw [Array.getD_eq_getD_getElem?, Array.getElem?_push_lt hlt] 
        rw [Array.getD_eq_getD_getElem?, Array.getElem?_eq_getElem hlt] at hm
        exact hm
      · rw [Array.getD_eq_getD_getElem?, Array.getElem?_eq_none hge] at hm
        simp at hm
    rcases Nat.lt_trichotomy i acc.size with hlt | heq | hgt
    · rw [Array.getD_eq_getD_getElem?, Array.getElem?_push_lt hlt] at h
      obtain ⟨o, e, h1, h2, h3, h4⟩ := hI i (by rw [Array.getD_eq_getD_getElem?, Array.getElem?_eq_getElem hlt]; exact h)
      exact ⟨o, e, h1, h2, h3, h4.imp id (keep _ _)⟩
    · subst heq
      rw [Array.getD_eq_getD_getElem?, Array.getElem?_push_size] at h
      have hk : ops[acc.size]? = some ops[k] := by rw [hs]; exact Array.getElem?_eq_getElem k.2
      have in_ : ∀ (l : List Edge) (z : Nat), (l.foldl (fun s e => if Region.binds .any e then s ||| 2 ^ e.on ||| acc.getD e.on 0 else s) z).testBit j = true →
          z.testBit j = true ∨ ∃ e ∈ l, Region.binds .any e = true ∧ (e.on = j ∨ (acc.getD e.on 0).testBit j = true) := by
        intro l
        induction l with
        | nil => exact fun z h => .inl h
        | cons e l ih =>
          intro z h
          rcases ih _ h with h | ⟨e', h1, h2⟩
          · dsimp only at h
            split at h
            · rename_i hb
              rw [Nat.testBit_or, Nat.testBit_or, Bool.or_eq_true, Bool.or_eq_true] at h
              rcases h with (h | h) | h
              · exact .inl h
              · rw [Nat.testBit_two_pow] at h
                exact .inr ⟨e, by simp, hb, .inl (by simpa using h)⟩
              · exact .inr ⟨e, by simp, hb, .inr h⟩
            · exact .inl h
          · exact .inr ⟨e', by simp [h1], h2⟩
      simp only [Option.getD_some] at h
      rw [← Array.foldl_toList] at h
      rcases in_ _ _ h with h | ⟨e, h1, h2, h3⟩
      · simp at h
      · exact ⟨_, e, hk, by simpa using h1, h2, h3.imp id (keep _ _)⟩
    · rw [Array.getD_eq_getD_getElem?, Array.getElem?_eq_none (by simp; omega)] at h
      simp at h
  exact key.2 i h
theorem drawOk_spec (h : drawOk ops = true) {i j : Nat} (hij : i < j) (hj : j < ops.size) : ordered (Region.before ops) i j = true ∨ ∀ a b, ops[i]? = some a → ops[j]? = some b → a.apart ops b = true := by
  unfold drawOk at h
  have h1 := List.all_eq_true.1 h j (List.mem_range.2 hj)
  rw [Bool.and_eq_true] at h1
  have := List.all_eq_true.1 h1.2 i (List.mem_range.2 hij)
  split at this
  · rename_i x y hx hy
    rcases Bool.or_eq_true_iff.1 this with h | h
    · exact .inl h
    · exact .inr fun a b ha hb => by
        obtain rfl := Option.some.inj (hx.symm.trans ha)
        obtain rfl := Option.some.inj (hy.symm.trans hb)
        exact h
  · cases this
theorem drawOk_back (h : drawOk ops = true) {j : Nat} {o : Oper} (hj : ops[j]? = some o) : ∀ e ∈ o.after, Region.binds .any e = true → e.on < j := by
  unfold drawOk at h
  have h1 := List.all_eq_true.1 h j (List.mem_range.2 (Array.getElem?_eq_some_iff.1 hj).1)
  rw [Bool.and_eq_true, hj] at h1
  have h2 : (o.after.all fun e => !Region.binds .any e || decide (e.on < j)) = true := h1.1
  exact fun e he hb => by
    have h3 := Array.all_eq_true_iff_forall_mem.1 h2 e he
    rw [hb] at h3
    simpa using h3
end
section
variable {w : World} {F : Nat → Prop} {σ : Sg} {pr : Pr} {E : Q → Option Out} {nest : Bool} {frz : List Nat} {nt : Nat} {ops : Array Oper}
theorem any_sound (hE : CallOk pr.P E) (hok : drawOk ops = true) {τ : Nat → Lg} {sf : S} {Q : Exit → Act → World → Prop} : ∀ (fuel : Nat) {listed : Array Bool} {R : List Nat} {w : World} {F : Nat → Prop} {σ : Sg} {s : S} {a : Act},
    St w F σ s a → Ac nt a → Runs pr E nt frz nest ops τ R s sf → R.Pairwise (fun j i => ordered (Region.before ops) j i = true ∨ Free ops τ j i) →
    R.Nodup → (∀ i, i ∈ R ↔ i < ops.size ∧ listed.getD i true = false) → listed.size = ops.size →
    (∀ k, listed.getD k false = true → ∀ j, ordered (Region.before ops) j k = true → listed.getD j false = true) → R.length = fuel →
    (∀ a' w', RegOk nt w F σ s sf a' w' → Q .normal a' w') → wpAny pr.P .any ops Q fuel listed a w := by
  have flip : ∀ {listed : Array Bool} {k : Nat}, k < listed.size → listed.getD k true = listed.getD k false := fun {listed k} h => by simp [h]
  intro fuel
  induction fuel with
  | zero =>
    intro listed R w F σ s a st ac hr hp hn hR hs hd hl hQ
    obtain rfl := List.length_eq_zero_iff.1 hl
    refine ⟨List.eq_nil_iff_forall_not_mem.2 fun j hj => ?_, ?_⟩
    · obtain ⟨h0, o, ho, _⟩ := mem_ready.1 hj
      have := (hR j).2 ⟨(Array.getElem?_eq_some_iff.1 ho).1, h0⟩
      cases this
    · cases hr
      exact hQ a w ⟨F, σ, .refl st.wf, st, ac, rfl⟩
  | succ fuel ih =>
    intro listed R w F σ s a st ac hr hp hn hR hs hd hl hQ
    refine ⟨fun he => ?_, fun i hi => ?_⟩
    · exfalso
      have none_ : ∀ n i, i < n → i ∉ R := by
        intro n
        induction n with
        | zero => exact fun i h => absurd h (Nat.not_lt_zero i)
        | succ n ihn =>
          intro i hi hiR
          obtain ⟨hlt, hun⟩ := (hR i).1 hiR
          have ho : ops[i]? = some ops[i] := Array.getElem?_eq_getElem hlt
          have : i ∈ Region.ready .any ops listed := mem_ready.2 ⟨hun, _, ho, fun e he hb => by
            have h1 := drawOk_back hok ho e he hb
            have h2 := ihn e.on (by omega)
            rw [hR e.on] at h2
            have h3 : e.on < ops.size := by omega
            rw [← flip (by omega)]
            cases hx : listed.getD e.on true with
            | true => rfl
            | false => exact absurd ⟨h3, hx⟩ h2⟩
          rw [he] at this
          cases this
      obtain ⟨i, hi⟩ : ∃ i, i ∈ R := by
        cases R with
        | nil => simp at hl
        | cons i R => exact ⟨i, by simp⟩
      exact none_ (i + 1) i (Nat.lt_succ_self i) hi
    · obtain ⟨h0, o, ho, hall⟩ := mem_ready.1 hi
      have hi' : i ∈ R := (hR i).2 ⟨(Array.getElem?_eq_some_iff.1 ho).1, h0⟩
      have hbef : ∀ j, ordered (Region.before ops) j i = true → listed.getD j false = true := fun j hj => by
        obtain ⟨o', e, ho', he, hb, hx⟩ := before_spec hj
        obtain rfl := Option.some.inj (ho.symm.trans ho')
        have := hall e he hb
        rcases hx with rfl | hx
        · exact this
        · exact hd _ this j hx
      obtain ⟨R1, R2, rfl⟩ := List.append_of_mem hi'
      have hfree : ∀ j ∈ R1, Free ops τ j i := fun j hj => by
        rcases (List.pairwise_append.1 hp).2.2 j hj i (by simp) with h | h
        · have h1 := hbef j h
          have h2 := ((hR j).1 (by simp [hj])).2
          rcases Nat.lt_or_ge j listed.size with h' | h'
          · simp [h'] at h1 h2; rw [h1] at h2; cases h2
          · simp [Array.getElem?_eq_none h'] at h1
        · exact h
      have hb := bubble hr hfree
      cases hb with
      | cons ho2 hd1 hr2 =>
        obtain rfl := Option.some.inj (ho.symm.trans ho2)
        refine op1_sound hE ho st ac hd1.did.op _ _ fun a' w' F' σ' hst st' ac' => ?_
        have hn2 : (R1 ++ R2).Nodup ∧ i ∉ R1 ++ R2 := by
          have := (List.perm_middle (a := i) (l₁ := R1) (l₂ := R2)).nodup_iff.1 hn
          rw [List.nodup_cons] at this
          exact ⟨this.2, this.1⟩
        have hlt : i < listed.size := by rw [hs]; exact (Array.getElem?_eq_some_iff.1 ho).1
        refine ih (R := R1 ++ R2) st' ac' hr2 ?_ hn2.1 (fun k => ?_) (by simp [hs]) (fun k hk j hj => ?_) (by simp at hl ⊢; omega) fun a'' w'' ⟨F2, σ2, q1, q2, q3, q4⟩ => ?_
        · exact hp.sublist (List.Sublist.append_left (List.sublist_cons_self i R2) R1)
        · by_cases e : k = i
          · subst e
            constructor
            · exact fun h => absurd h hn2.2
            · intro ⟨_, h⟩
              simp [hlt] at h
          · rw [getD_set_ne true (Ne.symm e), ← hR k]
            simp [e]
        · by_cases e : k = i
          · subst e; exact getD_set_true (hbef j hj)
          · rw [getD_set_ne false (Ne.symm e)] at hk
            exact getD_set_true (hd k hk j hj)
        · exact hQ a'' w'' ⟨F2, σ2, hst.trans q1, q2, q3, q4⟩
theorem draw_sound (hm : pr.P.follows .mixedOrders = true) (hE : CallOk pr.P E) {id : Nat} {s s' : S} {a : Act} (st : St w F σ s a) (ac : Ac nt a)
    (hok : drawOk ops = true) (h : opsD pr E nt frz nest ops (Region.before ops) (List.range ops.size) [] s some = some s') (Q : Exit → Act → World → Prop) (hQ : ∀ a' w', RegOk nt w F σ s s' a' w' → Q .normal a' w') : (Code.region id ops true).wp pr.P Q a w := by
  obtain ⟨τ, h1, h2, _⟩ := opsD_runs List.nodup_range h
  have le : Le w F σ s.mem { w with drawn := w.drawn + 1 } F σ s.mem := ⟨fun _ h => h, fun _ _ => rfl, fun id o h => ⟨o, h, ObLe.refl _ _ _⟩, fun _ _ h => h⟩
  have wf2 : Wf { w with drawn := w.drawn + 1 } F σ s.mem := ⟨fun id o h => (st.wf.obj id o h).mono le h (fun _ => rfl) (fun _ _ _ _ _ => rfl), st.wf.inj, st.wf.row, st.wf.lt⟩
  have step : Step w F σ s.mem { w with drawn := w.drawn + 1 } F σ s.mem := ⟨le, wf2, ⟨rfl, rfl, rfl, Nat.le_refl _, fun _ _ _ => rfl, fun _ h => .inl h, fun _ h => .inl h⟩⟩
  refine wp_region_any hm (any_sound hE hok _ (R := List.range ops.size) ⟨wf2, fun t => (st.env t).mono le⟩ ac h1 ?_ List.nodup_range (fun i => ?_) (by simp) (fun k hk => ?_) (by simp) fun a' w' ⟨F2, σ2, q1, q2, q3, q4⟩ => hQ a' w' ⟨F2, σ2, step.trans q1, q2, q3, q4⟩)
  · refine (h2.and List.pairwise_lt_range).imp_of_mem fun {j i} hj hi ⟨x1, x2⟩ => ?_
    rcases x1 with x1 | x1
    · exact .inl x1
    · rcases drawOk_spec hok x2 (List.mem_range.1 hi) with x3 | x3
      · exact .inl x3
      · exact .inr ⟨x3, x1⟩
  · rw [List.mem_range]
    constructor
    · exact fun h => ⟨h, by simp [h]⟩
    · exact fun h => h.1
  · exfalso
    rcases Nat.lt_or_ge k ops.size with h' | h'
    · simp [h'] at hk
    · rw [Array.getD_eq_getD_getElem?, Array.getElem?_eq_none (by simpa using h')] at hk
      simp at hk
end
end Go.Ev

/- The evaluator, seventeenth text: code, loops, calls. -/
namespace Go.Ev
set_option linter.unusedVariables false
set_option linter.unusedSimpArgs false
set_option linter.unusedVariables false
set_option linter.unusedSimpArgs false
section
variable {w : World} {F : Nat → Prop} {σ : Sg} {M : Mem}
theorem ofE_map (live : List Nat) (g : Nat → V) (t : Nat) : ofE (live.map fun t => (t, g t)) t = if t ∈ live then g t else .undef := by
  induction live with
  | nil => rfl
  | cons x l ih =>
    simp only [List.map_cons, ofE]
    by_cases e : t = x
    · subst e; simp
    · rw [if_neg e, ih]
      simp [e]
theorem zip_renL (r : Nat → Option Nat) (g : Nat → V) : ∀ live : List Nat, live.zip (V.renL r (live.map g)) = live.map fun t => (t, (g t).ren r)
  | [] => rfl
  | x :: l => by simp [V.renL, zip_renL r g l]
theorem mask_sound {s : S} {a : Act} (st : St w F σ s a) (live : List Nat) : St w F σ (mask live s) a := by
  refine ⟨st.wf, fun t => ?_⟩
  show RepV w F σ s.mem (ofE (live.map fun t => (t, s.env t)) t) _
  rw [ofE_map]
  split
  · exact st.env t
  · exact .undef _
theorem norm_spec {k0 : Nat} {vs : List V} {M : Mem} {vs' : List V} {H : List Ob} (h : norm k0 vs M = some (vs', H)) :
    ∃ L, vs' = V.renL (place L) vs ∧ H = locM L M ∧ L.Nodup ∧ ∃ r, L = List.range k0 ++ r := by
  unfold norm at h
  obtain ⟨L, hL, he⟩ := Option.map_eq_some_iff.1 h
  obtain ⟨rfl, rfl⟩ := Prod.mk.inj he
  refine ⟨L, rfl, rfl, clos_nodup _ hL (by simp), ?_⟩
  rw [List.range_eq_range'] at hL
  obtain ⟨r, hr⟩ := clos_range (M := M) k0 fuel0 0 (by simpa using hL)
  exact ⟨r, by simpa using hr⟩
/-- Where a run stands, az told from the begin of the call. -/
structure At (nt : Nat) (w0 : World) (F0 : Nat → Prop) (σ0 : Sg) (H0 : List Ob) (s : S) (a : Act) (w : World) (F : Nat → Prop) (σ : Sg) : Prop where
  st : St w F σ s a
  ac : Ac nt a
  step : Step w0 F0 σ0 (ofL H0) w F σ s.mem
  k0 : s.k0 = H0.length
variable {nt : Nat} {w0 : World} {F0 : Nat → Prop} {σ0 : Sg} {H0 : List Ob}
theorem normS_sound {live : List Nat} {s s' : S} {a : Act} (h : normS live s = some s') (at_ : At nt w0 F0 σ0 H0 s a w F σ) : ∃ σ', At nt w0 F0 σ0 H0 s' a w F σ' := by
  unfold normS at h
  obtain ⟨⟨vs, H⟩, h1, rfl⟩ := Option.map_eq_some_iff.1 h
  obtain ⟨L, e1, e2, hn, hp⟩ := norm_spec h1
  subst e1
  subst e2
  refine ⟨locS L σ, ⟨⟨loc_wf at_.st.wf hn, fun t => ?_⟩, at_.ac, norm_step at_.step at_.k0.symm hn hp, at_.k0⟩⟩
  have e : ofE (live.zip (V.renL (place L) (live.map s.env))) t = if t ∈ live then (s.env t).ren (place L) else .undef := by
    rw [zip_renL, ofE_map live (fun t => (s.env t).ren (place L)) t]
  show RepV w F (locS L σ) (ofL (locM L s.mem)) (ofE (live.zip (V.renL (place L) (live.map s.env))) t) _
  rw [e]
  split
  · exact loc_rep (at_.st.env t)
  · exact .undef _
theorem empty_sound (wf : Wf w F σ M) {nb sz : Nat} {M' : Mem} (h0 : 0 < sz) (h : mk nb M (.vec true sz []) = some M') :
    Step w F σ M w F (sgNew σ nb none) M' ∧ RepV w F (sgNew σ nb none) M' (.vec nb 0 sz 0 0) (.slice none 0 0) := by
  unfold mk at h
  split at h
  · rename_i hn
    obtain rfl := Option.some.inj h
    refine ⟨step_new wf (by simpa using hn) rfl rfl rfl (Nat.le_refl _) (fun _ _ => rfl) (fun b o hx => by cases hx) (fun q hq => ?_) fun le => .vec h0 (by simp) (by simp) (by simp), ?_⟩
    · cases q with
      | none => rfl
      | some q => obtain ⟨i, j⟩ := q; obtain ⟨fl, sz', es2, e, s, r, h1, h2, _⟩ := hq; rw [upd_same] at h1; obtain ⟨_, _, rfl⟩ := Ob.vec.inj (Option.some.inj h1); simp at h2
    · exact .vec (upd_same ..) (by simp) (by simp) (by simp) fun m hm => ⟨by simp, fun _ => ⟨true, [], rfl, fun hp => by simp at hp⟩⟩
  · cases h
theorem thaw1_sound {x : Nat × Option Nat × Nat} {s s' : S} {a : Act} (h : thaw1 s x = some s') (at_ : At nt w0 F0 σ0 H0 s a w F σ) : ∃ σ', At nt w0 F0 σ0 H0 s' a w F σ' := by
  unfold thaw1 at h
  split at h
  · rename_i t sz
    simp only [Bool.cond_eq_ite] at h
    split at h
    · cases h
    · rename_i hz
      have h0 : 0 < sz := by have : sz ≠ 0 := by simpa using hz
                             omega
      split at h
      · rename_i he
        obtain ⟨M1, hM1, rfl⟩ := Option.map_eq_some_iff.1 h
        obtain ⟨st1, hr⟩ := empty_sound at_.st.wf h0 hM1
        refine ⟨_, ⟨⟨st1.wf, fun t' => ?_⟩, at_.ac, at_.step.trans st1, at_.k0⟩⟩
        by_cases e : t' = t
        · subst e
          have := at_.st.env t'
          rw [he] at this
          rw [rep_nils this]
          simp only [upd_same]
          exact hr
        · simp only [upd_ne s.env _ e]
          exact (at_.st.env t').mono st1.le
      · obtain rfl := Option.some.inj h
        exact ⟨σ, at_⟩
  · rename_i t c sz
    simp only [Bool.cond_eq_ite] at h
    split at h
    · cases h
    · rename_i hz
      have h0 : 0 < sz := by have : sz ≠ 0 := by simpa using hz
                             omega
      split at h
      · rename_i id n i o he
        split at h
        · rename_i cs hM
          split at h
          · rename_i hc
            obtain ⟨M1, hM1, rfl⟩ := Option.map_eq_some_iff.1 h
            obtain ⟨st1, hr⟩ := empty_sound at_.st.wf h0 hM1
            -- the box is az it was; its cell is told otherwise
            obtain ⟨ob, hid1, _⟩ := st1.le.obj id _ hM
            have hidne : id ≠ 2000000 + 100 * t + c := fun e => by
              unfold mk at hM1
              rw [← e, hM] at hM1
              simp at hM1
            have hid : M1 id = some (.box cs) := by
              unfold mk at hM1
              split at hM1
              · obtain rfl := Option.some.inj hM1
                rw [upd_ne _ _ hidne]; exact hM
              · cases hM1
            cases st1.wf.obj id _ hid with
            | @box _ b o0 cur ty hs hb hcs =>
              have hlt : c < cs.length := (List.getElem?_eq_some_iff.1 hc).1
              have stp := step_store (cur' := cur) st1.wf (p := none) (o' := .box (cs.set c (.vec (2000000 + 100 * t + c) 0 sz 0 0))) hid ⟨_, hid, by simp⟩ hs hb rfl ⟨fun m' hm => by
                obtain rfl := Option.some.inj hm
                exact ⟨1, rfl, Nat.le_refl _, fun _ => ⟨by simp [Ob.sz], fun _ h => h, fun fl sz es he => by cases he⟩⟩⟩ (fun q hq => by
                cases q with
                | none => exact ⟨_, hid, by simp⟩
                | some q => obtain ⟨i, j⟩ := q; obtain ⟨fl, sz, es, e, s, r, h1, _⟩ := hq; rw [upd_same] at h1; cases h1) (fun le => by
                rw [setRow_self w b cur ty (0, 0) hb] at le ⊢
                refine .box hs hb fun j x hj => ?_
                rw [List.getElem?_set] at hj
                by_cases hjk : c = j
                · subst hjk
                  rw [if_pos rfl, if_pos hlt] at hj
                  obtain rfl := Option.some.inj hj
                  obtain ⟨u, k1, k2⟩ := hcs c _ hc
                  rw [rep_nils k2] at k1
                  exact ⟨_, k1, hr.mono le⟩
                · rw [if_neg hjk] at hj
                  obtain ⟨u1, q1, q2⟩ := hcs j x hj
                  exact ⟨u1, q1, q2.mono le⟩)
              rw [setRow_self w b cur ty (0, 0) hb] at stp
              exact ⟨_, ⟨⟨stp.wf, fun t' => ((at_.st.env t').mono st1.le).mono stp.le⟩, at_.ac, (at_.step.trans st1).trans stp, at_.k0⟩⟩
          · obtain rfl := Option.some.inj h
            exact ⟨σ, at_⟩
        · obtain rfl := Option.some.inj h
          exact ⟨σ, at_⟩
      · obtain rfl := Option.some.inj h
        exact ⟨σ, at_⟩
theorem thawS_sound : ∀ (l : List (Nat × Option Nat × Nat)) {σ : Sg} {s s' : S} {a : Act}, thawS l s = some s' → At nt w0 F0 σ0 H0 s a w F σ → ∃ σ', At nt w0 F0 σ0 H0 s' a w F σ'
  | [], σ, s, s', a, h, at_ => by obtain rfl := Option.some.inj h; exact ⟨σ, at_⟩
  | x :: l, σ, s, s', a, h, at_ => by
    simp only [thawS] at h
    obtain ⟨s1, h1, h2⟩ := Option.bind_eq_some_iff.1 h
    obtain ⟨σ1, k1⟩ := thaw1_sound h1 at_
    exact thawS_sound l h2 k1
/-- How code ends. -/
def OutOk (nt : Nat) (w0 : World) (F0 : Nat → Prop) (σ0 : Sg) (H0 : List Ob) (out : Out) (e : Exit) (a' : Act) (w' : World) : Prop :=
  match out with
  | .next s' => e = .normal ∧ ∃ F' σ', At nt w0 F0 σ0 H0 s' a' w' F' σ'
  | .exit id s' => e = .exit id ∧ ∃ F' σ', At nt w0 F0 σ0 H0 s' a' w' F' σ'
  | .ret s' => e = .ret ∧ ∃ F' σ', At nt w0 F0 σ0 H0 s' a' w' F' σ'
  | .val .. => False
/-- What the evaluator tells of a loop is so. -/
def LoopOk (pr : Pr) (E : Q → Option Out) : Prop :=
  ∀ (l : LoopQ) (s : S) (out : Out), E (.loop l s) = some out → ∀ (w0 : World) (F0 : Nat → Prop) (σ0 : Sg) (H0 : List Ob) (w : World) (F : Nat → Prop) (σ : Sg) (a : Act),
    At (ntOf pr l.f) w0 F0 σ0 H0 s a w F σ → (Code.loop l.c).wp pr.P (OutOk (ntOf pr l.f) w0 F0 σ0 H0 out) a w
theorem loopE_sound {pr : Pr} {E : Q → Option Out} (hL : LoopOk pr E) {l : LoopQ} {s : S} {out : Out} {a : Act} (h : loopE E l s = some out) (at_ : At (ntOf pr l.f) w0 F0 σ0 H0 s a w F σ) :
    (Code.loop l.c).wp pr.P (OutOk (ntOf pr l.f) w0 F0 σ0 H0 out) a w := by
  unfold loopE at h
  obtain ⟨s1, h1, h⟩ := Option.bind_eq_some_iff.1 h
  obtain ⟨s2, h2, h⟩ := Option.bind_eq_some_iff.1 h
  obtain ⟨σ1, k1⟩ := thawS_sound _ h1 at_
  obtain ⟨σ2, k2⟩ := normS_sound h2 k1
  exact hL l s2 out h w0 F0 σ0 H0 w F σ2 a k2
theorem exec_sound {pr : Pr} {E : Q → Option Out} (hm : pr.P.follows .mixedOrders = true) (hE : CallOk pr.P E) (hL : LoopOk pr E) {f : FuncId} {frz : List Nat} {nest : Bool} : ∀ (x : Ann) (c : Code) {w : World} {F : Nat → Prop} {σ : Sg} {s : S} {out : Out} {a : Act},
    exec pr E f (ntOf pr f) frz nest x c s some = some out → At (ntOf pr f) w0 F0 σ0 H0 s a w F σ → c.wp pr.P (OutOk (ntOf pr f) w0 F0 σ0 H0 out) a w
  | .cut live x, c, w, F, σ, s, out, a, h, at_ => by
    simp only [exec] at h
    exact exec_sound hm hE hL x c h ⟨mask_sound at_.st live, at_.ac, at_.step, at_.k0⟩
  | .seq x y, c, w, F, σ, s, out, a, h, at_ => by
    cases c <;> simp only [exec] at h <;> try (cases h; done)
    rename_i c1 c2
    rw [exec_bind] at h
    obtain ⟨o1, h1, h2⟩ := Option.bind_eq_some_iff.1 h
    refine wp_seq (wp_mono (exec_sound hm hE hL x c1 h1 at_) fun e a' w' he => ?_)
    cases o1 with
    | next s' =>
      obtain ⟨rfl, F', σ', k⟩ := he
      exact exec_sound hm hE hL y c2 h2 k
    | exit id s' =>
      obtain rfl := Option.some.inj h2
      obtain ⟨rfl, F', σ', k⟩ := he
      exact ⟨rfl, F', σ', k⟩
    | ret s' =>
      obtain rfl := Option.some.inj h2
      obtain ⟨rfl, F', σ', k⟩ := he
      exact ⟨rfl, F', σ', k⟩
    | val v H => exact he.elim
  | .cond x y, c, w, F, σ, s, out, a, h, at_ => by
    cases c <;> simp only [exec] at h <;> try (cases h; done)
    rename_i cc c1 c2
    obtain ⟨v, h1, h⟩ := Option.bind_eq_some_iff.1 h
    have hv := rep_arg at_.st h1
    split at h
    · rename_i t
      have he := rep_bool hv
      cases t with
      | true => exact wp_cond_true he (exec_sound hm hE hL x c1 h at_)
      | false => exact wp_cond_false he (exec_sound hm hE hL y c2 h at_)
    · cases h
  | .block x, c, w, F, σ, s, out, a, h, at_ => by
    cases c <;> simp only [exec] at h <;> try (cases h; done)
    rename_i id c1
    rw [exec_bind] at h
    obtain ⟨o1, h1, h2⟩ := Option.bind_eq_some_iff.1 h
    refine wp_block (wp_mono (exec_sound hm hE hL x c1 h1 at_) fun e a' w' he => ?_)
    cases o1 with
    | next s' =>
      obtain rfl := Option.some.inj h2
      obtain ⟨rfl, F', σ', k⟩ := he
      exact ⟨rfl, F', σ', k⟩
    | exit id' s' =>
      obtain ⟨rfl, F', σ', k⟩ := he
      dsimp only at h2
      split at h2
      · rename_i hid
        obtain rfl := Option.some.inj h2
        simp only [Exit.inBlock, hid, if_true]
        exact ⟨rfl, F', σ', k⟩
      · rename_i hid
        obtain rfl := Option.some.inj h2
        simp only [Exit.inBlock, hid, if_false]
        exact ⟨rfl, F', σ', k⟩
    | ret s' =>
      obtain rfl := Option.some.inj h2
      obtain ⟨rfl, F', σ', k⟩ := he
      exact ⟨rfl, F', σ', k⟩
    | val v H => exact he.elim
  | .loop live after rets thaw x, c, w, F, σ, s, out, a, h, at_ => by
    cases c <;> simp only [exec] at h <;> try (cases h; done)
    rename_i c1
    obtain ⟨o, h1, h2⟩ := Option.bind_eq_some_iff.1 h
    obtain rfl := Option.some.inj h2
    exact loopE_sound hL h1 at_
  | .n, c, w, F, σ, s, out, a, h, at_ => by
    cases c with
    | skip =>
      obtain rfl := Option.some.inj h
      exact wp_skip ⟨rfl, F, σ, at_⟩
    | exit id =>
      obtain rfl := Option.some.inj h
      exact wp_exit ⟨rfl, F, σ, at_⟩
    | ret =>
      obtain rfl := Option.some.inj h
      exact wp_ret ⟨rfl, F, σ, at_⟩
    | region id ops draw =>
      cases draw with
      | false =>
        simp only [exec] at h
        rw [opsK_bind] at h
        obtain ⟨s1, h1, h2⟩ := Option.bind_eq_some_iff.1 h
        obtain rfl := Option.some.inj h2
        exact region_sound hE at_.st at_.ac h1 _ fun a' w' ⟨F', σ', q1, q2, q3, q4⟩ => ⟨rfl, F', σ', q2, q3, at_.step.trans q1, q4.trans at_.k0⟩
      | true =>
        simp only [exec, Bool.cond_eq_ite] at h
        split at h
        · rename_i hok
          rw [opsD_bind] at h
          obtain ⟨s1, h1, h2⟩ := Option.bind_eq_some_iff.1 h
          obtain rfl := Option.some.inj h2
          exact draw_sound hm hE at_.st at_.ac hok h1 _ fun a' w' ⟨F', σ', q1, q2, q3, q4⟩ => ⟨rfl, F', σ', q2, q3, at_.step.trans q1, q4.trans at_.k0⟩
        · cases h
    | _ => simp [exec] at h
/-- What a known function's contract is. -/
def PrimOk (pr : Pr) : Prop :=
  ∀ (f : FuncId) (p : List V → List Ob → Option (V × List Ob)), pr.prim f = some p → ∀ (args : List V) (H : List Ob) (v : V) (H' : List Ob), p args H = some (v, H') →
    ∀ (w : World) (F : Nat → Prop) (σ : Sg) (cs : Array Value), Wf w F σ (ofL H) → RepL w F σ (ofL H) args cs →
      Calls pr.P f cs w fun e w' => ∃ c F' σ', e = .returned c ∧ Step w F σ (ofL H) w' F' σ' (ofL H') ∧ RepV w' F' σ' (ofL H') v c
def resOne (a : Act) : ResultVar → Sem Value
  | .tmp t => pure (a.tmps.getD t Go.undef)
  | .cell x t => do loadVar t (← asAddr (a.tmps.getD x Go.undef))
theorem resV_sound {P : Program} {s : S} {a : Act} (st : St w F σ s a) : ∀ (rs : List ResultVar) {vs : List V}, resV P s.mem s.env rs = some vs →
    ∃ cs : List Value, (rs.mapM (resOne a)).run P w = Result.ok cs w ∧ cs.length = vs.length ∧
      ∀ (i : Nat) (v : V), vs[i]? = some v → RepV w F σ s.mem v (cs.getD i Go.undef)
  | [], vs, h => by
    obtain rfl := Option.some.inj h
    exact ⟨[], rfl, rfl, fun i v hi => by simp at hi⟩
  | .tmp t :: rs, vs, h => by
    simp only [resV] at h
    obtain ⟨vs', h1, rfl⟩ := Option.map_eq_some_iff.1 h
    obtain ⟨cs, k1, k2, k3⟩ := resV_sound st rs h1
    refine ⟨a.tmps.getD t Go.undef :: cs, ?_, by simp [k2], fun i v hi => ?_⟩
    · rw [List.mapM_cons]
      simp only [resOne, Sem.run_bind, Sem.run_pure, Result.andThen_ok, k1]
    · cases i with
      | zero => obtain rfl : s.env t = v := by simpa using hi
                exact st.env t
      | succ i => simpa using k3 i v (by simpa using hi)
  | .cell x t :: rs, vs, h => by
    simp only [resV] at h
    obtain ⟨ag, h1, h⟩ := Option.bind_eq_some_iff.1 h
    obtain ⟨n, h2, h⟩ := Option.bind_eq_some_iff.1 h
    obtain ⟨v, h3, h⟩ := Option.bind_eq_some_iff.1 h
    obtain ⟨vs', h4, rfl⟩ := Option.map_eq_some_iff.1 h
    obtain ⟨cs, k1, k2, k3⟩ := resV_sound st rs h4
    obtain ⟨u, r1, r2⟩ := ld_sound (P := P) st.wf h1 h2 h3 (st.env x)
    have hp : ∃ ad, a.tmps.getD x Go.undef = .pointer (some ad) := by
      cases hx : a.tmps.getD x Go.undef with
      | pointer ad =>
        cases ad with
        | some ad => exact ⟨ad, rfl⟩
        | none => rw [hx] at r1; simp [Instr.loadAt, Instr.sureAddr, stuck] at r1
      | _ => rw [hx] at r1; simp [Instr.loadAt, Instr.sureAddr, stuck] at r1
    obtain ⟨ad, had⟩ := hp
    rw [had] at r1
    have r1' : (loadVar t ad).run P w = .ok u w := by simpa [Instr.loadAt, Instr.sureAddr] using r1
    have ha : (asAddr (a.tmps.getD x Go.undef)).run P w = .ok ad w := by rw [had]; rfl
    refine ⟨u :: cs, ?_, by simp [k2], fun i v' hi => ?_⟩
    · rw [List.mapM_cons]
      simp only [resOne, Sem.run_bind, Sem.run_pure, Result.andThen_ok, ha, r1', k1]
    · cases i with
      | zero => obtain rfl : v = v' := by simpa using hi
                exact r2
      | succ i => simpa using k3 i v' (by simpa using hi)
theorem soft1_sound (z : Nat) {v : V} {c : Value} (h : RepV w F σ M v c) : RepV w F σ M (soft1 z v) c := by
  unfold soft1
  split
  · cases hz : z == 0 with
    | true => exact h
    | false =>
      cases h with
      | t h => cases h; exact .t (.seq0 ..)
  · exact h
theorem softL_get : ∀ (zs : List Nat) (vs : List V), (softL zs vs).length = vs.length ∧ ∀ (i : Nat) (v : V), (softL zs vs)[i]? = some v → ∃ u, vs[i]? = some u ∧ (v = u ∨ ∃ z, v = soft1 z u)
  | [], vs => ⟨by simp [softL], fun i v h => ⟨v, by simpa [softL] using h, .inl rfl⟩⟩
  | z :: zs, [] => ⟨rfl, fun i v h => by simp [softL] at h⟩
  | z :: zs, u :: vs => by
    obtain ⟨h1, h2⟩ := softL_get zs vs
    refine ⟨by simp [softL, h1], fun i v h => ?_⟩
    cases i with
    | zero => exact ⟨u, rfl, .inr ⟨z, by simpa [softL] using h.symm⟩⟩
    | succ i => exact h2 i v (by simpa [softL] using h)
theorem softA_sound (zs : List Nat) {v : V} {c : Value} (h : RepV w F σ M v c) : RepV w F σ M (softA zs v) c := by
  unfold softA
  split
  · rename_i vs
    cases h with
    | agg hl h =>
      obtain ⟨h1, h2⟩ := softL_get zs vs
      refine .agg (h1.trans hl) fun i v hi => ?_
      obtain ⟨u, hu, hv⟩ := h2 i v hi
      rcases hv with rfl | ⟨z, rfl⟩
      · exact h i v hu
      · exact soft1_sound z (h i u hu)
  · exact soft1_sound _ h
theorem softT_get : ∀ (zs : List (List Nat)) (vs : List V), (softT zs vs).length = vs.length ∧ ∀ (i : Nat) (v : V), (softT zs vs)[i]? = some v → ∃ u, vs[i]? = some u ∧ (v = u ∨ ∃ z, v = softA z u)
  | [], vs => ⟨by simp [softT], fun i v h => ⟨v, by simpa [softT] using h, .inl rfl⟩⟩
  | z :: zs, [] => ⟨rfl, fun i v h => by simp [softT] at h⟩
  | z :: zs, u :: vs => by
    obtain ⟨h1, h2⟩ := softT_get zs vs
    refine ⟨by simp [softT, h1], fun i v h => ?_⟩
    cases i with
    | zero => exact ⟨u, rfl, .inr ⟨z, by simpa [softT] using h.symm⟩⟩
    | succ i => exact h2 i v (by simpa [softT] using h)
theorem softR_sound (zs : List (List Nat)) {v : V} {c : Value} (h : RepV w F σ M v c) : RepV w F σ M (softR zs v) c := by
  unfold softR
  split
  · exact softA_sound _ h
  · rename_i vs _
    cases h with
    | tup hl h =>
      obtain ⟨h1, h2⟩ := softT_get zs vs
      refine .tup (h1.trans hl) fun i v hi => ?_
      obtain ⟨u, hu, hv⟩ := h2 i v hi
      rcases hv with rfl | ⟨z, rfl⟩
      · exact h i v hu
      · exact softA_sound z (h i u hu)
  · exact h
theorem results_sound {P : Program} {fn : Func} {s : S} {a : Act} (st : St w F σ s a) {vs : List V} (h : resV P s.mem s.env fn.results.toList = some vs) :
    ∃ c, (results fn a.tmps).run P w = .ok c w ∧ RepV w F σ s.mem (one vs) c := by
  obtain ⟨cs, k1, k2, k3⟩ := resV_sound st fn.results.toList h
  have hr : (fn.results.mapM (resOne a)).run P w = .ok cs.toArray w := by
    rw [Array.mapM_eq_mapM_toList]
    simp [k1]
  have hres : results fn a.tmps = (do let vs ← fn.results.mapM (resOne a); pure (if h : vs.size = 1 then vs[0] else .tuple vs)) := by
    unfold results
    congr 1
  refine ⟨if h : cs.toArray.size = 1 then cs.toArray[0] else .tuple cs.toArray, ?_, ?_⟩
  · rw [hres, Sem.run_bind, hr]
    rfl
  · by_cases h1 : cs.toArray.size = 1
    · rw [dif_pos h1]
      have hl : vs.length = 1 := by rw [← k2]; simpa using h1
      match vs, cs, hl, h1, k3 with
      | [v], [c], _, _, k3 => exact k3 0 v rfl
    · rw [dif_neg h1]
      have hl : vs.length ≠ 1 := by rw [← k2]; simpa using h1
      have : one vs = .tup vs := by
        match vs, hl with
        | [], _ => rfl
        | [_], hl => simp at hl
        | _ :: _ :: _, _ => rfl
      rw [this]
      refine .tup (by simp [k2]) fun i v hi => ?_
      have := k3 i v hi
      rwa [List.getD_eq_getElem?_getD, ← List.getElem?_toArray, ← Array.getD_eq_getD_getElem?] at this
theorem callOk_step {pr : Pr} {E : Q → Option Out} (hm : pr.P.follows .mixedOrders = true) (hp : PrimOk pr) (hE : CallOk pr.P E) (hL : LoopOk pr E) : CallOk pr.P (step pr E) := by
  intro f args H v H' h
  simp only [step, Bool.cond_eq_ite] at h
  split at h
  · cases h
  · rename_i hc
    refine ⟨by simpa using hc, fun w F σ cs wf hrep => ?_⟩
    split at h
    · rename_i p hpf
      obtain ⟨⟨v1, H1⟩, h1, he⟩ := Option.map_eq_some_iff.1 h
      obtain ⟨rfl, rfl⟩ := Out.val.inj he
      exact hp f p hpf args H v1 H1 h1 w F σ cs wf hrep
    · split at h
      · rename_i fn hf
        obtain ⟨c, hb, h⟩ := Option.bind_eq_some_iff.1 h
        split at h
        · rename_i hlen
          rw [exec_bind] at h
          obtain ⟨out, h1, h2⟩ := Option.bind_eq_some_iff.1 h
          have hnt : fn.ntmps = ntOf pr f := by unfold ntOf; rw [hf]; rfl
          rw [hnt] at h1
          refine calls_of_wp hf hb (wp_mono (exec_sound (w0 := w) (F0 := F) (σ0 := σ) (H0 := H) (F := F) (σ := σ) hm hE hL _ c h1 ⟨⟨wf, fun t => ?_⟩, ⟨?_, rfl⟩, .refl wf, rfl⟩) fun e a' w' he => ?_)
          · show RepV w F σ (ofL H) (ofArgs args t) _
            have e1 : (cs ++ Array.replicate (fn.ntmps - cs.size) Go.undef).getD t Go.undef = cs.getD t Go.undef := by
              rw [Array.getD_eq_getD_getElem?, Array.getD_eq_getD_getElem?, Array.getElem?_append]
              split
              · rfl
              · rename_i hge
                rw [Array.getElem?_eq_none (by omega : cs.size ≤ t), Array.getElem?_replicate]
                split <;> rfl
            rw [e1]
            unfold ofArgs
            cases hi : args[t]? with
            | none => exact .undef _
            | some x => exact hrep.2 t x hi
          · simp
            have := hrep.1
            omega
          · have fin : ∀ s', retK pr (pr.pol f) fn s' = some (.val v H') → ∀ F' σ', At (ntOf pr f) w F σ H s' a' w' F' σ' → a'.defers = [] ∧ ∃ v', (results fn a'.tmps).run pr.P w' = .ok v' w' ∧
                ∃ c F' σ', Ending.returned v' = .returned c ∧ Step w F σ (ofL H) w' F' σ' (ofL H') ∧ RepV w' F' σ' (ofL H') v c := fun s' hr F' σ' at_ => by
              refine ⟨at_.ac.defers, ?_⟩
              unfold retK at hr
              obtain ⟨vs, r1, hr⟩ := Option.bind_eq_some_iff.1 hr
              obtain ⟨⟨v1, M1⟩, r2, hr⟩ := Option.bind_eq_some_iff.1 hr
              obtain ⟨⟨vs2, H2⟩, r3, hr⟩ := Option.bind_eq_some_iff.1 hr
              obtain ⟨c, k1, k2⟩ := results_sound at_.st r1
              replace k2 := softR_sound (pr.pol f).soft k2
              refine ⟨c, k1, ?_⟩
              have mv : ∃ F2, Step w' F' σ' s'.mem w' F2 σ' M1 ∧ RepV w' F2 σ' M1 v1 c := by
                cases ho : (pr.pol f).own with
                | true =>
                  rw [ho] at r2
                  simp only [cond_true] at r2
                  obtain ⟨rfl, rfl⟩ := Prod.mk.inj (Option.some.inj r2)
                  exact ⟨F', .refl at_.st.wf, k2⟩
                | false =>
                  rw [ho] at r2
                  simp only [cond_false] at r2
                  exact mvV_sound at_.st.wf r2 k2
              obtain ⟨F2, st2, k3⟩ := mv
              obtain ⟨L, e1, e2, hn, hpx⟩ := norm_spec r3
              subst e1
              subst e2
              simp only [V.renL] at hr
              obtain ⟨rfl, rfl⟩ := Out.val.inj (Option.some.inj hr)
              exact ⟨c, F2, locS L σ', rfl, norm_step (at_.step.trans st2) at_.k0.symm hn hpx, loc_rep k3⟩
            cases out with
            | next s' => obtain ⟨rfl, F', σ', k⟩ := he; exact fin s' h2 F' σ' k
            | ret s' => obtain ⟨rfl, F', σ', k⟩ := he; exact fin s' h2 F' σ' k
            | exit id s' => cases h2
            | val _ _ => cases h2
        · cases h
      · cases h
theorem least {p : Nat → Prop} (h : ∃ n, p n) : ∃ m, p m ∧ ∀ k, p k → m ≤ k := by
  obtain ⟨n, hn⟩ := h
  induction n using Nat.strongRecOn with
  | _ n ih =>
    by_cases hk : ∃ k, k < n ∧ p k
    · obtain ⟨k, h1, h2⟩ := hk
      exact ih k h1 h2
    · exact ⟨n, hn, fun k hp => by
        rcases Nat.lt_or_ge k n with h | h
        · exact absurd ⟨k, h, hp⟩ hk
        · exact h⟩
theorem all_ok {pr : Pr} (hm : pr.P.follows .mixedOrders = true) (hp : PrimOk pr) : ∀ n, CallOk pr.P (evF pr n) ∧ LoopOk pr (evF pr n) := by
  intro n
  induction n using Nat.strongRecOn with
  | _ n ih =>
    cases n with
    | zero => exact ⟨fun f args H v H' h => (by cases h), fun l s out h => (by cases h)⟩
    | succ k =>
      obtain ⟨hE, hL⟩ := ih k (Nat.lt_succ_self k)
      refine ⟨callOk_step hm hp hE hL, fun l s out h w0 F0 σ0 H0 w F σ a at_ => ?_⟩
      let I : Act → World → Prop := fun a w => ∃ j s', j ≤ k ∧ evF pr (j + 1) (.loop l s') = some out ∧ ∃ F σ, At (ntOf pr l.f) w0 F0 σ0 H0 s' a w F σ
      let R : Act → World → Nat → Prop := fun a w j => ∃ s', j ≤ k ∧ evF pr (j + 1) (.loop l s') = some out ∧ ∃ F σ, At (ntOf pr l.f) w0 F0 σ0 H0 s' a w F σ
      have hIR : ∀ a w, I a w → ∃ j, R a w j := fun a w h => h
      classical
      let μ : Act → World → Nat := fun a w => if h : ∃ j, R a w j then Classical.choose (least h) else 0
      refine wp_loop I μ ⟨k, s, Nat.le_refl _, h, F, σ, at_⟩ fun a w hI => ?_
      have hj : ∃ j, R a w j := hIR a w hI
      have hμ : μ a w = Classical.choose (least hj) := dif_pos hj
      obtain ⟨s', hle, hrun, F1, σ1, at1⟩ := (Classical.choose_spec (least hj)).1
      obtain ⟨hE1, hL1⟩ := ih (Classical.choose (least hj)) (by omega)
      have hrun' : step pr (evF pr (Classical.choose (least hj))) (.loop l s') = some out := hrun
      simp only [step] at hrun'
      rw [exec_bind] at hrun'
      obtain ⟨o1, h1, h2⟩ := Option.bind_eq_some_iff.1 hrun'
      refine wp_mono (exec_sound hm hE1 hL1 l.a l.c h1 at1) fun e a' w' he => ?_
      cases o1 with
      | next s1 =>
        obtain ⟨rfl, F', σ', k1⟩ := he
        simp only [Exit.then]
        dsimp only at h2
        unfold loopE at h2
        obtain ⟨s2, q1, h2⟩ := Option.bind_eq_some_iff.1 h2
        obtain ⟨s3, q2, h2⟩ := Option.bind_eq_some_iff.1 h2
        obtain ⟨σ2, t1⟩ := thawS_sound _ q1 k1
        obtain ⟨σ3, t2⟩ := normS_sound q2 t1
        cases hm' : Classical.choose (least hj) with
        | zero => rw [hm'] at h2; cases h2
        | succ m =>
          rw [hm'] at h2
          have hR : R a' w' m := ⟨s3, by omega, h2, F', σ3, t2⟩
          refine ⟨⟨m, hR⟩, ?_⟩
          have hj' : ∃ j, R a' w' j := ⟨m, hR⟩
          have : μ a' w' = Classical.choose (least hj') := dif_pos hj'
          rw [this, hμ, hm']
          have := (Classical.choose_spec (least hj')).2 m hR
          omega
      | exit id s1 =>
        obtain ⟨rfl, F', σ', k1⟩ := he
        obtain ⟨s2, q1, rfl⟩ := Option.map_eq_some_iff.1 h2
        obtain ⟨σ2, t1⟩ := normS_sound q1 k1
        exact ⟨rfl, F', σ2, t1⟩
      | ret s1 =>
        obtain ⟨rfl, F', σ', k1⟩ := he
        obtain ⟨s2, q1, rfl⟩ := Option.map_eq_some_iff.1 h2
        obtain ⟨σ2, t1⟩ := normS_sound q1 k1
        exact ⟨rfl, F', σ2, t1⟩
      | val _ _ => exact he.elim
end
end Go.Ev

/- The evaluator, twenty-third text: the same machine once more, az a tree of questions. What is not known while a function is walked (a call's answer, a test, an element, a sum) is asked for; a trace answers. -/
namespace Go.Ev
set_option linter.unusedVariables false
set_option linter.unusedSimpArgs false
set_option linter.unusedVariables false
set_option linter.unusedSimpArgs false
inductive Ty where
  | int | nat | rows | crows | str | row | crow | u8
  deriving DecidableEq
@[reducible] def Ty.ty : Ty → Type
  | .int => Int
  | .nat => Nat
  | .rows => List (List T)
  | .crows => List (List C)
  | .str => ByteArray
  | .row => List T
  | .crow => List C
  | .u8 => UInt8
inductive Fm where
  | fail
  | ret (o : Out)
  | ask (q : Q) (k : Out → Fm)
  | br (b : Bool) (k : Bool → Fm)
  | must (b : Bool) (k : Fm)
  | nrm (t : Ty) (x : t.ty) (k : t.ty → Fm)
  | get (t : Ty) (x : Option t.ty) (k : t.ty → Fm)
def interp (E : Q → Option Out) : Fm → Option Out
  | .fail => none
  | .ret o => some o
  | .ask q k => (E q).bind fun o => interp E (k o)
  | .br b k => interp E (k b)
  | .must b k => bif b then interp E k else none
  | .nrm _ x k => interp E (k x)
  | .get _ x k => x.bind fun v => interp E (k v)
def Mo (α : Type) : Type := (α → Fm) → Fm
section
variable {α β γ : Type}
def pureM (a : α) : Mo α := fun k => k a
def bnd (m : Mo α) (f : α → Mo β) : Mo β := fun k => m fun a => f a k
def failM : Mo α := fun _ => .fail
def optM (x : Option α) : Mo α := fun k => match x with
  | some a => k a
  | none => .fail
def mustM (b : Bool) : Mo Unit := fun k => .must b (k ())
def brM (b : Bool) : Mo Bool := fun k => .br b k
def nrmM (t : Ty) (x : t.ty) : Mo t.ty := fun k => .nrm t x k
def getM (t : Ty) (x : Option t.ty) : Mo t.ty := fun k => .get t x k
def askM (q : Q) : Mo Out := fun k => .ask q k
def mapMo (f : α → Mo β) : List α → Mo (List β)
  | [] => pureM []
  | a :: l => bnd (f a) fun b => bnd (mapMo f l) fun r => pureM (b :: r)
def lkp (es : List α) (i : Int) : Option α := if 0 ≤ i then es[i.toNat]? else none
def lkpS (s : ByteArray) (i : Int) : Option UInt8 := if 0 ≤ i then s[i.toNat]? else none
end
/-! Values are told at once, so that they are told once. -/
def seqV1 {α : Type} (v : V) (k : V → α) : α :=
  match v with
  | .undef => k .undef
  | .t x => k (.t x)
  | .ptr a b c d => k (.ptr a b c d)
  | .vec a b c d e => k (.vec a b c d e)
  | .row a b c d e f => k (.row a b c d e f)
  | .rptr a b c d e f => k (.rptr a b c d e f)
  | .agg vs => k (.agg vs)
  | .tup vs => k (.tup vs)
  | .clo f vs => k (.clo f vs)
def seqL {α : Type} : List V → (List V → α) → α
  | [], k => k []
  | v :: r, k => seqV1 v fun v => seqL r fun r => k (v :: r)
def seqV {α : Type} (v : V) (k : V → α) : α :=
  match v with
  | .undef => k .undef
  | .t x => k (.t x)
  | .ptr a b c d => k (.ptr a b c d)
  | .vec a b c d e => k (.vec a b c d e)
  | .row a b c d e f => k (.row a b c d e f)
  | .rptr a b c d e f => k (.rptr a b c d e f)
  | .agg vs => seqL vs fun vs => k (.agg vs)
  | .tup vs => seqL vs fun vs => k (.tup vs)
  | .clo f vs => seqL vs fun vs => k (.clo f vs)
def seqP {α : Type} : List (Nat × V) → (List (Nat × V) → α) → α
  | [], k => k []
  | (t, v) :: r, k => seqV v fun v => seqP r fun r => k ((t, v) :: r)
theorem seqV1_eq {α : Type} (v : V) (k : V → α) : seqV1 v k = k v := by cases v <;> rfl
theorem seqL_eq {α : Type} : ∀ (l : List V) (k : List V → α), seqL l k = k l
  | [], k => rfl
  | v :: r, k => by simp only [seqL, seqV1_eq, seqL_eq r]
theorem seqV_eq {α : Type} (v : V) (k : V → α) : seqV v k = k v := by cases v <;> simp only [seqV, seqL_eq]
theorem seqP_eq {α : Type} : ∀ (l : List (Nat × V)) (k : List (Nat × V) → α), seqP l k = k l
  | [], k => rfl
  | (t, v) :: r, k => by simp only [seqP, seqV_eq, seqP_eq r]
/-! Freezing, reading, writing. -/
def fzM (M : Mem) : Nat → V → Mo T
  | 0, _ => failM
  | _ + 1, .t x => pureM x
  | _ + 1, .vec id n sz off len => match M id with
    | some (.vec _ sz' es) => if sz' = sz then bnd (mustM (decide (es.length = n ∧ off + len ≤ n))) fun _ => bnd (nrmM .rows (((es.drop off).take len).map (·.map C.fz))) fun es' => pureM (.seq sz es') else failM
    | _ => failM
  | _ + 1, .row id n i j sz len => match M id with
    | some (.vec _ _ es) => bnd (mustM (decide (es.length = n))) fun _ => bnd (getM .crow es[i]?) fun el => match el[j]? with
        | some (.row sz' r) => if sz' = sz then bnd (mustM (decide (r.length = len))) fun _ => pureM (.seq sz r) else failM
        | _ => failM
    | _ => failM
  | k + 1, .ptr id n i o => match M id with
    | some (.box cs) => if n = 1 ∧ i = 0 then bnd (mapMo (fzM M k) cs) fun l => pureM (T.ptr l o) else failM
    | some (.vec _ _ es) => bnd (mustM (decide (es.length = n))) fun _ => bnd (getM .crow es[i]?) fun e => pureM (T.ptr (e.map C.fz) o)
    | _ => failM
  | k + 1, .clo f caps => bnd (mapMo (fzM M k) caps) fun l => pureM (T.clo f l)
  | _ + 1, _ => failM
def fz1M (M : Mem) : V → Mo V
  | .agg vs => bnd (mapMo (fzM M 16) vs) fun l => pureM (V.agg (l.map V.t))
  | v => bnd (fzM M 16 v) fun x => pureM (V.t x)
def fzVM (M : Mem) : V → Mo V
  | .tup vs => bnd (mapMo (fz1M M) vs) fun l => pureM (V.tup l)
  | v => fz1M M v
def mvVM (M : Mem) (v : V) : Mo (V × Mem) :=
  bnd (fzVM M v) fun v' => match v with
    | .t _ => pureM (v', M)
    | _ => bnd (optM (clos M fuel0 v.refs [])) fun L => pureM (v', killL L M)
def rdM (M : Mem) (p : V) (k : Nat) : Mo V :=
  match p with
  | .t (.ptr cs o) => optM ((cs[o + k]?).map V.t)
  | .ptr id n i o => match M id with
    | some (.box cs) => if n = 1 ∧ i = 0 then optM (cs[o + k]?) else failM
    | some (.vec _ _ es) => bnd (mustM (decide (es.length = n))) fun _ => bnd (getM .crow es[i]?) fun e => optM ((e[o + k]?).map (rdC id n i (o + k)))
    | _ => failM
  | .rptr id n i j e o => match M id with
    | some (.vec _ _ es) => bnd (mustM (decide (es.length = n))) fun _ => bnd (getM .crow es[i]?) fun el => match el[j]? with
        | some (.row _ r) => bnd (getM .row r[e]?) fun g => optM ((g[o + k]?).map V.t)
        | _ => failM
    | _ => failM
  | _ => failM
def rdsM (M : Mem) (p : V) : Nat → Nat → Mo (List V)
  | _, 0 => pureM []
  | i, n + 1 => bnd (rdM M p i) fun v => bnd (rdsM M p (i + 1) n) fun l => pureM (v :: l)
def ldM (M : Mem) (p : V) (agg : Bool) (n : Nat) : Mo V :=
  bif agg then (bif n == 0 then failM else bnd (rdsM M p 0 n) fun l => pureM (.agg l)) else rdM M p 0
def asC (p : V × Mem) : Mo (C × Mem) := match p with
  | (.t x, M') => pureM (.t x, M')
  | _ => failM
def toCM (nest : Bool) (M : Mem) : V → Mo (C × Mem)
  | .t x => pureM (.t x, M)
  | .vec id n sz off len => bif nest then failM else bnd (mvVM M (.vec id n sz off len)) asC
  | v => bnd (mvVM M v) asC
def toCsM (nest : Bool) (M : Mem) : List V → Mo (List C × Mem)
  | [] => pureM ([], M)
  | v :: vs => bnd (toCM nest M v) fun p => bnd (toCsM nest p.2 vs) fun q => pureM (p.1 :: q.1, q.2)
def toCssM (nest : Bool) (M : Mem) : List (List V) → Mo (List (List C) × Mem)
  | [] => pureM ([], M)
  | v :: vs => bnd (toCsM nest M v) fun p => bnd (toCssM nest p.2 vs) fun q => pureM (p.1 :: q.1, q.2)
def wr0M (nest : Bool) (M : Mem) (p : V) (k : Nat) (v : V) : Mo Mem :=
  match p with
  | .ptr id n i o => match M id with
    | some (.box cs) => if n = 1 ∧ i = 0 ∧ o + k < cs.length ∧ v.isCell = true then seqL (cs.set (o + k) v) fun cs' => pureM (upd M id (some (.box cs'))) else failM
    | some (.vec ..) => bnd (toCM nest M v) fun q => match q.2 id with
      | some (.vec fl sz es) => bnd (mustM (decide (es.length = n))) fun _ => bnd (getM .crow es[i]?) fun e => match e[o + k]? with
          | some (.t _) => bnd (nrmM .crows (es.set i (e.set (o + k) q.1))) fun es' => pureM (upd q.2 id (some (.vec (fl && q.1.isT) sz es')))
          | _ => failM
      | _ => failM
    | _ => failM
  | _ => failM
def wrNM (M : Mem) (id n i c id2 n2 sz2 off2 len2 : Nat) : Mo Mem :=
  if id = id2 ∨ off2 ≠ 0 then failM else
  match M id2 with
  | some (.vec fl2 sz2' es2) => if sz2' = sz2 ∧ fl2 = true then bnd (mustM (decide (es2.length = n2 ∧ len2 ≤ n2))) fun _ =>
      match M id with
      | some (.vec _ sz es) => bnd (mustM (decide (es.length = n))) fun _ => bnd (getM .crow es[i]?) fun e => match e[c]? with
          | some (.t _) => bnd (nrmM .rows ((es2.take len2).map (·.map C.fz))) fun r => bnd (nrmM .crows (es.set i (e.set c (.row sz2 r)))) fun es' => pureM (upd (upd M id2 (some .dead)) id (some (.vec false sz es')))
          | _ => failM
      | _ => failM
    else failM
  | _ => failM
def wrRM (M : Mem) (id n i j e o k : Nat) (v : V) : Mo Mem :=
  if v.isCell = true then bnd (toCM false M v) fun q => match q.1, q.2 id with
    | .t x, some (.vec fl sz es) => bnd (mustM (decide (es.length = n))) fun _ => bnd (getM .crow es[i]?) fun el => match el[j]? with
        | some (.row s r) => bnd (getM .row r[e]?) fun g => bnd (mustM (decide (o + k < g.length))) fun _ =>
            bnd (nrmM .crows (es.set i (el.set j (.row s (r.set e (g.set (o + k) x)))))) fun es' => pureM (upd q.2 id (some (.vec fl sz es')))
        | _ => failM
    | _, _ => failM
  else failM
def wrM (nest : Bool) (M : Mem) (p : V) (k : Nat) (v : V) : Mo Mem :=
  match p, v with
  | .rptr id n i j e o, v => wrRM M id n i j e o k v
  | .ptr id n i o, .vec id2 n2 sz2 off2 len2 => bif nest && isVecO (M id) then wrNM M id n i (o + k) id2 n2 sz2 off2 len2 else wr0M false M (.ptr id n i o) k (.vec id2 n2 sz2 off2 len2)
  | p, v => wr0M false M p k v
def wrs0M (nest : Bool) (M : Mem) (p : V) : Nat → List V → Mo Mem
  | _, [] => pureM M
  | i, v :: vs => bnd (wrM nest M p i v) fun M' => wrs0M nest M' p (i + 1) vs
/-- A whole element of data is written at once. -/
def wrsM (nest : Bool) (M : Mem) (p : V) (vs : List V) : Mo Mem :=
  match p with
  | .ptr id n j 0 => match M id, vs.mapM tOf with
    | some (.vec fl sz es), some ts => bnd (mustM (decide (es.length = n))) fun _ => bnd (getM .crow es[j]?) fun e =>
        if e.length = ts.length ∧ e.all C.isT = true then bnd (nrmM .crows (es.set j (ts.map C.t))) fun es' => pureM (upd M id (some (.vec fl sz es'))) else wrs0M nest M p 0 vs
    | _, _ => wrs0M nest M p 0 vs
  | _ => wrs0M nest M p 0 vs
/-! Operations on data. -/
def nrmV (x : Option V) : Mo V :=
  match x with
  | some (.t (.int k n)) => bnd (nrmM .int n) fun n => pureM (.t (.int k n))
  | some v => pureM v
  | none => failM
/-- A power of two, az far az it is of use. -/
def pow2 (b : Int) (w : Nat) : Int := 2 ^ min b.toNat w
def binM (P : Program) (op : BinOp) (t : TypeId) (x y : V) : Mo V :=
  match op, x, y with
  | .add, .t (.str a), .t (.str b) => bnd (mustM (decide (a.size + b.size ≤ 9223372036854775807))) fun _ => bnd (nrmM .str (a ++ b)) fun s => pureM (.t (.str s))
  | .quo, .t (.int k a), .t (.int k' b) => if k = k' then bnd (mustM (decide (b ≠ 0))) fun _ => bnd (nrmM .int (k.wrap (a.tdiv b))) fun n => pureM (.t (.int k n)) else failM
  | .rem, .t (.int k a), .t (.int k' b) => if k = k' then bnd (mustM (decide (b ≠ 0))) fun _ => bnd (nrmM .int (a.tmod b)) fun n => pureM (.t (.int k n)) else failM
  | .shl, .t (.int k a), .t (.int _ b) => bnd (mustM (decide (0 ≤ b))) fun _ => bnd (nrmM .int (k.wrap (a * pow2 b k.bits))) fun n => pureM (.t (.int k n))
  | .shr, .t (.int k a), .t (.int _ b) => bnd (mustM (decide (0 ≤ b))) fun _ => bnd (nrmM .int (a.fdiv (pow2 b k.bits))) fun n => pureM (.t (.int k n))
  | op, x, .t .nils => match x with
    | .t .nils => nrmV (bin P op t (.t .nils) (.t .nils))
    | .t (.sn b) => nrmV (bin P op t (.t (.sn b)) (.t .nils))
    | x => bnd (mustM (decide (0 < lenN x))) fun _ => optM (binN P op t)
  | op, x, y => nrmV (bin P op t x y)
def binXM (P : Program) (op : BinOp) (t : TypeId) (oy : Operand) (x y : V) : Mo V :=
  match oy, x with
  | .const .nilIface, .t .nili => nrmV (binX P op t (.const .nilIface) (.t .nili) y)
  | _, _ => binM P op t x y
def idxAM (sz : Nat) (x i : V) : Mo V :=
  match i with
  | .t (.int _ i) => match x with
      | .t (.seq sz' es) => if sz' = sz then bnd (getM .row (lkp es i)) fun e => pureM (.t (.ptr e 0)) else failM
      | .vec id n sz' off len => if sz' = sz then bnd (mustM (decide (0 ≤ i ∧ i.toNat < len))) fun _ => bnd (nrmM .nat (off + i.toNat)) fun j => pureM (.ptr id n j 0) else failM
      | .row id n a b sz' len => if sz' = sz then bnd (mustM (decide (0 ≤ i ∧ i.toNat < len))) fun _ => bnd (nrmM .nat i.toNat) fun e => pureM (.rptr id n a b e 0) else failM
      | _ => failM
  | _ => failM
def idxSM (x i : V) : Mo V :=
  match x, i with
  | .t (.str s), .t (.int _ i) => bnd (getM .u8 (lkpS s i)) fun b => pureM (.t (.int .u8 b.toNat))
  | _, _ => failM
def intOr (d : Int) : Option V → Option Int
  | none => some d
  | some (.t (.int _ n)) => some n
  | _ => none
def subM (sz : Nat) (x : V) (lo hi : Option V) : Mo V :=
  match x with
  | .t (.str s) => bnd (optM (intOr 0 lo)) fun l => bnd (optM (intOr s.size hi)) fun h => bnd (mustM (decide (0 ≤ l ∧ l ≤ h ∧ h ≤ s.size))) fun _ => bnd (nrmM .str (s.extract l.toNat h.toNat)) fun s => pureM (.t (.str s))
  | .t .nils => bnd (optM (intOr 0 lo)) fun l => bnd (optM (intOr 0 hi)) fun h => bnd (mustM (decide (l = 0 ∧ h = 0))) fun _ => pureM (.t .nils)
  | .t (.seq sz' es) => if sz' = sz then bnd (optM (intOr 0 lo)) fun l => bnd (optM (intOr es.length hi)) fun h => bnd (mustM (decide (0 ≤ l ∧ l ≤ h ∧ h ≤ es.length))) fun _ =>
      bnd (nrmM .rows ((es.drop l.toNat).take (h.toNat - l.toNat))) fun es => pureM (.t (.seq sz es)) else failM
  | .vec id n sz' off len => if sz' = sz then bnd (optM (intOr 0 lo)) fun l => bnd (optM (intOr len hi)) fun h => bnd (mustM (decide (0 ≤ l ∧ l ≤ h ∧ off + h.toNat ≤ n))) fun _ =>
      bnd (nrmM .nat (off + l.toNat)) fun a => bnd (nrmM .nat (h.toNat - l.toNat)) fun b => pureM (.vec id n sz a b) else failM
  | _ => failM
def mkLitM (nest : Bool) (nb : Nat) (M : Mem) (sz len : Nat) (z : List T) (parts : List (Nat × V)) : Mo (V × Mem) :=
  if z.length = sz ∧ 0 < sz ∧ len * sz ≤ 16777216 then
    bnd (optM (fillV (fun i => some (i * sz, sz)) ((List.replicate len (z.map V.t)).flatten) parts)) fun vs =>
    bnd (toCssM nest M (chunks sz len vs)) fun p =>
    bnd (optM (mk nb p.2 (.vec (p.1.all (·.all C.isT)) sz p.1))) fun M2 => pureM (.vec nb len sz 0 len, M2)
  else failM
def mvInM (id : Nat) : Nat → List V → Mem → Mo Mem
  | _, [], M => pureM M
  | j, .vec id2 n2 sz2 off2 len2 :: r, M => bnd (wrNM M id 1 0 j id2 n2 sz2 off2 len2) fun M' => mvInM id (j + 1) r M'
  | j, _ :: r, M => mvInM id (j + 1) r M
def mkLitNM (nest : Bool) (nb : Nat) (M : Mem) (sz len : Nat) (z : List T) (parts : List (Nat × V)) : Mo (V × Mem) :=
  match (bif nest then litOne sz len parts else none) with
  | some vs => bnd (mkLitM false nb M sz 1 z [(0, .agg (vs.map nilC))]) fun p => bnd (mvInM nb 0 vs p.2) fun M2 => pureM (p.1, M2)
  | none => mkLitM false nb M sz len z parts
def mkMakeM (nb : Nat) (M : Mem) (sz bytes : Nat) (z : List T) (len cap : V) : Mo (V × Mem) :=
  match len, cap with
  | .t (.int _ n), .t (.int _ c) =>
    if z.length = sz ∧ 0 < sz ∧ bytes ≤ small then
      bnd (mustM (decide (0 ≤ n ∧ n ≤ c ∧ c ≤ 4294967296))) fun _ => bnd (nrmM .nat n.toNat) fun n => bnd (nrmM .crows (List.replicate n (z.map C.t))) fun es =>
      bnd (optM (mk nb M (.vec true sz es))) fun M' => pureM (.vec nb n sz 0 n, M')
    else failM
  | _, _ => failM
def srcM (M : Mem) (sz : Nat) (x : V) : Mo (List (List C)) :=
  match x with
  | .t .nils => pureM []
  | .t (.seq sz' es) => if sz' = sz then pureM (es.map (·.map C.t)) else failM
  | .t (.sn _) => pureM []
  | .t (.str s) => if sz = 1 then pureM (s.data.toList.map fun b => [C.t (.int .u8 b.toNat)]) else failM
  | .vec id n sz' off len => match M id with
    | some (.vec fl sz'' es) => if sz' = sz ∧ sz'' = sz ∧ fl = true then bnd (mustM (decide (es.length = n ∧ off + len ≤ n))) fun _ => pureM ((es.drop off).take len) else failM
    | _ => failM
  | _ => failM
def app0M (M : Mem) (sz id n len : Nat) (es xs : List (List C)) : Mo (V × Mem) :=
  bnd (brM (decide (len + xs.length ≤ n))) fun b => bnd (nrmM .nat (len + xs.length)) fun l =>
    bif b then bnd (nrmM .crows (es.take len ++ xs ++ es.drop (len + xs.length))) fun es' => pureM (.vec id n sz 0 l, upd M id (some (.vec true sz es')))
    else bnd (nrmM .crows (es.take len ++ xs)) fun es' => pureM (.vec id l sz 0 l, upd M id (some (.vec true sz es')))
def appM (nb : Nat) (M : Mem) (sz bytes : Nat) (s x : V) : Mo (V × Mem) :=
  if 0 < sz ∧ bytes ≤ small then
  bnd (srcM M sz x) fun xs =>
  match s with
  | .t .nils => bnd (mustM (decide (xs.length ≤ 4294967296))) fun _ => bnd (nrmM .nat xs.length) fun l => bnd (nrmM .crows xs) fun xs => bnd (optM (mk nb M (.vec true sz xs))) fun M2 => pureM (.vec nb l sz 0 l, M2)
  | .vec id n sz' off len => match M id with
    | some (.vec fl' sz'' es) =>
      if sz' = sz ∧ sz'' = sz ∧ fl' = true then
        bnd (mustM (decide (es.length = n ∧ off + len ≤ n ∧ len + xs.length ≤ 4294967296))) fun _ =>
        if off = 0 then app0M M sz id n len es xs
        else bnd (mustM (decide (off + len = n))) fun _ => bnd (optM (mk nb M (.vec true sz (es.drop off)))) fun M2 => app0M (upd M2 id (some .dead)) sz nb (n - off) len (es.drop off) xs
      else failM
    | _ => failM
  | _ => failM
  else failM
def appNM (M : Mem) (sz bytes id n len id2 : Nat) : Mo (V × Mem) :=
  if 0 < sz ∧ bytes ≤ small ∧ id ≠ id2 then
  match M id2 with
  | some (.vec _ sz2 [e]) => match M id with
    | some (.vec _ sz1 es) => if sz2 = sz ∧ sz1 = sz then
        bnd (mustM (decide (es.length = n ∧ len = n ∧ n + 1 ≤ 4294967296))) fun _ => bnd (nrmM .nat (n + (1 : Nat))) fun l => bnd (nrmM .crows (es ++ [e])) fun es' =>
        pureM (.vec id l sz 0 l, upd (upd M id2 (some .dead)) id (some (.vec false sz es'))) else failM
    | _ => failM
  | _ => failM
  else failM
def appXM (nb : Nat) (M : Mem) (sz bytes : Nat) (s x : V) : Mo (V × Mem) :=
  match s, x with
  | .vec id n sz' off len, .vec id2 n2 sz2 off2 len2 => bif rowsO (M id2) then (bnd (mustM (decide (sz' = sz ∧ sz2 = sz ∧ off = 0 ∧ n2 = 1 ∧ off2 = 0 ∧ len2 = 1))) fun _ => appNM M sz bytes id n len id2) else appM nb M sz bytes (.vec id n sz' off len) (.vec id2 n2 sz2 off2 len2)
  | s, x => appM nb M sz bytes s x
def clrM (M : Mem) (sz : Nat) (z : List T) (x : V) : Mo Mem :=
  match x with
  | .vec id n sz' off len => match M id with
    | some (.vec fl sz'' es) => if sz' = sz ∧ sz'' = sz ∧ fl = true ∧ z.length = sz then
        bnd (mustM (decide (es.length = n ∧ off + len ≤ n))) fun _ => bnd (nrmM .crows (es.take off ++ List.replicate len (z.map C.t) ++ es.drop (off + len))) fun es' =>
        pureM (upd M id (some (.vec true sz es'))) else failM
    | _ => failM
  | _ => failM
def cpyM (M : Mem) (sz : Nat) (d x : V) : Mo (Nat × Mem) :=
  match d with
  | .vec id n sz' off len =>
    bnd (brM (decide (lenN x ≤ len))) fun b => bnd (optM (bif b then some x else truncV len x)) fun x' => bnd (srcM M sz x') fun xs => match M id with
    | some (.vec fl sz'' es) => if 0 < sz ∧ sz' = sz ∧ sz'' = sz ∧ fl = true then bnd (mustM (decide (es.length = n ∧ off + len ≤ n ∧ xs.length ≤ len))) fun _ =>
        bnd (nrmM .nat xs.length) fun k => bnd (nrmM .crows (es.take off ++ xs ++ es.drop (off + xs.length))) fun es' => pureM (k, upd M id (some (.vec true sz es'))) else failM
    | _ => failM
  | _ => failM
/-! Calls. -/
def prepMM : List Mode → List V → Mem → Mo (List V × Mem)
  | _, [], M => pureM ([], M)
  | .move :: ms, v :: vs, M => bnd (mvVM M v) fun p => bnd (prepMM ms vs p.2) fun q => pureM (p.1 :: q.1, q.2)
  | ms, v :: vs, M => bnd (prepMM ms.tail vs M) fun q => pureM (v :: q.1, q.2)
def prepBM (M : Mem) : List Mode → List V → Mo (List V × List Nat)
  | _, [] => pureM ([], [])
  | .borrow :: ms, v :: vs => bnd (fzVM M v) fun v' => bnd (prepBM M ms vs) fun q => pureM (v' :: q.1, v.refs ++ q.2)
  | ms, v :: vs => bnd (prepBM M ms.tail vs) fun q => pureM (v :: q.1, q.2)
def mergeM (L : List Nat) (nb : Nat) (B : List Nat) (M : Mem) (out : Out) : Mo (V × Mem) :=
  match out with
  | .val v H => bnd (bif B.isEmpty then pureM () else mustM (v.flat && H.all Ob.flat)) fun _ =>
      bnd (optM (putL (back L nb) M L H)) fun p => if p.2.length ≤ 8 then bnd (optM (putNew (back L nb) p.1 nb p.2)) fun M2 => pureM (v.ren (back L nb), M2) else failM
  | _ => failM
section
variable (pr : Pr)
def callEM (f : FuncId) (args : List V) (M : Mem) (nb : Nat) : Mo (V × Mem) :=
  bnd (prepMM (pr.pol f).modes args M) fun p =>
  bnd (prepBM p.2 (pr.pol f).modes p.1) fun q =>
  bnd (optM (clos p.2 fuel0 q.2 [])) fun B =>
  bnd (optM (clos p.2 fuel0 (V.refsL q.1) [])) fun L =>
  bif B.all (fun i => !L.contains i) then
    bnd (askM (.call f (V.renL (place L) q.1) (L.map fun id => orenD (place L) (p.2 id)))) fun out => mergeM L nb B p.2 out
  else failM
def callVM (fv : V) (args : List V) (M : Mem) (nb : Nat) : Mo (V × Mem) :=
  match fv with
  | .t (.clo f caps) => callEM pr f (args ++ caps.map V.t) M nb
  | .clo f caps => callEM pr f (args ++ caps) M nb
  | _ => failM
def withM (M : Mem) (v : V) : Mo (V × Mem) := pureM (v, M)
/-- Tests whose answers are known, by their slots. -/
abbrev Kn := List (Nat × Bool)
def Kn.at : Kn → Nat → Option Bool
  | [], _ => none
  | (t, v) :: r, x => if t = x then some v else Kn.at r x
def kget (kn : Kn) : Operand → Option Bool
  | .tmp t => kn.at t
  | _ => none
def Kn.drop (kn : Kn) : Option Nat → Kn
  | none => kn
  | some d => kn.filter fun p => p.1 != d
def opM (nest : Bool) (kn : Kn) (o : Oper) (s : S) : Mo (V × Mem) :=
  let P := pr.P
  let M := s.mem
  match o.op with
  | .move x | .assign x => bnd (optM (arg s.env x)) (withM M)
  | .pick c a b => bnd (optM (arg s.env a)) fun a => bnd (optM (arg s.env b)) fun b => match kget kn c with
      | some c => withM M (bif c then a else b)
      | none => bnd (optM (arg s.env c)) fun
        | .t (.bool c) => bnd (brM c) fun c => withM M (bif c then a else b)
        | _ => failM
  | .alloc t => bnd (optM (zeroT P t)) fun z => optM (newBox (bound o) M (z.map V.t))
  | .box _ x => bnd (optM (arg s.env x)) fun v => optM (newBox (bound o) M v.cells)
  | .build t parts => bif !structOk P t then failM else bnd (optM (argPs s.env parts.toList)) fun ps => bnd (optM (zeroT P t)) fun z =>
      bnd (optM (fillV (fun i => (fieldT P t i).map fun f => (f.1, f.2.1)) (z.map V.t) ps)) fun vs => withM M (.agg vs)
  | .buildSlice t len parts => bnd (optM (argPs s.env parts.toList)) fun ps => bnd (optM (elemT P t)) fun e => bnd (optM (szT P e)) fun sz => bnd (optM (zeroT P e)) fun z =>
      mkLitNM nest (bound o) M sz len z ps
  | .load t a => bnd (optM (arg s.env a)) fun p => bnd (optM (aggT P t)) fun ag => bnd (optM (szT P t)) fun n => bnd (ldM M p ag n) (withM M)
  | .store t a x => bnd (optM (arg s.env a)) fun p => bnd (optM (arg s.env x)) fun v => bnd (optM (szT P t)) fun n =>
      if v.cells.length = n ∧ n ≠ 0 then bnd (wrsM nest M p v.cells) fun M' => pureM (.undef, M') else failM
  | .nilCheck x => bnd (optM (arg s.env x)) fun v => bnd (optM (nilChk v)) (withM M)
  | .binOp op t x y _ => bnd (optM (arg s.env x)) fun a => bnd (optM (arg s.env y)) fun b => bnd (binXM P op t y a b) (withM M)
  | .unOp op _ x => bnd (optM (arg s.env x)) fun a => bnd (nrmV (un op a)) (withM M)
  | .convert src dst x => bnd (optM (arg s.env x)) fun a => bnd (nrmV (conv P src dst a)) (withM M)
  | .makeFunc (.func f) first captured => if first.size = 0 then bnd (optM (argL s.env captured)) fun vs =>
      match vs.mapM tOf with
      | some ts => withM M (.t (.clo f ts))
      | none => withM M (.clo f vs) else failM
  | .makeSlice t l c => bnd (optM (arg s.env l)) fun l => bnd (optM (arg s.env c)) fun c => bnd (optM (elemT P t)) fun e => bnd (optM (szT P e)) fun sz => bnd (optM (zeroT P e)) fun z => bnd (optM (P.info? e)) fun i =>
      mkMakeM (bound o) M sz i.bytes z l c
  | .slice t x lo hi mx => bnd (optM (arg s.env x)) fun v => bnd (optM (argO s.env lo)) fun lo => bnd (optM (argO s.env hi)) fun hi => bnd (optM (argO s.env mx)) fun mx =>
      bnd (bif mx.isNone then pureM () else mustM (maxOk v mx && (mx.isNone || hi.isSome))) fun _ =>
      match P.underlying t with
      | some (.slice e) => match v with
        | .t (.str _) => failM
        | v => bnd (optM (szT P e)) fun sz => bnd (subM sz v lo hi) (withM M)
      | some .string => match v with
        | .t (.str _) => bnd (subM 1 v lo hi) (withM M)
        | _ => failM
      | _ => failM
  | .fieldAddr t x f => bnd (optM (arg s.env x)) fun p => bnd (optM (fieldT P t f)) fun fi => if fi.2.1 = 0 then failM else bnd (optM (fldA fi.1 p)) (withM M)
  | .field t x f => bnd (optM (arg s.env x)) fun p => bnd (optM (fieldT P t f)) fun fi => bnd (optM (fld fi.1 fi.2.1 fi.2.2 p)) (withM M)
  | .indexAddr t x i => bnd (optM (arg s.env x)) fun x => bnd (optM (arg s.env i)) fun i => bnd (optM (elemT P t)) fun e => bnd (optM (szT P e)) fun sz => if sz = 0 then failM else bnd (idxAM sz x i) (withM M)
  | .index t x i => bnd (optM (arg s.env x)) fun x => bnd (optM (arg s.env i)) fun i =>
      match P.underlying t with
      | some .string => bnd (idxSM x i) (withM M)
      | _ => failM
  | .extract x i => bnd (optM (arg s.env x)) fun x => bnd (optM (ext i x)) (withM M)
  | .call c => match c.callee with
    | .builtin .len => bnd (optM (argL s.env c.args)) fun vs => match vs, (c.argTypes[0]?).bind P.underlying with
      | [.t (.str z)], some .string => bnd (nrmV (lenV (.t (.str z)))) (withM M)
      | [v], some (.slice _) => match v with
        | .t (.str _) => failM
        | v => bnd (nrmV (lenV v)) (withM M)
      | _, _ => failM
    | .builtin .max => bnd (optM (argL s.env c.args)) fun vs => bnd (nrmV (minmax true vs)) (withM M)
    | .builtin .min => bnd (optM (argL s.env c.args)) fun vs => bnd (nrmV (minmax false vs)) (withM M)
    | .builtin .append => bnd (optM (argL s.env c.args)) fun vs => match vs, c.argTypes[0]?, c.argTypes[1]? with
      | [a, b], some t, some u => match P.underlying u with
        | some (.int _) => failM
        | none => failM
        | _ => bnd (optM (elemT P t)) fun e => bnd (optM (szT P e)) fun sz => bnd (optM (P.info? e)) fun i => bnd (optM (zeroT P e)) fun z =>
          if z.length = sz then appXM (bound o) M sz i.bytes a b else failM
      | _, _, _ => failM
    | .builtin .clear => bnd (optM (argL s.env c.args)) fun vs => match vs, c.argTypes[0]? with
      | [a], some t => bnd (optM (elemT P t)) fun e => bnd (optM (szT P e)) fun sz => bnd (optM (zeroT P e)) fun z => bnd (clrM M sz z a) fun M' => pureM (.undef, M')
      | _, _ => failM
    | .builtin .copy => bnd (optM (argL s.env c.args)) fun vs => match vs, c.argTypes[0]? with
      | [a, b], some t => bnd (optM (elemT P t)) fun e => bnd (optM (szT P e)) fun sz => bnd (cpyM M sz a b) fun q => pureM (.t (.int .i64 q.1), q.2)
      | _, _ => failM
    | .value (.func f) => bnd (optM (argL s.env c.args)) fun vs => callEM pr f vs M (bound o)
    | .value x => bnd (optM (arg s.env x)) fun fv => bnd (optM (argL s.env c.args)) fun vs => callVM pr fv vs M (bound o)
    | _ => failM
  | _ => failM
def finM (nt : Nat) (o : Oper) (s : S) (p : V × Mem) : Mo S :=
  match o.dst with
  | some d => if d < nt then seqV p.1 fun v => pureM { s with env := upd s.env d v, mem := p.2 } else failM
  | none => pureM { s with mem := p.2 }
def opFM (frz : List Nat) (nest : Bool) (kn : Kn) (o : Oper) (s : S) : Mo (V × Mem) :=
  bif (o.dst.any fun d => frz.contains d) then bnd (opM pr nest kn o s) fun p =>
    bnd (mvVM p.2 p.1) fun q => bnd (optM (clos p.2 fuel0 p.1.refs [])) fun L => bif L.all (fun id => bound o ≤ id && id < bound o + 8) then pureM q else failM
  else opM pr nest kn o s
def wantM (ops : Array Oper) (env : Nat → V) (kn : Kn) (j : Nat) (b : Bool) : Mo (Bool × Kn) :=
  match (ops[j]?).bind (·.dst) with
  | some t => match kn.at t with
    | some v => pureM (v == b, kn)
    | none => match env t with
      | .t (.bool b') => bnd (brM b') fun v => pureM (v == b, (t, v) :: kn)
      | .tup [] => pureM (false, kn)
      | _ => failM
  | none => failM
def wanted1M (ops : Array Oper) (kn : Kn) (o : Oper) (s : S) : Mo (Bool × Kn) :=
  match o.guard with
  | none => pureM (true, kn)
  | some (j, b) => wantM ops s.env kn j b
def op1M (nt : Nat) (frz : List Nat) (nest : Bool) (o : Oper) (y : Bool) (kn : Kn) (s : S) : Mo S :=
  bif y then bnd (opFM pr frz nest kn o s) (finM nt o s) else finM nt o s (.tup [], s.mem)
def opsM (nt : Nat) (frz : List Nat) (nest : Bool) (ops : Array Oper) : List Nat → Kn → S → Mo S
  | [], _, s => pureM s
  | i :: r, kn, s => match ops[i]? with
    | some o => bnd (wanted1M ops kn o s) fun y => bnd (op1M pr nt frz nest o y.1 y.2 s) fun s' => opsM nt frz nest ops r (y.2.drop o.dst) s'
    | none => failM
def opsDM (nt : Nat) (frz : List Nat) (nest : Bool) (ops : Array Oper) (bm : Array Nat) : List Nat → List (Nat × Lg) → Kn → S → Mo S
  | [], _, _, s => pureM s
  | i :: r, log, kn, s => match ops[i]? with
    | some o => bnd (wanted1M ops kn o s) fun y => bnd (optM (bif y.1 then touch pr o s else some ⟨[], false, bound o⟩)) fun t =>
        bnd (op1M pr nt frz nest o y.1 y.2 s) fun s' => bnd (mustM (clear bm i (mkLg pr frz o y.1 s.env t s.mem s'.mem) log)) fun _ =>
        opsDM nt frz nest ops bm r ((i, (mkLg pr frz o y.1 s.env t s.mem s'.mem)) :: log) (y.2.drop o.dst) s'
    | none => failM
def loopM (l : LoopQ) (s : S) : Mo Out := bnd (optM (thawS l.thaw s)) fun s1 => bnd (optM (normS l.live s1)) fun s2 => askM (.loop l s2)
def execM (f : FuncId) (nt : Nat) (frz : List Nat) (nest : Bool) : Ann → Code → S → Mo Out
  | .cut live a, c, s => seqP (live.map fun t => (t, s.env t)) fun l => execM f nt frz nest a c { s with env := ofE l }
  | .seq x y, .seq a b, s => bnd (execM f nt frz nest x a s) fun
    | .next s' => execM f nt frz nest y b s'
    | o => pureM o
  | .cond x y, .cond c a b, s => bnd (optM (arg s.env c)) fun
    | .t (.bool t) => bnd (brM t) fun t => bif t then execM f nt frz nest x a s else execM f nt frz nest y b s
    | _ => failM
  | .block x, .block id c, s => bnd (execM f nt frz nest x c s) fun
    | .exit id' s' => if id' = id then pureM (.next s') else pureM (.exit id' s')
    | o => pureM o
  | .loop live after rets thaw x, .loop c, s => loopM ⟨f, live, after, rets, thaw, x, c⟩ s
  | .n, .skip, s => pureM (.next s)
  | .n, .region _ ops false, s => bnd (opsM pr nt frz nest ops (List.range ops.size) [] s) fun s' => pureM (.next s')
  | .n, .region _ ops true, s => bif drawOk ops then bnd (opsDM pr nt frz nest ops (Region.before ops) (List.range ops.size) [] [] s) fun s' => pureM (.next s') else failM
  | .n, .exit id, s => pureM (.exit id s)
  | .n, .ret, s => pureM (.ret s)
  | _, _, _ => failM
def resM (P : Program) (M : Mem) (env : Nat → V) : List ResultVar → Mo (List V)
  | [] => pureM []
  | .tmp t :: r => bnd (resM P M env r) fun l => pureM (env t :: l)
  | .cell a t :: r => bnd (optM (aggT P t)) fun ag => bnd (optM (szT P t)) fun n => bnd (ldM M (env a) ag n) fun v => bnd (resM P M env r) fun l => pureM (v :: l)
def retM (pol : Pol) (fn : Func) (s : S) : Mo Out :=
  bnd (resM pr.P s.mem s.env fn.results.toList) fun vs =>
    bnd (bif pol.own then pureM (softR pol.soft (one vs), s.mem) else mvVM s.mem (softR pol.soft (one vs))) fun p => bnd (optM (norm s.k0 [p.1] p.2)) fun q => match q.1 with
      | [v] => pureM (.val v q.2)
      | _ => failM
def stepM : Q → Mo Out
  | .call f args H => bif !callable pr.P f then failM else match pr.prim f with
    | some p => bnd (optM (p args H)) fun q => pureM (.val q.1 q.2)
    | none => match pr.P.funcs[f]? with
    | some fn => bnd (optM fn.body) fun c => if args.length ≤ fn.ntmps then
        bnd (execM pr f fn.ntmps (pr.pol f).frz (pr.pol f).nest (pr.ann f) c ⟨ofArgs args, ofL H, H.length⟩) fun
          | .next s | .ret s => retM pr (pr.pol f) fn s
          | _ => failM
      else failM
    | none => failM
  | .loop l s => bnd (execM pr l.f (ntOf pr l.f) (pr.pol l.f).frz (pr.pol l.f).nest l.a l.c s) fun
    | .next s' => loopM l s'
    | .exit id s' => bnd (optM (normS l.after s')) fun s => pureM (.exit id s)
    | .ret s' => bnd (optM (normS l.rets s')) fun s => pureM (.ret s)
    | .val .. => failM
def tree (q : Q) : Fm := stepM pr q .ret
end
end Go.Ev

/- The evaluator, twenty-fourth text: the tree of questions comes to what the machine comes to. -/
namespace Go.Ev
set_option linter.unusedVariables false
set_option linter.unusedSimpArgs false
set_option linter.unusedVariables false
set_option linter.unusedSimpArgs false
variable {E : Q → Option Out}
def Sim (E : Q → Option Out) {α : Type} (m : Mo α) (x : Option α) : Prop := ∀ k r, interp E (m k) = some r → ∃ v, x = some v ∧ interp E (k v) = some r
section
variable {α β γ : Type}
theorem Sim.pure {a : α} {x : Option α} (h : x = some a) : Sim E (pureM a) x := fun k r hr => ⟨a, h, hr⟩
theorem Sim.fail {x : Option α} : Sim E failM x := fun k r hr => by cases hr
theorem Sim.sub {m : Mo α} {y : Option α} {f : α → Mo β} {x : Option β} (hm : Sim E m y) (h : ∀ a, y = some a → Sim E (f a) x) : Sim E (bnd m f) x := fun k r hr => by
  obtain ⟨a, ha, hk⟩ := hm _ r hr
  exact h a ha k r hk
theorem Sim.bind {m : Mo α} {y : Option α} {f : α → Mo β} {g : α → Option β} (hm : Sim E m y) (h : ∀ a, y = some a → Sim E (f a) (g a)) : Sim E (bnd m f) (y.bind g) :=
  hm.sub fun a ha => by rw [ha]; exact h a ha
theorem Sim.opt {o : Option α} : Sim E (optM o) o := fun k r hr => by
  cases o with
  | none => cases hr
  | some a => exact ⟨a, rfl, hr⟩
theorem Sim.map {m : Mo α} {y : Option α} {g : α → β} (hm : Sim E m y) : Sim E (bnd m fun a => pureM (g a)) (y.map g) := hm.sub fun a ha => .pure (by rw [ha]; rfl)
theorem Sim.must {b : Bool} {f : Unit → Mo β} {x : Option β} (h : b = true → Sim E (f ()) x) : Sim E (bnd (mustM b) f) x := fun k r hr => by
  cases b with
  | true => exact h rfl k r hr
  | false => cases hr
theorem Sim.nrm {t : Ty} {a : t.ty} {f : t.ty → Mo β} {x : Option β} (h : Sim E (f a) x) : Sim E (bnd (nrmM t a) f) x := fun k r hr => h k r hr
theorem Sim.get {t : Ty} {o : Option t.ty} {f : t.ty → Mo β} {x : Option β} (h : ∀ a, o = some a → Sim E (f a) x) : Sim E (bnd (getM t o) f) x := fun k r hr => by
  obtain ⟨a, ha, hk⟩ := Option.bind_eq_some_iff.1 (show (o.bind fun v => interp E (f v k)) = some r from hr)
  exact h a ha k r hk
theorem Sim.br {b : Bool} {f : Bool → Mo β} {x : Option β} (h : Sim E (f b) x) : Sim E (bnd (brM b) f) x := fun k r hr => h k r hr
theorem Sim.ask {q : Q} : Sim E (askM q) (E q) := fun k r hr => Option.bind_eq_some_iff.1 hr
theorem Sim.mapM {f : α → Mo β} {g : α → Option β} (h : ∀ a, Sim E (f a) (g a)) : ∀ l : List α, Sim E (mapMo f l) (l.mapM g)
  | [] => .pure rfl
  | a :: l => by
    rw [List.mapM_cons]
    exact (h a).bind fun b hb => (Sim.mapM h l).sub fun r hr => .pure (by rw [hr]; rfl)
end
theorem fz_sim {M : Mem} : ∀ (k : Nat) (v : V), Sim E (fzM M k v) (fz M k v)
  | 0, v => .fail
  | k + 1, v => by
    cases v with
    | t x => exact .pure rfl
    | vec id n sz off len =>
      simp only [fzM, fz]
      cases M id with
      | none => exact .fail
      | some ob =>
        cases ob with
        | vec fl sz' es =>
          dsimp only
          split
          · rename_i hs
            refine .must fun hb => .nrm (.pure ?_)
            have hb := of_decide_eq_true hb
            rw [if_pos ⟨hb.1, hs, hb.2⟩]
          · exact .fail
        | _ => exact .fail
    | row id n i j sz len =>
      simp only [fzM, fz]
      cases M id with
      | none => exact .fail
      | some ob =>
        cases ob with
        | vec fl s0 es =>
          refine .must fun hb => .get fun el he => ?_
          dsimp only
          rw [if_pos (of_decide_eq_true hb), he]
          simp only [Option.bind_some]
          cases el[j]? with
          | none => exact .fail
          | some c =>
            cases c with
            | t x => exact .fail
            | row sz' r =>
              dsimp only
              split
              · rename_i hz
                refine .must fun hb2 => .pure ?_
                rw [if_pos ⟨hz, of_decide_eq_true hb2⟩]
              · exact .fail
        | _ => exact .fail
    | ptr id n i o =>
      simp only [fzM, fz]
      cases M id with
      | none => exact .fail
      | some ob =>
        cases ob with
        | box cs =>
          dsimp only
          split
          · exact (Sim.mapM (fun v => fz_sim (M := M) k v) _).map
          · exact .fail
        | vec fl sz' es =>
          refine .must fun hb => .get fun e he => .pure ?_
          dsimp only
          rw [if_pos (of_decide_eq_true hb), he]; rfl
        | dead => exact .fail
    | clo f caps => exact (Sim.mapM (fun v => fz_sim (M := M) k v) _).map
    | _ => exact .fail
theorem fz1_sim {M : Mem} (v : V) : Sim E (fz1M M v) (fz1 M v) := by
  cases v with
  | agg vs => exact (Sim.mapM (fun v => fz_sim (M := M) 16 v) _).map
  | _ => exact (fz_sim 16 _).map
theorem fzV_sim {M : Mem} (v : V) : Sim E (fzVM M v) (fzV M v) := by
  have k2 := fz1_sim (E := E) (M := M) v
  cases v with
  | tup vs => exact (Sim.mapM (fun v => fz1_sim (M := M) v) _).map
  | _ => exact k2
theorem mvV_sim {M : Mem} (v : V) : Sim E (mvVM M v) (mvV M v) := by
  refine (fzV_sim v).bind fun v' h => ?_
  cases v with
  | t x => exact .pure rfl
  | _ => exact (Sim.opt (E := E)).map
theorem rd_sim {M : Mem} {p : V} {k : Nat} : Sim E (rdM M p k) (rd M p k) := by
  unfold rdM rd
  cases p with
  | t x => cases x <;> first | exact .opt | exact .fail
  | ptr id n i o =>
    dsimp only
    cases M id with
    | none => exact .fail
    | some ob =>
      cases ob with
      | box cs =>
        dsimp only
        split
        · exact .opt
        · exact .fail
      | vec fl sz' es =>
        refine .must fun hb => .get fun e he => ?_
        dsimp only
        rw [if_pos (of_decide_eq_true hb), he]
        exact .opt
      | dead => exact .fail
  | rptr id n i j e o =>
    dsimp only
    cases M id with
    | none => exact .fail
    | some ob =>
      cases ob with
      | vec fl sz' es =>
        refine .must fun hb => .get fun el he => ?_
        dsimp only
        rw [if_pos (of_decide_eq_true hb), he]
        simp only [Option.bind_some]
        cases el[j]? with
        | none => exact .fail
        | some c =>
          cases c with
          | t x => exact .fail
          | row s r =>
            refine .get fun g hg => ?_
            dsimp only
            rw [hg]
            exact .opt
      | _ => exact .fail
  | _ => exact .fail
theorem rds_sim {M : Mem} {p : V} : ∀ n i, Sim E (rdsM M p i n) (rds M p i n)
  | 0, i => .pure rfl
  | n + 1, i => rd_sim.bind fun v _ => (rds_sim n (i + 1)).map
theorem ld_sim {M : Mem} {p : V} {ag : Bool} {n : Nat} : Sim E (ldM M p ag n) (ld M p ag n) := by
  unfold ldM ld
  cases ag with
  | false => exact rd_sim
  | true =>
    simp only [cond_true]
    cases n == 0 with
    | true => exact .fail
    | false => exact (rds_sim n 0).map
theorem asC_sim {m : Mo (V × Mem)} {y : Option (V × Mem)} (h : Sim E m y) : Sim E (bnd m asC) (y.bind fun | (.t x, M') => some (C.t x, M') | _ => none) := h.bind fun p _ => by
  obtain ⟨v, M'⟩ := p
  cases v <;> first | exact .pure rfl | exact .fail
theorem toC_sim {nest : Bool} {M : Mem} (v : V) : Sim E (toCM nest M v) (toC nest M v) := by
  cases v with
  | t x => exact .pure rfl
  | vec id n sz off len =>
    cases nest with
    | true => exact .fail
    | false =>
      have := asC_sim (mvV_sim (E := E) (M := M) (.vec id n sz off len))
      exact this
  | _ => exact asC_sim (mvV_sim _)
theorem toCs_sim {nest : Bool} : ∀ (vs : List V) (M : Mem), Sim E (toCsM nest M vs) (toCs nest M vs)
  | [], M => .pure rfl
  | v :: vs, M => (toC_sim v).bind fun p _ => (toCs_sim vs p.2).map
theorem toCss_sim {nest : Bool} : ∀ (vs : List (List V)) (M : Mem), Sim E (toCssM nest M vs) (toCss nest M vs)
  | [], M => .pure rfl
  | v :: vs, M => (toCs_sim v M).bind fun p _ => (toCss_sim vs p.2).map
theorem wr0_sim {nest : Bool} {M : Mem} {p : V} {k : Nat} {v : V} : Sim E (wr0M nest M p k v) (wr0 nest M p k v) := by
  unfold wr0M wr0
  cases p with
  | ptr id n i o =>
    dsimp only
    cases M id with
    | none => exact .fail
    | some ob =>
      cases ob with
      | box cs =>
        dsimp only
        split
        · rw [seqL_eq]; exact .pure rfl
        · exact .fail
      | vec fl0 sz0 es0 =>
        refine (toC_sim v).bind fun q _ => ?_
        obtain ⟨c, M1⟩ := q
        dsimp only
        cases M1 id with
        | none => exact .fail
        | some ob =>
          cases ob with
          | vec fl sz es =>
            refine .must fun hb => .get fun e he => ?_
            dsimp only
            rw [if_pos (of_decide_eq_true hb), he]
            dsimp only
            cases e[o + k]? with
            | none => exact .fail
            | some c' => cases c' <;> first | exact .nrm (.pure rfl) | exact .fail
          | _ => exact .fail
      | dead => exact .fail
  | _ => exact .fail
theorem wrN_sim {M : Mem} {id n i c id2 n2 sz2 off2 len2 : Nat} : Sim E (wrNM M id n i c id2 n2 sz2 off2 len2) (wrN M id n i c id2 n2 sz2 off2 len2) := by
  unfold wrNM wrN
  split
  · exact .fail
  cases M id2 with
  | none => exact .fail
  | some ob =>
    cases ob with
    | vec fl2 sz2' es2 =>
      dsimp only
      split
      · rename_i h1
        refine .must fun hb => ?_
        have hb := of_decide_eq_true hb
        rw [if_pos ⟨hb.1, h1.1, h1.2, hb.2⟩]
        cases M id with
        | none => exact .fail
        | some ob =>
          cases ob with
          | vec fl sz es =>
            refine .must fun hn => .get fun e he => ?_
            dsimp only
            rw [if_pos (of_decide_eq_true hn), he]
            dsimp only
            cases e[c]? with
            | none => exact .fail
            | some x => cases x <;> first | exact .nrm (.nrm (.pure rfl)) | exact .fail
          | _ => exact .fail
      · exact .fail
    | _ => exact .fail
theorem wrR_sim {M : Mem} {id n i j e o k : Nat} {v : V} : Sim E (wrRM M id n i j e o k v) (wrR M id n i j e o k v) := by
  unfold wrRM wrR
  split
  · refine (toC_sim v).bind fun q _ => ?_
    obtain ⟨c, M1⟩ := q
    dsimp only
    cases c with
    | row s r => exact .fail
    | t x =>
      cases M1 id with
      | none => exact .fail
      | some ob =>
        cases ob with
        | vec fl sz es =>
          refine .must fun hn => .get fun el he => ?_
          dsimp only
          rw [if_pos (of_decide_eq_true hn), he]
          dsimp only
          cases el[j]? with
          | none => exact .fail
          | some c =>
            cases c with
            | t x => exact .fail
            | row s r =>
              refine .get fun g hg => .must fun hl => .nrm (.pure ?_)
              dsimp only
              rw [hg]
              dsimp only
              rw [if_pos (of_decide_eq_true hl)]
        | _ => exact .fail
  · exact .fail
theorem wr_sim {nest : Bool} {M : Mem} {p : V} {k : Nat} {v : V} : Sim E (wrM nest M p k v) (wr nest M p k v) := by
  cases p with
  | rptr id n i j e o =>
    have := wrR_sim (E := E) (M := M) (id := id) (n := n) (i := i) (j := j) (e := e) (o := o) (k := k) (v := v)
    unfold wrM wr
    exact this
  | ptr id n i o =>
    cases v with
    | vec id2 n2 sz2 off2 len2 =>
      unfold wrM wr
      dsimp only
      cases nest && isVecO (M id) with
      | true => simp only [cond_true]; exact wrN_sim
      | false => simp only [cond_false]; exact wr0_sim
    | _ => unfold wrM wr; exact wr0_sim
  | _ => cases v <;> (unfold wrM wr; exact wr0_sim)
theorem wrs0_sim {nest : Bool} {p : V} : ∀ (vs : List V) (M : Mem) (i : Nat), Sim E (wrs0M nest M p i vs) (wrs nest M p i vs)
  | [], M, i => .pure rfl
  | v :: vs, M, i => wr_sim.bind fun M' _ => wrs0_sim vs M' (i + 1)
theorem tOf_map : ∀ {vs : List V} {ts : List T}, vs.mapM tOf = some ts → vs = ts.map V.t := fun h => mapM_T h
theorem wrs_wide {nest fl : Bool} {id n j sz : Nat} : ∀ (ts : List T) (k : Nat) (e : List C) (es : List (List C)) (M : Mem), M id = some (.vec fl sz es) → es.length = n → es[j]? = some e → k + ts.length = e.length → e.all C.isT = true →
    wrs nest M (.ptr id n j 0) k (ts.map V.t) = some (upd M id (some (.vec fl sz (es.set j (e.take k ++ ts.map C.t)))))
  | [], k, e, es, M, hM, hn, he, hk, ha => by
    have hk : k = e.length := by simpa using hk
    simp only [List.map_nil, wrs, List.append_nil, hk, List.take_length]
    have : es.set j e = es := by
      apply List.ext_getElem?
      intro i
      rw [List.getElem?_set]
      split
      · rename_i h; subst h
        have hj := (List.getElem?_eq_some_iff.1 he).1
        rw [if_pos hj, he]
      · rfl
    rw [this, ← hM]
    congr 1
    funext i
    unfold upd
    split
    · rename_i h; rw [h]
    · rfl
  | x :: ts, k, e, es, M, hM, hn, he, hk, ha => by
    have hlt : k < e.length := by simp at hk; omega
    obtain ⟨y, hy⟩ : ∃ y, e[k]? = some (C.t y) := by
      have hm : e[k]'hlt ∈ e := List.getElem_mem hlt
      have := List.all_eq_true.1 ha _ hm
      cases hx : e[k]'hlt with
      | t y => exact ⟨y, by rw [List.getElem?_eq_getElem hlt, hx]⟩
      | row s r => rw [hx] at this; cases this
    have hw : wr nest M (.ptr id n j 0) k (.t x) = some (upd M id (some (.vec fl sz (es.set j (e.set k (.t x)))))) := by
      show wr0 false M (.ptr id n j 0) k (.t x) = _
      unfold wr0
      simp only [hM, toC, Option.bind_some, if_pos hn, he, Nat.zero_add, hy, C.isT, Bool.and_true]
    simp only [List.map_cons, wrs, hw, Option.bind_some]
    have hj := (List.getElem?_eq_some_iff.1 he).1
    rw [wrs_wide ts (k + 1) (e.set k (.t x)) (es.set j (e.set k (.t x))) _ (upd_same ..) (by simpa using hn) (by rw [List.getElem?_set_self hj]) (by simp at hk ⊢; omega) (List.all_eq_true.2 fun c hc => by
      rcases List.mem_or_eq_of_mem_set hc with hc | rfl
      · exact List.all_eq_true.1 ha c hc
      · rfl)]
    congr 1
    have e1 : (e.set k (C.t x)).take (k + 1) ++ ts.map C.t = e.take k ++ C.t x :: ts.map C.t := by
      rw [List.take_add_one, List.take_set_of_le (Nat.le_refl k), List.getElem?_set_self hlt]
      simp
    rw [e1, List.set_set]
    funext i
    unfold upd
    split <;> rfl
theorem wrs_sim {nest : Bool} {p : V} (vs : List V) (M : Mem) : Sim E (wrsM nest M p vs) (wrs nest M p 0 vs) := by
  unfold wrsM
  split
  · rename_i id n j
    split
    · rename_i fl sz es ts hM hts
      refine .must fun hb => .get fun e he => ?_
      split
      · rename_i hc
        refine .nrm (.pure ?_)
        rw [tOf_map hts, wrs_wide ts 0 e es M hM (of_decide_eq_true hb) he (by omega) hc.2]
        simp
      · exact wrs0_sim _ _ _
    · exact wrs0_sim _ _ _
  · exact wrs0_sim _ _ _
theorem nrmV_sim {x : Option V} : Sim E (nrmV x) x := by
  unfold nrmV
  split
  · exact .nrm (.pure rfl)
  · exact .pure rfl
  · exact .fail
theorem bin_sim {P : Program} {op : BinOp} {t : TypeId} {x y : V} : Sim E (binM P op t x y) (bin P op t x y) := by
  unfold binM
  split
  · refine .must fun hb => .nrm (.pure ?_)
    simp only [bin, strBin]
    rw [if_pos (of_decide_eq_true hb)]; rfl
  · split
    · rename_i hk
      subst hk
      refine .must fun hb => .nrm (.pure ?_)
      have hb := of_decide_eq_true hb
      simp [bin, intBin, hb]
    · exact .fail
  · split
    · rename_i hk
      subst hk
      refine .must fun hb => .nrm (.pure ?_)
      have hb := of_decide_eq_true hb
      simp [bin, intBin, hb]
    · exact .fail
  · refine .must fun hb => .nrm (.pure ?_)
    have hb := of_decide_eq_true hb
    simp only [bin]
    rw [if_neg (by omega)]
    rfl
  · refine .must fun hb => .nrm (.pure ?_)
    have hb := of_decide_eq_true hb
    simp only [bin]
    rw [if_neg (by omega)]
    rfl
  · split
    · exact nrmV_sim
    · exact nrmV_sim
    · rename_i hx hx2
      refine .must fun hb => ?_
      have e : bin P op t x (.t .nils) = binN P op t := by
        have hb := of_decide_eq_true hb
        cases x with
        | t x =>
          cases x with
          | seq sz es => simp only [bin]; rw [if_pos hb]
          | nils => exact (hx rfl).elim
          | sn b => exact (hx2 b rfl).elim
          | _ => simp [lenN] at hb
        | vec => simp only [bin]; rw [if_pos hb]
        | row => simp only [bin]; rw [if_pos hb]
        | _ => simp [lenN] at hb
      rw [e]
      exact .opt
  · exact nrmV_sim
theorem binX_sim {P : Program} {op : BinOp} {t : TypeId} {oy : Operand} {x y : V} : Sim E (binXM P op t oy x y) (binX P op t oy x y) := by
  unfold binXM
  split
  · exact nrmV_sim
  · rename_i hne
    have e : binX P op t oy x y = bin P op t x y := by
      unfold binX
      split
      · exact absurd rfl (hne rfl)
      · rfl
    rw [e]
    exact bin_sim
theorem idxA_sim {sz : Nat} {x i : V} : Sim E (idxAM sz x i) (idxA sz x i) := by
  unfold idxAM idxA
  cases i with
  | t i =>
    cases i with
    | int k i =>
      dsimp only
      cases x with
      | t x =>
        cases x with
        | seq sz' es =>
          dsimp only
          split
          · rename_i hs
            refine .get fun e he => .pure ?_
            unfold lkp at he
            split at he
            · rename_i hi
              rw [if_pos hi, he]; rfl
            · cases he
          · exact .fail
        | _ => exact .fail
      | vec id n sz' off len =>
        dsimp only
        split
        · rename_i hs
          refine .must fun hb => .nrm (.pure ?_)
          have hb := of_decide_eq_true hb
          rw [if_pos hb.1, if_pos ⟨hs, hb.2⟩]
        · exact .fail
      | row id n a b sz' len =>
        dsimp only
        split
        · rename_i hs
          refine .must fun hb => .nrm (.pure ?_)
          have hb := of_decide_eq_true hb
          rw [if_pos hb.1, if_pos ⟨hs, hb.2⟩]
        · exact .fail
      | _ => exact .fail
    | _ => exact .fail
  | _ => exact .fail
theorem idxS_sim {x i : V} : Sim E (idxSM x i) (idxS x i) := by
  unfold idxSM idxS
  split
  · refine .get fun e he => .pure ?_
    unfold lkpS at he
    split at he
    · rename_i hi
      dsimp only
      rw [if_pos hi, he]; rfl
    · cases he
  · exact .fail
theorem natOr_of {d : Nat} {x : Option V} {n : Int} (h : intOr d x = some n) (h0 : 0 ≤ n) : natOr d x = some n.toNat := by
  unfold intOr at h
  split at h
  · obtain rfl := Option.some.inj h; simp [natOr]
  · obtain rfl := Option.some.inj h
    simp [natOr, natV, h0]
  · cases h
theorem sub_sim {sz : Nat} {x : V} {lo hi : Option V} : Sim E (subM sz x lo hi) (sub sz x lo hi) := by
  unfold subM sub
  split
  · refine Sim.opt.sub fun l hl => Sim.opt.sub fun h hh => .must fun hb => .nrm (.pure ?_)
    have hb := of_decide_eq_true hb
    dsimp only
    rw [natOr_of (d := 0) hl hb.1, Option.bind_some, natOr_of hh (by omega), Option.bind_some, if_pos ⟨by omega, by omega⟩]
  · refine Sim.opt.sub fun l hl => Sim.opt.sub fun h hh => .must fun hb => .pure ?_
    have hb := of_decide_eq_true hb
    dsimp only
    rw [natOr_of (d := 0) hl (by omega), Option.bind_some, natOr_of (d := 0) hh (by omega), Option.bind_some, if_pos ⟨by omega, by omega⟩]
  · split
    · rename_i hs
      refine Sim.opt.sub fun l hl => Sim.opt.sub fun h hh => .must fun hb => .nrm (.pure ?_)
      have hb := of_decide_eq_true hb
      dsimp only
      rw [natOr_of (d := 0) hl hb.1, Option.bind_some, natOr_of hh (by omega), Option.bind_some, if_pos ⟨hs, by omega, by omega⟩]
    · exact .fail
  · split
    · rename_i hs
      refine Sim.opt.sub fun l hl => Sim.opt.sub fun h hh => .must fun hb => .nrm (.nrm (.pure ?_))
      have hb := of_decide_eq_true hb
      dsimp only
      rw [natOr_of (d := 0) hl hb.1, Option.bind_some, natOr_of hh (by omega), Option.bind_some, if_pos ⟨hs, by omega, by omega⟩]
    · exact .fail
  · exact .fail
theorem mkLit_sim {nest : Bool} {nb : Nat} {M : Mem} {sz len : Nat} {z : List T} {ps : List (Nat × V)} : Sim E (mkLitM nest nb M sz len z ps) (mkLit nest nb M sz len z ps) := by
  unfold mkLitM mkLit
  split
  · exact Sim.opt.bind fun vs _ => (toCss_sim _ M).bind fun p _ => Sim.opt.map
  · exact .fail
theorem mvIn_sim {id : Nat} : ∀ (vs : List V) (j : Nat) (M : Mem), Sim E (mvInM id j vs M) (mvIn id j vs M)
  | [], j, M => .pure rfl
  | v :: vs, j, M => by
    cases v with
    | vec id2 n2 sz2 off2 len2 => exact wrN_sim.bind fun M' _ => mvIn_sim vs (j + 1) M'
    | _ => simp only [mvInM, mvIn]; exact mvIn_sim vs (j + 1) M
theorem mkLitN_sim {nest : Bool} {nb : Nat} {M : Mem} {sz len : Nat} {z : List T} {ps : List (Nat × V)} : Sim E (mkLitNM nest nb M sz len z ps) (mkLitN nest nb M sz len z ps) := by
  unfold mkLitNM mkLitN
  cases (bif nest then litOne sz len ps else none) with
  | none => exact mkLit_sim
  | some vs =>
    refine mkLit_sim.bind fun p _ => ?_
    obtain ⟨v, M1⟩ := p
    dsimp only
    rw [Option.map_eq_bind]
    exact (mvIn_sim vs 0 M1).bind fun M2 _ => .pure rfl
theorem mkMake_sim {nb : Nat} {M : Mem} {sz bytes : Nat} {z : List T} {l c : V} : Sim E (mkMakeM nb M sz bytes z l c) (mkMake nb M sz bytes z l c) := by
  unfold mkMakeM mkMake
  split
  · rename_i k n k' m
    split
    · rename_i hc
      refine .must fun hb => ?_
      have hb := of_decide_eq_true hb
      simp only [natV]
      rw [if_pos hb.1, Option.bind_some, if_pos (by omega), Option.bind_some, if_pos ⟨hc.1, hc.2.1, by omega, by unfold room; omega, hc.2.2⟩]
      exact .nrm (.nrm Sim.opt.map)
    · exact .fail
  · exact .fail
theorem src_sim {M : Mem} {sz : Nat} {x : V} : Sim E (srcM M sz x) (src M sz x) := by
  unfold srcM src
  split
  · exact .pure rfl
  · split
    · rename_i h; exact .pure (by first | (dsimp only; rw [if_pos h]; done) | rfl | (subst h; rfl))
    · exact .fail
  · exact .pure rfl
  · split
    · rename_i h; exact .pure (by first | (dsimp only; rw [if_pos h]; done) | rfl | (subst h; rfl))
    · exact .fail
  · rename_i id n sz' off len
    dsimp only
    cases M id with
    | none => exact .fail
    | some ob =>
      cases ob with
      | vec fl sz'' es =>
        dsimp only
        split
        · rename_i hc
          refine .must fun hb => .pure ?_
          have hb := of_decide_eq_true hb
          rw [if_pos ⟨hb.1, hc.1, hc.2.1, hb.2, hc.2.2⟩]
        · exact .fail
      | _ => exact .fail
  · exact .fail
theorem app0_sim {M : Mem} {sz id n len : Nat} {es xs : List (List C)} : Sim E (app0M M sz id n len es xs) (some (app0 M sz id n len es xs)) := by
  unfold app0M app0
  refine .br (.nrm ?_)
  by_cases h : len + xs.length ≤ n
  · rw [if_pos h, decide_eq_true h]
    exact .nrm (.pure rfl)
  · rw [if_neg h, decide_eq_false h]
    exact .nrm (.pure rfl)
theorem app_sim {nb : Nat} {M : Mem} {sz bytes : Nat} {s x : V} : Sim E (appM nb M sz bytes s x) (app nb M sz bytes s x) := by
  unfold appM app
  split
  · refine src_sim.bind fun xs _ => ?_
    split
    · refine .must fun hb => .nrm (.nrm ?_)
      dsimp only
      rw [if_pos (show xs.length ≤ room by unfold room; exact of_decide_eq_true hb)]
      exact Sim.opt.map
    · rename_i id n sz' off len
      dsimp only
      cases M id with
      | none => exact .fail
      | some ob =>
        cases ob with
        | vec fl' sz'' es =>
          dsimp only
          split
          · rename_i hc
            refine .must fun hb => ?_
            have hb := of_decide_eq_true hb
            rw [if_pos (show es.length = n ∧ sz' = sz ∧ sz'' = sz ∧ off + len ≤ n ∧ len + xs.length ≤ room ∧ fl' = true from ⟨hb.1, hc.1, hc.2.1, hb.2.1, by unfold room; exact hb.2.2, hc.2.2⟩)]
            by_cases h0 : off = 0
            · simp only [if_pos h0]; exact app0_sim
            · simp only [if_neg h0]
              refine .must fun hb2 => ?_
              rw [if_pos (of_decide_eq_true hb2)]
              refine Sim.opt.sub fun M2 h2 => ?_
              rw [h2]
              exact app0_sim
          · exact .fail
        | _ => exact .fail
    · exact .fail
  · exact .fail
theorem appN_sim {M : Mem} {sz bytes id n len id2 : Nat} : Sim E (appNM M sz bytes id n len id2) (appN M sz bytes id n len id2) := by
  unfold appNM appN
  split
  · match M id2 with
    | some (.vec _ sz2 [e]) =>
      dsimp only
      match M id with
      | some (.vec _ sz1 es) =>
        dsimp only
        split
        · rename_i hc
          refine .must fun hb => ?_
          have hb := of_decide_eq_true hb
          rw [if_pos (show sz2 = sz ∧ sz1 = sz ∧ es.length = n ∧ len = n ∧ n + 1 ≤ room from ⟨hc.1, hc.2, hb.1, hb.2.1, by unfold room; exact hb.2.2⟩)]
          exact .nrm (.nrm (.pure rfl))
        · exact .fail
      | some (.box _) => exact .fail
      | some .dead => exact .fail
      | none => exact .fail
    | some (.vec _ _ []) => exact .fail
    | some (.vec _ _ (_ :: _ :: _)) => exact .fail
    | some (.box _) => exact .fail
    | some .dead => exact .fail
    | none => exact .fail
  · exact .fail
theorem appX_sim {nb : Nat} {M : Mem} {sz bytes : Nat} {s x : V} : Sim E (appXM nb M sz bytes s x) (appX nb M sz bytes s x) := by
  unfold appXM appX
  split
  · rename_i id n sz' off len id2 n2 sz2 off2 len2
    have key : ∀ b : Bool, Sim E (bif b then (bnd (mustM (decide (sz' = sz ∧ sz2 = sz ∧ off = 0 ∧ n2 = 1 ∧ off2 = 0 ∧ len2 = 1))) fun _ => appNM M sz bytes id n len id2) else appM nb M sz bytes (.vec id n sz' off len) (.vec id2 n2 sz2 off2 len2))
        (bif b then (if sz' = sz ∧ sz2 = sz ∧ off = 0 ∧ n2 = 1 ∧ off2 = 0 ∧ len2 = 1 then appN M sz bytes id n len id2 else none) else app nb M sz bytes (.vec id n sz' off len) (.vec id2 n2 sz2 off2 len2)) := fun b => by
      cases b
      · simp only [cond_false]; exact app_sim
      · simp only [cond_true]
        refine .must fun hb => ?_
        rw [if_pos (of_decide_eq_true hb)]
        exact appN_sim
    exact key _
  · split
    · rename_i hno
      exact False.elim (hno _ _ _ _ _ _ _ _ _ _ rfl rfl)
    · exact app_sim
theorem cpy_sim {M : Mem} {sz : Nat} {d x : V} : Sim E (cpyM M sz d x) (cpy M sz d x) := by
  unfold cpyM cpy
  cases d with
  | vec id n sz' off len =>
    dsimp only
    refine .br (Sim.opt.bind fun x' _ => src_sim.bind fun xs _ => ?_)
    cases M id with
    | none => exact .fail
    | some ob =>
      cases ob with
      | vec fl sz'' es =>
        dsimp only
        split
        · rename_i hc
          refine .must fun hb => .nrm (.nrm (.pure ?_))
          have hb := of_decide_eq_true hb
          rw [if_pos ⟨hc.1, hb.1, hc.2.1, hc.2.2.1, hb.2.1, hc.2.2.2, hb.2.2⟩]
        · exact .fail
      | _ => exact .fail
  | _ => exact .fail
theorem clr_sim {M : Mem} {sz : Nat} {z : List T} {x : V} : Sim E (clrM M sz z x) (clr M sz z x) := by
  unfold clrM clr
  split
  · rename_i id n sz' off len
    dsimp only
    cases M id with
    | none => exact .fail
    | some ob =>
      cases ob with
      | vec fl sz'' es =>
        dsimp only
        split
        · rename_i hc
          refine .must fun hb => .nrm (.pure ?_)
          have hb := of_decide_eq_true hb
          rw [if_pos ⟨hb.1, hc.1, hc.2.1, hb.2, hc.2.2.1, hc.2.2.2⟩]
        · exact .fail
      | _ => exact .fail
  · exact .fail
theorem prepM_sim : ∀ (vs : List V) (ms : List Mode) (M : Mem), Sim E (prepMM ms vs M) (prepM ms vs M)
  | [], ms, M => by cases ms with | nil => exact .pure rfl | cons m ms => cases m <;> exact .pure rfl
  | v :: vs, ms, M => by
    cases ms with
    | nil => exact (prepM_sim vs _ M).map
    | cons m ms =>
      cases m with
      | move => exact (mvV_sim v).bind fun p _ => (prepM_sim vs ms p.2).map
      | pass => exact (prepM_sim vs ms M).map
      | borrow => exact (prepM_sim vs ms M).map
theorem prepB_sim {M : Mem} : ∀ (vs : List V) (ms : List Mode), Sim E (prepBM M ms vs) (prepB M ms vs)
  | [], ms => by cases ms with | nil => exact .pure rfl | cons m ms => cases m <;> exact .pure rfl
  | v :: vs, ms => by
    cases ms with
    | nil => exact (prepB_sim vs _).map
    | cons m ms =>
      cases m with
      | borrow => exact (fzV_sim v).bind fun p _ => (prepB_sim vs ms).map
      | pass => exact (prepB_sim vs ms).map
      | move => exact (prepB_sim vs ms).map
theorem merge_sim {L : List Nat} {nb : Nat} {B : List Nat} {M : Mem} {out : Out} : Sim E (mergeM L nb B M out) (merge L nb B M out) := by
  unfold mergeM merge
  cases out with
  | val v H =>
    dsimp only
    have key : (B.isEmpty = true ∨ (v.flat && H.all Ob.flat) = true) → Sim E (bnd (optM (putL (back L nb) M L H)) fun p => if p.2.length ≤ 8 then bnd (optM (putNew (back L nb) p.1 nb p.2)) fun M2 => pureM (v.ren (back L nb), M2) else failM)
        (if B.isEmpty = true ∨ (v.flat && H.all Ob.flat) = true then (putL (back L nb) M L H).bind fun (M1, new) => if new.length ≤ 8 then (putNew (back L nb) M1 nb new).map fun M2 => (v.ren (back L nb), M2) else none else none) := fun h => by
      rw [if_pos h]
      refine Sim.opt.bind fun p _ => ?_
      obtain ⟨M1, new⟩ := p
      dsimp only
      split
      · exact Sim.opt.map
      · exact .fail
    cases hB : B.isEmpty with
    | true => rw [hB] at key; exact (Sim.pure (a := ()) (x := some ()) rfl).sub fun _ _ => key (.inl rfl)
    | false => rw [hB] at key; exact .must fun hb => key (.inr hb)
  | _ => exact .fail
theorem callE_sim {pr : Pr} {f : FuncId} {args : List V} {M : Mem} {nb : Nat} : Sim E (callEM pr f args M nb) (callE pr E f args M nb fun v M => some (v, M)) := by
  unfold callEM callE
  refine (prepM_sim args _ M).bind fun p _ => (prepB_sim p.1 _).bind fun q _ => Sim.opt.bind fun B _ => Sim.opt.bind fun L _ => ?_
  dsimp only
  cases B.all (fun i => !L.contains i) with
  | false => exact .fail
  | true =>
    simp only [cond_true]
    refine Sim.ask.bind fun out _ => ?_
    have : (merge L nb B p.2 out) = (merge L nb B p.2 out).bind fun x => some (x.1, x.2) := by cases merge L nb B p.2 out <;> rfl
    rw [← this]
    exact merge_sim
theorem callV_sim {pr : Pr} {fv : V} {args : List V} {M : Mem} {nb : Nat} : Sim E (callVM pr fv args M nb) (callV pr E fv args M nb fun v M => some (v, M)) := by
  unfold callVM callV
  split <;> first | exact callE_sim | exact .fail
/-- What is told of the tests is so. -/
def Kn.ok (kn : Kn) (env : Nat → V) : Prop := ∀ p ∈ kn, env p.1 = .t (.bool p.2)
theorem kn_at {kn : Kn} {env : Nat → V} (h : kn.ok env) {t : Nat} {v : Bool} (ha : kn.at t = some v) : env t = .t (.bool v) := by
  induction kn with
  | nil => cases ha
  | cons p kn ih =>
    obtain ⟨x, y⟩ := p
    simp only [Kn.at] at ha
    split at ha
    · rename_i e
      obtain rfl := Option.some.inj ha
      subst e
      exact h (x, y) (by simp)
    · exact ih (fun q hq => h q (by simp [hq])) ha
theorem opM_sim {pr : Pr} {nest : Bool} {kn : Kn} {o : Oper} {s : S} (hk : kn.ok s.env) : Sim E (opM pr nest kn o s) (opK pr E nest o s fun v M => some (v, M)) := by
  have eta : ∀ {y : Option (V × Mem)}, (y.bind fun x => some (x.1, x.2)) = y := fun {y} => by cases y <;> rfl
  obtain ⟨dst, op, type, pos, after, guard⟩ := o
  unfold opM opK
  cases op <;> dsimp only
  case move x => exact Sim.opt.bind fun v _ => .pure rfl
  case assign x => exact Sim.opt.bind fun v _ => .pure rfl
  case pick c a b =>
    refine Sim.opt.sub fun va ha => Sim.opt.sub fun vb hb => ?_
    rw [ha, hb]
    cases hg : kget kn c with
    | some y =>
      cases c with
      | tmp t =>
        have : arg s.env (.tmp t) = some (.t (.bool y)) := congrArg some (kn_at hk hg)
        rw [this]
        exact .pure rfl
      | _ => cases hg
    | none =>
      refine Sim.opt.bind fun c _ => ?_
      cases c with
      | t x => cases x <;> first | exact .br (.pure rfl) | exact .fail
      | _ => exact .fail
  case alloc t => exact Sim.opt.bind fun z _ => by rw [eta]; exact .opt
  case box t x => exact Sim.opt.bind fun z _ => by rw [eta]; exact .opt
  case build t ps =>
    cases !structOk pr.P t with
    | true => exact .fail
    | false => exact Sim.opt.bind fun ps _ => Sim.opt.bind fun z _ => Sim.opt.bind fun vs _ => .pure rfl
  case buildSlice t n ps => exact Sim.opt.bind fun ps _ => Sim.opt.bind fun e _ => Sim.opt.bind fun sz _ => Sim.opt.bind fun z _ => by rw [eta]; exact mkLitN_sim
  case load t a => exact Sim.opt.bind fun p _ => Sim.opt.bind fun ag _ => Sim.opt.bind fun n _ => ld_sim.bind fun v _ => .pure rfl
  case store t a x =>
    refine Sim.opt.bind fun p _ => Sim.opt.bind fun v _ => Sim.opt.bind fun n _ => ?_
    split
    · exact (wrs_sim _ _).bind fun M' _ => .pure rfl
    · exact .fail
  case nilCheck x => exact Sim.opt.bind fun v _ => Sim.opt.bind fun v _ => .pure rfl
  case binOp op t x y _ => exact Sim.opt.bind fun a _ => Sim.opt.bind fun b _ => binX_sim.bind fun v _ => .pure rfl
  case unOp op t x => exact Sim.opt.bind fun a _ => nrmV_sim.bind fun v _ => .pure rfl
  case convert src dst x => exact Sim.opt.bind fun a _ => nrmV_sim.bind fun v _ => .pure rfl
  case makeFunc fn first captured =>
    cases fn with
    | func f =>
      dsimp only
      split
      · refine Sim.opt.bind fun vs _ => ?_
        cases vs.mapM tOf <;> exact .pure rfl
      · exact .fail
    | _ => exact .fail
  case makeSlice t l c => exact Sim.opt.bind fun l _ => Sim.opt.bind fun c _ => Sim.opt.bind fun e _ => Sim.opt.bind fun sz _ => Sim.opt.bind fun z _ => Sim.opt.bind fun i _ => by rw [eta]; exact mkMake_sim
  case slice t x lo hi mx =>
    refine Sim.opt.bind fun v _ => Sim.opt.bind fun lo _ => Sim.opt.bind fun hi _ => Sim.opt.bind fun mx _ => ?_
    cases hmx : (maxOk v mx && (mx.isNone || hi.isSome)) with
    | false =>
      cases mx with
      | none => simp [maxOk] at hmx
      | some m => exact .must fun hb => by cases hb
    | true =>
      simp only [Bool.not_true, cond_false]
      refine Sim.sub (y := some ()) ?_ fun _ _ => ?_
      · cases mx with
        | none => exact .pure rfl
        | some m => exact fun k r hr => ⟨(), rfl, hr⟩
      · cases pr.P.underlying t with
        | none => exact .fail
        | some ty =>
          cases ty with
          | slice e =>
            cases v with
            | t x => cases x <;> first | exact .fail | exact Sim.opt.bind fun sz _ => sub_sim.bind fun v _ => .pure rfl
            | _ => exact Sim.opt.bind fun sz _ => sub_sim.bind fun v _ => .pure rfl
          | string =>
            cases v with
            | t x => cases x <;> first | exact .fail | exact sub_sim.bind fun v _ => .pure rfl
            | _ => exact .fail
          | _ => exact .fail
  case fieldAddr t x f =>
    refine Sim.opt.bind fun p _ => Sim.opt.bind fun fi _ => ?_
    split
    · exact .fail
    · exact Sim.opt.bind fun v _ => .pure rfl
  case field t x f => exact Sim.opt.bind fun p _ => Sim.opt.bind fun fi _ => Sim.opt.bind fun v _ => .pure rfl
  case indexAddr t x i =>
    refine Sim.opt.bind fun x _ => Sim.opt.bind fun i _ => Sim.opt.bind fun e _ => Sim.opt.bind fun sz _ => ?_
    split
    · exact .fail
    · exact idxA_sim.bind fun v _ => .pure rfl
  case index t x i =>
    refine Sim.opt.bind fun x _ => Sim.opt.bind fun i _ => ?_
    cases pr.P.underlying t with
    | none => exact .fail
    | some ty => cases ty <;> first | exact .fail | exact idxS_sim.bind fun v _ => .pure rfl
  case extract x i => exact Sim.opt.bind fun x _ => Sim.opt.bind fun v _ => .pure rfl
  case call c =>
    cases hce : c.callee with
    | builtin b =>
      cases b <;> first | exact .fail | skip
      case len =>
        refine Sim.opt.bind fun vs _ => ?_
        cases (c.argTypes[0]?).bind pr.P.underlying with
        | none =>
          match vs with
          | [] => exact .fail
          | [v] => cases v with
            | t x => cases x <;> exact .fail
            | _ => exact .fail
          | v :: _ :: _ => cases v with
            | t x => cases x <;> exact .fail
            | _ => exact .fail
        | some ty =>
          match vs with
          | [] => cases ty <;> exact .fail
          | [v] => cases v with
            | t x => cases x <;> cases ty <;> first | exact .fail | exact nrmV_sim.bind fun v _ => .pure rfl
            | _ => cases ty <;> first | exact .fail | exact nrmV_sim.bind fun v _ => .pure rfl
          | v :: _ :: _ => cases v with
            | t x => cases x <;> cases ty <;> exact .fail
            | _ => cases ty <;> exact .fail
      case append =>
        refine Sim.opt.bind fun vs _ => ?_
        match vs, c.argTypes[0]?, c.argTypes[1]? with
        | [a, b], some t, some u =>
          have key : Sim E (bnd (optM (elemT pr.P t)) fun e => bnd (optM (szT pr.P e)) fun sz => bnd (optM (pr.P.info? e)) fun i => bnd (optM (zeroT pr.P e)) fun z =>
              if z.length = sz then appXM (1000 + 8 * dst.getD 0) s.mem sz i.bytes a b else failM)
            ((elemT pr.P t).bind fun e => (szT pr.P e).bind fun sz => (pr.P.info? e).bind fun i => (zeroT pr.P e).bind fun z =>
              if z.length = sz then (appX (1000 + 8 * dst.getD 0) s.mem sz i.bytes a b).bind fun x => some (x.1, x.2) else none) := by
            refine Sim.opt.bind fun e _ => Sim.opt.bind fun sz _ => Sim.opt.bind fun i _ => Sim.opt.bind fun z _ => ?_
            by_cases hz : z.length = sz
            · simp only [if_pos hz]; rw [eta]; exact appX_sim
            · simp only [if_neg hz]; exact .fail
          dsimp only
          cases pr.P.underlying u with
          | none => exact .fail
          | some ty => cases ty <;> first | exact .fail | exact key
        | [], _, _ => exact .fail
        | [_], _, _ => exact .fail
        | _ :: _ :: _ :: _, _, _ => exact .fail
        | [_, _], none, _ => exact .fail
        | [_, _], some _, none => exact .fail
      case clear =>
        refine Sim.opt.bind fun vs _ => ?_
        match vs, c.argTypes[0]? with
        | [a], some t => exact Sim.opt.bind fun e _ => Sim.opt.bind fun sz _ => Sim.opt.bind fun z _ => clr_sim.bind fun M' _ => .pure rfl
        | [], _ => exact .fail
        | _ :: _ :: _, _ => exact .fail
        | [_], none => exact .fail
      case copy =>
        refine Sim.opt.bind fun vs _ => ?_
        match vs, c.argTypes[0]? with
        | [a, b], some t => exact Sim.opt.bind fun e _ => Sim.opt.bind fun sz _ => cpy_sim.bind fun q _ => .pure rfl
        | [], _ => exact .fail
        | [_], _ => exact .fail
        | _ :: _ :: _ :: _, _ => exact .fail
        | [_, _], none => exact .fail
      case max => exact Sim.opt.bind fun vs _ => nrmV_sim.bind fun v _ => .pure rfl
      case min => exact Sim.opt.bind fun vs _ => nrmV_sim.bind fun v _ => .pure rfl
    | value x =>
      cases x with
      | func f => exact Sim.opt.bind fun vs _ => callE_sim
      | _ => exact Sim.opt.bind fun fv _ => Sim.opt.bind fun vs _ => callV_sim
    | invoke r m => exact .fail
  all_goals exact .fail
end Go.Ev

/- The evaluator, twenty-fifth text: the tree of questions, code; what a trace shows. -/
namespace Go.Ev
set_option linter.unusedVariables false
set_option linter.unusedSimpArgs false
set_option linter.unusedVariables false
set_option linter.unusedSimpArgs false
variable {E : Q → Option Out}
section
variable {pr : Pr} {frz : List Nat} {nest : Bool} {nt : Nat} {ops : Array Oper}
theorem fin_sim {o : Oper} {s : S} {p : V × Mem} : Sim E (finM nt o s p) (fin nt o s p.1 p.2 some) := by
  unfold finM fin
  cases o.dst with
  | none => exact .pure rfl
  | some d =>
    dsimp only
    by_cases h : d < nt
    · rw [if_pos h, if_pos h, seqV_eq]; exact .pure rfl
    · rw [if_neg h, if_neg h]; exact .fail
theorem opF_sim {kn : Kn} {o : Oper} {s : S} (hk : kn.ok s.env) : Sim E (opFM pr frz nest kn o s) (opFK pr E frz nest o s fun v M => some (v, M)) := by
  unfold opFM opFK
  cases (o.dst.any fun d => frz.contains d) with
  | false => exact opM_sim hk
  | true =>
    simp only [cond_true]
    rw [opK_bind]
    refine (opM_sim hk).bind fun p _ => (mvV_sim p.1).bind fun q _ => Sim.opt.bind fun L _ => ?_
    cases L.all (fun id => bound o ≤ id && id < bound o + 8) with
    | false => exact .fail
    | true => exact .pure rfl
/-- A question of tests: its answer, and what is known behind. -/
def SimK (E : Q → Option Out) (env : Nat → V) (m : Mo (Bool × Kn)) (x : Option Bool) : Prop := ∀ k r, interp E (m k) = some r → ∃ y kn, x = some y ∧ Kn.ok kn env ∧ interp E (k (y, kn)) = some r
theorem SimK.sub {env : Nat → V} {β : Type} {m : Mo (Bool × Kn)} {x : Option Bool} {f : Bool × Kn → Mo β} {y : Option β} (h : SimK E env m x) (hf : ∀ b kn, x = some b → Kn.ok kn env → Sim E (f (b, kn)) y) : Sim E (bnd m f) y := fun k r hr => by
  obtain ⟨b, kn, h1, h2, h3⟩ := h _ r hr
  exact hf b kn h1 h2 k r h3
theorem wanted1_sim {kn : Kn} {o : Oper} {s : S} (hk : kn.ok s.env) : SimK E s.env (wanted1M ops kn o s) (wanted1 ops o s) := by
  unfold wanted1M wanted1
  cases o.guard with
  | none => exact fun k r hr => ⟨true, kn, rfl, hk, hr⟩
  | some g =>
    obtain ⟨j, b⟩ := g
    unfold wantM wantV
    dsimp only
    cases (ops[j]?).bind (·.dst) with
    | none => exact fun k r hr => by cases hr
    | some t =>
      dsimp only
      cases hv : kn.at t with
      | some v => rw [kn_at hk hv]; exact fun k r hr => ⟨v == b, kn, rfl, hk, hr⟩
      | none =>
        dsimp only
        cases he : s.env t with
        | t x =>
          cases x with
          | bool c =>
            refine fun k r hr => ⟨c == b, (t, c) :: kn, rfl, fun p hp => ?_, hr⟩
            rcases List.mem_cons.1 hp with rfl | hp
            · exact he
            · exact hk p hp
          | _ => exact fun k r hr => by cases hr
        | tup vs =>
          cases vs with
          | nil => exact fun k r hr => ⟨false, kn, rfl, hk, hr⟩
          | cons x y => exact fun k r hr => by cases hr
        | _ => exact fun k r hr => by cases hr
theorem op1_sim {kn : Kn} {o : Oper} {s : S} {y : Bool} (hk : kn.ok s.env) (hw : wanted1 ops o s = some y) : Sim E (op1M pr nt frz nest o y kn s) (op1K pr E nt frz nest ops o s some) := by
  unfold op1M op1K
  unfold wanted1 at hw
  cases hg : o.guard with
  | none =>
    rw [hg] at hw
    obtain rfl := Option.some.inj hw
    dsimp only
    rw [opFK_bind]
    exact (opF_sim hk).bind fun p _ => fin_sim
  | some g =>
    obtain ⟨j, b⟩ := g
    rw [hg] at hw
    dsimp only at hw ⊢
    rw [hw, Option.bind_some]
    cases y with
    | true => exact (opF_sim hk).bind fun p _ => fin_sim
    | false => exact fin_sim (p := (.tup [], s.mem))
theorem drop_ok {kn : Kn} {o : Oper} {s s' : S} (hk : kn.ok s.env) (h : op1K pr E nt frz nest ops o s some = some s') : (kn.drop o.dst).ok s'.env := by
  have key : ∀ v M, fin nt o s v M some = some s' → (kn.drop o.dst).ok s'.env := fun v M hf => by
    unfold fin at hf
    unfold Kn.drop
    cases hd : o.dst with
    | none => rw [hd] at hf; obtain rfl := Option.some.inj hf; exact hk
    | some d =>
      rw [hd] at hf
      dsimp only at hf ⊢
      split at hf
      · obtain rfl := Option.some.inj hf
        intro p hp
        rw [List.mem_filter] at hp
        have hne : p.1 ≠ d := by simpa using hp.2
        show upd s.env d v p.1 = _
        rw [upd_ne _ _ hne]
        exact hk p hp.1
      · cases hf
  unfold op1K at h
  split at h
  · rw [opFK_bind] at h
    obtain ⟨p, _, h⟩ := Option.bind_eq_some_iff.1 h
    exact key _ _ h
  · obtain ⟨y, _, h⟩ := Option.bind_eq_some_iff.1 h
    obtain ⟨p, _, h⟩ := Option.bind_eq_some_iff.1 h
    exact key _ _ h
theorem ops_sim : ∀ (l : List Nat) (kn : Kn) (s : S), kn.ok s.env → Sim E (opsM pr nt frz nest ops l kn s) (opsK pr E nt frz nest ops l s some)
  | [], kn, s, _ => .pure rfl
  | i :: r, kn, s, hk => by
    simp only [opsM, opsK]
    cases ops[i]? with
    | none => exact .fail
    | some o =>
      dsimp only
      rw [op1K_bind]
      exact (wanted1_sim hk).sub fun y kn' hy hk' => (op1_sim hk' hy).bind fun s' hs => ops_sim r _ s' (drop_ok hk' hs)
theorem opsD_sim {bm : Array Nat} : ∀ (l : List Nat) (log : List (Nat × Lg)) (kn : Kn) (s : S), kn.ok s.env → Sim E (opsDM pr nt frz nest ops bm l log kn s) (opsD pr E nt frz nest ops bm l log s some)
  | [], log, kn, s, _ => .pure rfl
  | i :: r, log, kn, s, hk => by
    simp only [opsDM, opsD]
    cases ops[i]? with
    | none => exact .fail
    | some o =>
      dsimp only
      refine (wanted1_sim hk).sub fun y kn' hy hk' => ?_
      rw [hy, Option.bind_some]
      refine Sim.opt.bind fun t _ => ?_
      rw [op1K_bind]
      refine (op1_sim hk' hy).bind fun s' hs => .must fun hc => ?_
      rw [hc]
      exact opsD_sim r _ _ s' (drop_ok hk' hs)
theorem loop_sim {l : LoopQ} {s : S} : Sim E (loopM l s) (loopE E l s) := Sim.opt.bind fun s1 _ => Sim.opt.bind fun s2 _ => .ask
theorem exec_sim {f : FuncId} : ∀ (x : Ann) (c : Code) (s : S), Sim E (execM pr f nt frz nest x c s) (exec pr E f nt frz nest x c s some)
  | .cut live x, c, s => by simp only [execM, exec, seqP_eq]; exact exec_sim x c _
  | .seq x y, c, s => by
    cases c <;> simp only [execM, exec] <;> first | exact .fail | skip
    rename_i a b
    rw [exec_bind pr E f nt frz nest x a s Out]
    refine (exec_sim x a s).bind fun o _ => ?_
    cases o <;> first | exact .pure rfl | exact exec_sim y b _
  | .cond x y, c, s => by
    cases c <;> simp only [execM, exec] <;> first | exact .fail | skip
    rename_i c a b
    refine Sim.opt.bind fun v _ => ?_
    cases v with
    | t v =>
      cases v with
      | bool t =>
        refine .br ?_
        cases t with
        | true => exact exec_sim x a s
        | false => exact exec_sim y b s
      | _ => exact .fail
    | _ => exact .fail
  | .block x, c, s => by
    cases c <;> simp only [execM, exec] <;> first | exact .fail | skip
    rename_i id c
    rw [exec_bind pr E f nt frz nest x c s Out]
    refine (exec_sim x c s).bind fun o _ => ?_
    cases o with
    | exit id' s' =>
      dsimp only
      by_cases h : id' = id
      · rw [if_pos h, if_pos h]; exact .pure rfl
      · rw [if_neg h, if_neg h]; exact .pure rfl
    | _ => exact .pure rfl
  | .loop live after rets thaw x, c, s => by
    cases c <;> simp only [execM, exec] <;> first | exact .fail | skip
    rename_i c
    have : ((loopE E ⟨f, live, after, rets, thaw, x, c⟩ s).bind some) = loopE E ⟨f, live, after, rets, thaw, x, c⟩ s := by cases loopE E ⟨f, live, after, rets, thaw, x, c⟩ s <;> rfl
    rw [this]
    exact loop_sim
  | .n, c, s => by
    cases c with
    | region id ops draw =>
      cases draw with
      | false => simp only [execM, exec]; rw [opsK_bind]; exact (ops_sim _ _ _ (fun p hp => by cases hp)).bind fun s' _ => .pure rfl
      | true =>
        simp only [execM, exec]
        cases drawOk ops with
        | false => exact .fail
        | true => simp only [cond_true]; rw [opsD_bind]; exact (opsD_sim _ _ _ _ (fun p hp => by cases hp)).bind fun s' _ => .pure rfl
    | _ => first | exact .fail | (simp only [execM, exec]; exact .pure rfl)
theorem res_sim {P : Program} {M : Mem} {env : Nat → V} : ∀ rs : List ResultVar, Sim E (resM P M env rs) (resV P M env rs)
  | [] => .pure rfl
  | .tmp t :: r => (res_sim r).map
  | .cell a t :: r => Sim.opt.bind fun ag _ => Sim.opt.bind fun n _ => ld_sim.bind fun v _ => (res_sim r).map
theorem ret_sim {pol : Pol} {fn : Func} {s : S} : Sim E (retM pr pol fn s) (retK pr pol fn s) := by
  unfold retM retK
  refine (res_sim _).bind fun vs _ => ?_
  have key : Sim E (bif pol.own then pureM (softR pol.soft (one vs), s.mem) else mvVM s.mem (softR pol.soft (one vs))) (bif pol.own then some (softR pol.soft (one vs), s.mem) else mvV s.mem (softR pol.soft (one vs))) := by
    cases pol.own with
    | true => exact .pure rfl
    | false => exact mvV_sim _
  refine key.bind fun p _ => Sim.opt.bind fun q _ => ?_
  obtain ⟨vs, H⟩ := q
  dsimp only
  match vs with
  | [] => exact .fail
  | [v] => exact .pure rfl
  | _ :: _ :: _ => exact .fail
theorem step_sim : ∀ q : Q, Sim E (stepM pr q) (step pr E q)
  | .call f args H => by
    simp only [stepM, step]
    cases !callable pr.P f with
    | true => exact .fail
    | false =>
      simp only [cond_false]
      cases pr.prim f with
      | some p => exact Sim.opt.map
      | none =>
        dsimp only
        cases pr.P.funcs[f]? with
        | none => exact .fail
        | some fn =>
          refine Sim.opt.bind fun c _ => ?_
          by_cases h : args.length ≤ fn.ntmps
          · rw [if_pos h, if_pos h, exec_bind]
            refine (exec_sim _ _ _).bind fun o _ => ?_
            cases o <;> first | exact ret_sim | exact .fail
          · rw [if_neg h, if_neg h]; exact .fail
  | .loop l s => by
    simp only [stepM, step]
    rw [exec_bind]
    refine (exec_sim _ _ _).bind fun o _ => ?_
    cases o with
    | next s' => exact loop_sim
    | exit id s' => exact Sim.opt.map
    | ret s' => exact Sim.opt.map
    | val _ _ => exact .fail
theorem tree_sim {q : Q} {o : Out} (h : interp E (tree pr q) = some o) : step pr E q = some o := by
  obtain ⟨v, h1, h2⟩ := step_sim q .ret o h
  rw [h1]; exact h2
end
/-! Traces. -/
inductive Tr where
  | b (b v : Bool)
  | m (b : Bool)
  | n (t : Ty) (x y : t.ty)
  | g (t : Ty) (x : Option t.ty) (y : t.ty)
  | a (q : Q) (o : Out)
def Tr.says (E : Q → Option Out) : Tr → Prop
  | .b c v => c = v
  | .m c => c = true
  | .n _ x y => x = y
  | .g _ x y => x = some y
  | .a q o => E q = some o
def chk : Fm → List Tr → Out → Prop
  | .ret o, [], r => o = r
  | .br b k, .b b' v :: l, r => b = b' ∧ chk (k v) l r
  | .must b k, .m b' :: l, r => b = b' ∧ chk k l r
  | .nrm t x k, .n t' x' y :: l, r => if h : t' = t then x = h ▸ x' ∧ chk (k (h ▸ y)) l r else False
  | .get t x k, .g t' x' y :: l, r => if h : t' = t then x = h ▸ x' ∧ chk (k (h ▸ y)) l r else False
  | .ask q k, .a q' o :: l, r => q = q' ∧ chk (k o) l r
  | _, _, _ => False
def good : List Tr → Out → Prop
  | [], r => r = r
  | .b b v :: l, r => b = b ∧ good l r
  | .m b :: l, r => b = b ∧ good l r
  | .n _ x y :: l, r => x = x ∧ good l r
  | .g _ x y :: l, r => x = x ∧ good l r
  | .a q o :: l, r => q = q ∧ good l r
theorem good_ok : ∀ (l : List Tr) (r : Out), good l r
  | [], r => rfl
  | .b b v :: l, r => ⟨rfl, good_ok l r⟩
  | .m b :: l, r => ⟨rfl, good_ok l r⟩
  | .n _ x y :: l, r => ⟨rfl, good_ok l r⟩
  | .g _ x y :: l, r => ⟨rfl, good_ok l r⟩
  | .a q o :: l, r => ⟨rfl, good_ok l r⟩
theorem chk_sound : ∀ (F : Fm) (l : List Tr) (r : Out), chk F l r → (∀ x ∈ l, x.says E) → interp E F = some r := by
  intro F
  induction F with
  | fail => intro l r h _; cases l <;> exact h.elim
  | ret o => intro l r h _; cases l with | nil => exact congrArg some h | cons x l => cases x <;> exact h.elim
  | ask q k ih =>
    intro l r h hs
    cases l with
    | nil => exact h.elim
    | cons x l =>
      cases x with
      | a q' o =>
        obtain ⟨rfl, h⟩ := h
        have : E q = some o := hs (.a q o) (by simp)
        simp only [interp, this, Option.bind_some]
        exact ih o l r h fun x hx => hs x (by simp [hx])
      | _ => exact h.elim
  | br b k ih =>
    intro l r h hs
    cases l with
    | nil => exact h.elim
    | cons x l =>
      cases x with
      | b b' v =>
        obtain ⟨rfl, h⟩ := h
        have : b = v := hs (.b b v) (by simp)
        simp only [interp]
        rw [this]
        exact ih v l r h fun x hx => hs x (by simp [hx])
      | _ => exact h.elim
  | must b k ih =>
    intro l r h hs
    cases l with
    | nil => exact h.elim
    | cons x l =>
      cases x with
      | m b' =>
        obtain ⟨rfl, h⟩ := h
        have : b = true := hs (.m b) (by simp)
        simp only [interp, this, cond_true]
        exact ih l r h fun x hx => hs x (by simp [hx])
      | _ => exact h.elim
  | nrm t x k ih =>
    intro l r h hs
    cases l with
    | nil => exact h.elim
    | cons y l =>
      cases y with
      | n t' x' y =>
        simp only [chk] at h
        split at h
        · rename_i ht
          subst ht
          obtain ⟨rfl, h⟩ := h
          have : x = y := hs (.n _ x y) (by simp)
          simp only [interp]
          rw [this]
          exact ih y l r h fun x hx => hs x (by simp [hx])
        · exact h.elim
      | _ => exact h.elim
  | get t x k ih =>
    intro l r h hs
    cases l with
    | nil => exact h.elim
    | cons y l =>
      cases y with
      | g t' x' y =>
        simp only [chk] at h
        split at h
        · rename_i ht
          subst ht
          obtain ⟨rfl, h⟩ := h
          have : x = some y := hs (.g _ x y) (by simp)
          simp only [interp, this, Option.bind_some]
          exact ih y l r h fun x hx => hs x (by simp [hx])
        · exact h.elim
      | _ => exact h.elim
/-! What a query comes to, with fuel enough. -/
def Ev (pr : Pr) (q : Q) (o : Out) : Prop := ∃ n0, ∀ n, n0 ≤ n → evF pr n q = some o
def Tr.ok (pr : Pr) : Tr → Prop
  | .b c v => c = v
  | .m c => c = true
  | .n _ x y => x = y
  | .g _ x y => x = some y
  | .a q o => Ev pr q o
def oks (pr : Pr) : List Tr → Prop
  | [] => True
  | x :: l => x.ok pr ∧ oks pr l
theorem oks_says {pr : Pr} : ∀ {l : List Tr}, oks pr l → ∃ n0, ∀ n, n0 ≤ n → ∀ x ∈ l, x.says (evF pr n)
  | [], _ => ⟨0, fun n _ x hx => by cases hx⟩
  | x :: l, h => by
    obtain ⟨n1, h1⟩ := oks_says h.2
    have h0 := h.1
    have : ∃ n0, ∀ n, n0 ≤ n → x.says (evF pr n) := by
      cases x with
      | a q o => exact h0
      | b c v => exact ⟨0, fun n _ => h0⟩
      | m c => exact ⟨0, fun n _ => h0⟩
      | n t x y => exact ⟨0, fun n _ => h0⟩
      | g t x y => exact ⟨0, fun n _ => h0⟩
    obtain ⟨n2, h2⟩ := this
    refine ⟨max n1 n2, fun n hn y hy => ?_⟩
    rcases List.mem_cons.1 hy with rfl | hy
    · exact h2 n (by omega)
    · exact h1 n (by omega) y hy
/-- One step of a query, told by a trace. -/
theorem Ev.tr {pr : Pr} {q : Q} {o : Out} (l : List Tr) (hc : good l o = chk (tree pr q) l o) (h : oks pr l) : Ev pr q o := by
  obtain ⟨n0, h0⟩ := oks_says h
  refine ⟨n0 + 1, fun n hn => ?_⟩
  obtain ⟨m, rfl⟩ : ∃ m, n = m + 1 := ⟨n - 1, by omega⟩
  exact tree_sim (chk_sound _ l o (hc ▸ good_ok l o) (h0 m (by omega)))
/-- A trace with its proofs. -/
inductive Tp (pr : Pr) where
  | b {c v : Bool} (h : c = v)
  | m {c : Bool} (h : c = true)
  | i {x y : Int} (h : x = y)
  | c {x y : Nat} (h : x = y)
  | n (t : Ty) {x y : t.ty} (h : x = y)
  | e {x : Option (List T)} {y : List T} (h : x = some y)
  | g (t : Ty) {x : Option t.ty} {y : t.ty} (h : x = some y)
  | a {q : Q} {o : Out} (h : Ev pr q o)
def Tp.tr {pr : Pr} : Tp pr → Tr
  | @Tp.b _ z v _ => .b z v
  | @Tp.m _ z _ => .m z
  | @Tp.i _ x y _ => .n .int x y
  | @Tp.c _ x y _ => .n .nat x y
  | @Tp.n _ t x y _ => .n t x y
  | @Tp.e _ x y _ => .g .row x y
  | @Tp.g _ t x y _ => .g t x y
  | @Tp.a _ q o _ => .a q o
def trs {pr : Pr} : List (Tp pr) → List Tr
  | [] => []
  | x :: l => x.tr :: trs l
theorem trs_ok {pr : Pr} : ∀ l : List (Tp pr), oks pr (trs l)
  | [] => trivial
  | x :: l => ⟨by cases x <;> (rename_i h; exact h), trs_ok l⟩
theorem Ev.tp {pr : Pr} {q : Q} {o : Out} (l : List (Tp pr)) (hc : good (trs l) o = chk (tree pr q) (trs l) o) : Ev pr q o := Ev.tr _ hc (trs_ok l)
end Go.Ev

/- The evaluator, twenty-sixth text: what an argument reads az. -/
namespace Go.Ev
set_option linter.unusedVariables false
set_option linter.unusedSimpArgs false
set_option linter.unusedVariables false
set_option linter.unusedSimpArgs false
/-- Whatever reads az a datum of type t is the cells of some y. -/
def Opens {α : Type} (P : Program) (t : TypeId) (ce : α → List T) (ok : α → Prop) : Prop :=
  ∀ (H : Type) (enc : TypeId × Value → H) (W : World) (fuel : Nat) (cs : List Value) (x : DataW H × List MemPlace),
    DataW.trod enc P W 0 (fun _ => true) true fuel t cs = some x → ∃ y, ok y ∧ cs.length = (ce y).length ∧ ∀ (i : Nat) (u : T) (c : Value), (ce y)[i]? = some u → cs[i]? = some c → RepT W (fun b => b < W.heap.size) u c
theorem one_cell {W : World} {F : Nat → Prop} {u : T} {c : Value} (h : RepT W F u c) : ∀ (i : Nat) (u' : T) (c' : Value), [u][i]? = some u' → [c][i]? = some c' → RepT W F u' c' := by
  intro i u' c' h1 h2
  cases i with
  | zero => obtain rfl : u = u' := by simpa using h1
            obtain rfl : c = c' := by simpa using h2
            exact h
  | succ i => simp at h1
theorem opens_int {P : Program} {t : TypeId} {k : IntKind} (ht : P.underlying t = some (.int k)) : Opens P t (fun n => [T.int k n]) (fun n => (Lit.int k n).wf = true) := by
  intro H enc W fuel cs x h
  obtain ⟨n, rfl, _, hw⟩ := DataW.trod_int ht h
  exact ⟨n, hw, rfl, one_cell (.int k n)⟩
theorem opens_bool {P : Program} {t : TypeId} (ht : P.underlying t = some .bool) : Opens P t (fun b => [T.bool b]) (fun _ => True) := by
  intro H enc W fuel cs x h
  obtain ⟨b, rfl, _⟩ := DataW.trod_bool ht h
  exact ⟨b, trivial, rfl, one_cell (.bool b)⟩
theorem opens_string {P : Program} {t : TypeId} (ht : P.underlying t = some .string) : Opens P t (fun s => [T.str s]) (fun s => s.size ≤ 9223372036854775807) := by
  intro H enc W fuel cs x h
  obtain ⟨s, rfl, _, hs⟩ := DataW.trod_string ht h
  exact ⟨s, hs, rfl, one_cell (.str s)⟩
theorem choose_list {α : Type} (R : Nat → α → Prop) : ∀ n : Nat, (∀ i, i < n → ∃ y, R i y) → ∃ l : List α, l.length = n ∧ ∀ i y, l[i]? = some y → R i y
  | 0, _ => ⟨[], rfl, fun i y h => by simp at h⟩
  | n + 1, h => by
    obtain ⟨l, hl, hr⟩ := choose_list R n (fun i hi => h i (by omega))
    obtain ⟨y, hy⟩ := h n (by omega)
    refine ⟨l ++ [y], by simp [hl], fun i z hz => ?_⟩
    by_cases hi : i < l.length
    · rw [List.getElem?_append_left hi] at hz
      exact hr i z hz
    · have hj : i = l.length := by
        have := (List.getElem?_eq_some_iff.1 hz).1
        rw [List.length_append, List.length_singleton] at this
        omega
      subst hj
      have e : y = z := by simpa using hz
      subst e
      rw [hl]
      exact hy
theorem cell_some {W : World} {a : Addr} {v : Value} (h : W.cell? a = some v) : a.spot = none ∧ a.block < W.heap.size := by
  unfold World.cell? at h
  split at h
  · rename_i c _ _ hb
    split at h
    · cases h
    · rename_i hs
      exact ⟨by simpa using hs, (Array.getElem?_eq_some_iff.1 hb).1⟩
  · cases h
theorem opens_slice {α : Type} {P : Program} {t e : TypeId} {sz : Nat} {ce : α → List T} {ok : α → Prop} (ht : P.underlying t = some (.slice e)) (hc : P.cellsOf e = sz) (h0 : 0 < sz) (hsz : ∀ y, (ce y).length = sz) (hd : Opens P e ce ok) :
    Opens P t (fun l : List α => [T.seq sz (l.map ce)]) (fun l => l.length ≤ 9223372036854775807 ∧ ∀ y ∈ l, ok y) := by
  intro H enc W fuel cs x h
  rcases DataW.trod_slice ht h with ⟨rfl, _⟩ | ⟨a, len, cap, elems, rest, n, _, rfl, _, _, hl, hm, hlen, hel, _, _⟩
  · exact ⟨[], ⟨by simp, fun y hy => by simp at hy⟩, rfl, one_cell (.seq0 ..)⟩
  · have each : ∀ i, i < len → ∃ y, ok y ∧ ∃ c : List Value, c.length = sz ∧ (∀ (j : Nat) (u : T) (v : Value), (ce y)[j]? = some u → c[j]? = some v → RepT W (fun b => b < W.heap.size) u v) ∧ ∀ (j : Nat) (u : Value), c[j]? = some u → W.cell? (a.add (i * sz + j)) = some u := by
      intro i hi
      have h1 := hel i hi
      have h2 : i < elems.length := by omega
      rw [List.getElem?_eq_getElem h2, Option.bind_eq_some_iff] at h1
      obtain ⟨c, hcc, hy⟩ := h1
      obtain ⟨y, ho, hk, hr⟩ := hd H enc W n c _ hy
      obtain ⟨g1, g2, g3⟩ := World.cells?_some hcc
      refine ⟨y, ho, c, by rw [g2, hc], hr, fun j u hj => ?_⟩
      have hj' := (List.getElem?_eq_some_iff.1 hj).1
      have := g3 j (by rw [← g2]; exact hj')
      rw [← hj, ← this, hc, Addr.add_add]
    obtain ⟨l, hll, hlr⟩ := choose_list _ len each
    subst hll
    refine ⟨l, ⟨Nat.le_trans hl hm, fun y hy => ?_⟩, rfl, one_cell ?_⟩
    · obtain ⟨i, hi⟩ := List.getElem?_of_mem hy
      exact (hlr i y hi).1
    · match l, hlr with
      | [], _ => exact .seq0 ..
      | y0 :: l', hlr =>
        obtain ⟨_, c0, k1, _, k3⟩ := hlr 0 y0 rfl
        have hv : ∃ v, c0[0]? = some v := ⟨c0[0]'(by omega), List.getElem?_eq_getElem (by omega)⟩
        obtain ⟨v0, hv0⟩ := hv
        obtain ⟨s1, s2⟩ := cell_some (k3 0 v0 hv0)
        obtain ⟨ab, ao, az⟩ := a
        obtain rfl : az = none := by simpa [Addr.add] using s1
        have addk : ∀ k, Addr.add ⟨ab, ao, none⟩ k = ⟨ab, ao + k, none⟩ := fun k => by
          unfold Addr.add
          by_cases hk : k = 0
          · rw [if_pos hk, hk]; rfl
          · rw [if_neg hk]
        rw [addk] at s2
        have hget : ∀ (i j : Nat) (e : List T) (u : T), ((y0 :: l').map ce)[i]? = some e → e[j]? = some u → ∃ v, W.cell? ⟨ab, ao + i * sz + j, none⟩ = some v ∧ RepT W (fun b => b < W.heap.size) u v := fun i j e u hi hj => by
          rw [List.getElem?_map] at hi
          obtain ⟨y, hy, rfl⟩ := Option.map_eq_some_iff.1 hi
          obtain ⟨_, c, q1, q2, q3⟩ := hlr i y hy
          have hjl := (List.getElem?_eq_some_iff.1 hj).1
          rw [hsz] at hjl
          have hv : c[j]? = some (c[j]'(by omega)) := List.getElem?_eq_getElem (by omega)
          refine ⟨_, ?_, q2 j u _ hj hv⟩
          have := q3 j _ hv
          rw [← this, addk, Nat.add_assoc]
        have := RepT.seq (w := W) (F := fun b => b < W.heap.size) (sz := sz) (es := (y0 :: l').map ce) (b := ab) (o := ao) (cap := cap) (vals := fun i j => (W.cell? ⟨ab, ao + i * sz + j, none⟩).getD Go.undef) s2 (by simpa using hl)
          (fun i e hi => by rw [List.getElem?_map] at hi; obtain ⟨y, _, rfl⟩ := Option.map_eq_some_iff.1 hi; exact hsz y)
          (fun i j e u hi hj => by obtain ⟨v, hv, _⟩ := hget i j e u hi hj; rw [hv]; rfl)
          (fun i j e u hi hj => by obtain ⟨v, hv, hr⟩ := hget i j e u hi hj; rw [hv]; exact hr)
        simpa using this
end Go.Ev

/- The evaluator, twenty-seventh text: a law that comes to true. -/
namespace Go.Ev
set_option linter.unusedVariables false
set_option linter.unusedSimpArgs false
set_option linter.unusedVariables false
set_option linter.unusedSimpArgs false
theorem wf_none (W : World) : Wf W (fun b => b < W.heap.size) (fun _ _ => none) (ofL []) :=
  ⟨fun id o h => by simp [ofL] at h, fun id p id' p' b o o' h => by cases p <;> simp [Live, ofL] at h, fun id p b o h => by cases p <;> simp [Live, ofL] at h, fun b h => h⟩
/-- A law that comes to true, run. -/
theorem law_calls {pr : Pr} (hm : pr.P.follows .mixedOrders = true) (hp : PrimOk pr) {f : FuncId} {args : List V} {cs : Array Value} {W : World} (h : Ev pr (.call f args []) (.val (.t (.bool true)) []))
    (hr : RepL W (fun b => b < W.heap.size) (fun _ _ => none) (ofL []) args cs) : Calls pr.P f cs W fun e W' => e = .returned (.bool true) ∧ RowKit.Below W.heap.size W W' := by
  obtain ⟨n0, hn⟩ := h
  obtain ⟨_, hc⟩ := (all_ok hm hp n0).1 f args [] _ _ (hn n0 (Nat.le_refl _))
  refine (hc W _ _ cs (wf_none W) hr).mono fun e w' ⟨c, F', σ', he, hs, hv⟩ => ⟨?_, hs.fr.os, hs.fr.tape, hs.fr.output, hs.fr.size, fun k hk => hs.fr.block k hk fun ⟨id, p, o, hl, _⟩ => by cases p <;> simp [Live, ofL] at hl⟩
  rw [he]
  cases hv with
  | t hv => cases hv; rfl
theorem repL_cons {w : World} {F : Nat → Prop} {σ : Sg} {M : Mem} {args : List V} {cs : Array Value} (hl : args.length = cs.size) (h : ∀ (i : Nat) (v : V), args[i]? = some v → RepV w F σ M v (cs.getD i Go.undef)) : RepL w F σ M args cs := ⟨hl, h⟩
/-- A value of one cell. -/
theorem rep_one {w : World} {F : Nat → Prop} {σ : Sg} {M : Mem} {u : T} {c : Value} (h : ∀ (i : Nat) (x : T) (v : Value), [u][i]? = some x → [c][i]? = some v → RepT w F x v) : RepV w F σ M (.t u) c := .t (h 0 u c rfl rfl)
theorem rep_agg {w : World} {F : Nat → Prop} {σ : Sg} {M : Mem} {us : List T} {cs : Array Value} (hl : us.length = cs.size) (h : ∀ (i : Nat) (x : T) (v : Value), us[i]? = some x → cs.toList[i]? = some v → RepT w F x v) : RepV w F σ M (.agg (us.map V.t)) (.agg cs) := by
  refine .agg (by simpa using hl) fun i v hi => ?_
  rw [List.getElem?_map] at hi
  obtain ⟨u, hu, rfl⟩ := Option.map_eq_some_iff.1 hi
  have hlt := (List.getElem?_eq_some_iff.1 hu).1
  have hc : cs.toList[i]? = some (cs.getD i Go.undef) := by
    rw [Array.getElem?_toList, Array.getD_eq_getD_getElem?, Array.getElem?_eq_getElem (by omega)]; rfl
  exact .t (h i u _ hu hc)
end Go.Ev

/- The evaluator, twenty-eighth text: the loops of a function by number; words for values. -/
namespace Go.Ev
set_option linter.unusedVariables false
set_option linter.unusedSimpArgs false
def loopsOf (f : FuncId) : Ann → Code → List LoopQ
  | .cut _ a, c => loopsOf f a c
  | .seq x y, .seq a b => loopsOf f x a ++ loopsOf f y b
  | .cond x y, .cond _ a b => loopsOf f x a ++ loopsOf f y b
  | .block x, .block _ c => loopsOf f x c
  | .loop live after rets thaw x, .loop c => ⟨f, live, after, rets, thaw, x, c⟩ :: loopsOf f x c
  | _, _ => []
/-- Loop i of function f, counted az they stand. -/
def lq (pr : Pr) (f : FuncId) (i : Nat) : LoopQ :=
  match (pr.P.funcs[f]?).bind (·.body) with
  | some c => ((loopsOf f (pr.ann f) c)[i]?).getD ⟨0, [], [], [], [], .n, .skip⟩
  | none => ⟨0, [], [], [], [], .n, .skip⟩
/-- A state at a loop: slots, objects, how many came in. -/
def at_ (l : List (Nat × V)) (H : List Ob) (k0 : Nat) : S := ⟨ofE l, ofL H, k0⟩
def i64 (n : Int) : V := .t (.int .i64 n)
def bl (b : Bool) : V := .t (.bool b)
def sl (sz : Nat) (es : List (List T)) : V := .t (.seq sz es)
theorem wrap_i64 {a : Int} (h1 : -9223372036854775808 ≤ a) (h2 : a ≤ 9223372036854775807) : IntKind.i64.wrap a = a := by
  have hb : IntKind.i64.bits = 64 := rfl
  have hs : IntKind.i64.signed = true := rfl
  unfold IntKind.wrap
  rw [hb, hs]
  simp only [Bool.true_and, decide_eq_true_eq]
  have e1 : (2 : Int) ^ 64 = 18446744073709551616 := by decide
  have e2 : (2 : Int) ^ (64 - 1) = 9223372036854775808 := by decide
  rw [e1, e2]
  split <;> omega
end Go.Ev
namespace Go.Ev
/-- A length, told az it is. -/
def Tp.l {pr : Pr} (n : Nat) : Tp pr := .i (rfl : (n : Int) = n)
/-- The length of a told list. -/
def Tp.ll {pr : Pr} {α : Type} (ce : α → List T) (l : List α) : Tp pr := .i (show ((l.map ce).length : Int) = l.length by rw [List.length_map])
/-- An element of a list that is told by parts. -/
theorem lkp_at {α : Type} (ce : α → List T) {l done rest : List α} {x : α} (h : l = done ++ x :: rest) : lkp (l.map ce) (done.length : Int) = some (ce x) := by
  subst h
  unfold lkp
  rw [if_pos (by omega)]
  simp
theorem lkp_get {α : Type} (ce : α → List T) {l : List α} {i : Int} {x : α} (h0 : 0 ≤ i) (h : l[i.toNat]? = some x) : lkp (l.map ce) i = some (ce x) := by
  unfold lkp
  rw [if_pos h0]
  simp [h]
/-- A row that is filled from the left. -/
def part {α : Type} (g : α → List C) (z : List C) (l done : List α) : List (List C) := done.map g ++ List.replicate (l.length - done.length) z
theorem part_len {α : Type} (g : α → List C) (z : List C) {l done rest : List α} (h : l = done ++ rest) : (part g z l done).length = l.length := by
  subst h; simp [part]
theorem part_nil {α : Type} (g : α → List C) (z : List C) (l : List α) : part g z l [] = List.replicate l.length z := by simp [part]
theorem part_all {α : Type} (g : α → List C) (z : List C) {l done : List α} (h : l = done ++ []) : part g z l done = l.map g := by subst h; simp [part]
theorem part_get {α : Type} (g : α → List C) (z : List C) {l done rest : List α} {x : α} (h : l = done ++ x :: rest) : (part g z l done)[done.length]? = some z := by
  subst h
  unfold part
  rw [List.getElem?_append_right (by simp)]
  simp
theorem part_set {α : Type} (g : α → List C) (z : List C) {l done rest : List α} {x : α} (h : l = done ++ x :: rest) : (part g z l done).set done.length (g x) = part g z l (done ++ [x]) := by
  subst h
  unfold part
  have e1 : (done ++ x :: rest).length - done.length = rest.length + 1 := by simp
  have e2 : (done ++ x :: rest).length - (done ++ [x]).length = rest.length := by simp; omega
  rw [e1, e2, List.replicate_succ, List.set_append_right _ _ (by simp)]
  simp
/-- Frozen, a row of data is itself. -/
theorem fz_all {α : Type} (ce : α → List T) (l : List α) : (((l.map fun x => (ce x).map C.t).drop 0).take l.length).map (·.map C.fz) = l.map ce := by
  rw [List.drop_zero, List.take_of_length_le (by simp), List.map_map]
  apply List.map_congr_left
  intro x _
  simp [C.fz, Function.comp_def]
theorem full_ok {α : Type} (g : α → List C) (l : List α) : decide ((l.map g).length = l.length ∧ 0 + l.length ≤ l.length) = true := decide_eq_true (by simp)
theorem ne_self (a : Int) : (a != a) = false := by simp
theorem str_self (s : ByteArray) : (!(s.toList == s.toList)) = false := by simp
end Go.Ev

/- The evaluator, twenty-ninth text: rules by which a question is told in a nicer form; an outcome that is told otherwise. -/
namespace Go.Ev
set_option linter.unusedVariables false
set_option linter.unusedSimpArgs false
set_option linter.unusedVariables false
set_option linter.unusedSimpArgs false
theorem Ev.tpe {pr : Pr} {q : Q} {o : Out} (l : List (Tp pr)) (o' : Out) (hc : good (trs l) o' = chk (tree pr q) (trs l) o') (e : o' = o) : Ev pr q o := e ▸ Ev.tp l hc
theorem Ev.castq {pr : Pr} {q q' : Q} {o : Out} (e : q = q') (h : Ev pr q o) : Ev pr q' o := e ▸ h
attribute [simp] i64 bl sl
theorem wrap_u8 {a : Int} (h1 : 0 ≤ a) (h2 : a ≤ 255) : IntKind.u8.wrap a = a := by
  have hb : IntKind.u8.bits = 8 := rfl
  have hs : IntKind.u8.signed = false := rfl
  unfold IntKind.wrap
  rw [hb, hs]
  have e1 : (2 : Int) ^ 8 = 256 := by decide
  simp only [Bool.false_and, e1]
  simp
  omega
theorem wrap_u64 {a : Int} (h1 : 0 ≤ a) (h2 : a ≤ 9223372036854775807) : IntKind.u64.wrap a = a := by
  have hb : IntKind.u64.bits = 64 := rfl
  have hs : IntKind.u64.signed = false := rfl
  unfold IntKind.wrap
  rw [hb, hs]
  have e1 : (2 : Int) ^ 64 = 18446744073709551616 := by decide
  simp only [Bool.false_and, e1]
  simp
  omega
/-- Cells of data. -/
def tc (l : List T) : List C := l.map C.t
@[simp] theorem tc_fz (l : List T) : (tc l).map C.fz = l := by simp [tc, C.fz, Function.comp_def]
@[simp] theorem tc_len (l : List T) : (tc l).length = l.length := by simp [tc]
@[simp] theorem map_t_fz (l : List T) : (l.map C.t).map C.fz = l := tc_fz l
@[simp] theorem map_tc_fz {α : Type} (ce : α → List T) (l : List α) : (l.map fun x => tc (ce x)).map (List.map C.fz) = l.map ce := by simp [Function.comp_def]
@[simp] theorem map_tc_fz1 (l : List (List T)) : (l.map tc).map (List.map C.fz) = l := by simp [Function.comp_def]
@[simp] theorem map_tc_fz2 (l : List (List T)) : (l.map (List.map C.t)).map (List.map C.fz) = l := by simp [Function.comp_def, C.fz]
@[simp] theorem lkp_app {α : Type} (az : List α) (y : α) (bs : List α) : lkp (az ++ y :: bs) (az.length : Int) = some y := by simp [lkp]
@[simp] theorem lkp_mapapp {α β : Type} (f : β → α) (az : List β) (y : α) (bs : List α) : lkp (az.map f ++ y :: bs) (az.length : Int) = some y := by
  have := lkp_app (az.map f) y bs
  simpa using this
@[simp] theorem lkp_zero {α : Type} (y : α) (l : List α) : lkp (y :: l) 0 = some y := by simp [lkp]
@[simp] theorem lkp_one {α : Type} (x y : α) (l : List α) : lkp (x :: y :: l) 1 = some y := by simp [lkp]
theorem lkp_some {α β : Type} (f : α → β) {l : List α} {i : Int} {x : α} (h0 : 0 ≤ i) (h : l[i.toNat]? = some x) : lkp (l.map f) i = some (f x) := by simp [lkp, h0, h]
@[simp] theorem set_mid {α : Type} (az : List α) (y z : α) (bs : List α) : (az ++ y :: bs).set az.length z = az ++ z :: bs := by simp
@[simp] theorem set_mapmid {α β : Type} (f : β → α) (az : List β) (y z : α) (bs : List α) : (az.map f ++ y :: bs).set az.length z = az.map f ++ z :: bs := by simp
@[simp high] theorem get_mid {α : Type} (az : List α) (y : α) (bs : List α) : (az ++ y :: bs)[az.length]? = some y := by simp
@[simp high] theorem get_mapmid {α β : Type} (f : β → α) (az : List β) (y : α) (bs : List α) : (az.map f ++ y :: bs)[az.length]? = some y := by simp
@[simp] theorem toNat_add1 (n : Nat) : ((n : Int) + 1).toNat = n + 1 := by omega
@[simp] theorem take_len_map {α β : Type} (f : α → β) (l : List α) : (l.map f).take l.length = l.map f := by rw [← List.length_map (f := f), List.take_length]
end Go.Ev

/- slices.Clone of whole numbers: known by a contract, which the machine itself proves for a slice that is known to be nil, for one that is known not to be nil, and for one that holds something. -/
namespace Go.Ev
set_option linter.unusedVariables false
set_option linter.unusedSimpArgs false
set_option linter.unusedVariables false
set_option linter.unusedSimpArgs false
def clonePrim : List V → List Ob → Option (V × List Ob)
  | [.t (.seq 1 es)], [] => if es.length ≤ 1048576 then some (.vec 0 es.length 1 0 es.length, [.vec true 1 (es.map (List.map C.t))]) else none
  | _, _ => none
theorem clone_ok {pr0 : Pr} (hm : pr0.P.follows .mixedOrders = true) (hp0 : PrimOk pr0) {f : FuncId} (h1 : Ev pr0 (.call f [.t (.sn true)] []) (.val (.t .nils) [])) (h2 : Ev pr0 (.call f [.t (.sn false)] []) (.val (.vec 0 0 1 0 0) [.vec true 1 []]))
    (h3 : ∀ (e : List T) (es : List (List T)), es.length + 1 ≤ 1048576 → Ev pr0 (.call f [.t (.seq 1 (e :: es))] []) (.val (.vec 0 (es.length + 1) 1 0 (es.length + 1)) [.vec true 1 ((e :: es).map (List.map C.t))]))
    (args : List V) (H : List Ob) (v : V) (H' : List Ob) (hc : clonePrim args H = some (v, H')) (w : World) (F : Nat → Prop) (σ : Sg) (cs : Array Value) (wf : Wf w F σ (ofL H)) (hr : RepL w F σ (ofL H) args cs) :
    Calls pr0.P f cs w fun e w' => ∃ c F' σ', e = .returned c ∧ Step w F σ (ofL H) w' F' σ' (ofL H') ∧ RepV w' F' σ' (ofL H') v c := by
  have run : ∀ {q : List V} {o : V} {Ho : List Ob}, Ev pr0 (.call f q []) (.val o Ho) → Wf w F σ (ofL []) → RepL w F σ (ofL []) q cs → Calls pr0.P f cs w fun e w' => ∃ c F' σ', e = .returned c ∧ Step w F σ (ofL []) w' F' σ' (ofL Ho) ∧ RepV w' F' σ' (ofL Ho) o c := fun h wf hr => by
    obtain ⟨n0, hn⟩ := h
    obtain ⟨_, hc⟩ := (all_ok hm hp0 n0).1 f _ [] _ _ (hn n0 (Nat.le_refl _))
    exact hc w F σ cs wf hr
  unfold clonePrim at hc
  split at hc
  · rename_i es
    split at hc
    · rename_i hlen
      obtain ⟨rfl, rfl⟩ := Prod.mk.inj (Option.some.inj hc)
      cases es with
      | cons e es => exact run (h3 e es (by simpa using hlen)) wf hr
      | nil =>
        have hsz : cs.size = 1 := hr.1.symm
        have hv := hr.2 0 _ rfl
        have hform : ∃ a cap, cs.getD 0 Go.undef = .slice a 0 cap := by
          generalize cs.getD 0 Go.undef = c at hv
          cases hv with
          | t hv =>
            cases hv with
            | seq0 sz a cap => exact ⟨_, _, rfl⟩
            | seq => exact ⟨_, _, rfl⟩
        obtain ⟨a, cap, hac⟩ := hform
        have hr2 : RepL w F σ (ofL []) [.t (.sn a.isNone)] cs := ⟨by simp [hsz], fun i x hi => by
          cases i with
          | zero => obtain rfl : V.t (.sn a.isNone) = x := by simpa using hi
                    rw [hac]; exact .t (.sn a cap)
          | succ i => simp at hi⟩
        cases ha : a.isNone with
        | false => rw [ha] at hr2; exact run h2 wf hr2
        | true =>
          rw [ha] at hr2
          refine (run h1 wf hr2).mono fun e w' ⟨c, F', σ', he, hs, hv⟩ => ?_
          obtain rfl := rep_nils hv
          have hM : upd (ofL []) 0 (some (Ob.vec true 1 [])) = ofL [Ob.vec true 1 []] := by
            funext i
            cases i with
            | zero => rfl
            | succ i => simp [upd, ofL]
          have st := step_new (w' := w') (nb := 0) (o := .vec true 1 []) (x := none) hs.wf rfl rfl rfl rfl (Nat.le_refl _) (fun _ _ => rfl) (fun b o hx => by cases hx) (fun q hq => by
            cases q with
            | none => rfl
            | some q => obtain ⟨i, j⟩ := q; obtain ⟨fl, sz', es2, e, s, r, h1, h2, _⟩ := hq; rw [upd_same] at h1; obtain ⟨_, _, rfl⟩ := Ob.vec.inj (Option.some.inj h1); simp at h2) (fun le => .vec (by omega) (by simp) (by simp) (by simp))
          rw [hM] at st
          refine ⟨_, F', _, he, hs.trans st, ?_⟩
          exact .vec (o := .vec true 1 []) rfl (by simp) (by simp) (by simp) fun m hm => ⟨by simp, fun _ => ⟨true, [], rfl, fun hp => by simp at hp⟩⟩
    · cases hc
  · cases hc
/-- A call that a contract tells. -/
theorem Ev.prim {pr : Pr} {f : FuncId} {args : List V} {H H' : List Ob} {v : V} {p : List V → List Ob → Option (V × List Ob)} (hc : callable pr.P f = true) (hp : pr.prim f = some p) (h : p args H = some (v, H')) : Ev pr (.call f args H) (.val v H') := by
  refine ⟨1, fun n hn => ?_⟩
  obtain ⟨k, rfl⟩ : ∃ k, n = k + 1 := ⟨n - 1, by omega⟩
  simp only [evF, step, hc, Bool.not_true, Bool.cond_false, hp, h, Option.map_some]
end Go.Ev

/- Plain words for what the program's functions compute: bytes, letters, strengths. -/
namespace Go.Ev
set_option linter.unusedVariables false
set_option linter.unusedSimpArgs false
set_option linter.unusedVariables false
set_option linter.unusedSimpArgs false
theorem bys_len (s : ByteArray) : s.toList.length = s.size := by simp only [ByteArray.toList_eq, ByteArray.size, Array.length_toList]
theorem lkpS_mid {s : ByteArray} {done rest : List UInt8} {b : UInt8} {i : Int} (h : s.toList = done ++ b :: rest) (hi : i = done.length) : lkpS s i = some b := by
  subst hi
  have hl : done.length < s.size := by rw [← bys_len, h]; simp
  have : s[done.length]? = some b := by
    rw [getElem?_pos s done.length hl]
    have : s[done.length] = (s.toList)[done.length]'(by rw [bys_len]; exact hl) := by
      simp [ByteArray.toList_eq, ByteArray.getElem_eq_getElem_data]
    rw [this]
    simp [h]
  simp [lkpS, this]
theorem bys_cut {s : ByteArray} {done rest : List UInt8} (h : s.toList = done ++ rest) : (s.size : Int) = done.length + rest.length := by
  have := congrArg List.length h
  rw [bys_len] at this
  simp at this
  omega
theorem size_zero (s : ByteArray) : s.toList = [] ↔ s.size = 0 := by
  have := bys_len s
  constructor
  · intro h; rw [h] at this; simpa using this.symm
  · intro h; exact List.length_eq_zero_iff.1 (by omega)
theorem bytes_ext {a b : ByteArray} (h : a.toList = b.toList) : a = b := by
  rw [ByteArray.toList_eq, ByteArray.toList_eq] at h
  cases a; cases b
  congr 1
  exact Array.toList_inj.1 h
def letter (b : UInt8) : Bool := decide (97 ≤ (b.toNat : Int)) && decide ((b.toNat : Int) ≤ 122)
theorem takeWhile_all (l : List UInt8) : (l.takeWhile letter).length = l.length ↔ l.all letter = true := by
  induction l with
  | nil => simp
  | cons b l ih => cases h : letter b <;> simp [List.takeWhile_cons, h, ih]
theorem takeWhile_size (s : ByteArray) : decide (((s.toList.takeWhile letter).length : Int) = (s.size : Int)) = s.toList.all letter := by
  have h := takeWhile_all s.toList
  rw [bys_len] at h
  cases hl : s.toList.all letter with
  | true => simp only [decide_eq_true_eq]; have := h.2 hl; omega
  | false => simp only [decide_eq_false_iff_not]; intro hh; have := h.1 (by omega); rw [hl] at this; cases this
def strength (l : List UInt8) : Int :=
  if l = [124, 124] then 1 else if l = [38, 38] then 2 else if l = [61, 61] ∨ l = [33, 61] then 3 else if l = [60] ∨ l = [60, 61] then 4
  else if l = [43] ∨ l = [45] then 5 else if l = [42] ∨ l = [47] ∨ l = [37] then 6 else if l = [60, 60] then 7 else 0
theorem strength_nonneg (l : List UInt8) : 0 ≤ strength l := by unfold strength; repeat' split <;> omega
def nameOk (s : ByteArray) : Bool := decide (1 ≤ s.size ∧ s.size ≤ 8) && s.toList.all letter
theorem nameOk_code (s : ByteArray) : nameOk s = (!(s.toList == []) && (decide ((s.size : Int) ≤ 8) && decide (((s.toList.takeWhile letter).length : Int) = (s.size : Int)))) := by
  rw [takeWhile_size]
  unfold nameOk
  have h0 := size_zero s
  by_cases h1 : s.size = 0
  · simp [h1, h0.2 h1]
  · have h2 : s.toList ≠ [] := fun h => h1 (h0.1 h)
    by_cases h3 : s.size ≤ 8
    · have h4 : (s.size : Int) ≤ 8 := by omega
      have h5 : 1 ≤ s.size := by omega
      simp [h2, h3, h4, h5]
    · have h4 : ¬ (s.size : Int) ≤ 8 := by omega
      simp [h3, h4]
theorem nameOk_true {s : ByteArray} (h : s.toList.all letter = true) : nameOk s = (decide ((s.size : Int) ≥ 1) && decide ((s.size : Int) ≤ 8)) := by
  unfold nameOk
  rw [h]
  have e1 : (1 ≤ s.size) ↔ ((s.size : Int) ≥ 1) := by omega
  have e2 : (s.size ≤ 8) ↔ ((s.size : Int) ≤ 8) := by omega
  simp [e1, e2]
theorem nameOk_false {s : ByteArray} (h : s.toList.all letter = false) : nameOk s = false := by unfold nameOk; rw [h]; simp
end Go.Ev

/- Expressions in plain words: parts, trees, how a tree is read. -/
namespace Go.Ev
set_option linter.unusedVariables false
set_option linter.unusedSimpArgs false
set_option linter.unusedVariables false
set_option linter.unusedSimpArgs false
abbrev e0 : ByteArray := ⟨#[]⟩
@[simp] theorem toList_nil (s : ByteArray) : s.toList = [] ↔ s = e0 := by
  constructor
  · intro h; exact bytes_ext (by rw [h]; simp [ByteArray.toList_eq])
  · intro h; rw [h]; simp [ByteArray.toList_eq]
def vs (l : List T) : V := .agg (l.map V.t)
attribute [simp] vs
structure Ex where
  kind : Int
  num : Int
  text : ByteArray
def Ex.ce (x : Ex) : List T := [.int .i64 x.kind, .int .i64 x.num, .str x.text]
def Ex.z : List C := [.t (.int .i64 0), .t (.int .i64 0), .t (.str e0)]
def exs (l : List Ex) : V := sl 3 (l.map Ex.ce)
attribute [simp] exs
structure Line where
  kind : Int
  name : Int
  expr : List Ex
def Line.ce (x : Line) : List T := [.int .i64 x.kind, .int .i64 x.name, .seq 3 (x.expr.map Ex.ce)]
def Line.z : List C := [.t (.int .i64 0), .t (.int .i64 0), .t .nils]
def lines (l : List Line) : V := sl 3 (l.map Line.ce)
inductive E where
  | num (n : Int)
  | name (s : ByteArray)
  | neg (a : E)
  | not (a : E)
  | two (s : ByteArray) (a b : E)
  deriving Inhabited
def E.kind : E → Int
  | .num _ => 1
  | .name _ => 2
  | .neg _ => 3
  | .not _ => 4
  | .two .. => 5
def E.nm : E → Int
  | .num n => n
  | _ => 0
def E.text : E → ByteArray
  | .name s => s
  | .two s _ _ => s
  | _ => e0
/-- The program's tree: its two parts. -/
def E.tab : E → T × T
  | .neg a | .not a => (.ptr [.int .i64 a.kind, .int .i64 a.nm, .str a.text, a.tab.1, a.tab.2] 0, .nilp)
  | .two _ a b => (.ptr [.int .i64 a.kind, .int .i64 a.nm, .str a.text, a.tab.1, a.tab.2] 0, .ptr [.int .i64 b.kind, .int .i64 b.nm, .str b.text, b.tab.1, b.tab.2] 0)
  | _ => (.nilp, .nilp)
def E.tp (e : E) : T := .ptr [.int .i64 e.kind, .int .i64 e.nm, .str e.text, e.tab.1, e.tab.2] 0
/-- The reference's tree: its parts. -/
def E.kids : E → List (List T)
  | .neg a | .not a => [[.int .i64 a.kind, .int .i64 a.nm, .str a.text, .seq 4 a.kids]]
  | .two _ a b => [[.int .i64 a.kind, .int .i64 a.nm, .str a.text, .seq 4 a.kids], [.int .i64 b.kind, .int .i64 b.nm, .str b.text, .seq 4 b.kids]]
  | _ => []
def E.ts (e : E) : List T := [.int .i64 e.kind, .int .i64 e.nm, .str e.text, .seq 4 e.kids]
@[simp] theorem E.kind_num (n : Int) : (E.num n).kind = 1 := rfl
@[simp] theorem E.kind_name (s : ByteArray) : (E.name s).kind = 2 := rfl
@[simp] theorem E.kind_neg (a : E) : (E.neg a).kind = 3 := rfl
@[simp] theorem E.kind_not (a : E) : (E.not a).kind = 4 := rfl
@[simp] theorem E.kind_two (s : ByteArray) (a b : E) : (E.two s a b).kind = 5 := rfl
@[simp] theorem E.nm_num (n : Int) : (E.num n).nm = n := rfl
@[simp] theorem E.nm_name (s : ByteArray) : (E.name s).nm = 0 := rfl
@[simp] theorem E.nm_neg (a : E) : (E.neg a).nm = 0 := rfl
@[simp] theorem E.nm_not (a : E) : (E.not a).nm = 0 := rfl
@[simp] theorem E.nm_two (s : ByteArray) (a b : E) : (E.two s a b).nm = 0 := rfl
@[simp] theorem E.text_num (n : Int) : (E.num n).text = e0 := rfl
@[simp] theorem E.text_name (s : ByteArray) : (E.name s).text = s := rfl
@[simp] theorem E.text_neg (a : E) : (E.neg a).text = e0 := rfl
@[simp] theorem E.text_not (a : E) : (E.not a).text = e0 := rfl
@[simp] theorem E.text_two (s : ByteArray) (a b : E) : (E.two s a b).text = s := rfl
def readE : Nat → List Ex → Option (E × List Ex)
  | 0, _ => none
  | _ + 1, [] => none
  | n + 1, x :: r =>
    if x.kind = 1 then (if 0 ≤ x.num ∧ x.num ≤ 999999999 then if x.text = e0 then some (.num x.num, r) else none else none)
    else if x.kind = 2 then (if x.num = 0 then if nameOk x.text = true then some (.name x.text, r) else none else none)
    else if x.kind = 3 then (if x.num = 0 then if x.text = e0 then match readE n r with
        | some (a, r) => some (.neg a, r)
        | none => none else none else none)
    else if x.kind = 4 then (if x.num = 0 then if x.text = e0 then match readE n r with
        | some (a, r) => some (.not a, r)
        | none => none else none else none)
    else if x.kind = 5 then (if x.num = 0 then if strength x.text.toList = 0 then none else match readE n r with
        | some (a, r1) => match readE n r1 with
          | some (b, r2) => some (.two x.text a b, r2)
          | none => none
        | none => none else none)
    else none
theorem readE_lt (n : Nat) (l : List Ex) : ∀ (e : E) (r : List Ex), readE n l = some (e, r) → r.length < l.length := by
  fun_induction readE n l <;> grind
theorem readE_suf (n : Nat) (l : List Ex) : ∀ (e : E) (r : List Ex), readE n l = some (e, r) → r <:+ l := by
  fun_induction readE n l <;> grind [List.suffix_cons, List.IsSuffix.trans]
theorem readE_mem {n : Nat} {l r : List Ex} {e : E} (h : readE n l = some (e, r)) : ∀ x ∈ r, x ∈ l := fun x hx => (readE_suf n l e r h).mem hx
def outP : Option (E × List Ex) → V
  | none => .tup [.t .nilp, exs []]
  | some (e, r) => .tup [.t e.tp, exs r]
def outS (n : Nat) : Option (E × List Ex) → V
  | none => .tup [vs [.int .i64 0, .int .i64 0, .str e0, .seq 4 []], i64 0]
  | some (e, r) => .tup [vs e.ts, i64 (n - r.length)]
/-- The number of a local's name, or -1. -/
def nameNo (s : ByteArray) : Int :=
  match s.toList with
  | [b] => if 97 ≤ (b.toNat : Int) ∧ (b.toNat : Int) ≤ 106 then (b.toNat : Int) - 97 else -1
  | _ => -1
theorem one_byte {s : ByteArray} (h : s.size = 1) : ∃ b, s.toList = [b] ∧ lkpS s 0 = some b := by
  have hl := bys_len s
  rw [h] at hl
  match hs : s.toList, hl with
  | [b], _ => exact ⟨b, rfl, lkpS_mid (done := []) (rest := []) (by simpa using hs) (by simp)⟩
theorem nameNo_size {s : ByteArray} (h : s.size ≠ 1) : nameNo s = -1 := by
  have hl := bys_len s
  unfold nameNo
  split
  · rename_i b hb; rw [hb] at hl; simp at hl; omega
  · rfl
def bad (x : Ex) : Bool := decide (x.kind = 2) && decide (nameNo x.text < 0)
def E.names : E → Bool
  | .num _ => true
  | .name s => decide (0 ≤ nameNo s)
  | .neg a | .not a => a.names
  | .two _ a b => a.names && b.names
def idxFrom {α : Type} (p : α → Bool) (i : Int) : List α → Int
  | [] => -1
  | x :: r => if p x = true then i else idxFrom p (i + 1) r
theorem idxFrom_any {α : Type} (p : α → Bool) : ∀ (l : List α) (i : Int), 0 ≤ i → decide (idxFrom p i l ≥ 0) = l.any p
  | [], i, hi => by simp [idxFrom]
  | x :: r, i, hi => by
    unfold idxFrom
    cases h : p x with
    | true => simp [h, hi]
    | false => simp only [Bool.false_eq_true, if_false, List.any_cons, h, Bool.false_or]; exact idxFrom_any p r (i + 1) (by omega)
theorem idxFrom_neg {α : Type} (p : α → Bool) (l : List α) (i : Int) : 0 ≤ i → ¬ 0 ≤ idxFrom p i l → idxFrom p i l = -1 := by
  fun_induction idxFrom p i l <;> grind
theorem readE_names (n : Nat) (l : List Ex) : ∀ (e : E) (r : List Ex), readE n l = some (e, r) → l.any bad = (!e.names || r.any bad) := by
  fun_induction readE n l <;> intro e r h
  all_goals (try cases h)
  all_goals grind [E.names, bad]
/-- A whole expression. -/
def parse (l : List Ex) : Option E :=
  if l.length ≤ 40 then match readE l.length l with
    | some (e, []) => some e
    | _ => none else none
def outE : Option E → V
  | none => .t .nilp
  | some e => .t e.tp
/-- A whole expression of locals. -/
def parseL (l : List Ex) : Option E := if l.any bad = true then none else parse l
theorem parse_names {l : List Ex} {e : E} (h : parse l = some e) : l.any bad = !e.names := by
  unfold parse at h
  split at h
  · split at h
    · rename_i e' h1
      obtain rfl := Option.some.inj h
      have := readE_names _ _ _ _ h1
      simpa using this
    · cases h
  · cases h
def lineOk (x : Line) : Bool :=
  if x.kind = 1 then (decide (x.name ≥ 0) && decide (x.name ≤ 9)) && (parseL x.expr).isSome
  else if x.kind = 2 then decide (x.name = 0) && (parseL x.expr).isSome
  else decide (x.kind = 3) && decide (x.name = 0) && decide (x.expr.length = 0)
/-- What the reference has read of a list of parts. -/
def tree? (l : List Ex) : Option E := if l.length ≤ 40 then (readE l.length l).map (·.1) else none
def oKind : Option E → Int
  | some e => e.kind
  | none => 0
def oNm : Option E → Int
  | some e => e.nm
  | none => 0
def oText : Option E → ByteArray
  | some e => e.text
  | none => e0
def oKids : Option E → List (List T)
  | some e => e.kids
  | none => []
def oe (o : Option E) : List T := [.int .i64 (oKind o), .int .i64 (oNm o), .str (oText o), .seq 4 (oKids o)]
@[simp] theorem oKind_some (e : E) : oKind (some e) = e.kind := rfl
@[simp] theorem oNm_some (e : E) : oNm (some e) = e.nm := rfl
@[simp] theorem oText_some (e : E) : oText (some e) = e.text := rfl
@[simp] theorem oKids_some (e : E) : oKids (some e) = e.kids := rfl
@[simp] theorem oKind_none : oKind none = 0 := rfl
@[simp] theorem oNm_none : oNm none = 0 := rfl
@[simp] theorem oText_none : oText none = e0 := rfl
@[simp] theorem oKids_none : oKids none = [] := rfl
theorem parse_tree {l : List Ex} {e : E} (h : parse l = some e) : tree? l = some e := by
  unfold parse at h
  unfold tree?
  split at h
  · rename_i h1
    rw [if_pos h1]
    split at h
    · rename_i h2; rw [h2]; simpa using h
    · cases h
  · cases h
theorem parseL_isSome (l : List Ex) : (parseL l).isSome = ((parse l).isSome && ((tree? l).map E.names).getD true) := by
  unfold parseL
  cases h : parse l with
  | none => simp
  | some e =>
    rw [parse_names h, parse_tree h]
    simp only [Option.map_some, Option.getD_some]
    cases e.names <;> simp
/-- Where loops begin and end: out, the open ones (the last first), what lies behind them in the row. -/
def endsGo : List Line → Int → List Int → List Int → List Int → Option (List Int × List Int × List Int)
  | [], _, out, st, junk => some (out, st, junk)
  | x :: r, i, out, st, junk =>
    if x.kind = 2 then endsGo r (i + 1) out (i :: st) junk.tail
    else if x.kind = 3 then match st with
      | [] => none
      | j :: st' => endsGo r (i + 1) ((out.set i.toNat j).set j.toNat i) st' (j :: junk)
    else endsGo r (i + 1) out st junk
def intc (n : Int) : List C := [.t (.int .i64 n)]
def intt (n : Int) : List T := [.int .i64 n]
def ints (l : List Int) : List (List C) := l.map intc
@[simp] theorem ints_len (l : List Int) : (ints l).length = l.length := by simp [ints]
@[simp] theorem ints_nil : ints [] = [] := rfl
theorem ints_app (a b : List Int) : ints (a ++ b) = ints a ++ ints b := by simp [ints]
theorem ints_cons (a : Int) (b : List Int) : ints (a :: b) = intc a :: ints b := rfl
theorem ints_set (l : List Int) (k : Nat) (n : Int) : (ints l).set k (intc n) = ints (l.set k n) := by simp [ints, List.map_set]
@[simp] theorem take_rev0 (l : List Int) : (ints l.reverse).take l.length = ints l.reverse := by simp [ints, List.take_of_length_le]
@[simp] theorem take_rev (l b : List Int) : (ints (l.reverse ++ b)).take l.length = ints l.reverse := by rw [ints_app, List.take_left' (by simp)]
@[simp] theorem drop_rev (l b : List Int) (j : Int) : (ints (l.reverse ++ j :: b)).drop (l.length + 1) = ints b := by
  rw [show l.reverse ++ j :: b = (l.reverse ++ [j]) ++ b by simp, ints_app, List.drop_left' (by simp)]
@[simp high] theorem get_rev (l b : List Int) (j : Int) : (ints (l.reverse ++ j :: b))[l.length]? = some (intc j) := by
  rw [ints_app, ints_cons, List.getElem?_append_right (by simp)]; simp
@[simp] theorem ints_setC (l : List Int) (k : Nat) (n : Int) : (ints l).set k [C.t (.int .i64 n)] = ints (l.set k n) := ints_set l k n
theorem ints_get {l : List Int} {k : Nat} (h : k < l.length) : (ints l)[k]? = some (intc (l.getD k 0)) := by simp [ints, h]
theorem endsGo_len : ∀ (l : List Line) (i : Int) (out st junk out' st' junk' : List Int), endsGo l i out st junk = some (out', st', junk') → out'.length = out.length
  | [], i, out, st, junk, out', st', junk', h => by simp [endsGo] at h; rw [h.1]
  | x :: r, i, out, st, junk, out', st', junk', h => by
    unfold endsGo at h
    split at h
    · exact endsGo_len r _ _ _ _ _ _ _ h
    · split at h
      · split at h
        · cases h
        · have := endsGo_len r _ _ _ _ _ _ _ h
          simpa using this
      · exact endsGo_len r _ _ _ _ _ _ _ h
def endsOk (l : List Line) : Bool :=
  match endsGo l 0 (List.replicate l.length 0) [] [] with
  | some (_, st, _) => decide (st.length = 0)
  | none => false
def goodProgram (l : List Line) : Bool :=
  (decide ((l.length : Int) ≥ 1) && decide ((l.length : Int) ≤ 12)) && !(l.any fun x => !lineOk x) && endsOk l
@[simp] theorem ints_fz (l : List Int) : (ints l).map (List.map C.fz) = l.map intt := by simp [ints, Function.comp_def, intc, intt, C.fz]
@[simp] theorem ints_fz' (l : List Int) : List.map (fun x => List.map C.fz x) (ints l) = l.map intt := ints_fz l
@[simp] theorem ints_rep (n : Nat) (a : Int) : ints (List.replicate n a) = List.replicate n [C.t (.int .i64 a)] := by simp [ints, intc]
def specGo : List Line → Int → Option Int
  | [], o => some o
  | x :: r, o =>
    if x.kind = 1 then (if (parseL x.expr).isSome = true then if 0 ≤ x.name ∧ x.name ≤ 9 then specGo r o else none else none)
    else if x.kind = 2 then (if (parseL x.expr).isSome = true then if x.name = 0 then specGo r (o + 1) else none else none)
    else if x.kind = 3 then (if x.name = 0 then if x.expr = [] then if o = 0 then none else specGo r (o - 1) else none else none)
    else none
theorem specGo_ends (l : List Line) : ∀ (i : Int) (out st junk : List Int), specGo l st.length = if l.all lineOk = true then (endsGo l i out st junk).map (fun p => (p.2.1.length : Int)) else none := by
  induction l with
  | nil => intro i out st junk; simp [specGo, endsGo]
  | cons x r ih =>
    intro i out st junk
    have h0 := ih (i + 1) out st junk
    have h1 := ih (i + 1) out (i :: st) junk.tail
    have h2 := fun j st' => ih (i + 1) ((out.set i.toNat j).set j.toNat i) st' (j :: junk)
    clear ih
    have e1 : (st.length : Int) + 1 = ((i :: st).length : Int) := by simp
    rw [List.all_cons]
    generalize r.all lineOk = b at *
    by_cases k1 : x.kind = 1
    · simp only [specGo, endsGo, k1, h0, lineOk]
      cases (parseL x.expr).isSome <;> by_cases k4 : 0 ≤ x.name ∧ x.name ≤ 9 <;> cases b <;> simp [k4]
      all_goals (intros; omega)
    · by_cases k2 : x.kind = 2
      · simp only [specGo, endsGo, k2, e1, h1, lineOk]
        cases (parseL x.expr).isSome <;> by_cases k4 : x.name = 0 <;> cases b <;> simp [k4]
      · by_cases k3 : x.kind = 3
        · cases st with
          | nil => simp [specGo, endsGo, k3, lineOk]
          | cons j st' =>
            have e : (((j :: st').length : Int) - 1) = (st'.length : Int) := by simp
            have e2 : ¬ (((j :: st').length : Int) = 0) := by simp; omega
            have h3 := h2 j st'
            simp only [specGo, endsGo, k3, e, h3, lineOk, e2]
            by_cases k4 : x.name = 0 <;> by_cases k5 : x.expr = [] <;> cases b <;> simp [k4, k5]
        · have : lineOk x = false := by simp [lineOk, k1, k2, k3]
          simp [specGo, k1, k2, k3, this]
theorem goodProgram_spec (l : List Line) : goodProgram l = match specGo l 0 with
    | some o => (decide ((l.length : Int) ≥ 1) && decide ((l.length : Int) ≤ 12)) && decide (o = 0)
    | none => false := by
  have h := specGo_ends l 0 (List.replicate l.length 0) [] []
  have h00 : ((([] : List Int).length : Nat) : Int) = 0 := rfl
  rw [h00] at h
  unfold goodProgram endsOk
  have e : (l.any fun x => !lineOk x) = !(l.all lineOk) := by simp [List.any_eq_not_all_not]
  rw [e, h]
  cases l.all lineOk with
  | false => simp
  | true =>
    simp only [if_true]
    cases endsGo l 0 (List.replicate l.length 0) [] [] with
    | none => simp
    | some p => obtain ⟨a, b, c⟩ := p; simp
end Go.Ev

/- Code that is made of an expression, in plain words. -/
namespace Go.Ev
set_option linter.unusedVariables false
set_option linter.unusedSimpArgs false
set_option linter.unusedVariables false
set_option linter.unusedSimpArgs false
@[simp] theorem toNat_add2 (n : Nat) : ((n : Int) + 2).toNat = n + 2 := by omega
structure Bc where
  op : Int
  n : Int
  text : ByteArray
def Bc.ce (x : Bc) : List T := [.int .i64 x.op, .int .i64 x.n, .str x.text]
def Bc.cc (x : Bc) : List C := [.t (.int .i64 x.op), .t (.int .i64 x.n), .t (.str x.text)]
def bcc (l : List Bc) : List (List C) := l.map Bc.cc
def bcs (l : List Bc) : V := sl 3 (l.map Bc.ce)
@[simp] theorem bcc_len (l : List Bc) : (bcc l).length = l.length := by simp [bcc]
@[simp] theorem bcc_nil : bcc [] = [] := rfl
theorem bcc_app (a b : List Bc) : bcc (a ++ b) = bcc a ++ bcc b := by simp [bcc]
theorem bcc_cons (a : Bc) (b : List Bc) : bcc (a :: b) = a.cc :: bcc b := rfl
@[simp] theorem bcc_take (l : List Bc) : (bcc l).take l.length = bcc l := by rw [← bcc_len l, List.take_length]
@[simp] theorem bcc_fz (l : List Bc) : (bcc l).map (List.map C.fz) = l.map Bc.ce := by simp [bcc, Function.comp_def, Bc.cc, Bc.ce, C.fz]
@[simp] theorem bcc_fz' (l : List Bc) : List.map (fun x => List.map C.fz x) (bcc l) = l.map Bc.ce := bcc_fz l
@[simp] theorem bcc_take' (l : List Bc) : List.take l.length (l.map Bc.ce) = l.map Bc.ce := by rw [List.take_of_length_le (by simp)]
theorem bcc_set (l : List Bc) (k : Nat) (o n : Int) (s : ByteArray) : (bcc l).set k [C.t (.int .i64 o), C.t (.int .i64 n), C.t (.str s)] = bcc (l.set k ⟨o, n, s⟩) := by simp [bcc, List.map_set, Bc.cc]
@[simp] theorem bcc_snoc (l : List Bc) (o n : Int) (s : ByteArray) (r : List (List C)) : bcc l ++ [C.t (.int .i64 o), C.t (.int .i64 n), C.t (.str s)] :: r = bcc (l ++ [⟨o, n, s⟩]) ++ r := by simp [bcc, Bc.cc]
@[simp] theorem bcc_one (o n : Int) (s : ByteArray) : [[C.t (.int .i64 o), C.t (.int .i64 n), C.t (.str s)]] = bcc [⟨o, n, s⟩] := rfl
@[simp] theorem bcc_join (a b : List Bc) : bcc a ++ bcc b = bcc (a ++ b) := (bcc_app a b).symm
@[simp] theorem bcc_setC (l : List Bc) (k : Nat) (o n : Int) (s : ByteArray) : (bcc l).set k [C.t (.int .i64 o), C.t (.int .i64 n), C.t (.str s)] = bcc (l.set k ⟨o, n, s⟩) := bcc_set l k o n s
@[simp] theorem bcc_take_le {l : List Bc} {k : Nat} (h : l.length ≤ k) : (bcc l).take k = bcc l := List.take_of_length_le (by simpa using h)
abbrev sNot : ByteArray := ⟨#[33]⟩
abbrev sMinus : ByteArray := ⟨#[45]⟩
def bNot : Bc := ⟨5, 0, sNot⟩
/-- The code of an expression behind others. -/
def codeE : E → List Bc → List Bc
  | .num n, l => l ++ [⟨1, n, e0⟩]
  | .name s, l => l ++ [⟨2, nameNo s, e0⟩]
  | .neg a, l => codeE a l ++ [⟨5, 0, sMinus⟩]
  | .not a, l => codeE a l ++ [bNot]
  | .two s a b, l =>
    if s.toList = [38, 38] then
      let o := codeE b (codeE a l ++ [⟨7, 0, e0⟩]) ++ [bNot, bNot]
      (o.set (codeE a l).length ⟨7, o.length + 1, e0⟩) ++ [⟨6, o.length + 2, e0⟩, ⟨1, 0, e0⟩]
    else if s.toList = [124, 124] then
      let o := codeE b (codeE a l ++ [⟨7, (codeE a l).length + 3, e0⟩, ⟨1, 1, e0⟩, ⟨6, 0, e0⟩]) ++ [bNot, bNot]
      o.set ((codeE a l).length + 2) ⟨6, o.length, e0⟩
    else codeE b (codeE a l) ++ [⟨4, 0, s⟩]
def E.size : E → Nat
  | .num _ | .name _ => 1
  | .neg a | .not a => a.size + 1
  | .two _ a b => a.size + b.size + 1
theorem codeE_len (e : E) (l : List Bc) : l.length < (codeE e l).length ∧ (codeE e l).length ≤ l.length + 6 * e.size := by
  induction e generalizing l with
  | num n => simp [codeE, E.size]
  | name s => simp [codeE, E.size]
  | neg a ih => have := ih l; simp [codeE, E.size]; omega
  | not a ih => have := ih l; simp [codeE, E.size]; omega
  | two s a b iha ihb =>
    have h1 := iha l
    have h2 := ihb (codeE a l ++ [⟨7, 0, e0⟩])
    have h3 := ihb (codeE a l ++ [⟨7, (codeE a l).length + 3, e0⟩, ⟨1, 1, e0⟩, ⟨6, 0, e0⟩])
    have h4 := ihb (codeE a l)
    unfold codeE
    simp only [List.length_append, List.length_cons, List.length_nil] at h2 h3
    split
    · simp [E.size]; omega
    · split
      · simp [E.size]; omega
      · simp [E.size]; omega
/-- What lies before stays. -/
theorem codeE_get (e : E) (l : List Bc) : ∀ k, k < l.length → (codeE e l)[k]? = l[k]? := by
  induction e generalizing l with
  | num n => intro k hk; simp [codeE, List.getElem?_append_left, hk]
  | name s => intro k hk; simp [codeE, List.getElem?_append_left, hk]
  | neg a ih => intro k hk; have := (codeE_len a l).1; simp only [codeE]; rw [List.getElem?_append_left (by omega)]; exact ih l k hk
  | not a ih => intro k hk; have := (codeE_len a l).1; simp only [codeE]; rw [List.getElem?_append_left (by omega)]; exact ih l k hk
  | two s a b iha ihb =>
    intro k hk
    have h1 := (codeE_len a l).1
    have h2 := (codeE_len b (codeE a l ++ [⟨7, 0, e0⟩])).1
    have h3 := (codeE_len b (codeE a l ++ [⟨7, (codeE a l).length + 3, e0⟩, ⟨1, 1, e0⟩, ⟨6, 0, e0⟩])).1
    have h4 := (codeE_len b (codeE a l)).1
    simp only [List.length_append, List.length_cons, List.length_nil] at h2 h3
    unfold codeE
    split
    · dsimp only
      rw [List.getElem?_append_left (by simp; omega), List.getElem?_set_ne (by omega), List.getElem?_append_left (by omega), ihb _ k (by simp; omega), List.getElem?_append_left (by omega), iha l k hk]
    · split
      · dsimp only
        rw [List.getElem?_set_ne (by omega), List.getElem?_append_left (by omega), ihb _ k (by simp; omega), List.getElem?_append_left (by omega), iha l k hk]
      · rw [List.getElem?_append_left (by omega), ihb _ k (by omega), iha l k hk]
theorem readE_size (n : Nat) (l : List Ex) : ∀ (e : E) (r : List Ex), readE n l = some (e, r) → e.size + r.length ≤ l.length := by
  fun_induction readE n l <;> grind [E.size]
theorem parse_size {l : List Ex} {e : E} (h : parse l = some e) : e.size ≤ 40 := by
  unfold parse at h
  split at h
  · split at h
    · rename_i h1
      obtain rfl := Option.some.inj h
      have := readE_size _ _ _ _ h1
      simp at this
      omega
    · cases h
  · cases h
theorem parseL_parse {l : List Ex} {e : E} (h : parseL l = some e) : parse l = some e := by
  unfold parseL at h
  split at h
  · cases h
  · exact h
theorem parseL_size {l : List Ex} {e : E} (h : parseL l = some e) : e.size ≤ 40 := parse_size (parseL_parse h)
theorem parseL_names {l : List Ex} {e : E} (h : parseL l = some e) : e.names = true := by
  have h1 := parseL_parse h
  unfold parseL at h
  split at h
  · cases h
  · rename_i hb
    rw [parse_names h1] at hb
    simpa using hb
/-- The code of an expression of locals, where it is not too long. -/
def makeExpr (l : List Ex) : Option (List Bc) :=
  match parseL l with
  | some e => if (codeE e []).length ≤ 120 then some (codeE e []) else none
  | none => none
end Go.Ev

/- Marks, in plain words. -/
namespace Go.Ev
set_option linter.unusedVariables false
set_option linter.unusedSimpArgs false
set_option linter.unusedVariables false
set_option linter.unusedSimpArgs false
def mtGo : Nat → Int → ByteArray → ByteArray
  | 0, _, o => o
  | n + 1, k, o => if k > 0 then mtGo n (k.tdiv 10) (strOf [48 + k.tmod 10] ++ o) else o
def mText (k : Int) : ByteArray := if k ≤ 0 then ⟨#[109, 48]⟩ else ⟨#[109]⟩ ++ mtGo 18 k ⟨#[]⟩
theorem strOf_size (xs : List Int) : (strOf xs).size = xs.length := by simp [strOf, ByteArray.size]
theorem mtGo_size : ∀ (n : Nat) (k : Int) (o : ByteArray), o.size + n ≤ 1000 → (mtGo n k o).size ≤ 1000
  | 0, k, o, h => by simp only [mtGo]; omega
  | n + 1, k, o, h => by
    unfold mtGo
    split
    · exact mtGo_size n _ _ (by rw [ByteArray.size_append, strOf_size]; simp; omega)
    · omega
/-- A list of three cells an element, marked from k on. -/
def mark3 (mt : Int → ByteArray) (k : Int) : Nat → List Bc
  | 0 => []
  | n + 1 => ⟨k, k + 1, mt (k + 1 + 1)⟩ :: mark3 mt (k + 1 + 1 + 1) n
@[simp high] theorem bcc_get_mid (m : List Bc) (x : Bc) (r : List Bc) : (bcc (m ++ x :: r))[m.length]? = some [C.t (.int .i64 x.op), C.t (.int .i64 x.n), C.t (.str x.text)] := by simp [bcc, Bc.cc]
@[simp high] theorem lkp_bc_mid (m : List Bc) (x : Bc) (r : List Bc) : lkp ((m ++ x :: r).map Bc.ce) (m.length : Int) = some [T.int .i64 x.op, T.int .i64 x.n, T.str x.text] := by simp [Bc.ce]
def exb (l : List Ex) : List Bc := l.map fun x => ⟨x.kind, x.num, x.text⟩
@[simp] theorem exb_len (l : List Ex) : (exb l).length = l.length := by simp [exb]
@[simp] theorem exb_ce (l : List Ex) : (exb l).map Bc.ce = l.map Ex.ce := by simp [exb, Function.comp_def, Bc.ce, Ex.ce]
@[simp high] theorem lkp_ex_mid (m : List Ex) (x : Ex) (r : List Ex) : lkp ((m ++ x :: r).map Ex.ce) (m.length : Int) = some [T.int .i64 x.kind, T.int .i64 x.num, T.str x.text] := by simp [Ex.ce]
theorem mark3_len (mt : Int → ByteArray) (k : Int) (n : Nat) : (mark3 mt k n).length = n := by induction n generalizing k with
  | zero => rfl
  | succ n ih => simp [mark3, ih]
end Go.Ev

/- Numbers of expressions, and expressions folded, in plain words. -/
namespace Go.Ev
set_option linter.unusedVariables false
set_option linter.unusedSimpArgs false
set_option linter.unusedVariables false
set_option linter.unusedSimpArgs false
/-- A number and code 0, or a code. -/
def inB (n : Int) : Int × Int := if -1000000000 ≤ n ∧ n ≤ 1000000000 then (n, 0) else (0, 3)
def tru (b : Bool) : Int := if b = true then 1 else 0
def two2 (l : List UInt8) (a b : Int) : Int × Int :=
  if l = [43] then inB (a + b) else if l = [45] then inB (a - b) else if l = [42] then inB (a * b)
  else if l = [47] then (if b = 0 then (0, 2) else (a.tdiv b, 0)) else if l = [37] then (if b = 0 then (0, 2) else (a.tmod b, 0))
  else if l = [60, 60] then (if 0 ≤ b ∧ b ≤ 20 then inB (a * 2 ^ b.toNat) else (0, 3))
  else if l = [60] then (tru (decide (a < b)), 0) else if l = [60, 61] then (tru (decide (a ≤ b)), 0) else if l = [61, 61] then (tru (decide (a = b)), 0)
  else (tru (!decide (a = b)), 0)
/-- The number of an expression where `f` tells that of a name (none: no such name). -/
def evalE (f : ByteArray → Option Int) : E → Int × Int
  | .num n => (n, 0)
  | .name s => match f s with
    | some n => (n, 0)
    | none => (0, 1)
  | .neg a => if (evalE f a).2 = 0 then (-(evalE f a).1, 0) else (0, (evalE f a).2)
  | .not a => if (evalE f a).2 = 0 then (tru (decide ((evalE f a).1 = 0)), 0) else (0, (evalE f a).2)
  | .two s a b =>
    if (evalE f a).2 = 0 then
      (if s.toList = [38, 38] then (if (evalE f a).1 = 0 then (0, 0) else if (evalE f b).2 = 0 then (tru (!decide ((evalE f b).1 = 0)), 0) else (0, (evalE f b).2))
       else if s.toList = [124, 124] then (if (evalE f a).1 = 0 then (if (evalE f b).2 = 0 then (tru (!decide ((evalE f b).1 = 0)), 0) else (0, (evalE f b).2)) else (1, 0))
       else if (evalE f b).2 = 0 then two2 s.toList (evalE f a).1 (evalE f b).1 else (0, (evalE f b).2))
    else (0, (evalE f a).2)
/-- Where all is known a number stands; and whether it does. -/
def foldNum (e : E) : E × Bool :=
  if (evalE (fun _ => none) e).2 = 0 ∧ 0 ≤ (evalE (fun _ => none) e).1 ∧ (evalE (fun _ => none) e).1 ≤ 999999999 then (.num (evalE (fun _ => none) e).1, true) else (e, false)
def foldE : E → E × Bool
  | .num n => foldNum (.num n)
  | .name s => (.name s, false)
  | .neg a => if (foldE a).2 = true then foldNum (.neg (foldE a).1) else (.neg (foldE a).1, false)
  | .not a => if (foldE a).2 = true then foldNum (.not (foldE a).1) else (.not (foldE a).1, false)
  | .two s a b => if (foldE a).2 = true ∧ (foldE b).2 = true then foldNum (.two s (foldE a).1 (foldE b).1) else (.two s (foldE a).1 (foldE b).1, false)
/-- The parts of an expression, in order. -/
def E.parts : E → List Ex
  | .num n => [⟨1, n, e0⟩]
  | .name s => [⟨2, 0, s⟩]
  | .neg a => ⟨3, 0, e0⟩ :: a.parts
  | .not a => ⟨4, 0, e0⟩ :: a.parts
  | .two s a b => ⟨5, 0, s⟩ :: (a.parts ++ b.parts)
theorem mul_bd {a b : Int} (ha : -1000000000 ≤ a) (ha2 : a ≤ 1000000000) (hb : -1000000000 ≤ b) (hb2 : b ≤ 1000000000) : -1000000000000000000 ≤ a * b ∧ a * b ≤ 1000000000000000000 := by
  have h1 : a.natAbs ≤ 1000000000 := by omega
  have h2 : b.natAbs ≤ 1000000000 := by omega
  have h3 : (a * b).natAbs ≤ 1000000000 * 1000000000 := by rw [Int.natAbs_mul]; exact Nat.mul_le_mul h1 h2
  omega
theorem tdiv_bd {a : Int} (b : Int) (ha : -1000000000 ≤ a) (ha2 : a ≤ 1000000000) : -1000000000 ≤ a.tdiv b ∧ a.tdiv b ≤ 1000000000 := by
  have h1 : (a.tdiv b).natAbs ≤ a.natAbs := by rw [Int.natAbs_tdiv]; exact Nat.div_le_self _ _
  omega
/-- A tree az it is read: numbers in bounds, signs known. -/
def E.ok : E → Prop
  | .num n => 0 ≤ n ∧ n ≤ 999999999
  | .name _ => True
  | .neg a | .not a => a.ok
  | .two s a b => strength s.toList ≠ 0 ∧ a.ok ∧ b.ok
theorem readE_ok (n : Nat) (l : List Ex) : ∀ (e : E) (r : List Ex), readE n l = some (e, r) → e.ok := by
  fun_induction readE n l <;> grind [E.ok]
theorem parse_ok {l : List Ex} {e : E} (h : parse l = some e) : e.ok := by
  unfold parse at h
  split at h
  · split at h
    · rename_i h1
      obtain rfl := Option.some.inj h
      exact readE_ok _ _ _ _ h1
    · cases h
  · cases h
theorem inB_bd (n : Int) : -1000000000 ≤ (inB n).1 ∧ (inB n).1 ≤ 1000000000 := by unfold inB; split <;> simp <;> omega
theorem tru_bd (b : Bool) : 0 ≤ tru b ∧ tru b ≤ 1 := by unfold tru; split <;> omega
theorem tmod_bd {a : Int} (b : Int) (ha : -1000000000 ≤ a) (ha2 : a ≤ 1000000000) : -1000000000 ≤ a.tmod b ∧ a.tmod b ≤ 1000000000 := by
  have h1 : (a.tmod b).natAbs ≤ a.natAbs := by rw [Int.natAbs_tmod]; exact Nat.mod_le _ _
  omega
theorem two2_bd (l : List UInt8) {a b : Int} (ha : -1000000000 ≤ a) (ha2 : a ≤ 1000000000) : -1000000000 ≤ (two2 l a b).1 ∧ (two2 l a b).1 ≤ 1000000000 := by
  have h1 := inB_bd (a + b)
  have h2 := inB_bd (a - b)
  have h3 := inB_bd (a * b)
  have h4 := tdiv_bd b ha ha2
  have h5 := tmod_bd b ha ha2
  have h6 := inB_bd (a * 2 ^ b.toNat)
  have h7 := tru_bd (decide (a < b))
  have h8 := tru_bd (decide (a ≤ b))
  have h9 := tru_bd (decide (a = b))
  have h10 := tru_bd (!decide (a = b))
  unfold two2
  repeat' split
  all_goals first | assumption | (simp; omega) | (dsimp only; omega)
theorem evalE_bd (f : ByteArray → Option Int) (hf : ∀ s n, f s = some n → -1000000000 ≤ n ∧ n ≤ 1000000000) : ∀ (e : E), e.ok → -1000000000 ≤ (evalE f e).1 ∧ (evalE f e).1 ≤ 1000000000
  | .num n, h => by simp only [E.ok] at h; simp only [evalE]; omega
  | .name s, h => by
    simp only [evalE]
    split
    · exact hf _ _ (by assumption)
    · simp
  | .neg a, h => by
    have := evalE_bd f hf a h
    simp only [evalE]
    split <;> dsimp only <;> omega
  | .not a, h => by
    have := tru_bd (decide ((evalE f a).1 = 0))
    simp only [evalE]
    split <;> dsimp only <;> omega
  | .two s a b, h => by
    have h1 := evalE_bd f hf a h.2.1
    have h2 := two2_bd s.toList (b := (evalE f b).1) h1.1 h1.2
    have h3 := tru_bd (!decide ((evalE f b).1 = 0))
    simp only [evalE]
    repeat' split
    all_goals first | assumption | (dsimp only; omega)
abbrev ev0 (e : E) : Int × Int := evalE (fun _ => none) e
theorem evalE0_bd {e : E} (h : e.ok) : -1000000000 ≤ (ev0 e).1 ∧ (ev0 e).1 ≤ 1000000000 := evalE_bd _ (fun s n h => by cases h) e h
/-- The same, not yet kept in bounds. -/
def do2 (l : List UInt8) (a b : Int) : Int × Int :=
  if l = [43] then (a + b, 0) else if l = [45] then (a - b, 0) else if l = [42] then (a * b, 0)
  else if l = [60] then (tru (decide (a < b)), 0) else if l = [60, 61] then (tru (decide (a ≤ b)), 0) else if l = [61, 61] then (tru (decide (a = b)), 0)
  else if l = [33, 61] then (tru (!decide (a = b)), 0)
  else if l = [60, 60] then (if 0 ≤ b ∧ b ≤ 20 then (a * 2 ^ b.toNat, 0) else (0, 3))
  else if b = 0 then (0, 2) else if l = [47] then (a.tdiv b, 0) else (a.tmod b, 0)
def outB (p : Int × Int) : Int × Int := if p.2 = 0 ∧ ¬ (-1000000000 ≤ p.1 ∧ p.1 ≤ 1000000000) then (0, 3) else p
theorem do2_two (l : List UInt8) (a b : Int) (h : strength l ≠ 0) (h1 : l ≠ [38, 38]) (h2 : l ≠ [124, 124]) (ha : -1000000000 ≤ a) (ha2 : a ≤ 1000000000) : two2 l a b = outB (do2 l a b) := by
  have h4 := tdiv_bd b ha ha2
  have h5 := tmod_bd b ha ha2
  have h7 := tru_bd (decide (a < b))
  have h8 := tru_bd (decide (a ≤ b))
  have h9 := tru_bd (decide (a = b))
  have h10 := tru_bd (!decide (a = b))
  unfold two2 do2
  generalize tru (decide (a < b)) = t7 at *
  generalize tru (decide (a ≤ b)) = t8 at *
  generalize tru (decide (a = b)) = t9 at *
  generalize tru (!decide (a = b)) = t10 at *
  generalize a.tdiv b = t4 at *
  generalize a.tmod b = t5 at *
  generalize a * 2 ^ b.toNat = t6 at *
  generalize a * b = t3 at *
  have hl : l = [61, 61] ∨ l = [33, 61] ∨ l = [60] ∨ l = [60, 61] ∨ l = [43] ∨ l = [45] ∨ l = [42] ∨ l = [47] ∨ l = [37] ∨ l = [60, 60] := by
    unfold strength at h
    grind
  rcases hl with rfl | rfl | rfl | rfl | rfl | rfl | rfl | rfl | rfl | rfl
  all_goals simp [outB, inB]
  all_goals grind
theorem pow2_eq {n : Nat} (h : n ≤ 20) : pow2 (n : Int) 64 = 2 ^ n := by
  unfold pow2
  rw [Int.toNat_natCast, Nat.min_eq_left (by omega)]
theorem pow_bd {n : Nat} (h : n ≤ 20) : 1 ≤ (2 : Int) ^ n ∧ (2 : Int) ^ n ≤ 1048576 := by
  have h1 : (2 : Nat) ^ n ≤ 2 ^ 20 := Nat.pow_le_pow_right (by omega) h
  have h2 : 1 ≤ (2 : Nat) ^ n := Nat.one_le_two_pow
  have h3 : (2 : Nat) ^ 20 = 1048576 := by decide
  have h4 : (2 : Int) ^ n = ((2 ^ n : Nat) : Int) := by simp
  rw [h4]
  omega
theorem mulp_bd {a p : Int} (ha : -1000000000 ≤ a) (ha2 : a ≤ 1000000000) (hp : 1 ≤ p ∧ p ≤ 1048576) : -1048576000000000 ≤ a * p ∧ a * p ≤ 1048576000000000 := by
  have h1 : a.natAbs ≤ 1000000000 := by omega
  have h2 : p.natAbs ≤ 1048576 := by omega
  have h3 : (a * p).natAbs ≤ 1000000000 * 1048576 := by rw [Int.natAbs_mul]; exact Nat.mul_le_mul h1 h2
  omega
theorem foldNum_ok {e : E} (h : e.ok) : (foldNum e).1.ok := by
  unfold foldNum
  split
  · rename_i h1; exact h1.2
  · exact h
theorem foldE_ok : ∀ (e : E), e.ok → (foldE e).1.ok
  | .num n, h => foldNum_ok h
  | .name s, h => h
  | .neg a, h => by
    have := foldE_ok a h
    simp only [foldE]
    split
    · exact foldNum_ok this
    · exact this
  | .not a, h => by
    have := foldE_ok a h
    simp only [foldE]
    split
    · exact foldNum_ok this
    · exact this
  | .two s a b, h => by
    have h1 := foldE_ok a h.2.1
    have h2 := foldE_ok b h.2.2
    simp only [foldE]
    split
    · exact foldNum_ok (e := .two s _ _) ⟨h.1, h1, h2⟩
    · exact ⟨h.1, h1, h2⟩
theorem foldNum_kind {e : E} (h : e.kind ≠ 1) : (foldNum e).2 = decide ((foldNum e).1.kind = 1) := by
  unfold foldNum
  split
  · simp
  · simp [h]
theorem foldE_kind : ∀ (e : E), e.ok → (foldE e).2 = decide ((foldE e).1.kind = 1)
  | .num n, h => by
    simp only [E.ok] at h
    simp [foldE, foldNum, evalE, h]
  | .name s, h => by simp [foldE]
  | .neg a, h => by
    simp only [foldE]
    split
    · exact foldNum_kind (by simp)
    · simp
  | .not a, h => by
    simp only [foldE]
    split
    · exact foldNum_kind (by simp)
    · simp
  | .two s a b, h => by
    simp only [foldE]
    split
    · exact foldNum_kind (by simp)
    · simp
theorem parts_len (e : E) : e.parts.length = e.size := by induction e <;> simp [E.parts, E.size, *] <;> omega
theorem foldNum_size (e : E) : (foldNum e).1.size ≤ e.size := by
  unfold foldNum
  split
  · cases e <;> simp [E.size]
  · exact Nat.le_refl _
theorem foldE_size (e : E) : (foldE e).1.size ≤ e.size := by
  induction e with
  | num n => exact foldNum_size _
  | name s => exact Nat.le_refl _
  | neg a ih =>
    have h := foldNum_size (.neg (foldE a).1)
    simp only [foldE]
    split <;> simp only [E.size] at * <;> omega
  | not a ih =>
    have h := foldNum_size (.not (foldE a).1)
    simp only [foldE]
    split <;> simp only [E.size] at * <;> omega
  | two s a b iha ihb =>
    have h := foldNum_size (.two s (foldE a).1 (foldE b).1)
    simp only [foldE]
    split <;> simp only [E.size] at * <;> omega
/-- An expression folded: its parts. -/
def foldX (l : List Ex) : Option (List Ex) := (parse l).map fun e => (foldE e).1.parts
theorem exb_app (a b : List Ex) : exb (a ++ b) = exb a ++ exb b := by simp [exb]
theorem exb_cons (a : Ex) (b : List Ex) : exb (a :: b) = ⟨a.kind, a.num, a.text⟩ :: exb b := rfl
end Go.Ev

/- Words of a text, in plain words. -/
namespace Go.Ev
set_option linter.unusedVariables false
set_option linter.unusedSimpArgs false
set_option linter.unusedVariables false
set_option linter.unusedSimpArgs false
def bsOf (l : List UInt8) : ByteArray := ⟨l.toArray⟩
@[simp] theorem bsOf_toList (l : List UInt8) : (bsOf l).toList = l := by simp [bsOf, ByteArray.toList_eq]
@[simp] theorem bsOf_size (l : List UInt8) : (bsOf l).size = l.length := by rw [← bys_len, bsOf_toList]
theorem bsOf_back (s : ByteArray) : bsOf s.toList = s := bytes_ext (by simp)
theorem bsOf_data (l : List UInt8) : (bsOf l).data.toList = l := by simp [bsOf]
theorem bsOf_extract (l : List UInt8) (a b : Nat) : (bsOf l).extract a b = bsOf ((l.take b).drop a) := by
  refine bytes_ext ?_
  rw [bsOf_toList, ByteArray.toList_eq, ByteArray.data_extract, Array.toList_extract, List.extract_eq_take_drop, bsOf_data, List.drop_take]
theorem lkpS_bs {l : List UInt8} {i : Nat} {b : UInt8} (h : l[i]? = some b) : lkpS (bsOf l) (i : Int) = some b := by
  obtain ⟨hl, rfl⟩ := List.getElem?_eq_some_iff.1 h
  refine lkpS_mid (done := l.take i) (rest := l.drop (i + 1)) ?_ (by simp; omega)
  rw [bsOf_toList, ← List.drop_eq_getElem_cons hl, List.take_append_drop]
def dgt (b : UInt8) : Bool := decide (48 ≤ (b.toNat : Int)) && decide ((b.toNat : Int) ≤ 57)
def dig (b : UInt8) : Int := (b.toNat : Int) - 48
def numL (l : List UInt8) : Int := l.foldl (fun n b => 10 * n + dig b) 0
def pre (P : UInt8 → Bool) (l : List UInt8) : Nat := (l.takeWhile P).length
theorem pre_le (P : UInt8 → Bool) (l : List UInt8) : pre P l ≤ l.length := (List.takeWhile_sublist P).length_le
theorem pre_cons (P : UInt8 → Bool) (b : UInt8) (l : List UInt8) : pre P (b :: l) = if P b = true then pre P l + 1 else 0 := by
  unfold pre
  rw [List.takeWhile_cons]
  split <;> simp
theorem pre_take (P : UInt8 → Bool) : ∀ (l : List UInt8) (k : Nat), pre P l ≤ k → pre P (l.take k) = pre P l
  | [], k, h => by simp
  | b :: l, 0, h => by
    rw [pre_cons] at h ⊢
    split at h
    · omega
    · rename_i c
      rw [if_neg c]; rfl
  | b :: l, k + 1, h => by
    rw [List.take_succ_cons, pre_cons, pre_cons]
    rw [pre_cons] at h
    split
    · rename_i c
      rw [if_pos c] at h
      rw [pre_take P l k (by omega)]
    · rfl
theorem pre_zero_take (P : UInt8 → Bool) (l : List UInt8) (k : Nat) (h : pre P l = 0) : pre P (l.take k) = 0 := by rw [pre_take P l k (by omega), h]
def signL : List (List UInt8) := [[43], [45], [42], [47], [37], [60], [60, 61], [61, 61], [33, 61], [61], [38, 38], [124, 124], [33], [40], [41], [44], [59], [45, 62], [60, 60]]
def better (r best x : List UInt8) : List UInt8 := if x.length > best.length ∧ x.isPrefixOf r = true then x else best
def bestSign (r : List UInt8) : List UInt8 := signL.foldl (better r) []
theorem better_len (r best x : List UInt8) : best.length ≤ (better r best x).length := by unfold better; split <;> omega
theorem fold_len (r : List UInt8) : ∀ (l : List (List UInt8)) (b : List UInt8), b.length ≤ (l.foldl (better r) b).length
  | [], b => Nat.le_refl _
  | x :: l, b => Nat.le_trans (better_len r b x) (fold_len r l _)
theorem pfx_take {x r : List UInt8} {k : Nat} (h : x.length ≤ k) : x.isPrefixOf (r.take k) = x.isPrefixOf r := by
  rw [Bool.eq_iff_iff, List.isPrefixOf_iff_prefix, List.isPrefixOf_iff_prefix]
  constructor
  · exact fun h => h.trans (List.take_prefix k r)
  · intro hp
    obtain ⟨t, rfl⟩ := hp
    rw [List.take_append]
    rw [List.take_of_length_le h]
    exact List.prefix_append _ _
theorem fold_take (r : List UInt8) (k : Nat) : ∀ (l : List (List UInt8)) (b : List UInt8), (l.foldl (better r) b).length ≤ k → l.foldl (better (r.take k)) b = l.foldl (better r) b
  | [], b, h => rfl
  | x :: l, b, h => by
    rw [List.foldl_cons] at h
    rw [List.foldl_cons, List.foldl_cons]
    have hb : (better r b x).length ≤ k := Nat.le_trans (fold_len r l _) h
    have e : better (r.take k) b x = better r b x := by
      unfold better at hb ⊢
      by_cases c : x.length > b.length ∧ x.isPrefixOf r = true
      · rw [if_pos c] at hb
        rw [if_pos c, if_pos ⟨c.1, by rw [pfx_take hb]; exact c.2⟩]
      · rw [if_neg c]
        rw [if_neg]
        rintro ⟨c1, c2⟩
        refine c ⟨c1, ?_⟩
        rw [List.isPrefixOf_iff_prefix] at c2 ⊢
        exact c2.trans (List.take_prefix k r)
    rw [e]
    exact fold_take r k l _ h
theorem best_take (r : List UInt8) (k : Nat) (h : (bestSign r).length ≤ k) : bestSign (r.take k) = bestSign r := fold_take r k signL [] h
theorem better_pfx {r b x : List UInt8} (h : b <+: r) : better r b x <+: r := by
  unfold better
  split
  · rename_i c; exact List.isPrefixOf_iff_prefix.1 c.2
  · exact h
theorem fold_pfx (r : List UInt8) : ∀ (l : List (List UInt8)) (b : List UInt8), b <+: r → l.foldl (better r) b <+: r
  | [], b, h => h
  | x :: l, b, h => fold_pfx r l _ (better_pfx h)
theorem best_le (r : List UInt8) : (bestSign r).length ≤ r.length := by
  have h := fold_pfx r signL [] List.nil_prefix
  have e : signL.foldl (better r) [] = bestSign r := rfl
  rw [e] at h
  exact h.length_le
/-- A word at the beginning of a text: its kind, number, text and length. -/
structure Wd where
  kind : Int
  num : Int
  text : List UInt8
  len : Nat
def wordOf (r : List UInt8) : Option Wd :=
  if 0 < pre dgt r then (if pre dgt r > 9 ∨ (pre dgt r > 1 ∧ r.head? = some 48) then none else some ⟨1, numL (r.take (pre dgt r)), [], pre dgt r⟩)
  else if 0 < pre letter r then (if pre letter r > 8 then none else some ⟨2, 0, r.take (pre letter r), pre letter r⟩)
  else if bestSign r = [] then none else some ⟨3, 0, bestSign r, (bestSign r).length⟩
theorem len_ne {l : List UInt8} (h : ¬ l = []) : 1 ≤ l.length := by
  cases l with
  | nil => exact absurd rfl h
  | cons a l => simp
theorem wordOf_len {r : List UInt8} {t : Wd} (h : wordOf r = some t) : 1 ≤ t.len ∧ t.len ≤ r.length := by
  have h1 := pre_le dgt r
  have h2 := pre_le letter r
  have h3 := best_le r
  unfold wordOf at h
  split at h
  · split at h
    · cases h
    · obtain rfl := Option.some.inj h; exact ⟨by dsimp only; omega, h1⟩
  · split at h
    · split at h
      · cases h
      · obtain rfl := Option.some.inj h; exact ⟨by dsimp only; omega, h2⟩
    · split at h
      · cases h
      · rename_i c
        obtain rfl := Option.some.inj h
        have h4 := len_ne (l := bestSign r) c
        generalize bestSign r = q at *
        exact ⟨h4, h3⟩
theorem word_take {r : List UInt8} {t : Wd} {k : Nat} (h : wordOf r = some t) (hk : t.len ≤ k) : wordOf (r.take k) = some t := by
  unfold wordOf at h
  by_cases c : 0 < pre dgt r
  · rw [if_pos c] at h
    split at h
    · cases h
    · rename_i d
      obtain rfl := Option.some.inj h
      dsimp only at hk
      have e := pre_take dgt r k hk
      unfold wordOf
      rw [e, if_pos c, if_neg, List.take_take, Nat.min_eq_left hk]
      intro hd
      refine d (hd.imp id fun ⟨a, b⟩ => ⟨a, ?_⟩)
      rw [List.head?_take] at b
      split at b
      · cases b
      · exact b
  · have e := pre_zero_take dgt r k (by omega)
    rw [if_neg c] at h
    by_cases c2 : 0 < pre letter r
    · rw [if_pos c2] at h
      split at h
      · cases h
      · rename_i d
        obtain rfl := Option.some.inj h
        dsimp only at hk
        have e2 := pre_take letter r k hk
        unfold wordOf
        rw [e, if_neg (by omega), e2, if_pos c2, if_neg d, List.take_take, Nat.min_eq_left hk]
    · have e2 := pre_zero_take letter r k (by omega)
      rw [if_neg c2] at h
      split at h
      · cases h
      · rename_i d
        obtain rfl := Option.some.inj h
        dsimp only at hk
        have e3 := best_take r k hk
        unfold wordOf
        rw [e, if_neg (by omega), e2, if_neg (by omega), e3, if_neg d]
/-- A word with its place. -/
structure Tk where
  kind : Int
  num : Int
  text : List UInt8
  place : Int
def Tk.ce (t : Tk) : List T := [.int .i64 t.kind, .int .i64 t.num, .str (bsOf t.text), .int .i64 t.place]
structure Lx where
  out : List Tk
  place : Int
  ok : Bool
def lexGo : Nat → List UInt8 → Int → List Tk → Lx
  | 0, _, _, out => ⟨out, 0, true⟩
  | f + 1, [], at_, out => ⟨out, 0, true⟩
  | f + 1, c :: r, at_, out =>
    if c = 32 ∨ c = 10 then lexGo f r (at_ + 1) out
    else match wordOf (c :: r) with
      | none => ⟨out, at_, false⟩
      | some t => if out.length = 120 then ⟨out, at_, false⟩ else lexGo f ((c :: r).drop t.len) (at_ + t.len) (out ++ [⟨t.kind, t.num, t.text, at_⟩])
def lexP (l : List UInt8) : Lx := lexGo 400 l 0 []
theorem lexGo_bd : ∀ (f : Nat) (r : List UInt8) (a : Int) (out : List Tk), 0 ≤ a → out.length ≤ 120 → (lexGo f r a out).out.length ≤ 120 ∧ ((lexGo f r a out).ok = false → a ≤ (lexGo f r a out).place ∧ (lexGo f r a out).place ≤ a + r.length)
  | 0, r, a, out, h, ho => ⟨ho, fun e => by cases e⟩
  | f + 1, [], a, out, h, ho => ⟨ho, fun e => by cases e⟩
  | f + 1, c :: r, a, out, h, ho => by
    unfold lexGo
    split
    · have ih := lexGo_bd f r (a + 1) out (by omega) ho
      refine ⟨ih.1, fun e => ?_⟩
      have := ih.2 e
      simp only [List.length_cons]
      omega
    · split
      · exact ⟨ho, fun _ => by dsimp only; simp only [List.length_cons]; omega⟩
      · rename_i t ht
        have hl := wordOf_len ht
        split
        · exact ⟨ho, fun _ => by dsimp only; simp only [List.length_cons]; omega⟩
        · have ih := lexGo_bd f ((c :: r).drop t.len) (a + t.len) (out ++ [⟨t.kind, t.num, t.text, a⟩]) (by omega) (by simp; omega)
          refine ⟨ih.1, fun e => ?_⟩
          have := ih.2 e
          rw [List.length_drop] at this
          omega
/-- The words ahead of a fault are those of what stands ahead of it. -/
theorem lexGo_cut : ∀ (f : Nat) (r : List UInt8) (a : Int) (out : List Tk), 0 ≤ a → out.length ≤ 120 → r.length < f → (lexGo f r a out).ok = false → ∀ f', f ≤ f' →
    lexGo f' (r.take ((lexGo f r a out).place - a).toNat) a out = ⟨(lexGo f r a out).out, 0, true⟩
  | 0, r, a, out, h, ho, hr, e, f', hf => by omega
  | f + 1, [], a, out, h, ho, hr, e, f', hf => by cases e
  | f + 1, c :: r, a, out, h, ho, hr, e, 0, hf => by omega
  | f + 1, c :: r, a, out, h, ho, hr, e, f' + 1, hf => by
    simp only [List.length_cons] at hr
    unfold lexGo at e
    by_cases c1 : c = 32 ∨ c = 10
    · rw [if_pos c1] at e
      have e1 : lexGo (f + 1) (c :: r) a out = lexGo f r (a + 1) out := by rw [lexGo, if_pos c1]
      rw [e1]
      have bd := (lexGo_bd f r (a + 1) out (by omega) ho).2 e
      have ih := lexGo_cut f r (a + 1) out (by omega) ho (by omega) e f' (by omega)
      generalize lexGo f r (a + 1) out = Z at *
      rw [show (Z.place - a).toNat = (Z.place - (a + 1)).toNat + 1 by omega, List.take_succ_cons, lexGo, if_pos c1]
      exact ih
    · rw [if_neg c1] at e
      cases hw : wordOf (c :: r) with
      | none =>
        have e1 : lexGo (f + 1) (c :: r) a out = ⟨out, a, false⟩ := by rw [lexGo, if_neg c1, hw]
        rw [e1]
        simp only [Int.sub_self, Int.toNat_zero, List.take_zero]
        rfl
      | some t =>
        have hl := wordOf_len hw
        rw [hw] at e
        dsimp only at e
        by_cases c2 : out.length = 120
        · have e1 : lexGo (f + 1) (c :: r) a out = ⟨out, a, false⟩ := by rw [lexGo, if_neg c1, hw]; dsimp only; rw [if_pos c2]
          rw [e1]
          simp only [Int.sub_self, Int.toNat_zero, List.take_zero]
          rfl
        · rw [if_neg c2] at e
          have e1 : lexGo (f + 1) (c :: r) a out = lexGo f ((c :: r).drop t.len) (a + t.len) (out ++ [⟨t.kind, t.num, t.text, a⟩]) := by rw [lexGo, if_neg c1, hw]; dsimp only; rw [if_neg c2]
          rw [e1]
          have bd := (lexGo_bd f ((c :: r).drop t.len) (a + t.len) (out ++ [⟨t.kind, t.num, t.text, a⟩]) (by omega) (by simp; omega)).2 e
          have ih := lexGo_cut f ((c :: r).drop t.len) (a + t.len) (out ++ [⟨t.kind, t.num, t.text, a⟩]) (by omega) (by simp; omega) (by rw [List.length_drop]; simp only [List.length_cons]; omega) e f' (by omega)
          generalize lexGo f ((c :: r).drop t.len) (a + t.len) (out ++ [⟨t.kind, t.num, t.text, a⟩]) = Z at *
          have hk : t.len ≤ (Z.place - a).toNat := by omega
          obtain ⟨k, hk2⟩ : ∃ k, (Z.place - a).toNat = k + 1 := ⟨(Z.place - a).toNat - 1, by omega⟩
          have hw2 := word_take hw hk
          have hd : ((c :: r).take (Z.place - a).toNat).drop t.len = ((c :: r).drop t.len).take (Z.place - (a + t.len)).toNat := by
            rw [List.drop_take]
            congr 1
            omega
          rw [hk2, List.take_succ_cons] at hw2 hd
          rw [hk2, List.take_succ_cons, lexGo, if_neg c1, hw2]
          dsimp only
          rw [if_neg c2, hd]
          exact ih
theorem lexP_cut (l : List UInt8) (hl : l.length < 400) (h : (lexP l).ok = false) : lexP (l.take (lexP l).place.toNat) = ⟨(lexP l).out, 0, true⟩ := by
  have := lexGo_cut 400 l 0 [] (by omega) (by simp) hl h 400 (Nat.le_refl _)
  rw [Int.sub_zero] at this
  exact this
theorem lexP_bd (l : List UInt8) : (lexP l).out.length ≤ 120 ∧ ((lexP l).ok = false → 0 ≤ (lexP l).place ∧ (lexP l).place ≤ l.length) := by
  have := lexGo_bd 400 l 0 [] (by omega) (by simp)
  rw [Int.zero_add] at this
  exact this
end Go.Ev

/- Expressions out of words, in plain words. -/
namespace Go.Ev
set_option linter.unusedVariables false
set_option linter.unusedSimpArgs false
set_option linter.unusedVariables false
set_option linter.unusedSimpArgs false
inductive PR where
  | bad (p : Int)
  | deep
  | ok (e : E) (r : List Tk)
def placeOf (fin : Int) : List Tk → Int
  | [] => fin
  | t :: _ => t.place
def signOf : List Tk → List UInt8
  | [] => []
  | t :: _ => if t.kind = 3 then t.text else []
def unE (t : List UInt8) (x : E) : E := if t = [33] then .not x else .neg x
mutual
def firstP : Nat → Int → List Tk → Nat → PR
  | 0, _, _, _ => .deep
  | f + 1, fin, [], a => .bad fin
  | f + 1, fin, t :: r, a =>
    if t.kind = 1 then .ok (.num t.num) r
    else if t.kind = 2 then .ok (.name (bsOf t.text)) r
    else if t.text ≠ [40] ∧ t.text ≠ [45] ∧ t.text ≠ [33] then .bad t.place
    else if a = 100 then .deep
    else if t.text = [40] then match readP f fin 0 r (a + 1) with
      | .ok x r1 => if signOf r1 = [41] then .ok x r1.tail else .bad (placeOf fin r1)
      | .bad p => .bad p
      | .deep => .deep
    else match firstP f fin r (a + 1) with
      | .ok x r1 => .ok (unE t.text x) r1
      | .bad p => .bad p
      | .deep => .deep
def readP : Nat → Int → Int → List Tk → Nat → PR
  | 0, _, _, _, _ => .deep
  | f + 1, fin, least, r, a => match firstP f fin r a with
    | .ok x r1 => loopP f fin least x r1 a
    | .bad p => .bad p
    | .deep => .deep
def loopP : Nat → Int → Int → E → List Tk → Nat → PR
  | 0, _, _, _, _, _ => .deep
  | f + 1, fin, least, x, r, a =>
    if strength (signOf r) = 0 ∨ strength (signOf r) < least then .ok x r
    else match readP f fin (if strength (signOf r) = 7 then 7 else strength (signOf r) + 1) r.tail a with
      | .ok y r1 => loopP f fin least (.two (bsOf (signOf r)) x y) r1 a
      | .bad p => .bad p
      | .deep => .deep
end
theorem signOf_ne {r : List Tk} (h : strength (signOf r) ≠ 0) : ∃ t q, r = t :: q ∧ t.kind = 3 := by
  cases r with
  | nil => exact absurd (by decide) h
  | cons t q =>
    refine ⟨t, q, rfl, ?_⟩
    by_cases c : t.kind = 3
    · exact c
    · simp only [signOf, if_neg c] at h
      exact absurd (by decide) h
/-- How much is left behind what was read, and that it is a tail. -/
theorem parse_len : ∀ (f : Nat), (∀ fin r a x q, firstP f fin r a = .ok x q → q.length < r.length ∧ q <:+ r) ∧ (∀ fin l r a x q, readP f fin l r a = .ok x q → q.length < r.length ∧ q <:+ r) ∧
    (∀ fin l y r a x q, loopP f fin l y r a = .ok x q → q.length ≤ r.length ∧ q <:+ r)
  | 0 => ⟨fun fin r a x q h => by simp [firstP] at h, fun fin l r a x q h => by simp [readP] at h, fun fin l y r a x q h => by simp [loopP] at h⟩
  | f + 1 => by
    obtain ⟨h1, h2, h3⟩ := parse_len f
    refine ⟨fun fin r a x q h => ?_, fun fin l r a x q h => ?_, fun fin l y r a x q h => ?_⟩
    · cases r with
      | nil => simp [firstP] at h
      | cons t r =>
        rw [firstP] at h
        have tl : ∀ q : List Tk, q = r → q.length < (t :: r).length ∧ q <:+ t :: r := fun q e => by subst e; exact ⟨by simp, List.suffix_cons _ _⟩
        split at h
        · cases h; exact tl _ rfl
        · split at h
          · cases h; exact tl _ rfl
          · split at h
            · cases h
            · split at h
              · cases h
              · split at h
                · split at h
                  · rename_i e r1 he
                    have k := h2 _ _ _ _ _ _ he
                    split at h
                    · obtain ⟨rfl, rfl⟩ := PR.ok.inj h
                      refine ⟨?_, (List.tail_suffix _).trans (k.2.trans (List.suffix_cons _ _))⟩
                      have := k.1
                      simp only [List.length_tail, List.length_cons]
                      omega
                    · cases h
                  · cases h
                  · cases h
                · split at h
                  · rename_i e r1 he
                    have k := h1 _ _ _ _ _ he
                    obtain ⟨rfl, rfl⟩ := PR.ok.inj h
                    exact ⟨by simp only [List.length_cons]; omega, k.2.trans (List.suffix_cons _ _)⟩
                  · cases h
                  · cases h
    · rw [readP] at h
      split at h
      · rename_i e r1 he
        have k := h1 _ _ _ _ _ he
        have k2 := h3 _ _ _ _ _ _ _ h
        exact ⟨by omega, k2.2.trans k.2⟩
      · cases h
      · cases h
    · rw [loopP] at h
      split at h
      · obtain ⟨rfl, rfl⟩ := PR.ok.inj h
        exact ⟨Nat.le_refl _, List.suffix_refl _⟩
      · split at h
        · rename_i e r1 he
          have k := h2 _ _ _ _ _ _ he
          have k2 := h3 _ _ _ _ _ _ _ h
          have := List.length_tail (l := r)
          exact ⟨by omega, k2.2.trans (k.2.trans (List.tail_suffix _))⟩
        · cases h
        · cases h
def PR.kindOk (r : List Tk) : Prop := ∀ t ∈ r, t.kind = 1 ∨ t.kind = 2 ∨ t.kind = 3
theorem word_kind {r : List UInt8} {t : Wd} (h : wordOf r = some t) : t.kind = 1 ∨ t.kind = 2 ∨ t.kind = 3 := by
  unfold wordOf at h
  split at h
  · split at h
    · cases h
    · obtain rfl := Option.some.inj h; exact .inl rfl
  · split at h
    · split at h
      · cases h
      · obtain rfl := Option.some.inj h; exact .inr (.inl rfl)
    · split at h
      · cases h
      · obtain rfl := Option.some.inj h; exact .inr (.inr rfl)
theorem lexGo_kind : ∀ (f : Nat) (r : List UInt8) (a : Int) (out : List Tk), PR.kindOk out → PR.kindOk (lexGo f r a out).out
  | 0, r, a, out, h => h
  | f + 1, [], a, out, h => h
  | f + 1, c :: r, a, out, h => by
    unfold lexGo
    split
    · exact lexGo_kind f r _ out h
    · split
      · exact h
      · rename_i t ht
        split
        · exact h
        · refine lexGo_kind f _ _ _ fun y hy => ?_
          rcases List.mem_append.1 hy with hy | hy
          · exact h y hy
          · obtain rfl := List.mem_singleton.1 hy
            exact word_kind ht
theorem parsed_size : ∀ (f : Nat), (∀ fin r a x q, firstP f fin r a = .ok x q → x.size + q.length ≤ r.length) ∧ (∀ fin l r a x q, readP f fin l r a = .ok x q → x.size + q.length ≤ r.length) ∧
    (∀ fin l y r a x q, loopP f fin l y r a = .ok x q → x.size + q.length ≤ y.size + r.length)
  | 0 => ⟨fun fin r a x q h => by simp [firstP] at h, fun fin l r a x q h => by simp [readP] at h, fun fin l y r a x q h => by simp [loopP] at h⟩
  | f + 1 => by
    obtain ⟨h1, h2, h3⟩ := parsed_size f
    refine ⟨fun fin r a x q h => ?_, fun fin l r a x q h => ?_, fun fin l y r a x q h => ?_⟩
    · cases r with
      | nil => simp [firstP] at h
      | cons t r =>
        rw [firstP] at h
        simp only [List.length_cons]
        split at h
        · obtain ⟨rfl, rfl⟩ := PR.ok.inj h; simp [E.size]; omega
        · split at h
          · obtain ⟨rfl, rfl⟩ := PR.ok.inj h; simp [E.size]; omega
          · split at h
            · cases h
            · split at h
              · cases h
              · split at h
                · split at h
                  · rename_i e r1 he
                    have k := h2 _ _ _ _ _ _ he
                    split at h
                    · obtain ⟨rfl, rfl⟩ := PR.ok.inj h
                      rw [List.length_tail]
                      omega
                    · cases h
                  · cases h
                  · cases h
                · split at h
                  · rename_i e r1 he
                    have k := h1 _ _ _ _ _ he
                    obtain ⟨rfl, rfl⟩ := PR.ok.inj h
                    unfold unE
                    split <;> simp only [E.size] <;> omega
                  · cases h
                  · cases h
    · rw [readP] at h
      split at h
      · rename_i e r1 he
        have k := h1 _ _ _ _ _ he
        have k2 := h3 _ _ _ _ _ _ _ h
        omega
      · cases h
      · cases h
    · rw [loopP] at h
      split at h
      · obtain ⟨rfl, rfl⟩ := PR.ok.inj h
        exact Nat.le_refl _
      · rename_i c
        split at h
        · rename_i e r1 he
          have k := h2 _ _ _ _ _ _ he
          have k2 := h3 _ _ _ _ _ _ _ h
          simp only [E.size] at k2
          obtain ⟨t, q2, rfl, _⟩ := signOf_ne (r := r) fun e => c (.inl e)
          simp only [List.tail_cons, List.length_cons] at k ⊢
          omega
        · cases h
        · cases h
theorem lexGo_place : ∀ (f : Nat) (r : List UInt8) (a : Int) (out : List Tk), 0 ≤ a → (∀ t ∈ out, 0 ≤ t.place) → ∀ t ∈ (lexGo f r a out).out, 0 ≤ t.place
  | 0, r, a, out, ha, h => h
  | f + 1, [], a, out, ha, h => h
  | f + 1, c :: r, a, out, ha, h => by
    unfold lexGo
    split
    · exact lexGo_place f r _ out (by omega) h
    · split
      · exact h
      · rename_i t ht
        split
        · exact h
        · refine lexGo_place f _ _ _ (by omega) fun y hy => ?_
          rcases List.mem_append.1 hy with hy | hy
          · exact h y hy
          · obtain rfl := List.mem_singleton.1 hy
            exact ha
/-- The words of a text, none where it is too long. -/
def lexZ (l : List UInt8) : Lx := if l.length > 300 then ⟨[], 0, false⟩ else lexP l
def finZ (l : List UInt8) : Int := if (lexZ l).ok = true then (l.length : Int) else (lexZ l).place
/-- What an expression's text comes to: its tree, or the place of the first fault. -/
def parseT (l : List UInt8) : Int ⊕ E :=
  match readP 1000 (finZ l) 0 (lexZ l).out 0 with
  | .bad p => .inl p
  | .deep => .inl (l.length : Int)
  | .ok x r => if r ≠ [] ∨ (lexZ l).ok = false then .inl (placeOf (finZ l) r) else if x.size > 40 then .inl (l.length : Int) else .inr x
theorem lexZ_bd (l : List UInt8) : (lexZ l).out.length ≤ 120 ∧ PR.kindOk (lexZ l).out ∧ (∀ t ∈ (lexZ l).out, 0 ≤ t.place) ∧ 0 ≤ finZ l := by
  unfold finZ lexZ
  split
  · exact ⟨by simp, fun t ht => by simp at ht, fun t ht => by simp at ht, by simp⟩
  · have h := lexP_bd l
    refine ⟨h.1, lexGo_kind 400 l 0 [] (fun t ht => by simp at ht), lexGo_place 400 l 0 [] (Int.le_refl _) (fun t ht => by simp at ht), ?_⟩
    split
    · omega
    · rename_i c
      exact (h.2 (by simpa using c)).1
end Go.Ev

/- The evaluator's policies and annotations of this program's functions: printed by a program of mine. -/
namespace Go.Ev
set_option linter.unusedVariables false
set_option linter.unusedSimpArgs false
open Go.Proofs
def prPrim : FuncId → Option (List V → List Ob → Option (V × List Ob)) := fun _ => none
def prPol : FuncId → Pol
  | 2 => { modes := [], own := false, nest := false, frz := [] }
  | 3 => { modes := [.borrow], own := false, nest := false, frz := [] }
  | 4 => { modes := [.move], own := false, nest := false, frz := [], soft := [[3], [0], [0]] }
  | 5 => { modes := [.borrow], own := true, nest := false, frz := [] }
  | 6 => { modes := [.borrow, .borrow], own := false, nest := false, frz := [] }
  | 7 => { modes := [.pass, .pass], own := false, nest := false, frz := [] }
  | 8 => { modes := [.borrow, .borrow], own := false, nest := false, frz := [] }
  | 9 => { modes := [.borrow], own := false, nest := false, frz := [], soft := [[4], [0], [0]] }
  | 10 => { modes := [.pass, .borrow, .borrow], own := false, nest := false, frz := [83], soft := [[0, 0, 0, 4]] }
  | 11 => { modes := [.pass], own := false, nest := false, frz := [] }
  | 12 => { modes := [.borrow, .pass], own := true, nest := false, frz := [] }
  | 13 => { modes := [.borrow], own := false, nest := false, frz := [], soft := [[4], [0], [0]] }
  | 14 => { modes := [.pass, .borrow, .borrow], own := false, nest := false, frz := [56] }
  | 15 => { modes := [.pass], own := false, nest := false, frz := [] }
  | 16 => { modes := [.borrow], own := false, nest := false, frz := [] }
  | 17 => { modes := [.pass, .borrow], own := false, nest := false, frz := [] }
  | 18 => { modes := [.borrow, .pass], own := true, nest := false, frz := [] }
  | 19 => { modes := [.borrow, .borrow], own := false, nest := false, frz := [] }
  | 20 => { modes := [.pass], own := false, nest := false, frz := [12] }
  | 21 => { modes := [.borrow, .borrow], own := false, nest := false, frz := [] }
  | 22 => { modes := [.pass, .borrow], own := false, nest := false, frz := [35, 51], soft := [[0, 0, 0, 4]] }
  | 23 => { modes := [.borrow], own := false, nest := false, frz := [] }
  | 24 => { modes := [.borrow], own := false, nest := false, frz := [] }
  | 25 => { modes := [.pass, .borrow], own := false, nest := false, frz := [] }
  | 26 => { modes := [.borrow], own := false, nest := false, frz := [] }
  | 27 => { modes := [.borrow], own := false, nest := false, frz := [] }
  | 28 => { modes := [.borrow], own := false, nest := false, frz := [] }
  | 29 => { modes := [.borrow], own := false, nest := false, frz := [] }
  | 30 => { modes := [.borrow, .borrow], own := false, nest := false, frz := [] }
  | 31 => { modes := [.borrow, .borrow], own := false, nest := false, frz := [] }
  | 32 => { modes := [.borrow, .borrow], own := false, nest := false, frz := [] }
  | 33 => { modes := [.borrow], own := false, nest := false, frz := [] }
  | 34 => { modes := [.borrow], own := false, nest := false, frz := [] }
  | 35 => { modes := [.borrow], own := false, nest := false, frz := [] }
  | 36 => { modes := [], own := false, nest := false, frz := [], soft := [[1]] }
  | 37 => { modes := [.borrow, .borrow], own := false, nest := false, frz := [] }
  | 38 => { modes := [], own := false, nest := false, frz := [], soft := [[1]] }
  | 39 => { modes := [.borrow], own := false, nest := false, frz := [] }
  | 40 => { modes := [.borrow, .borrow, .borrow, .borrow, .borrow], own := false, nest := false, frz := [] }
  | 41 => { modes := [.borrow, .borrow], own := false, nest := false, frz := [] }
  | 42 => { modes := [.borrow, .borrow, .borrow], own := false, nest := false, frz := [] }
  | 43 => { modes := [.borrow, .borrow], own := false, nest := false, frz := [] }
  | 44 => { modes := [.borrow, .borrow], own := false, nest := false, frz := [] }
  | 45 => { modes := [.borrow, .borrow, .borrow], own := false, nest := false, frz := [] }
  | 46 => { modes := [.borrow, .borrow, .borrow], own := false, nest := false, frz := [] }
  | 47 => { modes := [.borrow, .borrow, .borrow], own := false, nest := false, frz := [] }
  | 48 => { modes := [.borrow], own := false, nest := false, frz := [] }
  | 49 => { modes := [.borrow], own := false, nest := false, frz := [] }
  | 50 => { modes := [.borrow], own := false, nest := false, frz := [] }
  | 51 => { modes := [.borrow], own := false, nest := false, frz := [] }
  | 52 => { modes := [.borrow], own := false, nest := false, frz := [] }
  | 53 => { modes := [.borrow], own := false, nest := false, frz := [] }
  | 54 => { modes := [.borrow, .borrow], own := false, nest := false, frz := [] }
  | 55 => { modes := [.borrow], own := false, nest := false, frz := [] }
  | 56 => { modes := [.borrow], own := false, nest := false, frz := [] }
  | 57 => { modes := [.borrow, .borrow], own := false, nest := false, frz := [] }
  | 58 => { modes := [.borrow, .borrow, .borrow, .borrow, .borrow], own := false, nest := false, frz := [], soft := [[1], [0]] }
  | 59 => { modes := [.borrow], own := false, nest := false, frz := [] }
  | 60 => { modes := [.borrow], own := false, nest := false, frz := [] }
  | 61 => { modes := [.borrow], own := false, nest := false, frz := [] }
  | 62 => { modes := [.borrow], own := false, nest := false, frz := [] }
  | 63 => { modes := [.borrow], own := false, nest := false, frz := [] }
  | 64 => { modes := [.borrow], own := false, nest := false, frz := [] }
  | 65 => { modes := [.borrow], own := false, nest := false, frz := [] }
  | 93 => { modes := [], own := false, nest := false, frz := [] }
  | _ => {}
def prAnn : FuncId → Ann
  | 2 => .n
  | 3 => (.seq .n (.seq (.seq .n (.cond (.seq .n .n) .n)) (.seq .n (.seq .n (.seq (.seq .n (.cond (.seq .n .n) .n)) (.seq .n (.seq .n (.seq .n (.seq .n (.seq (.seq .n (.cond (.seq .n .n) .n)) (.seq (.seq .n (.cond (.seq .n .n) .n)) (.seq .n (.seq (.seq .n (.cond (.seq .n .n) .n)) (.seq .n (.seq .n (.seq (.seq .n (.cond (.seq .n .n) .n)) (.seq (.seq .n (.cond (.seq .n .n) .n)) (.seq .n .n))))))))))))))))))
  | 4 => (.seq .n (.seq (.seq .n (.cond (.seq .n .n) .n)) (.seq .n (.seq .n (.seq (.seq .n (.cond (.seq .n .n) .n)) (.cut [0, 5, 7, 8] (.seq .n (.seq .n (.seq (.seq .n (.cond .n .n)) (.cut [0, 9, 10] (.seq (.seq .n (.cond (.seq .n .n) .n)) (.seq (.seq .n (.cond (.seq .n .n) .n)) (.seq .n (.seq (.seq .n (.cond (.seq .n .n) .n)) (.seq .n .n)))))))))))))))
  | 5 => (.seq .n (.seq .n (.seq .n (.seq (.seq .n (.cond .n .n)) (.cut [0, 5, 7, 8] (.seq .n (.seq (.seq .n (.cond .n .n)) (.cut [0, 8, 9] (.seq (.seq .n (.cond .n .n)) (.cut [8, 9] (.seq (.seq .n (.cond (.seq .n .n) .n)) (.seq .n .n))))))))))))
  | 6 => (.seq .n (.seq (.seq .n (.cond (.seq .n .n) .n)) (.seq (.seq .n (.block (.loop [0, 1, 5] [] [4] [] (.seq (.seq .n (.cond .n .n)) (.seq (.block (.seq .n (.cond (.seq .n .n) .n))) .n))))) (.cut [] (.seq .n .n)))))
  | 7 => (.seq .n (.seq (.seq .n (.block (.loop [0, 1, 5] [1] [4] [] (.seq (.seq .n (.cond .n .n)) (.seq (.block (.seq .n (.seq .n (.seq .n (.seq .n (.seq .n .n)))))) .n))))) (.cut [1] (.seq .n .n))))
  | 8 => (.seq .n (.seq (.seq .n (.block (.loop [0, 1, 5] [1] [4] [] (.seq (.seq .n (.cond .n .n)) (.seq (.block (.seq (.seq .n (.cond (.seq .n .n) .n)) (.seq .n (.seq (.seq .n (.cond (.seq .n .n) .n)) (.seq .n (.seq (.seq .n (.cond (.seq .n .n) .n)) .n)))))) .n))))) (.cut [1] (.seq .n .n))))
  | 9 => (.seq .n (.seq .n (.seq (.seq .n (.block (.loop [0, 5, 6] [5] [2, 3, 4] [(5, none, 4)] (.seq (.seq .n (.cond .n .n)) (.block (.seq (.seq .n (.cond (.seq .n .n) .n)) (.seq .n (.seq (.seq .n (.cond (.seq .n .n) .n)) (.seq .n .n))))))))) (.cut [5] (.seq .n .n)))))
  | 10 => (.seq .n (.seq .n (.seq (.block (.loop [0, 1, 2, 6, 7] [6, 7] [6] [] (.seq (.seq .n (.cond .n .n)) (.block (.seq .n (.seq .n (.seq (.seq .n (.cond .n .n)) (.seq .n (.seq .n (.seq (.seq .n (.cond .n .n)) (.cut [0, 1, 2, 6, 7, 8, 10] .n))))))))))) (.cut [6, 7] (.seq .n .n)))))
  | 11 => (.seq (.seq .n (.cond .n .n)) (.seq .n (.seq .n (.cond .n .n))))
  | 12 => (.seq .n (.seq .n (.seq (.seq .n (.block (.loop [1, 18, 19, 20] [1] [4] [(1, none, 3)] (.seq .n (.seq (.cond .n .n) (.seq (.block (.seq .n .n)) .n)))))) (.cut [1] (.seq .n .n)))))
  | 13 => (.seq .n (.seq .n (.seq (.seq .n (.cond (.seq .n .n) .n)) (.seq (.seq .n (.block (.loop [0, 5, 6] [5] [2, 3, 4] [(5, none, 4)] (.seq (.seq .n (.cond .n .n)) (.block (.seq (.seq .n (.cond (.seq .n .n) .n)) (.seq .n (.seq (.seq .n (.cond (.seq .n .n) .n)) (.seq .n (.seq .n .n)))))))))) (.cut [5] (.seq .n .n))))))
  | 14 => (.seq .n (.seq .n (.seq (.block (.loop [0, 1, 2, 7] [] [6] [] (.seq (.seq .n (.cond .n .n)) (.block (.seq .n (.seq .n (.seq (.seq .n (.cond (.seq .n .n) .n)) (.seq .n (.seq .n (.seq (.seq .n (.cond .n .n)) (.cut [0, 1, 2, 7, 8, 12] (.seq .n (.seq (.seq .n (.cond (.seq .n .n) .n)) .n))))))))))))) (.cut [] (.seq .n .n)))))
  | 15 => (.seq .n (.seq (.seq .n (.cond (.seq .n .n) .n)) (.seq .n .n)))
  | 16 => (.seq .n (.seq (.seq .n (.cond (.seq .n .n) .n)) (.seq .n .n)))
  | 17 => (.seq .n (.seq (.seq .n (.cond .n .n)) (.cut [] (.seq .n .n))))
  | 18 => (.seq .n (.seq .n (.seq (.seq .n (.block (.loop [1, 31, 32, 33] [1] [4] [(1, none, 3)] (.seq .n (.seq (.cond .n .n) (.seq (.block (.seq .n (.seq .n (.cond .n .n)))) (.cut [1, 31, 32, 33] .n))))))) (.cut [1] (.seq .n .n)))))
  | 19 => (.seq .n (.seq (.seq .n (.cond (.seq .n .n) .n)) (.seq (.seq .n (.cond (.seq .n .n) .n)) (.seq (.seq .n (.cond (.seq .n .n) .n)) (.seq .n .n)))))
  | 20 => (.seq .n (.seq (.seq .n (.cond (.seq .n .n) .n)) (.seq .n (.seq (.block (.loop [0, 3] [3] [2] [] (.seq (.seq .n (.cond .n .n)) (.block (.seq .n .n))))) (.cut [3] (.seq .n .n))))))
  | 21 => (.seq .n (.seq .n (.seq (.seq .n (.block (.seq .n (.cond (.seq .n (.seq (.block (.loop [0, 1, 4, 6, 8] [1, 4, 6, 8] [4, 5] [] (.seq (.seq .n (.cond .n .n)) (.block (.seq (.seq .n (.cond (.seq .n .n) .n)) (.seq .n .n)))))) (.cut [1, 4, 6, 8] (.seq .n .n)))) (.seq .n (.cond (.seq (.block (.loop [0, 1, 4, 6] [0, 1, 4, 6] [4, 5] [] (.seq (.seq .n (.cond .n .n)) (.block .n)))) (.cut [0, 1, 4, 6] (.seq (.seq .n (.cond (.seq .n .n) .n)) (.seq .n .n)))) .n)))))) (.cut [0, 1, 4] (.seq .n (.seq (.seq .n (.cond (.seq .n .n) .n)) (.seq .n .n)))))))
  | 22 => (.seq .n (.seq (.seq .n (.cond (.seq .n .n) .n)) (.cut [0, 1, 4] (.seq (.block (.seq .n (.cond (.seq .n .n) (.seq .n (.cond (.seq .n (.seq .n .n)) (.seq .n (.cond (.seq .n (.seq .n .n)) (.seq .n (.cond (.seq .n (.seq .n (.seq (.seq .n (.cond (.seq .n (.seq .n .n)) .n)) (.seq .n (.seq .n .n))))) (.seq .n (.cond (.seq .n (.seq .n .n)) .n))))))))))) (.seq .n (.seq .n (.seq (.seq .n (.cond (.seq .n .n) .n)) (.seq .n .n))))))))
  | 23 => (.seq .n (.seq (.seq .n (.block (.seq .n (.cond (.seq .n .n) (.seq .n (.cond (.seq .n .n) (.seq (.seq .n (.cond .n .n)) (.cut [3, 8] (.cond (.seq .n .n) (.seq (.seq .n (.cond .n .n)) (.cut [3, 11] (.cond (.seq .n .n) (.seq (.seq .n (.cond .n .n)) (.cut [3, 14] (.cond (.seq .n .n) (.seq (.seq .n (.cond .n (.seq .n (.cond .n .n)))) (.cut [3, 17] (.cond (.seq .n .n) (.seq .n (.cond (.seq .n .n) .n)))))))))))))))))))) (.cut [] (.seq .n .n))))
  | 24 => (.seq .n (.seq (.seq .n (.seq .n (.cond (.seq (.seq .n (.cond (.seq .n .n) .n)) (.seq .n (.seq .n .n))) .n))) (.seq (.seq .n (.seq .n (.cond (.seq (.seq .n (.cond (.seq .n .n) .n)) (.seq .n .n)) .n))) (.seq .n (.seq (.seq .n (.block (.loop [0, 2, 8, 49, 50, 51] [2, 8] [2, 3] [] (.seq .n (.seq (.cond .n .n) (.seq (.block (.seq .n (.seq .n (.cond .n .n)))) (.cut [0, 2, 8, 49, 50, 51] .n))))))) (.cut [2, 8] (.seq .n .n)))))))
  | 25 => (.seq .n (.seq (.seq .n (.cond (.seq .n .n) .n)) (.seq .n (.seq (.block (.seq .n (.cond (.seq .n (.seq .n .n)) (.seq .n (.cond (.seq .n (.seq .n .n)) (.seq .n (.cond (.seq .n .n) (.seq .n (.cond (.seq .n .n) .n))))))))) (.seq .n (.seq (.seq .n (.cond (.seq .n (.seq (.seq .n (.cond (.seq .n .n) .n)) (.seq (.seq .n (.cond (.seq .n .n) .n)) (.seq .n (.seq .n .n))))) .n)) (.seq .n (.seq (.seq .n (.cond (.seq .n .n) .n)) (.seq .n (.seq (.seq .n (.cond .n .n)) (.cut [7, 8] (.seq .n .n))))))))))))
  | 26 => (.seq .n (.seq (.seq .n (.cond (.seq .n .n) .n)) (.seq .n .n)))
  | 27 => (.seq .n (.seq (.seq .n (.block (.seq .n (.cond (.seq .n .n) (.seq .n (.cond (.seq .n .n) (.seq (.seq .n (.cond .n .n)) (.cut [5, 10] (.cond (.seq .n .n) (.seq (.seq .n (.cond .n .n)) (.cut [5, 13] (.cond (.seq .n .n) (.seq (.seq .n (.cond .n .n)) (.cut [5, 16] (.cond (.seq .n .n) (.seq (.seq .n (.cond .n (.seq .n (.cond .n .n)))) (.cut [5, 19] (.cond (.seq .n .n) (.seq .n (.cond (.seq .n .n) .n)))))))))))))))))))) (.cut [] (.seq .n .n))))
  | 28 => (.seq .n (.seq .n .n))
  | 29 => (.seq .n (.seq .n .n))
  | 30 => (.seq .n (.seq .n (.seq (.seq .n (.block (.loop [0, 1, 5, 8, 9, 10] [5] [4] [] (.seq .n (.seq (.cond .n .n) (.seq (.block (.seq .n (.seq .n (.cond .n .n)))) (.cut [0, 1, 5, 8, 9, 10] .n))))))) (.cut [5] (.seq .n .n)))))
  | 31 => (.seq .n (.seq .n .n))
  | 32 => (.seq .n (.seq .n (.seq (.block (.loop [0, 1, 5] [5] [4] [] (.seq (.seq .n (.cond .n .n)) (.block .n)))) (.cut [5] (.seq .n .n)))))
  | 33 => (.seq .n (.seq .n .n))
  | 34 => (.seq .n (.seq .n (.seq (.seq .n (.cond (.seq .n .n) .n)) (.seq .n .n))))
  | 35 => (.seq .n (.seq .n .n))
  | 36 => (.seq .n (.seq .n .n))
  | 37 => (.seq .n (.seq .n .n))
  | 38 => (.seq .n (.seq .n .n))
  | 39 => (.seq .n (.seq .n (.seq (.seq .n (.cond (.seq .n (.seq (.seq .n (.cond (.seq .n (.seq .n (.cond (.seq .n .n) .n))) .n)) (.cut [0, 5] (.seq .n (.seq (.seq .n (.block (.loop [5, 6, 47, 48, 49] [5, 6] [2, 3] [] (.seq .n (.seq (.cond .n .n) (.seq (.block (.seq .n (.seq .n (.seq (.seq .n (.cond (.seq .n .n) .n)) .n)))) .n)))))) (.cut [5, 6] (.seq (.seq .n (.cond .n .n)) (.cut [6] (.seq .n .n))))))))) .n)) (.cut [0] (.seq .n (.seq .n .n))))))
  | 40 => (.seq .n (.seq (.seq .n (.block (.seq .n (.cond (.seq .n .n) (.seq .n (.cond (.seq .n .n) (.seq .n (.cond (.seq .n .n) (.seq .n (.cond (.seq .n .n) .n)))))))))) (.seq .n .n)))
  | 41 => (.seq .n (.seq .n .n))
  | 42 => (.seq .n (.seq (.seq .n (.cond (.seq .n .n) .n)) (.seq .n (.seq (.seq .n (.block (.seq .n (.cond .n (.seq .n (.cond (.seq .n .n) .n)))))) (.cut [0, 1, 2, 8] (.seq .n (.seq .n (.seq (.seq .n (.cond (.seq .n .n) .n)) (.seq (.seq .n (.cond .n .n)) (.cut [2, 8, 9] (.seq .n (.seq (.seq .n (.cond (.seq .n .n) .n)) (.seq (.seq .n (.cond (.seq .n .n) .n)) (.seq .n (.seq (.seq .n (.cond .n .n)) (.cut [11] (.seq .n .n)))))))))))))))))
  | 43 => (.seq .n (.seq .n .n))
  | 44 => (.seq .n (.seq .n .n))
  | 45 => (.seq .n (.seq .n .n))
  | 46 => (.seq .n (.seq .n .n))
  | 47 => (.seq .n (.seq (.seq .n (.cond (.seq .n .n) .n)) (.seq .n (.seq .n (.seq (.block (.seq .n (.cond .n (.seq .n (.cond (.seq .n (.seq .n (.cond (.block (.seq .n (.cond (.seq .n .n) (.seq .n (.cond (.seq .n .n) (.seq .n (.cond (.seq .n .n) (.seq .n .n)))))))) .n))) (.seq .n .n)))))) (.cut [0, 1, 2, 8, 9] (.seq (.seq .n (.cond .n (.seq .n (.cond (.seq .n .n) .n)))) (.cut [0, 1, 2, 8, 9] (.seq .n (.seq (.seq .n (.block (.seq .n (.cond .n (.seq .n (.cond .n .n)))))) (.cut [0, 1, 2, 8, 9, 10] (.seq .n (.seq .n (.seq .n (.seq (.seq .n (.block (.loop [1, 8, 9, 10, 11, 12, 13, 99, 100, 101] [9, 12, 13] [6, 7] [] (.seq .n (.seq (.cond .n .n) (.seq (.block (.seq .n (.seq .n (.seq (.block (.seq .n (.cond (.seq .n .n) (.seq .n (.cond .n (.seq .n (.cond .n (.seq .n .n)))))))) (.cut [1, 8, 9, 10, 11, 12, 13, 16, 99, 100, 101] (.seq (.seq .n (.cond (.seq .n .n) .n)) (.seq (.seq .n (.cond (.seq .n .n) .n)) (.seq .n (.seq .n (.seq (.seq .n (.cond (.seq .n .n) .n)) .n)))))))))) (.cut [1, 8, 9, 10, 11, 12, 13, 99, 100, 101] .n))))))) (.cut [9, 12, 13] (.seq (.seq .n (.cond (.seq .n .n) .n)) (.seq .n .n))))))))))))))))))
  | 48 => (.seq .n (.seq (.seq .n (.cond (.seq .n .n) .n)) (.seq .n (.seq .n (.seq .n .n)))))
  | 49 => (.seq .n (.seq .n .n))
  | 50 => (.seq .n (.seq .n .n))
  | 51 => (.seq .n (.seq .n .n))
  | 52 => (.seq .n (.seq .n (.seq .n (.seq (.seq .n (.cond .n .n)) (.cut [0, 3, 4] (.seq .n (.seq (.seq .n (.cond (.seq .n (.seq .n .n)) .n)) (.cut [0, 3, 4, 5] (.seq (.block (.loop [0, 3, 4, 5] [3] [2] [] (.seq (.seq .n (.cond .n .n)) (.seq (.block (.seq (.seq .n (.cond (.seq .n .n) .n)) (.seq (.seq .n (.cond (.seq (.seq .n (.cond (.seq .n .n) .n)) (.seq .n .n)) .n)) (.seq (.seq .n (.cond (.seq .n .n) .n)) .n)))) (.cut [0, 3, 4, 5] .n))))) (.cut [3] (.seq .n .n)))))))))))
  | 53 => (.seq .n (.seq .n .n))
  | 54 => (.seq .n (.seq (.seq .n (.cond (.seq (.seq .n (.cond (.seq .n .n) .n)) (.seq .n (.seq .n (.seq (.seq .n (.cond .n .n)) (.cut [0, 5, 6] (.seq .n (.seq .n (.seq (.seq .n (.cond (.seq .n (.seq .n .n)) .n)) (.seq .n .n))))))))) .n)) (.seq .n (.seq .n .n))))
  | 55 => (.seq .n (.seq (.seq .n (.cond (.seq .n .n) .n)) (.seq .n .n)))
  | 56 => (.seq .n (.seq .n (.seq .n .n)))
  | 57 => (.seq .n (.seq (.block (.loop [0, 1, 4] [0, 1, 4] [] [] (.seq (.seq .n (.cond .n .n)) (.block (.seq .n (.seq .n (.seq .n (.seq .n (.seq .n (.seq .n (.seq .n (.seq .n (.seq .n .n))))))))))))) (.cut [0, 1, 4] (.seq .n (.seq (.seq .n (.cond (.seq .n (.seq .n (.seq .n (.seq .n (.seq .n .n))))) .n)) (.cut [0, 4, 12] (.seq (.seq .n (.cond (.seq .n (.seq .n (.seq .n .n))) .n)) (.cut [0, 4, 12] (.seq .n (.cond .n .n))))))))))
  | 58 => (.seq .n (.seq (.seq .n (.cond .n .n)) (.cut [0, 1, 2, 3, 4, 10, 11] (.seq .n (.seq .n (.seq (.seq .n (.cond .n .n)) (.cut [0, 1, 2, 3, 4, 10, 11, 12, 13] (.seq (.seq .n (.cond (.seq .n (.seq .n (.seq .n (.seq (.block (.loop [0, 1, 3, 4, 10, 11, 12, 13, 14, 15, 16] [0, 1, 3, 4, 10, 11, 12, 13] [10, 11] [] (.seq (.seq .n (.cond .n .n)) (.block (.seq .n (.seq .n .n)))))) (.cut [0, 1, 3, 4, 10, 11, 12, 13] (.seq .n .n)))))) (.seq .n (.seq (.block (.loop [0, 1, 3, 4, 10, 11, 12, 13, 17] [0, 1, 3, 4, 10, 11, 12, 13] [10, 11] [] (.seq (.seq .n (.cond .n .n)) (.block (.seq .n (.seq .n (.seq .n .n))))))) (.cut [0, 1, 3, 4, 10, 11, 12, 13] (.seq .n .n)))))) (.cut [0, 3, 4, 10, 11, 12, 13] (.seq (.seq .n (.cond (.seq .n .n) .n)) (.cut [0, 4, 10, 11, 12, 13] (.seq (.seq .n (.cond (.seq .n .n) .n)) (.seq .n .n)))))))))))))
  | 59 => (.seq .n (.seq .n .n))
  | 60 => (.seq .n (.seq (.seq .n (.cond (.seq .n .n) .n)) (.cut [0, 2] (.seq (.seq .n (.cond (.seq .n .n) .n)) (.cut [0, 2] (.seq (.seq .n (.cond (.seq .n .n) .n)) (.cut [0, 2] (.seq .n .n))))))))
  | 61 => (.seq .n (.seq (.seq .n (.cond (.seq .n .n) .n)) (.seq .n .n)))
  | 62 => (.seq .n (.seq .n .n))
  | 63 => (.seq .n (.seq (.cond (.seq .n .n) .n) (.seq .n .n)))
  | 64 => (.seq .n (.seq (.seq .n (.cond (.seq .n .n) .n)) (.seq .n .n)))
  | 65 => (.seq .n (.seq (.seq .n (.cond (.seq .n .n) .n)) (.seq .n .n)))
  | 93 => (.seq .n (.seq .n (.seq .n (.seq .n .n))))
  | _ => .n
noncomputable def pr : Pr := ⟨Tryd.prog, prPol, prAnn, prPrim⟩
end Go.Ev
