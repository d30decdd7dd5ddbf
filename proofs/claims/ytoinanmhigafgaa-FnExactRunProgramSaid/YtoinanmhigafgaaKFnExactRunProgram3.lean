import Derived.Test.YtoinanmhigafgaaKFnExactRunProgram2
/- The evaluator, twenty-fourth text: the tree of questions comes to what the machine comes to. -/
namespace Go.Ev
set_option linter.unusedVariables false
set_option linter.unusedSimpArgs false
set_option linter.unusedVariables false
set_option linter.unusedSimpArgs false
variable {E : Q → Option Out}
def Sim (E : Q → Option Out) {α : Type} (m : Mo α) (x : Option α) : Prop := ∀ k r, interp E (m k) = some r → ∃ v, x = some v ∧ interp E (k v) = some r
section
variable {α β γ : Type}
theorem Sim.pure {a : α} {x : Option α} (h : x = some a) : Sim E (pureM a) x := fun k r hr => ⟨a, h, hr⟩
theorem Sim.fail {x : Option α} : Sim E failM x := fun k r hr => by cases hr
theorem Sim.sub {m : Mo α} {y : Option α} {f : α → Mo β} {x : Option β} (hm : Sim E m y) (h : ∀ a, y = some a → Sim E (f a) x) : Sim E (bnd m f) x := fun k r hr => by
  obtain ⟨a, ha, hk⟩ := hm _ r hr
  exact h a ha k r hk
theorem Sim.bind {m : Mo α} {y : Option α} {f : α → Mo β} {g : α → Option β} (hm : Sim E m y) (h : ∀ a, y = some a → Sim E (f a) (g a)) : Sim E (bnd m f) (y.bind g) :=
  hm.sub fun a ha => by rw [ha]; exact h a ha
theorem Sim.opt {o : Option α} : Sim E (optM o) o := fun k r hr => by
  cases o with
  | none => cases hr
  | some a => exact ⟨a, rfl, hr⟩
theorem Sim.map {m : Mo α} {y : Option α} {g : α → β} (hm : Sim E m y) : Sim E (bnd m fun a => pureM (g a)) (y.map g) := hm.sub fun a ha => .pure (by rw [ha]; rfl)
theorem Sim.must {b : Bool} {f : Unit → Mo β} {x : Option β} (h : b = true → Sim E (f ()) x) : Sim E (bnd (mustM b) f) x := fun k r hr => by
  cases b with
  | true => exact h rfl k r hr
  | false => cases hr
theorem Sim.nrm {t : Ty} {a : t.ty} {f : t.ty → Mo β} {x : Option β} (h : Sim E (f a) x) : Sim E (bnd (nrmM t a) f) x := fun k r hr => h k r hr
theorem Sim.get {t : Ty} {o : Option t.ty} {f : t.ty → Mo β} {x : Option β} (h : ∀ a, o = some a → Sim E (f a) x) : Sim E (bnd (getM t o) f) x := fun k r hr => by
  obtain ⟨a, ha, hk⟩ := Option.bind_eq_some_iff.1 (show (o.bind fun v => interp E (f v k)) = some r from hr)
  exact h a ha k r hk
theorem Sim.br {b : Bool} {f : Bool → Mo β} {x : Option β} (h : Sim E (f b) x) : Sim E (bnd (brM b) f) x := fun k r hr => h k r hr
theorem Sim.ask {q : Q} : Sim E (askM q) (E q) := fun k r hr => Option.bind_eq_some_iff.1 hr
theorem Sim.mapM {f : α → Mo β} {g : α → Option β} (h : ∀ a, Sim E (f a) (g a)) : ∀ l : List α, Sim E (mapMo f l) (l.mapM g)
  | [] => .pure rfl
  | a :: l => by
    rw [List.mapM_cons]
    exact (h a).bind fun b hb => (Sim.mapM h l).sub fun r hr => .pure (by rw [hr]; rfl)
end
theorem fz_sim {M : Mem} : ∀ (k : Nat) (v : V), Sim E (fzM M k v) (fz M k v)
  | 0, v => .fail
  | k + 1, v => by
    cases v with
    | t x => exact .pure rfl
    | vec id n sz off len =>
      simp only [fzM, fz]
      cases M id with
      | none => exact .fail
      | some ob =>
        cases ob with
        | vec fl sz' es =>
          dsimp only
          split
          · rename_i hs
            refine .must fun hb => .nrm (.pure ?_)
            have hb := of_decide_eq_true hb
            rw [if_pos ⟨hb.1, hs, hb.2⟩]
          · exact .fail
        | _ => exact .fail
    | row id n i j sz len =>
      simp only [fzM, fz]
      cases M id with
      | none => exact .fail
      | some ob =>
        cases ob with
        | vec fl s0 es =>
          refine .must fun hb => .get fun el he => ?_
          dsimp only
          rw [if_pos (of_decide_eq_true hb), he]
          simp only [Option.bind_some]
          cases el[j]? with
          | none => exact .fail
          | some c =>
            cases c with
            | t x => exact .fail
            | row sz' r =>
              dsimp only
              split
              · rename_i hz
                refine .must fun hb2 => .pure ?_
                rw [if_pos ⟨hz, of_decide_eq_true hb2⟩]
              · exact .fail
        | _ => exact .fail
    | ptr id n i o =>
      simp only [fzM, fz]
      cases M id with
      | none => exact .fail
      | some ob =>
        cases ob with
        | box cs =>
          dsimp only
          split
          · exact (Sim.mapM (fun v => fz_sim (M := M) k v) _).map
          · exact .fail
        | vec fl sz' es =>
          refine .must fun hb => .get fun e he => .pure ?_
          dsimp only
          rw [if_pos (of_decide_eq_true hb), he]; rfl
        | dead => exact .fail
    | clo f caps => exact (Sim.mapM (fun v => fz_sim (M := M) k v) _).map
    | _ => exact .fail
theorem fz1_sim {M : Mem} (v : V) : Sim E (fz1M M v) (fz1 M v) := by
  cases v with
  | agg vs => exact (Sim.mapM (fun v => fz_sim (M := M) 16 v) _).map
  | _ => exact (fz_sim 16 _).map
theorem fzV_sim {M : Mem} (v : V) : Sim E (fzVM M v) (fzV M v) := by
  have k2 := fz1_sim (E := E) (M := M) v
  cases v with
  | tup vs => exact (Sim.mapM (fun v => fz1_sim (M := M) v) _).map
  | _ => exact k2
theorem mvV_sim {M : Mem} (v : V) : Sim E (mvVM M v) (mvV M v) := by
  refine (fzV_sim v).bind fun v' h => ?_
  cases v with
  | t x => exact .pure rfl
  | _ => exact (Sim.opt (E := E)).map
theorem rd_sim {M : Mem} {p : V} {k : Nat} : Sim E (rdM M p k) (rd M p k) := by
  unfold rdM rd
  cases p with
  | t x => cases x <;> first | exact .opt | exact .fail
  | ptr id n i o =>
    dsimp only
    cases M id with
    | none => exact .fail
    | some ob =>
      cases ob with
      | box cs =>
        dsimp only
        split
        · exact .opt
        · exact .fail
      | vec fl sz' es =>
        refine .must fun hb => .get fun e he => ?_
        dsimp only
        rw [if_pos (of_decide_eq_true hb), he]
        exact .opt
      | dead => exact .fail
  | rptr id n i j e o =>
    dsimp only
    cases M id with
    | none => exact .fail
    | some ob =>
      cases ob with
      | vec fl sz' es =>
        refine .must fun hb => .get fun el he => ?_
        dsimp only
        rw [if_pos (of_decide_eq_true hb), he]
        simp only [Option.bind_some]
        cases el[j]? with
        | none => exact .fail
        | some c =>
          cases c with
          | t x => exact .fail
          | row s r =>
            refine .get fun g hg => ?_
            dsimp only
            rw [hg]
            exact .opt
      | _ => exact .fail
  | _ => exact .fail
theorem rds_sim {M : Mem} {p : V} : ∀ n i, Sim E (rdsM M p i n) (rds M p i n)
  | 0, i => .pure rfl
  | n + 1, i => rd_sim.bind fun v _ => (rds_sim n (i + 1)).map
theorem ld_sim {M : Mem} {p : V} {ag : Bool} {n : Nat} : Sim E (ldM M p ag n) (ld M p ag n) := by
  unfold ldM ld
  cases ag with
  | false => exact rd_sim
  | true =>
    simp only [cond_true]
    cases n == 0 with
    | true => exact .fail
    | false => exact (rds_sim n 0).map
theorem asC_sim {m : Mo (V × Mem)} {y : Option (V × Mem)} (h : Sim E m y) : Sim E (bnd m asC) (y.bind fun | (.t x, M') => some (C.t x, M') | _ => none) := h.bind fun p _ => by
  obtain ⟨v, M'⟩ := p
  cases v <;> first | exact .pure rfl | exact .fail
theorem toC_sim {nest : Bool} {M : Mem} (v : V) : Sim E (toCM nest M v) (toC nest M v) := by
  cases v with
  | t x => exact .pure rfl
  | vec id n sz off len =>
    cases nest with
    | true => exact .fail
    | false =>
      have := asC_sim (mvV_sim (E := E) (M := M) (.vec id n sz off len))
      exact this
  | _ => exact asC_sim (mvV_sim _)
theorem toCs_sim {nest : Bool} : ∀ (vs : List V) (M : Mem), Sim E (toCsM nest M vs) (toCs nest M vs)
  | [], M => .pure rfl
  | v :: vs, M => (toC_sim v).bind fun p _ => (toCs_sim vs p.2).map
theorem toCss_sim {nest : Bool} : ∀ (vs : List (List V)) (M : Mem), Sim E (toCssM nest M vs) (toCss nest M vs)
  | [], M => .pure rfl
  | v :: vs, M => (toCs_sim v M).bind fun p _ => (toCss_sim vs p.2).map
theorem wr0_sim {nest : Bool} {M : Mem} {p : V} {k : Nat} {v : V} : Sim E (wr0M nest M p k v) (wr0 nest M p k v) := by
  unfold wr0M wr0
  cases p with
  | ptr id n i o =>
    dsimp only
    cases M id with
    | none => exact .fail
    | some ob =>
      cases ob with
      | box cs =>
        dsimp only
        split
        · rw [seqL_eq]; exact .pure rfl
        · exact .fail
      | vec fl0 sz0 es0 =>
        refine (toC_sim v).bind fun q _ => ?_
        obtain ⟨c, M1⟩ := q
        dsimp only
        cases M1 id with
        | none => exact .fail
        | some ob =>
          cases ob with
          | vec fl sz es =>
            refine .must fun hb => .get fun e he => ?_
            dsimp only
            rw [if_pos (of_decide_eq_true hb), he]
            dsimp only
            cases e[o + k]? with
            | none => exact .fail
            | some c' => cases c' <;> first | exact .nrm (.pure rfl) | exact .fail
          | _ => exact .fail
      | dead => exact .fail
  | _ => exact .fail
theorem wrN_sim {M : Mem} {id n i c id2 n2 sz2 off2 len2 : Nat} : Sim E (wrNM M id n i c id2 n2 sz2 off2 len2) (wrN M id n i c id2 n2 sz2 off2 len2) := by
  unfold wrNM wrN
  split
  · exact .fail
  cases M id2 with
  | none => exact .fail
  | some ob =>
    cases ob with
    | vec fl2 sz2' es2 =>
      dsimp only
      split
      · rename_i h1
        refine .must fun hb => ?_
        have hb := of_decide_eq_true hb
        rw [if_pos ⟨hb.1, h1.1, h1.2, hb.2⟩]
        cases M id with
        | none => exact .fail
        | some ob =>
          cases ob with
          | vec fl sz es =>
            refine .must fun hn => .get fun e he => ?_
            dsimp only
            rw [if_pos (of_decide_eq_true hn), he]
            dsimp only
            cases e[c]? with
            | none => exact .fail
            | some x => cases x <;> first | exact .nrm (.nrm (.pure rfl)) | exact .fail
          | _ => exact .fail
      · exact .fail
    | _ => exact .fail
theorem wrR_sim {M : Mem} {id n i j e o k : Nat} {v : V} : Sim E (wrRM M id n i j e o k v) (wrR M id n i j e o k v) := by
  unfold wrRM wrR
  split
  · refine (toC_sim v).bind fun q _ => ?_
    obtain ⟨c, M1⟩ := q
    dsimp only
    cases c with
    | row s r => exact .fail
    | t x =>
      cases M1 id with
      | none => exact .fail
      | some ob =>
        cases ob with
        | vec fl sz es =>
          refine .must fun hn => .get fun el he => ?_
          dsimp only
          rw [if_pos (of_decide_eq_true hn), he]
          dsimp only
          cases el[j]? with
          | none => exact .fail
          | some c =>
            cases c with
            | t x => exact .fail
            | row s r =>
              refine .get fun g hg => .must fun hl => .nrm (.pure ?_)
              dsimp only
              rw [hg]
              dsimp only
              rw [if_pos (of_decide_eq_true hl)]
        | _ => exact .fail
  · exact .fail
theorem wr_sim {nest : Bool} {M : Mem} {p : V} {k : Nat} {v : V} : Sim E (wrM nest M p k v) (wr nest M p k v) := by
  cases p with
  | rptr id n i j e o =>
    have := wrR_sim (E := E) (M := M) (id := id) (n := n) (i := i) (j := j) (e := e) (o := o) (k := k) (v := v)
    unfold wrM wr
    exact this
  | ptr id n i o =>
    cases v with
    | vec id2 n2 sz2 off2 len2 =>
      unfold wrM wr
      dsimp only
      cases nest && isVecO (M id) with
      | true => simp only [cond_true]; exact wrN_sim
      | false => simp only [cond_false]; exact wr0_sim
    | _ => unfold wrM wr; exact wr0_sim
  | _ => cases v <;> (unfold wrM wr; exact wr0_sim)
theorem wrs0_sim {nest : Bool} {p : V} : ∀ (vs : List V) (M : Mem) (i : Nat), Sim E (wrs0M nest M p i vs) (wrs nest M p i vs)
  | [], M, i => .pure rfl
  | v :: vs, M, i => wr_sim.bind fun M' _ => wrs0_sim vs M' (i + 1)
theorem tOf_map : ∀ {vs : List V} {ts : List T}, vs.mapM tOf = some ts → vs = ts.map V.t := fun h => mapM_T h
theorem wrs_wide {nest fl : Bool} {id n j sz : Nat} : ∀ (ts : List T) (k : Nat) (e : List C) (es : List (List C)) (M : Mem), M id = some (.vec fl sz es) → es.length = n → es[j]? = some e → k + ts.length = e.length → e.all C.isT = true →
    wrs nest M (.ptr id n j 0) k (ts.map V.t) = some (upd M id (some (.vec fl sz (es.set j (e.take k ++ ts.map C.t)))))
  | [], k, e, es, M, hM, hn, he, hk, ha => by
    have hk : k = e.length := by simpa using hk
    simp only [List.map_nil, wrs, List.append_nil, hk, List.take_length]
    have : es.set j e = es := by
      apply List.ext_getElem?
      intro i
      rw [List.getElem?_set]
      split
      · rename_i h; subst h
        have hj := (List.getElem?_eq_some_iff.1 he).1
        rw [if_pos hj, he]
      · rfl
    rw [this, ← hM]
    congr 1
    funext i
    unfold upd
    split
    · rename_i h; rw [h]
    · rfl
  | x :: ts, k, e, es, M, hM, hn, he, hk, ha => by
    have hlt : k < e.length := by simp at hk; omega
    obtain ⟨y, hy⟩ : ∃ y, e[k]? = some (C.t y) := by
      have hm : e[k]'hlt ∈ e := List.getElem_mem hlt
      have := List.all_eq_true.1 ha _ hm
      cases hx : e[k]'hlt with
      | t y => exact ⟨y, by rw [List.getElem?_eq_getElem hlt, hx]⟩
      | row s r => rw [hx] at this; cases this
    have hw : wr nest M (.ptr id n j 0) k (.t x) = some (upd M id (some (.vec fl sz (es.set j (e.set k (.t x)))))) := by
      show wr0 false M (.ptr id n j 0) k (.t x) = _
      unfold wr0
      simp only [hM, toC, Option.bind_some, if_pos hn, he, Nat.zero_add, hy, C.isT, Bool.and_true]
    simp only [List.map_cons, wrs, hw, Option.bind_some]
    have hj := (List.getElem?_eq_some_iff.1 he).1
    rw [wrs_wide ts (k + 1) (e.set k (.t x)) (es.set j (e.set k (.t x))) _ (upd_same ..) (by simpa using hn) (by rw [List.getElem?_set_self hj]) (by simp at hk ⊢; omega) (List.all_eq_true.2 fun c hc => by
      rcases List.mem_or_eq_of_mem_set hc with hc | rfl
      · exact List.all_eq_true.1 ha c hc
      · rfl)]
    congr 1
    have e1 : (e.set k (C.t x)).take (k + 1) ++ ts.map C.t = e.take k ++ C.t x :: ts.map C.t := by
      rw [List.take_add_one, List.take_set_of_le (Nat.le_refl k), List.getElem?_set_self hlt]
      simp
    rw [e1, List.set_set]
    funext i
    unfold upd
    split <;> rfl
theorem wrs_sim {nest : Bool} {p : V} (vs : List V) (M : Mem) : Sim E (wrsM nest M p vs) (wrs nest M p 0 vs) := by
  unfold wrsM
  split
  · rename_i id n j
    split
    · rename_i fl sz es ts hM hts
      refine .must fun hb => .get fun e he => ?_
      split
      · rename_i hc
        refine .nrm (.pure ?_)
        rw [tOf_map hts, wrs_wide ts 0 e es M hM (of_decide_eq_true hb) he (by omega) hc.2]
        simp
      · exact wrs0_sim _ _ _
    · exact wrs0_sim _ _ _
  · exact wrs0_sim _ _ _
theorem nrmV_sim {x : Option V} : Sim E (nrmV x) x := by
  unfold nrmV
  split
  · exact .nrm (.pure rfl)
  · exact .pure rfl
  · exact .fail
theorem bin_sim {P : Program} {op : BinOp} {t : TypeId} {x y : V} : Sim E (binM P op t x y) (bin P op t x y) := by
  unfold binM
  split
  · refine .must fun hb => .nrm (.pure ?_)
    simp only [bin, strBin]
    rw [if_pos (of_decide_eq_true hb)]; rfl
  · split
    · rename_i hk
      subst hk
      refine .must fun hb => .nrm (.pure ?_)
      have hb := of_decide_eq_true hb
      simp [bin, intBin, hb]
    · exact .fail
  · split
    · rename_i hk
      subst hk
      refine .must fun hb => .nrm (.pure ?_)
      have hb := of_decide_eq_true hb
      simp [bin, intBin, hb]
    · exact .fail
  · refine .must fun hb => .nrm (.pure ?_)
    have hb := of_decide_eq_true hb
    simp only [bin]
    rw [if_neg (by omega)]
    rfl
  · refine .must fun hb => .nrm (.pure ?_)
    have hb := of_decide_eq_true hb
    simp only [bin]
    rw [if_neg (by omega)]
    rfl
  · split
    · exact nrmV_sim
    · rename_i hx
      refine .must fun hb => ?_
      have e : bin P op t x (.t .nils) = binN P op t := by
        have hb := of_decide_eq_true hb
        cases x with
        | t x =>
          cases x with
          | seq sz es => simp only [bin]; rw [if_pos hb]
          | nils => exact (hx rfl).elim
          | _ => simp [lenN] at hb
        | vec => simp only [bin]; rw [if_pos hb]
        | row => simp only [bin]; rw [if_pos hb]
        | _ => simp [lenN] at hb
      rw [e]
      exact .opt
  · exact nrmV_sim
theorem idxA_sim {sz : Nat} {x i : V} : Sim E (idxAM sz x i) (idxA sz x i) := by
  unfold idxAM idxA
  cases i with
  | t i =>
    cases i with
    | int k i =>
      dsimp only
      cases x with
      | t x =>
        cases x with
        | seq sz' es =>
          dsimp only
          split
          · rename_i hs
            refine .get fun e he => .pure ?_
            unfold lkp at he
            split at he
            · rename_i hi
              rw [if_pos hi, he]; rfl
            · cases he
          · exact .fail
        | _ => exact .fail
      | vec id n sz' off len =>
        dsimp only
        split
        · rename_i hs
          refine .must fun hb => .nrm (.pure ?_)
          have hb := of_decide_eq_true hb
          rw [if_pos hb.1, if_pos ⟨hs, hb.2⟩]
        · exact .fail
      | row id n a b sz' len =>
        dsimp only
        split
        · rename_i hs
          refine .must fun hb => .nrm (.pure ?_)
          have hb := of_decide_eq_true hb
          rw [if_pos hb.1, if_pos ⟨hs, hb.2⟩]
        · exact .fail
      | _ => exact .fail
    | _ => exact .fail
  | _ => exact .fail
theorem idxS_sim {x i : V} : Sim E (idxSM x i) (idxS x i) := by
  unfold idxSM idxS
  split
  · refine .get fun e he => .pure ?_
    unfold lkpS at he
    split at he
    · rename_i hi
      dsimp only
      rw [if_pos hi, he]; rfl
    · cases he
  · exact .fail
theorem natOr_of {d : Nat} {x : Option V} {n : Int} (h : intOr d x = some n) (h0 : 0 ≤ n) : natOr d x = some n.toNat := by
  unfold intOr at h
  split at h
  · obtain rfl := Option.some.inj h; simp [natOr]
  · obtain rfl := Option.some.inj h
    simp [natOr, natV, h0]
  · cases h
theorem sub_sim {sz : Nat} {x : V} {lo hi : Option V} : Sim E (subM sz x lo hi) (sub sz x lo hi) := by
  unfold subM sub
  split
  · refine Sim.opt.sub fun l hl => Sim.opt.sub fun h hh => .must fun hb => .nrm (.pure ?_)
    have hb := of_decide_eq_true hb
    dsimp only
    rw [natOr_of (d := 0) hl hb.1, Option.bind_some, natOr_of hh (by omega), Option.bind_some, if_pos ⟨by omega, by omega⟩]
  · refine Sim.opt.sub fun l hl => Sim.opt.sub fun h hh => .must fun hb => .pure ?_
    have hb := of_decide_eq_true hb
    dsimp only
    rw [natOr_of (d := 0) hl (by omega), Option.bind_some, natOr_of (d := 0) hh (by omega), Option.bind_some, if_pos ⟨by omega, by omega⟩]
  · split
    · rename_i hs
      refine Sim.opt.sub fun l hl => Sim.opt.sub fun h hh => .must fun hb => .nrm (.pure ?_)
      have hb := of_decide_eq_true hb
      dsimp only
      rw [natOr_of (d := 0) hl hb.1, Option.bind_some, natOr_of hh (by omega), Option.bind_some, if_pos ⟨hs, by omega, by omega⟩]
    · exact .fail
  · split
    · rename_i hs
      refine Sim.opt.sub fun l hl => Sim.opt.sub fun h hh => .must fun hb => .nrm (.nrm (.pure ?_))
      have hb := of_decide_eq_true hb
      dsimp only
      rw [natOr_of (d := 0) hl hb.1, Option.bind_some, natOr_of hh (by omega), Option.bind_some, if_pos ⟨hs, by omega, by omega⟩]
    · exact .fail
  · exact .fail
theorem mkLit_sim {nest : Bool} {nb : Nat} {M : Mem} {sz len : Nat} {z : List T} {ps : List (Nat × V)} : Sim E (mkLitM nest nb M sz len z ps) (mkLit nest nb M sz len z ps) := by
  unfold mkLitM mkLit
  split
  · exact Sim.opt.bind fun vs _ => (toCss_sim _ M).bind fun p _ => Sim.opt.map
  · exact .fail
theorem mkMake_sim {nb : Nat} {M : Mem} {sz bytes : Nat} {z : List T} {l c : V} : Sim E (mkMakeM nb M sz bytes z l c) (mkMake nb M sz bytes z l c) := by
  unfold mkMakeM mkMake
  split
  · rename_i k n k' m
    split
    · rename_i hc
      refine .must fun hb => ?_
      have hb := of_decide_eq_true hb
      simp only [natV]
      rw [if_pos hb.1, Option.bind_some, if_pos (by omega), Option.bind_some, if_pos ⟨hc.1, hc.2.1, by omega, by unfold room; omega, hc.2.2⟩]
      exact .nrm (.nrm Sim.opt.map)
    · exact .fail
  · exact .fail
theorem src_sim {M : Mem} {sz : Nat} {x : V} : Sim E (srcM M sz x) (src M sz x) := by
  unfold srcM src
  split
  · exact .pure rfl
  · split
    · rename_i h; exact .pure (by first | (dsimp only; rw [if_pos h]; done) | rfl | (subst h; rfl))
    · exact .fail
  · split
    · rename_i h; exact .pure (by first | (dsimp only; rw [if_pos h]; done) | rfl | (subst h; rfl))
    · exact .fail
  · rename_i id n sz' off len
    dsimp only
    cases M id with
    | none => exact .fail
    | some ob =>
      cases ob with
      | vec fl sz'' es =>
        dsimp only
        split
        · rename_i hc
          refine .must fun hb => .pure ?_
          have hb := of_decide_eq_true hb
          rw [if_pos ⟨hb.1, hc.1, hc.2.1, hb.2, hc.2.2⟩]
        · exact .fail
      | _ => exact .fail
  · exact .fail
theorem app0_sim {M : Mem} {sz id n len : Nat} {es xs : List (List C)} : Sim E (app0M M sz id n len es xs) (some (app0 M sz id n len es xs)) := by
  unfold app0M app0
  refine .br (.nrm ?_)
  by_cases h : len + xs.length ≤ n
  · rw [if_pos h, decide_eq_true h]
    exact .nrm (.pure rfl)
  · rw [if_neg h, decide_eq_false h]
    exact .nrm (.pure rfl)
theorem app_sim {nb : Nat} {M : Mem} {sz bytes : Nat} {s x : V} : Sim E (appM nb M sz bytes s x) (app nb M sz bytes s x) := by
  unfold appM app
  split
  · refine src_sim.bind fun xs _ => ?_
    split
    · refine .must fun hb => .nrm (.nrm ?_)
      dsimp only
      rw [if_pos (show xs.length ≤ room by unfold room; exact of_decide_eq_true hb)]
      exact Sim.opt.map
    · rename_i id n sz' off len
      dsimp only
      cases M id with
      | none => exact .fail
      | some ob =>
        cases ob with
        | vec fl' sz'' es =>
          dsimp only
          split
          · rename_i hc
            refine .must fun hb => ?_
            have hb := of_decide_eq_true hb
            rw [if_pos (show es.length = n ∧ sz' = sz ∧ sz'' = sz ∧ off + len ≤ n ∧ len + xs.length ≤ room ∧ fl' = true from ⟨hb.1, hc.1, hc.2.1, hb.2.1, by unfold room; exact hb.2.2, hc.2.2⟩)]
            by_cases h0 : off = 0
            · simp only [if_pos h0]; exact app0_sim
            · simp only [if_neg h0]
              refine .must fun hb2 => ?_
              rw [if_pos (of_decide_eq_true hb2)]
              refine Sim.opt.sub fun M2 h2 => ?_
              rw [h2]
              exact app0_sim
          · exact .fail
        | _ => exact .fail
    · exact .fail
  · exact .fail
theorem clr_sim {M : Mem} {sz : Nat} {z : List T} {x : V} : Sim E (clrM M sz z x) (clr M sz z x) := by
  unfold clrM clr
  split
  · rename_i id n sz' off len
    dsimp only
    cases M id with
    | none => exact .fail
    | some ob =>
      cases ob with
      | vec fl sz'' es =>
        dsimp only
        split
        · rename_i hc
          refine .must fun hb => .nrm (.pure ?_)
          have hb := of_decide_eq_true hb
          rw [if_pos ⟨hb.1, hc.1, hc.2.1, hb.2, hc.2.2.1, hc.2.2.2⟩]
        · exact .fail
      | _ => exact .fail
  · exact .fail
theorem prepM_sim : ∀ (vs : List V) (ms : List Mode) (M : Mem), Sim E (prepMM ms vs M) (prepM ms vs M)
  | [], ms, M => by cases ms with | nil => exact .pure rfl | cons m ms => cases m <;> exact .pure rfl
  | v :: vs, ms, M => by
    cases ms with
    | nil => exact (prepM_sim vs _ M).map
    | cons m ms =>
      cases m with
      | move => exact (mvV_sim v).bind fun p _ => (prepM_sim vs ms p.2).map
      | pass => exact (prepM_sim vs ms M).map
      | borrow => exact (prepM_sim vs ms M).map
theorem prepB_sim {M : Mem} : ∀ (vs : List V) (ms : List Mode), Sim E (prepBM M ms vs) (prepB M ms vs)
  | [], ms => by cases ms with | nil => exact .pure rfl | cons m ms => cases m <;> exact .pure rfl
  | v :: vs, ms => by
    cases ms with
    | nil => exact (prepB_sim vs _).map
    | cons m ms =>
      cases m with
      | borrow => exact (fzV_sim v).bind fun p _ => (prepB_sim vs ms).map
      | pass => exact (prepB_sim vs ms).map
      | move => exact (prepB_sim vs ms).map
theorem merge_sim {L : List Nat} {nb : Nat} {B : List Nat} {M : Mem} {out : Out} : Sim E (mergeM L nb B M out) (merge L nb B M out) := by
  unfold mergeM merge
  cases out with
  | val v H =>
    dsimp only
    have key : (B.isEmpty = true ∨ (v.flat && H.all Ob.flat) = true) → Sim E (bnd (optM (putL (back L nb) M L H)) fun p => if p.2.length ≤ 8 then bnd (optM (putNew (back L nb) p.1 nb p.2)) fun M2 => pureM (v.ren (back L nb), M2) else failM)
        (if B.isEmpty = true ∨ (v.flat && H.all Ob.flat) = true then (putL (back L nb) M L H).bind fun (M1, new) => if new.length ≤ 8 then (putNew (back L nb) M1 nb new).map fun M2 => (v.ren (back L nb), M2) else none else none) := fun h => by
      rw [if_pos h]
      refine Sim.opt.bind fun p _ => ?_
      obtain ⟨M1, new⟩ := p
      dsimp only
      split
      · exact Sim.opt.map
      · exact .fail
    cases hB : B.isEmpty with
    | true => rw [hB] at key; exact (Sim.pure (a := ()) (x := some ()) rfl).sub fun _ _ => key (.inl rfl)
    | false => rw [hB] at key; exact .must fun hb => key (.inr hb)
  | _ => exact .fail
theorem callE_sim {pr : Pr} {f : FuncId} {args : List V} {M : Mem} {nb : Nat} : Sim E (callEM pr f args M nb) (callE pr E f args M nb fun v M => some (v, M)) := by
  unfold callEM callE
  refine (prepM_sim args _ M).bind fun p _ => (prepB_sim p.1 _).bind fun q _ => Sim.opt.bind fun B _ => Sim.opt.bind fun L _ => ?_
  dsimp only
  cases B.all (fun i => !L.contains i) with
  | false => exact .fail
  | true =>
    simp only [cond_true]
    refine Sim.ask.bind fun out _ => ?_
    have : (merge L nb B p.2 out) = (merge L nb B p.2 out).bind fun x => some (x.1, x.2) := by cases merge L nb B p.2 out <;> rfl
    rw [← this]
    exact merge_sim
theorem callV_sim {pr : Pr} {fv : V} {args : List V} {M : Mem} {nb : Nat} : Sim E (callVM pr fv args M nb) (callV pr E fv args M nb fun v M => some (v, M)) := by
  unfold callVM callV
  split <;> first | exact callE_sim | exact .fail
/-- What is told of the tests is so. -/
def Kn.ok (kn : Kn) (env : Nat → V) : Prop := ∀ p ∈ kn, env p.1 = .t (.bool p.2)
theorem kn_at {kn : Kn} {env : Nat → V} (h : kn.ok env) {t : Nat} {v : Bool} (ha : kn.at t = some v) : env t = .t (.bool v) := by
  induction kn with
  | nil => cases ha
  | cons p kn ih =>
    obtain ⟨x, y⟩ := p
    simp only [Kn.at] at ha
    split at ha
    · rename_i e
      obtain rfl := Option.some.inj ha
      subst e
      exact h (x, y) (by simp)
    · exact ih (fun q hq => h q (by simp [hq])) ha
theorem opM_sim {pr : Pr} {nest : Bool} {kn : Kn} {o : Oper} {s : S} (hk : kn.ok s.env) : Sim E (opM pr nest kn o s) (opK pr E nest o s fun v M => some (v, M)) := by
  have eta : ∀ {y : Option (V × Mem)}, (y.bind fun x => some (x.1, x.2)) = y := fun {y} => by cases y <;> rfl
  obtain ⟨dst, op, type, pos, after, guard⟩ := o
  unfold opM opK
  cases op <;> dsimp only
  case move x => exact Sim.opt.bind fun v _ => .pure rfl
  case assign x => exact Sim.opt.bind fun v _ => .pure rfl
  case pick c a b =>
    refine Sim.opt.sub fun va ha => Sim.opt.sub fun vb hb => ?_
    rw [ha, hb]
    cases hg : kget kn c with
    | some y =>
      cases c with
      | tmp t =>
        have : arg s.env (.tmp t) = some (.t (.bool y)) := congrArg some (kn_at hk hg)
        rw [this]
        exact .pure rfl
      | _ => cases hg
    | none =>
      refine Sim.opt.bind fun c _ => ?_
      cases c with
      | t x => cases x <;> first | exact .br (.pure rfl) | exact .fail
      | _ => exact .fail
  case alloc t => exact Sim.opt.bind fun z _ => by rw [eta]; exact .opt
  case box t x => exact Sim.opt.bind fun z _ => by rw [eta]; exact .opt
  case build t ps =>
    cases !structOk pr.P t with
    | true => exact .fail
    | false => exact Sim.opt.bind fun ps _ => Sim.opt.bind fun z _ => Sim.opt.bind fun vs _ => .pure rfl
  case buildSlice t n ps => exact Sim.opt.bind fun ps _ => Sim.opt.bind fun e _ => Sim.opt.bind fun sz _ => Sim.opt.bind fun z _ => by rw [eta]; exact mkLit_sim
  case load t a => exact Sim.opt.bind fun p _ => Sim.opt.bind fun ag _ => Sim.opt.bind fun n _ => ld_sim.bind fun v _ => .pure rfl
  case store t a x =>
    refine Sim.opt.bind fun p _ => Sim.opt.bind fun v _ => Sim.opt.bind fun n _ => ?_
    split
    · exact (wrs_sim _ _).bind fun M' _ => .pure rfl
    · exact .fail
  case nilCheck x => exact Sim.opt.bind fun v _ => Sim.opt.bind fun v _ => .pure rfl
  case binOp op t x y _ => exact Sim.opt.bind fun a _ => Sim.opt.bind fun b _ => bin_sim.bind fun v _ => .pure rfl
  case unOp op t x => exact Sim.opt.bind fun a _ => nrmV_sim.bind fun v _ => .pure rfl
  case convert src dst x => exact Sim.opt.bind fun a _ => nrmV_sim.bind fun v _ => .pure rfl
  case makeFunc fn first captured =>
    cases fn with
    | func f =>
      dsimp only
      split
      · refine Sim.opt.bind fun vs _ => ?_
        cases vs.mapM tOf <;> exact .pure rfl
      · exact .fail
    | _ => exact .fail
  case makeSlice t l c => exact Sim.opt.bind fun l _ => Sim.opt.bind fun c _ => Sim.opt.bind fun e _ => Sim.opt.bind fun sz _ => Sim.opt.bind fun z _ => Sim.opt.bind fun i _ => by rw [eta]; exact mkMake_sim
  case slice t x lo hi mx =>
    refine Sim.opt.bind fun v _ => Sim.opt.bind fun lo _ => Sim.opt.bind fun hi _ => Sim.opt.bind fun mx _ => ?_
    cases hmx : (maxOk v mx && (mx.isNone || hi.isSome)) with
    | false =>
      cases mx with
      | none => simp [maxOk] at hmx
      | some m => exact .must fun hb => by cases hb
    | true =>
      simp only [Bool.not_true, cond_false]
      refine Sim.sub (y := some ()) ?_ fun _ _ => ?_
      · cases mx with
        | none => exact .pure rfl
        | some m => exact fun k r hr => ⟨(), rfl, hr⟩
      · cases pr.P.underlying t with
        | none => exact .fail
        | some ty =>
          cases ty with
          | slice e =>
            cases v with
            | t x => cases x <;> first | exact .fail | exact Sim.opt.bind fun sz _ => sub_sim.bind fun v _ => .pure rfl
            | _ => exact Sim.opt.bind fun sz _ => sub_sim.bind fun v _ => .pure rfl
          | string =>
            cases v with
            | t x => cases x <;> first | exact .fail | exact sub_sim.bind fun v _ => .pure rfl
            | _ => exact .fail
          | _ => exact .fail
  case fieldAddr t x f =>
    refine Sim.opt.bind fun p _ => Sim.opt.bind fun fi _ => ?_
    split
    · exact .fail
    · exact Sim.opt.bind fun v _ => .pure rfl
  case field t x f => exact Sim.opt.bind fun p _ => Sim.opt.bind fun fi _ => Sim.opt.bind fun v _ => .pure rfl
  case indexAddr t x i =>
    refine Sim.opt.bind fun x _ => Sim.opt.bind fun i _ => Sim.opt.bind fun e _ => Sim.opt.bind fun sz _ => ?_
    split
    · exact .fail
    · exact idxA_sim.bind fun v _ => .pure rfl
  case index t x i =>
    refine Sim.opt.bind fun x _ => Sim.opt.bind fun i _ => ?_
    cases pr.P.underlying t with
    | none => exact .fail
    | some ty => cases ty <;> first | exact .fail | exact idxS_sim.bind fun v _ => .pure rfl
  case extract x i => exact Sim.opt.bind fun x _ => Sim.opt.bind fun v _ => .pure rfl
  case call c =>
    cases hce : c.callee with
    | builtin b =>
      cases b <;> first | exact .fail | skip
      case len =>
        refine Sim.opt.bind fun vs _ => ?_
        cases (c.argTypes[0]?).bind pr.P.underlying with
        | none =>
          match vs with
          | [] => exact .fail
          | [v] => cases v with
            | t x => cases x <;> exact .fail
            | _ => exact .fail
          | v :: _ :: _ => cases v with
            | t x => cases x <;> exact .fail
            | _ => exact .fail
        | some ty =>
          match vs with
          | [] => cases ty <;> exact .fail
          | [v] => cases v with
            | t x => cases x <;> cases ty <;> first | exact .fail | exact nrmV_sim.bind fun v _ => .pure rfl
            | _ => cases ty <;> first | exact .fail | exact nrmV_sim.bind fun v _ => .pure rfl
          | v :: _ :: _ => cases v with
            | t x => cases x <;> cases ty <;> exact .fail
            | _ => cases ty <;> exact .fail
      case append =>
        refine Sim.opt.bind fun vs _ => ?_
        match vs, c.argTypes[0]?, c.argTypes[1]? with
        | [a, b], some t, some u =>
          have key : Sim E (bnd (optM (elemT pr.P t)) fun e => bnd (optM (szT pr.P e)) fun sz => bnd (optM (pr.P.info? e)) fun i => bnd (optM (zeroT pr.P e)) fun z =>
              if z.length = sz then appM (1000 + 8 * dst.getD 0) s.mem sz i.bytes a b else failM)
            ((elemT pr.P t).bind fun e => (szT pr.P e).bind fun sz => (pr.P.info? e).bind fun i => (zeroT pr.P e).bind fun z =>
              if z.length = sz then (app (1000 + 8 * dst.getD 0) s.mem sz i.bytes a b).bind fun x => some (x.1, x.2) else none) := by
            refine Sim.opt.bind fun e _ => Sim.opt.bind fun sz _ => Sim.opt.bind fun i _ => Sim.opt.bind fun z _ => ?_
            by_cases hz : z.length = sz
            · simp only [if_pos hz]; rw [eta]; exact app_sim
            · simp only [if_neg hz]; exact .fail
          dsimp only
          cases pr.P.underlying u with
          | none => exact .fail
          | some ty => cases ty <;> first | exact .fail | exact key
        | [], _, _ => exact .fail
        | [_], _, _ => exact .fail
        | _ :: _ :: _ :: _, _, _ => exact .fail
        | [_, _], none, _ => exact .fail
        | [_, _], some _, none => exact .fail
      case clear =>
        refine Sim.opt.bind fun vs _ => ?_
        match vs, c.argTypes[0]? with
        | [a], some t => exact Sim.opt.bind fun e _ => Sim.opt.bind fun sz _ => Sim.opt.bind fun z _ => clr_sim.bind fun M' _ => .pure rfl
        | [], _ => exact .fail
        | _ :: _ :: _, _ => exact .fail
        | [_], none => exact .fail
      case max => exact Sim.opt.bind fun vs _ => nrmV_sim.bind fun v _ => .pure rfl
      case min => exact Sim.opt.bind fun vs _ => nrmV_sim.bind fun v _ => .pure rfl
    | value x =>
      cases x with
      | func f => exact Sim.opt.bind fun vs _ => callE_sim
      | _ => exact Sim.opt.bind fun fv _ => Sim.opt.bind fun vs _ => callV_sim
    | invoke r m => exact .fail
  all_goals exact .fail
end Go.Ev

/- The evaluator, twenty-fifth text: the tree of questions, code; what a trace shows. -/
namespace Go.Ev
set_option linter.unusedVariables false
set_option linter.unusedSimpArgs false
set_option linter.unusedVariables false
set_option linter.unusedSimpArgs false
variable {E : Q → Option Out}
section
variable {pr : Pr} {frz : List Nat} {nest : Bool} {nt : Nat} {ops : Array Oper}
theorem fin_sim {o : Oper} {s : S} {p : V × Mem} : Sim E (finM nt o s p) (fin nt o s p.1 p.2 some) := by
  unfold finM fin
  cases o.dst with
  | none => exact .pure rfl
  | some d =>
    dsimp only
    by_cases h : d < nt
    · rw [if_pos h, if_pos h, seqV_eq]; exact .pure rfl
    · rw [if_neg h, if_neg h]; exact .fail
theorem opF_sim {kn : Kn} {o : Oper} {s : S} (hk : kn.ok s.env) : Sim E (opFM pr frz nest kn o s) (opFK pr E frz nest o s fun v M => some (v, M)) := by
  unfold opFM opFK
  cases (o.dst.any fun d => frz.contains d) with
  | false => exact opM_sim hk
  | true =>
    simp only [cond_true]
    rw [opK_bind]
    refine (opM_sim hk).bind fun p _ => (mvV_sim p.1).bind fun q _ => Sim.opt.bind fun L _ => ?_
    cases L.all (fun id => bound o ≤ id && id < bound o + 8) with
    | false => exact .fail
    | true => exact .pure rfl
/-- A question of tests: its answer, and what is known behind. -/
def SimK (E : Q → Option Out) (env : Nat → V) (m : Mo (Bool × Kn)) (x : Option Bool) : Prop := ∀ k r, interp E (m k) = some r → ∃ y kn, x = some y ∧ Kn.ok kn env ∧ interp E (k (y, kn)) = some r
theorem SimK.sub {env : Nat → V} {β : Type} {m : Mo (Bool × Kn)} {x : Option Bool} {f : Bool × Kn → Mo β} {y : Option β} (h : SimK E env m x) (hf : ∀ b kn, x = some b → Kn.ok kn env → Sim E (f (b, kn)) y) : Sim E (bnd m f) y := fun k r hr => by
  obtain ⟨b, kn, h1, h2, h3⟩ := h _ r hr
  exact hf b kn h1 h2 k r h3
theorem wanted1_sim {kn : Kn} {o : Oper} {s : S} (hk : kn.ok s.env) : SimK E s.env (wanted1M ops kn o s) (wanted1 ops o s) := by
  unfold wanted1M wanted1
  cases o.guard with
  | none => exact fun k r hr => ⟨true, kn, rfl, hk, hr⟩
  | some g =>
    obtain ⟨j, b⟩ := g
    unfold wantM wantV
    dsimp only
    cases (ops[j]?).bind (·.dst) with
    | none => exact fun k r hr => by cases hr
    | some t =>
      dsimp only
      cases hv : kn.at t with
      | some v => rw [kn_at hk hv]; exact fun k r hr => ⟨v == b, kn, rfl, hk, hr⟩
      | none =>
        dsimp only
        cases he : s.env t with
        | t x =>
          cases x with
          | bool c =>
            refine fun k r hr => ⟨c == b, (t, c) :: kn, rfl, fun p hp => ?_, hr⟩
            rcases List.mem_cons.1 hp with rfl | hp
            · exact he
            · exact hk p hp
          | _ => exact fun k r hr => by cases hr
        | tup vs =>
          cases vs with
          | nil => exact fun k r hr => ⟨false, kn, rfl, hk, hr⟩
          | cons x y => exact fun k r hr => by cases hr
        | _ => exact fun k r hr => by cases hr
theorem op1_sim {kn : Kn} {o : Oper} {s : S} {y : Bool} (hk : kn.ok s.env) (hw : wanted1 ops o s = some y) : Sim E (op1M pr nt frz nest o y kn s) (op1K pr E nt frz nest ops o s some) := by
  unfold op1M op1K
  unfold wanted1 at hw
  cases hg : o.guard with
  | none =>
    rw [hg] at hw
    obtain rfl := Option.some.inj hw
    dsimp only
    rw [opFK_bind]
    exact (opF_sim hk).bind fun p _ => fin_sim
  | some g =>
    obtain ⟨j, b⟩ := g
    rw [hg] at hw
    dsimp only at hw ⊢
    rw [hw, Option.bind_some]
    cases y with
    | true => exact (opF_sim hk).bind fun p _ => fin_sim
    | false => exact fin_sim (p := (.tup [], s.mem))
theorem drop_ok {kn : Kn} {o : Oper} {s s' : S} (hk : kn.ok s.env) (h : op1K pr E nt frz nest ops o s some = some s') : (kn.drop o.dst).ok s'.env := by
  have key : ∀ v M, fin nt o s v M some = some s' → (kn.drop o.dst).ok s'.env := fun v M hf => by
    unfold fin at hf
    unfold Kn.drop
    cases hd : o.dst with
    | none => rw [hd] at hf; obtain rfl := Option.some.inj hf; exact hk
    | some d =>
      rw [hd] at hf
      dsimp only at hf ⊢
      split at hf
      · obtain rfl := Option.some.inj hf
        intro p hp
        rw [List.mem_filter] at hp
        have hne : p.1 ≠ d := by simpa using hp.2
        show upd s.env d v p.1 = _
        rw [upd_ne _ _ hne]
        exact hk p hp.1
      · cases hf
  unfold op1K at h
  split at h
  · rw [opFK_bind] at h
    obtain ⟨p, _, h⟩ := Option.bind_eq_some_iff.1 h
    exact key _ _ h
  · obtain ⟨y, _, h⟩ := Option.bind_eq_some_iff.1 h
    obtain ⟨p, _, h⟩ := Option.bind_eq_some_iff.1 h
    exact key _ _ h
theorem ops_sim : ∀ (l : List Nat) (kn : Kn) (s : S), kn.ok s.env → Sim E (opsM pr nt frz nest ops l kn s) (opsK pr E nt frz nest ops l s some)
  | [], kn, s, _ => .pure rfl
  | i :: r, kn, s, hk => by
    simp only [opsM, opsK]
    cases ops[i]? with
    | none => exact .fail
    | some o =>
      dsimp only
      rw [op1K_bind]
      exact (wanted1_sim hk).sub fun y kn' hy hk' => (op1_sim hk' hy).bind fun s' hs => ops_sim r _ s' (drop_ok hk' hs)
theorem opsD_sim {bm : Array Nat} : ∀ (l : List Nat) (log : List (Nat × Lg)) (kn : Kn) (s : S), kn.ok s.env → Sim E (opsDM pr nt frz nest ops bm l log kn s) (opsD pr E nt frz nest ops bm l log s some)
  | [], log, kn, s, _ => .pure rfl
  | i :: r, log, kn, s, hk => by
    simp only [opsDM, opsD]
    cases ops[i]? with
    | none => exact .fail
    | some o =>
      dsimp only
      refine (wanted1_sim hk).sub fun y kn' hy hk' => ?_
      rw [hy, Option.bind_some]
      refine Sim.opt.bind fun t _ => ?_
      rw [op1K_bind]
      refine (op1_sim hk' hy).bind fun s' hs => .must fun hc => ?_
      rw [hc]
      exact opsD_sim r _ _ s' (drop_ok hk' hs)
theorem loop_sim {l : LoopQ} {s : S} : Sim E (loopM l s) (loopE E l s) := Sim.opt.bind fun s1 _ => Sim.opt.bind fun s2 _ => .ask
theorem exec_sim {f : FuncId} : ∀ (x : Ann) (c : Code) (s : S), Sim E (execM pr f nt frz nest x c s) (exec pr E f nt frz nest x c s some)
  | .cut live x, c, s => by simp only [execM, exec, seqP_eq]; exact exec_sim x c _
  | .seq x y, c, s => by
    cases c <;> simp only [execM, exec] <;> first | exact .fail | skip
    rename_i a b
    rw [exec_bind pr E f nt frz nest x a s Out]
    refine (exec_sim x a s).bind fun o _ => ?_
    cases o <;> first | exact .pure rfl | exact exec_sim y b _
  | .cond x y, c, s => by
    cases c <;> simp only [execM, exec] <;> first | exact .fail | skip
    rename_i c a b
    refine Sim.opt.bind fun v _ => ?_
    cases v with
    | t v =>
      cases v with
      | bool t =>
        refine .br ?_
        cases t with
        | true => exact exec_sim x a s
        | false => exact exec_sim y b s
      | _ => exact .fail
    | _ => exact .fail
  | .block x, c, s => by
    cases c <;> simp only [execM, exec] <;> first | exact .fail | skip
    rename_i id c
    rw [exec_bind pr E f nt frz nest x c s Out]
    refine (exec_sim x c s).bind fun o _ => ?_
    cases o with
    | exit id' s' =>
      dsimp only
      by_cases h : id' = id
      · rw [if_pos h, if_pos h]; exact .pure rfl
      · rw [if_neg h, if_neg h]; exact .pure rfl
    | _ => exact .pure rfl
  | .loop live after rets thaw x, c, s => by
    cases c <;> simp only [execM, exec] <;> first | exact .fail | skip
    rename_i c
    have : ((loopE E ⟨f, live, after, rets, thaw, x, c⟩ s).bind some) = loopE E ⟨f, live, after, rets, thaw, x, c⟩ s := by cases loopE E ⟨f, live, after, rets, thaw, x, c⟩ s <;> rfl
    rw [this]
    exact loop_sim
  | .n, c, s => by
    cases c with
    | region id ops draw =>
      cases draw with
      | false => simp only [execM, exec]; rw [opsK_bind]; exact (ops_sim _ _ _ (fun p hp => by cases hp)).bind fun s' _ => .pure rfl
      | true =>
        simp only [execM, exec]
        cases drawOk ops with
        | false => exact .fail
        | true => simp only [cond_true]; rw [opsD_bind]; exact (opsD_sim _ _ _ _ (fun p hp => by cases hp)).bind fun s' _ => .pure rfl
    | _ => first | exact .fail | (simp only [execM, exec]; exact .pure rfl)
theorem res_sim {P : Program} {M : Mem} {env : Nat → V} : ∀ rs : List ResultVar, Sim E (resM P M env rs) (resV P M env rs)
  | [] => .pure rfl
  | .tmp t :: r => (res_sim r).map
  | .cell a t :: r => Sim.opt.bind fun ag _ => Sim.opt.bind fun n _ => ld_sim.bind fun v _ => (res_sim r).map
theorem ret_sim {pol : Pol} {fn : Func} {s : S} : Sim E (retM pr pol fn s) (retK pr pol fn s) := by
  unfold retM retK
  refine (res_sim _).bind fun vs _ => ?_
  have key : Sim E (bif pol.own then pureM (softR pol.soft (one vs), s.mem) else mvVM s.mem (softR pol.soft (one vs))) (bif pol.own then some (softR pol.soft (one vs), s.mem) else mvV s.mem (softR pol.soft (one vs))) := by
    cases pol.own with
    | true => exact .pure rfl
    | false => exact mvV_sim _
  refine key.bind fun p _ => Sim.opt.bind fun q _ => ?_
  obtain ⟨vs, H⟩ := q
  dsimp only
  match vs with
  | [] => exact .fail
  | [v] => exact .pure rfl
  | _ :: _ :: _ => exact .fail
theorem step_sim : ∀ q : Q, Sim E (stepM pr q) (step pr E q)
  | .call f args H => by
    simp only [stepM, step]
    cases !callable pr.P f with
    | true => exact .fail
    | false =>
      simp only [cond_false]
      cases pr.prim f with
      | some p => exact Sim.opt.map
      | none =>
        dsimp only
        cases pr.P.funcs[f]? with
        | none => exact .fail
        | some fn =>
          refine Sim.opt.bind fun c _ => ?_
          by_cases h : args.length ≤ fn.ntmps
          · rw [if_pos h, if_pos h, exec_bind]
            refine (exec_sim _ _ _).bind fun o _ => ?_
            cases o <;> first | exact ret_sim | exact .fail
          · rw [if_neg h, if_neg h]; exact .fail
  | .loop l s => by
    simp only [stepM, step]
    rw [exec_bind]
    refine (exec_sim _ _ _).bind fun o _ => ?_
    cases o with
    | next s' => exact loop_sim
    | exit id s' => exact Sim.opt.map
    | ret s' => exact Sim.opt.map
    | val _ _ => exact .fail
theorem tree_sim {q : Q} {o : Out} (h : interp E (tree pr q) = some o) : step pr E q = some o := by
  obtain ⟨v, h1, h2⟩ := step_sim q .ret o h
  rw [h1]; exact h2
end
/-! Traces. -/
inductive Tr where
  | b (b v : Bool)
  | m (b : Bool)
  | n (t : Ty) (x y : t.ty)
  | g (t : Ty) (x : Option t.ty) (y : t.ty)
  | a (q : Q) (o : Out)
def Tr.says (E : Q → Option Out) : Tr → Prop
  | .b c v => c = v
  | .m c => c = true
  | .n _ x y => x = y
  | .g _ x y => x = some y
  | .a q o => E q = some o
def chk : Fm → List Tr → Out → Prop
  | .ret o, [], r => o = r
  | .br b k, .b b' v :: l, r => b = b' ∧ chk (k v) l r
  | .must b k, .m b' :: l, r => b = b' ∧ chk k l r
  | .nrm t x k, .n t' x' y :: l, r => if h : t' = t then x = h ▸ x' ∧ chk (k (h ▸ y)) l r else False
  | .get t x k, .g t' x' y :: l, r => if h : t' = t then x = h ▸ x' ∧ chk (k (h ▸ y)) l r else False
  | .ask q k, .a q' o :: l, r => q = q' ∧ chk (k o) l r
  | _, _, _ => False
def good : List Tr → Out → Prop
  | [], r => r = r
  | .b b v :: l, r => b = b ∧ good l r
  | .m b :: l, r => b = b ∧ good l r
  | .n _ x y :: l, r => x = x ∧ good l r
  | .g _ x y :: l, r => x = x ∧ good l r
  | .a q o :: l, r => q = q ∧ good l r
theorem good_ok : ∀ (l : List Tr) (r : Out), good l r
  | [], r => rfl
  | .b b v :: l, r => ⟨rfl, good_ok l r⟩
  | .m b :: l, r => ⟨rfl, good_ok l r⟩
  | .n _ x y :: l, r => ⟨rfl, good_ok l r⟩
  | .g _ x y :: l, r => ⟨rfl, good_ok l r⟩
  | .a q o :: l, r => ⟨rfl, good_ok l r⟩
theorem chk_sound : ∀ (F : Fm) (l : List Tr) (r : Out), chk F l r → (∀ x ∈ l, x.says E) → interp E F = some r := by
  intro F
  induction F with
  | fail => intro l r h _; cases l <;> exact h.elim
  | ret o => intro l r h _; cases l with | nil => exact congrArg some h | cons x l => cases x <;> exact h.elim
  | ask q k ih =>
    intro l r h hs
    cases l with
    | nil => exact h.elim
    | cons x l =>
      cases x with
      | a q' o =>
        obtain ⟨rfl, h⟩ := h
        have : E q = some o := hs (.a q o) (by simp)
        simp only [interp, this, Option.bind_some]
        exact ih o l r h fun x hx => hs x (by simp [hx])
      | _ => exact h.elim
  | br b k ih =>
    intro l r h hs
    cases l with
    | nil => exact h.elim
    | cons x l =>
      cases x with
      | b b' v =>
        obtain ⟨rfl, h⟩ := h
        have : b = v := hs (.b b v) (by simp)
        simp only [interp]
        rw [this]
        exact ih v l r h fun x hx => hs x (by simp [hx])
      | _ => exact h.elim
  | must b k ih =>
    intro l r h hs
    cases l with
    | nil => exact h.elim
    | cons x l =>
      cases x with
      | m b' =>
        obtain ⟨rfl, h⟩ := h
        have : b = true := hs (.m b) (by simp)
        simp only [interp, this, cond_true]
        exact ih l r h fun x hx => hs x (by simp [hx])
      | _ => exact h.elim
  | nrm t x k ih =>
    intro l r h hs
    cases l with
    | nil => exact h.elim
    | cons y l =>
      cases y with
      | n t' x' y =>
        simp only [chk] at h
        split at h
        · rename_i ht
          subst ht
          obtain ⟨rfl, h⟩ := h
          have : x = y := hs (.n _ x y) (by simp)
          simp only [interp]
          rw [this]
          exact ih y l r h fun x hx => hs x (by simp [hx])
        · exact h.elim
      | _ => exact h.elim
  | get t x k ih =>
    intro l r h hs
    cases l with
    | nil => exact h.elim
    | cons y l =>
      cases y with
      | g t' x' y =>
        simp only [chk] at h
        split at h
        · rename_i ht
          subst ht
          obtain ⟨rfl, h⟩ := h
          have : x = some y := hs (.g _ x y) (by simp)
          simp only [interp, this, Option.bind_some]
          exact ih y l r h fun x hx => hs x (by simp [hx])
        · exact h.elim
      | _ => exact h.elim
/-! What a query comes to, with fuel enough. -/
def Ev (pr : Pr) (q : Q) (o : Out) : Prop := ∃ n0, ∀ n, n0 ≤ n → evF pr n q = some o
def Tr.ok (pr : Pr) : Tr → Prop
  | .b c v => c = v
  | .m c => c = true
  | .n _ x y => x = y
  | .g _ x y => x = some y
  | .a q o => Ev pr q o
def oks (pr : Pr) : List Tr → Prop
  | [] => True
  | x :: l => x.ok pr ∧ oks pr l
theorem oks_says {pr : Pr} : ∀ {l : List Tr}, oks pr l → ∃ n0, ∀ n, n0 ≤ n → ∀ x ∈ l, x.says (evF pr n)
  | [], _ => ⟨0, fun n _ x hx => by cases hx⟩
  | x :: l, h => by
    obtain ⟨n1, h1⟩ := oks_says h.2
    have h0 := h.1
    have : ∃ n0, ∀ n, n0 ≤ n → x.says (evF pr n) := by
      cases x with
      | a q o => exact h0
      | b c v => exact ⟨0, fun n _ => h0⟩
      | m c => exact ⟨0, fun n _ => h0⟩
      | n t x y => exact ⟨0, fun n _ => h0⟩
      | g t x y => exact ⟨0, fun n _ => h0⟩
    obtain ⟨n2, h2⟩ := this
    refine ⟨max n1 n2, fun n hn y hy => ?_⟩
    rcases List.mem_cons.1 hy with rfl | hy
    · exact h2 n (by omega)
    · exact h1 n (by omega) y hy
/-- One step of a query, told by a trace. -/
theorem Ev.tr {pr : Pr} {q : Q} {o : Out} (l : List Tr) (hc : good l o = chk (tree pr q) l o) (h : oks pr l) : Ev pr q o := by
  obtain ⟨n0, h0⟩ := oks_says h
  refine ⟨n0 + 1, fun n hn => ?_⟩
  obtain ⟨m, rfl⟩ : ∃ m, n = m + 1 := ⟨n - 1, by omega⟩
  exact tree_sim (chk_sound _ l o (hc ▸ good_ok l o) (h0 m (by omega)))
/-- A trace with its proofs. -/
inductive Tp (pr : Pr) where
  | b {c v : Bool} (h : c = v)
  | m {c : Bool} (h : c = true)
  | i {x y : Int} (h : x = y)
  | c {x y : Nat} (h : x = y)
  | n (t : Ty) {x y : t.ty} (h : x = y)
  | e {x : Option (List T)} {y : List T} (h : x = some y)
  | g (t : Ty) {x : Option t.ty} {y : t.ty} (h : x = some y)
  | a {q : Q} {o : Out} (h : Ev pr q o)
def Tp.tr {pr : Pr} : Tp pr → Tr
  | @Tp.b _ z v _ => .b z v
  | @Tp.m _ z _ => .m z
  | @Tp.i _ x y _ => .n .int x y
  | @Tp.c _ x y _ => .n .nat x y
  | @Tp.n _ t x y _ => .n t x y
  | @Tp.e _ x y _ => .g .row x y
  | @Tp.g _ t x y _ => .g t x y
  | @Tp.a _ q o _ => .a q o
def trs {pr : Pr} : List (Tp pr) → List Tr
  | [] => []
  | x :: l => x.tr :: trs l
theorem trs_ok {pr : Pr} : ∀ l : List (Tp pr), oks pr (trs l)
  | [] => trivial
  | x :: l => ⟨by cases x <;> (rename_i h; exact h), trs_ok l⟩
theorem Ev.tp {pr : Pr} {q : Q} {o : Out} (l : List (Tp pr)) (hc : good (trs l) o = chk (tree pr q) (trs l) o) : Ev pr q o := Ev.tr _ hc (trs_ok l)
end Go.Ev

/- The evaluator, twenty-sixth text: what an argument reads az. -/
namespace Go.Ev
set_option linter.unusedVariables false
set_option linter.unusedSimpArgs false
set_option linter.unusedVariables false
set_option linter.unusedSimpArgs false
/-- Whatever reads az a datum of type t is the cells of some y. -/
def Opens {α : Type} (P : Program) (t : TypeId) (ce : α → List T) (ok : α → Prop) : Prop :=
  ∀ (H : Type) (enc : TypeId × Value → H) (W : World) (fuel : Nat) (cs : List Value) (x : DataW H × List MemPlace),
    DataW.trod enc P W 0 (fun _ => true) true fuel t cs = some x → ∃ y, ok y ∧ cs.length = (ce y).length ∧ ∀ (i : Nat) (u : T) (c : Value), (ce y)[i]? = some u → cs[i]? = some c → RepT W (fun b => b < W.heap.size) u c
theorem one_cell {W : World} {F : Nat → Prop} {u : T} {c : Value} (h : RepT W F u c) : ∀ (i : Nat) (u' : T) (c' : Value), [u][i]? = some u' → [c][i]? = some c' → RepT W F u' c' := by
  intro i u' c' h1 h2
  cases i with
  | zero => obtain rfl : u = u' := by simpa using h1
            obtain rfl : c = c' := by simpa using h2
            exact h
  | succ i => simp at h1
theorem opens_int {P : Program} {t : TypeId} {k : IntKind} (ht : P.underlying t = some (.int k)) : Opens P t (fun n => [T.int k n]) (fun n => (Lit.int k n).wf = true) := by
  intro H enc W fuel cs x h
  obtain ⟨n, rfl, _, hw⟩ := DataW.trod_int ht h
  exact ⟨n, hw, rfl, one_cell (.int k n)⟩
theorem opens_bool {P : Program} {t : TypeId} (ht : P.underlying t = some .bool) : Opens P t (fun b => [T.bool b]) (fun _ => True) := by
  intro H enc W fuel cs x h
  obtain ⟨b, rfl, _⟩ := DataW.trod_bool ht h
  exact ⟨b, trivial, rfl, one_cell (.bool b)⟩
theorem opens_string {P : Program} {t : TypeId} (ht : P.underlying t = some .string) : Opens P t (fun s => [T.str s]) (fun s => s.size ≤ 9223372036854775807) := by
  intro H enc W fuel cs x h
  obtain ⟨s, rfl, _, hs⟩ := DataW.trod_string ht h
  exact ⟨s, hs, rfl, one_cell (.str s)⟩
theorem choose_list {α : Type} (R : Nat → α → Prop) : ∀ n : Nat, (∀ i, i < n → ∃ y, R i y) → ∃ l : List α, l.length = n ∧ ∀ i y, l[i]? = some y → R i y
  | 0, _ => ⟨[], rfl, fun i y h => by simp at h⟩
  | n + 1, h => by
    obtain ⟨l, hl, hr⟩ := choose_list R n (fun i hi => h i (by omega))
    obtain ⟨y, hy⟩ := h n (by omega)
    refine ⟨l ++ [y], by simp [hl], fun i z hz => ?_⟩
    by_cases hi : i < l.length
    · rw [List.getElem?_append_left hi] at hz
      exact hr i z hz
    · have hj : i = l.length := by
        have := (List.getElem?_eq_some_iff.1 hz).1
        rw [List.length_append, List.length_singleton] at this
        omega
      subst hj
      have e : y = z := by simpa using hz
      subst e
      rw [hl]
      exact hy
theorem cell_some {W : World} {a : Addr} {v : Value} (h : W.cell? a = some v) : a.spot = none ∧ a.block < W.heap.size := by
  unfold World.cell? at h
  split at h
  · rename_i c _ _ hb
    split at h
    · cases h
    · rename_i hs
      exact ⟨by simpa using hs, (Array.getElem?_eq_some_iff.1 hb).1⟩
  · cases h
theorem opens_slice {α : Type} {P : Program} {t e : TypeId} {sz : Nat} {ce : α → List T} {ok : α → Prop} (ht : P.underlying t = some (.slice e)) (hc : P.cellsOf e = sz) (h0 : 0 < sz) (hsz : ∀ y, (ce y).length = sz) (hd : Opens P e ce ok) :
    Opens P t (fun l : List α => [T.seq sz (l.map ce)]) (fun l => l.length ≤ 9223372036854775807 ∧ ∀ y ∈ l, ok y) := by
  intro H enc W fuel cs x h
  rcases DataW.trod_slice ht h with ⟨rfl, _⟩ | ⟨a, len, cap, elems, rest, n, _, rfl, _, _, hl, hm, hlen, hel, _, _⟩
  · exact ⟨[], ⟨by simp, fun y hy => by simp at hy⟩, rfl, one_cell (.seq0 ..)⟩
  · have each : ∀ i, i < len → ∃ y, ok y ∧ ∃ c : List Value, c.length = sz ∧ (∀ (j : Nat) (u : T) (v : Value), (ce y)[j]? = some u → c[j]? = some v → RepT W (fun b => b < W.heap.size) u v) ∧ ∀ (j : Nat) (u : Value), c[j]? = some u → W.cell? (a.add (i * sz + j)) = some u := by
      intro i hi
      have h1 := hel i hi
      have h2 : i < elems.length := by omega
      rw [List.getElem?_eq_getElem h2, Option.bind_eq_some_iff] at h1
      obtain ⟨c, hcc, hy⟩ := h1
      obtain ⟨y, ho, hk, hr⟩ := hd H enc W n c _ hy
      obtain ⟨g1, g2, g3⟩ := World.cells?_some hcc
      refine ⟨y, ho, c, by rw [g2, hc], hr, fun j u hj => ?_⟩
      have hj' := (List.getElem?_eq_some_iff.1 hj).1
      have := g3 j (by rw [← g2]; exact hj')
      rw [← hj, ← this, hc, Addr.add_add]
    obtain ⟨l, hll, hlr⟩ := choose_list _ len each
    subst hll
    refine ⟨l, ⟨Nat.le_trans hl hm, fun y hy => ?_⟩, rfl, one_cell ?_⟩
    · obtain ⟨i, hi⟩ := List.getElem?_of_mem hy
      exact (hlr i y hi).1
    · match l, hlr with
      | [], _ => exact .seq0 ..
      | y0 :: l', hlr =>
        obtain ⟨_, c0, k1, _, k3⟩ := hlr 0 y0 rfl
        have hv : ∃ v, c0[0]? = some v := ⟨c0[0]'(by omega), List.getElem?_eq_getElem (by omega)⟩
        obtain ⟨v0, hv0⟩ := hv
        obtain ⟨s1, s2⟩ := cell_some (k3 0 v0 hv0)
        obtain ⟨ab, ao, az⟩ := a
        obtain rfl : az = none := by simpa [Addr.add] using s1
        have addk : ∀ k, Addr.add ⟨ab, ao, none⟩ k = ⟨ab, ao + k, none⟩ := fun k => by
          unfold Addr.add
          by_cases hk : k = 0
          · rw [if_pos hk, hk]; rfl
          · rw [if_neg hk]
        rw [addk] at s2
        have hget : ∀ (i j : Nat) (e : List T) (u : T), ((y0 :: l').map ce)[i]? = some e → e[j]? = some u → ∃ v, W.cell? ⟨ab, ao + i * sz + j, none⟩ = some v ∧ RepT W (fun b => b < W.heap.size) u v := fun i j e u hi hj => by
          rw [List.getElem?_map] at hi
          obtain ⟨y, hy, rfl⟩ := Option.map_eq_some_iff.1 hi
          obtain ⟨_, c, q1, q2, q3⟩ := hlr i y hy
          have hjl := (List.getElem?_eq_some_iff.1 hj).1
          rw [hsz] at hjl
          have hv : c[j]? = some (c[j]'(by omega)) := List.getElem?_eq_getElem (by omega)
          refine ⟨_, ?_, q2 j u _ hj hv⟩
          have := q3 j _ hv
          rw [← this, addk, Nat.add_assoc]
        have := RepT.seq (w := W) (F := fun b => b < W.heap.size) (sz := sz) (es := (y0 :: l').map ce) (b := ab) (o := ao) (cap := cap) (vals := fun i j => (W.cell? ⟨ab, ao + i * sz + j, none⟩).getD Go.undef) s2 (by simpa using hl)
          (fun i e hi => by rw [List.getElem?_map] at hi; obtain ⟨y, _, rfl⟩ := Option.map_eq_some_iff.1 hi; exact hsz y)
          (fun i j e u hi hj => by obtain ⟨v, hv, _⟩ := hget i j e u hi hj; rw [hv]; rfl)
          (fun i j e u hi hj => by obtain ⟨v, hv, hr⟩ := hget i j e u hi hj; rw [hv]; exact hr)
        simpa using this
end Go.Ev

/- The evaluator, twenty-seventh text: a law that comes to true. -/
namespace Go.Ev
set_option linter.unusedVariables false
set_option linter.unusedSimpArgs false
set_option linter.unusedVariables false
set_option linter.unusedSimpArgs false
theorem wf_none (W : World) : Wf W (fun b => b < W.heap.size) (fun _ _ => none) (ofL []) :=
  ⟨fun id o h => by simp [ofL] at h, fun id p id' p' b o o' h => by cases p <;> simp [Live, ofL] at h, fun id p b o h => by cases p <;> simp [Live, ofL] at h, fun b h => h⟩
/-- A law that comes to true, run. -/
theorem law_calls {pr : Pr} (hm : pr.P.follows .mixedOrders = true) (hp : PrimOk pr) {f : FuncId} {args : List V} {cs : Array Value} {W : World} (h : Ev pr (.call f args []) (.val (.t (.bool true)) []))
    (hr : RepL W (fun b => b < W.heap.size) (fun _ _ => none) (ofL []) args cs) : Calls pr.P f cs W fun e W' => e = .returned (.bool true) ∧ RowKit.Below W.heap.size W W' := by
  obtain ⟨n0, hn⟩ := h
  obtain ⟨_, hc⟩ := (all_ok hm hp n0).1 f args [] _ _ (hn n0 (Nat.le_refl _))
  refine (hc W _ _ cs (wf_none W) hr).mono fun e w' ⟨c, F', σ', he, hs, hv⟩ => ⟨?_, hs.fr.os, hs.fr.tape, hs.fr.output, hs.fr.size, fun k hk => hs.fr.block k hk fun ⟨id, p, o, hl, _⟩ => by cases p <;> simp [Live, ofL] at hl⟩
  rw [he]
  cases hv with
  | t hv => cases hv; rfl
theorem repL_cons {w : World} {F : Nat → Prop} {σ : Sg} {M : Mem} {args : List V} {cs : Array Value} (hl : args.length = cs.size) (h : ∀ (i : Nat) (v : V), args[i]? = some v → RepV w F σ M v (cs.getD i Go.undef)) : RepL w F σ M args cs := ⟨hl, h⟩
/-- A value of one cell. -/
theorem rep_one {w : World} {F : Nat → Prop} {σ : Sg} {M : Mem} {u : T} {c : Value} (h : ∀ (i : Nat) (x : T) (v : Value), [u][i]? = some x → [c][i]? = some v → RepT w F x v) : RepV w F σ M (.t u) c := .t (h 0 u c rfl rfl)
theorem rep_agg {w : World} {F : Nat → Prop} {σ : Sg} {M : Mem} {us : List T} {cs : Array Value} (hl : us.length = cs.size) (h : ∀ (i : Nat) (x : T) (v : Value), us[i]? = some x → cs.toList[i]? = some v → RepT w F x v) : RepV w F σ M (.agg (us.map V.t)) (.agg cs) := by
  refine .agg (by simpa using hl) fun i v hi => ?_
  rw [List.getElem?_map] at hi
  obtain ⟨u, hu, rfl⟩ := Option.map_eq_some_iff.1 hi
  have hlt := (List.getElem?_eq_some_iff.1 hu).1
  have hc : cs.toList[i]? = some (cs.getD i Go.undef) := by
    rw [Array.getElem?_toList, Array.getD_eq_getD_getElem?, Array.getElem?_eq_getElem (by omega)]; rfl
  exact .t (h i u _ hu hc)
end Go.Ev

/- The evaluator, twenty-eighth text: the loops of a function by number; words for values. -/
namespace Go.Ev
set_option linter.unusedVariables false
set_option linter.unusedSimpArgs false
def loopsOf (f : FuncId) : Ann → Code → List LoopQ
  | .cut _ a, c => loopsOf f a c
  | .seq x y, .seq a b => loopsOf f x a ++ loopsOf f y b
  | .cond x y, .cond _ a b => loopsOf f x a ++ loopsOf f y b
  | .block x, .block _ c => loopsOf f x c
  | .loop live after rets thaw x, .loop c => ⟨f, live, after, rets, thaw, x, c⟩ :: loopsOf f x c
  | _, _ => []
/-- Loop i of function f, counted az they stand. -/
def lq (pr : Pr) (f : FuncId) (i : Nat) : LoopQ :=
  match (pr.P.funcs[f]?).bind (·.body) with
  | some c => ((loopsOf f (pr.ann f) c)[i]?).getD ⟨0, [], [], [], [], .n, .skip⟩
  | none => ⟨0, [], [], [], [], .n, .skip⟩
/-- A state at a loop: slots, objects, how many came in. -/
def at_ (l : List (Nat × V)) (H : List Ob) (k0 : Nat) : S := ⟨ofE l, ofL H, k0⟩
def i64 (n : Int) : V := .t (.int .i64 n)
def bl (b : Bool) : V := .t (.bool b)
def sl (sz : Nat) (es : List (List T)) : V := .t (.seq sz es)
theorem wrap_i64 {a : Int} (h1 : -9223372036854775808 ≤ a) (h2 : a ≤ 9223372036854775807) : IntKind.i64.wrap a = a := by
  have hb : IntKind.i64.bits = 64 := rfl
  have hs : IntKind.i64.signed = true := rfl
  unfold IntKind.wrap
  rw [hb, hs]
  simp only [Bool.true_and, decide_eq_true_eq]
  have e1 : (2 : Int) ^ 64 = 18446744073709551616 := by decide
  have e2 : (2 : Int) ^ (64 - 1) = 9223372036854775808 := by decide
  rw [e1, e2]
  split <;> omega
end Go.Ev
namespace Go.Ev
/-- A length, told az it is. -/
def Tp.l {pr : Pr} (n : Nat) : Tp pr := .i (rfl : (n : Int) = n)
/-- The length of a told list. -/
def Tp.ll {pr : Pr} {α : Type} (ce : α → List T) (l : List α) : Tp pr := .i (show ((l.map ce).length : Int) = l.length by rw [List.length_map])
/-- An element of a list that is told by parts. -/
theorem lkp_at {α : Type} (ce : α → List T) {l done rest : List α} {x : α} (h : l = done ++ x :: rest) : lkp (l.map ce) (done.length : Int) = some (ce x) := by
  subst h
  unfold lkp
  rw [if_pos (by omega)]
  simp
theorem lkp_get {α : Type} (ce : α → List T) {l : List α} {i : Int} {x : α} (h0 : 0 ≤ i) (h : l[i.toNat]? = some x) : lkp (l.map ce) i = some (ce x) := by
  unfold lkp
  rw [if_pos h0]
  simp [h]
/-- A row that is filled from the left. -/
def part {α : Type} (g : α → List C) (z : List C) (l done : List α) : List (List C) := done.map g ++ List.replicate (l.length - done.length) z
theorem part_len {α : Type} (g : α → List C) (z : List C) {l done rest : List α} (h : l = done ++ rest) : (part g z l done).length = l.length := by
  subst h; simp [part]
theorem part_nil {α : Type} (g : α → List C) (z : List C) (l : List α) : part g z l [] = List.replicate l.length z := by simp [part]
theorem part_all {α : Type} (g : α → List C) (z : List C) {l done : List α} (h : l = done ++ []) : part g z l done = l.map g := by subst h; simp [part]
theorem part_get {α : Type} (g : α → List C) (z : List C) {l done rest : List α} {x : α} (h : l = done ++ x :: rest) : (part g z l done)[done.length]? = some z := by
  subst h
  unfold part
  rw [List.getElem?_append_right (by simp)]
  simp
theorem part_set {α : Type} (g : α → List C) (z : List C) {l done rest : List α} {x : α} (h : l = done ++ x :: rest) : (part g z l done).set done.length (g x) = part g z l (done ++ [x]) := by
  subst h
  unfold part
  have e1 : (done ++ x :: rest).length - done.length = rest.length + 1 := by simp
  have e2 : (done ++ x :: rest).length - (done ++ [x]).length = rest.length := by simp; omega
  rw [e1, e2, List.replicate_succ, List.set_append_right _ _ (by simp)]
  simp
/-- Frozen, a row of data is itself. -/
theorem fz_all {α : Type} (ce : α → List T) (l : List α) : (((l.map fun x => (ce x).map C.t).drop 0).take l.length).map (·.map C.fz) = l.map ce := by
  rw [List.drop_zero, List.take_of_length_le (by simp), List.map_map]
  apply List.map_congr_left
  intro x _
  simp [C.fz, Function.comp_def]
theorem full_ok {α : Type} (g : α → List C) (l : List α) : decide ((l.map g).length = l.length ∧ 0 + l.length ≤ l.length) = true := decide_eq_true (by simp)
theorem ne_self (a : Int) : (a != a) = false := by simp
theorem str_self (s : ByteArray) : (!(s.toList == s.toList)) = false := by simp
end Go.Ev

/- The evaluator, twenty-ninth text: rules by which a question is told in a nicer form; an outcome that is told otherwise. -/
namespace Go.Ev
set_option linter.unusedVariables false
set_option linter.unusedSimpArgs false
set_option linter.unusedVariables false
set_option linter.unusedSimpArgs false
theorem Ev.tpe {pr : Pr} {q : Q} {o : Out} (l : List (Tp pr)) (o' : Out) (hc : good (trs l) o' = chk (tree pr q) (trs l) o') (e : o' = o) : Ev pr q o := e ▸ Ev.tp l hc
theorem Ev.castq {pr : Pr} {q q' : Q} {o : Out} (e : q = q') (h : Ev pr q o) : Ev pr q' o := e ▸ h
attribute [simp] i64 bl sl
theorem wrap_u8 {a : Int} (h1 : 0 ≤ a) (h2 : a ≤ 255) : IntKind.u8.wrap a = a := by
  have hb : IntKind.u8.bits = 8 := rfl
  have hs : IntKind.u8.signed = false := rfl
  unfold IntKind.wrap
  rw [hb, hs]
  have e1 : (2 : Int) ^ 8 = 256 := by decide
  simp only [Bool.false_and, e1]
  simp
  omega
theorem wrap_u64 {a : Int} (h1 : 0 ≤ a) (h2 : a ≤ 9223372036854775807) : IntKind.u64.wrap a = a := by
  have hb : IntKind.u64.bits = 64 := rfl
  have hs : IntKind.u64.signed = false := rfl
  unfold IntKind.wrap
  rw [hb, hs]
  have e1 : (2 : Int) ^ 64 = 18446744073709551616 := by decide
  simp only [Bool.false_and, e1]
  simp
  omega
/-- Cells of data. -/
def tc (l : List T) : List C := l.map C.t
@[simp] theorem tc_fz (l : List T) : (tc l).map C.fz = l := by simp [tc, C.fz, Function.comp_def]
@[simp] theorem tc_len (l : List T) : (tc l).length = l.length := by simp [tc]
@[simp] theorem map_t_fz (l : List T) : (l.map C.t).map C.fz = l := tc_fz l
@[simp] theorem map_tc_fz {α : Type} (ce : α → List T) (l : List α) : (l.map fun x => tc (ce x)).map (List.map C.fz) = l.map ce := by simp [Function.comp_def]
@[simp] theorem map_tc_fz1 (l : List (List T)) : (l.map tc).map (List.map C.fz) = l := by simp [Function.comp_def]
@[simp] theorem map_tc_fz2 (l : List (List T)) : (l.map (List.map C.t)).map (List.map C.fz) = l := by simp [Function.comp_def, C.fz]
@[simp] theorem lkp_app {α : Type} (az : List α) (y : α) (bs : List α) : lkp (az ++ y :: bs) (az.length : Int) = some y := by simp [lkp]
@[simp] theorem lkp_mapapp {α β : Type} (f : β → α) (az : List β) (y : α) (bs : List α) : lkp (az.map f ++ y :: bs) (az.length : Int) = some y := by
  have := lkp_app (az.map f) y bs
  simpa using this
@[simp] theorem lkp_zero {α : Type} (y : α) (l : List α) : lkp (y :: l) 0 = some y := by simp [lkp]
@[simp] theorem lkp_one {α : Type} (x y : α) (l : List α) : lkp (x :: y :: l) 1 = some y := by simp [lkp]
theorem lkp_some {α β : Type} (f : α → β) {l : List α} {i : Int} {x : α} (h0 : 0 ≤ i) (h : l[i.toNat]? = some x) : lkp (l.map f) i = some (f x) := by simp [lkp, h0, h]
@[simp] theorem set_mid {α : Type} (az : List α) (y z : α) (bs : List α) : (az ++ y :: bs).set az.length z = az ++ z :: bs := by simp
@[simp] theorem set_mapmid {α β : Type} (f : β → α) (az : List β) (y z : α) (bs : List α) : (az.map f ++ y :: bs).set az.length z = az.map f ++ z :: bs := by simp
@[simp high] theorem get_mid {α : Type} (az : List α) (y : α) (bs : List α) : (az ++ y :: bs)[az.length]? = some y := by simp
@[simp high] theorem get_mapmid {α β : Type} (f : β → α) (az : List β) (y : α) (bs : List α) : (az.map f ++ y :: bs)[az.length]? = some y := by simp
@[simp] theorem toNat_add1 (n : Nat) : ((n : Int) + 1).toNat = n + 1 := by omega
@[simp] theorem take_len_map {α β : Type} (f : α → β) (l : List α) : (l.map f).take l.length = l.map f := by rw [← List.length_map (f := f), List.take_length]
end Go.Ev

/- Plain words for what the program's functions compute: bytes, letters, strengths. -/
namespace Go.Ev
set_option linter.unusedVariables false
set_option linter.unusedSimpArgs false
set_option linter.unusedVariables false
set_option linter.unusedSimpArgs false
theorem bys_len (s : ByteArray) : s.toList.length = s.size := by simp only [ByteArray.toList_eq, ByteArray.size, Array.length_toList]
theorem lkpS_mid {s : ByteArray} {done rest : List UInt8} {b : UInt8} {i : Int} (h : s.toList = done ++ b :: rest) (hi : i = done.length) : lkpS s i = some b := by
  subst hi
  have hl : done.length < s.size := by rw [← bys_len, h]; simp
  have : s[done.length]? = some b := by
    rw [getElem?_pos s done.length hl]
    have : s[done.length] = (s.toList)[done.length]'(by rw [bys_len]; exact hl) := by
      simp [ByteArray.toList_eq, ByteArray.getElem_eq_getElem_data]
    rw [this]
    simp [h]
  simp [lkpS, this]
theorem bys_cut {s : ByteArray} {done rest : List UInt8} (h : s.toList = done ++ rest) : (s.size : Int) = done.length + rest.length := by
  have := congrArg List.length h
  rw [bys_len] at this
  simp at this
  omega
theorem size_zero (s : ByteArray) : s.toList = [] ↔ s.size = 0 := by
  have := bys_len s
  constructor
  · intro h; rw [h] at this; simpa using this.symm
  · intro h; exact List.length_eq_zero_iff.1 (by omega)
theorem bytes_ext {a b : ByteArray} (h : a.toList = b.toList) : a = b := by
  rw [ByteArray.toList_eq, ByteArray.toList_eq] at h
  cases a; cases b
  congr 1
  exact Array.toList_inj.1 h
def letter (b : UInt8) : Bool := decide (97 ≤ (b.toNat : Int)) && decide ((b.toNat : Int) ≤ 122)
theorem takeWhile_all (l : List UInt8) : (l.takeWhile letter).length = l.length ↔ l.all letter = true := by
  induction l with
  | nil => simp
  | cons b l ih => cases h : letter b <;> simp [List.takeWhile_cons, h, ih]
theorem takeWhile_size (s : ByteArray) : decide (((s.toList.takeWhile letter).length : Int) = (s.size : Int)) = s.toList.all letter := by
  have h := takeWhile_all s.toList
  rw [bys_len] at h
  cases hl : s.toList.all letter with
  | true => simp only [decide_eq_true_eq]; have := h.2 hl; omega
  | false => simp only [decide_eq_false_iff_not]; intro hh; have := h.1 (by omega); rw [hl] at this; cases this
def strength (l : List UInt8) : Int :=
  if l = [124, 124] then 1 else if l = [38, 38] then 2 else if l = [61, 61] ∨ l = [33, 61] then 3 else if l = [60] ∨ l = [60, 61] then 4
  else if l = [43] ∨ l = [45] then 5 else if l = [42] ∨ l = [47] ∨ l = [37] then 6 else if l = [60, 60] then 7 else 0
theorem strength_nonneg (l : List UInt8) : 0 ≤ strength l := by unfold strength; repeat' split <;> omega
def nameOk (s : ByteArray) : Bool := decide (1 ≤ s.size ∧ s.size ≤ 8) && s.toList.all letter
theorem nameOk_code (s : ByteArray) : nameOk s = (!(s.toList == []) && (decide ((s.size : Int) ≤ 8) && decide (((s.toList.takeWhile letter).length : Int) = (s.size : Int)))) := by
  rw [takeWhile_size]
  unfold nameOk
  have h0 := size_zero s
  by_cases h1 : s.size = 0
  · simp [h1, h0.2 h1]
  · have h2 : s.toList ≠ [] := fun h => h1 (h0.1 h)
    by_cases h3 : s.size ≤ 8
    · have h4 : (s.size : Int) ≤ 8 := by omega
      have h5 : 1 ≤ s.size := by omega
      simp [h2, h3, h4, h5]
    · have h4 : ¬ (s.size : Int) ≤ 8 := by omega
      simp [h3, h4]
theorem nameOk_true {s : ByteArray} (h : s.toList.all letter = true) : nameOk s = (decide ((s.size : Int) ≥ 1) && decide ((s.size : Int) ≤ 8)) := by
  unfold nameOk
  rw [h]
  have e1 : (1 ≤ s.size) ↔ ((s.size : Int) ≥ 1) := by omega
  have e2 : (s.size ≤ 8) ↔ ((s.size : Int) ≤ 8) := by omega
  simp [e1, e2]
theorem nameOk_false {s : ByteArray} (h : s.toList.all letter = false) : nameOk s = false := by unfold nameOk; rw [h]; simp
end Go.Ev

/- Expressions in plain words: parts, trees, how a tree is read. -/
namespace Go.Ev
set_option linter.unusedVariables false
set_option linter.unusedSimpArgs false
set_option linter.unusedVariables false
set_option linter.unusedSimpArgs false
abbrev e0 : ByteArray := ⟨#[]⟩
@[simp] theorem toList_nil (s : ByteArray) : s.toList = [] ↔ s = e0 := by
  constructor
  · intro h; exact bytes_ext (by rw [h]; simp [ByteArray.toList_eq])
  · intro h; rw [h]; simp [ByteArray.toList_eq]
def vs (l : List T) : V := .agg (l.map V.t)
attribute [simp] vs
structure Ex where
  kind : Int
  num : Int
  text : ByteArray
def Ex.ce (x : Ex) : List T := [.int .i64 x.kind, .int .i64 x.num, .str x.text]
def Ex.z : List C := [.t (.int .i64 0), .t (.int .i64 0), .t (.str e0)]
def exs (l : List Ex) : V := sl 3 (l.map Ex.ce)
attribute [simp] exs
structure Line where
  kind : Int
  name : Int
  expr : List Ex
def Line.ce (x : Line) : List T := [.int .i64 x.kind, .int .i64 x.name, .seq 3 (x.expr.map Ex.ce)]
def Line.z : List C := [.t (.int .i64 0), .t (.int .i64 0), .t .nils]
def lines (l : List Line) : V := sl 3 (l.map Line.ce)
inductive E where
  | num (n : Int)
  | name (s : ByteArray)
  | neg (a : E)
  | not (a : E)
  | two (s : ByteArray) (a b : E)
  deriving Inhabited
def E.kind : E → Int
  | .num _ => 1
  | .name _ => 2
  | .neg _ => 3
  | .not _ => 4
  | .two .. => 5
def E.nm : E → Int
  | .num n => n
  | _ => 0
def E.text : E → ByteArray
  | .name s => s
  | .two s _ _ => s
  | _ => e0
/-- The program's tree: its two parts. -/
def E.tab : E → T × T
  | .neg a | .not a => (.ptr [.int .i64 a.kind, .int .i64 a.nm, .str a.text, a.tab.1, a.tab.2] 0, .nilp)
  | .two _ a b => (.ptr [.int .i64 a.kind, .int .i64 a.nm, .str a.text, a.tab.1, a.tab.2] 0, .ptr [.int .i64 b.kind, .int .i64 b.nm, .str b.text, b.tab.1, b.tab.2] 0)
  | _ => (.nilp, .nilp)
def E.tp (e : E) : T := .ptr [.int .i64 e.kind, .int .i64 e.nm, .str e.text, e.tab.1, e.tab.2] 0
/-- The reference's tree: its parts. -/
def E.kids : E → List (List T)
  | .neg a | .not a => [[.int .i64 a.kind, .int .i64 a.nm, .str a.text, .seq 4 a.kids]]
  | .two _ a b => [[.int .i64 a.kind, .int .i64 a.nm, .str a.text, .seq 4 a.kids], [.int .i64 b.kind, .int .i64 b.nm, .str b.text, .seq 4 b.kids]]
  | _ => []
def E.ts (e : E) : List T := [.int .i64 e.kind, .int .i64 e.nm, .str e.text, .seq 4 e.kids]
@[simp] theorem E.kind_num (n : Int) : (E.num n).kind = 1 := rfl
@[simp] theorem E.kind_name (s : ByteArray) : (E.name s).kind = 2 := rfl
@[simp] theorem E.kind_neg (a : E) : (E.neg a).kind = 3 := rfl
@[simp] theorem E.kind_not (a : E) : (E.not a).kind = 4 := rfl
@[simp] theorem E.kind_two (s : ByteArray) (a b : E) : (E.two s a b).kind = 5 := rfl
@[simp] theorem E.nm_num (n : Int) : (E.num n).nm = n := rfl
@[simp] theorem E.nm_name (s : ByteArray) : (E.name s).nm = 0 := rfl
@[simp] theorem E.nm_neg (a : E) : (E.neg a).nm = 0 := rfl
@[simp] theorem E.nm_not (a : E) : (E.not a).nm = 0 := rfl
@[simp] theorem E.nm_two (s : ByteArray) (a b : E) : (E.two s a b).nm = 0 := rfl
@[simp] theorem E.text_num (n : Int) : (E.num n).text = e0 := rfl
@[simp] theorem E.text_name (s : ByteArray) : (E.name s).text = s := rfl
@[simp] theorem E.text_neg (a : E) : (E.neg a).text = e0 := rfl
@[simp] theorem E.text_not (a : E) : (E.not a).text = e0 := rfl
@[simp] theorem E.text_two (s : ByteArray) (a b : E) : (E.two s a b).text = s := rfl
def readE : Nat → List Ex → Option (E × List Ex)
  | 0, _ => none
  | _ + 1, [] => none
  | n + 1, x :: r =>
    if x.kind = 1 then (if 0 ≤ x.num ∧ x.num ≤ 999999999 then if x.text = e0 then some (.num x.num, r) else none else none)
    else if x.kind = 2 then (if x.num = 0 then if nameOk x.text = true then some (.name x.text, r) else none else none)
    else if x.kind = 3 then (if x.num = 0 then if x.text = e0 then match readE n r with
        | some (a, r) => some (.neg a, r)
        | none => none else none else none)
    else if x.kind = 4 then (if x.num = 0 then if x.text = e0 then match readE n r with
        | some (a, r) => some (.not a, r)
        | none => none else none else none)
    else if x.kind = 5 then (if x.num = 0 then if strength x.text.toList = 0 then none else match readE n r with
        | some (a, r1) => match readE n r1 with
          | some (b, r2) => some (.two x.text a b, r2)
          | none => none
        | none => none else none)
    else none
theorem readE_lt (n : Nat) (l : List Ex) : ∀ (e : E) (r : List Ex), readE n l = some (e, r) → r.length < l.length := by
  fun_induction readE n l <;> grind
theorem readE_suf (n : Nat) (l : List Ex) : ∀ (e : E) (r : List Ex), readE n l = some (e, r) → r <:+ l := by
  fun_induction readE n l <;> grind [List.suffix_cons, List.IsSuffix.trans]
theorem readE_mem {n : Nat} {l r : List Ex} {e : E} (h : readE n l = some (e, r)) : ∀ x ∈ r, x ∈ l := fun x hx => (readE_suf n l e r h).mem hx
def outP : Option (E × List Ex) → V
  | none => .tup [.t .nilp, exs []]
  | some (e, r) => .tup [.t e.tp, exs r]
def outS (n : Nat) : Option (E × List Ex) → V
  | none => .tup [vs [.int .i64 0, .int .i64 0, .str e0, .seq 4 []], i64 0]
  | some (e, r) => .tup [vs e.ts, i64 (n - r.length)]
/-- The number of a local's name, or -1. -/
def nameNo (s : ByteArray) : Int :=
  match s.toList with
  | [b] => if 97 ≤ (b.toNat : Int) ∧ (b.toNat : Int) ≤ 106 then (b.toNat : Int) - 97 else -1
  | _ => -1
theorem one_byte {s : ByteArray} (h : s.size = 1) : ∃ b, s.toList = [b] ∧ lkpS s 0 = some b := by
  have hl := bys_len s
  rw [h] at hl
  match hs : s.toList, hl with
  | [b], _ => exact ⟨b, rfl, lkpS_mid (done := []) (rest := []) (by simpa using hs) (by simp)⟩
theorem nameNo_size {s : ByteArray} (h : s.size ≠ 1) : nameNo s = -1 := by
  have hl := bys_len s
  unfold nameNo
  split
  · rename_i b hb; rw [hb] at hl; simp at hl; omega
  · rfl
def bad (x : Ex) : Bool := decide (x.kind = 2) && decide (nameNo x.text < 0)
def E.names : E → Bool
  | .num _ => true
  | .name s => decide (0 ≤ nameNo s)
  | .neg a | .not a => a.names
  | .two _ a b => a.names && b.names
def idxFrom {α : Type} (p : α → Bool) (i : Int) : List α → Int
  | [] => -1
  | x :: r => if p x = true then i else idxFrom p (i + 1) r
theorem idxFrom_any {α : Type} (p : α → Bool) : ∀ (l : List α) (i : Int), 0 ≤ i → decide (idxFrom p i l ≥ 0) = l.any p
  | [], i, hi => by simp [idxFrom]
  | x :: r, i, hi => by
    unfold idxFrom
    cases h : p x with
    | true => simp [h, hi]
    | false => simp only [Bool.false_eq_true, if_false, List.any_cons, h, Bool.false_or]; exact idxFrom_any p r (i + 1) (by omega)
theorem idxFrom_neg {α : Type} (p : α → Bool) (l : List α) (i : Int) : 0 ≤ i → ¬ 0 ≤ idxFrom p i l → idxFrom p i l = -1 := by
  fun_induction idxFrom p i l <;> grind
theorem readE_names (n : Nat) (l : List Ex) : ∀ (e : E) (r : List Ex), readE n l = some (e, r) → l.any bad = (!e.names || r.any bad) := by
  fun_induction readE n l <;> intro e r h
  all_goals (try cases h)
  all_goals grind [E.names, bad]
/-- A whole expression. -/
def parse (l : List Ex) : Option E :=
  if l.length ≤ 40 then match readE l.length l with
    | some (e, []) => some e
    | _ => none else none
def outE : Option E → V
  | none => .t .nilp
  | some e => .t e.tp
/-- A whole expression of locals. -/
def parseL (l : List Ex) : Option E := if l.any bad = true then none else parse l
theorem parse_names {l : List Ex} {e : E} (h : parse l = some e) : l.any bad = !e.names := by
  unfold parse at h
  split at h
  · split at h
    · rename_i e' h1
      obtain rfl := Option.some.inj h
      have := readE_names _ _ _ _ h1
      simpa using this
    · cases h
  · cases h
def lineOk (x : Line) : Bool :=
  if x.kind = 1 then (decide (x.name ≥ 0) && decide (x.name ≤ 9)) && (parseL x.expr).isSome
  else if x.kind = 2 then decide (x.name = 0) && (parseL x.expr).isSome
  else decide (x.kind = 3) && decide (x.name = 0) && decide (x.expr.length = 0)
/-- What the reference has read of a list of parts. -/
def tree? (l : List Ex) : Option E := if l.length ≤ 40 then (readE l.length l).map (·.1) else none
def oKind : Option E → Int
  | some e => e.kind
  | none => 0
def oNm : Option E → Int
  | some e => e.nm
  | none => 0
def oText : Option E → ByteArray
  | some e => e.text
  | none => e0
def oKids : Option E → List (List T)
  | some e => e.kids
  | none => []
def oe (o : Option E) : List T := [.int .i64 (oKind o), .int .i64 (oNm o), .str (oText o), .seq 4 (oKids o)]
@[simp] theorem oKind_some (e : E) : oKind (some e) = e.kind := rfl
@[simp] theorem oNm_some (e : E) : oNm (some e) = e.nm := rfl
@[simp] theorem oText_some (e : E) : oText (some e) = e.text := rfl
@[simp] theorem oKids_some (e : E) : oKids (some e) = e.kids := rfl
@[simp] theorem oKind_none : oKind none = 0 := rfl
@[simp] theorem oNm_none : oNm none = 0 := rfl
@[simp] theorem oText_none : oText none = e0 := rfl
@[simp] theorem oKids_none : oKids none = [] := rfl
theorem parse_tree {l : List Ex} {e : E} (h : parse l = some e) : tree? l = some e := by
  unfold parse at h
  unfold tree?
  split at h
  · rename_i h1
    rw [if_pos h1]
    split at h
    · rename_i h2; rw [h2]; simpa using h
    · cases h
  · cases h
theorem parseL_isSome (l : List Ex) : (parseL l).isSome = ((parse l).isSome && ((tree? l).map E.names).getD true) := by
  unfold parseL
  cases h : parse l with
  | none => simp
  | some e =>
    rw [parse_names h, parse_tree h]
    simp only [Option.map_some, Option.getD_some]
    cases e.names <;> simp
/-- Where loops begin and end: out, the open ones (the last first), what lies behind them in the row. -/
def endsGo : List Line → Int → List Int → List Int → List Int → Option (List Int × List Int × List Int)
  | [], _, out, st, junk => some (out, st, junk)
  | x :: r, i, out, st, junk =>
    if x.kind = 2 then endsGo r (i + 1) out (i :: st) junk.tail
    else if x.kind = 3 then match st with
      | [] => none
      | j :: st' => endsGo r (i + 1) ((out.set i.toNat j).set j.toNat i) st' (j :: junk)
    else endsGo r (i + 1) out st junk
def intc (n : Int) : List C := [.t (.int .i64 n)]
def intt (n : Int) : List T := [.int .i64 n]
def ints (l : List Int) : List (List C) := l.map intc
@[simp] theorem ints_len (l : List Int) : (ints l).length = l.length := by simp [ints]
@[simp] theorem ints_nil : ints [] = [] := rfl
theorem ints_app (a b : List Int) : ints (a ++ b) = ints a ++ ints b := by simp [ints]
theorem ints_cons (a : Int) (b : List Int) : ints (a :: b) = intc a :: ints b := rfl
theorem ints_set (l : List Int) (k : Nat) (n : Int) : (ints l).set k (intc n) = ints (l.set k n) := by simp [ints, List.map_set]
@[simp] theorem take_rev0 (l : List Int) : (ints l.reverse).take l.length = ints l.reverse := by simp [ints, List.take_of_length_le]
@[simp] theorem take_rev (l b : List Int) : (ints (l.reverse ++ b)).take l.length = ints l.reverse := by rw [ints_app, List.take_left' (by simp)]
@[simp] theorem drop_rev (l b : List Int) (j : Int) : (ints (l.reverse ++ j :: b)).drop (l.length + 1) = ints b := by
  rw [show l.reverse ++ j :: b = (l.reverse ++ [j]) ++ b by simp, ints_app, List.drop_left' (by simp)]
@[simp high] theorem get_rev (l b : List Int) (j : Int) : (ints (l.reverse ++ j :: b))[l.length]? = some (intc j) := by
  rw [ints_app, ints_cons, List.getElem?_append_right (by simp)]; simp
@[simp] theorem ints_setC (l : List Int) (k : Nat) (n : Int) : (ints l).set k [C.t (.int .i64 n)] = ints (l.set k n) := ints_set l k n
theorem ints_get {l : List Int} {k : Nat} (h : k < l.length) : (ints l)[k]? = some (intc (l.getD k 0)) := by simp [ints, h]
theorem endsGo_len : ∀ (l : List Line) (i : Int) (out st junk out' st' junk' : List Int), endsGo l i out st junk = some (out', st', junk') → out'.length = out.length
  | [], i, out, st, junk, out', st', junk', h => by simp [endsGo] at h; rw [h.1]
  | x :: r, i, out, st, junk, out', st', junk', h => by
    unfold endsGo at h
    split at h
    · exact endsGo_len r _ _ _ _ _ _ _ h
    · split at h
      · split at h
        · cases h
        · have := endsGo_len r _ _ _ _ _ _ _ h
          simpa using this
      · exact endsGo_len r _ _ _ _ _ _ _ h
def endsOk (l : List Line) : Bool :=
  match endsGo l 0 (List.replicate l.length 0) [] [] with
  | some (_, st, _) => decide (st.length = 0)
  | none => false
def goodProgram (l : List Line) : Bool :=
  (decide ((l.length : Int) ≥ 1) && decide ((l.length : Int) ≤ 12)) && !(l.any fun x => !lineOk x) && endsOk l
@[simp] theorem ints_fz (l : List Int) : (ints l).map (List.map C.fz) = l.map intt := by simp [ints, Function.comp_def, intc, intt, C.fz]
@[simp] theorem ints_fz' (l : List Int) : List.map (fun x => List.map C.fz x) (ints l) = l.map intt := ints_fz l
@[simp] theorem ints_rep (n : Nat) (a : Int) : ints (List.replicate n a) = List.replicate n [C.t (.int .i64 a)] := by simp [ints, intc]
def specGo : List Line → Int → Option Int
  | [], o => some o
  | x :: r, o =>
    if x.kind = 1 then (if (parseL x.expr).isSome = true then if 0 ≤ x.name ∧ x.name ≤ 9 then specGo r o else none else none)
    else if x.kind = 2 then (if (parseL x.expr).isSome = true then if x.name = 0 then specGo r (o + 1) else none else none)
    else if x.kind = 3 then (if x.name = 0 then if x.expr = [] then if o = 0 then none else specGo r (o - 1) else none else none)
    else none
theorem specGo_ends (l : List Line) : ∀ (i : Int) (out st junk : List Int), specGo l st.length = if l.all lineOk = true then (endsGo l i out st junk).map (fun p => (p.2.1.length : Int)) else none := by
  induction l with
  | nil => intro i out st junk; simp [specGo, endsGo]
  | cons x r ih =>
    intro i out st junk
    have h0 := ih (i + 1) out st junk
    have h1 := ih (i + 1) out (i :: st) junk.tail
    have h2 := fun j st' => ih (i + 1) ((out.set i.toNat j).set j.toNat i) st' (j :: junk)
    clear ih
    have e1 : (st.length : Int) + 1 = ((i :: st).length : Int) := by simp
    rw [List.all_cons]
    generalize r.all lineOk = b at *
    by_cases k1 : x.kind = 1
    · simp only [specGo, endsGo, k1, h0, lineOk]
      cases (parseL x.expr).isSome <;> by_cases k4 : 0 ≤ x.name ∧ x.name ≤ 9 <;> cases b <;> simp [k4]
      all_goals (intros; omega)
    · by_cases k2 : x.kind = 2
      · simp only [specGo, endsGo, k2, e1, h1, lineOk]
        cases (parseL x.expr).isSome <;> by_cases k4 : x.name = 0 <;> cases b <;> simp [k4]
      · by_cases k3 : x.kind = 3
        · cases st with
          | nil => simp [specGo, endsGo, k3, lineOk]
          | cons j st' =>
            have e : (((j :: st').length : Int) - 1) = (st'.length : Int) := by simp
            have e2 : ¬ (((j :: st').length : Int) = 0) := by simp; omega
            have h3 := h2 j st'
            simp only [specGo, endsGo, k3, e, h3, lineOk, e2]
            by_cases k4 : x.name = 0 <;> by_cases k5 : x.expr = [] <;> cases b <;> simp [k4, k5]
        · have : lineOk x = false := by simp [lineOk, k1, k2, k3]
          simp [specGo, k1, k2, k3, this]
theorem goodProgram_spec (l : List Line) : goodProgram l = match specGo l 0 with
    | some o => (decide ((l.length : Int) ≥ 1) && decide ((l.length : Int) ≤ 12)) && decide (o = 0)
    | none => false := by
  have h := specGo_ends l 0 (List.replicate l.length 0) [] []
  have h00 : ((([] : List Int).length : Nat) : Int) = 0 := rfl
  rw [h00] at h
  unfold goodProgram endsOk
  have e : (l.any fun x => !lineOk x) = !(l.all lineOk) := by simp [List.any_eq_not_all_not]
  rw [e, h]
  cases l.all lineOk with
  | false => simp
  | true =>
    simp only [if_true]
    cases endsGo l 0 (List.replicate l.length 0) [] [] with
    | none => simp
    | some p => obtain ⟨a, b, c⟩ := p; simp
end Go.Ev

/- Code that is made of an expression, in plain words. -/
namespace Go.Ev
set_option linter.unusedVariables false
set_option linter.unusedSimpArgs false
set_option linter.unusedVariables false
set_option linter.unusedSimpArgs false
@[simp] theorem toNat_add2 (n : Nat) : ((n : Int) + 2).toNat = n + 2 := by omega
structure Bc where
  op : Int
  n : Int
  text : ByteArray
def Bc.ce (x : Bc) : List T := [.int .i64 x.op, .int .i64 x.n, .str x.text]
def Bc.cc (x : Bc) : List C := [.t (.int .i64 x.op), .t (.int .i64 x.n), .t (.str x.text)]
def bcc (l : List Bc) : List (List C) := l.map Bc.cc
def bcs (l : List Bc) : V := sl 3 (l.map Bc.ce)
@[simp] theorem bcc_len (l : List Bc) : (bcc l).length = l.length := by simp [bcc]
@[simp] theorem bcc_nil : bcc [] = [] := rfl
theorem bcc_app (a b : List Bc) : bcc (a ++ b) = bcc a ++ bcc b := by simp [bcc]
theorem bcc_cons (a : Bc) (b : List Bc) : bcc (a :: b) = a.cc :: bcc b := rfl
@[simp] theorem bcc_take (l : List Bc) : (bcc l).take l.length = bcc l := by rw [← bcc_len l, List.take_length]
@[simp] theorem bcc_fz (l : List Bc) : (bcc l).map (List.map C.fz) = l.map Bc.ce := by simp [bcc, Function.comp_def, Bc.cc, Bc.ce, C.fz]
@[simp] theorem bcc_fz' (l : List Bc) : List.map (fun x => List.map C.fz x) (bcc l) = l.map Bc.ce := bcc_fz l
@[simp] theorem bcc_take' (l : List Bc) : List.take l.length (l.map Bc.ce) = l.map Bc.ce := by rw [List.take_of_length_le (by simp)]
theorem bcc_set (l : List Bc) (k : Nat) (o n : Int) (s : ByteArray) : (bcc l).set k [C.t (.int .i64 o), C.t (.int .i64 n), C.t (.str s)] = bcc (l.set k ⟨o, n, s⟩) := by simp [bcc, List.map_set, Bc.cc]
@[simp] theorem bcc_snoc (l : List Bc) (o n : Int) (s : ByteArray) (r : List (List C)) : bcc l ++ [C.t (.int .i64 o), C.t (.int .i64 n), C.t (.str s)] :: r = bcc (l ++ [⟨o, n, s⟩]) ++ r := by simp [bcc, Bc.cc]
@[simp] theorem bcc_one (o n : Int) (s : ByteArray) : [[C.t (.int .i64 o), C.t (.int .i64 n), C.t (.str s)]] = bcc [⟨o, n, s⟩] := rfl
@[simp] theorem bcc_join (a b : List Bc) : bcc a ++ bcc b = bcc (a ++ b) := (bcc_app a b).symm
@[simp] theorem bcc_setC (l : List Bc) (k : Nat) (o n : Int) (s : ByteArray) : (bcc l).set k [C.t (.int .i64 o), C.t (.int .i64 n), C.t (.str s)] = bcc (l.set k ⟨o, n, s⟩) := bcc_set l k o n s
@[simp] theorem bcc_take_le {l : List Bc} {k : Nat} (h : l.length ≤ k) : (bcc l).take k = bcc l := List.take_of_length_le (by simpa using h)
abbrev sNot : ByteArray := ⟨#[33]⟩
abbrev sMinus : ByteArray := ⟨#[45]⟩
def bNot : Bc := ⟨5, 0, sNot⟩
/-- The code of an expression behind others. -/
def codeE : E → List Bc → List Bc
  | .num n, l => l ++ [⟨1, n, e0⟩]
  | .name s, l => l ++ [⟨2, nameNo s, e0⟩]
  | .neg a, l => codeE a l ++ [⟨5, 0, sMinus⟩]
  | .not a, l => codeE a l ++ [bNot]
  | .two s a b, l =>
    if s.toList = [38, 38] then
      let o := codeE b (codeE a l ++ [⟨7, 0, e0⟩]) ++ [bNot, bNot]
      (o.set (codeE a l).length ⟨7, o.length + 1, e0⟩) ++ [⟨6, o.length + 2, e0⟩, ⟨1, 0, e0⟩]
    else if s.toList = [124, 124] then
      let o := codeE b (codeE a l ++ [⟨7, (codeE a l).length + 3, e0⟩, ⟨1, 1, e0⟩, ⟨6, 0, e0⟩]) ++ [bNot, bNot]
      o.set ((codeE a l).length + 2) ⟨6, o.length, e0⟩
    else codeE b (codeE a l) ++ [⟨4, 0, s⟩]
def E.size : E → Nat
  | .num _ | .name _ => 1
  | .neg a | .not a => a.size + 1
  | .two _ a b => a.size + b.size + 1
theorem codeE_len (e : E) (l : List Bc) : l.length < (codeE e l).length ∧ (codeE e l).length ≤ l.length + 6 * e.size := by
  induction e generalizing l with
  | num n => simp [codeE, E.size]
  | name s => simp [codeE, E.size]
  | neg a ih => have := ih l; simp [codeE, E.size]; omega
  | not a ih => have := ih l; simp [codeE, E.size]; omega
  | two s a b iha ihb =>
    have h1 := iha l
    have h2 := ihb (codeE a l ++ [⟨7, 0, e0⟩])
    have h3 := ihb (codeE a l ++ [⟨7, (codeE a l).length + 3, e0⟩, ⟨1, 1, e0⟩, ⟨6, 0, e0⟩])
    have h4 := ihb (codeE a l)
    unfold codeE
    simp only [List.length_append, List.length_cons, List.length_nil] at h2 h3
    split
    · simp [E.size]; omega
    · split
      · simp [E.size]; omega
      · simp [E.size]; omega
/-- What lies before stays. -/
theorem codeE_get (e : E) (l : List Bc) : ∀ k, k < l.length → (codeE e l)[k]? = l[k]? := by
  induction e generalizing l with
  | num n => intro k hk; simp [codeE, List.getElem?_append_left, hk]
  | name s => intro k hk; simp [codeE, List.getElem?_append_left, hk]
  | neg a ih => intro k hk; have := (codeE_len a l).1; simp only [codeE]; rw [List.getElem?_append_left (by omega)]; exact ih l k hk
  | not a ih => intro k hk; have := (codeE_len a l).1; simp only [codeE]; rw [List.getElem?_append_left (by omega)]; exact ih l k hk
  | two s a b iha ihb =>
    intro k hk
    have h1 := (codeE_len a l).1
    have h2 := (codeE_len b (codeE a l ++ [⟨7, 0, e0⟩])).1
    have h3 := (codeE_len b (codeE a l ++ [⟨7, (codeE a l).length + 3, e0⟩, ⟨1, 1, e0⟩, ⟨6, 0, e0⟩])).1
    have h4 := (codeE_len b (codeE a l)).1
    simp only [List.length_append, List.length_cons, List.length_nil] at h2 h3
    unfold codeE
    split
    · dsimp only
      rw [List.getElem?_append_left (by simp; omega), List.getElem?_set_ne (by omega), List.getElem?_append_left (by omega), ihb _ k (by simp; omega), List.getElem?_append_left (by omega), iha l k hk]
    · split
      · dsimp only
        rw [List.getElem?_set_ne (by omega), List.getElem?_append_left (by omega), ihb _ k (by simp; omega), List.getElem?_append_left (by omega), iha l k hk]
      · rw [List.getElem?_append_left (by omega), ihb _ k (by omega), iha l k hk]
theorem readE_size (n : Nat) (l : List Ex) : ∀ (e : E) (r : List Ex), readE n l = some (e, r) → e.size + r.length ≤ l.length := by
  fun_induction readE n l <;> grind [E.size]
theorem parse_size {l : List Ex} {e : E} (h : parse l = some e) : e.size ≤ 40 := by
  unfold parse at h
  split at h
  · split at h
    · rename_i h1
      obtain rfl := Option.some.inj h
      have := readE_size _ _ _ _ h1
      simp at this
      omega
    · cases h
  · cases h
theorem parseL_parse {l : List Ex} {e : E} (h : parseL l = some e) : parse l = some e := by
  unfold parseL at h
  split at h
  · cases h
  · exact h
theorem parseL_size {l : List Ex} {e : E} (h : parseL l = some e) : e.size ≤ 40 := parse_size (parseL_parse h)
theorem parseL_names {l : List Ex} {e : E} (h : parseL l = some e) : e.names = true := by
  have h1 := parseL_parse h
  unfold parseL at h
  split at h
  · cases h
  · rename_i hb
    rw [parse_names h1] at hb
    simpa using hb
/-- The code of an expression of locals, where it is not too long. -/
def makeExpr (l : List Ex) : Option (List Bc) :=
  match parseL l with
  | some e => if (codeE e []).length ≤ 120 then some (codeE e []) else none
  | none => none
end Go.Ev

/- Marks, in plain words. -/
namespace Go.Ev
set_option linter.unusedVariables false
set_option linter.unusedSimpArgs false
set_option linter.unusedVariables false
set_option linter.unusedSimpArgs false
def mtGo : Nat → Int → ByteArray → ByteArray
  | 0, _, o => o
  | n + 1, k, o => if k > 0 then mtGo n (k.tdiv 10) (strOf [48 + k.tmod 10] ++ o) else o
def mText (k : Int) : ByteArray := if k ≤ 0 then ⟨#[109, 48]⟩ else ⟨#[109]⟩ ++ mtGo 18 k ⟨#[]⟩
theorem strOf_size (xs : List Int) : (strOf xs).size = xs.length := by simp [strOf, ByteArray.size]
theorem mtGo_size : ∀ (n : Nat) (k : Int) (o : ByteArray), o.size + n ≤ 1000 → (mtGo n k o).size ≤ 1000
  | 0, k, o, h => by simp only [mtGo]; omega
  | n + 1, k, o, h => by
    unfold mtGo
    split
    · exact mtGo_size n _ _ (by rw [ByteArray.size_append, strOf_size]; simp; omega)
    · omega
/-- A list of three cells an element, marked from k on. -/
def mark3 (mt : Int → ByteArray) (k : Int) : Nat → List Bc
  | 0 => []
  | n + 1 => ⟨k, k + 1, mt (k + 1 + 1)⟩ :: mark3 mt (k + 1 + 1 + 1) n
@[simp high] theorem bcc_get_mid (m : List Bc) (x : Bc) (r : List Bc) : (bcc (m ++ x :: r))[m.length]? = some [C.t (.int .i64 x.op), C.t (.int .i64 x.n), C.t (.str x.text)] := by simp [bcc, Bc.cc]
@[simp high] theorem lkp_bc_mid (m : List Bc) (x : Bc) (r : List Bc) : lkp ((m ++ x :: r).map Bc.ce) (m.length : Int) = some [T.int .i64 x.op, T.int .i64 x.n, T.str x.text] := by simp [Bc.ce]
def exb (l : List Ex) : List Bc := l.map fun x => ⟨x.kind, x.num, x.text⟩
@[simp] theorem exb_len (l : List Ex) : (exb l).length = l.length := by simp [exb]
@[simp] theorem exb_ce (l : List Ex) : (exb l).map Bc.ce = l.map Ex.ce := by simp [exb, Function.comp_def, Bc.ce, Ex.ce]
@[simp high] theorem lkp_ex_mid (m : List Ex) (x : Ex) (r : List Ex) : lkp ((m ++ x :: r).map Ex.ce) (m.length : Int) = some [T.int .i64 x.kind, T.int .i64 x.num, T.str x.text] := by simp [Ex.ce]
theorem mark3_len (mt : Int → ByteArray) (k : Int) (n : Nat) : (mark3 mt k n).length = n := by induction n generalizing k with
  | zero => rfl
  | succ n ih => simp [mark3, ih]
end Go.Ev

/- Numbers of expressions, and expressions folded, in plain words. -/
namespace Go.Ev
set_option linter.unusedVariables false
set_option linter.unusedSimpArgs false
set_option linter.unusedVariables false
set_option linter.unusedSimpArgs false
/-- A number and code 0, or a code. -/
def inB (n : Int) : Int × Int := if -1000000000 ≤ n ∧ n ≤ 1000000000 then (n, 0) else (0, 3)
def tru (b : Bool) : Int := if b = true then 1 else 0
def two2 (l : List UInt8) (a b : Int) : Int × Int :=
  if l = [43] then inB (a + b) else if l = [45] then inB (a - b) else if l = [42] then inB (a * b)
  else if l = [47] then (if b = 0 then (0, 2) else (a.tdiv b, 0)) else if l = [37] then (if b = 0 then (0, 2) else (a.tmod b, 0))
  else if l = [60, 60] then (if 0 ≤ b ∧ b ≤ 20 then inB (a * 2 ^ b.toNat) else (0, 3))
  else if l = [60] then (tru (decide (a < b)), 0) else if l = [60, 61] then (tru (decide (a ≤ b)), 0) else if l = [61, 61] then (tru (decide (a = b)), 0)
  else (tru (!decide (a = b)), 0)
/-- The number of an expression where `f` tells that of a name (none: no such name). -/
def evalE (f : ByteArray → Option Int) : E → Int × Int
  | .num n => (n, 0)
  | .name s => match f s with
    | some n => (n, 0)
    | none => (0, 1)
  | .neg a => if (evalE f a).2 = 0 then (-(evalE f a).1, 0) else (0, (evalE f a).2)
  | .not a => if (evalE f a).2 = 0 then (tru (decide ((evalE f a).1 = 0)), 0) else (0, (evalE f a).2)
  | .two s a b =>
    if (evalE f a).2 = 0 then
      (if s.toList = [38, 38] then (if (evalE f a).1 = 0 then (0, 0) else if (evalE f b).2 = 0 then (tru (!decide ((evalE f b).1 = 0)), 0) else (0, (evalE f b).2))
       else if s.toList = [124, 124] then (if (evalE f a).1 = 0 then (if (evalE f b).2 = 0 then (tru (!decide ((evalE f b).1 = 0)), 0) else (0, (evalE f b).2)) else (1, 0))
       else if (evalE f b).2 = 0 then two2 s.toList (evalE f a).1 (evalE f b).1 else (0, (evalE f b).2))
    else (0, (evalE f a).2)
/-- Where all is known a number stands; and whether it does. -/
def foldNum (e : E) : E × Bool :=
  if (evalE (fun _ => none) e).2 = 0 ∧ 0 ≤ (evalE (fun _ => none) e).1 ∧ (evalE (fun _ => none) e).1 ≤ 999999999 then (.num (evalE (fun _ => none) e).1, true) else (e, false)
def foldE : E → E × Bool
  | .num n => foldNum (.num n)
  | .name s => (.name s, false)
  | .neg a => if (foldE a).2 = true then foldNum (.neg (foldE a).1) else (.neg (foldE a).1, false)
  | .not a => if (foldE a).2 = true then foldNum (.not (foldE a).1) else (.not (foldE a).1, false)
  | .two s a b => if (foldE a).2 = true ∧ (foldE b).2 = true then foldNum (.two s (foldE a).1 (foldE b).1) else (.two s (foldE a).1 (foldE b).1, false)
/-- The parts of an expression, in order. -/
def E.parts : E → List Ex
  | .num n => [⟨1, n, e0⟩]
  | .name s => [⟨2, 0, s⟩]
  | .neg a => ⟨3, 0, e0⟩ :: a.parts
  | .not a => ⟨4, 0, e0⟩ :: a.parts
  | .two s a b => ⟨5, 0, s⟩ :: (a.parts ++ b.parts)
theorem mul_bd {a b : Int} (ha : -1000000000 ≤ a) (ha2 : a ≤ 1000000000) (hb : -1000000000 ≤ b) (hb2 : b ≤ 1000000000) : -1000000000000000000 ≤ a * b ∧ a * b ≤ 1000000000000000000 := by
  have h1 : a.natAbs ≤ 1000000000 := by omega
  have h2 : b.natAbs ≤ 1000000000 := by omega
  have h3 : (a * b).natAbs ≤ 1000000000 * 1000000000 := by rw [Int.natAbs_mul]; exact Nat.mul_le_mul h1 h2
  omega
theorem tdiv_bd {a : Int} (b : Int) (ha : -1000000000 ≤ a) (ha2 : a ≤ 1000000000) : -1000000000 ≤ a.tdiv b ∧ a.tdiv b ≤ 1000000000 := by
  have h1 : (a.tdiv b).natAbs ≤ a.natAbs := by rw [Int.natAbs_tdiv]; exact Nat.div_le_self _ _
  omega
/-- A tree az it is read: numbers in bounds, signs known. -/
def E.ok : E → Prop
  | .num n => 0 ≤ n ∧ n ≤ 999999999
  | .name _ => True
  | .neg a | .not a => a.ok
  | .two s a b => strength s.toList ≠ 0 ∧ a.ok ∧ b.ok
theorem readE_ok (n : Nat) (l : List Ex) : ∀ (e : E) (r : List Ex), readE n l = some (e, r) → e.ok := by
  fun_induction readE n l <;> grind [E.ok]
theorem parse_ok {l : List Ex} {e : E} (h : parse l = some e) : e.ok := by
  unfold parse at h
  split at h
  · split at h
    · rename_i h1
      obtain rfl := Option.some.inj h
      exact readE_ok _ _ _ _ h1
    · cases h
  · cases h
theorem inB_bd (n : Int) : -1000000000 ≤ (inB n).1 ∧ (inB n).1 ≤ 1000000000 := by unfold inB; split <;> simp <;> omega
theorem tru_bd (b : Bool) : 0 ≤ tru b ∧ tru b ≤ 1 := by unfold tru; split <;> omega
theorem tmod_bd {a : Int} (b : Int) (ha : -1000000000 ≤ a) (ha2 : a ≤ 1000000000) : -1000000000 ≤ a.tmod b ∧ a.tmod b ≤ 1000000000 := by
  have h1 : (a.tmod b).natAbs ≤ a.natAbs := by rw [Int.natAbs_tmod]; exact Nat.mod_le _ _
  omega
theorem two2_bd (l : List UInt8) {a b : Int} (ha : -1000000000 ≤ a) (ha2 : a ≤ 1000000000) : -1000000000 ≤ (two2 l a b).1 ∧ (two2 l a b).1 ≤ 1000000000 := by
  have h1 := inB_bd (a + b)
  have h2 := inB_bd (a - b)
  have h3 := inB_bd (a * b)
  have h4 := tdiv_bd b ha ha2
  have h5 := tmod_bd b ha ha2
  have h6 := inB_bd (a * 2 ^ b.toNat)
  have h7 := tru_bd (decide (a < b))
  have h8 := tru_bd (decide (a ≤ b))
  have h9 := tru_bd (decide (a = b))
  have h10 := tru_bd (!decide (a = b))
  unfold two2
  repeat' split
  all_goals first | assumption | (simp; omega) | (dsimp only; omega)
theorem evalE_bd (f : ByteArray → Option Int) (hf : ∀ s n, f s = some n → -1000000000 ≤ n ∧ n ≤ 1000000000) : ∀ (e : E), e.ok → -1000000000 ≤ (evalE f e).1 ∧ (evalE f e).1 ≤ 1000000000
  | .num n, h => by simp only [E.ok] at h; simp only [evalE]; omega
  | .name s, h => by
    simp only [evalE]
    split
    · exact hf _ _ (by assumption)
    · simp
  | .neg a, h => by
    have := evalE_bd f hf a h
    simp only [evalE]
    split <;> dsimp only <;> omega
  | .not a, h => by
    have := tru_bd (decide ((evalE f a).1 = 0))
    simp only [evalE]
    split <;> dsimp only <;> omega
  | .two s a b, h => by
    have h1 := evalE_bd f hf a h.2.1
    have h2 := two2_bd s.toList (b := (evalE f b).1) h1.1 h1.2
    have h3 := tru_bd (!decide ((evalE f b).1 = 0))
    simp only [evalE]
    repeat' split
    all_goals first | assumption | (dsimp only; omega)
abbrev ev0 (e : E) : Int × Int := evalE (fun _ => none) e
theorem evalE0_bd {e : E} (h : e.ok) : -1000000000 ≤ (ev0 e).1 ∧ (ev0 e).1 ≤ 1000000000 := evalE_bd _ (fun s n h => by cases h) e h
/-- The same, not yet kept in bounds. -/
def do2 (l : List UInt8) (a b : Int) : Int × Int :=
  if l = [43] then (a + b, 0) else if l = [45] then (a - b, 0) else if l = [42] then (a * b, 0)
  else if l = [60] then (tru (decide (a < b)), 0) else if l = [60, 61] then (tru (decide (a ≤ b)), 0) else if l = [61, 61] then (tru (decide (a = b)), 0)
  else if l = [33, 61] then (tru (!decide (a = b)), 0)
  else if l = [60, 60] then (if 0 ≤ b ∧ b ≤ 20 then (a * 2 ^ b.toNat, 0) else (0, 3))
  else if b = 0 then (0, 2) else if l = [47] then (a.tdiv b, 0) else (a.tmod b, 0)
def outB (p : Int × Int) : Int × Int := if p.2 = 0 ∧ ¬ (-1000000000 ≤ p.1 ∧ p.1 ≤ 1000000000) then (0, 3) else p
theorem do2_two (l : List UInt8) (a b : Int) (h : strength l ≠ 0) (h1 : l ≠ [38, 38]) (h2 : l ≠ [124, 124]) (ha : -1000000000 ≤ a) (ha2 : a ≤ 1000000000) : two2 l a b = outB (do2 l a b) := by
  have h4 := tdiv_bd b ha ha2
  have h5 := tmod_bd b ha ha2
  have h7 := tru_bd (decide (a < b))
  have h8 := tru_bd (decide (a ≤ b))
  have h9 := tru_bd (decide (a = b))
  have h10 := tru_bd (!decide (a = b))
  unfold two2 do2
  generalize tru (decide (a < b)) = t7 at *
  generalize tru (decide (a ≤ b)) = t8 at *
  generalize tru (decide (a = b)) = t9 at *
  generalize tru (!decide (a = b)) = t10 at *
  generalize a.tdiv b = t4 at *
  generalize a.tmod b = t5 at *
  generalize a * 2 ^ b.toNat = t6 at *
  generalize a * b = t3 at *
  have hl : l = [61, 61] ∨ l = [33, 61] ∨ l = [60] ∨ l = [60, 61] ∨ l = [43] ∨ l = [45] ∨ l = [42] ∨ l = [47] ∨ l = [37] ∨ l = [60, 60] := by
    unfold strength at h
    grind
  rcases hl with rfl | rfl | rfl | rfl | rfl | rfl | rfl | rfl | rfl | rfl
  all_goals simp [outB, inB]
  all_goals grind
theorem pow2_eq {n : Nat} (h : n ≤ 20) : pow2 (n : Int) 64 = 2 ^ n := by
  unfold pow2
  rw [Int.toNat_natCast, Nat.min_eq_left (by omega)]
theorem pow_bd {n : Nat} (h : n ≤ 20) : 1 ≤ (2 : Int) ^ n ∧ (2 : Int) ^ n ≤ 1048576 := by
  have h1 : (2 : Nat) ^ n ≤ 2 ^ 20 := Nat.pow_le_pow_right (by omega) h
  have h2 : 1 ≤ (2 : Nat) ^ n := Nat.one_le_two_pow
  have h3 : (2 : Nat) ^ 20 = 1048576 := by decide
  have h4 : (2 : Int) ^ n = ((2 ^ n : Nat) : Int) := by simp
  rw [h4]
  omega
theorem mulp_bd {a p : Int} (ha : -1000000000 ≤ a) (ha2 : a ≤ 1000000000) (hp : 1 ≤ p ∧ p ≤ 1048576) : -1048576000000000 ≤ a * p ∧ a * p ≤ 1048576000000000 := by
  have h1 : a.natAbs ≤ 1000000000 := by omega
  have h2 : p.natAbs ≤ 1048576 := by omega
  have h3 : (a * p).natAbs ≤ 1000000000 * 1048576 := by rw [Int.natAbs_mul]; exact Nat.mul_le_mul h1 h2
  omega
theorem foldNum_ok {e : E} (h : e.ok) : (foldNum e).1.ok := by
  unfold foldNum
  split
  · rename_i h1; exact h1.2
  · exact h
theorem foldE_ok : ∀ (e : E), e.ok → (foldE e).1.ok
  | .num n, h => foldNum_ok h
  | .name s, h => h
  | .neg a, h => by
    have := foldE_ok a h
    simp only [foldE]
    split
    · exact foldNum_ok this
    · exact this
  | .not a, h => by
    have := foldE_ok a h
    simp only [foldE]
    split
    · exact foldNum_ok this
    · exact this
  | .two s a b, h => by
    have h1 := foldE_ok a h.2.1
    have h2 := foldE_ok b h.2.2
    simp only [foldE]
    split
    · exact foldNum_ok (e := .two s _ _) ⟨h.1, h1, h2⟩
    · exact ⟨h.1, h1, h2⟩
theorem foldNum_kind {e : E} (h : e.kind ≠ 1) : (foldNum e).2 = decide ((foldNum e).1.kind = 1) := by
  unfold foldNum
  split
  · simp
  · simp [h]
theorem foldE_kind : ∀ (e : E), e.ok → (foldE e).2 = decide ((foldE e).1.kind = 1)
  | .num n, h => by
    simp only [E.ok] at h
    simp [foldE, foldNum, evalE, h]
  | .name s, h => by simp [foldE]
  | .neg a, h => by
    simp only [foldE]
    split
    · exact foldNum_kind (by simp)
    · simp
  | .not a, h => by
    simp only [foldE]
    split
    · exact foldNum_kind (by simp)
    · simp
  | .two s a b, h => by
    simp only [foldE]
    split
    · exact foldNum_kind (by simp)
    · simp
theorem parts_len (e : E) : e.parts.length = e.size := by induction e <;> simp [E.parts, E.size, *] <;> omega
theorem foldNum_size (e : E) : (foldNum e).1.size ≤ e.size := by
  unfold foldNum
  split
  · cases e <;> simp [E.size]
  · exact Nat.le_refl _
theorem foldE_size (e : E) : (foldE e).1.size ≤ e.size := by
  induction e with
  | num n => exact foldNum_size _
  | name s => exact Nat.le_refl _
  | neg a ih =>
    have h := foldNum_size (.neg (foldE a).1)
    simp only [foldE]
    split <;> simp only [E.size] at * <;> omega
  | not a ih =>
    have h := foldNum_size (.not (foldE a).1)
    simp only [foldE]
    split <;> simp only [E.size] at * <;> omega
  | two s a b iha ihb =>
    have h := foldNum_size (.two s (foldE a).1 (foldE b).1)
    simp only [foldE]
    split <;> simp only [E.size] at * <;> omega
/-- An expression folded: its parts. -/
def foldX (l : List Ex) : Option (List Ex) := (parse l).map fun e => (foldE e).1.parts
theorem exb_app (a b : List Ex) : exb (a ++ b) = exb a ++ exb b := by simp [exb]
theorem exb_cons (a : Ex) (b : List Ex) : exb (a :: b) = ⟨a.kind, a.num, a.text⟩ :: exb b := rfl
end Go.Ev

/- Code that is made of a program, in plain words. -/
namespace Go.Ev
set_option linter.unusedVariables false
set_option linter.unusedSimpArgs false
set_option linter.unusedVariables false
set_option linter.unusedSimpArgs false
def bc0 : Bc := ⟨0, 0, e0⟩
/-- The number of a step is set. -/
def setN (l : List Bc) (k : Nat) (n : Int) : List Bc := l.set k ⟨(l.getD k bc0).op, n, (l.getD k bc0).text⟩
@[simp] theorem setN_len (l : List Bc) (k : Nat) (n : Int) : (setN l k n).length = l.length := by simp [setN]
theorem bcc_getD {l : List Bc} {k : Nat} (h : k < l.length) : (bcc l)[k]? = some [C.t (.int .i64 (l.getD k bc0).op), C.t (.int .i64 (l.getD k bc0).n), C.t (.str (l.getD k bc0).text)] := by simp [bcc, h, Bc.cc]
def codeL (x : Line) (o : List Bc) : List Bc :=
  match parseL x.expr with
  | some e => codeE e o
  | none => o
theorem codeL_len (x : Line) (o : List Bc) : o.length ≤ (codeL x o).length ∧ (codeL x o).length ≤ o.length + 240 := by
  unfold codeL
  split
  · rename_i e he
    have h1 := codeE_len e o
    have h2 := parseL_size he
    omega
  · omega
def jOf (W : List Int) (i : Nat) : Nat := (W.getD i 0).toNat
/-- The code of lines: B tells where each begins, H where the hole of each is. -/
def makeGo (W : List Int) : List Line → Nat → List Int → List Int → List Bc → List Bc
  | [], _, _, _, o => o
  | x :: r, i, B, H, o =>
    if x.kind = 3 then makeGo W r (i + 1) (B.set i o.length) H (setN (o ++ [⟨6, (B.set i o.length).getD (jOf W i) 0, e0⟩]) (H.getD (jOf W i) 0).toNat (o.length + 1))
    else if x.kind = 1 then makeGo W r (i + 1) (B.set i o.length) H (codeL x o ++ [⟨3, x.name, e0⟩])
    else makeGo W r (i + 1) (B.set i o.length) (H.set i (codeL x o).length) (codeL x o ++ [⟨7, 0, e0⟩])
/-- The same where each line but the last of a loop has a hole. -/
def makeGoS (W : List Int) : List Line → Nat → List Int → List Int → List Bc → List Bc
  | [], _, _, _, o => o
  | x :: r, i, B, H, o =>
    if x.kind = 3 then makeGoS W r (i + 1) (B.set i o.length) H (setN (o ++ [⟨6, (B.set i o.length).getD (jOf W i) 0, e0⟩]) (H.getD (jOf W i) 0).toNat (o.length + 1))
    else makeGoS W r (i + 1) (B.set i o.length) (H.set i (codeL x o).length) (codeL x o ++ [if x.kind = 1 then ⟨3, x.name, e0⟩ else ⟨7, 0, e0⟩])
theorem makeGo_len (W : List Int) : ∀ (rest : List Line) (i : Nat) (B H : List Int) (o : List Bc), (makeGo W rest i B H o).length ≤ o.length + 250 * rest.length
  | [], i, B, H, o => by simp [makeGo]
  | x :: rest, i, B, H, o => by
    have hc := codeL_len x o
    unfold makeGo
    split
    · refine Nat.le_trans (makeGo_len W rest _ _ _ _) ?_
      simp
      omega
    · split
      · refine Nat.le_trans (makeGo_len W rest _ _ _ _) ?_
        simp
        omega
      · refine Nat.le_trans (makeGo_len W rest _ _ _ _) ?_
        simp
        omega
/-- Where a loop ends it has begun. -/
def goodW (p : List Line) (W : List Int) : Prop := ∀ (k : Nat) (x : Line), p[k]? = some x → x.kind = 3 → ∃ (j : Nat) (y : Line), W.getD k 0 = j ∧ j < k ∧ p[j]? = some y ∧ y.kind = 2
theorem goodW_go (p : List Line) : ∀ (rest done : List Line) (W st junk W' st' junk' : List Int), p = done ++ rest → W.length = p.length →
    (∀ a ∈ st, ∃ (j : Nat) (y : Line), a = j ∧ j < done.length ∧ p[j]? = some y ∧ y.kind = 2) →
    (∀ (k : Nat) (x : Line), k < done.length → p[k]? = some x → x.kind = 3 → ∃ (j : Nat) (y : Line), W.getD k 0 = j ∧ j < k ∧ p[j]? = some y ∧ y.kind = 2) →
    endsGo rest done.length W st junk = some (W', st', junk') → goodW p W'
  | [], done, W, st, junk, W', st', junk', hp, hW, hst, hg, h => by
    simp [endsGo] at h
    obtain ⟨rfl, _, _⟩ := h
    intro k x hk h3
    have : k < done.length := by
      have := (List.getElem?_eq_some_iff.1 hk).1
      simpa [hp] using this
    exact hg k x this hk h3
  | x :: rest, done, W, st, junk, W', st', junk', hp, hW, hst, hg, h => by
    have hx : p[done.length]? = some x := by simp [hp]
    have hdl : (done ++ [x]).length = done.length + 1 := by simp
    have hp' : p = (done ++ [x]) ++ rest := by simp [hp]
    have hlt : done.length < p.length := (List.getElem?_eq_some_iff.1 hx).1
    unfold endsGo at h
    split at h
    · rename_i h2
      refine goodW_go p rest (done ++ [x]) W (done.length :: st) junk.tail W' st' junk' hp' hW (fun a ha => ?_) (fun k y hk hy h3 => ?_) (by rw [hdl]; exact h)
      · rcases List.mem_cons.1 ha with rfl | ha
        · exact ⟨done.length, x, rfl, by omega, hx, h2⟩
        · obtain ⟨j, y, e1, e2, e3, e4⟩ := hst a ha
          exact ⟨j, y, e1, by omega, e3, e4⟩
      · by_cases e : k = done.length
        · subst e
          rw [hx] at hy
          obtain rfl := Option.some.inj hy
          omega
        · exact hg k y (by omega) hy h3
    · split at h
      · rename_i h2 h3
        split at h
        · cases h
        · rename_i j0 st0
          obtain ⟨j, y, rfl, e2, e3, e4⟩ := hst j0 (by simp)
          refine goodW_go p rest (done ++ [x]) ((W.set done.length j).set j done.length) st0 _ W' st' junk' hp' (by simp [hW]) (fun a ha => ?_) (fun k z hk hz hz3 => ?_) (by rw [hdl]; exact h)
          · obtain ⟨j, y, e1, e2, e3, e4⟩ := hst a (by simp [ha])
            exact ⟨j, y, e1, by omega, e3, e4⟩
          · have hkj : k ≠ j := by
              rintro rfl
              rw [e3] at hz
              obtain rfl := Option.some.inj hz
              omega
            by_cases e : k = done.length
            · subst e
              refine ⟨j, y, ?_, e2, e3, e4⟩
              simp [List.getD_eq_getElem?_getD, List.getElem?_set, hW, hlt, Ne.symm hkj]
            · obtain ⟨j', y', q1, q2⟩ := hg k z (by omega) hz hz3
              refine ⟨j', y', ?_, q2⟩
              rw [← q1]
              simp [List.getD_eq_getElem?_getD, List.getElem?_set, Ne.symm hkj, Ne.symm e]
      · rename_i h2 h3
        refine goodW_go p rest (done ++ [x]) W st junk W' st' junk' hp' hW (fun a ha => ?_) (fun k y hk hy h3 => ?_) (by rw [hdl]; exact h)
        · obtain ⟨j, y, e1, e2, e3, e4⟩ := hst a ha
          exact ⟨j, y, e1, by omega, e3, e4⟩
        · by_cases e : k = done.length
          · subst e
            rw [hx] at hy
            obtain rfl := Option.some.inj hy
            omega
          · exact hg k y (by omega) hy h3
theorem goodW_of {p : List Line} {W st junk : List Int} (h : endsGo p 0 (List.replicate p.length 0) [] [] = some (W, st, junk)) : goodW p W :=
  goodW_go p p [] _ [] [] W st junk rfl (by simp) (by simp) (fun k x hk => by simp at hk) h
theorem makeGo_eq (p : List Line) (W : List Int) (hW : goodW p W) : ∀ (rest done : List Line) (B H H' : List Int) (o : List Bc), p = done ++ rest → H.length = p.length → H'.length = p.length →
    (∀ (j : Nat) (y : Line), j < done.length → p[j]? = some y → y.kind = 2 → H.getD j 0 = H'.getD j 0) → makeGo W rest done.length B H o = makeGoS W rest done.length B H' o
  | [], done, B, H, H', o, hp, hl, hl', hh => rfl
  | x :: rest, done, B, H, H', o, hp, hl, hl', hh => by
    have hx : p[done.length]? = some x := by simp [hp]
    have hdl : (done ++ [x]).length = done.length + 1 := by simp
    have hp' : p = (done ++ [x]) ++ rest := by simp [hp]
    have hlt : done.length < p.length := (List.getElem?_eq_some_iff.1 hx).1
    have ih := fun B H H' o => makeGo_eq p W hW rest (done ++ [x]) B H H' o hp'
    rw [hdl] at ih
    have old : ∀ (j : Nat) (y : Line), j < done.length + 1 → p[j]? = some y → y.kind = 2 → x.kind ≠ 2 → j < done.length := fun j y hj hy h2 hx2 => by
      by_cases e : j = done.length
      · subst e
        rw [hx] at hy
        obtain rfl := Option.some.inj hy
        exact absurd h2 hx2
      · omega
    unfold makeGo makeGoS
    by_cases h3 : x.kind = 3
    · rw [if_pos h3, if_pos h3]
      obtain ⟨j, y, e1, e2, e3, e4⟩ := hW _ x hx h3
      have ej : jOf W done.length = j := by rw [jOf, e1]; simp
      rw [ej, hh j y e2 e3 e4]
      exact ih _ H H' _ hl hl' fun j y hj hy h2 => hh j y (old j y hj hy h2 (by omega)) hy h2
    · rw [if_neg h3, if_neg h3]
      by_cases h1 : x.kind = 1
      · rw [if_pos h1, if_pos h1]
        refine ih _ H _ _ hl (by simp [hl']) fun j y hj hy h2 => ?_
        have hj' := old j y hj hy h2 (by omega)
        rw [hh j y hj' hy h2]
        simp [List.getD_eq_getElem?_getD, List.getElem?_set, show done.length ≠ j by omega]
      · rw [if_neg h1, if_neg h1]
        refine ih _ _ _ _ (by simp [hl]) (by simp [hl']) fun j y hj hy h2 => ?_
        by_cases e : j = done.length
        · subst e
          simp [List.getD_eq_getElem?_getD, List.getElem?_set, hl, hl', hlt]
        · have := hh j y (by omega) hy h2
          simp only [List.getD_eq_getElem?_getD] at this
          simp [List.getD_eq_getElem?_getD, List.getElem?_set, Ne.symm e, this]
/-- The code of a program, where it is not too long. -/
def codeAll (p : List Line) (W : List Int) : List Bc := makeGo W p 0 (List.replicate p.length 0) (List.replicate p.length 0) [] ++ [⟨2, 0, e0⟩, ⟨9, 0, e0⟩]
def makeCode (p : List Line) : Option (List Bc) :=
  if goodProgram p = true then match endsGo p 0 (List.replicate p.length 0) [] [] with
    | some (W, _, _) => if (codeAll p W).length ≤ 120 then some (codeAll p W) else none
    | none => none else none
theorem goodProgram_all {p : List Line} (h : goodProgram p = true) : 1 ≤ p.length ∧ p.length ≤ 12 ∧ (∀ x ∈ p, lineOk x = true) ∧ ∃ W junk, endsGo p 0 (List.replicate p.length 0) [] [] = some (W, [], junk) := by
  unfold goodProgram endsOk at h
  simp only [Bool.and_eq_true, Bool.not_eq_true', decide_eq_true_eq] at h
  obtain ⟨⟨⟨h1, h2⟩, h3⟩, h4⟩ := h
  refine ⟨by omega, by omega, fun x hx => ?_, ?_⟩
  · have := List.any_eq_false.1 h3 x hx
    simpa using this
  · split at h4
    · rename_i W st junk he
      have : st = [] := List.length_eq_zero_iff.1 (by simpa using h4)
      exact ⟨W, junk, by rw [he, this]⟩
    · cases h4
theorem lineOk_kind {x : Line} (h : lineOk x = true) : x.kind = 1 ∧ 0 ≤ x.name ∧ x.name ≤ 9 ∧ (∃ e, parseL x.expr = some e) ∨ x.kind = 2 ∧ (∃ e, parseL x.expr = some e) ∨ x.kind = 3 := by
  unfold lineOk at h
  split at h
  · rename_i h1
    simp only [Bool.and_eq_true, decide_eq_true_eq] at h
    obtain ⟨⟨h2, h3⟩, h4⟩ := h
    exact .inl ⟨h1, by omega, by omega, Option.isSome_iff_exists.1 h4⟩
  · split at h
    · rename_i h2
      simp only [Bool.and_eq_true] at h
      exact .inr (.inl ⟨h2, Option.isSome_iff_exists.1 h.2⟩)
    · simp only [Bool.and_eq_true, decide_eq_true_eq] at h
      exact .inr (.inr h.1.1)
end Go.Ev

/- Code that runs, in plain words. -/
namespace Go.Ev
set_option linter.unusedVariables false
set_option linter.unusedSimpArgs false
set_option linter.unusedVariables false
set_option linter.unusedSimpArgs false
def bd (n : Int) : Prop := -1000000000 ≤ n ∧ n ≤ 1000000000
def bcOk (x : Bc) (many : Int) : Bool :=
  if x.op = 4 then decide (x.n = 0) && decide (strength x.text.toList > 2)
  else if x.op = 5 then decide (x.n = 0) && (x.text.toList == [45] || x.text.toList == [33])
  else if x.text.toList == [] then
    (if x.op = 1 then decide (x.n ≥ -1000000000) && decide (x.n ≤ 1000000000)
     else if x.op = 2 ∨ x.op = 3 then decide (x.n ≥ 0) && decide (x.n ≤ 9)
     else if x.op = 6 ∨ x.op = 7 then decide (x.n ≥ 0) && decide (x.n ≤ many - 1)
     else (decide (x.op = 8) || decide (x.op = 9)) && decide (x.n = 0))
  else false
def goodCode (l : List Bc) : Bool := (decide ((l.length : Int) ≥ 1) && decide ((l.length : Int) ≤ 120)) && !(l.any fun x => !bcOk x l.length)
def mvOff (k : Int) : Int := if k = 1 ∨ k = 2 then 0 else if k = 3 ∨ k = 7 ∨ k = 8 then 1 else if k = 4 then 2 else if k = 5 ∨ k = 9 then 1 else 0
def mvOn (k : Int) : Int := if k = 1 ∨ k = 2 then 1 else if k = 3 ∨ k = 7 ∨ k = 8 then 0 else if k = 4 then 1 else if k = 5 ∨ k = 9 then 1 else 0
def endOf (c : Int) : Int := if c = 2 then 2 else if c = 3 then 3 else 0
/-- What a step comes to: how code ends (0: it goes on), locals, the stack (the uppermost first), what lies behind it in its row, the place. -/
structure StepR where
  e : Int
  lo : List Int
  st : List Int
  jk : List Int
  at_ : Int
def one1 (s : ByteArray) (a : Int) : Int := if s.toList = [45] then -a else tru (decide (a = 0))
def stepX (x : Bc) (lo st jk : List Int) (k : Int) : StepR :=
  if (st.length : Int) < mvOff x.op ∨ st.length - mvOff x.op + mvOn x.op > 30 then ⟨5, lo, st, jk, k⟩
  else if x.op = 1 then ⟨0, lo, x.n :: st, jk.tail, k + 1⟩
  else if x.op = 2 then ⟨0, lo, lo.getD x.n.toNat 0 :: st, jk.tail, k + 1⟩
  else if x.op = 6 then ⟨0, lo, st, jk, x.n⟩
  else if x.op = 9 then ⟨1, lo, st, jk, k + 1⟩
  else match st with
    | [] => ⟨5, lo, st, jk, k⟩
    | a :: r =>
      if x.op = 3 then ⟨0, lo.set x.n.toNat a, r, a :: jk, k + 1⟩
      else if x.op = 5 then ⟨0, lo, one1 x.text a :: r, jk, k + 1⟩
      else if x.op = 7 then ⟨0, lo, r, a :: jk, if a = 0 then x.n else k + 1⟩
      else if x.op = 8 then ⟨0, lo, r, a :: jk, k + 1⟩
      else match r with
        | [] => ⟨5, lo, st, jk, k⟩
        | b :: q => ⟨endOf (two2 x.text.toList b a).2, lo, (two2 x.text.toList b a).1 :: q, a :: jk, k + 1⟩
def stepI (l : List Bc) (lo st jk : List Int) (k : Int) : StepR :=
  match l[k.toNat]? with
  | none => ⟨5, lo, st, jk, k⟩
  | some x => stepX x lo st jk k
def runA (l : List Bc) : Nat → Int → List Int → List Int → List Int → Int → Int × Int × Int
  | 0, d, lo, st, jk, k => (4, 0, d)
  | n + 1, d, lo, st, jk, k =>
    if (stepI l lo st jk k).e = 0 then runA l n (d + 1) (stepI l lo st jk k).lo (stepI l lo st jk k).st (stepI l lo st jk k).jk (stepI l lo st jk k).at_
    else if (stepI l lo st jk k).e = 1 then (1, (stepI l lo st jk k).st.headD 0, d + 1) else ((stepI l lo st jk k).e, 0, d + 1)
theorem mv_bd (k : Int) : 0 ≤ mvOff k ∧ mvOff k ≤ 2 ∧ 0 ≤ mvOn k ∧ mvOn k ≤ 1 := by
  unfold mvOff mvOn
  grind
theorem bcOk_op {x : Bc} {m : Int} (h : bcOk x m = true) : x.op = 1 ∨ x.op = 2 ∨ x.op = 3 ∨ x.op = 4 ∨ x.op = 5 ∨ x.op = 6 ∨ x.op = 7 ∨ x.op = 8 ∨ x.op = 9 := by
  unfold bcOk at h
  grind
/-- What is so while code runs. -/
structure RunOk (l : List Bc) (lo st : List Int) (k : Int) : Prop where
  lol : lo.length = 10
  lob : ∀ v ∈ lo, bd v
  stl : st.length ≤ 30
  stb : ∀ v ∈ st, bd v
  k0 : 0 ≤ k
  k1 : k ≤ l.length
theorem one1_bd {a : Int} (s : ByteArray) (h : bd a) : bd (one1 s a) := by
  have := tru_bd (decide (a = 0))
  unfold one1 bd at *
  split <;> omega
theorem goodCode_mem {l : List Bc} (h : goodCode l = true) {x : Bc} (hx : x ∈ l) : bcOk x l.length = true := by
  unfold goodCode at h
  simp only [Bool.and_eq_true, Bool.not_eq_true'] at h
  have := List.any_eq_false.1 h.2 x hx
  simpa using this
theorem goodCode_len {l : List Bc} (h : goodCode l = true) : 1 ≤ l.length ∧ l.length ≤ 120 := by
  unfold goodCode at h
  simp only [Bool.and_eq_true, decide_eq_true_eq] at h
  omega
theorem getD_bd {lo : List Int} (h : ∀ v ∈ lo, bd v) (k : Nat) : bd (lo.getD k 0) := by
  rw [List.getD_eq_getElem?_getD]
  cases hk : lo[k]? with
  | none => simp [bd]
  | some v => exact h v (List.mem_of_getElem? hk)
theorem stepX_ok {l : List Bc} {x : Bc} {lo st jk : List Int} {k : Int} (hx : bcOk x l.length = true) (h : RunOk l lo st k) (hk : k < l.length) : RunOk l (stepX x lo st jk k).lo (stepX x lo st jk k).st (stepX x lo st jk k).at_ := by
  obtain ⟨h1, h2, h3, h4, h5, h6⟩ := h
  unfold stepX
  split
  · exact ⟨h1, h2, h3, h4, h5, h6⟩
  · rename_i hc
    have hc1 : ¬ (st.length : Int) < mvOff x.op := fun h => hc (.inl h)
    have hc2 : ¬ (st.length : Int) - mvOff x.op + mvOn x.op > 30 := fun h => hc (.inr h)
    clear hc
    split
    · rename_i e
      simp [mvOff, mvOn, e] at hc1 hc2
      refine ⟨h1, h2, by simp; omega, List.forall_mem_cons.2 ⟨?_, h4⟩, by dsimp only; omega, by dsimp only; omega⟩
      simp only [bcOk, e] at hx
      unfold bd
      grind
    · split
      · rename_i e
        simp [mvOff, mvOn, e] at hc1 hc2
        exact ⟨h1, h2, by simp; omega, List.forall_mem_cons.2 ⟨getD_bd h2 _, h4⟩, by dsimp only; omega, by dsimp only; omega⟩
      · split
        · rename_i e
          simp only [bcOk, e] at hx
          refine ⟨h1, h2, h3, h4, ?_, ?_⟩ <;> dsimp only <;> grind
        · split
          · exact ⟨h1, h2, h3, h4, by dsimp only; omega, by dsimp only; omega⟩
          · split
            · exact ⟨h1, h2, h3, h4, h5, h6⟩
            · rename_i a r
              have ha := h4 a (by simp)
              have hr : ∀ v ∈ r, bd v := fun v hv => h4 v (by simp [hv])
              simp only [List.length_cons] at h3
              split
              · refine ⟨by simpa using h1, fun v hv => ?_, by dsimp only; omega, hr, by dsimp only; omega, by dsimp only; omega⟩
                rcases List.mem_or_eq_of_mem_set hv with h | rfl
                · exact h2 v h
                · exact ha
              · split
                · exact ⟨h1, h2, by simp only [List.length_cons]; omega, List.forall_mem_cons.2 ⟨one1_bd _ ha, hr⟩, by dsimp only; omega, by dsimp only; omega⟩
                · split
                  · rename_i e
                    simp only [bcOk, e] at hx
                    refine ⟨h1, h2, by dsimp only; omega, hr, ?_, ?_⟩ <;> dsimp only <;> split <;> grind
                  · split
                    · exact ⟨h1, h2, by dsimp only; omega, hr, by dsimp only; omega, by dsimp only; omega⟩
                    · split
                      · exact ⟨h1, h2, by simp only [List.length_cons]; omega, h4, h5, h6⟩
                      · rename_i b q
                        have hb := hr b (by simp)
                        have ht := two2_bd x.text.toList (a := b) (b := a) hb.1 hb.2
                        simp only [List.length_cons] at h3
                        exact ⟨h1, h2, by simp only [List.length_cons]; omega, List.forall_mem_cons.2 ⟨ht, fun v hv => hr v (by simp [hv])⟩, by dsimp only; omega, by dsimp only; omega⟩
theorem stepI_ok {l : List Bc} {lo st jk : List Int} {k : Int} (hg : goodCode l = true) (h : RunOk l lo st k) : RunOk l (stepI l lo st jk k).lo (stepI l lo st jk k).st (stepI l lo st jk k).at_ := by
  unfold stepI
  split
  · exact h
  · rename_i x hx
    refine stepX_ok (goodCode_mem hg (List.mem_of_getElem? hx)) h ?_
    have := (List.getElem?_eq_some_iff.1 hx).1
    have := h.k0
    omega
theorem two2_code (l : List UInt8) (a b : Int) : (two2 l a b).2 = 0 ∨ (two2 l a b).2 = 2 ∨ (two2 l a b).2 = 3 := by
  have h : ∀ n, (inB n).2 = 0 ∨ (inB n).2 = 3 := fun n => by unfold inB; split <;> dsimp only <;> omega
  have h1 := h (a + b)
  have h2 := h (a - b)
  have h3 := h (a * b)
  have h4 := h (a * 2 ^ b.toNat)
  unfold two2
  repeat' split
  all_goals first | omega | (dsimp only; omega)
theorem stepX_e {x : Bc} {lo st jk : List Int} {k : Int} {q : StepR} (h : stepX x lo st jk k = q) : q.e ≠ 4 ∧ (q.e = 1 → ∃ a r, q.st = a :: r) := by
  have no : ∀ {e : Int} {lo st jk : List Int} {k : Int}, e ≠ 4 → e ≠ 1 → (StepR.mk e lo st jk k).e ≠ 4 ∧ ((StepR.mk e lo st jk k).e = 1 → ∃ a r, (StepR.mk e lo st jk k).st = a :: r) := fun h4 h1 => ⟨h4, fun h => absurd h h1⟩
  unfold stepX at h
  split at h
  · rw [← h]; exact no (by decide) (by decide)
  · rename_i hc
    have hc1 : ¬ (st.length : Int) < mvOff x.op := fun h => hc (.inl h)
    split at h
    · rw [← h]; exact no (by decide) (by decide)
    split at h
    · rw [← h]; exact no (by decide) (by decide)
    split at h
    · rw [← h]; exact no (by decide) (by decide)
    split at h
    · rename_i e
      rw [← h]
      refine ⟨by dsimp only; omega, fun _ => ?_⟩
      cases st with
      | nil => simp [mvOff, e] at hc1
      | cons a r => exact ⟨a, r, rfl⟩
    split at h
    · rw [← h]; exact no (by decide) (by decide)
    split at h
    · rw [← h]; exact no (by decide) (by decide)
    split at h
    · rw [← h]; exact no (by decide) (by decide)
    split at h
    · rw [← h]; exact no (by decide) (by decide)
    split at h
    · rw [← h]; exact no (by decide) (by decide)
    split at h
    · rw [← h]; exact no (by decide) (by decide)
    · rename_i b q
      have := two2_code x.text.toList b
      rw [← h]
      refine ⟨?_, fun _ => ⟨_, _, rfl⟩⟩
      dsimp only [endOf]
      repeat' split
      all_goals omega
theorem stepI_e (l : List Bc) (lo st jk : List Int) (k : Int) : (stepI l lo st jk k).e ≠ 4 ∧ ((stepI l lo st jk k).e = 1 → ∃ a r, (stepI l lo st jk k).st = a :: r) := by
  unfold stepI
  split
  · exact ⟨by dsimp only; omega, fun h => by dsimp only at h; omega⟩
  · exact stepX_e rfl
end Go.Ev

/- Lines whose parts lie in rows of their own, in plain words. -/
namespace Go.Ev
set_option linter.unusedVariables false
set_option linter.unusedSimpArgs false
set_option linter.unusedVariables false
set_option linter.unusedSimpArgs false
structure Ln where
  kind : Int
  name : Int
  ex : List Bc
def Ln.cc (x : Ln) : List C := [.t (.int .i64 x.kind), .t (.int .i64 x.name), .row 3 (x.ex.map Bc.ce)]
def lnb (l : List Line) : List Ln := l.map fun x => ⟨x.kind, x.name, exb x.expr⟩
def lnz : List C := [.t (.int .i64 0), .t (.int .i64 0), .t .nils]
@[simp] theorem lnb_len (l : List Line) : (lnb l).length = l.length := by simp [lnb]
@[simp high] theorem get_ln_mid (P Q : List Ln) (x : Ln) : ((P ++ x :: Q).map Ln.cc)[P.length]? = some [C.t (.int .i64 x.kind), C.t (.int .i64 x.name), C.row 3 (x.ex.map Bc.ce)] := by simp [Ln.cc]
@[simp high] theorem set_ln_mid (P Q : List Ln) (x : Ln) (a b : Int) (r : List Bc) : ((P ++ x :: Q).map Ln.cc).set P.length [C.t (.int .i64 a), C.t (.int .i64 b), C.row 3 (r.map Bc.ce)] = (P ++ ⟨a, b, r⟩ :: Q).map Ln.cc := by simp [Ln.cc]
@[simp high] theorem get_bce_mid (m rest : List Bc) (x : Bc) : ((m ++ x :: rest).map Bc.ce)[m.length]? = some [T.int .i64 x.op, T.int .i64 x.n, T.str x.text] := by simp [Bc.ce]
@[simp high] theorem set_bce_mid (m rest : List Bc) (x : Bc) (a b : Int) (s : ByteArray) : ((m ++ x :: rest).map Bc.ce).set m.length [T.int .i64 a, T.int .i64 b, T.str s] = (m ++ ⟨a, b, s⟩ :: rest).map Bc.ce := by simp [Bc.ce]
theorem lnb_fz (l : List Line) : ((lnb l).map Ln.cc).map (List.map C.fz) = l.map Line.ce := by
  simp [lnb, Function.comp_def, Ln.cc, Line.ce, C.fz]
@[simp] theorem lnb_fz' (l : List Line) : List.map (fun x => List.map C.fz x) ((lnb l).map Ln.cc) = l.map Line.ce := lnb_fz l
/-- How many marks lines take. -/
def marksN : List Ln → Int
  | [] => 0
  | x :: r => 2 + 3 * x.ex.length + marksN r
theorem marksN_nonneg : ∀ l, 0 ≤ marksN l
  | [] => by simp [marksN]
  | x :: r => by have := marksN_nonneg r; simp only [marksN]; omega
/-- Lines that are marked. -/
def marked (mt : Int → ByteArray) : Int → List Ln → List Ln
  | _, [] => []
  | k, x :: r => ⟨k, k + 1, mark3 mt (k + 1 + 1) x.ex.length⟩ :: marked mt (k + 2 + 3 * x.ex.length) r
theorem marked_len (mt : Int → ByteArray) : ∀ (l : List Ln) (k : Int), (marked mt k l).length = l.length
  | [], k => rfl
  | x :: r, k => by simp [marked, marked_len mt r]
end Go.Ev

/- Programs that run, in plain words. -/
namespace Go.Ev
set_option linter.unusedVariables false
set_option linter.unusedSimpArgs false
set_option linter.unusedVariables false
set_option linter.unusedSimpArgs false
/-- The names of locals. -/
def lname (n : Nat) : ByteArray := ⟨#[UInt8.ofNat (97 + n)]⟩
def lnames : List ByteArray := [lname 0, lname 1, lname 2, lname 3, lname 4, lname 5, lname 6, lname 7, lname 8, lname 9]
def strt (s : ByteArray) : List T := [.str s]
theorem idxFrom_names {s : ByteArray} (h : 0 ≤ nameNo s) : idxFrom (fun x : ByteArray => x.toList == s.toList) 0 lnames = nameNo s := by
  unfold nameNo at h ⊢
  split at h
  · rename_i b hb
    rw [hb]
    split at h
    · rename_i hr
      rw [if_pos hr]
      have e : ∀ n : Nat, n < 10 → ((lname n).toList == [b]) = decide (b.toNat = 97 + n) := fun n hn => by
        have h1 : (lname n).toList = [UInt8.ofNat (97 + n)] := by simp [lname, ByteArray.toList_eq]
        rw [h1]
        have h2 : (UInt8.ofNat (97 + n)).toNat = 97 + n := by simp; omega
        by_cases hh : b.toNat = 97 + n
        · have : UInt8.ofNat (97 + n) = b := UInt8.toNat_inj.1 (by omega)
          rw [this, decide_eq_true hh]; simp
        · have : UInt8.ofNat (97 + n) ≠ b := fun he => hh (by rw [← he]; exact h2)
          rw [decide_eq_false hh]
          exact beq_eq_false_iff_ne.2 fun he => this (by simpa only [List.cons.injEq, and_true] using he)
      have hb1 : 97 ≤ b.toNat := by omega
      have hb2 : b.toNat ≤ 106 := by omega
      simp only [lnames, idxFrom, e 0 (by omega), e 1 (by omega), e 2 (by omega), e 3 (by omega), e 4 (by omega), e 5 (by omega), e 6 (by omega), e 7 (by omega), e 8 (by omega), e 9 (by omega), decide_eq_true_eq]
      repeat' split
      all_goals omega
    · omega
  · omega
theorem nameNo_lt (s : ByteArray) : nameNo s ≤ 9 := by
  unfold nameNo
  split
  · split <;> omega
  · omega
/-- What a name stands for. -/
def lval (lo : List Int) (s : ByteArray) : Option Int := some (lo.getD (nameNo s).toNat 0)
theorem lval_bd {lo : List Int} (h : ∀ v ∈ lo, bd v) (s : ByteArray) (n : Int) (hn : lval lo s = some n) : -1000000000 ≤ n ∧ n ≤ 1000000000 := by
  obtain rfl := Option.some.inj hn
  exact getD_bd h _
theorem evalE_code (f : ByteArray → Option Int) (hf : ∀ s, f s ≠ none) : ∀ e : E, (evalE f e).2 = 0 ∨ (evalE f e).2 = 2 ∨ (evalE f e).2 = 3
  | .num n => .inl rfl
  | .name s => by
    simp only [evalE]
    cases h : f s with
    | none => exact absurd h (hf s)
    | some n => exact .inl rfl
  | .neg a => by
    have := evalE_code f hf a
    simp only [evalE]
    split
    · exact .inl rfl
    · exact this
  | .not a => by
    have := evalE_code f hf a
    simp only [evalE]
    split
    · exact .inl rfl
    · exact this
  | .two s a b => by
    have h1 := evalE_code f hf a
    have h2 := evalE_code f hf b
    have h3 := two2_code s.toList (evalE f a).1 (evalE f b).1
    simp only [evalE]
    repeat' split
    all_goals first | assumption | exact .inl rfl
/-- What a program comes to: locals (or none), how it ends. -/
def runP (W : List Int) (p : List Line) : Nat → Nat → List Int → Option (List Int) × Int
  | 0, k, lo => if k < p.length then (none, 4) else (some lo, 1)
  | n + 1, k, lo => match p[k]? with
    | none => (some lo, 1)
    | some x =>
      if x.kind = 3 then runP W p n (jOf W k) lo
      else match parseL x.expr with
        | none => (none, 4)
        | some e =>
          if (evalE (lval lo) e).2 = 0 then
            (if x.kind = 1 then runP W p n (k + 1) (lo.set x.name.toNat (evalE (lval lo) e).1)
             else if (evalE (lval lo) e).1 = 0 then runP W p n (jOf W k + 1) lo else runP W p n (k + 1) lo)
          else (none, endOf (evalE (lval lo) e).2)
theorem runP_len (W : List Int) (p : List Line) : ∀ (n k : Nat) (lo r : List Int), (runP W p n k lo).1 = some r → r.length = lo.length
  | 0, k, lo, r, h => by
    unfold runP at h
    split at h
    · cases h
    · obtain rfl := Option.some.inj h; rfl
  | n + 1, k, lo, r, h => by
    unfold runP at h
    split at h
    · obtain rfl := Option.some.inj h; rfl
    · split at h
      · exact runP_len W p n _ _ r h
      · split at h
        · cases h
        · split at h
          · split at h
            · have := runP_len W p n _ _ r h
              simpa using this
            · split at h
              · exact runP_len W p n _ _ r h
              · exact runP_len W p n _ _ r h
          · cases h
theorem endsGo_bd (N : Nat) : ∀ (rest : List Line) (i : Nat) (W st junk W' st' junk' : List Int), i + rest.length = N → (∀ a ∈ W, 0 ≤ a ∧ a < N) → (∀ a ∈ st, 0 ≤ a ∧ a < N) → endsGo rest i W st junk = some (W', st', junk') → ∀ a ∈ W', 0 ≤ a ∧ a < N
  | [], i, W, st, junk, W', st', junk', hN, hW, hst, h => by
    simp [endsGo] at h
    obtain ⟨rfl, _, _⟩ := h
    exact hW
  | x :: rest, i, W, st, junk, W', st', junk', hN, hW, hst, h => by
    simp only [List.length_cons] at hN
    unfold endsGo at h
    have ec : ((i : Int) + 1) = ((i + 1 : Nat) : Int) := by simp
    rw [ec] at h
    split at h
    · exact endsGo_bd N rest (i + 1) W (i :: st) _ W' st' junk' (by omega) hW (List.forall_mem_cons.2 ⟨by omega, hst⟩) h
    · split at h
      · split at h
        · cases h
        · rename_i j st0
          have hj := hst j (by simp)
          refine endsGo_bd N rest (i + 1) _ st0 _ W' st' junk' (by omega) (fun a ha => ?_) (fun a ha => hst a (by simp [ha])) h
          rcases List.mem_or_eq_of_mem_set ha with ha | rfl
          · rcases List.mem_or_eq_of_mem_set ha with ha | rfl
            · exact hW a ha
            · exact hj
          · omega
      · exact endsGo_bd N rest (i + 1) W st _ W' st' junk' (by omega) hW hst h
theorem ends_bd {p : List Line} {W st junk : List Int} (h : endsGo p 0 (List.replicate p.length 0) [] [] = some (W, st, junk)) : ∀ a ∈ W, 0 ≤ a ∧ a < p.length :=
  endsGo_bd p.length p 0 _ [] [] W st junk (by simp) (fun a ha => by
    have h1 := List.mem_replicate.1 ha
    omega) (by simp) h
theorem jOf_lt {W : List Int} {N k : Nat} (h : ∀ a ∈ W, 0 ≤ a ∧ a < N) (hl : k < W.length) : jOf W k < N ∧ W.getD k 0 = jOf W k := by
  have := h W[k] (List.getElem_mem hl)
  unfold jOf
  rw [List.getD_eq_getElem?_getD, List.getElem?_eq_getElem hl, Option.getD_some]
  omega
end Go.Ev

/- The evaluator's policies and annotations of this program's functions: printed by a program of mine. -/
namespace Go.Ev
set_option linter.unusedVariables false
set_option linter.unusedSimpArgs false
open Go.Proofs
def prPrim : FuncId → Option (List V → List Ob → Option (V × List Ob)) := fun _ => none
def prPol : FuncId → Pol
  | 2 => { modes := [], own := false, nest := false, frz := [] }
  | 3 => { modes := [.borrow], own := false, nest := false, frz := [] }
  | 4 => { modes := [.borrow], own := false, nest := false, frz := [] }
  | 5 => { modes := [.borrow], own := false, nest := false, frz := [] }
  | 6 => { modes := [.borrow], own := false, nest := false, frz := [] }
  | 7 => { modes := [.borrow, .borrow, .borrow], own := false, nest := false, frz := [] }
  | 8 => { modes := [.borrow, .borrow, .borrow], own := false, nest := false, frz := [] }
  | 9 => { modes := [.borrow, .borrow], own := false, nest := false, frz := [] }
  | 10 => { modes := [.move], own := false, nest := false, frz := [] }
  | 11 => { modes := [.borrow], own := true, nest := true, frz := [] }
  | 12 => { modes := [.borrow], own := false, nest := false, frz := [] }
  | 13 => { modes := [.borrow, .borrow], own := false, nest := false, frz := [] }
  | 14 => { modes := [.borrow, .borrow], own := false, nest := false, frz := [] }
  | 15 => { modes := [.move], own := false, nest := false, frz := [], soft := [[3], [0]] }
  | 16 => { modes := [.borrow], own := true, nest := false, frz := [] }
  | 17 => { modes := [.borrow], own := true, nest := false, frz := [] }
  | 18 => { modes := [.borrow, .borrow], own := false, nest := false, frz := [] }
  | 19 => { modes := [.borrow, .borrow], own := false, nest := false, frz := [] }
  | 20 => { modes := [.pass, .pass], own := false, nest := false, frz := [] }
  | 21 => { modes := [.pass, .pass], own := false, nest := false, frz := [] }
  | 22 => { modes := [.borrow, .borrow], own := false, nest := false, frz := [] }
  | 23 => { modes := [.move], own := false, nest := false, frz := [], soft := [[3], [0]] }
  | 24 => { modes := [.borrow], own := true, nest := false, frz := [] }
  | 25 => { modes := [.borrow, .borrow], own := false, nest := false, frz := [] }
  | 26 => { modes := [.move], own := false, nest := false, frz := [], soft := [[3], [0]] }
  | 27 => { modes := [.borrow], own := true, nest := false, frz := [] }
  | 28 => { modes := [.pass, .pass], own := false, nest := false, frz := [] }
  | 29 => { modes := [.move, .move, .move], own := false, nest := false, frz := [], soft := [[1], [0], [0]] }
  | 30 => { modes := [.borrow], own := true, nest := false, frz := [] }
  | 31 => { modes := [.borrow, .borrow, .borrow], own := true, nest := false, frz := [] }
  | 32 => { modes := [.borrow, .borrow], own := false, nest := false, frz := [] }
  | 33 => { modes := [.pass, .pass], own := false, nest := false, frz := [] }
  | 34 => { modes := [.borrow, .borrow], own := false, nest := false, frz := [] }
  | 35 => { modes := [.move, .move, .move], own := false, nest := false, frz := [] }
  | 36 => { modes := [.borrow, .borrow, .borrow], own := false, nest := false, frz := [] }
  | 37 => { modes := [.borrow, .borrow], own := false, nest := false, frz := [] }
  | 38 => { modes := [.borrow], own := false, nest := false, frz := [], soft := [[0, 0, 0, 4], [0]] }
  | 39 => { modes := [.borrow, .borrow, .borrow], own := false, nest := false, frz := [] }
  | 40 => { modes := [.borrow], own := true, nest := false, frz := [] }
  | 41 => { modes := [.borrow, .borrow, .borrow], own := false, nest := false, frz := [] }
  | 42 => { modes := [.borrow, .borrow], own := false, nest := false, frz := [] }
  | 43 => { modes := [.borrow], own := false, nest := false, frz := [] }
  | 44 => { modes := [.borrow], own := false, nest := false, frz := [] }
  | 45 => { modes := [.borrow], own := false, nest := false, frz := [], soft := [[1], [0]] }
  | 46 => { modes := [.borrow, .borrow], own := false, nest := false, frz := [] }
  | 47 => { modes := [.borrow, .borrow], own := false, nest := false, frz := [] }
  | 48 => { modes := [.borrow, .pass], own := true, nest := false, frz := [] }
  | 49 => { modes := [.borrow], own := false, nest := false, frz := [] }
  | 50 => { modes := [.borrow], own := false, nest := false, frz := [] }
  | 51 => { modes := [.borrow, .pass], own := true, nest := false, frz := [] }
  | 52 => { modes := [.borrow, .borrow], own := false, nest := false, frz := [] }
  | 53 => { modes := [.borrow, .borrow], own := false, nest := false, frz := [] }
  | 54 => { modes := [.pass], own := false, nest := false, frz := [12] }
  | 55 => { modes := [.borrow], own := false, nest := false, frz := [], soft := [[0, 0, 0, 4], [0]] }
  | 56 => { modes := [.borrow, .pass], own := true, nest := false, frz := [] }
  | 57 => { modes := [.borrow], own := false, nest := false, frz := [], soft := [[0, 0, 0, 4]] }
  | 58 => { modes := [.borrow], own := false, nest := false, frz := [] }
  | 59 => { modes := [.borrow], own := false, nest := false, frz := [] }
  | 60 => { modes := [.borrow, .pass], own := true, nest := false, frz := [] }
  | 61 => { modes := [.borrow], own := false, nest := false, frz := [], soft := [[3]] }
  | 62 => { modes := [.borrow], own := false, nest := false, frz := [] }
  | 63 => { modes := [.borrow, .borrow, .borrow], own := false, nest := false, frz := [], soft := [[1], [0]] }
  | 64 => { modes := [.borrow], own := false, nest := false, frz := [] }
  | 65 => { modes := [.borrow], own := true, nest := false, frz := [] }
  | 66 => { modes := [.borrow, .borrow, .borrow], own := false, nest := false, frz := [] }
  | 67 => { modes := [], own := false, nest := false, frz := [14], soft := [[1]] }
  | 68 => { modes := [.borrow], own := false, nest := false, frz := [] }
  | 69 => { modes := [.move, .move, .move], own := false, nest := false, frz := [] }
  | 70 => { modes := [.borrow, .borrow, .borrow], own := false, nest := false, frz := [] }
  | 71 => { modes := [.borrow], own := false, nest := false, frz := [] }
  | 72 => { modes := [.borrow, .borrow], own := false, nest := false, frz := [] }
  | 73 => { modes := [.move], own := false, nest := false, frz := [] }
  | 74 => { modes := [], own := false, nest := false, frz := [] }
  | 75 => { modes := [.borrow, .borrow], own := false, nest := false, frz := [] }
  | 76 => { modes := [.borrow], own := false, nest := false, frz := [] }
  | 77 => { modes := [.borrow], own := false, nest := false, frz := [] }
  | 78 => { modes := [.borrow, .borrow], own := false, nest := false, frz := [], soft := [[0, 0, 0, 4], [0]] }
  | 79 => { modes := [.borrow, .borrow, .borrow], own := false, nest := false, frz := [] }
  | 80 => { modes := [.borrow], own := false, nest := false, frz := [], soft := [[0], [3]] }
  | 81 => { modes := [.borrow], own := false, nest := false, frz := [], soft := [[1]] }
  | 82 => { modes := [.borrow], own := false, nest := false, frz := [] }
  | 83 => { modes := [], own := false, nest := false, frz := [], soft := [[1]] }
  | 84 => { modes := [.borrow, .borrow], own := false, nest := false, frz := [] }
  | 85 => { modes := [.borrow], own := false, nest := false, frz := [] }
  | 86 => { modes := [.borrow, .borrow], own := false, nest := false, frz := [] }
  | 87 => { modes := [.borrow], own := false, nest := false, frz := [] }
  | 88 => { modes := [.borrow, .borrow, .borrow], own := false, nest := false, frz := [] }
  | 89 => { modes := [.move], own := false, nest := false, frz := [] }
  | 90 => { modes := [.borrow, .borrow, .borrow], own := false, nest := false, frz := [] }
  | 91 => { modes := [.borrow], own := false, nest := false, frz := [] }
  | 92 => { modes := [.pass], own := false, nest := false, frz := [] }
  | 93 => { modes := [.pass], own := false, nest := false, frz := [] }
  | 94 => { modes := [.borrow, .borrow], own := false, nest := false, frz := [] }
  | 95 => { modes := [.move], own := false, nest := false, frz := [] }
  | 96 => { modes := [.borrow], own := false, nest := false, frz := [] }
  | 97 => { modes := [.borrow], own := false, nest := false, frz := [] }
  | 98 => { modes := [.borrow, .borrow, .borrow], own := false, nest := false, frz := [] }
  | 99 => { modes := [.borrow], own := false, nest := false, frz := [] }
  | 100 => { modes := [.borrow], own := false, nest := false, frz := [] }
  | 101 => { modes := [.borrow, .borrow], own := false, nest := false, frz := [] }
  | 102 => { modes := [.borrow], own := false, nest := false, frz := [] }
  | 103 => { modes := [.borrow, .borrow], own := false, nest := false, frz := [] }
  | 104 => { modes := [.pass, .borrow], own := false, nest := false, frz := [] }
  | 105 => { modes := [.borrow, .borrow], own := false, nest := false, frz := [] }
  | 106 => { modes := [.borrow], own := false, nest := false, frz := [] }
  | 107 => { modes := [.borrow, .borrow], own := false, nest := false, frz := [] }
  | 108 => { modes := [.borrow], own := false, nest := false, frz := [] }
  | 109 => { modes := [.pass, .borrow], own := false, nest := false, frz := [] }
  | 110 => { modes := [.borrow], own := false, nest := false, frz := [] }
  | 111 => { modes := [.borrow, .borrow], own := false, nest := false, frz := [] }
  | 112 => { modes := [.borrow, .borrow], own := false, nest := false, frz := [] }
  | 113 => { modes := [.borrow], own := false, nest := false, frz := [] }
  | 114 => { modes := [.borrow], own := false, nest := false, frz := [] }
  | 115 => { modes := [.borrow], own := false, nest := false, frz := [] }
  | 116 => { modes := [.borrow, .borrow], own := false, nest := false, frz := [] }
  | 117 => { modes := [.borrow], own := false, nest := false, frz := [] }
  | 118 => { modes := [], own := false, nest := false, frz := [], soft := [[1]] }
  | _ => {}
def prAnn : FuncId → Ann
  | 2 => .n
  | 3 => (.seq .n (.seq .n (.seq .n (.seq (.seq .n (.cond (.seq .n .n) .n)) (.seq .n (.seq .n (.seq .n (.seq (.seq .n (.cond (.seq .n .n) .n)) (.seq (.seq .n (.cond (.seq .n .n) .n)) (.seq .n .n))))))))))
  | 4 => (.seq .n (.seq .n (.seq .n (.seq (.seq .n (.cond (.seq .n .n) .n)) (.seq .n (.seq .n (.seq .n (.seq (.seq .n (.cond (.seq .n .n) .n)) (.seq (.seq .n (.cond (.seq .n .n) .n)) (.seq .n (.seq .n (.seq (.seq .n (.cond (.seq .n .n) .n)) (.seq .n (.seq .n (.seq .n (.seq .n (.seq (.seq .n (.cond (.seq .n .n) .n)) (.seq (.seq .n (.cond (.seq .n .n) .n)) (.seq .n (.seq (.seq .n (.cond (.seq .n .n) .n)) (.seq .n (.seq .n (.seq (.seq .n (.cond (.seq .n .n) .n)) (.seq (.seq .n (.cond (.seq .n .n) .n)) (.seq .n .n)))))))))))))))))))))))))
  | 5 => (.seq .n (.seq .n (.seq .n (.seq (.seq .n (.cond (.seq .n .n) .n)) (.seq .n (.seq .n (.seq .n (.seq (.seq .n (.cond (.seq .n .n) .n)) (.seq (.seq .n (.cond (.seq .n .n) .n)) (.seq .n (.seq .n (.seq (.seq .n (.cond (.seq .n .n) .n)) (.seq .n (.seq .n (.seq .n (.seq .n (.seq (.seq .n (.cond (.seq .n .n) .n)) (.seq (.seq .n (.cond (.seq .n .n) .n)) (.seq .n (.seq (.seq .n (.cond (.seq .n .n) .n)) (.seq .n (.seq .n (.seq (.seq .n (.cond (.seq .n .n) .n)) (.seq (.seq .n (.cond (.seq .n .n) .n)) (.seq .n .n)))))))))))))))))))))))))
  | 6 => (.seq .n (.seq .n (.seq .n (.seq (.seq .n (.cond (.seq .n .n) .n)) (.seq .n (.seq .n (.seq .n (.seq (.seq .n (.cond (.seq .n .n) .n)) (.seq (.seq .n (.cond (.seq .n .n) .n)) (.seq .n (.seq .n (.seq (.seq .n (.cond (.seq .n .n) .n)) (.seq .n (.seq .n (.seq .n (.seq .n (.seq (.seq .n (.cond (.seq .n .n) .n)) (.seq (.seq .n (.cond (.seq .n .n) .n)) (.seq .n (.seq (.seq .n (.cond (.seq .n .n) .n)) (.seq .n (.seq .n (.seq (.seq .n (.cond (.seq .n .n) .n)) (.seq (.seq .n (.cond (.seq .n .n) .n)) (.seq .n .n)))))))))))))))))))))))))
  | 7 => (.seq .n (.seq (.seq .n (.cond (.seq .n .n) .n)) (.seq .n (.seq .n (.seq (.seq .n (.cond (.seq .n .n) .n)) (.seq .n (.seq .n (.seq .n (.seq .n (.seq (.seq .n (.cond (.seq .n .n) .n)) (.seq (.seq .n (.cond (.seq .n .n) .n)) (.seq (.seq .n (.cond (.seq .n .n) .n)) (.seq .n (.seq .n (.seq .n (.seq (.seq .n (.cond (.seq .n .n) .n)) (.seq .n (.seq .n (.seq .n (.seq .n (.seq (.seq .n (.cond (.seq .n .n) .n)) (.seq (.seq .n (.cond (.seq .n .n) .n)) (.seq .n (.seq (.seq .n (.cond (.seq .n .n) .n)) (.seq .n (.seq .n (.seq (.seq .n (.cond (.seq .n .n) .n)) (.seq (.seq .n (.cond (.seq .n .n) .n)) (.seq .n .n)))))))))))))))))))))))))))))
  | 8 => (.seq .n (.seq (.seq .n (.cond (.seq .n .n) .n)) (.seq .n (.seq .n (.seq (.seq .n (.cond (.seq .n .n) .n)) (.seq .n (.seq .n (.seq .n (.seq .n (.seq (.seq .n (.cond (.seq .n .n) .n)) (.seq (.seq .n (.cond (.seq .n .n) .n)) (.seq (.seq .n (.cond (.seq .n .n) .n)) (.seq .n .n)))))))))))))
  | 9 => (.seq .n (.seq .n (.seq (.seq .n (.cond (.seq .n .n) .n)) (.seq (.seq .n (.block (.loop [0, 1, 5] [1] [4] [] (.seq (.seq .n (.cond .n .n)) (.seq (.block (.seq .n (.seq .n (.cond (.seq .n .n) .n)))) .n))))) (.cut [1] (.seq .n .n))))))
  | 10 => (.seq .n (.seq .n (.seq (.seq .n (.block (.loop [0, 3, 8, 9, 10] [0, 3] [2] [] (.seq .n (.seq (.cond .n .n) (.seq (.block (.seq .n (.seq .n (.seq .n (.block (.seq .n (.cond (.seq .n (.cond (.seq .n .n) .n)) (.seq .n (.cond (.seq (.seq .n (.cond (.seq .n .n) .n)) .n) (.seq .n (.cond (.seq (.seq .n (.cond (.seq .n .n) .n)) .n) (.seq .n .n)))))))))))) (.cut [0, 3, 8, 9, 10] .n))))))) (.cut [0, 3] (.seq .n .n)))))
  | 11 => (.seq .n (.seq .n (.seq (.seq .n (.block (.loop [0, 3, 4] [3] [2] [] (.seq (.seq .n (.cond .n .n)) (.seq (.block .n) .n))))) (.cut [3] (.seq .n .n)))))
  | 12 => (.seq .n (.seq (.seq .n (.cond (.seq .n .n) .n)) (.seq .n (.seq .n .n))))
  | 13 => (.seq .n (.seq (.seq .n (.cond (.seq .n .n) .n)) (.seq (.seq .n (.block (.loop [0, 1, 5] [] [4] [] (.seq (.seq .n (.cond .n .n)) (.seq (.block (.seq .n (.cond (.seq .n .n) .n))) .n))))) (.cut [] (.seq .n .n)))))
  | 14 => (.seq .n (.seq .n (.seq (.seq .n (.cond (.seq .n .n) .n)) (.seq (.seq .n (.block (.loop [0, 1, 5] [1] [4] [] (.seq (.seq .n (.cond .n .n)) (.seq (.block (.seq .n (.seq .n (.cond (.seq .n .n) .n)))) .n))))) (.cut [1] (.seq .n .n))))))
  | 15 => (.seq .n (.seq .n (.seq (.seq .n (.cond (.seq .n .n) .n)) (.seq .n (.seq (.seq .n (.cond (.seq .n .n) .n)) (.seq .n .n))))))
  | 16 => (.seq .n (.seq .n (.seq (.seq .n (.block (.loop [0, 3, 4] [3] [2] [] (.seq (.seq .n (.cond .n .n)) (.seq (.block .n) .n))))) (.cut [3] (.seq .n .n)))))
  | 17 => (.seq .n (.seq .n (.seq (.seq .n (.cond (.seq .n .n) .n)) (.seq .n (.seq (.seq .n (.cond (.seq .n .n) .n)) (.seq .n .n))))))
  | 18 => (.seq .n (.seq (.seq .n (.cond (.seq .n .n) .n)) (.seq (.seq .n (.block (.loop [0, 1, 5] [] [4] [] (.seq (.seq .n (.cond .n .n)) (.seq (.block (.seq .n (.cond (.seq .n .n) .n))) .n))))) (.cut [] (.seq .n .n)))))
  | 19 => (.seq .n (.seq (.seq .n (.cond (.seq .n .n) .n)) (.seq (.seq .n (.block (.loop [0, 1, 5] [] [4] [] (.seq (.seq .n (.cond .n .n)) (.seq (.block (.seq .n (.cond (.seq .n .n) .n))) .n))))) (.cut [] (.seq .n .n)))))
  | 20 => (.seq .n (.seq (.seq .n (.block (.loop [0, 1, 5] [1] [4] [] (.seq (.seq .n (.cond .n .n)) (.seq (.block (.seq .n (.seq .n (.seq .n (.seq .n (.seq .n .n)))))) .n))))) (.cut [1] (.seq .n .n))))
  | 21 => (.seq .n (.seq (.seq .n (.block (.loop [0, 1, 5] [1] [4] [] (.seq (.seq .n (.cond .n .n)) (.seq (.block (.seq .n (.seq .n (.seq .n (.seq .n (.seq .n .n)))))) .n))))) (.cut [1] (.seq .n .n))))
  | 22 => (.seq .n (.seq (.seq .n (.block (.loop [0, 1, 5] [1] [4] [] (.seq (.seq .n (.cond .n .n)) (.seq (.block (.seq (.seq .n (.cond (.seq .n .n) .n)) (.seq .n (.seq (.seq .n (.cond (.seq .n .n) .n)) (.seq .n (.seq (.seq .n (.cond (.seq .n .n) .n)) .n)))))) .n))))) (.cut [1] (.seq .n .n))))
  | 23 => (.seq .n (.seq .n (.seq (.seq .n (.cond (.seq .n .n) .n)) (.seq .n .n))))
  | 24 => (.seq .n (.seq .n (.seq (.seq .n (.cond (.seq .n .n) .n)) (.seq .n (.seq .n .n)))))
  | 25 => (.seq .n (.seq (.seq .n (.block (.loop [0, 1, 5] [1] [4] [] (.seq (.seq .n (.cond .n .n)) (.seq (.block (.seq (.seq .n (.cond (.seq .n .n) .n)) (.seq .n (.seq (.seq .n (.cond (.seq .n .n) .n)) (.seq .n (.seq (.seq .n (.cond (.seq .n .n) .n)) .n)))))) .n))))) (.cut [1] (.seq .n .n))))
  | 26 => (.seq .n (.seq (.seq .n (.cond (.seq .n .n) .n)) (.seq .n (.seq (.seq .n (.cond (.seq .n .n) .n)) (.seq .n .n)))))
  | 27 => (.seq .n (.seq (.seq .n (.cond (.seq .n .n) .n)) (.seq .n (.seq .n (.seq .n (.seq (.seq .n (.block (.loop [4, 6, 7, 8, 26, 27, 28] [8] [2, 3] [(8, none, 3)] (.seq .n (.seq (.cond .n .n) (.seq (.block (.seq .n (.seq .n (.seq .n (.block (.seq .n (.cond (.seq .n .n) (.seq .n (.cond .n (.seq .n (.cond (.seq .n (.seq .n .n)) .n))))))))))) (.cut [4, 6, 7, 8, 26, 27, 28] .n))))))) (.cut [8] (.seq .n (.seq (.seq .n (.cond (.seq .n .n) .n)) (.seq .n .n))))))))))
  | 28 => (.seq .n (.seq (.seq .n (.block (.loop [0, 1, 5] [1] [4] [] (.seq (.seq .n (.cond .n .n)) (.seq (.block (.seq .n (.seq .n (.seq .n (.seq .n .n))))) .n))))) (.cut [1] (.seq .n .n))))
  | 29 => (.seq .n (.seq (.seq .n (.cond (.seq .n .n) .n)) (.seq .n (.seq .n .n))))
  | 30 => (.seq .n (.seq .n (.seq (.seq .n (.block (.loop [0, 3, 4] [3] [2] [] (.seq (.seq .n (.cond .n .n)) (.seq (.block .n) .n))))) (.cut [3] (.seq .n .n)))))
  | 31 => (.seq .n (.seq (.seq .n (.cond (.seq .n .n) .n)) (.seq .n (.seq .n (.seq (.seq .n (.block (.loop [0, 2, 9, 11, 12] [11] [6, 7, 8] [] (.seq (.seq .n (.cond .n .n)) (.seq (.block (.seq (.seq .n (.cond (.seq .n .n) .n)) (.seq .n (.seq (.seq .n (.cond (.seq .n .n) .n)) (.seq .n (.seq (.seq .n (.cond (.seq .n .n) .n)) (.seq (.block (.seq .n (.cond .n (.seq .n (.cond .n .n))))) (.cut [0, 2, 9, 11, 12] .n)))))))) (.cut [0, 2, 9, 11, 12] .n)))))) (.cut [11] (.seq .n .n)))))))
  | 32 => (.seq .n (.seq (.seq .n (.cond (.seq .n .n) .n)) (.seq (.seq .n (.block (.loop [0, 1, 5] [] [4] [] (.seq (.seq .n (.cond .n .n)) (.seq (.block (.seq .n (.cond (.seq .n .n) .n))) .n))))) (.cut [] (.seq .n .n)))))
  | 33 => (.seq .n (.seq (.seq .n (.block (.loop [0, 1, 5] [1] [4] [] (.seq (.seq .n (.cond .n .n)) (.seq (.block (.seq .n .n)) .n))))) (.cut [1] (.seq .n .n))))
  | 34 => (.seq .n (.seq (.seq .n (.block (.loop [0, 1, 5] [1] [4] [] (.seq (.seq .n (.cond .n .n)) (.seq (.block (.seq (.seq .n (.cond (.seq .n .n) .n)) .n)) .n))))) (.cut [1] (.seq .n .n))))
  | 35 => (.seq .n (.seq .n (.seq (.seq .n (.cond (.seq .n .n) .n)) (.seq .n (.seq (.seq .n (.cond (.seq .n .n) .n)) (.seq .n .n))))))
  | 36 => (.seq .n (.seq .n (.seq (.seq .n (.cond (.seq .n .n) .n)) (.seq .n (.seq .n .n)))))
  | 37 => (.seq .n (.seq .n (.seq (.seq .n (.cond (.seq .n .n) .n)) (.seq .n .n))))
  | 38 => (.seq .n (.seq .n (.seq .n .n)))
  | 39 => (.seq .n (.seq .n .n))
  | 40 => (.seq .n (.seq .n (.seq .n (.seq .n (.seq .n (.seq .n .n))))))
  | 41 => (.seq .n (.seq .n .n))
  | 42 => (.seq .n (.seq .n .n))
  | 43 => (.seq .n (.seq .n .n))
  | 44 => (.seq .n (.seq (.seq .n (.block (.seq .n (.cond (.seq .n .n) (.seq .n (.cond (.seq .n .n) .n)))))) (.seq .n .n)))
  | 45 => (.seq .n (.seq .n (.seq (.seq .n (.block (.loop [4, 5, 13, 14, 15] [4, 5] [2, 3] [(5, none, 1)] (.seq .n (.seq (.cond .n .n) (.seq (.block (.seq .n (.seq .n (.block (.seq .n (.cond .n (.seq .n (.cond (.seq .n (.seq (.seq .n (.cond (.seq .n .n) .n)) (.seq .n .n))) .n)))))))) (.cut [4, 5, 13, 14, 15] .n))))))) (.cut [4, 5] (.seq .n .n)))))
  | 46 => (.seq .n (.seq (.seq .n (.cond (.seq .n .n) .n)) (.seq (.seq .n (.cond (.seq .n .n) .n)) (.seq (.seq .n (.cond (.seq .n .n) .n)) (.seq .n .n)))))
  | 47 => (.seq .n (.seq .n (.seq (.seq .n (.cond (.seq .n .n) .n)) (.seq .n .n))))
  | 48 => (.seq .n (.seq (.block (.seq .n (.cond (.seq .n .n) (.seq .n (.cond (.seq .n (.seq .n .n)) .n))))) (.seq .n (.seq (.block (.seq .n (.cond (.seq .n .n) (.seq .n (.cond (.seq .n .n) (.seq .n (.cond (.seq .n (.seq .n (.seq .n (.seq .n (.seq .n (.seq .n (.seq .n .n))))))) (.seq .n (.cond (.seq .n (.seq .n (.seq .n (.seq .n (.seq .n .n))))) .n))))))))) (.seq .n .n)))))
  | 49 => (.seq .n (.seq .n (.seq .n (.seq .n (.seq .n (.seq .n .n))))))
  | 50 => (.seq .n (.seq (.seq .n (.cond (.seq .n .n) .n)) (.seq .n .n)))
  | 51 => (.seq .n (.seq .n (.seq (.block (.seq .n (.cond (.seq .n .n) (.seq .n (.cond (.seq .n .n) (.seq .n (.cond (.seq .n .n) (.seq .n (.cond (.seq .n .n) .n))))))))) (.seq .n (.seq .n (.seq (.seq .n (.block (.seq .n (.cond (.seq .n (.seq .n (.seq .n .n))) (.seq .n (.cond (.seq .n (.seq .n (.seq .n (.seq .n .n)))) .n)))))) (.seq .n .n)))))))
  | 52 => (.seq .n (.seq (.seq .n (.cond (.seq .n .n) .n)) (.seq (.seq .n (.cond (.seq .n .n) .n)) (.seq (.seq .n (.cond (.seq .n .n) .n)) (.seq .n .n)))))
  | 53 => (.seq .n (.seq (.seq .n (.cond (.seq .n .n) .n)) (.seq (.seq .n (.cond (.seq .n .n) .n)) (.seq (.seq .n (.cond (.seq .n .n) .n)) (.seq .n .n)))))
  | 54 => (.seq .n (.seq (.seq .n (.cond (.seq .n .n) .n)) (.seq .n (.seq (.block (.loop [0, 3] [3] [2] [] (.seq (.seq .n (.cond .n .n)) (.block (.seq .n .n))))) (.cut [3] (.seq .n .n))))))
  | 55 => (.seq .n (.seq (.seq .n (.cond (.seq .n .n) .n)) (.seq .n (.seq .n .n))))
  | 56 => (.seq .n (.seq .n (.seq (.seq .n (.block (.loop [1, 18, 19, 20] [1] [4] [(1, none, 3)] (.seq .n (.seq (.cond .n .n) (.seq (.block (.seq .n .n)) .n)))))) (.cut [1] (.seq .n .n)))))
  | 57 => (.seq .n (.seq .n (.seq .n (.seq (.seq .n (.block (.loop [2, 3, 4, 22, 23, 24] [2, 3, 4] [2] [(3, some 3, 4)] (.seq .n (.seq (.cond .n .n) (.seq (.block (.seq .n (.seq .n (.seq .n .n)))) .n)))))) (.cut [2, 3, 4] (.seq (.seq .n (.cond (.seq .n (.seq .n (.cond (.seq .n .n) .n))) .n)) (.cut [2, 3] (.seq .n .n))))))))
  | 58 => (.seq .n (.seq (.seq .n (.cond (.seq .n .n) .n)) (.seq .n (.seq (.seq .n (.cond (.seq .n .n) .n)) (.seq .n .n)))))
  | 59 => (.seq .n (.seq (.seq .n (.cond (.seq .n .n) .n)) (.seq .n (.seq .n (.seq .n (.seq (.seq .n (.cond (.seq .n .n) .n)) (.seq (.seq .n (.seq .n (.cond (.seq .n .n) .n))) (.seq .n .n))))))))
  | 60 => (.seq .n (.seq .n (.seq (.seq .n (.block (.loop [1, 31, 32, 33] [1] [4] [(1, none, 3)] (.seq .n (.seq (.cond .n .n) (.seq (.block (.seq .n (.seq .n (.cond .n .n)))) (.cut [1, 31, 32, 33] .n))))))) (.cut [1] (.seq .n .n)))))
  | 61 => (.seq .n (.seq .n (.seq .n (.seq .n (.seq .n (.seq (.seq .n (.block (.loop [3, 4, 5, 6, 19, 20, 21] [3] [2] [(3, none, 3)] (.seq .n (.seq (.cond .n .n) (.seq (.block (.seq .n (.seq .n (.seq (.seq .n (.cond (.seq .n (.seq .n .n)) .n)) (.seq .n (.seq .n (.seq .n (.seq .n (.cond .n .n))))))))) (.cut [3, 4, 5, 6, 19, 20, 21] .n))))))) (.cut [3] (.seq .n .n))))))))
  | 62 => (.seq .n (.seq (.seq .n (.block (.loop [0, 5, 6, 7] [0] [2] [] (.seq .n (.seq (.cond .n .n) (.seq (.block (.seq .n (.seq .n (.cond (.seq .n .n) .n)))) .n)))))) (.cut [0] (.seq .n .n))))
  | 63 => (.seq .n (.seq .n (.seq .n (.seq (.seq .n (.block (.loop [0, 2, 8, 9, 10] [9] [6, 7] [] (.seq (.seq .n (.cond .n .n)) (.seq (.block (.seq (.seq .n (.cond (.seq .n .n) .n)) (.seq .n (.seq (.seq .n (.cond (.seq .n .n) .n)) (.seq .n (.seq .n (.seq (.block (.seq .n (.cond (.seq .n .n) (.seq .n (.cond (.seq .n .n) (.seq .n (.cond .n (.seq .n (.cond .n .n))))))))) (.cut [0, 2, 8, 9, 10] .n)))))))) (.cut [0, 2, 8, 9, 10] .n)))))) (.cut [9] (.seq .n .n))))))
  | 64 => (.seq .n (.seq .n .n))
  | 65 => (.seq .n (.seq (.seq .n (.cond (.seq .n .n) .n)) (.seq .n .n)))
  | 66 => (.seq .n (.seq (.seq .n (.block (.seq .n (.cond (.seq .n .n) (.seq .n (.cond (.seq .n (.seq (.seq .n (.cond (.seq .n .n) .n)) (.seq .n .n))) .n)))))) (.seq .n (.seq (.block (.seq .n (.cond (.seq .n .n) (.seq .n (.cond (.seq .n .n) (.seq .n (.cond (.seq .n .n) (.seq .n (.cond (.seq .n .n) (.seq .n (.cond (.seq .n .n) .n))))))))))) (.seq .n (.seq (.block (.seq .n (.cond (.seq .n .n) (.seq .n (.cond (.seq .n .n) .n))))) (.seq .n .n)))))))
  | 67 => (.seq .n (.seq .n (.seq (.seq .n (.block (.loop [1, 5, 6] [1] [0] [] (.seq .n (.seq (.cond .n .n) (.seq (.block (.seq .n .n)) .n)))))) (.cut [1] (.seq .n .n)))))
  | 68 => (.seq .n (.seq (.seq .n (.block (.seq .n (.cond (.seq .n .n) (.seq .n (.cond (.seq .n .n) .n)))))) (.seq .n .n)))
  | 69 => (.seq .n (.seq (.seq .n (.cond (.seq .n .n) .n)) (.seq (.seq .n (.block (.loop [0, 1, 2, 28, 29, 30] [0, 1, 2] [6, 7, 8, 9] [] (.seq .n (.seq (.cond .n .n) (.seq (.block (.seq .n (.seq .n (.cond (.seq .n .n) .n)))) .n)))))) (.cut [0, 1, 2] (.seq .n (.seq .n .n))))))
  | 70 => (.seq .n (.seq (.seq .n (.cond (.seq .n .n) .n)) (.seq .n (.seq (.seq .n (.block (.loop [2, 10, 30, 31] [2] [6, 7, 8, 9] [(10, some 2, 1)] (.seq .n (.seq (.cond .n .n) (.seq (.block (.seq .n (.seq .n (.seq .n (.block (.seq .n (.cond .n (.seq .n (.cond (.seq .n .n) (.seq .n .n)))))))))) .n)))))) (.cut [2] (.seq .n .n))))))
  | 71 => (.seq .n (.seq (.seq .n (.cond (.seq .n (.seq .n .n)) .n)) (.seq (.seq .n (.block (.loop [18, 19, 20] [] [2] [] (.seq .n (.seq (.cond .n .n) (.seq (.block (.seq .n (.seq .n (.cond (.seq .n .n) .n)))) .n)))))) (.cut [] (.seq .n .n)))))
  | 72 => (.seq .n (.seq (.seq .n (.block (.loop [0, 1, 7, 8] [] [4] [] (.seq .n (.seq (.cond .n .n) (.seq (.block (.seq .n (.seq .n (.cond (.seq .n .n) .n)))) .n)))))) (.cut [] (.seq .n .n))))
  | 73 => (.seq .n (.seq (.seq .n (.cond (.seq .n .n) .n)) (.seq .n .n)))
  | 74 => (.seq .n (.seq .n .n))
  | 75 => (.seq .n (.seq .n .n))
  | 76 => (.seq .n (.seq .n .n))
  | 77 => (.seq .n (.seq (.seq .n (.cond (.seq .n .n) .n)) (.seq .n .n)))
  | 78 => (.seq .n (.seq (.seq .n (.cond (.seq .n .n) .n)) (.seq .n (.seq .n (.seq .n (.seq .n (.seq (.seq .n (.block (.seq .n (.cond .n (.seq .n (.cond .n (.seq (.seq .n (.cond .n .n)) (.cut [0, 1, 4, 6, 7, 8, 9, 29, 51] (.cond (.seq .n .n) (.seq .n (.cond (.seq .n .n) .n))))))))))) (.cut [0, 1, 4, 7, 8, 9] (.seq (.seq .n (.cond (.seq .n .n) .n)) (.seq .n (.seq (.block (.loop [0, 1, 4, 7, 8] [1, 4, 7] [4, 5] [(7, some 3, 4)] (.seq (.seq .n (.cond .n .n)) (.seq (.block (.seq .n (.seq (.seq .n (.cond (.seq .n .n) .n)) (.seq .n .n)))) .n)))) (.cut [1, 4, 7] (.seq .n .n)))))))))))))
  | 79 => (.seq .n (.seq (.seq .n (.block (.seq .n (.cond (.seq .n .n) (.seq .n (.cond (.seq (.seq .n (.block (.loop [2, 3, 24, 25, 26] [] [6, 7] [] (.seq .n (.seq (.cond .n .n) (.seq (.block (.seq .n (.seq .n (.cond (.seq .n .n) .n)))) .n)))))) (.cut [] (.seq .n .n))) .n)))))) (.cut [1, 2, 3] (.seq .n (.seq (.seq .n (.cond (.seq .n .n) .n)) (.seq (.block (.seq .n (.cond (.seq .n .n) (.seq .n (.cond (.seq .n .n) (.seq .n (.cond (.seq .n .n) (.seq .n (.cond (.seq .n .n) .n))))))))) (.seq .n (.seq (.seq .n (.cond (.seq .n .n) .n)) (.seq (.seq .n (.cond (.seq .n .n) .n)) (.seq .n (.seq (.seq .n (.cond (.seq .n .n) .n)) (.seq .n .n))))))))))))
  | 80 => (.seq .n (.seq (.seq .n (.cond (.seq .n .n) .n)) (.seq .n (.seq .n (.seq .n (.seq (.seq .n (.block (.seq .n (.cond .n (.seq .n (.cond .n (.seq (.seq .n (.cond .n .n)) (.cut [4, 5, 6, 7, 28, 49] (.cond (.seq .n .n) (.seq .n (.cond (.seq .n (.seq (.seq .n (.cond (.seq .n .n) .n)) (.seq .n (.seq .n .n)))) .n))))))))))) (.cut [5, 6, 7] (.seq (.seq .n (.cond (.seq .n .n) .n)) (.seq .n .n)))))))))
  | 81 => (.seq .n (.seq .n (.seq .n (.seq (.seq .n (.block (.loop [3, 4, 11, 12, 13] [3] [2] [(4, none, 1)] (.seq .n (.seq (.cond .n .n) (.seq (.block (.seq .n (.seq .n (.block (.seq .n (.cond .n (.seq .n (.cond (.seq .n (.seq .n (.seq .n .n))) .n)))))))) (.cut [3, 4, 11, 12, 13] .n))))))) (.cut [3] (.seq .n .n))))))
  | 82 => (.seq .n (.seq .n .n))
  | 83 => (.seq .n (.seq .n .n))
  | 84 => (.seq .n (.seq .n .n))
  | 85 => (.seq .n (.seq .n .n))
  | 86 => (.seq .n (.seq (.seq .n (.block (.loop [0, 1, 7, 8] [] [4] [] (.seq .n (.seq (.cond .n .n) (.seq (.block (.seq .n (.seq .n (.cond (.seq .n .n) .n)))) .n)))))) (.cut [] (.seq .n .n))))
  | 87 => (.seq .n (.seq (.seq .n (.cond (.seq .n .n) .n)) (.seq .n .n)))
  | 88 => (.seq .n (.seq (.seq .n (.block (.seq .n (.cond (.seq .n .n) (.seq .n (.cond (.seq .n .n) (.seq .n (.cond (.seq .n .n) (.seq (.seq .n (.cond .n .n)) (.cut [0, 1, 2, 8, 33] (.cond (.seq (.seq .n (.cond (.seq .n .n) .n)) (.seq (.seq .n (.cond (.seq .n .n) .n)) (.seq .n .n))) (.seq .n (.cond (.seq (.seq .n (.cond (.seq .n .n) .n)) (.seq .n .n)) (.seq .n (.cond (.seq .n .n) (.seq .n (.cond (.seq .n .n) (.seq .n (.cond (.seq .n .n) .n))))))))))))))))))) (.cut [1, 2] (.seq .n .n))))
  | 89 => (.seq .n (.seq (.seq .n (.block (.loop [0, 5, 6, 7] [0] [2] [] (.seq .n (.seq (.cond .n .n) (.seq (.block (.seq .n (.seq .n (.cond (.seq .n .n) .n)))) .n)))))) (.cut [0] (.seq .n .n))))
  | 90 => (.seq .n (.seq .n (.seq .n (.block (.loop [0, 2, 9, 10] [] [6, 7, 8] [(9, some 0, 1)] (.seq (.block (.seq (.seq .n (.cond (.seq .n .n) .n)) (.seq .n (.seq .n (.cond (.seq .n .n) .n))))) .n))))))
  | 91 => (.seq .n (.seq (.seq .n (.cond (.seq .n .n) .n)) (.seq .n .n)))
  | 92 => (.seq .n (.seq (.seq .n (.cond (.seq .n .n) .n)) (.seq .n (.seq .n (.seq (.seq .n (.cond (.seq .n .n) .n)) (.seq .n (.seq (.seq .n (.block (.seq .n (.cond .n (.seq .n (.cond .n (.seq .n (.cond .n (.seq .n (.cond (.seq .n .n) (.seq .n (.cond (.seq .n (.seq (.seq .n (.cond .n .n)) (.cut [0, 6] .n))) (.seq .n (.cond .n (.seq .n (.cond (.seq .n (.cond .n .n)) (.seq .n (.cond .n (.seq .n (.cond (.seq .n .n) .n)))))))))))))))))))) (.cut [] (.seq .n .n)))))))))
  | 93 => (.seq .n (.seq .n (.seq .n (.seq .n (.seq .n .n)))))
  | 94 => (.seq .n (.seq (.seq .n (.block (.loop [0, 1, 7, 8] [] [4] [] (.seq .n (.seq (.cond .n .n) (.seq (.block (.seq .n (.seq .n (.cond (.seq .n .n) .n)))) .n)))))) (.cut [] (.seq .n .n))))
  | 95 => (.seq .n (.seq (.seq .n (.cond (.seq .n .n) .n)) (.seq (.seq .n (.block (.seq .n (.cond (.seq .n .n) (.seq .n (.cond (.seq (.seq .n (.block (.loop [1, 3] [1] [2] [] (.seq (.seq .n (.cond .n .n)) (.seq (.block (.seq .n (.cond (.seq .n .n) .n))) .n))))) (.cut [1] (.seq .n .n))) (.seq .n (.cond (.seq .n .n) .n)))))))) (.cut [] (.seq .n .n)))))
  | 96 => (.seq .n (.seq (.seq .n (.block (.seq .n (.cond (.seq .n .n) (.seq .n (.cond (.seq .n .n) (.seq (.seq .n (.cond .n .n)) (.cut [3, 8] (.cond (.seq .n .n) (.seq (.seq .n (.cond .n .n)) (.cut [3, 11] (.cond (.seq .n .n) (.seq (.seq .n (.cond .n .n)) (.cut [3, 14] (.cond (.seq .n .n) (.seq (.seq .n (.cond .n (.seq .n (.cond .n .n)))) (.cut [3, 17] (.cond (.seq .n .n) (.seq .n (.cond (.seq .n .n) .n)))))))))))))))))))) (.cut [] (.seq .n .n))))
  | 97 => (.seq .n (.seq (.seq .n (.cond (.seq .n .n) .n)) (.seq .n .n)))
  | 98 => (.seq .n (.seq (.seq .n (.block (.seq .n (.cond (.seq .n .n) (.seq .n (.cond (.seq .n .n) (.seq .n (.cond (.seq .n .n) (.seq .n (.cond (.seq .n .n) (.seq .n (.cond (.seq .n .n) (.seq .n (.cond (.seq .n .n) (.seq .n (.cond (.seq .n .n) (.seq .n (.cond (.seq (.seq .n (.cond (.seq .n .n) .n)) (.seq .n .n)) .n)))))))))))))))))) (.seq (.seq .n (.cond (.seq .n .n) .n)) (.seq (.seq .n (.cond (.seq .n .n) .n)) (.seq .n .n)))))
  | 99 => (.seq .n (.seq .n .n))
  | 100 => (.seq .n (.seq (.seq .n (.block (.seq .n (.cond (.seq .n .n) (.seq .n (.cond (.seq .n .n) (.seq (.seq .n (.cond .n .n)) (.cut [5, 10] (.cond (.seq .n .n) (.seq (.seq .n (.cond .n .n)) (.cut [5, 13] (.cond (.seq .n .n) (.seq (.seq .n (.cond .n .n)) (.cut [5, 16] (.cond (.seq .n .n) (.seq (.seq .n (.cond .n (.seq .n (.cond .n .n)))) (.cut [5, 19] (.cond (.seq .n .n) (.seq .n (.cond (.seq .n .n) .n)))))))))))))))))))) (.cut [] (.seq .n .n))))
  | 101 => (.seq .n (.seq (.seq .n (.block (.loop [0, 1, 7, 8] [] [4] [] (.seq .n (.seq (.cond .n .n) (.seq (.block (.seq .n (.seq .n (.cond (.seq .n .n) .n)))) .n)))))) (.cut [] (.seq .n .n))))
  | 102 => (.seq .n (.seq (.seq .n (.cond (.seq .n .n) .n)) (.seq .n .n)))
  | 103 => (.seq .n (.seq (.seq .n (.block (.seq .n (.cond (.seq .n .n) (.seq (.seq .n (.cond .n .n)) (.cut [1, 2, 6, 17] (.cond (.seq .n .n) (.seq .n (.cond (.seq .n .n) (.seq .n (.cond (.seq .n .n) (.seq (.seq .n (.cond .n .n)) (.cut [1, 2, 6, 53] (.cond (.seq .n .n) (.seq (.seq .n (.cond .n .n)) (.cut [2, 70] (.cond (.seq .n .n) .n))))))))))))))))) (.cut [] (.seq .n .n))))
  | 104 => (.seq .n (.seq (.seq .n (.cond (.seq .n .n) .n)) (.seq .n (.seq .n (.seq .n (.seq (.seq .n (.cond (.seq .n .n) .n)) (.seq .n (.seq .n (.seq (.seq .n (.cond .n .n)) (.cut [0, 6, 7, 9, 10] (.seq .n (.seq (.seq .n (.block (.seq .n (.cond (.seq .n .n) (.seq .n (.cond .n (.seq .n (.cond .n (.seq .n (.cond .n (.seq .n (.cond .n (.seq .n (.cond (.seq .n (.cond .n .n)) (.seq .n (.cond (.seq .n (.cond .n .n)) (.seq .n (.cond (.seq .n (.seq (.block (.seq .n (.cond (.seq .n .n) (.seq .n (.cond (.seq .n .n) .n))))) .n)) .n)))))))))))))))))) (.cut [0, 11] (.seq .n (.seq .n .n)))))))))))))))
  | 105 => (.seq .n (.seq .n .n))
  | 106 => (.seq .n (.seq .n .n))
  | 107 => (.seq .n (.seq (.seq .n (.block (.seq .n (.cond (.seq .n .n) (.seq .n (.cond (.seq .n .n) .n)))))) (.seq (.seq .n (.cond (.seq .n .n) .n)) (.seq (.seq .n (.block (.seq .n (.cond (.seq .n .n) (.seq (.seq .n (.cond .n .n)) (.cut [1, 2, 36, 42] (.cond (.seq .n .n) (.seq (.seq .n (.cond .n .n)) (.cut [1, 2, 48] (.cond (.seq .n .n) .n)))))))))) (.cut [2] (.seq .n .n))))))
  | 108 => (.seq .n (.seq (.seq .n (.block (.seq (.seq .n (.cond .n .n)) (.cut [5, 6] (.cond (.seq .n .n) (.seq (.seq .n (.cond .n (.seq .n (.cond .n .n)))) (.cut [5, 9] (.cond (.seq .n .n) (.seq .n (.cond (.seq .n .n) (.seq (.seq .n (.cond .n .n)) (.cut [15] (.cond (.seq .n .n) .n))))))))))))) (.cut [] (.seq .n .n))))
  | 109 => (.seq .n (.seq .n (.seq .n (.seq .n (.seq .n (.seq .n .n))))))
  | 110 => (.seq .n (.seq .n .n))
  | 111 => (.seq .n (.seq .n (.seq (.seq .n (.block (.loop [0, 1, 5, 8, 9, 10] [5] [4] [] (.seq .n (.seq (.cond .n .n) (.seq (.block (.seq .n (.seq .n (.cond .n .n)))) (.cut [0, 1, 5, 8, 9, 10] .n))))))) (.cut [5] (.seq .n .n)))))
  | 112 => (.seq .n (.seq .n (.seq (.block (.loop [0, 1, 5] [5] [4] [] (.seq (.seq .n (.cond .n .n)) (.block .n)))) (.cut [5] (.seq .n .n)))))
  | 113 => (.seq .n (.seq .n .n))
  | 114 => (.seq .n (.seq .n .n))
  | 115 => (.seq .n (.seq (.seq .n (.block (.seq (.seq .n (.cond .n .n)) (.cut [5, 6] (.cond (.seq .n .n) (.seq (.seq .n (.cond .n (.seq .n (.cond .n .n)))) (.cut [5, 9] (.cond (.seq .n .n) (.seq .n (.cond (.seq .n .n) (.seq (.seq .n (.cond .n .n)) (.cut [15] (.cond (.seq .n .n) .n))))))))))))) (.cut [] (.seq .n .n))))
  | 116 => (.seq .n (.seq (.seq .n (.block (.loop [0, 1, 7, 8] [] [4] [] (.seq .n (.seq (.cond .n .n) (.seq (.block (.seq .n (.seq .n (.cond (.seq .n .n) .n)))) .n)))))) (.cut [] (.seq .n .n))))
  | 117 => (.seq .n (.seq .n (.seq .n .n)))
  | 118 => (.seq .n (.seq .n .n))
  | _ => .n
noncomputable def pr : Pr := ⟨Try.prog, prPol, prAnn, prPrim⟩
end Go.Ev

/- Small functions of bytes and numbers: what they compute. -/
namespace Go.Ev
set_option linter.unusedVariables false
set_option linter.unusedSimpArgs false
open Go.Proofs
set_option maxRecDepth 100000
set_option linter.unusedVariables false
theorem within_ev (x lo hi : Int) : Ev pr (.call 41 [i64 x, i64 lo, i64 hi] []) (.val (bl (decide (x ≥ lo) && decide (x ≤ hi))) []) := by
  by_cases hc0 : lo ≤ x
  · let t0 : Tp pr := .b (show (decide (x ≥ lo)) = true by simpa using hc0)
    exact .tpe [t0] (Out.val (V.t (T.bool (decide (x ≤ hi)))) []) (by kernel_rfl) (congrArg (fun x => Out.val (V.t (T.bool x)) []) (show (decide (x ≤ hi)) = (decide (x ≥ lo) && decide (x ≤ hi)) by simp [bl, *]))
  · let t0 : Tp pr := .b (show (decide (x ≥ lo)) = false by simpa using hc0)
    exact .tpe [t0] (Out.val (V.t (T.bool false)) []) (by kernel_rfl) (congrArg (fun x => Out.val (V.t (T.bool x)) []) (show (false) = (decide (x ≥ lo) && decide (x ≤ hi)) by simp [bl, *]))
theorem isLetter_ev (x : Int) : Ev pr (.call 113 [.t (.int .u8 x)] []) (.val (bl (decide (97 ≤ x) && decide (x ≤ 122))) []) := by
  by_cases hc0 : (97 : Int) ≤ x
  · let t0 : Tp pr := .b (show (decide (x ≥ (97 : Int))) = true by simpa using hc0)
    exact .tpe [t0] (Out.val (V.t (T.bool (decide (x ≤ (122 : Int))))) []) (by kernel_rfl) (congrArg (fun x => Out.val (V.t (T.bool x)) []) (show (decide (x ≤ (122 : Int))) = (decide ((97 : Int) ≤ x) && decide (x ≤ (122 : Int))) by simp [bl, *]))
  · let t0 : Tp pr := .b (show (decide (x ≥ (97 : Int))) = false by simpa using hc0)
    exact .tpe [t0] (Out.val (V.t (T.bool false)) []) (by kernel_rfl) (congrArg (fun x => Out.val (V.t (T.bool x)) []) (show (false) = (decide ((97 : Int) ≤ x) && decide (x ≤ (122 : Int))) by simp [bl, *]))
theorem isLetterB_ev (b : UInt8) : Ev pr (.call 113 [.t (.int .u8 b.toNat)] []) (.val (bl (letter b)) []) := isLetter_ev b.toNat
theorem runL_ev (s : ByteArray) (hs : s.size ≤ 9223372036854775807) : ∀ (rest done : List UInt8) (i : Int), s.toList = done ++ rest → i = done.length →
    Ev pr (.loop (lq pr 112 0) (at_ [((0 : Nat), V.t (T.str s)), ((1 : Nat), V.t (T.clo 113 [])), ((5 : Nat), i64 i)] [] 0)) (.exit 0 (at_ [(5, i64 (i + (rest.takeWhile letter).length))] [] 0))
  | [], done, i, h, hi => by
    have hl := bys_cut h
    let t1 : Tp pr := .b (show (decide (i < (↑s.size : Int))) = false by simp [*])
    exact .tpe [.i (rfl : ((↑s.size : Int)) = _), t1, .b (rfl : false = false)] (Out.exit (0 : Nat) (at_ [((5 : Nat), V.t (T.int IntKind.i64 i))] [] (0 : Nat))) (by kernel_rfl) (congrArg (fun x => Out.exit (0 : Nat) (at_ [((5 : Nat), V.t (T.int IntKind.i64 x))] [] (0 : Nat))) (show (i) = (i + (0 : Int)) by simp [i64]))
  | b :: rest, done, i, h, hi => by
    have hl := bys_cut h
    have hb := lkpS_mid h hi
    have ih := runL_ev s hs rest (done ++ [b]) (i + 1) (by simp [h]) (by simp [hi])
    simp at hl
    cases hL : letter b with
    | true => (
      let t1 : Tp pr := .b (show (decide (i < (↑s.size : Int))) = true by (simp; omega))
      let t2 : Tp pr := .g .u8 (show (lkpS s i) = some (b) from hb)
      let t4 : Tp pr := .b (show (letter b) = true by assumption)
      let t5 : Tp pr := .i (wrap_i64 (a := i + (1 : Int)) (by omega) (by omega))
      exact .tpe [.i (rfl : ((↑s.size : Int)) = _), t1, t2, .a (isLetterB_ev (b)), t4, t5, .a (ih)] (Out.exit (0 : Nat) (at_ [((5 : Nat), V.t (T.int IntKind.i64 (i + (1 : Int) + (↑(List.takeWhile letter rest).length : Int))))] [] (0 : Nat))) (by kernel_rfl) (congrArg (fun x => Out.exit (0 : Nat) (at_ [((5 : Nat), V.t (T.int IntKind.i64 x))] [] (0 : Nat))) (show (i + (1 : Int) + (↑(List.takeWhile letter rest).length : Int)) = (i + (↑(List.takeWhile letter (b :: rest)).length : Int)) by (simp [i64, hL, List.takeWhile_cons]; omega))))
    | false => (
      let t1 : Tp pr := .b (show (decide (i < (↑s.size : Int))) = true by (simp; omega))
      let t2 : Tp pr := .g .u8 (show (lkpS s i) = some (b) from hb)
      let t4 : Tp pr := .b (show (letter b) = false by assumption)
      exact .tpe [.i (rfl : ((↑s.size : Int)) = _), t1, t2, .a (isLetterB_ev (b)), t4] (Out.exit (0 : Nat) (at_ [((5 : Nat), V.t (T.int IntKind.i64 i))] [] (0 : Nat))) (by kernel_rfl) (congrArg (fun x => Out.exit (0 : Nat) (at_ [((5 : Nat), V.t (T.int IntKind.i64 x))] [] (0 : Nat))) (show (i) = (i + (↑(List.takeWhile letter (b :: rest)).length : Int)) by simp [i64, hL, List.takeWhile_cons])))
theorem run_ev (s : ByteArray) (hs : s.size ≤ 9223372036854775807) : Ev pr (.call 112 [.t (.str s), .t (.clo 113 [])] []) (.val (i64 ((s.toList.takeWhile letter).length)) []) := by
  have := runL_ev s hs s.toList [] 0 rfl rfl
  exact .tpe [.a (this)] (Out.val (V.t (T.int IntKind.i64 ((0 : Int) + (↑(List.takeWhile letter s.toList).length : Int)))) []) (by kernel_rfl) (congrArg (fun x => Out.val (V.t (T.int IntKind.i64 x)) []) (show ((0 : Int) + (↑(List.takeWhile letter s.toList).length : Int)) = ((↑(List.takeWhile letter s.toList).length : Int)) by simp [i64]))
theorem StrengthOf_ev (s : ByteArray) : Ev pr (.call 100 [.t (.str s)] []) (.val (.tup [i64 (strength s.toList), bl (strength s.toList == 7), bl (strength s.toList != 0)]) []) := by
  by_cases hc0 : s.toList = [(124 : UInt8), (124 : UInt8)]
  · let t0 : Tp pr := .b (show (s.toList == [(124 : UInt8), (124 : UInt8)]) = true by simpa using hc0)
    exact .tpe [t0] (Out.val (V.tup [V.t (T.int IntKind.i64 (1 : Int)), V.t (T.bool false), V.t (T.bool true)]) []) (by kernel_rfl) (((congrArg (fun x => Out.val (V.tup [V.t (T.int IntKind.i64 x), V.t (T.bool false), V.t (T.bool true)]) []) (show ((1 : Int)) = (strength s.toList) by simp [strength, *])).trans (congrArg (fun x => Out.val (V.tup [V.t (T.int IntKind.i64 (strength s.toList)), V.t (T.bool x), V.t (T.bool true)]) []) (show (false) = (decide (strength s.toList = (7 : Int))) by simp [strength, *]))).trans (congrArg (fun x => Out.val (V.tup [V.t (T.int IntKind.i64 (strength s.toList)), V.t (T.bool (decide (strength s.toList = (7 : Int)))), V.t (T.bool x)]) []) (show (true) = (strength s.toList != (0 : Int)) by simp [strength, *])))
  · let t0 : Tp pr := .b (show (s.toList == [(124 : UInt8), (124 : UInt8)]) = false by simpa using hc0)
    by_cases hc1 : s.toList = [(38 : UInt8), (38 : UInt8)]
    · let t1 : Tp pr := .b (show (s.toList == [(38 : UInt8), (38 : UInt8)]) = true by simpa using hc1)
      exact .tpe [t0, t1] (Out.val (V.tup [V.t (T.int IntKind.i64 (2 : Int)), V.t (T.bool false), V.t (T.bool true)]) []) (by kernel_rfl) (((congrArg (fun x => Out.val (V.tup [V.t (T.int IntKind.i64 x), V.t (T.bool false), V.t (T.bool true)]) []) (show ((2 : Int)) = (strength s.toList) by simp [strength, *])).trans (congrArg (fun x => Out.val (V.tup [V.t (T.int IntKind.i64 (strength s.toList)), V.t (T.bool x), V.t (T.bool true)]) []) (show (false) = (decide (strength s.toList = (7 : Int))) by simp [strength, *]))).trans (congrArg (fun x => Out.val (V.tup [V.t (T.int IntKind.i64 (strength s.toList)), V.t (T.bool (decide (strength s.toList = (7 : Int)))), V.t (T.bool x)]) []) (show (true) = (strength s.toList != (0 : Int)) by simp [strength, *])))
    · let t1 : Tp pr := .b (show (s.toList == [(38 : UInt8), (38 : UInt8)]) = false by simpa using hc1)
      by_cases hc2 : s.toList = [(61 : UInt8), (61 : UInt8)]
      · let t2 : Tp pr := .b (show (s.toList == [(61 : UInt8), (61 : UInt8)]) = true by simpa using hc2)
        let t3 : Tp pr := .b (show (s.toList == [(61 : UInt8), (61 : UInt8)]) = true by (simp; omega))
        exact .tpe [t0, t1, t2, t3] (Out.val (V.tup [V.t (T.int IntKind.i64 (3 : Int)), V.t (T.bool false), V.t (T.bool true)]) []) (by kernel_rfl) (((congrArg (fun x => Out.val (V.tup [V.t (T.int IntKind.i64 x), V.t (T.bool false), V.t (T.bool true)]) []) (show ((3 : Int)) = (strength s.toList) by simp [strength, *])).trans (congrArg (fun x => Out.val (V.tup [V.t (T.int IntKind.i64 (strength s.toList)), V.t (T.bool x), V.t (T.bool true)]) []) (show (false) = (decide (strength s.toList = (7 : Int))) by simp [strength, *]))).trans (congrArg (fun x => Out.val (V.tup [V.t (T.int IntKind.i64 (strength s.toList)), V.t (T.bool (decide (strength s.toList = (7 : Int)))), V.t (T.bool x)]) []) (show (true) = (strength s.toList != (0 : Int)) by simp [strength, *])))
      · let t2 : Tp pr := .b (show (s.toList == [(61 : UInt8), (61 : UInt8)]) = false by simpa using hc2)
        by_cases hc3 : s.toList = [(33 : UInt8), (61 : UInt8)]
        · let t3 : Tp pr := .b (show (s.toList == [(33 : UInt8), (61 : UInt8)]) = true by simpa using hc3)
          exact .tpe [t0, t1, t2, t3] (Out.val (V.tup [V.t (T.int IntKind.i64 (3 : Int)), V.t (T.bool false), V.t (T.bool true)]) []) (by kernel_rfl) (((congrArg (fun x => Out.val (V.tup [V.t (T.int IntKind.i64 x), V.t (T.bool false), V.t (T.bool true)]) []) (show ((3 : Int)) = (strength s.toList) by simp [strength, *])).trans (congrArg (fun x => Out.val (V.tup [V.t (T.int IntKind.i64 (strength s.toList)), V.t (T.bool x), V.t (T.bool true)]) []) (show (false) = (decide (strength s.toList = (7 : Int))) by simp [strength, *]))).trans (congrArg (fun x => Out.val (V.tup [V.t (T.int IntKind.i64 (strength s.toList)), V.t (T.bool (decide (strength s.toList = (7 : Int)))), V.t (T.bool x)]) []) (show (true) = (strength s.toList != (0 : Int)) by simp [strength, *])))
        · let t3 : Tp pr := .b (show (s.toList == [(33 : UInt8), (61 : UInt8)]) = false by simpa using hc3)
          by_cases hc4 : s.toList = [(60 : UInt8)]
          · let t4 : Tp pr := .b (show (s.toList == [(60 : UInt8)]) = true by simpa using hc4)
            let t5 : Tp pr := .b (show (s.toList == [(60 : UInt8)]) = true by (simp; omega))
            exact .tpe [t0, t1, t2, t3, t4, t5] (Out.val (V.tup [V.t (T.int IntKind.i64 (4 : Int)), V.t (T.bool false), V.t (T.bool true)]) []) (by kernel_rfl) (((congrArg (fun x => Out.val (V.tup [V.t (T.int IntKind.i64 x), V.t (T.bool false), V.t (T.bool true)]) []) (show ((4 : Int)) = (strength s.toList) by simp [strength, *])).trans (congrArg (fun x => Out.val (V.tup [V.t (T.int IntKind.i64 (strength s.toList)), V.t (T.bool x), V.t (T.bool true)]) []) (show (false) = (decide (strength s.toList = (7 : Int))) by simp [strength, *]))).trans (congrArg (fun x => Out.val (V.tup [V.t (T.int IntKind.i64 (strength s.toList)), V.t (T.bool (decide (strength s.toList = (7 : Int)))), V.t (T.bool x)]) []) (show (true) = (strength s.toList != (0 : Int)) by simp [strength, *])))
          · let t4 : Tp pr := .b (show (s.toList == [(60 : UInt8)]) = false by simpa using hc4)
            by_cases hc5 : s.toList = [(60 : UInt8), (61 : UInt8)]
            · let t5 : Tp pr := .b (show (s.toList == [(60 : UInt8), (61 : UInt8)]) = true by simpa using hc5)
              exact .tpe [t0, t1, t2, t3, t4, t5] (Out.val (V.tup [V.t (T.int IntKind.i64 (4 : Int)), V.t (T.bool false), V.t (T.bool true)]) []) (by kernel_rfl) (((congrArg (fun x => Out.val (V.tup [V.t (T.int IntKind.i64 x), V.t (T.bool false), V.t (T.bool true)]) []) (show ((4 : Int)) = (strength s.toList) by simp [strength, *])).trans (congrArg (fun x => Out.val (V.tup [V.t (T.int IntKind.i64 (strength s.toList)), V.t (T.bool x), V.t (T.bool true)]) []) (show (false) = (decide (strength s.toList = (7 : Int))) by simp [strength, *]))).trans (congrArg (fun x => Out.val (V.tup [V.t (T.int IntKind.i64 (strength s.toList)), V.t (T.bool (decide (strength s.toList = (7 : Int)))), V.t (T.bool x)]) []) (show (true) = (strength s.toList != (0 : Int)) by simp [strength, *])))
            · let t5 : Tp pr := .b (show (s.toList == [(60 : UInt8), (61 : UInt8)]) = false by simpa using hc5)
              by_cases hc6 : s.toList = [(43 : UInt8)]
              · let t6 : Tp pr := .b (show (s.toList == [(43 : UInt8)]) = true by simpa using hc6)
                let t7 : Tp pr := .b (show (s.toList == [(43 : UInt8)]) = true by (simp; omega))
                exact .tpe [t0, t1, t2, t3, t4, t5, t6, t7] (Out.val (V.tup [V.t (T.int IntKind.i64 (5 : Int)), V.t (T.bool false), V.t (T.bool true)]) []) (by kernel_rfl) (((congrArg (fun x => Out.val (V.tup [V.t (T.int IntKind.i64 x), V.t (T.bool false), V.t (T.bool true)]) []) (show ((5 : Int)) = (strength s.toList) by simp [strength, *])).trans (congrArg (fun x => Out.val (V.tup [V.t (T.int IntKind.i64 (strength s.toList)), V.t (T.bool x), V.t (T.bool true)]) []) (show (false) = (decide (strength s.toList = (7 : Int))) by simp [strength, *]))).trans (congrArg (fun x => Out.val (V.tup [V.t (T.int IntKind.i64 (strength s.toList)), V.t (T.bool (decide (strength s.toList = (7 : Int)))), V.t (T.bool x)]) []) (show (true) = (strength s.toList != (0 : Int)) by simp [strength, *])))
              · let t6 : Tp pr := .b (show (s.toList == [(43 : UInt8)]) = false by simpa using hc6)
                by_cases hc7 : s.toList = [(45 : UInt8)]
                · let t7 : Tp pr := .b (show (s.toList == [(45 : UInt8)]) = true by simpa using hc7)
                  exact .tpe [t0, t1, t2, t3, t4, t5, t6, t7] (Out.val (V.tup [V.t (T.int IntKind.i64 (5 : Int)), V.t (T.bool false), V.t (T.bool true)]) []) (by kernel_rfl) (((congrArg (fun x => Out.val (V.tup [V.t (T.int IntKind.i64 x), V.t (T.bool false), V.t (T.bool true)]) []) (show ((5 : Int)) = (strength s.toList) by simp [strength, *])).trans (congrArg (fun x => Out.val (V.tup [V.t (T.int IntKind.i64 (strength s.toList)), V.t (T.bool x), V.t (T.bool true)]) []) (show (false) = (decide (strength s.toList = (7 : Int))) by simp [strength, *]))).trans (congrArg (fun x => Out.val (V.tup [V.t (T.int IntKind.i64 (strength s.toList)), V.t (T.bool (decide (strength s.toList = (7 : Int)))), V.t (T.bool x)]) []) (show (true) = (strength s.toList != (0 : Int)) by simp [strength, *])))
                · let t7 : Tp pr := .b (show (s.toList == [(45 : UInt8)]) = false by simpa using hc7)
                  by_cases hc8 : s.toList = [(42 : UInt8)]
                  · let t8 : Tp pr := .b (show (s.toList == [(42 : UInt8)]) = true by simpa using hc8)
                    let t9 : Tp pr := .b (show (s.toList == [(42 : UInt8)]) = true by (simp; omega))
                    exact .tpe [t0, t1, t2, t3, t4, t5, t6, t7, t8, t9] (Out.val (V.tup [V.t (T.int IntKind.i64 (6 : Int)), V.t (T.bool false), V.t (T.bool true)]) []) (by kernel_rfl) (((congrArg (fun x => Out.val (V.tup [V.t (T.int IntKind.i64 x), V.t (T.bool false), V.t (T.bool true)]) []) (show ((6 : Int)) = (strength s.toList) by simp [strength, *])).trans (congrArg (fun x => Out.val (V.tup [V.t (T.int IntKind.i64 (strength s.toList)), V.t (T.bool x), V.t (T.bool true)]) []) (show (false) = (decide (strength s.toList = (7 : Int))) by simp [strength, *]))).trans (congrArg (fun x => Out.val (V.tup [V.t (T.int IntKind.i64 (strength s.toList)), V.t (T.bool (decide (strength s.toList = (7 : Int)))), V.t (T.bool x)]) []) (show (true) = (strength s.toList != (0 : Int)) by simp [strength, *])))
                  · let t8 : Tp pr := .b (show (s.toList == [(42 : UInt8)]) = false by simpa using hc8)
                    by_cases hc9 : s.toList = [(47 : UInt8)]
                    · let t9 : Tp pr := .b (show (s.toList == [(47 : UInt8)]) = true by simpa using hc9)
                      let t10 : Tp pr := .b (show (s.toList == [(47 : UInt8)]) = true by (simp; omega))
                      exact .tpe [t0, t1, t2, t3, t4, t5, t6, t7, t8, t9, t10] (Out.val (V.tup [V.t (T.int IntKind.i64 (6 : Int)), V.t (T.bool false), V.t (T.bool true)]) []) (by kernel_rfl) (((congrArg (fun x => Out.val (V.tup [V.t (T.int IntKind.i64 x), V.t (T.bool false), V.t (T.bool true)]) []) (show ((6 : Int)) = (strength s.toList) by simp [strength, *])).trans (congrArg (fun x => Out.val (V.tup [V.t (T.int IntKind.i64 (strength s.toList)), V.t (T.bool x), V.t (T.bool true)]) []) (show (false) = (decide (strength s.toList = (7 : Int))) by simp [strength, *]))).trans (congrArg (fun x => Out.val (V.tup [V.t (T.int IntKind.i64 (strength s.toList)), V.t (T.bool (decide (strength s.toList = (7 : Int)))), V.t (T.bool x)]) []) (show (true) = (strength s.toList != (0 : Int)) by simp [strength, *])))
                    · let t9 : Tp pr := .b (show (s.toList == [(47 : UInt8)]) = false by simpa using hc9)
                      by_cases hc10 : s.toList = [(37 : UInt8)]
                      · let t10 : Tp pr := .b (show (s.toList == [(37 : UInt8)]) = true by simpa using hc10)
                        exact .tpe [t0, t1, t2, t3, t4, t5, t6, t7, t8, t9, t10] (Out.val (V.tup [V.t (T.int IntKind.i64 (6 : Int)), V.t (T.bool false), V.t (T.bool true)]) []) (by kernel_rfl) (((congrArg (fun x => Out.val (V.tup [V.t (T.int IntKind.i64 x), V.t (T.bool false), V.t (T.bool true)]) []) (show ((6 : Int)) = (strength s.toList) by simp [strength, *])).trans (congrArg (fun x => Out.val (V.tup [V.t (T.int IntKind.i64 (strength s.toList)), V.t (T.bool x), V.t (T.bool true)]) []) (show (false) = (decide (strength s.toList = (7 : Int))) by simp [strength, *]))).trans (congrArg (fun x => Out.val (V.tup [V.t (T.int IntKind.i64 (strength s.toList)), V.t (T.bool (decide (strength s.toList = (7 : Int)))), V.t (T.bool x)]) []) (show (true) = (strength s.toList != (0 : Int)) by simp [strength, *])))
                      · let t10 : Tp pr := .b (show (s.toList == [(37 : UInt8)]) = false by simpa using hc10)
                        by_cases hc11 : s.toList = [(60 : UInt8), (60 : UInt8)]
                        · let t11 : Tp pr := .b (show (s.toList == [(60 : UInt8), (60 : UInt8)]) = true by simpa using hc11)
                          exact .tpe [t0, t1, t2, t3, t4, t5, t6, t7, t8, t9, t10, t11] (Out.val (V.tup [V.t (T.int IntKind.i64 (7 : Int)), V.t (T.bool true), V.t (T.bool true)]) []) (by kernel_rfl) (((congrArg (fun x => Out.val (V.tup [V.t (T.int IntKind.i64 x), V.t (T.bool true), V.t (T.bool true)]) []) (show ((7 : Int)) = (strength s.toList) by simp [strength, *])).trans (congrArg (fun x => Out.val (V.tup [V.t (T.int IntKind.i64 (strength s.toList)), V.t (T.bool x), V.t (T.bool true)]) []) (show (true) = (decide (strength s.toList = (7 : Int))) by simp [strength, *]))).trans (congrArg (fun x => Out.val (V.tup [V.t (T.int IntKind.i64 (strength s.toList)), V.t (T.bool (decide (strength s.toList = (7 : Int)))), V.t (T.bool x)]) []) (show (true) = (strength s.toList != (0 : Int)) by simp [strength, *])))
                        · let t11 : Tp pr := .b (show (s.toList == [(60 : UInt8), (60 : UInt8)]) = false by simpa using hc11)
                          exact .tpe [t0, t1, t2, t3, t4, t5, t6, t7, t8, t9, t10, t11] (Out.val (V.tup [V.t (T.int IntKind.i64 (0 : Int)), V.t (T.bool false), V.t (T.bool false)]) []) (by kernel_rfl) (((congrArg (fun x => Out.val (V.tup [V.t (T.int IntKind.i64 x), V.t (T.bool false), V.t (T.bool false)]) []) (show ((0 : Int)) = (strength s.toList) by simp [strength, *])).trans (congrArg (fun x => Out.val (V.tup [V.t (T.int IntKind.i64 (strength s.toList)), V.t (T.bool x), V.t (T.bool false)]) []) (show (false) = (decide (strength s.toList = (7 : Int))) by simp [strength, *]))).trans (congrArg (fun x => Out.val (V.tup [V.t (T.int IntKind.i64 (strength s.toList)), V.t (T.bool (decide (strength s.toList = (7 : Int)))), V.t (T.bool x)]) []) (show (false) = (strength s.toList != (0 : Int)) by simp [strength, *])))
theorem l2Strength_ev (s : ByteArray) : Ev pr (.call 96 [.t (.str s)] []) (.val (i64 (strength s.toList)) []) := by
  by_cases hc0 : s.toList = [(124 : UInt8), (124 : UInt8)]
  · let t0 : Tp pr := .b (show (s.toList == [(124 : UInt8), (124 : UInt8)]) = true by simpa using hc0)
    exact .tpe [t0] (Out.val (V.t (T.int IntKind.i64 (1 : Int))) []) (by kernel_rfl) (congrArg (fun x => Out.val (V.t (T.int IntKind.i64 x)) []) (show ((1 : Int)) = (strength s.toList) by simp [strength, *]))
  · let t0 : Tp pr := .b (show (s.toList == [(124 : UInt8), (124 : UInt8)]) = false by simpa using hc0)
    by_cases hc1 : s.toList = [(38 : UInt8), (38 : UInt8)]
    · let t1 : Tp pr := .b (show (s.toList == [(38 : UInt8), (38 : UInt8)]) = true by simpa using hc1)
      exact .tpe [t0, t1] (Out.val (V.t (T.int IntKind.i64 (2 : Int))) []) (by kernel_rfl) (congrArg (fun x => Out.val (V.t (T.int IntKind.i64 x)) []) (show ((2 : Int)) = (strength s.toList) by simp [strength, *]))
    · let t1 : Tp pr := .b (show (s.toList == [(38 : UInt8), (38 : UInt8)]) = false by simpa using hc1)
      by_cases hc2 : s.toList = [(61 : UInt8), (61 : UInt8)]
      · let t2 : Tp pr := .b (show (s.toList == [(61 : UInt8), (61 : UInt8)]) = true by simpa using hc2)
        let t3 : Tp pr := .b (show (s.toList == [(61 : UInt8), (61 : UInt8)]) = true by (simp; omega))
        exact .tpe [t0, t1, t2, t3] (Out.val (V.t (T.int IntKind.i64 (3 : Int))) []) (by kernel_rfl) (congrArg (fun x => Out.val (V.t (T.int IntKind.i64 x)) []) (show ((3 : Int)) = (strength s.toList) by simp [strength, *]))
      · let t2 : Tp pr := .b (show (s.toList == [(61 : UInt8), (61 : UInt8)]) = false by simpa using hc2)
        by_cases hc3 : s.toList = [(33 : UInt8), (61 : UInt8)]
        · let t3 : Tp pr := .b (show (s.toList == [(33 : UInt8), (61 : UInt8)]) = true by simpa using hc3)
          exact .tpe [t0, t1, t2, t3] (Out.val (V.t (T.int IntKind.i64 (3 : Int))) []) (by kernel_rfl) (congrArg (fun x => Out.val (V.t (T.int IntKind.i64 x)) []) (show ((3 : Int)) = (strength s.toList) by simp [strength, *]))
        · let t3 : Tp pr := .b (show (s.toList == [(33 : UInt8), (61 : UInt8)]) = false by simpa using hc3)
          by_cases hc4 : s.toList = [(60 : UInt8)]
          · let t4 : Tp pr := .b (show (s.toList == [(60 : UInt8)]) = true by simpa using hc4)
            let t5 : Tp pr := .b (show (s.toList == [(60 : UInt8)]) = true by (simp; omega))
            exact .tpe [t0, t1, t2, t3, t4, t5] (Out.val (V.t (T.int IntKind.i64 (4 : Int))) []) (by kernel_rfl) (congrArg (fun x => Out.val (V.t (T.int IntKind.i64 x)) []) (show ((4 : Int)) = (strength s.toList) by simp [strength, *]))
          · let t4 : Tp pr := .b (show (s.toList == [(60 : UInt8)]) = false by simpa using hc4)
            by_cases hc5 : s.toList = [(60 : UInt8), (61 : UInt8)]
            · let t5 : Tp pr := .b (show (s.toList == [(60 : UInt8), (61 : UInt8)]) = true by simpa using hc5)
              exact .tpe [t0, t1, t2, t3, t4, t5] (Out.val (V.t (T.int IntKind.i64 (4 : Int))) []) (by kernel_rfl) (congrArg (fun x => Out.val (V.t (T.int IntKind.i64 x)) []) (show ((4 : Int)) = (strength s.toList) by simp [strength, *]))
            · let t5 : Tp pr := .b (show (s.toList == [(60 : UInt8), (61 : UInt8)]) = false by simpa using hc5)
              by_cases hc6 : s.toList = [(43 : UInt8)]
              · let t6 : Tp pr := .b (show (s.toList == [(43 : UInt8)]) = true by simpa using hc6)
                let t7 : Tp pr := .b (show (s.toList == [(43 : UInt8)]) = true by (simp; omega))
                exact .tpe [t0, t1, t2, t3, t4, t5, t6, t7] (Out.val (V.t (T.int IntKind.i64 (5 : Int))) []) (by kernel_rfl) (congrArg (fun x => Out.val (V.t (T.int IntKind.i64 x)) []) (show ((5 : Int)) = (strength s.toList) by simp [strength, *]))
              · let t6 : Tp pr := .b (show (s.toList == [(43 : UInt8)]) = false by simpa using hc6)
                by_cases hc7 : s.toList = [(45 : UInt8)]
                · let t7 : Tp pr := .b (show (s.toList == [(45 : UInt8)]) = true by simpa using hc7)
                  exact .tpe [t0, t1, t2, t3, t4, t5, t6, t7] (Out.val (V.t (T.int IntKind.i64 (5 : Int))) []) (by kernel_rfl) (congrArg (fun x => Out.val (V.t (T.int IntKind.i64 x)) []) (show ((5 : Int)) = (strength s.toList) by simp [strength, *]))
                · let t7 : Tp pr := .b (show (s.toList == [(45 : UInt8)]) = false by simpa using hc7)
                  by_cases hc8 : s.toList = [(42 : UInt8)]
                  · let t8 : Tp pr := .b (show (s.toList == [(42 : UInt8)]) = true by simpa using hc8)
                    let t9 : Tp pr := .b (show (s.toList == [(42 : UInt8)]) = true by (simp; omega))
                    exact .tpe [t0, t1, t2, t3, t4, t5, t6, t7, t8, t9] (Out.val (V.t (T.int IntKind.i64 (6 : Int))) []) (by kernel_rfl) (congrArg (fun x => Out.val (V.t (T.int IntKind.i64 x)) []) (show ((6 : Int)) = (strength s.toList) by simp [strength, *]))
                  · let t8 : Tp pr := .b (show (s.toList == [(42 : UInt8)]) = false by simpa using hc8)
                    by_cases hc9 : s.toList = [(47 : UInt8)]
                    · let t9 : Tp pr := .b (show (s.toList == [(47 : UInt8)]) = true by simpa using hc9)
                      let t10 : Tp pr := .b (show (s.toList == [(47 : UInt8)]) = true by (simp; omega))
                      exact .tpe [t0, t1, t2, t3, t4, t5, t6, t7, t8, t9, t10] (Out.val (V.t (T.int IntKind.i64 (6 : Int))) []) (by kernel_rfl) (congrArg (fun x => Out.val (V.t (T.int IntKind.i64 x)) []) (show ((6 : Int)) = (strength s.toList) by simp [strength, *]))
                    · let t9 : Tp pr := .b (show (s.toList == [(47 : UInt8)]) = false by simpa using hc9)
                      by_cases hc10 : s.toList = [(37 : UInt8)]
                      · let t10 : Tp pr := .b (show (s.toList == [(37 : UInt8)]) = true by simpa using hc10)
                        exact .tpe [t0, t1, t2, t3, t4, t5, t6, t7, t8, t9, t10] (Out.val (V.t (T.int IntKind.i64 (6 : Int))) []) (by kernel_rfl) (congrArg (fun x => Out.val (V.t (T.int IntKind.i64 x)) []) (show ((6 : Int)) = (strength s.toList) by simp [strength, *]))
                      · let t10 : Tp pr := .b (show (s.toList == [(37 : UInt8)]) = false by simpa using hc10)
                        by_cases hc11 : s.toList = [(60 : UInt8), (60 : UInt8)]
                        · let t11 : Tp pr := .b (show (s.toList == [(60 : UInt8), (60 : UInt8)]) = true by simpa using hc11)
                          exact .tpe [t0, t1, t2, t3, t4, t5, t6, t7, t8, t9, t10, t11] (Out.val (V.t (T.int IntKind.i64 (7 : Int))) []) (by kernel_rfl) (congrArg (fun x => Out.val (V.t (T.int IntKind.i64 x)) []) (show ((7 : Int)) = (strength s.toList) by simp [strength, *]))
                        · let t11 : Tp pr := .b (show (s.toList == [(60 : UInt8), (60 : UInt8)]) = false by simpa using hc11)
                          exact .tpe [t0, t1, t2, t3, t4, t5, t6, t7, t8, t9, t10, t11] (Out.val (V.t (T.int IntKind.i64 (0 : Int))) []) (by kernel_rfl) (congrArg (fun x => Out.val (V.t (T.int IntKind.i64 x)) []) (show ((0 : Int)) = (strength s.toList) by simp [strength, *]))
theorem l1In_ev (x lo hi : Int) : Ev pr (.call 39 [i64 x, i64 lo, i64 hi] []) (.val (bl (decide (x ≥ lo) && decide (x ≤ hi))) []) := by
  by_cases hc0 : lo ≤ x
  · let t0 : Tp pr := .b (show (decide (x ≥ lo)) = true by simpa using hc0)
    exact .tpe [t0] (Out.val (V.t (T.bool (decide (x ≤ hi)))) []) (by kernel_rfl) (congrArg (fun x => Out.val (V.t (T.bool x)) []) (show (decide (x ≤ hi)) = (decide (x ≥ lo) && decide (x ≤ hi)) by simp [bl, *]))
  · let t0 : Tp pr := .b (show (decide (x ≥ lo)) = false by simpa using hc0)
    exact .tpe [t0] (Out.val (V.t (T.bool false)) []) (by kernel_rfl) (congrArg (fun x => Out.val (V.t (T.bool x)) []) (show (false) = (decide (x ≥ lo) && decide (x ≤ hi)) by simp [bl, *]))
theorem l1Letter_ev (x : Int) : Ev pr (.call 110 [.t (.int .u8 x)] []) (.val (bl (decide (97 ≤ x) && decide (x ≤ 122))) []) := by
  by_cases hc0 : (97 : Int) ≤ x
  · let t0 : Tp pr := .b (show (decide (x ≥ (97 : Int))) = true by simpa using hc0)
    exact .tpe [t0] (Out.val (V.t (T.bool (decide (x ≤ (122 : Int))))) []) (by kernel_rfl) (congrArg (fun x => Out.val (V.t (T.bool x)) []) (show (decide (x ≤ (122 : Int))) = (decide ((97 : Int) ≤ x) && decide (x ≤ (122 : Int))) by simp [bl, *]))
  · let t0 : Tp pr := .b (show (decide (x ≥ (97 : Int))) = false by simpa using hc0)
    exact .tpe [t0] (Out.val (V.t (T.bool false)) []) (by kernel_rfl) (congrArg (fun x => Out.val (V.t (T.bool x)) []) (show (false) = (decide ((97 : Int) ≤ x) && decide (x ≤ (122 : Int))) by simp [bl, *]))
theorem l1LetterB_ev (b : UInt8) : Ev pr (.call 110 [.t (.int .u8 b.toNat)] []) (.val (bl (letter b)) []) := l1Letter_ev b.toNat
theorem nameOk_ev (s : ByteArray) (hs : s.size ≤ 9223372036854775807) : Ev pr (.call 99 [.t (.str s)] []) (.val (bl (nameOk s)) []) := by
  rw [nameOk_code]
  by_cases hc0 : s.toList = []
  · let t0 : Tp pr := .b (show (!s.toList == []) = false by simpa using hc0)
    exact .tpe [t0, .b (rfl : false = false)] (Out.val (V.t (T.bool false)) []) (by kernel_rfl) (congrArg (fun x => Out.val (V.t (T.bool x)) []) (show (false) = (!s.toList == [] && (decide ((↑s.size : Int) ≤ (8 : Int)) && decide ((↑(List.takeWhile letter s.toList).length : Int) = (↑s.size : Int)))) by simp [*]))
  · let t0 : Tp pr := .b (show (!s.toList == []) = true by simpa using hc0)
    by_cases hc2 : (↑s.size : Int) ≤ (8 : Int)
    · let t2 : Tp pr := .b (show (decide ((↑s.size : Int) ≤ (8 : Int))) = true by simpa using hc2)
      exact .tpe [t0, .i (rfl : ((↑s.size : Int)) = _), t2, .a (run_ev (s) (by assumption)), .i (rfl : ((↑s.size : Int)) = _)] (Out.val (V.t (T.bool (decide ((↑(List.takeWhile letter s.toList).length : Int) = (↑s.size : Int))))) []) (by kernel_rfl) (congrArg (fun x => Out.val (V.t (T.bool x)) []) (show (decide ((↑(List.takeWhile letter s.toList).length : Int) = (↑s.size : Int))) = (!s.toList == [] && (decide ((↑s.size : Int) ≤ (8 : Int)) && decide ((↑(List.takeWhile letter s.toList).length : Int) = (↑s.size : Int)))) by simp [*]))
    · let t2 : Tp pr := .b (show (decide ((↑s.size : Int) ≤ (8 : Int))) = false by simpa using hc2)
      exact .tpe [t0, .i (rfl : ((↑s.size : Int)) = _), t2] (Out.val (V.t (T.bool false)) []) (by kernel_rfl) (congrArg (fun x => Out.val (V.t (T.bool x)) []) (show (false) = (!s.toList == [] && (decide ((↑s.size : Int) ≤ (8 : Int)) && decide ((↑(List.takeWhile letter s.toList).length : Int) = (↑s.size : Int)))) by simp [*]))
theorem GoodNameL_ev (s : ByteArray) (hs : s.size ≤ 9223372036854775807) : ∀ (rest done : List UInt8) (i : Int), s.toList = done ++ rest → i = done.length →
    Ev pr (.loop (lq pr 95 0) (at_ [(1, V.ptr 0 1 0 0), (3, i64 i)] [Ob.box [i64 2, i64 0, V.t (T.str s), i64 0]] 0))
      (bif rest.all letter then .exit 1 (at_ [(1, V.ptr 0 1 0 0)] [Ob.box [i64 2, i64 0, V.t (T.str s), i64 0]] 0) else .ret (at_ [(2, bl false)] [] 0))
  | [], done, i, h, hi => by
    have hl := bys_cut h
    let t1 : Tp pr := .b (show (decide (i < (↑s.size : Int))) = false by simp [*])
    exact .tp [.i (rfl : ((↑s.size : Int)) = _), t1] (by kernel_rfl)
  | b :: rest, done, i, h, hi => by
    have hl := bys_cut h
    have hb := lkpS_mid h hi
    have ih := GoodNameL_ev s hs rest (done ++ [b]) (i + 1) (by simp [h]) (by simp [hi])
    simp at hl
    cases hL : letter b with
    | true => 
      simp only [List.all_cons, hL, Bool.true_and]
      cases hr : rest.all letter with
      | true => rw [hr] at ih; (
        let t1 : Tp pr := .b (show (decide (i < (↑s.size : Int))) = true by (simp; omega))
        let t2 : Tp pr := .g .u8 (show (lkpS s i) = some (b) from hb)
        let t4 : Tp pr := .b (show (!letter b) = false by (simp; omega))
        let t5 : Tp pr := .i (wrap_i64 (a := i + (1 : Int)) (by omega) (by omega))
        exact .tp [.i (rfl : ((↑s.size : Int)) = _), t1, t2, .a (l1LetterB_ev (b)), t4, t5, .a (ih)] (by kernel_rfl))
      | false => rw [hr] at ih; (
        let t1 : Tp pr := .b (show (decide (i < (↑s.size : Int))) = true by (simp; omega))
        let t2 : Tp pr := .g .u8 (show (lkpS s i) = some (b) from hb)
        let t4 : Tp pr := .b (show (!letter b) = false by (simp; omega))
        let t5 : Tp pr := .i (wrap_i64 (a := i + (1 : Int)) (by omega) (by omega))
        exact .tp [.i (rfl : ((↑s.size : Int)) = _), t1, t2, .a (l1LetterB_ev (b)), t4, t5, .a (ih)] (by kernel_rfl))
    | false =>
      simp only [List.all_cons, hL, Bool.false_and]
      let t1 : Tp pr := .b (show (decide (i < (↑s.size : Int))) = true by (simp; omega))
      let t2 : Tp pr := .g .u8 (show (lkpS s i) = some (b) from hb)
      let t4 : Tp pr := .b (show (!letter b) = true by (simp; omega))
      exact .tp [.i (rfl : ((↑s.size : Int)) = _), t1, t2, .a (l1LetterB_ev (b)), t4] (by kernel_rfl)
theorem GoodName_ev (s : ByteArray) (hs : s.size ≤ 9223372036854775807) : Ev pr (.call 95 [.agg [i64 2, i64 0, .t (.str s), i64 0]] []) (.val (bl (nameOk s)) []) := by
  have ih := GoodNameL_ev s hs s.toList [] 0 rfl rfl
  cases hr : s.toList.all letter with
  | true =>
    rw [hr] at ih
    rw [nameOk_true hr]
    let t0 : Tp pr := .a (l1In_ev ((0 : Int)) ((0 : Int)) ((300 : Int)))
    let t7 : Tp pr := .a (l1In_ev ((↑s.size : Int)) ((1 : Int)) ((8 : Int)))
    exact .tp [t0, .b (rfl : false = false), .b (rfl : false = false), .b (rfl : true = true), .a (ih), .b (rfl : true = true), .i (rfl : ((↑s.size : Int)) = _), t7] (by kernel_rfl)
  | false =>
    rw [hr] at ih
    rw [nameOk_false hr]
    let t0 : Tp pr := .a (l1In_ev ((0 : Int)) ((0 : Int)) ((300 : Int)))
    exact .tp [t0, .b (rfl : false = false), .b (rfl : false = false), .b (rfl : true = true), .a (ih)] (by kernel_rfl)
end Go.Ev

/- Expressions: how they are read. -/
namespace Go.Ev
set_option linter.unusedVariables false
set_option linter.unusedSimpArgs false
open Go.Proofs
set_option maxRecDepth 100000
set_option linter.unusedVariables false
set_option maxHeartbeats 1000000
theorem exprFrom_ev : ∀ (n : Nat) (l : List Ex), l.length ≤ n → l.length ≤ 1048576 → (∀ x ∈ l, x.text.size ≤ 9223372036854775807) → Ev pr (.call 80 [exs l] []) (.val (outP (readE n l)) [])
  | 0, l, hn, hl, hs => by
    have : l = [] := List.length_eq_zero_iff.1 (by omega)
    subst this
    let t0 : Tp pr := .i (rfl : ((0 : Int) : Int) = (0 : Int))
    exact .tp [t0, .b (rfl : true = true)] (by kernel_rfl)
  | n + 1, [], hn, hl, hs => by
    let t0 : Tp pr := .i (rfl : ((0 : Int) : Int) = (0 : Int))
    exact .tp [t0, .b (rfl : true = true)] (by kernel_rfl)
  | n + 1, x :: r, hn, hl, hs => by
    have hx := hs x (by simp)
    have ih1 := exprFrom_ev n r (by simp at hn; omega) (by simp at hl; omega) (fun y hy => hs y (by simp [hy]))
    cases h1 : readE n r with
    | none =>
      rw [h1] at ih1
      let t0 : Tp pr := .i (show ((↑(List.map Ex.ce (x :: r)).length : Int) : Int) = (↑r.length : Int) + (1 : Int) by simp)
      let t3 : Tp pr := .g .row (show (lkp (List.map Ex.ce (x :: r)) (0 : Int)) = some (x.ce) by simp)
      let t7 : Tp pr := .m (show (decide ((0 : Int) ≤ (1 : Int) ∧ (1 : Int) ≤ (↑(List.map Ex.ce (x :: r)).length : Int) ∧ (↑(List.map Ex.ce (x :: r)).length : Int) ≤ (↑(List.map Ex.ce (x :: r)).length : Int))) = true by (simp; omega))
      let t8 : Tp pr := .n .rows (show (List.take ((↑(List.map Ex.ce (x :: r)).length : Int).toNat - (1 : Nat)) (List.drop (1 : Nat) (List.map Ex.ce (x :: r)))) = List.map Ex.ce r by simp)
      by_cases hc13 : x.kind = (1 : Int)
      · let t13 : Tp pr := .b (show (decide (x.kind = (1 : Int))) = true by simpa using hc13)
        let t14 : Tp pr := .a (within_ev (x.num) ((0 : Int)) ((999999999 : Int)))
        by_cases hc15 : (0 : Int) ≤ x.num ∧ x.num ≤ (999999999 : Int)
        · let t15 : Tp pr := .b (show (decide (x.num ≥ (0 : Int)) && decide (x.num ≤ (999999999 : Int))) = true by simpa using hc15)
          by_cases hc16 : x.text = e0
          · let t16 : Tp pr := .b (show (!x.text.toList == []) = false by simpa using hc16)
            exact .tpe [t0, .b (rfl : false = false), .m (rfl : true = true), t3, .m (rfl : true = true), .m (rfl : true = true), .m (rfl : true = true), t7, t8, .m (rfl : true = true), .m (rfl : true = true), .m (rfl : true = true), .m (rfl : true = true), t13, t14, t15, t16] (Out.val (V.tup [V.t (T.ptr [T.int IntKind.i64 x.kind, T.int IntKind.i64 x.num, T.str x.text, T.nilp, T.nilp] (0 : Nat)), V.t (T.seq (3 : Nat) (List.map Ex.ce r))]) []) (by kernel_rfl) (((congrArg (fun x_1 => Out.val (V.tup [V.t (T.ptr [T.int IntKind.i64 x_1, T.int IntKind.i64 x.num, T.str x.text, T.nilp, T.nilp] (0 : Nat)), V.t (T.seq (3 : Nat) (List.map Ex.ce r))]) []) (show (x.kind) = ((1 : Int)) by assumption)).trans (congrArg (fun x_1 => Out.val (V.tup [V.t (T.ptr [T.int IntKind.i64 (1 : Int), T.int IntKind.i64 x.num, T.str x_1, T.nilp, T.nilp] (0 : Nat)), V.t (T.seq (3 : Nat) (List.map Ex.ce r))]) []) (show (x.text) = (ByteArray.mk #[]) by assumption))).trans (show (Out.val (V.tup [V.t (T.ptr [T.int IntKind.i64 (1 : Int), T.int IntKind.i64 x.num, T.str (ByteArray.mk #[]), T.nilp, T.nilp] (0 : Nat)), V.t (T.seq (3 : Nat) (List.map Ex.ce r))]) []) = Out.val (outP (readE (n + (1 : Nat)) (x :: r))) [] by simp [readE, outP, exs, sl, E.tp, E.tab, *]))
          · let t16 : Tp pr := .b (show (!x.text.toList == []) = true by simpa using hc16)
            exact .tpe [t0, .b (rfl : false = false), .m (rfl : true = true), t3, .m (rfl : true = true), .m (rfl : true = true), .m (rfl : true = true), t7, t8, .m (rfl : true = true), .m (rfl : true = true), .m (rfl : true = true), .m (rfl : true = true), t13, t14, t15, t16] (Out.val (V.tup [V.t T.nilp, V.t (T.seq (3 : Nat) [])]) []) (by kernel_rfl) ((rfl).trans (show (Out.val (V.tup [V.t T.nilp, V.t (T.seq (3 : Nat) [])]) []) = Out.val (outP (readE (n + (1 : Nat)) (x :: r))) [] by simp [readE, outP, exs, sl, E.tp, E.tab, *]))
        · let t15 : Tp pr := .b (show (decide (x.num ≥ (0 : Int)) && decide (x.num ≤ (999999999 : Int))) = false by simpa using hc15)
          exact .tpe [t0, .b (rfl : false = false), .m (rfl : true = true), t3, .m (rfl : true = true), .m (rfl : true = true), .m (rfl : true = true), t7, t8, .m (rfl : true = true), .m (rfl : true = true), .m (rfl : true = true), .m (rfl : true = true), t13, t14, t15, .b (rfl : true = true)] (Out.val (V.tup [V.t T.nilp, V.t (T.seq (3 : Nat) [])]) []) (by kernel_rfl) ((rfl).trans (show (Out.val (V.tup [V.t T.nilp, V.t (T.seq (3 : Nat) [])]) []) = Out.val (outP (readE (n + (1 : Nat)) (x :: r))) [] by simp [readE, outP, exs, sl, E.tp, E.tab, *]))
      · let t13 : Tp pr := .b (show (decide (x.kind = (1 : Int))) = false by simpa using hc13)
        by_cases hc14 : x.kind = (2 : Int)
        · let t14 : Tp pr := .b (show (decide (x.kind = (2 : Int))) = true by simpa using hc14)
          by_cases hc15 : x.num = (0 : Int)
          · let t15 : Tp pr := .b (show (decide (x.num = (0 : Int))) = true by simpa using hc15)
            by_cases hc17 : nameOk x.text = false
            · let t17 : Tp pr := .b (show (!nameOk x.text) = true by simpa using hc17)
              exact .tpe [t0, .b (rfl : false = false), .m (rfl : true = true), t3, .m (rfl : true = true), .m (rfl : true = true), .m (rfl : true = true), t7, t8, .m (rfl : true = true), .m (rfl : true = true), .m (rfl : true = true), .m (rfl : true = true), t13, t14, t15, .a (nameOk_ev (x.text) (by assumption)), t17] (Out.val (V.tup [V.t T.nilp, V.t (T.seq (3 : Nat) [])]) []) (by kernel_rfl) ((rfl).trans (show (Out.val (V.tup [V.t T.nilp, V.t (T.seq (3 : Nat) [])]) []) = Out.val (outP (readE (n + (1 : Nat)) (x :: r))) [] by simp [readE, outP, exs, sl, E.tp, E.tab, *]))
            · let t17 : Tp pr := .b (show (!nameOk x.text) = false by simpa using hc17)
              exact .tpe [t0, .b (rfl : false = false), .m (rfl : true = true), t3, .m (rfl : true = true), .m (rfl : true = true), .m (rfl : true = true), t7, t8, .m (rfl : true = true), .m (rfl : true = true), .m (rfl : true = true), .m (rfl : true = true), t13, t14, t15, .a (nameOk_ev (x.text) (by assumption)), t17] (Out.val (V.tup [V.t (T.ptr [T.int IntKind.i64 x.kind, T.int IntKind.i64 x.num, T.str x.text, T.nilp, T.nilp] (0 : Nat)), V.t (T.seq (3 : Nat) (List.map Ex.ce r))]) []) (by kernel_rfl) (((congrArg (fun x_1 => Out.val (V.tup [V.t (T.ptr [T.int IntKind.i64 x_1, T.int IntKind.i64 x.num, T.str x.text, T.nilp, T.nilp] (0 : Nat)), V.t (T.seq (3 : Nat) (List.map Ex.ce r))]) []) (show (x.kind) = ((2 : Int)) by assumption)).trans (congrArg (fun x_1 => Out.val (V.tup [V.t (T.ptr [T.int IntKind.i64 (2 : Int), T.int IntKind.i64 x_1, T.str x.text, T.nilp, T.nilp] (0 : Nat)), V.t (T.seq (3 : Nat) (List.map Ex.ce r))]) []) (show (x.num) = ((0 : Int)) by assumption))).trans (show (Out.val (V.tup [V.t (T.ptr [T.int IntKind.i64 (2 : Int), T.int IntKind.i64 (0 : Int), T.str x.text, T.nilp, T.nilp] (0 : Nat)), V.t (T.seq (3 : Nat) (List.map Ex.ce r))]) []) = Out.val (outP (readE (n + (1 : Nat)) (x :: r))) [] by simp [readE, outP, exs, sl, E.tp, E.tab, *]))
          · let t15 : Tp pr := .b (show (decide (x.num = (0 : Int))) = false by simpa using hc15)
            exact .tpe [t0, .b (rfl : false = false), .m (rfl : true = true), t3, .m (rfl : true = true), .m (rfl : true = true), .m (rfl : true = true), t7, t8, .m (rfl : true = true), .m (rfl : true = true), .m (rfl : true = true), .m (rfl : true = true), t13, t14, t15, .b (rfl : true = true)] (Out.val (V.tup [V.t T.nilp, V.t (T.seq (3 : Nat) [])]) []) (by kernel_rfl) ((rfl).trans (show (Out.val (V.tup [V.t T.nilp, V.t (T.seq (3 : Nat) [])]) []) = Out.val (outP (readE (n + (1 : Nat)) (x :: r))) [] by simp [readE, outP, exs, sl, E.tp, E.tab, *]))
        · let t14 : Tp pr := .b (show (decide (x.kind = (2 : Int))) = false by simpa using hc14)
          by_cases hc15 : x.kind = (3 : Int)
          · let t15 : Tp pr := .b (show (decide (x.kind = (3 : Int))) = true by simpa using hc15)
            let t16 : Tp pr := .b (show (decide (x.kind = (3 : Int))) = true by (simp; omega))
            exact .tpe [t0, .b (rfl : false = false), .m (rfl : true = true), t3, .m (rfl : true = true), .m (rfl : true = true), .m (rfl : true = true), t7, t8, .m (rfl : true = true), .m (rfl : true = true), .m (rfl : true = true), .m (rfl : true = true), t13, t14, t15, t16, .a (ih1), .b (rfl : false = false), .b (rfl : false = false), .b (rfl : true = true)] (Out.val (V.tup [V.t T.nilp, V.t (T.seq (3 : Nat) [])]) []) (by kernel_rfl) ((rfl).trans (show (Out.val (V.tup [V.t T.nilp, V.t (T.seq (3 : Nat) [])]) []) = Out.val (outP (readE (n + (1 : Nat)) (x :: r))) [] by simp [readE, outP, exs, sl, E.tp, E.tab, *]))
          · let t15 : Tp pr := .b (show (decide (x.kind = (3 : Int))) = false by simpa using hc15)
            by_cases hc16 : x.kind = (4 : Int)
            · let t16 : Tp pr := .b (show (decide (x.kind = (4 : Int))) = true by simpa using hc16)
              exact .tpe [t0, .b (rfl : false = false), .m (rfl : true = true), t3, .m (rfl : true = true), .m (rfl : true = true), .m (rfl : true = true), t7, t8, .m (rfl : true = true), .m (rfl : true = true), .m (rfl : true = true), .m (rfl : true = true), t13, t14, t15, t16, .a (ih1), .b (rfl : false = false), .b (rfl : false = false), .b (rfl : true = true)] (Out.val (V.tup [V.t T.nilp, V.t (T.seq (3 : Nat) [])]) []) (by kernel_rfl) ((rfl).trans (show (Out.val (V.tup [V.t T.nilp, V.t (T.seq (3 : Nat) [])]) []) = Out.val (outP (readE (n + (1 : Nat)) (x :: r))) [] by simp [readE, outP, exs, sl, E.tp, E.tab, *]))
            · let t16 : Tp pr := .b (show (decide (x.kind = (4 : Int))) = false by simpa using hc16)
              by_cases hc17 : x.kind = (5 : Int)
              · let t17 : Tp pr := .b (show (decide (x.kind = (5 : Int))) = true by simpa using hc17)
                exact .tpe [t0, .b (rfl : false = false), .m (rfl : true = true), t3, .m (rfl : true = true), .m (rfl : true = true), .m (rfl : true = true), t7, t8, .m (rfl : true = true), .m (rfl : true = true), .m (rfl : true = true), .m (rfl : true = true), t13, t14, t15, t16, t17, .a (ih1), .b (rfl : true = true)] (Out.val (V.tup [V.t T.nilp, V.t (T.seq (3 : Nat) [])]) []) (by kernel_rfl) ((rfl).trans (show (Out.val (V.tup [V.t T.nilp, V.t (T.seq (3 : Nat) [])]) []) = Out.val (outP (readE (n + (1 : Nat)) (x :: r))) [] by simp [readE, outP, exs, sl, E.tp, E.tab, *]))
              · let t17 : Tp pr := .b (show (decide (x.kind = (5 : Int))) = false by simpa using hc17)
                exact .tpe [t0, .b (rfl : false = false), .m (rfl : true = true), t3, .m (rfl : true = true), .m (rfl : true = true), .m (rfl : true = true), t7, t8, .m (rfl : true = true), .m (rfl : true = true), .m (rfl : true = true), .m (rfl : true = true), t13, t14, t15, t16, t17, .b (rfl : true = true)] (Out.val (V.tup [V.t T.nilp, V.t (T.seq (3 : Nat) [])]) []) (by kernel_rfl) ((rfl).trans (show (Out.val (V.tup [V.t T.nilp, V.t (T.seq (3 : Nat) [])]) []) = Out.val (outP (readE (n + (1 : Nat)) (x :: r))) [] by simp [readE, outP, exs, sl, E.tp, E.tab, *]))
    | some p =>
      obtain ⟨a, r1⟩ := p
      have hr := readE_lt _ _ _ _ h1
      have ih2 := exprFrom_ev n r1 (by simp at hn; omega) (by simp at hl; omega) (fun y hy => hs y (by simp [readE_mem h1 y hy]))
      rw [h1] at ih1
      cases h2 : readE n r1 with
      | none =>
        rw [h2] at ih2
        let t0 : Tp pr := .i (show ((↑(List.map Ex.ce (x :: r)).length : Int) : Int) = (↑r.length : Int) + (1 : Int) by simp)
        let t3 : Tp pr := .g .row (show (lkp (List.map Ex.ce (x :: r)) (0 : Int)) = some (x.ce) by simp)
        let t7 : Tp pr := .m (show (decide ((0 : Int) ≤ (1 : Int) ∧ (1 : Int) ≤ (↑(List.map Ex.ce (x :: r)).length : Int) ∧ (↑(List.map Ex.ce (x :: r)).length : Int) ≤ (↑(List.map Ex.ce (x :: r)).length : Int))) = true by (simp; omega))
        let t8 : Tp pr := .n .rows (show (List.take ((↑(List.map Ex.ce (x :: r)).length : Int).toNat - (1 : Nat)) (List.drop (1 : Nat) (List.map Ex.ce (x :: r)))) = List.map Ex.ce r by simp)
        by_cases hc13 : x.kind = (1 : Int)
        · let t13 : Tp pr := .b (show (decide (x.kind = (1 : Int))) = true by simpa using hc13)
          let t14 : Tp pr := .a (within_ev (x.num) ((0 : Int)) ((999999999 : Int)))
          by_cases hc15 : (0 : Int) ≤ x.num ∧ x.num ≤ (999999999 : Int)
          · let t15 : Tp pr := .b (show (decide (x.num ≥ (0 : Int)) && decide (x.num ≤ (999999999 : Int))) = true by simpa using hc15)
            by_cases hc16 : x.text = e0
            · let t16 : Tp pr := .b (show (!x.text.toList == []) = false by simpa using hc16)
              exact .tpe [t0, .b (rfl : false = false), .m (rfl : true = true), t3, .m (rfl : true = true), .m (rfl : true = true), .m (rfl : true = true), t7, t8, .m (rfl : true = true), .m (rfl : true = true), .m (rfl : true = true), .m (rfl : true = true), t13, t14, t15, t16] (Out.val (V.tup [V.t (T.ptr [T.int IntKind.i64 x.kind, T.int IntKind.i64 x.num, T.str x.text, T.nilp, T.nilp] (0 : Nat)), V.t (T.seq (3 : Nat) (List.map Ex.ce r))]) []) (by kernel_rfl) (((congrArg (fun x_1 => Out.val (V.tup [V.t (T.ptr [T.int IntKind.i64 x_1, T.int IntKind.i64 x.num, T.str x.text, T.nilp, T.nilp] (0 : Nat)), V.t (T.seq (3 : Nat) (List.map Ex.ce r))]) []) (show (x.kind) = ((1 : Int)) by assumption)).trans (congrArg (fun x_1 => Out.val (V.tup [V.t (T.ptr [T.int IntKind.i64 (1 : Int), T.int IntKind.i64 x.num, T.str x_1, T.nilp, T.nilp] (0 : Nat)), V.t (T.seq (3 : Nat) (List.map Ex.ce r))]) []) (show (x.text) = (ByteArray.mk #[]) by assumption))).trans (show (Out.val (V.tup [V.t (T.ptr [T.int IntKind.i64 (1 : Int), T.int IntKind.i64 x.num, T.str (ByteArray.mk #[]), T.nilp, T.nilp] (0 : Nat)), V.t (T.seq (3 : Nat) (List.map Ex.ce r))]) []) = Out.val (outP (readE (n + (1 : Nat)) (x :: r))) [] by simp [readE, outP, exs, sl, E.tp, E.tab, *]))
            · let t16 : Tp pr := .b (show (!x.text.toList == []) = true by simpa using hc16)
              exact .tpe [t0, .b (rfl : false = false), .m (rfl : true = true), t3, .m (rfl : true = true), .m (rfl : true = true), .m (rfl : true = true), t7, t8, .m (rfl : true = true), .m (rfl : true = true), .m (rfl : true = true), .m (rfl : true = true), t13, t14, t15, t16] (Out.val (V.tup [V.t T.nilp, V.t (T.seq (3 : Nat) [])]) []) (by kernel_rfl) ((rfl).trans (show (Out.val (V.tup [V.t T.nilp, V.t (T.seq (3 : Nat) [])]) []) = Out.val (outP (readE (n + (1 : Nat)) (x :: r))) [] by simp [readE, outP, exs, sl, E.tp, E.tab, *]))
          · let t15 : Tp pr := .b (show (decide (x.num ≥ (0 : Int)) && decide (x.num ≤ (999999999 : Int))) = false by simpa using hc15)
            exact .tpe [t0, .b (rfl : false = false), .m (rfl : true = true), t3, .m (rfl : true = true), .m (rfl : true = true), .m (rfl : true = true), t7, t8, .m (rfl : true = true), .m (rfl : true = true), .m (rfl : true = true), .m (rfl : true = true), t13, t14, t15, .b (rfl : true = true)] (Out.val (V.tup [V.t T.nilp, V.t (T.seq (3 : Nat) [])]) []) (by kernel_rfl) ((rfl).trans (show (Out.val (V.tup [V.t T.nilp, V.t (T.seq (3 : Nat) [])]) []) = Out.val (outP (readE (n + (1 : Nat)) (x :: r))) [] by simp [readE, outP, exs, sl, E.tp, E.tab, *]))
        · let t13 : Tp pr := .b (show (decide (x.kind = (1 : Int))) = false by simpa using hc13)
          by_cases hc14 : x.kind = (2 : Int)
          · let t14 : Tp pr := .b (show (decide (x.kind = (2 : Int))) = true by simpa using hc14)
            by_cases hc15 : x.num = (0 : Int)
            · let t15 : Tp pr := .b (show (decide (x.num = (0 : Int))) = true by simpa using hc15)
              by_cases hc17 : nameOk x.text = false
              · let t17 : Tp pr := .b (show (!nameOk x.text) = true by simpa using hc17)
                exact .tpe [t0, .b (rfl : false = false), .m (rfl : true = true), t3, .m (rfl : true = true), .m (rfl : true = true), .m (rfl : true = true), t7, t8, .m (rfl : true = true), .m (rfl : true = true), .m (rfl : true = true), .m (rfl : true = true), t13, t14, t15, .a (nameOk_ev (x.text) (by assumption)), t17] (Out.val (V.tup [V.t T.nilp, V.t (T.seq (3 : Nat) [])]) []) (by kernel_rfl) ((rfl).trans (show (Out.val (V.tup [V.t T.nilp, V.t (T.seq (3 : Nat) [])]) []) = Out.val (outP (readE (n + (1 : Nat)) (x :: r))) [] by simp [readE, outP, exs, sl, E.tp, E.tab, *]))
              · let t17 : Tp pr := .b (show (!nameOk x.text) = false by simpa using hc17)
                exact .tpe [t0, .b (rfl : false = false), .m (rfl : true = true), t3, .m (rfl : true = true), .m (rfl : true = true), .m (rfl : true = true), t7, t8, .m (rfl : true = true), .m (rfl : true = true), .m (rfl : true = true), .m (rfl : true = true), t13, t14, t15, .a (nameOk_ev (x.text) (by assumption)), t17] (Out.val (V.tup [V.t (T.ptr [T.int IntKind.i64 x.kind, T.int IntKind.i64 x.num, T.str x.text, T.nilp, T.nilp] (0 : Nat)), V.t (T.seq (3 : Nat) (List.map Ex.ce r))]) []) (by kernel_rfl) (((congrArg (fun x_1 => Out.val (V.tup [V.t (T.ptr [T.int IntKind.i64 x_1, T.int IntKind.i64 x.num, T.str x.text, T.nilp, T.nilp] (0 : Nat)), V.t (T.seq (3 : Nat) (List.map Ex.ce r))]) []) (show (x.kind) = ((2 : Int)) by assumption)).trans (congrArg (fun x_1 => Out.val (V.tup [V.t (T.ptr [T.int IntKind.i64 (2 : Int), T.int IntKind.i64 x_1, T.str x.text, T.nilp, T.nilp] (0 : Nat)), V.t (T.seq (3 : Nat) (List.map Ex.ce r))]) []) (show (x.num) = ((0 : Int)) by assumption))).trans (show (Out.val (V.tup [V.t (T.ptr [T.int IntKind.i64 (2 : Int), T.int IntKind.i64 (0 : Int), T.str x.text, T.nilp, T.nilp] (0 : Nat)), V.t (T.seq (3 : Nat) (List.map Ex.ce r))]) []) = Out.val (outP (readE (n + (1 : Nat)) (x :: r))) [] by simp [readE, outP, exs, sl, E.tp, E.tab, *]))
            · let t15 : Tp pr := .b (show (decide (x.num = (0 : Int))) = false by simpa using hc15)
              exact .tpe [t0, .b (rfl : false = false), .m (rfl : true = true), t3, .m (rfl : true = true), .m (rfl : true = true), .m (rfl : true = true), t7, t8, .m (rfl : true = true), .m (rfl : true = true), .m (rfl : true = true), .m (rfl : true = true), t13, t14, t15, .b (rfl : true = true)] (Out.val (V.tup [V.t T.nilp, V.t (T.seq (3 : Nat) [])]) []) (by kernel_rfl) ((rfl).trans (show (Out.val (V.tup [V.t T.nilp, V.t (T.seq (3 : Nat) [])]) []) = Out.val (outP (readE (n + (1 : Nat)) (x :: r))) [] by simp [readE, outP, exs, sl, E.tp, E.tab, *]))
          · let t14 : Tp pr := .b (show (decide (x.kind = (2 : Int))) = false by simpa using hc14)
            by_cases hc15 : x.kind = (3 : Int)
            · let t15 : Tp pr := .b (show (decide (x.kind = (3 : Int))) = true by simpa using hc15)
              let t16 : Tp pr := .b (show (decide (x.kind = (3 : Int))) = true by (simp; omega))
              by_cases hc19 : x.num = (0 : Int)
              · let t19 : Tp pr := .b (show (decide (x.num = (0 : Int))) = true by simpa using hc19)
                by_cases hc20 : x.text = e0
                · let t20 : Tp pr := .b (show (!x.text.toList == []) = false by simpa using hc20)
                  exact .tpe [t0, .b (rfl : false = false), .m (rfl : true = true), t3, .m (rfl : true = true), .m (rfl : true = true), .m (rfl : true = true), t7, t8, .m (rfl : true = true), .m (rfl : true = true), .m (rfl : true = true), .m (rfl : true = true), t13, t14, t15, t16, .a (ih1), .b (rfl : true = true), t19, t20] (Out.val (V.tup [V.t (T.ptr [T.int IntKind.i64 x.kind, T.int IntKind.i64 x.num, T.str x.text, T.ptr [T.int IntKind.i64 a.kind, T.int IntKind.i64 a.nm, T.str a.text, a.tab.fst, a.tab.snd] (0 : Nat), T.nilp] (0 : Nat)), V.t (T.seq (3 : Nat) (List.map Ex.ce r1))]) []) (by kernel_rfl) ((((congrArg (fun x_1 => Out.val (V.tup [V.t (T.ptr [T.int IntKind.i64 x_1, T.int IntKind.i64 x.num, T.str x.text, T.ptr [T.int IntKind.i64 a.kind, T.int IntKind.i64 a.nm, T.str a.text, a.tab.fst, a.tab.snd] (0 : Nat), T.nilp] (0 : Nat)), V.t (T.seq (3 : Nat) (List.map Ex.ce r1))]) []) (show (x.kind) = ((3 : Int)) by assumption)).trans (congrArg (fun x_1 => Out.val (V.tup [V.t (T.ptr [T.int IntKind.i64 (3 : Int), T.int IntKind.i64 x_1, T.str x.text, T.ptr [T.int IntKind.i64 a.kind, T.int IntKind.i64 a.nm, T.str a.text, a.tab.fst, a.tab.snd] (0 : Nat), T.nilp] (0 : Nat)), V.t (T.seq (3 : Nat) (List.map Ex.ce r1))]) []) (show (x.num) = ((0 : Int)) by assumption))).trans (congrArg (fun x => Out.val (V.tup [V.t (T.ptr [T.int IntKind.i64 (3 : Int), T.int IntKind.i64 (0 : Int), T.str x, T.ptr [T.int IntKind.i64 a.kind, T.int IntKind.i64 a.nm, T.str a.text, a.tab.fst, a.tab.snd] (0 : Nat), T.nilp] (0 : Nat)), V.t (T.seq (3 : Nat) (List.map Ex.ce r1))]) []) (show (x.text) = (ByteArray.mk #[]) by assumption))).trans (show (Out.val (V.tup [V.t (T.ptr [T.int IntKind.i64 (3 : Int), T.int IntKind.i64 (0 : Int), T.str (ByteArray.mk #[]), T.ptr [T.int IntKind.i64 a.kind, T.int IntKind.i64 a.nm, T.str a.text, a.tab.fst, a.tab.snd] (0 : Nat), T.nilp] (0 : Nat)), V.t (T.seq (3 : Nat) (List.map Ex.ce r1))]) []) = Out.val (outP (readE (n + (1 : Nat)) (x :: r))) [] by simp [readE, outP, exs, sl, E.tp, E.tab, *]))
                · let t20 : Tp pr := .b (show (!x.text.toList == []) = true by simpa using hc20)
                  exact .tpe [t0, .b (rfl : false = false), .m (rfl : true = true), t3, .m (rfl : true = true), .m (rfl : true = true), .m (rfl : true = true), t7, t8, .m (rfl : true = true), .m (rfl : true = true), .m (rfl : true = true), .m (rfl : true = true), t13, t14, t15, t16, .a (ih1), .b (rfl : true = true), t19, t20] (Out.val (V.tup [V.t T.nilp, V.t (T.seq (3 : Nat) [])]) []) (by kernel_rfl) ((rfl).trans (show (Out.val (V.tup [V.t T.nilp, V.t (T.seq (3 : Nat) [])]) []) = Out.val (outP (readE (n + (1 : Nat)) (x :: r))) [] by simp [readE, outP, exs, sl, E.tp, E.tab, *]))
              · let t19 : Tp pr := .b (show (decide (x.num = (0 : Int))) = false by simpa using hc19)
                exact .tpe [t0, .b (rfl : false = false), .m (rfl : true = true), t3, .m (rfl : true = true), .m (rfl : true = true), .m (rfl : true = true), t7, t8, .m (rfl : true = true), .m (rfl : true = true), .m (rfl : true = true), .m (rfl : true = true), t13, t14, t15, t16, .a (ih1), .b (rfl : true = true), t19, .b (rfl : true = true)] (Out.val (V.tup [V.t T.nilp, V.t (T.seq (3 : Nat) [])]) []) (by kernel_rfl) ((rfl).trans (show (Out.val (V.tup [V.t T.nilp, V.t (T.seq (3 : Nat) [])]) []) = Out.val (outP (readE (n + (1 : Nat)) (x :: r))) [] by simp [readE, outP, exs, sl, E.tp, E.tab, *]))
            · let t15 : Tp pr := .b (show (decide (x.kind = (3 : Int))) = false by simpa using hc15)
              by_cases hc16 : x.kind = (4 : Int)
              · let t16 : Tp pr := .b (show (decide (x.kind = (4 : Int))) = true by simpa using hc16)
                by_cases hc19 : x.num = (0 : Int)
                · let t19 : Tp pr := .b (show (decide (x.num = (0 : Int))) = true by simpa using hc19)
                  by_cases hc20 : x.text = e0
                  · let t20 : Tp pr := .b (show (!x.text.toList == []) = false by simpa using hc20)
                    exact .tpe [t0, .b (rfl : false = false), .m (rfl : true = true), t3, .m (rfl : true = true), .m (rfl : true = true), .m (rfl : true = true), t7, t8, .m (rfl : true = true), .m (rfl : true = true), .m (rfl : true = true), .m (rfl : true = true), t13, t14, t15, t16, .a (ih1), .b (rfl : true = true), t19, t20] (Out.val (V.tup [V.t (T.ptr [T.int IntKind.i64 x.kind, T.int IntKind.i64 x.num, T.str x.text, T.ptr [T.int IntKind.i64 a.kind, T.int IntKind.i64 a.nm, T.str a.text, a.tab.fst, a.tab.snd] (0 : Nat), T.nilp] (0 : Nat)), V.t (T.seq (3 : Nat) (List.map Ex.ce r1))]) []) (by kernel_rfl) ((((congrArg (fun x_1 => Out.val (V.tup [V.t (T.ptr [T.int IntKind.i64 x_1, T.int IntKind.i64 x.num, T.str x.text, T.ptr [T.int IntKind.i64 a.kind, T.int IntKind.i64 a.nm, T.str a.text, a.tab.fst, a.tab.snd] (0 : Nat), T.nilp] (0 : Nat)), V.t (T.seq (3 : Nat) (List.map Ex.ce r1))]) []) (show (x.kind) = ((4 : Int)) by assumption)).trans (congrArg (fun x_1 => Out.val (V.tup [V.t (T.ptr [T.int IntKind.i64 (4 : Int), T.int IntKind.i64 x_1, T.str x.text, T.ptr [T.int IntKind.i64 a.kind, T.int IntKind.i64 a.nm, T.str a.text, a.tab.fst, a.tab.snd] (0 : Nat), T.nilp] (0 : Nat)), V.t (T.seq (3 : Nat) (List.map Ex.ce r1))]) []) (show (x.num) = ((0 : Int)) by assumption))).trans (congrArg (fun x => Out.val (V.tup [V.t (T.ptr [T.int IntKind.i64 (4 : Int), T.int IntKind.i64 (0 : Int), T.str x, T.ptr [T.int IntKind.i64 a.kind, T.int IntKind.i64 a.nm, T.str a.text, a.tab.fst, a.tab.snd] (0 : Nat), T.nilp] (0 : Nat)), V.t (T.seq (3 : Nat) (List.map Ex.ce r1))]) []) (show (x.text) = (ByteArray.mk #[]) by assumption))).trans (show (Out.val (V.tup [V.t (T.ptr [T.int IntKind.i64 (4 : Int), T.int IntKind.i64 (0 : Int), T.str (ByteArray.mk #[]), T.ptr [T.int IntKind.i64 a.kind, T.int IntKind.i64 a.nm, T.str a.text, a.tab.fst, a.tab.snd] (0 : Nat), T.nilp] (0 : Nat)), V.t (T.seq (3 : Nat) (List.map Ex.ce r1))]) []) = Out.val (outP (readE (n + (1 : Nat)) (x :: r))) [] by simp [readE, outP, exs, sl, E.tp, E.tab, *]))
                  · let t20 : Tp pr := .b (show (!x.text.toList == []) = true by simpa using hc20)
                    exact .tpe [t0, .b (rfl : false = false), .m (rfl : true = true), t3, .m (rfl : true = true), .m (rfl : true = true), .m (rfl : true = true), t7, t8, .m (rfl : true = true), .m (rfl : true = true), .m (rfl : true = true), .m (rfl : true = true), t13, t14, t15, t16, .a (ih1), .b (rfl : true = true), t19, t20] (Out.val (V.tup [V.t T.nilp, V.t (T.seq (3 : Nat) [])]) []) (by kernel_rfl) ((rfl).trans (show (Out.val (V.tup [V.t T.nilp, V.t (T.seq (3 : Nat) [])]) []) = Out.val (outP (readE (n + (1 : Nat)) (x :: r))) [] by simp [readE, outP, exs, sl, E.tp, E.tab, *]))
                · let t19 : Tp pr := .b (show (decide (x.num = (0 : Int))) = false by simpa using hc19)
                  exact .tpe [t0, .b (rfl : false = false), .m (rfl : true = true), t3, .m (rfl : true = true), .m (rfl : true = true), .m (rfl : true = true), t7, t8, .m (rfl : true = true), .m (rfl : true = true), .m (rfl : true = true), .m (rfl : true = true), t13, t14, t15, t16, .a (ih1), .b (rfl : true = true), t19, .b (rfl : true = true)] (Out.val (V.tup [V.t T.nilp, V.t (T.seq (3 : Nat) [])]) []) (by kernel_rfl) ((rfl).trans (show (Out.val (V.tup [V.t T.nilp, V.t (T.seq (3 : Nat) [])]) []) = Out.val (outP (readE (n + (1 : Nat)) (x :: r))) [] by simp [readE, outP, exs, sl, E.tp, E.tab, *]))
              · let t16 : Tp pr := .b (show (decide (x.kind = (4 : Int))) = false by simpa using hc16)
                by_cases hc17 : x.kind = (5 : Int)
                · let t17 : Tp pr := .b (show (decide (x.kind = (5 : Int))) = true by simpa using hc17)
                  exact .tpe [t0, .b (rfl : false = false), .m (rfl : true = true), t3, .m (rfl : true = true), .m (rfl : true = true), .m (rfl : true = true), t7, t8, .m (rfl : true = true), .m (rfl : true = true), .m (rfl : true = true), .m (rfl : true = true), t13, t14, t15, t16, t17, .a (ih1), .b (rfl : false = false), .a (ih2), .a (StrengthOf_ev (x.text)), .b (rfl : false = false), .b (rfl : false = false), .b (rfl : true = true)] (Out.val (V.tup [V.t T.nilp, V.t (T.seq (3 : Nat) [])]) []) (by kernel_rfl) ((rfl).trans (show (Out.val (V.tup [V.t T.nilp, V.t (T.seq (3 : Nat) [])]) []) = Out.val (outP (readE (n + (1 : Nat)) (x :: r))) [] by simp [readE, outP, exs, sl, E.tp, E.tab, *]))
                · let t17 : Tp pr := .b (show (decide (x.kind = (5 : Int))) = false by simpa using hc17)
                  exact .tpe [t0, .b (rfl : false = false), .m (rfl : true = true), t3, .m (rfl : true = true), .m (rfl : true = true), .m (rfl : true = true), t7, t8, .m (rfl : true = true), .m (rfl : true = true), .m (rfl : true = true), .m (rfl : true = true), t13, t14, t15, t16, t17, .b (rfl : true = true)] (Out.val (V.tup [V.t T.nilp, V.t (T.seq (3 : Nat) [])]) []) (by kernel_rfl) ((rfl).trans (show (Out.val (V.tup [V.t T.nilp, V.t (T.seq (3 : Nat) [])]) []) = Out.val (outP (readE (n + (1 : Nat)) (x :: r))) [] by simp [readE, outP, exs, sl, E.tp, E.tab, *]))
      | some q =>
        obtain ⟨b, r2⟩ := q
        rw [h2] at ih2
        let t0 : Tp pr := .i (show ((↑(List.map Ex.ce (x :: r)).length : Int) : Int) = (↑r.length : Int) + (1 : Int) by simp)
        let t3 : Tp pr := .g .row (show (lkp (List.map Ex.ce (x :: r)) (0 : Int)) = some (x.ce) by simp)
        let t7 : Tp pr := .m (show (decide ((0 : Int) ≤ (1 : Int) ∧ (1 : Int) ≤ (↑(List.map Ex.ce (x :: r)).length : Int) ∧ (↑(List.map Ex.ce (x :: r)).length : Int) ≤ (↑(List.map Ex.ce (x :: r)).length : Int))) = true by (simp; omega))
        let t8 : Tp pr := .n .rows (show (List.take ((↑(List.map Ex.ce (x :: r)).length : Int).toNat - (1 : Nat)) (List.drop (1 : Nat) (List.map Ex.ce (x :: r)))) = List.map Ex.ce r by simp)
        by_cases hc13 : x.kind = (1 : Int)
        · let t13 : Tp pr := .b (show (decide (x.kind = (1 : Int))) = true by simpa using hc13)
          let t14 : Tp pr := .a (within_ev (x.num) ((0 : Int)) ((999999999 : Int)))
          by_cases hc15 : (0 : Int) ≤ x.num ∧ x.num ≤ (999999999 : Int)
          · let t15 : Tp pr := .b (show (decide (x.num ≥ (0 : Int)) && decide (x.num ≤ (999999999 : Int))) = true by simpa using hc15)
            by_cases hc16 : x.text = e0
            · let t16 : Tp pr := .b (show (!x.text.toList == []) = false by simpa using hc16)
              exact .tpe [t0, .b (rfl : false = false), .m (rfl : true = true), t3, .m (rfl : true = true), .m (rfl : true = true), .m (rfl : true = true), t7, t8, .m (rfl : true = true), .m (rfl : true = true), .m (rfl : true = true), .m (rfl : true = true), t13, t14, t15, t16] (Out.val (V.tup [V.t (T.ptr [T.int IntKind.i64 x.kind, T.int IntKind.i64 x.num, T.str x.text, T.nilp, T.nilp] (0 : Nat)), V.t (T.seq (3 : Nat) (List.map Ex.ce r))]) []) (by kernel_rfl) (((congrArg (fun x_1 => Out.val (V.tup [V.t (T.ptr [T.int IntKind.i64 x_1, T.int IntKind.i64 x.num, T.str x.text, T.nilp, T.nilp] (0 : Nat)), V.t (T.seq (3 : Nat) (List.map Ex.ce r))]) []) (show (x.kind) = ((1 : Int)) by assumption)).trans (congrArg (fun x_1 => Out.val (V.tup [V.t (T.ptr [T.int IntKind.i64 (1 : Int), T.int IntKind.i64 x.num, T.str x_1, T.nilp, T.nilp] (0 : Nat)), V.t (T.seq (3 : Nat) (List.map Ex.ce r))]) []) (show (x.text) = (ByteArray.mk #[]) by assumption))).trans (show (Out.val (V.tup [V.t (T.ptr [T.int IntKind.i64 (1 : Int), T.int IntKind.i64 x.num, T.str (ByteArray.mk #[]), T.nilp, T.nilp] (0 : Nat)), V.t (T.seq (3 : Nat) (List.map Ex.ce r))]) []) = Out.val (outP (readE (n + (1 : Nat)) (x :: r))) [] by simp [readE, outP, exs, sl, E.tp, E.tab, *]))
            · let t16 : Tp pr := .b (show (!x.text.toList == []) = true by simpa using hc16)
              exact .tpe [t0, .b (rfl : false = false), .m (rfl : true = true), t3, .m (rfl : true = true), .m (rfl : true = true), .m (rfl : true = true), t7, t8, .m (rfl : true = true), .m (rfl : true = true), .m (rfl : true = true), .m (rfl : true = true), t13, t14, t15, t16] (Out.val (V.tup [V.t T.nilp, V.t (T.seq (3 : Nat) [])]) []) (by kernel_rfl) ((rfl).trans (show (Out.val (V.tup [V.t T.nilp, V.t (T.seq (3 : Nat) [])]) []) = Out.val (outP (readE (n + (1 : Nat)) (x :: r))) [] by simp [readE, outP, exs, sl, E.tp, E.tab, *]))
          · let t15 : Tp pr := .b (show (decide (x.num ≥ (0 : Int)) && decide (x.num ≤ (999999999 : Int))) = false by simpa using hc15)
            exact .tpe [t0, .b (rfl : false = false), .m (rfl : true = true), t3, .m (rfl : true = true), .m (rfl : true = true), .m (rfl : true = true), t7, t8, .m (rfl : true = true), .m (rfl : true = true), .m (rfl : true = true), .m (rfl : true = true), t13, t14, t15, .b (rfl : true = true)] (Out.val (V.tup [V.t T.nilp, V.t (T.seq (3 : Nat) [])]) []) (by kernel_rfl) ((rfl).trans (show (Out.val (V.tup [V.t T.nilp, V.t (T.seq (3 : Nat) [])]) []) = Out.val (outP (readE (n + (1 : Nat)) (x :: r))) [] by simp [readE, outP, exs, sl, E.tp, E.tab, *]))
        · let t13 : Tp pr := .b (show (decide (x.kind = (1 : Int))) = false by simpa using hc13)
          by_cases hc14 : x.kind = (2 : Int)
          · let t14 : Tp pr := .b (show (decide (x.kind = (2 : Int))) = true by simpa using hc14)
            by_cases hc15 : x.num = (0 : Int)
            · let t15 : Tp pr := .b (show (decide (x.num = (0 : Int))) = true by simpa using hc15)
              by_cases hc17 : nameOk x.text = false
              · let t17 : Tp pr := .b (show (!nameOk x.text) = true by simpa using hc17)
                exact .tpe [t0, .b (rfl : false = false), .m (rfl : true = true), t3, .m (rfl : true = true), .m (rfl : true = true), .m (rfl : true = true), t7, t8, .m (rfl : true = true), .m (rfl : true = true), .m (rfl : true = true), .m (rfl : true = true), t13, t14, t15, .a (nameOk_ev (x.text) (by assumption)), t17] (Out.val (V.tup [V.t T.nilp, V.t (T.seq (3 : Nat) [])]) []) (by kernel_rfl) ((rfl).trans (show (Out.val (V.tup [V.t T.nilp, V.t (T.seq (3 : Nat) [])]) []) = Out.val (outP (readE (n + (1 : Nat)) (x :: r))) [] by simp [readE, outP, exs, sl, E.tp, E.tab, *]))
              · let t17 : Tp pr := .b (show (!nameOk x.text) = false by simpa using hc17)
                exact .tpe [t0, .b (rfl : false = false), .m (rfl : true = true), t3, .m (rfl : true = true), .m (rfl : true = true), .m (rfl : true = true), t7, t8, .m (rfl : true = true), .m (rfl : true = true), .m (rfl : true = true), .m (rfl : true = true), t13, t14, t15, .a (nameOk_ev (x.text) (by assumption)), t17] (Out.val (V.tup [V.t (T.ptr [T.int IntKind.i64 x.kind, T.int IntKind.i64 x.num, T.str x.text, T.nilp, T.nilp] (0 : Nat)), V.t (T.seq (3 : Nat) (List.map Ex.ce r))]) []) (by kernel_rfl) (((congrArg (fun x_1 => Out.val (V.tup [V.t (T.ptr [T.int IntKind.i64 x_1, T.int IntKind.i64 x.num, T.str x.text, T.nilp, T.nilp] (0 : Nat)), V.t (T.seq (3 : Nat) (List.map Ex.ce r))]) []) (show (x.kind) = ((2 : Int)) by assumption)).trans (congrArg (fun x_1 => Out.val (V.tup [V.t (T.ptr [T.int IntKind.i64 (2 : Int), T.int IntKind.i64 x_1, T.str x.text, T.nilp, T.nilp] (0 : Nat)), V.t (T.seq (3 : Nat) (List.map Ex.ce r))]) []) (show (x.num) = ((0 : Int)) by assumption))).trans (show (Out.val (V.tup [V.t (T.ptr [T.int IntKind.i64 (2 : Int), T.int IntKind.i64 (0 : Int), T.str x.text, T.nilp, T.nilp] (0 : Nat)), V.t (T.seq (3 : Nat) (List.map Ex.ce r))]) []) = Out.val (outP (readE (n + (1 : Nat)) (x :: r))) [] by simp [readE, outP, exs, sl, E.tp, E.tab, *]))
            · let t15 : Tp pr := .b (show (decide (x.num = (0 : Int))) = false by simpa using hc15)
              exact .tpe [t0, .b (rfl : false = false), .m (rfl : true = true), t3, .m (rfl : true = true), .m (rfl : true = true), .m (rfl : true = true), t7, t8, .m (rfl : true = true), .m (rfl : true = true), .m (rfl : true = true), .m (rfl : true = true), t13, t14, t15, .b (rfl : true = true)] (Out.val (V.tup [V.t T.nilp, V.t (T.seq (3 : Nat) [])]) []) (by kernel_rfl) ((rfl).trans (show (Out.val (V.tup [V.t T.nilp, V.t (T.seq (3 : Nat) [])]) []) = Out.val (outP (readE (n + (1 : Nat)) (x :: r))) [] by simp [readE, outP, exs, sl, E.tp, E.tab, *]))
          · let t14 : Tp pr := .b (show (decide (x.kind = (2 : Int))) = false by simpa using hc14)
            by_cases hc15 : x.kind = (3 : Int)
            · let t15 : Tp pr := .b (show (decide (x.kind = (3 : Int))) = true by simpa using hc15)
              let t16 : Tp pr := .b (show (decide (x.kind = (3 : Int))) = true by (simp; omega))
              by_cases hc19 : x.num = (0 : Int)
              · let t19 : Tp pr := .b (show (decide (x.num = (0 : Int))) = true by simpa using hc19)
                by_cases hc20 : x.text = e0
                · let t20 : Tp pr := .b (show (!x.text.toList == []) = false by simpa using hc20)
                  exact .tpe [t0, .b (rfl : false = false), .m (rfl : true = true), t3, .m (rfl : true = true), .m (rfl : true = true), .m (rfl : true = true), t7, t8, .m (rfl : true = true), .m (rfl : true = true), .m (rfl : true = true), .m (rfl : true = true), t13, t14, t15, t16, .a (ih1), .b (rfl : true = true), t19, t20] (Out.val (V.tup [V.t (T.ptr [T.int IntKind.i64 x.kind, T.int IntKind.i64 x.num, T.str x.text, T.ptr [T.int IntKind.i64 a.kind, T.int IntKind.i64 a.nm, T.str a.text, a.tab.fst, a.tab.snd] (0 : Nat), T.nilp] (0 : Nat)), V.t (T.seq (3 : Nat) (List.map Ex.ce r1))]) []) (by kernel_rfl) ((((congrArg (fun x_1 => Out.val (V.tup [V.t (T.ptr [T.int IntKind.i64 x_1, T.int IntKind.i64 x.num, T.str x.text, T.ptr [T.int IntKind.i64 a.kind, T.int IntKind.i64 a.nm, T.str a.text, a.tab.fst, a.tab.snd] (0 : Nat), T.nilp] (0 : Nat)), V.t (T.seq (3 : Nat) (List.map Ex.ce r1))]) []) (show (x.kind) = ((3 : Int)) by assumption)).trans (congrArg (fun x_1 => Out.val (V.tup [V.t (T.ptr [T.int IntKind.i64 (3 : Int), T.int IntKind.i64 x_1, T.str x.text, T.ptr [T.int IntKind.i64 a.kind, T.int IntKind.i64 a.nm, T.str a.text, a.tab.fst, a.tab.snd] (0 : Nat), T.nilp] (0 : Nat)), V.t (T.seq (3 : Nat) (List.map Ex.ce r1))]) []) (show (x.num) = ((0 : Int)) by assumption))).trans (congrArg (fun x => Out.val (V.tup [V.t (T.ptr [T.int IntKind.i64 (3 : Int), T.int IntKind.i64 (0 : Int), T.str x, T.ptr [T.int IntKind.i64 a.kind, T.int IntKind.i64 a.nm, T.str a.text, a.tab.fst, a.tab.snd] (0 : Nat), T.nilp] (0 : Nat)), V.t (T.seq (3 : Nat) (List.map Ex.ce r1))]) []) (show (x.text) = (ByteArray.mk #[]) by assumption))).trans (show (Out.val (V.tup [V.t (T.ptr [T.int IntKind.i64 (3 : Int), T.int IntKind.i64 (0 : Int), T.str (ByteArray.mk #[]), T.ptr [T.int IntKind.i64 a.kind, T.int IntKind.i64 a.nm, T.str a.text, a.tab.fst, a.tab.snd] (0 : Nat), T.nilp] (0 : Nat)), V.t (T.seq (3 : Nat) (List.map Ex.ce r1))]) []) = Out.val (outP (readE (n + (1 : Nat)) (x :: r))) [] by simp [readE, outP, exs, sl, E.tp, E.tab, *]))
                · let t20 : Tp pr := .b (show (!x.text.toList == []) = true by simpa using hc20)
                  exact .tpe [t0, .b (rfl : false = false), .m (rfl : true = true), t3, .m (rfl : true = true), .m (rfl : true = true), .m (rfl : true = true), t7, t8, .m (rfl : true = true), .m (rfl : true = true), .m (rfl : true = true), .m (rfl : true = true), t13, t14, t15, t16, .a (ih1), .b (rfl : true = true), t19, t20] (Out.val (V.tup [V.t T.nilp, V.t (T.seq (3 : Nat) [])]) []) (by kernel_rfl) ((rfl).trans (show (Out.val (V.tup [V.t T.nilp, V.t (T.seq (3 : Nat) [])]) []) = Out.val (outP (readE (n + (1 : Nat)) (x :: r))) [] by simp [readE, outP, exs, sl, E.tp, E.tab, *]))
              · let t19 : Tp pr := .b (show (decide (x.num = (0 : Int))) = false by simpa using hc19)
                exact .tpe [t0, .b (rfl : false = false), .m (rfl : true = true), t3, .m (rfl : true = true), .m (rfl : true = true), .m (rfl : true = true), t7, t8, .m (rfl : true = true), .m (rfl : true = true), .m (rfl : true = true), .m (rfl : true = true), t13, t14, t15, t16, .a (ih1), .b (rfl : true = true), t19, .b (rfl : true = true)] (Out.val (V.tup [V.t T.nilp, V.t (T.seq (3 : Nat) [])]) []) (by kernel_rfl) ((rfl).trans (show (Out.val (V.tup [V.t T.nilp, V.t (T.seq (3 : Nat) [])]) []) = Out.val (outP (readE (n + (1 : Nat)) (x :: r))) [] by simp [readE, outP, exs, sl, E.tp, E.tab, *]))
            · let t15 : Tp pr := .b (show (decide (x.kind = (3 : Int))) = false by simpa using hc15)
              by_cases hc16 : x.kind = (4 : Int)
              · let t16 : Tp pr := .b (show (decide (x.kind = (4 : Int))) = true by simpa using hc16)
                by_cases hc19 : x.num = (0 : Int)
                · let t19 : Tp pr := .b (show (decide (x.num = (0 : Int))) = true by simpa using hc19)
                  by_cases hc20 : x.text = e0
                  · let t20 : Tp pr := .b (show (!x.text.toList == []) = false by simpa using hc20)
                    exact .tpe [t0, .b (rfl : false = false), .m (rfl : true = true), t3, .m (rfl : true = true), .m (rfl : true = true), .m (rfl : true = true), t7, t8, .m (rfl : true = true), .m (rfl : true = true), .m (rfl : true = true), .m (rfl : true = true), t13, t14, t15, t16, .a (ih1), .b (rfl : true = true), t19, t20] (Out.val (V.tup [V.t (T.ptr [T.int IntKind.i64 x.kind, T.int IntKind.i64 x.num, T.str x.text, T.ptr [T.int IntKind.i64 a.kind, T.int IntKind.i64 a.nm, T.str a.text, a.tab.fst, a.tab.snd] (0 : Nat), T.nilp] (0 : Nat)), V.t (T.seq (3 : Nat) (List.map Ex.ce r1))]) []) (by kernel_rfl) ((((congrArg (fun x_1 => Out.val (V.tup [V.t (T.ptr [T.int IntKind.i64 x_1, T.int IntKind.i64 x.num, T.str x.text, T.ptr [T.int IntKind.i64 a.kind, T.int IntKind.i64 a.nm, T.str a.text, a.tab.fst, a.tab.snd] (0 : Nat), T.nilp] (0 : Nat)), V.t (T.seq (3 : Nat) (List.map Ex.ce r1))]) []) (show (x.kind) = ((4 : Int)) by assumption)).trans (congrArg (fun x_1 => Out.val (V.tup [V.t (T.ptr [T.int IntKind.i64 (4 : Int), T.int IntKind.i64 x_1, T.str x.text, T.ptr [T.int IntKind.i64 a.kind, T.int IntKind.i64 a.nm, T.str a.text, a.tab.fst, a.tab.snd] (0 : Nat), T.nilp] (0 : Nat)), V.t (T.seq (3 : Nat) (List.map Ex.ce r1))]) []) (show (x.num) = ((0 : Int)) by assumption))).trans (congrArg (fun x => Out.val (V.tup [V.t (T.ptr [T.int IntKind.i64 (4 : Int), T.int IntKind.i64 (0 : Int), T.str x, T.ptr [T.int IntKind.i64 a.kind, T.int IntKind.i64 a.nm, T.str a.text, a.tab.fst, a.tab.snd] (0 : Nat), T.nilp] (0 : Nat)), V.t (T.seq (3 : Nat) (List.map Ex.ce r1))]) []) (show (x.text) = (ByteArray.mk #[]) by assumption))).trans (show (Out.val (V.tup [V.t (T.ptr [T.int IntKind.i64 (4 : Int), T.int IntKind.i64 (0 : Int), T.str (ByteArray.mk #[]), T.ptr [T.int IntKind.i64 a.kind, T.int IntKind.i64 a.nm, T.str a.text, a.tab.fst, a.tab.snd] (0 : Nat), T.nilp] (0 : Nat)), V.t (T.seq (3 : Nat) (List.map Ex.ce r1))]) []) = Out.val (outP (readE (n + (1 : Nat)) (x :: r))) [] by simp [readE, outP, exs, sl, E.tp, E.tab, *]))
                  · let t20 : Tp pr := .b (show (!x.text.toList == []) = true by simpa using hc20)
                    exact .tpe [t0, .b (rfl : false = false), .m (rfl : true = true), t3, .m (rfl : true = true), .m (rfl : true = true), .m (rfl : true = true), t7, t8, .m (rfl : true = true), .m (rfl : true = true), .m (rfl : true = true), .m (rfl : true = true), t13, t14, t15, t16, .a (ih1), .b (rfl : true = true), t19, t20] (Out.val (V.tup [V.t T.nilp, V.t (T.seq (3 : Nat) [])]) []) (by kernel_rfl) ((rfl).trans (show (Out.val (V.tup [V.t T.nilp, V.t (T.seq (3 : Nat) [])]) []) = Out.val (outP (readE (n + (1 : Nat)) (x :: r))) [] by simp [readE, outP, exs, sl, E.tp, E.tab, *]))
                · let t19 : Tp pr := .b (show (decide (x.num = (0 : Int))) = false by simpa using hc19)
                  exact .tpe [t0, .b (rfl : false = false), .m (rfl : true = true), t3, .m (rfl : true = true), .m (rfl : true = true), .m (rfl : true = true), t7, t8, .m (rfl : true = true), .m (rfl : true = true), .m (rfl : true = true), .m (rfl : true = true), t13, t14, t15, t16, .a (ih1), .b (rfl : true = true), t19, .b (rfl : true = true)] (Out.val (V.tup [V.t T.nilp, V.t (T.seq (3 : Nat) [])]) []) (by kernel_rfl) ((rfl).trans (show (Out.val (V.tup [V.t T.nilp, V.t (T.seq (3 : Nat) [])]) []) = Out.val (outP (readE (n + (1 : Nat)) (x :: r))) [] by simp [readE, outP, exs, sl, E.tp, E.tab, *]))
              · let t16 : Tp pr := .b (show (decide (x.kind = (4 : Int))) = false by simpa using hc16)
                by_cases hc17 : x.kind = (5 : Int)
                · let t17 : Tp pr := .b (show (decide (x.kind = (5 : Int))) = true by simpa using hc17)
                  by_cases hc23 : strength x.text.toList = (0 : Int)
                  · let t23 : Tp pr := .b (show (strength x.text.toList != (0 : Int)) = false by simpa using hc23)
                    exact .tpe [t0, .b (rfl : false = false), .m (rfl : true = true), t3, .m (rfl : true = true), .m (rfl : true = true), .m (rfl : true = true), t7, t8, .m (rfl : true = true), .m (rfl : true = true), .m (rfl : true = true), .m (rfl : true = true), t13, t14, t15, t16, t17, .a (ih1), .b (rfl : false = false), .a (ih2), .a (StrengthOf_ev (x.text)), .b (rfl : true = true), t23, .b (rfl : true = true)] (Out.val (V.tup [V.t T.nilp, V.t (T.seq (3 : Nat) [])]) []) (by kernel_rfl) ((rfl).trans (show (Out.val (V.tup [V.t T.nilp, V.t (T.seq (3 : Nat) [])]) []) = Out.val (outP (readE (n + (1 : Nat)) (x :: r))) [] by simp [readE, outP, exs, sl, E.tp, E.tab, *]))
                  · let t23 : Tp pr := .b (show (strength x.text.toList != (0 : Int)) = true by simpa using hc23)
                    by_cases hc24 : x.num = (0 : Int)
                    · let t24 : Tp pr := .b (show (!decide (x.num = (0 : Int))) = false by simpa using hc24)
                      exact .tpe [t0, .b (rfl : false = false), .m (rfl : true = true), t3, .m (rfl : true = true), .m (rfl : true = true), .m (rfl : true = true), t7, t8, .m (rfl : true = true), .m (rfl : true = true), .m (rfl : true = true), .m (rfl : true = true), t13, t14, t15, t16, t17, .a (ih1), .b (rfl : false = false), .a (ih2), .a (StrengthOf_ev (x.text)), .b (rfl : true = true), t23, t24] (Out.val (V.tup [V.t (T.ptr [T.int IntKind.i64 x.kind, T.int IntKind.i64 x.num, T.str x.text, T.ptr [T.int IntKind.i64 a.kind, T.int IntKind.i64 a.nm, T.str a.text, a.tab.fst, a.tab.snd] (0 : Nat), T.ptr [T.int IntKind.i64 b.kind, T.int IntKind.i64 b.nm, T.str b.text, b.tab.fst, b.tab.snd] (0 : Nat)] (0 : Nat)), V.t (T.seq (3 : Nat) (List.map Ex.ce r2))]) []) (by kernel_rfl) (((congrArg (fun x_1 => Out.val (V.tup [V.t (T.ptr [T.int IntKind.i64 x_1, T.int IntKind.i64 x.num, T.str x.text, T.ptr [T.int IntKind.i64 a.kind, T.int IntKind.i64 a.nm, T.str a.text, a.tab.fst, a.tab.snd] (0 : Nat), T.ptr [T.int IntKind.i64 b.kind, T.int IntKind.i64 b.nm, T.str b.text, b.tab.fst, b.tab.snd] (0 : Nat)] (0 : Nat)), V.t (T.seq (3 : Nat) (List.map Ex.ce r2))]) []) (show (x.kind) = ((5 : Int)) by assumption)).trans (congrArg (fun x_1 => Out.val (V.tup [V.t (T.ptr [T.int IntKind.i64 (5 : Int), T.int IntKind.i64 x_1, T.str x.text, T.ptr [T.int IntKind.i64 a.kind, T.int IntKind.i64 a.nm, T.str a.text, a.tab.fst, a.tab.snd] (0 : Nat), T.ptr [T.int IntKind.i64 b.kind, T.int IntKind.i64 b.nm, T.str b.text, b.tab.fst, b.tab.snd] (0 : Nat)] (0 : Nat)), V.t (T.seq (3 : Nat) (List.map Ex.ce r2))]) []) (show (x.num) = ((0 : Int)) by assumption))).trans (show (Out.val (V.tup [V.t (T.ptr [T.int IntKind.i64 (5 : Int), T.int IntKind.i64 (0 : Int), T.str x.text, T.ptr [T.int IntKind.i64 a.kind, T.int IntKind.i64 a.nm, T.str a.text, a.tab.fst, a.tab.snd] (0 : Nat), T.ptr [T.int IntKind.i64 b.kind, T.int IntKind.i64 b.nm, T.str b.text, b.tab.fst, b.tab.snd] (0 : Nat)] (0 : Nat)), V.t (T.seq (3 : Nat) (List.map Ex.ce r2))]) []) = Out.val (outP (readE (n + (1 : Nat)) (x :: r))) [] by simp [readE, outP, exs, sl, E.tp, E.tab, *]))
                    · let t24 : Tp pr := .b (show (!decide (x.num = (0 : Int))) = true by simpa using hc24)
                      exact .tpe [t0, .b (rfl : false = false), .m (rfl : true = true), t3, .m (rfl : true = true), .m (rfl : true = true), .m (rfl : true = true), t7, t8, .m (rfl : true = true), .m (rfl : true = true), .m (rfl : true = true), .m (rfl : true = true), t13, t14, t15, t16, t17, .a (ih1), .b (rfl : false = false), .a (ih2), .a (StrengthOf_ev (x.text)), .b (rfl : true = true), t23, t24] (Out.val (V.tup [V.t T.nilp, V.t (T.seq (3 : Nat) [])]) []) (by kernel_rfl) ((rfl).trans (show (Out.val (V.tup [V.t T.nilp, V.t (T.seq (3 : Nat) [])]) []) = Out.val (outP (readE (n + (1 : Nat)) (x :: r))) [] by simp [readE, outP, exs, sl, E.tp, E.tab, *]))
                · let t17 : Tp pr := .b (show (decide (x.kind = (5 : Int))) = false by simpa using hc17)
                  exact .tpe [t0, .b (rfl : false = false), .m (rfl : true = true), t3, .m (rfl : true = true), .m (rfl : true = true), .m (rfl : true = true), t7, t8, .m (rfl : true = true), .m (rfl : true = true), .m (rfl : true = true), .m (rfl : true = true), t13, t14, t15, t16, t17, .b (rfl : true = true)] (Out.val (V.tup [V.t T.nilp, V.t (T.seq (3 : Nat) [])]) []) (by kernel_rfl) ((rfl).trans (show (Out.val (V.tup [V.t T.nilp, V.t (T.seq (3 : Nat) [])]) []) = Out.val (outP (readE (n + (1 : Nat)) (x :: r))) [] by simp [readE, outP, exs, sl, E.tp, E.tab, *]))
end Go.Ev
