import Derived.Test.YtdbpimeaipgpfaaKFnExactRunHanded5
/- Terms that hand on, by the program, whole. -/
namespace Go.Ev
set_option linter.unusedVariables false
set_option linter.unusedSimpArgs false
open Go.Proofs
set_option maxRecDepth 100000
set_option linter.unusedVariables false
set_option linter.unusedSimpArgs false
set_option maxHeartbeats 4000000
theorem vbS {N : Int} {t : Tm} (h : vb N t.cells) (hN : N ≤ 1000000) : ∀ c ∈ t.cells, c.kind = 1 → -1000000 ≤ c.n ∧ c.n ≤ 1000000 := fun c hc hk => by have := h c hc hk; omega
theorem arity_cases {k : Int} {m : Nat} (h : (m : Int) = arity k) : (m = 0 ∧ (k = 1 ∨ k = 2)) ∨ (m = 1 ∧ k = 3) ∨ (m = 2 ∧ (k = 4 ∨ k = 5 ∨ k = 7)) ∨ (m = 3 ∧ k = 6) := by
  unfold arity at h
  split at h
  · exact .inl ⟨by omega, .inl ‹_›⟩
  split at h
  · exact .inl ⟨by omega, .inr ‹_›⟩
  split at h
  · exact .inr (.inl ⟨by omega, ‹_›⟩)
  split at h
  · exact .inr (.inr (.inl ⟨by omega, .inl ‹_›⟩))
  split at h
  · exact .inr (.inr (.inl ⟨by omega, .inr (.inl ‹_›)⟩))
  split at h
  · exact .inr (.inr (.inl ⟨by omega, .inr (.inr ‹_›)⟩))
  split at h
  · exact .inr (.inr (.inr ⟨by omega, ‹_›⟩))
  · omega
theorem hand_node (k n : Int) (K : List Tm) (hk : (K.length : Int) = arity k) (z : T) (hz : z = .int .i64 (min ((Tm.cells (.node k n K)).length : Int) 1000000)) (hv : vb 99 (Tm.cells (.node k n K))) (hs : Tm.shpL K) (hl : (Tm.cells (.node k n K)).length ≤ 1000) (gl : K ≠ [] → hdS k n z K [] K.length 0 (hdX k n z K (Tm.handL K))) :
    Ev pr (.call 102 [.t (.ptr [.int .i64 k, .int .i64 n, .seq 1 (Tm.tpL K), z] 0)] []) (.val (.t (handK k n (Tm.handL K)).tp) []) := by
  have hvk : vb 99 (Tm.cellsL K) := fun c hc => hv c (by simp [Tm.cells, hc])
  have hb := handL_vb1 hs hvk
  simp only [Tm.cells, List.length_cons] at hl
  have sh : ∀ t ∈ K, ∀ b f : Int, b = 1 ∨ b = 2 → Ev pr (.call 148 [.t t.hand.tp, i64 b, i64 f] []) (.val (.t (t.hand.shift b f 0).tp) []) := fun t ht b f hbb => by
    obtain ⟨h1, h2, h3⟩ := hb t ht
    exact shift_ev t.hand b f (by omega) (by omega) h1 (vbS h2 (by omega)) (by omega)
  rcases K with _ | ⟨a, _ | ⟨b, _ | ⟨c, _ | ⟨d, r⟩⟩⟩⟩
  ·
    have hc : k = 1 ∨ k = 2 := by rcases arity_cases hk with ⟨_, h⟩ | ⟨h, _⟩ | ⟨h, _⟩ | ⟨h, _⟩ <;> first | exact h | (simp at h)
    have hks : ((0 : Nat) : Int) = arity k := hk
    have g := shift_ev (.node k n []) 1 0 (by omega) (by omega) ⟨hks, trivial⟩ (vbS hv (by omega)) (by simp [Tm.cells, Tm.cellsL])
    have e : Tm.tp (.node k n []) = .ptr [.int .i64 k, .int .i64 n, .seq 1 [], z] 0 := by rw [hz]; rfl
    rw [e] at g
    have := hdLeaf k n hc z _ g
    have e2 : handK k n (Tm.handL []) = tLam (tApp (tVar 0) (Tm.shift 1 0 0 (.node k n []))) := by
      rcases hc with rfl | rfl
      · have h0 := hv ⟨1, n⟩ (by simp [Tm.cells]) rfl
        dsimp only at h0
        simp only [Tm.handL, handK, if_true, Tm.shift]
        rw [if_neg (by simp; omega)]
        rfl
      · simp [Tm.handL, handK, Tm.shift, Tm.shiftL]
    rw [e2]
    exact this
  ·
    have hc : k = 3 := by rcases arity_cases hk with ⟨h, _⟩ | ⟨_, h⟩ | ⟨h, _⟩ | ⟨h, _⟩ <;> first | exact h | (simp at h)
    subst hc
    have := hdLam n z [a] rfl a.hand _ (sh a (by simp) 1 1 (.inl rfl)) (gl (by simp))
    simpa [Tm.handL, handK] using this
  ·
    have hc : k = 4 ∨ k = 5 ∨ k = 7 := by rcases arity_cases hk with ⟨h, _⟩ | ⟨h, _⟩ | ⟨_, h⟩ | ⟨h, _⟩ <;> first | exact h | (simp at h)
    rcases hc with rfl | rfl | rfl
    · have := hdApp n z [a, b] rfl a.hand b.hand _ _ (sh a (by simp) 1 0 (.inl rfl)) (sh b (by simp) 2 0 (.inr rfl)) (gl (by simp))
      simpa [Tm.handL, handK] using this
    · have := hdAdd n z [a, b] rfl a.hand b.hand _ _ (sh a (by simp) 1 0 (.inl rfl)) (sh b (by simp) 2 0 (.inr rfl)) (gl (by simp))
      simpa [Tm.handL, handK] using this
    · have := hdLet n z [a, b] rfl a.hand b.hand _ _ (sh a (by simp) 1 0 (.inl rfl)) (sh b (by simp) 1 1 (.inl rfl)) (gl (by simp))
      simpa [Tm.handL, handK] using this
  ·
    have hc : k = 6 := by rcases arity_cases hk with ⟨h, _⟩ | ⟨h, _⟩ | ⟨h, _⟩ | ⟨_, h⟩ <;> first | exact h | (simp at h)
    subst hc
    have := hdIf n z [a, b, c] rfl a.hand b.hand c.hand _ _ _ (sh a (by simp) 1 0 (.inl rfl)) (sh b (by simp) 2 0 (.inr rfl)) (sh c (by simp) 2 0 (.inr rfl)) (gl (by simp))
    simpa [Tm.handL, handK] using this
  ·
    have := arity_bd k
    simp at hk
    omega
mutual
theorem hand_ev : ∀ (t : Tm), t.shp → vb 99 t.cells → t.cells.length ≤ 1000 → Ev pr (.call 102 [.t t.tp] []) (.val (.t t.hand.tp) [])
  | .node k n ks, hs, hv, hl => by
    have ha := arity_bd k
    have hk := hs.1
    have gl := handL_ev k n (.int .i64 (min ((Tm.cells (.node k n ks)).length : Int) 1000000)) ks ks [] rfl (by omega) hs.2 (fun c hc => hv c (by simp [Tm.cells, hc])) (by simp only [Tm.cells, List.length_cons] at hl; omega)
    simp only [Tm.handL, List.nil_append, List.length_nil] at gl
    rw [Tm.tp, Tm.hand]
    exact hand_node k n ks hk _ rfl hv hs.2 hl fun _ => gl
theorem handL_ev : ∀ (k n : Int) (z : T) (K rest dn : List Tm), K = dn ++ rest → K.length ≤ 3 → Tm.shpL rest → vb 99 (Tm.cellsL rest) → (Tm.cellsL rest).length ≤ 1000 → hdS k n z K (Tm.handL dn) rest.length dn.length (hdX k n z K (Tm.handL dn ++ Tm.handL rest))
  | k, n, z, K, [], dn, e, h3, hs, hv, hl => by
    rw [List.append_nil] at e
    subst e
    rw [Tm.handL, List.append_nil]
    exact hd_end k n z K _ h3
  | k, n, z, K, x :: rest, dn, e, h3, hs, hv, hl => by
    simp only [Tm.cellsL, List.length_append] at hl hv
    have g := hand_ev x hs.1 (vb_left hv) (by omega)
    have gl := handL_ev k n z K rest (dn ++ [x]) (by rw [e]; simp) h3 hs.2 (vb_right hv) (by omega)
    have e1 : Tm.handL (dn ++ [x]) = Tm.handL dn ++ [x.hand] := by
      clear gl g e hv hl hs h3
      induction dn with
      | nil => rfl
      | cons y dn ih => simp [Tm.handL, ih]
    rw [e1] at gl
    simp only [List.length_append, List.length_singleton, List.append_assoc, List.singleton_append] at gl
    exact hd_step k n z K h3 dn x rest e _ (by simp) _ _ g gl
end
end Go.Ev

/- The cells of a term, by the program. -/
namespace Go.Ev
set_option linter.unusedVariables false
set_option linter.unusedSimpArgs false
open Go.Proofs
set_option maxRecDepth 100000
set_option linter.unusedVariables false
set_option linter.unusedSimpArgs false
set_option maxHeartbeats 4000000
def cv (l : List Cell) : V := .vec 0 l.length 2 0 l.length
def cm (l : List Cell) : List Ob := [.vec true 2 (l.map Cell.cc)]
def clS (k0 : Nat) (K : List Tm) (i : Nat) (l : List Cell) (o : Out) : Prop :=
  Ev pr (.loop (lq pr 149 0) (at_ [(1, cv l), (22, .t (.seq 1 (Tm.tpL K))), (23, i64 K.length), (24, i64 i)] (cm l) k0)) o
theorem cl_end (k0 : Nat) (K : List Tm) (l : List Cell) (h0 : k0 = 0 ∨ k0 = 1) : clS k0 K K.length l (.exit 0 (at_ [(1, cv l)] (cm l) k0)) := by
  unfold clS cv cm
  rcases h0 with rfl | rfl
  · let t0 : Tp pr := .b (show (decide ((↑K.length : Int) < (↑K.length : Int))) = false by simp)
    exact .tp [t0] (by kernel_rfl)
  · let t0 : Tp pr := .b (show (decide ((↑K.length : Int) < (↑K.length : Int))) = false by simp)
    exact .tp [t0] (by kernel_rfl)
theorem cl_step (k0 : Nat) (h0 : k0 = 0 ∨ k0 = 1) (K : List Tm) (hK : K.length ≤ 3) (i : Nat) (hi : i < K.length) (y : T) (hg : lkp (Tm.tpL K) (i : Int) = some [y]) (l l2 : List Cell) (g : Ev pr (.call 149 [.t y, cv l] (cm l)) (.val (cv l2) (cm l2)))
    (o : List (Nat × V)) (lo : List Cell) (gl : clS k0 K (i + 1) l2 (.exit 0 (at_ [(1, cv lo)] (cm lo) k0))) : clS k0 K i l (.exit 0 (at_ [(1, cv lo)] (cm lo) k0)) := by
  unfold clS cv cm at *
  generalize Tm.tpL K = TK at *
  rcases h0 with rfl | rfl
  · let t0 : Tp pr := .b (show (decide ((↑i : Int) < (↑K.length : Int))) = true by (simp; omega))
    let t1 : Tp pr := .g .row (show (lkp TK (↑i : Int)) = some ([y]) from hg)
    let t3 : Tp pr := .i (wrap_i64 (a := (↑i : Int) + (1 : Int)) (by omega) (by omega))
    exact .tp [t0, t1, .a (g), t3, .a (gl)] (by kernel_rfl)
  · let t0 : Tp pr := .b (show (decide ((↑i : Int) < (↑K.length : Int))) = true by (simp; omega))
    let t1 : Tp pr := .g .row (show (lkp TK (↑i : Int)) = some ([y]) from hg)
    let t3 : Tp pr := .i (wrap_i64 (a := (↑i : Int) + (1 : Int)) (by omega) (by omega))
    exact .tp [t0, t1, .a (g), t3, .a (gl)] (by kernel_rfl)
theorem cl_node (k n : Int) (z : T) (K : List Tm) (hK : K.length ≤ 3) (l l2 : List Cell) (hl : l.length ≤ 1000000) (gl : clS 1 K 0 (l ++ [⟨k, n⟩]) (.exit 0 (at_ [(1, cv l2)] (cm l2) 1))) :
    Ev pr (.call 149 [.t (.ptr [.int .i64 k, .int .i64 n, .seq 1 (Tm.tpL K), z] 0), cv l] (cm l)) (.val (cv l2) (cm l2)) := by
  unfold clS cv cm at *
  simp only [List.map_append, List.map_cons, List.map_nil, Cell.cc, List.length_append, List.length_singleton] at gl
  have htl := tpL_len K
  have ht : List.take l.length (l.map Cell.cc) = l.map Cell.cc := List.take_of_length_le (by simp)
  have hlm : (l.map Cell.cc).length = l.length := by simp
  generalize Tm.tpL K = TK at *
  generalize l.map Cell.cc = LC at *
  let t12 : Tp pr := .m (show (decide (LC.length = l.length ∧ (0 : Nat) + l.length ≤ l.length ∧ l.length + (1 : Nat) ≤ (4294967296 : Nat))) = true by (simp; omega))
  let t13 : Tp pr := .b (show (decide (l.length + (1 : Nat) ≤ l.length)) = false by simp)
  let t15 : Tp pr := .n .crows (show ((List.take l.length LC).append (List.take (1 : Nat) (List.drop (0 : Nat) [[C.t (T.int IntKind.i64 k), C.t (T.int IntKind.i64 n)]]))) = List.take l.length LC ++ [[C.t (T.int IntKind.i64 k), C.t (T.int IntKind.i64 n)]] by simp)
  let t19 : Tp pr := .a (Ev.castq ((congrArg (fun x => Q.loop (lq pr (149 : FuncId) (0 : Nat)) (at_ [((1 : Nat), V.vec (0 : Nat) (l.length + (1 : Nat)) (2 : Nat) (0 : Nat) (l.length + (1 : Nat))), ((22 : Nat), V.t (T.seq (1 : Nat) TK)), ((23 : Nat), i64 x), ((24 : Nat), i64 (↑(0 : Nat) : Int))] [Ob.vec true (2 : Nat) (LC ++ [[C.t (T.int IntKind.i64 k), C.t (T.int IntKind.i64 n)]])] (1 : Nat))) (show ((↑K.length : Int)) = ((↑TK.length : Int)) by omega)).trans (congrArg (fun x => Q.loop (lq pr (149 : FuncId) (0 : Nat)) (at_ [((1 : Nat), V.vec (0 : Nat) (l.length + (1 : Nat)) (2 : Nat) (0 : Nat) (l.length + (1 : Nat))), ((22 : Nat), V.t (T.seq (1 : Nat) TK)), ((23 : Nat), i64 (↑TK.length : Int)), ((24 : Nat), i64 (↑(0 : Nat) : Int))] [Ob.vec true (2 : Nat) x] (1 : Nat))) (show (LC ++ [[C.t (T.int IntKind.i64 k), C.t (T.int IntKind.i64 n)]]) = ((List.take l.length LC).append [[C.t (T.int IntKind.i64 k), C.t (T.int IntKind.i64 n)]]) by simp [*]))) (gl))
  exact .tp [.mT, .mT, .mT, .mT, .mT, .mT, .mT, .mT, .mT, .mT, .mT, .mT, t12, t13, .c (rfl : (l.length + (1 : Nat)) = _), t15, .mT, .mT, .i (rfl : ((↑TK.length : Int)) = _), t19] (by kernel_rfl)
theorem cl_node0 (k n : Int) (z : T) (K : List Tm) (hK : K.length ≤ 3) (l2 : List Cell) (gl : clS 0 K 0 [⟨k, n⟩] (.exit 0 (at_ [(1, cv l2)] (cm l2) 0))) :
    Ev pr (.call 149 [.t (.ptr [.int .i64 k, .int .i64 n, .seq 1 (Tm.tpL K), z] 0), .t .nils] []) (.val (cv l2) (cm l2)) := by
  unfold clS cv cm at *
  simp only [List.map_cons, List.map_nil, Cell.cc, List.length_cons, List.length_nil] at gl
  have htl := tpL_len K
  generalize Tm.tpL K = TK at *
  let t14 : Tp pr := .n .crows (show (List.take (1 : Nat) (List.drop (0 : Nat) [[C.t (T.int IntKind.i64 k), C.t (T.int IntKind.i64 n)]])) = [[C.t (T.int IntKind.i64 k), C.t (T.int IntKind.i64 n)]] by simp)
  let t18 : Tp pr := .a (Ev.castq (congrArg (fun x => Q.loop (lq pr (149 : FuncId) (0 : Nat)) (at_ [((1 : Nat), V.vec (0 : Nat) ((0 : Nat) + (1 : Nat)) (2 : Nat) (0 : Nat) ((0 : Nat) + (1 : Nat))), ((22 : Nat), V.t (T.seq (1 : Nat) TK)), ((23 : Nat), i64 x), ((24 : Nat), i64 (↑(0 : Nat) : Int))] [Ob.vec true (2 : Nat) [[C.t (T.int IntKind.i64 k), C.t (T.int IntKind.i64 n)]]] (0 : Nat))) (show ((↑K.length : Int)) = ((↑TK.length : Int)) by omega)) (gl))
  exact .tp [.mT, .mT, .mT, .mT, .mT, .mT, .mT, .mT, .mT, .mT, .mT, .mT, .mT, .c (rfl : ((1 : Nat)) = _), t14, .mT, .mT, .i (rfl : ((↑TK.length : Int)) = _), t18] (by kernel_rfl)
mutual
theorem cells_ev : ∀ (t : Tm) (l : List Cell), t.shp → l.length + t.cells.length ≤ 1000000 → Ev pr (.call 149 [.t t.tp, cv l] (cm l)) (.val (cv (l ++ t.cells)) (cm (l ++ t.cells)))
  | .node k n ks, l, hs, hl => by
    have ha := arity_bd k
    have hk := hs.1
    simp only [Tm.cells, List.length_cons] at hl
    have gl := cellsL_ev 1 (.inr rfl) ks ks [] (l ++ [⟨k, n⟩]) rfl (by omega) hs.2 (by simp; omega)
    rw [Tm.tp, Tm.cells]
    simp only [List.append_assoc, List.singleton_append, List.length_nil] at gl
    exact cl_node k n _ ks (by omega) l _ (by omega) gl
theorem cellsL_ev : ∀ (k0 : Nat) (h0 : k0 = 0 ∨ k0 = 1) (K rest dn : List Tm) (l : List Cell), K = dn ++ rest → K.length ≤ 3 → Tm.shpL rest → l.length + (Tm.cellsL rest).length ≤ 1000000 → clS k0 K dn.length l (.exit 0 (at_ [(1, cv (l ++ Tm.cellsL rest))] (cm (l ++ Tm.cellsL rest)) k0))
  | k0, h0, K, [], dn, l, e, h3, hs, hl => by
    rw [List.append_nil] at e
    subst e
    rw [Tm.cellsL, List.append_nil]
    exact cl_end k0 K l h0
  | k0, h0, K, x :: rest, dn, l, e, h3, hs, hl => by
    simp only [Tm.cellsL, List.length_append] at hl
    have g := cells_ev x l hs.1 (by omega)
    have gl := cellsL_ev k0 h0 K rest (dn ++ [x]) (l ++ x.cells) (by rw [e]; simp) h3 hs.2 (by simp; omega)
    simp only [List.length_append, List.length_singleton, List.append_assoc] at gl
    rw [Tm.cellsL]
    exact cl_step k0 h0 K h3 dn.length (by rw [e]; simp) x.tp (by rw [e]; exact tpL_mid dn rest x) l _ g [] _ gl
end
theorem cells0_ev (t : Tm) (hs : t.shp) (hl : t.cells.length ≤ 1000000) : Ev pr (.call 149 [.t t.tp, .t .nils] []) (.val (cv t.cells) (cm t.cells)) := by
  obtain ⟨k, n, ks⟩ := t
  have ha := arity_bd k
  have hk := hs.1
  simp only [Tm.cells, List.length_cons] at hl
  have gl := cellsL_ev 0 (.inl rfl) ks ks [] [⟨k, n⟩] rfl (by omega) hs.2 (by simp; omega)
  rw [Tm.tp, Tm.cells]
  simp only [List.singleton_append, List.length_nil] at gl
  exact cl_node0 k n _ ks (by omega) _ gl
def okOf (l : List Cell) : Bool := l.all cellGood
theorem good1_ev (c : Cell) : Ev pr (.call 151 [.agg [i64 c.kind, i64 c.n]] []) (.val (bl (!cellGood c)) []) := by
  have g := cellOk_ev c
  cases h : cellGood c with
  | false => rw [h] at g; exact .tp [.a (g)] (by kernel_rfl)
  | true => rw [h] at g; exact .tp [.a (g)] (by kernel_rfl)
def ixS (l : List Cell) (i : Nat) (o : Out) : Prop :=
  Ev pr (.loop (lq pr 172 0) (at_ [(0, .t (.seq 2 (l.map Cell.ce))), (1, .t (.clo 151 [])), (7, i64 l.length), (8, i64 i)] [] 0)) o
theorem ix_end (l : List Cell) : ixS l l.length (.exit 0 (at_ [] [] 0)) := by
  unfold ixS
  let t0 : Tp pr := .b (show (decide ((↑l.length : Int) < (↑l.length : Int))) = false by simp)
  exact .tp [t0] (by kernel_rfl)
theorem ix_step (l : List Cell) (hl : l.length ≤ 1000000) (i : Nat) (hi : i < l.length) (c : Cell) (hg : lkp (l.map Cell.ce) (i : Int) = some c.ce) (hc : cellGood c = true) (o : Out) (gl : ixS l (i + 1) o) : ixS l i o := by
  unfold ixS at *
  have g := good1_ev c
  rw [hc] at g
  obtain ⟨k, n⟩ := c
  let t0 : Tp pr := .b (show (decide ((↑i : Int) < (↑l.length : Int))) = true by (simp; omega))
  let t1 : Tp pr := .g .row (show (lkp (List.map Cell.ce l) (↑i : Int)) = some ((Cell.mk k n).ce) from hg)
  let t4 : Tp pr := .i (wrap_i64 (a := (↑i : Int) + (1 : Int)) (by omega) (by omega))
  exact .tp [t0, t1, .a (g), .bF, t4, .a (gl)] (by kernel_rfl)
theorem ix_bad (l : List Cell) (hl : l.length ≤ 1000000) (i : Nat) (hi : i < l.length) (c : Cell) (hg : lkp (l.map Cell.ce) (i : Int) = some c.ce) (hc : cellGood c = false) : ixS l i (.ret (at_ [(4, i64 i)] [] 0)) := by
  unfold ixS at *
  have g := good1_ev c
  rw [hc] at g
  obtain ⟨k, n⟩ := c
  let t0 : Tp pr := .b (show (decide ((↑i : Int) < (↑l.length : Int))) = true by (simp; omega))
  let t1 : Tp pr := .g .row (show (lkp (List.map Cell.ce l) (↑i : Int)) = some ((Cell.mk k n).ce) from hg)
  exact .tp [t0, t1, .a (g), .bT] (by kernel_rfl)
theorem ix_call (l : List Cell) (o : Int) (gl : (o = -1 ∧ ixS l 0 (.exit 0 (at_ [] [] 0))) ∨ (0 ≤ o ∧ ixS l 0 (.ret (at_ [(4, i64 o)] [] 0)))) : Ev pr (.call 150 [.t (.seq 2 (l.map Cell.ce)), .t (.clo 151 [])] []) (.val (bl (decide (0 ≤ o))) []) := by
  unfold ixS at gl
  rcases gl with ⟨rfl, gl⟩ | ⟨h0, gl⟩
  · have g : Ev pr (.call 172 [.t (.seq 2 (l.map Cell.ce)), .t (.clo 151 [])] []) (.val (i64 (-1)) []) := by
      let t0 : Tp pr := .i (show ((↑(List.map Cell.ce l).length : Int) : Int) = (↑l.length : Int) by simp)
      exact .tp [t0, .a (gl)] (by kernel_rfl)
    exact .tp [.a (g)] (by kernel_rfl)
  · have g : Ev pr (.call 172 [.t (.seq 2 (l.map Cell.ce)), .t (.clo 151 [])] []) (.val (i64 o) []) := by
      let t0 : Tp pr := .i (show ((↑(List.map Cell.ce l).length : Int) : Int) = (↑l.length : Int) by simp)
      exact .tp [t0, .a (gl)] (by kernel_rfl)
    exact .tp [.a (g)] (by kernel_rfl)
theorem ix_all (l : List Cell) (hl : l.length ≤ 1000000) : ∀ (rest dn : List Cell), l = dn ++ rest → (rest.all cellGood = true ∧ ixS l dn.length (.exit 0 (at_ [] [] 0))) ∨ (rest.all cellGood = false ∧ ∃ o : Int, 0 ≤ o ∧ ixS l dn.length (.ret (at_ [(4, i64 o)] [] 0)))
  | [], dn, e => by
    rw [List.append_nil] at e
    subst e
    exact .inl ⟨rfl, ix_end l⟩
  | c :: rest, dn, e => by
    have hi : dn.length < l.length := by rw [e]; simp
    have hg : lkp (l.map Cell.ce) (dn.length : Int) = some c.ce := by rw [e]; simp
    cases hc : cellGood c with
    | false => exact .inr ⟨by simp [hc], _, by omega, ix_bad l hl dn.length hi c hg hc⟩
    | true =>
      rcases ix_all l hl rest (dn ++ [c]) (by rw [e]; simp) with ⟨h1, h2⟩ | ⟨h1, o, h2, h3⟩
      · rw [List.length_append, List.length_singleton] at h2
        exact .inl ⟨by simp [hc, h1], ix_step l hl _ hi c hg hc _ h2⟩
      · rw [List.length_append, List.length_singleton] at h3
        exact .inr ⟨by simp [hc, h1], o, h2, ix_step l hl _ hi c hg hc _ h3⟩
theorem anyBadC_ev (l : List Cell) (hl : l.length ≤ 1000000) : Ev pr (.call 150 [.t (.seq 2 (l.map Cell.ce)), .t (.clo 151 [])] []) (.val (bl (!l.all cellGood)) []) := by
  rcases ix_all l hl l [] rfl with ⟨h1, h2⟩ | ⟨h1, o, h2, h3⟩
  · rw [h1]
    exact ix_call l (-1) (.inl ⟨rfl, h2⟩)
  · rw [h1]
    have := ix_call l o (.inr ⟨h2, h3⟩)
    rw [show decide (0 ≤ o) = true by simpa using h2] at this
    exact this
def goodO : Option (List Cell) → Out
  | none => .val (.tup [.t (.seq 2 []), bl false]) []
  | some l => .val (.tup [.t (.seq 2 (l.map Cell.ce)), bl true]) []
theorem gd_large (k n : Int) (s : T) (z : Int) (h : z > 600) : Ev pr (.call 103 [.t (.ptr [.int .i64 k, .int .i64 n, s, .int .i64 z] 0)] []) (goodO none) := by
  unfold goodO
  let t0 : Tp pr := .b (show (decide (z > (600 : Int))) = true by (simp; omega))
  exact .tp [t0] (by kernel_rfl)
theorem gd_cells (k n : Int) (s : T) (z : Int) (h : ¬ z > 600) (l : List Cell) (g : Ev pr (.call 149 [.t (.ptr [.int .i64 k, .int .i64 n, s, .int .i64 z] 0), .t .nils] []) (.val (cv l) (cm l)))
    (b : Bool) (g2 : Ev pr (.call 150 [.t (.seq 2 (l.map Cell.ce)), .t (.clo 151 [])] []) (.val (bl b) [])) :
    Ev pr (.call 103 [.t (.ptr [.int .i64 k, .int .i64 n, s, .int .i64 z] 0)] []) (goodO (if b = true then none else some l)) := by
  have hlen : (l.map Cell.cc).length = l.length := by simp
  have ht : List.take l.length (l.map Cell.cc) = l.map Cell.cc := List.take_of_length_le (by simp)
  have hf : (l.map Cell.cc).map (List.map C.fz) = l.map Cell.ce := by simp [Cell.cc, Cell.ce, C.fz, Function.comp_def]
  rw [← hf] at g2
  unfold cv cm at g
  cases b with
  | true =>
    rw [if_pos rfl]
    unfold goodO
    generalize l.map Cell.cc = LC at *
    let t0 : Tp pr := .b (show (decide (z > (600 : Int))) = false by (simp; omega))
    let t2 : Tp pr := .m (show (decide (LC.length = l.length ∧ (0 : Nat) + l.length ≤ l.length)) = true by simp [*])
    let t3 : Tp pr := .n .rows (show (List.map (fun x => List.map C.fz x) (List.take l.length (List.drop (0 : Nat) LC))) = List.take l.length (List.map (fun x => List.map C.fz x) LC) by simp)
    let t4 : Tp pr := .a (Ev.castq (congrArg (fun x => Q.call (150 : FuncId) [V.t (T.seq (2 : Nat) x), V.t (T.clo (151 : Nat) [])] []) (show (List.map (List.map C.fz) LC) = (List.take l.length (List.map (fun x => List.map C.fz x) LC)) by simp [*])) (g2))
    exact .tp [t0, .a (g), t2, t3, t4, .mT, .bT] (by kernel_rfl)
  | false =>
    rw [if_neg (by simp)]
    unfold goodO
    dsimp only
    rw [← hf]
    generalize l.map Cell.cc = LC at *
    let t0 : Tp pr := .b (show (decide (z > (600 : Int))) = false by (simp; omega))
    let t2 : Tp pr := .m (show (decide (LC.length = l.length ∧ (0 : Nat) + l.length ≤ l.length)) = true by simp [*])
    let t3 : Tp pr := .n .rows (show (List.map (fun x => List.map C.fz x) (List.take l.length (List.drop (0 : Nat) LC))) = List.take l.length (List.map (fun x => List.map C.fz x) LC) by simp)
    let t4 : Tp pr := .a (Ev.castq (congrArg (fun x => Q.call (150 : FuncId) [V.t (T.seq (2 : Nat) x), V.t (T.clo (151 : Nat) [])] []) (show (List.map (List.map C.fz) LC) = (List.take l.length (List.map (fun x => List.map C.fz x) LC)) by simp [*])) (g2))
    exact .tpe [t0, .a (g), t2, t3, t4, .mT, .bF, t2, t3] (Out.val (V.tup [V.t (T.seq (2 : Nat) (List.take l.length (List.map (fun x => List.map C.fz x) LC))), V.t (T.bool true)]) []) (by kernel_rfl) (congrArg (fun x => Out.val (V.tup [V.t (T.seq (2 : Nat) x), V.t (T.bool true)]) []) (show (List.take l.length (List.map (fun x => List.map C.fz x) LC)) = (List.map (List.map C.fz) LC) by simp [*]))
theorem good_ev (t : Tm) (hs : t.shp) (hl : t.cells.length ≤ 1000000) : Ev pr (.call 103 [.t t.tp] []) (goodO (goodOf t)) := by
  have g := cells0_ev t hs hl
  have g2 := anyBadC_ev t.cells hl
  obtain ⟨k, n, s, e⟩ := t.tp_cells
  rw [e] at g ⊢
  have hsz : t.size = t.cells.length := by unfold Tm.size; omega
  unfold goodOf
  by_cases h : t.size > 600
  · rw [if_neg (by omega)]
    exact gd_large k n s _ h
  · have := gd_cells k n s _ h t.cells g _ g2
    cases ha : t.cells.all cellGood with
    | true =>
      rw [ha] at this
      rw [if_pos ⟨by omega, rfl⟩]
      exact this
    | false =>
      rw [ha] at this
      rw [if_neg (fun h => by cases h.2)]
      exact this
theorem hn_nil (L : List (List T)) (g : Ev pr (.call 47 [.t (.seq 2 L)] []) (.val (.t .nilp) [])) : Ev pr (.call 58 [.t (.seq 2 L)] []) (goodO none) := by
  unfold goodO
  exact .tp [.a (g), .bT, .bT, .bT] (by kernel_rfl)
theorem hn_long (L : List (List T)) (t : Tm) (g : Ev pr (.call 47 [.t (.seq 2 L)] []) (.val (.t t.tp) [])) (h : L.length > 40) (hL : L.length ≤ 1048576) : Ev pr (.call 58 [.t (.seq 2 L)] []) (goodO none) := by
  obtain ⟨k', n', s', e'⟩ := t.tp_cells
  rw [e'] at g
  unfold goodO
  let t3 : Tp pr := .b (show (decide ((↑L.length : Int) > (40 : Int))) = true by (simp; omega))
  exact .tp [.a (g), .bF, .i (rfl : ((↑L.length : Int)) = _), t3, .bT] (by kernel_rfl)
theorem hn_free (L : List (List T)) (t : Tm) (h : ¬ L.length > 40) (fs : List Int) (g : Ev pr (.call 47 [.t (.seq 2 L)] []) (.val (.t t.tp) [])) (g2 : Ev pr (.call 48 [.t t.tp] []) (.val (isq fs) [])) (hf : ¬ fs.length = 0) :
    Ev pr (.call 58 [.t (.seq 2 L)] []) (goodO none) := by
  obtain ⟨k', n', s', e'⟩ := t.tp_cells
  rw [e'] at g g2
  unfold goodO
  let t3 : Tp pr := .b (show (decide ((↑L.length : Int) > (40 : Int))) = false by (simp; omega))
  let t5 : Tp pr := .i (show ((↑(List.map intt fs).length : Int) : Int) = (↑fs.length : Int) by simp)
  let t6 : Tp pr := .b (show (decide ((↑fs.length : Int) > (0 : Int))) = true by (simp; omega))
  exact .tp [.a (g), .bF, .i (rfl : ((↑L.length : Int)) = _), t3, .a (g2), t5, t6] (by kernel_rfl)
theorem hn_ok (L : List (List T)) (t : Tm) (h : ¬ L.length > 40) (g : Ev pr (.call 47 [.t (.seq 2 L)] []) (.val (.t t.tp) [])) (g2 : Ev pr (.call 48 [.t t.tp] []) (.val (isq []) [])) (y : T) (g3 : Ev pr (.call 102 [.t t.tp] []) (.val (.t y) []))
    (R : List (List T)) (b : Bool) (g4 : Ev pr (.call 103 [.t y] []) (.val (.tup [.t (.seq 2 R), bl b]) [])) : Ev pr (.call 58 [.t (.seq 2 L)] []) (.val (.tup [.t (.seq 2 R), bl b]) []) := by
  obtain ⟨k', n', s', e'⟩ := t.tp_cells
  rw [e'] at g g2 g3
  simp only [List.map_nil, isq, sl] at g2
  let t3 : Tp pr := .b (show (decide ((↑L.length : Int) > (40 : Int))) = false by (simp; omega))
  let t5 : Tp pr := .i (rfl : ((0 : Int) : Int) = (0 : Int))
  exact .tp [.a (g), .bF, .i (rfl : ((↑L.length : Int)) = _), t3, .a (g2), t5, .bF, .a (g3), .a (g4)] (by kernel_rfl)
end Go.Ev

/- A term that hands on runs, by the program. -/
namespace Go.Ev
set_option linter.unusedVariables false
set_option linter.unusedSimpArgs false
open Go.Proofs
set_option maxRecDepth 100000
set_option linter.unusedVariables false
set_option linter.unusedSimpArgs false
set_option maxHeartbeats 4000000
theorem codeOf_eq (l : List Cell) : codeOf l = match termOf l with
    | some t => if t.frees 0 = [] then some t else none
    | none => none := by
  unfold codeOf termOf
  by_cases c : l.length > 600
  · rw [if_pos c, if_pos c]
  · rw [if_neg c, if_neg c]
    cases readT 601 l with
    | none => rfl
    | some p =>
      obtain ⟨t, r⟩ := p
      cases r <;> rfl
theorem termOf_some {l : List Cell} {t : Tm} (h : termOf l = some t) : l = t.cells ∧ t.ok ∧ l.length ≤ 600 := by
  unfold termOf at h
  split at h
  · cases h
  · rename_i hl
    split at h
    · rename_i t' h2
      obtain rfl := Option.some.inj h
      have := readT_spec 601 l t' [] h2
      exact ⟨by rw [this.1]; simp, this.2, by omega⟩
    · cases h
theorem handed_len {l c : List Cell} (h : handed l = some c) : c.length ≤ 600 := by
  unfold handed at h
  split at h
  · cases h
  · split at h
    · cases h
    · unfold goodOf at h
      split at h
      · rename_i h2
        obtain rfl := Option.some.inj h
        exact h2.1
      · cases h
theorem handed_ev (l : List Cell) (h2 : l.length ≤ 1048576) : Ev pr (.call 58 [.t (.seq 2 (l.map Cell.ce))] []) (goodO (handed l)) := by
  have g := termOf_ev l h2
  unfold handed
  rw [codeOf_eq]
  cases ht : termOf l with
  | none =>
    rw [ht] at g
    exact hn_nil _ g
  | some t =>
    rw [ht] at g
    obtain ⟨hl, ho, h6⟩ := termOf_some ht
    dsimp only [toP] at g ⊢
    by_cases h4 : l.length > 40
    · have := hn_long _ t g (by simpa using h4) (by simpa using h2)
      by_cases hf : t.frees 0 = []
      · rw [if_pos hf]
        dsimp only
        rw [if_pos h4]
        exact this
      · rw [if_neg hf]
        exact this
    · have gf := free_ev t ho (by rw [← hl]; omega)
      by_cases hf : t.frees 0 = []
      · rw [if_pos hf]
        dsimp only
        rw [if_neg h4]
        have hfe : frs t = [] := List.length_eq_zero_iff.1 ((frs_nil t).2 hf)
        rw [hfe] at gf
        have gh := hand_ev t ho.shp (ok_vb ho) (by rw [← hl]; omega)
        have hh := hand_cells t ho.shp
        have gg := good_ev t.hand hh.1 (by have := hh.2; rw [← hl] at this; omega)
        cases hg : goodOf t.hand with
        | none =>
          rw [hg] at gg
          exact hn_ok _ t (by simpa using h4) g gf _ gh _ _ gg
        | some c =>
          rw [hg] at gg
          exact hn_ok _ t (by simpa using h4) g gf _ gh _ _ gg
      · rw [if_neg hf]
        exact hn_free _ t (by simpa using h4) _ g gf (by rw [frs_nil]; exact hf)
def rhO (x : Int × Int × Bool) : Out := .val (.tup [i64 x.1, i64 x.2.1, bl x.2.2]) []
theorem rh_no (L : List (List T)) (k : Int) (g : Ev pr (.call 58 [.t (.seq 2 L)] []) (.val (.tup [.t (.seq 2 []), bl false]) [])) : Ev pr (.call 21 [.t (.seq 2 L), i64 k] []) (rhO (0, 0, false)) := by
  unfold rhO
  exact .tp [.a (g), .bT] (by kernel_rfl)
@[local simp] theorem tk1 {α β : Type} (f : α → β) (a : β) (R : List α) : List.take (1 + R.length) (a :: List.map f R) = a :: List.map f R := List.take_of_length_le (by simp; omega)
@[local simp] theorem tk2 {α : Type} (a b c : α) (R : List α) : List.take (1 + R.length + 2) (a :: (R ++ [b, c])) = a :: (R ++ [b, c]) := List.take_of_length_le (by simp; omega)
@[local simp] theorem tk3 {α β : Type} (f : α → β) (a b c : β) (R : List α) : List.take (1 + R.length + 2) (a :: (List.map f R ++ [b, c])) = a :: (List.map f R ++ [b, c]) := List.take_of_length_le (by simp; omega)
@[local simp] theorem fzt (R : List (List T)) : List.map ((fun x => List.map C.fz x) ∘ fun x => List.map C.t x) R = R := by simp [Function.comp_def, C.fz]
@[local simp] theorem fzt2 (R : List (List T)) : List.map (fun x => List.map C.fz x) (List.map (fun x => List.map C.t x) R) = R := by simp [Function.comp_def, C.fz]
theorem rh_ok (L R : List (List T)) (k : Int) (hR : 0 < R.length) (hR2 : R.length ≤ 600) (g : Ev pr (.call 58 [.t (.seq 2 L)] []) (.val (.tup [.t (.seq 2 R), bl true]) [])) (x y z : Int) (b : Bool)
    (g2 : Ev pr (.call 12 [.t (.seq 2 ([.int .i64 4, .int .i64 0] :: (R ++ [[.int .i64 3, .int .i64 0], [.int .i64 1, .int .i64 0]]))), i64 k] []) (.val (.tup [i64 x, i64 y, i64 z, bl b]) [])) : Ev pr (.call 21 [.t (.seq 2 L), i64 k] []) (rhO (x, y, b)) := by
  unfold rhO
  have ht : List.take R.length (R.map (List.map C.t)) = R.map (List.map C.t) := List.take_of_length_le (by simp)
  have h1 : ¬ R.length = 0 := by omega
  have e2 : R ++ [[T.int .i64 3, T.int .i64 0], [T.int .i64 1, T.int .i64 0]] = List.take (1 + R.length + 1) (R.append [[T.int .i64 3, T.int .i64 0], [T.int .i64 1, T.int .i64 0]]) := by
    rw [List.take_of_length_le (by simp; omega)]
    rfl
  rw [e2] at g2
  let t2 : Tp pr := .m (show (decide ((1 : Nat) = (1 : Nat) ∧ (1 : Nat) ≤ (1 : Nat) ∧ (1 : Nat) + (List.map (fun x => List.map C.t x) R).length ≤ (4294967296 : Nat))) = true by (simp; omega))
  let t3 : Tp pr := .b (show (decide ((1 : Nat) + (List.map (fun x => List.map C.t x) R).length ≤ (1 : Nat))) = false by (simp; omega))
  let t4 : Tp pr := .c (show ((1 : Nat) + (List.map (fun x => List.map C.t x) R).length : Nat) = (1 : Nat) + R.length by simp)
  let t5 : Tp pr := .n .crows (show ((List.take (1 : Nat) [[C.t (T.int IntKind.i64 (4 : Int)), C.t (T.int IntKind.i64 (0 : Int))]]).append (List.map (fun x => List.map C.t x) R)) = [C.t (T.int IntKind.i64 (4 : Int)), C.t (T.int IntKind.i64 (0 : Int))] :: List.map (fun x => List.map C.t x) R by simp)
  let t7 : Tp pr := .m (show (decide (([C.t (T.int IntKind.i64 (4 : Int)), C.t (T.int IntKind.i64 (0 : Int))] :: List.map (fun x => List.map C.t x) R).length = (1 : Nat) + R.length ∧ (0 : Nat) + ((1 : Nat) + R.length) ≤ (1 : Nat) + R.length ∧ (1 : Nat) + R.length + (2 : Nat) ≤ (4294967296 : Nat))) = true by (simp; omega))
  let t8 : Tp pr := .b (show (decide ((1 : Nat) + R.length + (2 : Nat) ≤ (1 : Nat) + R.length)) = false by simp)
  let t9 : Tp pr := .c (rfl : ((1 : Nat) + R.length + (2 : Nat)) = _)
  let t10 : Tp pr := .n .crows (show ((List.take ((1 : Nat) + R.length) ([C.t (T.int IntKind.i64 (4 : Int)), C.t (T.int IntKind.i64 (0 : Int))] :: List.map (fun x => List.map C.t x) R)).append (List.take (2 : Nat) (List.drop (0 : Nat) [[C.t (T.int IntKind.i64 (3 : Int)), C.t (T.int IntKind.i64 (0 : Int))], [C.t (T.int IntKind.i64 (1 : Int)), C.t (T.int IntKind.i64 (0 : Int))]]))) = [C.t (T.int IntKind.i64 (4 : Int)), C.t (T.int IntKind.i64 (0 : Int))] :: (List.map (fun x => List.map C.t x) R ++ [[C.t (T.int IntKind.i64 (3 : Int)), C.t (T.int IntKind.i64 (0 : Int))], [C.t (T.int IntKind.i64 (1 : Int)), C.t (T.int IntKind.i64 (0 : Int))]]) by simp)
  let t11 : Tp pr := .m (show (decide (([C.t (T.int IntKind.i64 (4 : Int)), C.t (T.int IntKind.i64 (0 : Int))] :: (List.map (fun x => List.map C.t x) R).append [[C.t (T.int IntKind.i64 (3 : Int)), C.t (T.int IntKind.i64 (0 : Int))], [C.t (T.int IntKind.i64 (1 : Int)), C.t (T.int IntKind.i64 (0 : Int))]]).length = (1 : Nat) + R.length + (2 : Nat) ∧ (0 : Nat) + ((1 : Nat) + R.length + (2 : Nat)) ≤ (1 : Nat) + R.length + (2 : Nat))) = true by (simp; omega))
  let t12 : Tp pr := .n .rows (show (List.map (fun x => List.map C.fz x) (List.take ((1 : Nat) + R.length + (2 : Nat)) (List.drop (0 : Nat) ([C.t (T.int IntKind.i64 (4 : Int)), C.t (T.int IntKind.i64 (0 : Int))] :: (List.map (fun x => List.map C.t x) R).append [[C.t (T.int IntKind.i64 (3 : Int)), C.t (T.int IntKind.i64 (0 : Int))], [C.t (T.int IntKind.i64 (1 : Int)), C.t (T.int IntKind.i64 (0 : Int))]])))) = [(C.t (T.int IntKind.i64 (4 : Int))).fz, (C.t (T.int IntKind.i64 (0 : Int))).fz] :: List.take ((1 : Nat) + R.length + (1 : Nat)) (R ++ [[(C.t (T.int IntKind.i64 (3 : Int))).fz, (C.t (T.int IntKind.i64 (0 : Int))).fz], [(C.t (T.int IntKind.i64 (1 : Int))).fz, (C.t (T.int IntKind.i64 (0 : Int))).fz]]) by simp)
  exact .tp [.a (g), .bF, t2, t3, t4, t5, .mT, t7, t8, t9, t10, t11, t12, .a (g2), .mT] (by kernel_rfl)
theorem RunHandedI_ev (l : List Cell) (k : Int) (h2 : l.length ≤ 1048576) : Ev pr (.call 21 [.t (.seq 2 (l.map Cell.ce)), i64 k] []) (rhO (runHanded l k)) := by
  have g := handed_ev l h2
  unfold runHanded
  cases hh : handed l with
  | none =>
    rw [hh] at g
    exact rh_no _ k g
  | some c =>
    rw [hh] at g
    have hc := handed_len hh
    have hp : 0 < c.length := by
      unfold handed at hh
      split at hh
      · cases hh
      · split at hh
        · cases hh
        · unfold goodOf at hh
          split at hh
          · obtain rfl := Option.some.inj hh
            exact cells_pos _
          · cases hh
    have gr := RunTermI_ev (⟨4, 0⟩ :: (c ++ [⟨3, 0⟩, ⟨1, 0⟩])) k (by simp; omega)
    simp only [List.map_cons, List.map_append, List.map_nil] at gr
    dsimp only
    exact rh_ok _ (c.map Cell.ce) k (by simpa using hp) (by simpa using hc) g _ _ _ _ gr
end Go.Ev

/- Terms moved and handed on, by the reference. -/
namespace Go.Ev
set_option linter.unusedVariables false
set_option linter.unusedSimpArgs false
open Go.Proofs
set_option maxRecDepth 100000
set_option linter.unusedVariables false
set_option linter.unusedSimpArgs false
set_option maxHeartbeats 4000000
def ssS (k n n2 : Int) (K R : List Tm) (b f : Int) (i : Nat) (o : Out) : Prop :=
  Ev pr (.loop (lq pr 142 0) (at_ [(1, i64 b), (2, i64 f), (3, .ptr 0 1 0 0), (6, .ptr 1 1 0 0), (7, .ptr 2 1 0 0), (30, .t (.seq 3 (Tm.tsL K))), (31, i64 K.length), (32, i64 i)]
    [.box [i64 k, i64 n, .t (.seq 3 (Tm.tsL K))], .box [i64 0, i64 0, .t .nils], .box [i64 k, i64 n2, .vec 3 R.length 3 0 R.length], .vec true 3 (tcs R)] 0)) o
def ssX (k n2 : Int) (R : List Tm) : Out := .exit 0 (at_ [(6, .ptr 0 1 0 0), (7, .ptr 1 1 0 0)] [.box [i64 0, i64 0, .t .nils], .box [i64 k, i64 n2, .vec 2 R.length 3 0 R.length], .vec true 3 (tcs R)] 0)
theorem ss_end (k n n2 : Int) (K R : List Tm) (b f : Int) (hK : K.length ≤ 3) : ssS k n n2 K R b f K.length (ssX k n2 R) := by
  unfold ssS ssX
  let t0 : Tp pr := .b (show (decide ((↑K.length : Int) < (↑K.length : Int))) = false by simp)
  exact .tp [t0] (by kernel_rfl)
theorem ss_step (k n n2 : Int) (K dn r R : List Tm) (k2 n3 : Int) (ks : List Tm) (e : K = dn ++ .node k2 n3 ks :: r) (hK : K.length ≤ 3) (hR : R.length ≤ 3) (b f : Int) (hf : -1000000 ≤ f ∧ f ≤ 1000000) (k4 n4 : Int) (ks4 : List Tm)
    (g : Ev pr (.call 142 [tsV k2 n3 ks, i64 b, i64 (f + bindsAt k dn.length)] []) (.val (tsV k4 n4 ks4) [])) (o : Out) (gl : ssS k n n2 K (R ++ [.node k4 n4 ks4]) b f (dn.length + 1) o) : ssS k n n2 K R b f dn.length o := by
  unfold ssS tsV at *
  rw [tcs_snoc] at gl
  simp only [List.length_append, List.length_singleton] at gl
  have hl : K.length = dn.length + (r.length + 1) := by rw [e]; simp
  have hg : lkp (Tm.tsL K) (dn.length : Int) = some [.int .i64 k2, .int .i64 n3, .seq 3 (Tm.tsL ks)] := by rw [e]; exact tsL_mid dn r k2 n3 ks
  have g2 := l3Binds_ev k dn.length (by omega)
  have hb := bindsAt_le k dn.length
  generalize bindsAt k dn.length = b' at *
  have htl : (tcs R).length = R.length := by simp
  have ht : List.take R.length (tcs R) = tcs R := List.take_of_length_le (by simp)
  generalize tcs R = TR at *
  generalize Tm.tsL K = TK at *
  let t0 : Tp pr := .b (show (decide ((↑dn.length : Int) < (↑K.length : Int))) = true by (simp; omega))
  let t1 : Tp pr := .g .row (show (lkp TK (↑dn.length : Int)) = some ([T.int IntKind.i64 k2, T.int IntKind.i64 n3, T.seq (3 : Nat) (Tm.tsL ks)]) from hg)
  let t12 : Tp pr := .i (wrap_i64 (a := f + (↑b' : Int)) (by omega) (by omega))
  let t18 : Tp pr := .m (show (decide (TR.length = R.length ∧ (0 : Nat) + R.length ≤ R.length ∧ R.length + (1 : Nat) ≤ (4294967296 : Nat))) = true by (simp; omega))
  let t19 : Tp pr := .b (show (decide (R.length + (1 : Nat) ≤ R.length)) = false by simp)
  let t21 : Tp pr := .n .crows (show ((List.take R.length TR).append (List.take (1 : Nat) (List.drop (0 : Nat) [[C.t (T.int IntKind.i64 k4), C.t (T.int IntKind.i64 n4), C.t (T.seq (3 : Nat) (Tm.tsL ks4))]]))) = List.take R.length TR ++ [[C.t (T.int IntKind.i64 k4), C.t (T.int IntKind.i64 n4), C.t (T.seq (3 : Nat) (Tm.tsL ks4))]] by simp)
  let t25 : Tp pr := .i (wrap_i64 (a := (↑dn.length : Int) + (1 : Int)) (by omega) (by omega))
  let t26 : Tp pr := .a (Ev.castq (congrArg (fun x => Q.loop (lq pr (142 : FuncId) (0 : Nat)) (at_ [((1 : Nat), i64 b), ((2 : Nat), i64 f), ((3 : Nat), V.ptr (0 : Nat) (1 : Nat) (0 : Nat) (0 : Nat)), ((6 : Nat), V.ptr (1 : Nat) (1 : Nat) (0 : Nat) (0 : Nat)), ((7 : Nat), V.ptr (2 : Nat) (1 : Nat) (0 : Nat) (0 : Nat)), ((30 : Nat), V.t (T.seq (3 : Nat) TK)), ((31 : Nat), i64 (↑K.length : Int)), ((32 : Nat), i64 (↑(dn.length + (1 : Nat)) : Int))] [Ob.box [i64 k, i64 n, V.t (T.seq (3 : Nat) TK)], Ob.box [i64 (0 : Int), i64 (0 : Int), V.t T.nils], Ob.box [i64 k, i64 n2, V.vec (3 : Nat) (R.length + (1 : Nat)) (3 : Nat) (0 : Nat) (R.length + (1 : Nat))], Ob.vec true (3 : Nat) x] (0 : Nat))) (show (TR.append [[C.t (T.int IntKind.i64 k4), C.t (T.int IntKind.i64 n4), C.t (T.seq (3 : Nat) (Tm.tsL ks4))]]) = ((List.take R.length TR).append [[C.t (T.int IntKind.i64 k4), C.t (T.int IntKind.i64 n4), C.t (T.seq (3 : Nat) (Tm.tsL ks4))]]) by simp [*])) (gl))
  exact .tp [t0, t1, .mT, .mT, .mT, .mT, .mT, .mT, .mT, .mT, .a (g2), .mT, t12, .mT, .a (g), .mT, .mT, .mT, t18, t19, .c (rfl : (R.length + (1 : Nat)) = _), t21, .mT, .mT, .mT, t25, t26] (by kernel_rfl)
theorem ss_call (k n n2 : Int) (K R : List Tm) (b f : Int) (hK : K.length ≤ 3) (hn : k = 1 → -1000000 ≤ n ∧ n ≤ 1000000) (hb : -1000 ≤ b ∧ b ≤ 1000) (hn2 : n2 = if k = 1 ∧ n ≥ f then n + b else n) (gl : ssS k n n2 K [] b f 0 (ssX k n2 R)) : Ev pr (.call 142 [tsV k n K, i64 b, i64 f] []) (.val (tsV k n2 R) []) := by
  unfold ssS ssX tsV at *
  have htl : (tcs R).length = R.length := by simp
  have e1 : tcs [] = [] := rfl
  rw [e1] at gl
  simp only [List.length_nil] at gl
  have hf := tcs_fz R
  have ht : List.take R.length (tcs R) = tcs R := List.take_of_length_le (by simp)
  have ht2 : List.take R.length (Tm.tsL R) = Tm.tsL R := List.take_of_length_le (by simp)
  have hlk := tsL_len K
  rw [← hf] at ht2 ⊢
  by_cases c : k = 1
  · by_cases c2 : n ≥ f
    · rw [if_pos ⟨c, c2⟩] at hn2
      have hn := hn c
      subst c hn2
      generalize tcs R = TR at *
      generalize Tm.tsL K = TK at *
      let t1 : Tp pr := .b (show (decide (n ≥ f)) = true by (simp; omega))
      let t2 : Tp pr := .i (wrap_i64 (a := n + b) (by omega) (by omega))
      let t4 : Tp pr := .a (Ev.castq (congrArg (fun x => Q.loop (lq pr (142 : FuncId) (0 : Nat)) (at_ [((1 : Nat), i64 b), ((2 : Nat), i64 f), ((3 : Nat), V.ptr (0 : Nat) (1 : Nat) (0 : Nat) (0 : Nat)), ((6 : Nat), V.ptr (1 : Nat) (1 : Nat) (0 : Nat) (0 : Nat)), ((7 : Nat), V.ptr (2 : Nat) (1 : Nat) (0 : Nat) (0 : Nat)), ((30 : Nat), V.t (T.seq (3 : Nat) TK)), ((31 : Nat), i64 x), ((32 : Nat), i64 (↑(0 : Nat) : Int))] [Ob.box [i64 (1 : Int), i64 n, V.t (T.seq (3 : Nat) TK)], Ob.box [i64 (0 : Int), i64 (0 : Int), V.t T.nils], Ob.box [i64 (1 : Int), i64 (n + b), V.vec (3 : Nat) (0 : Nat) (3 : Nat) (0 : Nat) (0 : Nat)], Ob.vec true (3 : Nat) []] (0 : Nat))) (show ((↑K.length : Int)) = ((↑TK.length : Int)) by omega)) (gl))
      let t5 : Tp pr := .m (show (decide (TR.length = R.length ∧ (0 : Nat) + R.length ≤ R.length)) = true by simp [*])
      let t6 : Tp pr := .n .rows (show (List.map (fun x => List.map C.fz x) (List.take R.length (List.drop (0 : Nat) TR))) = List.take R.length (List.map (fun x => List.map C.fz x) TR) by simp)
      exact .tpe [.bT, t1, t2, .i (rfl : ((↑TK.length : Int)) = _), t4, t5, t6] (Out.val (V.agg [V.t (T.int IntKind.i64 (1 : Int)), V.t (T.int IntKind.i64 (n + b)), V.t (T.seq (3 : Nat) (List.take R.length (List.map (fun x => List.map C.fz x) TR)))]) []) (by kernel_rfl) (congrArg (fun x => Out.val (V.agg [V.t (T.int IntKind.i64 (1 : Int)), V.t (T.int IntKind.i64 (n + b)), V.t (T.seq (3 : Nat) x)]) []) (show (List.take R.length (List.map (fun x => List.map C.fz x) TR)) = (List.map (List.map C.fz) TR) by assumption))
    · rw [if_neg (fun h => c2 h.2)] at hn2
      subst c hn2
      generalize tcs R = TR at *
      generalize Tm.tsL K = TK at *
      let t1 : Tp pr := .b (show (decide (n2 ≥ f)) = false by (simp; omega))
      let t3 : Tp pr := .a (Ev.castq (congrArg (fun x => Q.loop (lq pr (142 : FuncId) (0 : Nat)) (at_ [((1 : Nat), i64 b), ((2 : Nat), i64 f), ((3 : Nat), V.ptr (0 : Nat) (1 : Nat) (0 : Nat) (0 : Nat)), ((6 : Nat), V.ptr (1 : Nat) (1 : Nat) (0 : Nat) (0 : Nat)), ((7 : Nat), V.ptr (2 : Nat) (1 : Nat) (0 : Nat) (0 : Nat)), ((30 : Nat), V.t (T.seq (3 : Nat) TK)), ((31 : Nat), i64 x), ((32 : Nat), i64 (↑(0 : Nat) : Int))] [Ob.box [i64 (1 : Int), i64 n2, V.t (T.seq (3 : Nat) TK)], Ob.box [i64 (0 : Int), i64 (0 : Int), V.t T.nils], Ob.box [i64 (1 : Int), i64 n2, V.vec (3 : Nat) (0 : Nat) (3 : Nat) (0 : Nat) (0 : Nat)], Ob.vec true (3 : Nat) []] (0 : Nat))) (show ((↑K.length : Int)) = ((↑TK.length : Int)) by omega)) (gl))
      let t4 : Tp pr := .m (show (decide (TR.length = R.length ∧ (0 : Nat) + R.length ≤ R.length)) = true by simp [*])
      let t5 : Tp pr := .n .rows (show (List.map (fun x => List.map C.fz x) (List.take R.length (List.drop (0 : Nat) TR))) = List.take R.length (List.map (fun x => List.map C.fz x) TR) by simp)
      exact .tpe [.bT, t1, .i (rfl : ((↑TK.length : Int)) = _), t3, t4, t5] (Out.val (V.agg [V.t (T.int IntKind.i64 (1 : Int)), V.t (T.int IntKind.i64 n2), V.t (T.seq (3 : Nat) (List.take R.length (List.map (fun x => List.map C.fz x) TR)))]) []) (by kernel_rfl) (congrArg (fun x => Out.val (V.agg [V.t (T.int IntKind.i64 (1 : Int)), V.t (T.int IntKind.i64 n2), V.t (T.seq (3 : Nat) x)]) []) (show (List.take R.length (List.map (fun x => List.map C.fz x) TR)) = (List.map (List.map C.fz) TR) by assumption))
  · rw [if_neg (fun h => c h.1)] at hn2
    subst hn2
    generalize tcs R = TR at *
    generalize Tm.tsL K = TK at *
    let t0 : Tp pr := .b (show (decide (k = (1 : Int))) = false by (simp; omega))
    let t3 : Tp pr := .a (Ev.castq (congrArg (fun x => Q.loop (lq pr (142 : FuncId) (0 : Nat)) (at_ [((1 : Nat), i64 b), ((2 : Nat), i64 f), ((3 : Nat), V.ptr (0 : Nat) (1 : Nat) (0 : Nat) (0 : Nat)), ((6 : Nat), V.ptr (1 : Nat) (1 : Nat) (0 : Nat) (0 : Nat)), ((7 : Nat), V.ptr (2 : Nat) (1 : Nat) (0 : Nat) (0 : Nat)), ((30 : Nat), V.t (T.seq (3 : Nat) TK)), ((31 : Nat), i64 x), ((32 : Nat), i64 (↑(0 : Nat) : Int))] [Ob.box [i64 k, i64 n2, V.t (T.seq (3 : Nat) TK)], Ob.box [i64 (0 : Int), i64 (0 : Int), V.t T.nils], Ob.box [i64 k, i64 n2, V.vec (3 : Nat) (0 : Nat) (3 : Nat) (0 : Nat) (0 : Nat)], Ob.vec true (3 : Nat) []] (0 : Nat))) (show ((↑K.length : Int)) = ((↑TK.length : Int)) by omega)) (gl))
    let t4 : Tp pr := .m (show (decide (TR.length = R.length ∧ (0 : Nat) + R.length ≤ R.length)) = true by simp [*])
    let t5 : Tp pr := .n .rows (show (List.map (fun x => List.map C.fz x) (List.take R.length (List.drop (0 : Nat) TR))) = List.take R.length (List.map (fun x => List.map C.fz x) TR) by simp)
    exact .tpe [t0, .bF, .i (rfl : ((↑TK.length : Int)) = _), t3, t4, t5] (Out.val (V.agg [V.t (T.int IntKind.i64 k), V.t (T.int IntKind.i64 n2), V.t (T.seq (3 : Nat) (List.take R.length (List.map (fun x => List.map C.fz x) TR)))]) []) (by kernel_rfl) (congrArg (fun x => Out.val (V.agg [V.t (T.int IntKind.i64 k), V.t (T.int IntKind.i64 n2), V.t (T.seq (3 : Nat) x)]) []) (show (List.take R.length (List.map (fun x => List.map C.fz x) TR)) = (List.map (List.map C.fz) TR) by assumption))
mutual
theorem l3Shift_ev (b f : Int) (hb : -1000 ≤ b ∧ b ≤ 1000) (hf : 0 ≤ f ∧ f ≤ 1000) : ∀ (t : Tm) (d : Nat), t.shp → (∀ c ∈ t.cells, c.kind = 1 → -1000000 ≤ c.n ∧ c.n ≤ 1000000) → d + t.cells.length ≤ 900000 →
    Ev pr (.call 142 [t.tv, i64 b, i64 (f + d)] []) (.val (t.shift b f d).tv [])
  | .node k n ks, d, hs, hv, hd => by
    obtain ⟨h2, h3⟩ := hs
    have ha := arity_bd k
    simp only [Tm.cells, List.length_cons] at hd
    have hn : k = 1 → -1000000 ≤ n ∧ n ≤ 1000000 := fun c => hv ⟨k, n⟩ (by simp [Tm.cells]) c
    have gl := l3ShiftL_ev b f hb hf k n (if k = 1 ∧ n ≥ f + d then n + b else n) d ks ks [] [] rfl (by omega) (by simp) h3 (fun c hc => hv c (by simp [Tm.cells, hc])) (by omega)
    simp only [List.nil_append, List.length_nil] at gl
    have := ss_call k n _ ks _ b (f + d) (by omega) hn hb rfl gl
    have e : (Tm.shift b f d (.node k n ks)).tv = tsV k (if k = 1 ∧ n ≥ f + d then n + b else n) (Tm.shiftL b f k d 0 ks) := by
      unfold Tm.shift
      by_cases c : k = 1
      · have hks : ks = [] := List.length_eq_zero_iff.1 (by subst c; have : arity 1 = 0 := rfl; omega)
        subst hks
        rw [if_pos c]
        by_cases c2 : n ≥ f + d
        · rw [if_neg (by omega), if_pos ⟨c, c2⟩, c]; rfl
        · rw [if_pos (by omega), if_neg (fun h => c2 h.2)]; rfl
      · rw [if_neg c, if_neg (fun h => c h.1)]; rfl
    rw [e]
    exact this
theorem l3ShiftL_ev (b f : Int) (hb : -1000 ≤ b ∧ b ≤ 1000) (hf : 0 ≤ f ∧ f ≤ 1000) : ∀ (k n n2 : Int) (d : Nat) (K rest dn R : List Tm), K = dn ++ rest → K.length ≤ 3 → R.length = dn.length → Tm.shpL rest → (∀ c ∈ Tm.cellsL rest, c.kind = 1 → -1000000 ≤ c.n ∧ c.n ≤ 1000000) → d + ((Tm.cellsL rest).length + 1) ≤ 900000 →
    ssS k n n2 K R b (f + d) dn.length (ssX k n2 (R ++ Tm.shiftL b f k d dn.length rest))
  | k, n, n2, d, K, [], dn, R, e, h3, hR, hs, hv, hd => by
    rw [List.append_nil] at e
    subst e
    rw [Tm.shiftL, List.append_nil]
    exact ss_end k n n2 K R b _ h3
  | k, n, n2, d, K, x :: rest, dn, R, e, h3, hR, hs, hv, hd => by
    simp only [Tm.cellsL, List.length_append] at hd
    have hbd := bindsAt_le k dn.length
    have hx := cells_pos x
    have hl : K.length = dn.length + (rest.length + 1) := by rw [e]; simp
    have g := l3Shift_ev b f hb hf x (d + bindsAt k dn.length) hs.1 (fun c hc => hv c (by simp [Tm.cellsL, hc])) (by omega)
    have gl := l3ShiftL_ev b f hb hf k n n2 d K rest (dn ++ [x]) (R ++ [x.shift b f (d + bindsAt k dn.length)]) (by rw [e]; simp) h3 (by simp [hR]) hs.2 (fun c hc => hv c (by simp [Tm.cellsL, hc])) (by omega)
    simp only [List.length_append, List.length_singleton, List.append_assoc, List.singleton_append] at gl
    rw [Tm.shiftL]
    have hc : f + ((d + bindsAt k dn.length : Nat) : Int) = f + (d : Int) + bindsAt k dn.length := by omega
    rw [hc] at g
    generalize x.shift b f (d + bindsAt k dn.length) = y at *
    obtain ⟨k2, n3, ks⟩ := x
    obtain ⟨k4, n4, ks4⟩ := y
    exact ss_step k n n2 K dn rest R k2 n3 ks e h3 (by omega) b _ (by omega) k4 n4 ks4 g _ gl
end
def aV (k n : Int) (X : List (List T)) : V := .agg [i64 k, i64 n, .t (.seq 3 X)]
def aT (k n : Int) (X : List (List T)) : List T := [.int .i64 k, .int .i64 n, .seq 3 X]
theorem l7Var_ev (n : Int) : Ev pr (.call 57 [i64 n] []) (.val (aV 1 n []) []) := by
  unfold aV
  exact .tp [] (by kernel_rfl)
theorem l7Lam_ev (k n : Int) (X : List (List T)) : Ev pr (.call 56 [aV k n X] []) (.val (aV 3 0 [aT k n X]) []) := by
  unfold aV aT
  let t1 : Tp pr := .n .rows (show (List.map (fun x => List.map C.fz x) (List.take (1 : Nat) (List.drop (0 : Nat) [[C.t (T.int IntKind.i64 k), C.t (T.int IntKind.i64 n), C.t (T.seq (3 : Nat) X)]]))) = [[(C.t (T.int IntKind.i64 k)).fz, (C.t (T.int IntKind.i64 n)).fz, (C.t (T.seq (3 : Nat) X)).fz]] by simp)
  exact .tp [.mT, t1] (by kernel_rfl)
theorem l7App_ev (k n : Int) (X : List (List T)) (k2 n2 : Int) (X2 : List (List T)) : Ev pr (.call 55 [aV k n X, aV k2 n2 X2] []) (.val (aV 4 0 [aT k n X, aT k2 n2 X2]) []) := by
  unfold aV aT
  let t1 : Tp pr := .n .rows (show (List.map (fun x => List.map C.fz x) (List.take (2 : Nat) (List.drop (0 : Nat) [[C.t (T.int IntKind.i64 k), C.t (T.int IntKind.i64 n), C.t (T.seq (3 : Nat) X)], [C.t (T.int IntKind.i64 k2), C.t (T.int IntKind.i64 n2), C.t (T.seq (3 : Nat) X2)]]))) = [[(C.t (T.int IntKind.i64 k)).fz, (C.t (T.int IntKind.i64 n)).fz, (C.t (T.seq (3 : Nat) X)).fz], [(C.t (T.int IntKind.i64 k2)).fz, (C.t (T.int IntKind.i64 n2)).fz, (C.t (T.seq (3 : Nat) X2)).fz]] by simp)
  exact .tp [.mT, t1] (by kernel_rfl)
theorem l7Two_ev (k n : Int) (k0 n0 : Int) (X0 : List (List T)) (k1 n1 : Int) (X1 : List (List T)) (kd nd : Int) (XD : List (List T)) (p0 q0 : Int) (Y0 : List (List T)) (p1 q1 : Int) (Y1 : List (List T)) (r0 s0 : Int) (Z0 : List (List T)) (r1 s1 : Int) (Z1 : List (List T))
    (g0 : Ev pr (.call 100 [aV k0 n0 X0] []) (.val (aV p0 q0 Y0) [])) (g1 : Ev pr (.call 100 [aV k1 n1 X1] []) (.val (aV p1 q1 Y1) []))
    (h0 : Ev pr (.call 142 [aV p0 q0 Y0, i64 1, i64 0] []) (.val (aV r0 s0 Z0) [])) (h1 : Ev pr (.call 142 [aV p1 q1 Y1, i64 2, i64 0] []) (.val (aV r1 s1 Z1) [])) :
    Ev pr (.call 143 [aV k n [aT k0 n0 X0, aT k1 n1 X1], aV kd nd XD] []) (.val (aV 3 0 [aT 4 0 [aT r0 s0 Z0, aT 3 0 [aT 4 0 [aT r1 s1 Z1, aT 3 0 [aT kd nd XD]]]]]) []) := by
  have l1 := l7Lam_ev kd nd XD
  have p1' := l7App_ev r1 s1 Z1 3 0 [aT kd nd XD]
  have l2 := l7Lam_ev 4 0 [aT r1 s1 Z1, aT 3 0 [aT kd nd XD]]
  have p2 := l7App_ev r0 s0 Z0 3 0 [aT 4 0 [aT r1 s1 Z1, aT 3 0 [aT kd nd XD]]]
  have l3 := l7Lam_ev 4 0 [aT r0 s0 Z0, aT 3 0 [aT 4 0 [aT r1 s1 Z1, aT 3 0 [aT kd nd XD]]]]
  unfold aV aT at *
  let t2 : Tp pr := .g .row (show (lkp [[T.int IntKind.i64 k0, T.int IntKind.i64 n0, T.seq (3 : Nat) X0], [T.int IntKind.i64 k1, T.int IntKind.i64 n1, T.seq (3 : Nat) X1]] (1 : Int)) = some ([T.int IntKind.i64 k1, T.int IntKind.i64 n1, T.seq (3 : Nat) X1]) by simp)
  let t18 : Tp pr := .g .row (show (lkp [[T.int IntKind.i64 k0, T.int IntKind.i64 n0, T.seq (3 : Nat) X0], [T.int IntKind.i64 k1, T.int IntKind.i64 n1, T.seq (3 : Nat) X1]] (0 : Int)) = some ([T.int IntKind.i64 k0, T.int IntKind.i64 n0, T.seq (3 : Nat) X0]) by simp)
  exact .tp [.mT, .mT, t2, .mT, .mT, .a (g1), .mT, .a (h1), .mT, .mT, .a (l1), .mT, .a (p1'), .mT, .mT, .mT, .mT, .mT, t18, .mT, .mT, .a (g0), .mT, .a (h0), .mT, .mT, .a (l2), .mT, .a (p2), .mT, .a (l3), .mT, .mT] (by kernel_rfl)
end Go.Ev

/- A term that hands on, by the reference. -/
namespace Go.Ev
set_option linter.unusedVariables false
set_option linter.unusedSimpArgs false
open Go.Proofs
set_option maxRecDepth 100000
set_option linter.unusedVariables false
set_option linter.unusedSimpArgs false
set_option maxHeartbeats 4000000
@[local simp] theorem lkp_two {α : Type} (x y z : α) (l : List α) : lkp (x :: y :: z :: l) 2 = some z := by simp [lkp]
theorem h7Num (n : Int) (X : List (List T)) : Ev pr (.call 100 [aV 2 n X] []) (.val (aV 3 0 [aT 4 0 [aT 1 0 [], aT 2 n X]]) []) := by
  have v0 := l7Var_ev 0
  have p := l7App_ev 1 0 [] 2 n X
  have l := l7Lam_ev 4 0 [aT 1 0 [], aT 2 n X]
  unfold aV aT at *
  exact .tp [.bT, .a (v0), .mT, .mT, .a (p), .mT, .a (l), .mT, .mT] (by kernel_rfl)
theorem h7Var (n : Int) (hn : 0 ≤ n ∧ n ≤ 1000000) (X : List (List T)) : Ev pr (.call 100 [aV 1 n X] []) (.val (aV 3 0 [aT 4 0 [aT 1 0 [], aT 1 (n + 1) []]]) []) := by
  have v0 := l7Var_ev 0
  have v1 := l7Var_ev (n + 1)
  have p := l7App_ev 1 0 [] 1 (n + 1) []
  have l := l7Lam_ev 4 0 [aT 1 0 [], aT 1 (n + 1) []]
  unfold aV aT at *
  let t6 : Tp pr := .i (wrap_i64 (a := n + (1 : Int)) (by omega) (by omega))
  exact .tp [.bF, .bT, .a (v0), .mT, .mT, .mT, t6, .mT, .a (v1), .mT, .a (p), .mT, .a (l), .mT, .mT] (by kernel_rfl)
section
variable (n k0 n0 : Int) (X0 : List (List T)) (p0 q0 : Int) (Y0 : List (List T)) (r0 s0 : Int) (Z0 : List (List T)) (g0 : Ev pr (.call 100 [aV k0 n0 X0] []) (.val (aV p0 q0 Y0) []))
include g0
theorem h7Lam (h0 : Ev pr (.call 142 [aV p0 q0 Y0, i64 1, i64 1] []) (.val (aV r0 s0 Z0) [])) : Ev pr (.call 100 [aV 3 n [aT k0 n0 X0]] []) (.val (aV 3 0 [aT 4 0 [aT 1 0 [], aT 3 0 [aT r0 s0 Z0]]]) []) := by
  have v0 := l7Var_ev 0
  have l := l7Lam_ev r0 s0 Z0
  have p := l7App_ev 1 0 [] 3 0 [aT r0 s0 Z0]
  have l2 := l7Lam_ev 4 0 [aT 1 0 [], aT 3 0 [aT r0 s0 Z0]]
  unfold aV aT at *
  let t7 : Tp pr := .g .row (show (lkp [[T.int IntKind.i64 k0, T.int IntKind.i64 n0, T.seq (3 : Nat) X0]] (0 : Int)) = some ([T.int IntKind.i64 k0, T.int IntKind.i64 n0, T.seq (3 : Nat) X0]) by simp)
  exact .tp [.bF, .bF, .bT, .a (v0), .mT, .mT, .mT, t7, .mT, .mT, .a (g0), .mT, .a (h0), .mT, .a (l), .mT, .a (p), .mT, .a (l2), .mT, .mT] (by kernel_rfl)
variable (h0 : Ev pr (.call 142 [aV p0 q0 Y0, i64 1, i64 0] []) (.val (aV r0 s0 Z0) [])) (k1 n1 : Int) (X1 : List (List T)) (p1 q1 : Int) (Y1 : List (List T)) (r1 s1 : Int) (Z1 : List (List T)) (g1 : Ev pr (.call 100 [aV k1 n1 X1] []) (.val (aV p1 q1 Y1) []))
include h0 g1
theorem h7Add (h1 : Ev pr (.call 142 [aV p1 q1 Y1, i64 2, i64 0] []) (.val (aV r1 s1 Z1) [])) :
    Ev pr (.call 100 [aV 5 n [aT k0 n0 X0, aT k1 n1 X1]] []) (.val (aV 3 0 [aT 4 0 [aT r0 s0 Z0, aT 3 0 [aT 4 0 [aT r1 s1 Z1, aT 3 0 [aT 4 0 [aT 1 2 [], aT 5 0 [aT 1 1 [], aT 1 0 []]]]]]]]) []) := by
  have v0 := l7Var_ev 0
  have v1 := l7Var_ev 1
  have v2 := l7Var_ev 2
  have p := l7App_ev 1 2 [] 5 0 [aT 1 1 [], aT 1 0 []]
  have w := l7Two_ev 5 n k0 n0 X0 k1 n1 X1 4 0 [aT 1 2 [], aT 5 0 [aT 1 1 [], aT 1 0 []]] p0 q0 Y0 p1 q1 Y1 r0 s0 Z0 r1 s1 Z1 g0 g1 h0 h1
  clear g0 g1 h0 h1
  unfold aV aT at *
  let t11 : Tp pr := .n .rows (show (List.map (fun x => List.map C.fz x) (List.take (2 : Nat) (List.drop (0 : Nat) [[C.t (T.int IntKind.i64 (1 : Int)), C.t (T.int IntKind.i64 (1 : Int)), C.t (T.seq (3 : Nat) [])], [C.t (T.int IntKind.i64 (1 : Int)), C.t (T.int IntKind.i64 (0 : Int)), C.t (T.seq (3 : Nat) [])]]))) = [[(C.t (T.int IntKind.i64 (1 : Int))).fz, (C.t (T.int IntKind.i64 (1 : Int))).fz, (C.t (T.seq (3 : Nat) [])).fz], [(C.t (T.int IntKind.i64 (1 : Int))).fz, (C.t (T.int IntKind.i64 (0 : Int))).fz, (C.t (T.seq (3 : Nat) [])).fz]] by simp)
  exact .tp [.bF, .bF, .bF, .bT, .a (v1), .a (v0), .mT, .a (v2), .mT, .mT, .mT, t11, .a (p), .mT, .a (w), .mT, .mT] (by kernel_rfl)
theorem h7App (h1 : Ev pr (.call 142 [aV p1 q1 Y1, i64 2, i64 0] []) (.val (aV r1 s1 Z1) [])) :
    Ev pr (.call 100 [aV 4 n [aT k0 n0 X0, aT k1 n1 X1]] []) (.val (aV 3 0 [aT 4 0 [aT r0 s0 Z0, aT 3 0 [aT 4 0 [aT r1 s1 Z1, aT 3 0 [aT 4 0 [aT 4 0 [aT 1 1 [], aT 1 0 []], aT 1 2 []]]]]]]) []) := by
  have v0 := l7Var_ev 0
  have v1 := l7Var_ev 1
  have v2 := l7Var_ev 2
  have p := l7App_ev 1 1 [] 1 0 []
  have p2 := l7App_ev 4 0 [aT 1 1 [], aT 1 0 []] 1 2 []
  have w := l7Two_ev 4 n k0 n0 X0 k1 n1 X1 4 0 [aT 4 0 [aT 1 1 [], aT 1 0 []], aT 1 2 []] p0 q0 Y0 p1 q1 Y1 r0 s0 Z0 r1 s1 Z1 g0 g1 h0 h1
  clear g0 g1 h0 h1
  unfold aV aT at *
  exact .tp [.bF, .bF, .bF, .bF, .bT, .mT, .a (v1), .mT, .a (v0), .mT, .a (p), .mT, .a (v2), .mT, .a (p2), .mT, .a (w), .mT, .mT] (by kernel_rfl)
theorem h7Let (h1 : Ev pr (.call 142 [aV p1 q1 Y1, i64 1, i64 1] []) (.val (aV r1 s1 Z1) [])) :
    Ev pr (.call 100 [aV 7 n [aT k0 n0 X0, aT k1 n1 X1]] []) (.val (aV 3 0 [aT 4 0 [aT r0 s0 Z0, aT 3 0 [aT 4 0 [aT r1 s1 Z1, aT 1 1 []]]]]) []) := by
  have v1 := l7Var_ev 1
  have p := l7App_ev r1 s1 Z1 1 1 []
  have l := l7Lam_ev 4 0 [aT r1 s1 Z1, aT 1 1 []]
  have p2' := l7App_ev r0 s0 Z0 3 0 [aT 4 0 [aT r1 s1 Z1, aT 1 1 []]]
  have l2 := l7Lam_ev 4 0 [aT r0 s0 Z0, aT 3 0 [aT 4 0 [aT r1 s1 Z1, aT 1 1 []]]]
  unfold aV aT at *
  let t6 : Tp pr := .g .row (show (lkp [[T.int IntKind.i64 k0, T.int IntKind.i64 n0, T.seq (3 : Nat) X0], [T.int IntKind.i64 k1, T.int IntKind.i64 n1, T.seq (3 : Nat) X1]] (1 : Int)) = some ([T.int IntKind.i64 k1, T.int IntKind.i64 n1, T.seq (3 : Nat) X1]) by simp)
  let t13 : Tp pr := .g .row (show (lkp [[T.int IntKind.i64 k0, T.int IntKind.i64 n0, T.seq (3 : Nat) X0], [T.int IntKind.i64 k1, T.int IntKind.i64 n1, T.seq (3 : Nat) X1]] (0 : Int)) = some ([T.int IntKind.i64 k0, T.int IntKind.i64 n0, T.seq (3 : Nat) X0]) by simp)
  exact .tp [.bF, .bF, .bF, .bF, .bF, .bF, t6, .a (g1), .a (h1), .a (v1), .a (p), .mT, .mT, t13, .mT, .mT, .a (g0), .mT, .a (h0), .mT, .mT, .a (l), .mT, .a (p2'), .mT, .a (l2), .mT, .mT] (by kernel_rfl)
theorem h7If (h1 : Ev pr (.call 142 [aV p1 q1 Y1, i64 2, i64 0] []) (.val (aV r1 s1 Z1) [])) (k2 n2 : Int) (X2 : List (List T)) (p2 q2 : Int) (Y2 : List (List T)) (r2 s2 : Int) (Z2 : List (List T)) (g2 : Ev pr (.call 100 [aV k2 n2 X2] []) (.val (aV p2 q2 Y2) []))
    (h2 : Ev pr (.call 142 [aV p2 q2 Y2, i64 2, i64 0] []) (.val (aV r2 s2 Z2) [])) :
    Ev pr (.call 100 [aV 6 n [aT k0 n0 X0, aT k1 n1 X1, aT k2 n2 X2]] []) (.val (aV 3 0 [aT 4 0 [aT r0 s0 Z0, aT 3 0 [aT 6 0 [aT 1 0 [], aT 4 0 [aT r1 s1 Z1, aT 1 1 []], aT 4 0 [aT r2 s2 Z2, aT 1 1 []]]]]]) []) := by
  have v0 := l7Var_ev 0
  have v1 := l7Var_ev 1
  have p1' := l7App_ev r1 s1 Z1 1 1 []
  have p2' := l7App_ev r2 s2 Z2 1 1 []
  have l := l7Lam_ev 6 0 [aT 1 0 [], aT 4 0 [aT r1 s1 Z1, aT 1 1 []], aT 4 0 [aT r2 s2 Z2, aT 1 1 []]]
  have p3 := l7App_ev r0 s0 Z0 3 0 [aT 6 0 [aT 1 0 [], aT 4 0 [aT r1 s1 Z1, aT 1 1 []], aT 4 0 [aT r2 s2 Z2, aT 1 1 []]]]
  have l2 := l7Lam_ev 4 0 [aT r0 s0 Z0, aT 3 0 [aT 6 0 [aT 1 0 [], aT 4 0 [aT r1 s1 Z1, aT 1 1 []], aT 4 0 [aT r2 s2 Z2, aT 1 1 []]]]]
  unfold aV aT at *
  let t6 : Tp pr := .g .row (show (lkp [[T.int IntKind.i64 k0, T.int IntKind.i64 n0, T.seq (3 : Nat) X0], [T.int IntKind.i64 k1, T.int IntKind.i64 n1, T.seq (3 : Nat) X1], [T.int IntKind.i64 k2, T.int IntKind.i64 n2, T.seq (3 : Nat) X2]] (1 : Int)) = some ([T.int IntKind.i64 k1, T.int IntKind.i64 n1, T.seq (3 : Nat) X1]) by simp)
  let t11 : Tp pr := .g .row (show (lkp [[T.int IntKind.i64 k0, T.int IntKind.i64 n0, T.seq (3 : Nat) X0], [T.int IntKind.i64 k1, T.int IntKind.i64 n1, T.seq (3 : Nat) X1], [T.int IntKind.i64 k2, T.int IntKind.i64 n2, T.seq (3 : Nat) X2]] (2 : Int)) = some ([T.int IntKind.i64 k2, T.int IntKind.i64 n2, T.seq (3 : Nat) X2]) by simp)
  let t26 : Tp pr := .g .row (show (lkp [[T.int IntKind.i64 k0, T.int IntKind.i64 n0, T.seq (3 : Nat) X0], [T.int IntKind.i64 k1, T.int IntKind.i64 n1, T.seq (3 : Nat) X1], [T.int IntKind.i64 k2, T.int IntKind.i64 n2, T.seq (3 : Nat) X2]] (0 : Int)) = some ([T.int IntKind.i64 k0, T.int IntKind.i64 n0, T.seq (3 : Nat) X0]) by simp)
  let t35 : Tp pr := .n .rows (show (List.map (fun x => List.map C.fz x) (List.take (3 : Nat) (List.drop (0 : Nat) [[C.t (T.int IntKind.i64 (1 : Int)), C.t (T.int IntKind.i64 (0 : Int)), C.t (T.seq (3 : Nat) [])], [C.t (T.int IntKind.i64 (4 : Int)), C.t (T.int IntKind.i64 (0 : Int)), C.t (T.seq (3 : Nat) [[T.int IntKind.i64 r1, T.int IntKind.i64 s1, T.seq (3 : Nat) Z1], [T.int IntKind.i64 (1 : Int), T.int IntKind.i64 (1 : Int), T.seq (3 : Nat) []]])], [C.t (T.int IntKind.i64 (4 : Int)), C.t (T.int IntKind.i64 (0 : Int)), C.t (T.seq (3 : Nat) [[T.int IntKind.i64 r2, T.int IntKind.i64 s2, T.seq (3 : Nat) Z2], [T.int IntKind.i64 (1 : Int), T.int IntKind.i64 (1 : Int), T.seq (3 : Nat) []]])]]))) = [[(C.t (T.int IntKind.i64 (1 : Int))).fz, (C.t (T.int IntKind.i64 (0 : Int))).fz, (C.t (T.seq (3 : Nat) [])).fz], [(C.t (T.int IntKind.i64 (4 : Int))).fz, (C.t (T.int IntKind.i64 (0 : Int))).fz, (C.t (T.seq (3 : Nat) [[T.int IntKind.i64 r1, T.int IntKind.i64 s1, T.seq (3 : Nat) Z1], [T.int IntKind.i64 (1 : Int), T.int IntKind.i64 (1 : Int), T.seq (3 : Nat) []]])).fz], [(C.t (T.int IntKind.i64 (4 : Int))).fz, (C.t (T.int IntKind.i64 (0 : Int))).fz, (C.t (T.seq (3 : Nat) [[T.int IntKind.i64 r2, T.int IntKind.i64 s2, T.seq (3 : Nat) Z2], [T.int IntKind.i64 (1 : Int), T.int IntKind.i64 (1 : Int), T.seq (3 : Nat) []]])).fz]] by simp)
  exact .tp [.bF, .bF, .bF, .bF, .bF, .bT, t6, .a (g1), .a (h1), .a (v1), .a (p1'), t11, .a (g2), .a (h2), .a (v1), .a (p2'), .a (v0), .mT, .mT, .mT, .mT, .mT, .mT, .mT, .mT, .mT, t26, .mT, .mT, .a (g0), .mT, .a (h0), .mT, .mT, .mT, t35, .a (l), .mT, .a (p3), .mT, .a (l2), .mT, .mT] (by kernel_rfl)
end
end Go.Ev

/- A term that hands on, by the reference, whole. -/
namespace Go.Ev
set_option linter.unusedVariables false
set_option linter.unusedSimpArgs false
open Go.Proofs
set_option maxRecDepth 100000
set_option linter.unusedVariables false
set_option linter.unusedSimpArgs false
set_option maxHeartbeats 4000000
theorem tv_aV (k n : Int) (ks : List Tm) : Tm.tv (.node k n ks) = aV k n (Tm.tsL ks) := rfl
theorem ts_aT (k n : Int) (ks : List Tm) : Tm.ts (.node k n ks) = aT k n (Tm.tsL ks) := rfl
theorem vbS2 {N : Int} {t : Tm} (h : vb N t.cells) (hN : N ≤ 1000000) : ∀ c ∈ t.cells, c.kind = 1 → -1000000 ≤ c.n ∧ c.n ≤ 1000000 := fun c hc hk => by have := h c hc hk; omega
theorem aritiesS {k : Int} {m : Nat} (h : (m : Int) = arity k) : (m = 0 ∧ (k = 1 ∨ k = 2)) ∨ (m = 1 ∧ k = 3) ∨ (m = 2 ∧ (k = 4 ∨ k = 5 ∨ k = 7)) ∨ (m = 3 ∧ k = 6) := by
  unfold arity at h
  split at h
  · exact .inl ⟨by omega, .inl ‹_›⟩
  split at h
  · exact .inl ⟨by omega, .inr ‹_›⟩
  split at h
  · exact .inr (.inl ⟨by omega, ‹_›⟩)
  split at h
  · exact .inr (.inr (.inl ⟨by omega, .inl ‹_›⟩))
  split at h
  · exact .inr (.inr (.inl ⟨by omega, .inr (.inl ‹_›)⟩))
  split at h
  · exact .inr (.inr (.inl ⟨by omega, .inr (.inr ‹_›)⟩))
  split at h
  · exact .inr (.inr (.inr ⟨by omega, ‹_›⟩))
  · omega
theorem h7_node (k n : Int) (K : List Tm) (hk : (K.length : Int) = arity k) (hv : vb 99 (Tm.cells (.node k n K))) (hs : Tm.shpL K) (hl : (Tm.cells (.node k n K)).length ≤ 1000)
    (g : ∀ x ∈ K, Ev pr (.call 100 [x.tv] []) (.val x.hand.tv [])) : Ev pr (.call 100 [Tm.tv (.node k n K)] []) (.val (handK k n (Tm.handL K)).tv []) := by
  have hvk : vb 99 (Tm.cellsL K) := fun c hc => hv c (by simp [Tm.cells, hc])
  have hb := handL_vb1 hs hvk
  simp only [Tm.cells, List.length_cons] at hl
  have sh : ∀ t ∈ K, ∀ b f : Int, (b = 1 ∨ b = 2) → (f = 0 ∨ f = 1) → Ev pr (.call 142 [t.hand.tv, i64 b, i64 f] []) (.val (t.hand.shift b f 0).tv []) := fun t ht b f hbb hff => by
    obtain ⟨h1, h2, h3⟩ := hb t ht
    have := l3Shift_ev b f (by omega) (by omega) t.hand 0 h1 (vbS2 h2 (by omega)) (by omega)
    simpa using this
  clear hb
  rcases K with _ | ⟨a, _ | ⟨b, _ | ⟨c, _ | ⟨d, r⟩⟩⟩⟩
  · have hc : k = 1 ∨ k = 2 := by rcases aritiesS hk with ⟨_, h⟩ | ⟨h, _⟩ | ⟨h, _⟩ | ⟨h, _⟩ <;> first | exact h | (simp at h)
    rcases hc with rfl | rfl
    · have h0 := hv ⟨1, n⟩ (by simp [Tm.cells]) rfl
      dsimp only at h0
      exact h7Var n (by omega) []
    · exact h7Num n []
  · have hc : k = 3 := by rcases aritiesS hk with ⟨h, _⟩ | ⟨_, h⟩ | ⟨h, _⟩ | ⟨h, _⟩ <;> first | exact h | (simp at h)
    subst hc
    have ga := g a (by simp)
    have sa := sh a (by simp) 1 1 (.inl rfl) (.inr rfl)
    simp only [Tm.handL, handK, if_true]
    generalize Tm.shift 1 1 0 a.hand = ah at *
    generalize a.hand = a' at *
    obtain ⟨ka, na, xa⟩ := a
    obtain ⟨kb, nb, xb⟩ := a'
    obtain ⟨kc, nc, xc⟩ := ah
    exact h7Lam n ka na _ kb nb _ kc nc _ ga sa
  · have hc : k = 4 ∨ k = 5 ∨ k = 7 := by rcases aritiesS hk with ⟨h, _⟩ | ⟨h, _⟩ | ⟨_, h⟩ | ⟨h, _⟩ <;> first | exact h | (simp at h)
    have ga := g a (by simp)
    have gb := g b (by simp)
    have sa := sh a (by simp) 1 0 (.inl rfl) (.inl rfl)
    have sb := sh b (by simp) 2 0 (.inr rfl) (.inl rfl)
    have sb1 := sh b (by simp) 1 1 (.inl rfl) (.inr rfl)
    rcases hc with rfl | rfl | rfl
    · simp only [Tm.handL, handK]
      rw [if_neg (by decide), if_pos trivial]
      generalize Tm.shift 1 0 0 a.hand = ah at *
      generalize Tm.shift 2 0 0 b.hand = bh at *
      clear sb1
      generalize a.hand = a' at *
      generalize b.hand = b' at *
      obtain ⟨k1, n1, x1⟩ := a
      obtain ⟨k2, n2, x2⟩ := a'
      obtain ⟨k3, n3, x3⟩ := ah
      obtain ⟨k4, n4, x4⟩ := b
      obtain ⟨k5, n5, x5⟩ := b'
      obtain ⟨k6, n6, x6⟩ := bh
      exact h7App n k1 n1 _ k2 n2 _ k3 n3 _ ga sa k4 n4 _ k5 n5 _ k6 n6 _ gb sb
    · simp only [Tm.handL, handK]
      rw [if_pos trivial]
      generalize Tm.shift 1 0 0 a.hand = ah at *
      generalize Tm.shift 2 0 0 b.hand = bh at *
      clear sb1
      generalize a.hand = a' at *
      generalize b.hand = b' at *
      obtain ⟨k1, n1, x1⟩ := a
      obtain ⟨k2, n2, x2⟩ := a'
      obtain ⟨k3, n3, x3⟩ := ah
      obtain ⟨k4, n4, x4⟩ := b
      obtain ⟨k5, n5, x5⟩ := b'
      obtain ⟨k6, n6, x6⟩ := bh
      exact h7Add n k1 n1 _ k2 n2 _ k3 n3 _ ga sa k4 n4 _ k5 n5 _ k6 n6 _ gb sb
    · simp only [Tm.handL, handK]
      rw [if_neg (by decide), if_neg (by decide)]
      generalize Tm.shift 1 0 0 a.hand = ah at *
      generalize Tm.shift 1 1 0 b.hand = bh at *
      clear sb
      generalize a.hand = a' at *
      generalize b.hand = b' at *
      obtain ⟨k1, n1, x1⟩ := a
      obtain ⟨k2, n2, x2⟩ := a'
      obtain ⟨k3, n3, x3⟩ := ah
      obtain ⟨k4, n4, x4⟩ := b
      obtain ⟨k5, n5, x5⟩ := b'
      obtain ⟨k6, n6, x6⟩ := bh
      exact h7Let n k1 n1 _ k2 n2 _ k3 n3 _ ga sa k4 n4 _ k5 n5 _ k6 n6 _ gb sb1
  · have hc : k = 6 := by rcases aritiesS hk with ⟨h, _⟩ | ⟨h, _⟩ | ⟨h, _⟩ | ⟨_, h⟩ <;> first | exact h | (simp at h)
    subst hc
    have ga := g a (by simp)
    have gb := g b (by simp)
    have gc := g c (by simp)
    have sa := sh a (by simp) 1 0 (.inl rfl) (.inl rfl)
    have sb := sh b (by simp) 2 0 (.inr rfl) (.inl rfl)
    have sc := sh c (by simp) 2 0 (.inr rfl) (.inl rfl)
    clear sh g hv hvk hs hl hk
    simp only [Tm.handL, handK]
    generalize Tm.shift 1 0 0 a.hand = ah at *
    generalize Tm.shift 2 0 0 b.hand = bh at *
    generalize Tm.shift 2 0 0 c.hand = ch at *
    generalize a.hand = a' at *
    generalize b.hand = b' at *
    generalize c.hand = c' at *
    obtain ⟨k1, n1, x1⟩ := a
    obtain ⟨k2, n2, x2⟩ := a'
    obtain ⟨k3, n3, x3⟩ := ah
    obtain ⟨k4, n4, x4⟩ := b
    obtain ⟨k5, n5, x5⟩ := b'
    obtain ⟨k6, n6, x6⟩ := bh
    obtain ⟨k7, n7, x7⟩ := c
    obtain ⟨k8, n8, x8⟩ := c'
    obtain ⟨k9, n9, x9⟩ := ch
    exact h7If n k1 n1 _ k2 n2 _ k3 n3 _ ga sa k4 n4 _ k5 n5 _ k6 n6 _ gb sb k7 n7 _ k8 n8 _ k9 n9 _ gc sc
  · have := arity_bd k
    simp at hk
    omega
mutual
theorem l7Hand_ev : ∀ (t : Tm), t.shp → vb 99 t.cells → t.cells.length ≤ 1000 → Ev pr (.call 100 [t.tv] []) (.val t.hand.tv [])
  | .node k n ks, hs, hv, hl => by
    rw [Tm.hand]
    exact h7_node k n ks hs.1 hv hs.2 hl (l7HandL_ev ks hs.2 (fun c hc => hv c (by simp [Tm.cells, hc])) (by simp only [Tm.cells, List.length_cons] at hl; omega))
theorem l7HandL_ev : ∀ (ts : List Tm), Tm.shpL ts → vb 99 (Tm.cellsL ts) → (Tm.cellsL ts).length ≤ 1000 → ∀ x ∈ ts, Ev pr (.call 100 [x.tv] []) (.val x.hand.tv [])
  | [], _, _, _, x, hx => by cases hx
  | t :: ts, hs, hv, hl, x, hx => by
    simp only [Tm.cellsL, List.length_append] at hv hl
    have g := l7Hand_ev t hs.1 (vb_left hv) (by omega)
    rcases List.mem_cons.1 hx with rfl | hx
    · exact g
    · exact l7HandL_ev ts hs.2 (vb_right hv) (by omega) x hx
end
end Go.Ev

/- The cells of a term and what is handed on, by the reference. -/
namespace Go.Ev
set_option linter.unusedVariables false
set_option linter.unusedSimpArgs false
open Go.Proofs
set_option maxRecDepth 100000
set_option linter.unusedVariables false
set_option linter.unusedSimpArgs false
set_option maxHeartbeats 4000000
def cvS (l : List Cell) : V := .vec 0 l.length 2 0 l.length
def cmS (l : List Cell) : List Ob := [.vec true 2 (l.map Cell.cc)]
def fltS (k0 : Nat) (K : List Tm) (i : Nat) (l : List Cell) (o : Out) : Prop :=
  Ev pr (.loop (lq pr 54 0) (at_ [(1, cvS l), (16, .t (.seq 3 (Tm.tsL K))), (17, i64 K.length), (18, i64 i)] (cmS l) k0)) o
theorem flt_end (k0 : Nat) (K : List Tm) (l : List Cell) (h0 : k0 = 0 ∨ k0 = 1) : fltS k0 K K.length l (.exit 0 (at_ [(1, cvS l)] (cmS l) k0)) := by
  unfold fltS cvS cmS
  rcases h0 with rfl | rfl
  · let t0 : Tp pr := .b (show (decide ((↑K.length : Int) < (↑K.length : Int))) = false by simp)
    exact .tp [t0] (by kernel_rfl)
  · let t0 : Tp pr := .b (show (decide ((↑K.length : Int) < (↑K.length : Int))) = false by simp)
    exact .tp [t0] (by kernel_rfl)
theorem flt_step (k0 : Nat) (h0 : k0 = 0 ∨ k0 = 1) (K : List Tm) (hK : K.length ≤ 3) (i : Nat) (hi : i < K.length) (k n : Int) (ks : List Tm) (hg : lkp (Tm.tsL K) (i : Int) = some [.int .i64 k, .int .i64 n, .seq 3 (Tm.tsL ks)]) (l l2 : List Cell) (g : Ev pr (.call 54 [tsV k n ks, cvS l] (cmS l)) (.val (cvS l2) (cmS l2)))
    (lo : List Cell) (gl : fltS k0 K (i + 1) l2 (.exit 0 (at_ [(1, cvS lo)] (cmS lo) k0))) : fltS k0 K i l (.exit 0 (at_ [(1, cvS lo)] (cmS lo) k0)) := by
  unfold fltS cvS cmS tsV at *
  generalize Tm.tsL K = TK at *
  rcases h0 with rfl | rfl
  · let t0 : Tp pr := .b (show (decide ((↑i : Int) < (↑K.length : Int))) = true by (simp; omega))
    let t1 : Tp pr := .g .row (show (lkp TK (↑i : Int)) = some ([T.int IntKind.i64 k, T.int IntKind.i64 n, T.seq (3 : Nat) (Tm.tsL ks)]) from hg)
    let t3 : Tp pr := .i (wrap_i64 (a := (↑i : Int) + (1 : Int)) (by omega) (by omega))
    exact .tp [t0, t1, .a (g), t3, .a (gl)] (by kernel_rfl)
  · let t0 : Tp pr := .b (show (decide ((↑i : Int) < (↑K.length : Int))) = true by (simp; omega))
    let t1 : Tp pr := .g .row (show (lkp TK (↑i : Int)) = some ([T.int IntKind.i64 k, T.int IntKind.i64 n, T.seq (3 : Nat) (Tm.tsL ks)]) from hg)
    let t3 : Tp pr := .i (wrap_i64 (a := (↑i : Int) + (1 : Int)) (by omega) (by omega))
    exact .tp [t0, t1, .a (g), t3, .a (gl)] (by kernel_rfl)
theorem flt_node (k n : Int) (K : List Tm) (hK : K.length ≤ 3) (l l2 : List Cell) (hl : l.length ≤ 1000000) (gl : fltS 1 K 0 (l ++ [⟨k, n⟩]) (.exit 0 (at_ [(1, cvS l2)] (cmS l2) 1))) :
    Ev pr (.call 54 [tsV k n K, cvS l] (cmS l)) (.val (cvS l2) (cmS l2)) := by
  unfold fltS cvS cmS tsV at *
  simp only [List.map_append, List.map_cons, List.map_nil, Cell.cc, List.length_append, List.length_singleton] at gl
  have htl := tsL_len K
  have ht : List.take l.length (l.map Cell.cc) = l.map Cell.cc := List.take_of_length_le (by simp)
  have hlm : (l.map Cell.cc).length = l.length := by simp
  generalize Tm.tsL K = TK at *
  generalize l.map Cell.cc = LC at *
  let t1 : Tp pr := .m (show (decide (LC.length = l.length ∧ (0 : Nat) + l.length ≤ l.length ∧ l.length + (1 : Nat) ≤ (4294967296 : Nat))) = true by (simp; omega))
  let t2 : Tp pr := .b (show (decide (l.length + (1 : Nat) ≤ l.length)) = false by simp)
  let t4 : Tp pr := .n .crows (show ((List.take l.length LC).append (List.take (1 : Nat) (List.drop (0 : Nat) [[C.t (T.int IntKind.i64 k), C.t (T.int IntKind.i64 n)]]))) = List.take l.length LC ++ [[C.t (T.int IntKind.i64 k), C.t (T.int IntKind.i64 n)]] by simp)
  let t6 : Tp pr := .a (Ev.castq ((congrArg (fun x => Q.loop (lq pr (54 : FuncId) (0 : Nat)) (at_ [((1 : Nat), V.vec (0 : Nat) (l.length + (1 : Nat)) (2 : Nat) (0 : Nat) (l.length + (1 : Nat))), ((16 : Nat), V.t (T.seq (3 : Nat) TK)), ((17 : Nat), i64 x), ((18 : Nat), i64 (↑(0 : Nat) : Int))] [Ob.vec true (2 : Nat) (LC ++ [[C.t (T.int IntKind.i64 k), C.t (T.int IntKind.i64 n)]])] (1 : Nat))) (show ((↑K.length : Int)) = ((↑TK.length : Int)) by omega)).trans (congrArg (fun x => Q.loop (lq pr (54 : FuncId) (0 : Nat)) (at_ [((1 : Nat), V.vec (0 : Nat) (l.length + (1 : Nat)) (2 : Nat) (0 : Nat) (l.length + (1 : Nat))), ((16 : Nat), V.t (T.seq (3 : Nat) TK)), ((17 : Nat), i64 (↑TK.length : Int)), ((18 : Nat), i64 (↑(0 : Nat) : Int))] [Ob.vec true (2 : Nat) x] (1 : Nat))) (show (LC ++ [[C.t (T.int IntKind.i64 k), C.t (T.int IntKind.i64 n)]]) = ((List.take l.length LC).append [[C.t (T.int IntKind.i64 k), C.t (T.int IntKind.i64 n)]]) by simp [*]))) (gl))
  exact .tp [.mT, t1, t2, .c (rfl : (l.length + (1 : Nat)) = _), t4, .i (rfl : ((↑TK.length : Int)) = _), t6] (by kernel_rfl)
theorem flt_node0 (k n : Int) (K : List Tm) (hK : K.length ≤ 3) (l2 : List Cell) (gl : fltS 0 K 0 [⟨k, n⟩] (.exit 0 (at_ [(1, cvS l2)] (cmS l2) 0))) :
    Ev pr (.call 54 [tsV k n K, .t .nils] []) (.val (cvS l2) (cmS l2)) := by
  unfold fltS cvS cmS tsV at *
  simp only [List.map_cons, List.map_nil, Cell.cc, List.length_cons, List.length_nil] at gl
  have htl := tsL_len K
  generalize Tm.tsL K = TK at *
  let t3 : Tp pr := .n .crows (show (List.take (1 : Nat) (List.drop (0 : Nat) [[C.t (T.int IntKind.i64 k), C.t (T.int IntKind.i64 n)]])) = [[C.t (T.int IntKind.i64 k), C.t (T.int IntKind.i64 n)]] by simp)
  let t5 : Tp pr := .a (Ev.castq (congrArg (fun x => Q.loop (lq pr (54 : FuncId) (0 : Nat)) (at_ [((1 : Nat), V.vec (0 : Nat) ((0 : Nat) + (1 : Nat)) (2 : Nat) (0 : Nat) ((0 : Nat) + (1 : Nat))), ((16 : Nat), V.t (T.seq (3 : Nat) TK)), ((17 : Nat), i64 x), ((18 : Nat), i64 (↑(0 : Nat) : Int))] [Ob.vec true (2 : Nat) [[C.t (T.int IntKind.i64 k), C.t (T.int IntKind.i64 n)]]] (0 : Nat))) (show ((↑K.length : Int)) = ((↑TK.length : Int)) by omega)) (gl))
  exact .tp [.mT, .mT, .c (rfl : ((1 : Nat)) = _), t3, .i (rfl : ((↑TK.length : Int)) = _), t5] (by kernel_rfl)
mutual
theorem flat_ev : ∀ (t : Tm) (l : List Cell), t.shp → l.length + t.cells.length ≤ 1000000 → Ev pr (.call 54 [t.tv, cvS l] (cmS l)) (.val (cvS (l ++ t.cells)) (cmS (l ++ t.cells)))
  | .node k n ks, l, hs, hl => by
    have ha := arity_bd k
    have hk := hs.1
    simp only [Tm.cells, List.length_cons] at hl
    have gl := flatL_ev 1 (.inr rfl) ks ks [] (l ++ [⟨k, n⟩]) rfl (by omega) hs.2 (by simp; omega)
    rw [Tm.tv, Tm.cells]
    simp only [List.append_assoc, List.singleton_append, List.length_nil] at gl
    exact flt_node k n ks (by omega) l _ (by omega) gl
theorem flatL_ev : ∀ (k0 : Nat) (h0 : k0 = 0 ∨ k0 = 1) (K rest dn : List Tm) (l : List Cell), K = dn ++ rest → K.length ≤ 3 → Tm.shpL rest → l.length + (Tm.cellsL rest).length ≤ 1000000 → fltS k0 K dn.length l (.exit 0 (at_ [(1, cvS (l ++ Tm.cellsL rest))] (cmS (l ++ Tm.cellsL rest)) k0))
  | k0, h0, K, [], dn, l, e, h3, hs, hl => by
    rw [List.append_nil] at e
    subst e
    rw [Tm.cellsL, List.append_nil]
    exact flt_end k0 K l h0
  | k0, h0, K, x :: rest, dn, l, e, h3, hs, hl => by
    simp only [Tm.cellsL, List.length_append] at hl
    have g := flat_ev x l hs.1 (by omega)
    have gl := flatL_ev k0 h0 K rest (dn ++ [x]) (l ++ x.cells) (by rw [e]; simp) h3 hs.2 (by simp; omega)
    simp only [List.length_append, List.length_singleton, List.append_assoc] at gl
    rw [Tm.cellsL]
    generalize x.cells = xc at *
    obtain ⟨k, n, ks⟩ := x
    exact flt_step k0 h0 K h3 dn.length (by rw [e]; simp) k n ks (by rw [e]; exact tsL_mid dn rest k n ks) l _ g _ gl
end
theorem flat0_ev (t : Tm) (hs : t.shp) (hl : t.cells.length ≤ 1000000) : Ev pr (.call 54 [t.tv, .t .nils] []) (.val (cvS t.cells) (cmS t.cells)) := by
  obtain ⟨k, n, ks⟩ := t
  have ha := arity_bd k
  have hk := hs.1
  simp only [Tm.cells, List.length_cons] at hl
  have gl := flatL_ev 0 (.inl rfl) ks ks [] [⟨k, n⟩] rfl (by omega) hs.2 (by simp; omega)
  rw [Tm.tv, Tm.cells]
  simp only [List.singleton_append, List.length_nil] at gl
  exact flt_node0 k n ks (by omega) _ gl
theorem gtM (L : List (List T)) (k n : Int) (ks : List Tm) (b : Bool) (g : Ev pr (.call 42 [.t (.seq 2 L)] []) (.val (.tup [tsV k n ks, bl b]) [])) : Ev pr (.call 144 [.t (.seq 2 L)] []) (.val (bl b) []) := by
  unfold tsV at g
  exact .tp [.a (g)] (by kernel_rfl)
theorem GoodTermS_ev (l : List Cell) (h2 : l.length ≤ 1048576) : Ev pr (.call 144 [.t (.seq 2 (l.map Cell.ce))] []) (.val (bl (termOf l).isSome) []) := by
  rcases l3Tree_ev l h2 with ⟨e, k, n, ks, g⟩ | ⟨t, e, hl, ho, h6, g⟩
  · rw [e]
    exact gtM _ k n ks _ g
  · rw [e]
    obtain ⟨k, n, ks⟩ := t
    exact gtM _ k n ks _ g
def tellO : Option (List Cell) → Out
  | none => .val (.tup [.t (.seq 2 []), bl false]) []
  | some l => .val (.tup [.t (.seq 2 (l.map Cell.ce)), bl true]) []
theorem tlM (k n : Int) (ks : List Tm) (l : List Cell) (g : Ev pr (.call 54 [tsV k n ks, .t .nils] []) (.val (cvS l) (cmS l))) (b : Bool) (g2 : Ev pr (.call 144 [.t (.seq 2 (l.map Cell.ce))] []) (.val (bl b) [])) :
    Ev pr (.call 101 [tsV k n ks] []) (tellO (if b = true then some l else none)) := by
  have hlen : (l.map Cell.cc).length = l.length := by simp
  have ht : List.take l.length (l.map Cell.cc) = l.map Cell.cc := List.take_of_length_le (by simp)
  have hf : (l.map Cell.cc).map (List.map C.fz) = l.map Cell.ce := by simp [Cell.cc, Cell.ce, C.fz, Function.comp_def]
  rw [← hf] at g2
  unfold cvS cmS tsV at *
  cases b with
  | true =>
    rw [if_pos rfl]
    unfold tellO
    dsimp only
    rw [← hf]
    generalize l.map Cell.cc = LC at *
    let t1 : Tp pr := .m (show (decide (LC.length = l.length ∧ (0 : Nat) + l.length ≤ l.length)) = true by simp [*])
    let t2 : Tp pr := .n .rows (show (List.map (fun x => List.map C.fz x) (List.take l.length (List.drop (0 : Nat) LC))) = List.take l.length (List.map (fun x => List.map C.fz x) LC) by simp)
    let t3 : Tp pr := .a (Ev.castq (congrArg (fun x => Q.call (144 : FuncId) [V.t (T.seq (2 : Nat) x)] []) (show (List.map (List.map C.fz) LC) = (List.take l.length (List.map (fun x => List.map C.fz x) LC)) by simp [*])) (g2))
    exact .tpe [.a (g), t1, t2, t3, .mT, .bF, t1, t2] (Out.val (V.tup [V.t (T.seq (2 : Nat) (List.take l.length (List.map (fun x => List.map C.fz x) LC))), V.t (T.bool true)]) []) (by kernel_rfl) (congrArg (fun x => Out.val (V.tup [V.t (T.seq (2 : Nat) x), V.t (T.bool true)]) []) (show (List.take l.length (List.map (fun x => List.map C.fz x) LC)) = (List.map (List.map C.fz) LC) by simp [*]))
  | false =>
    rw [if_neg (by simp)]
    unfold tellO
    generalize l.map Cell.cc = LC at *
    let t1 : Tp pr := .m (show (decide (LC.length = l.length ∧ (0 : Nat) + l.length ≤ l.length)) = true by simp [*])
    let t2 : Tp pr := .n .rows (show (List.map (fun x => List.map C.fz x) (List.take l.length (List.drop (0 : Nat) LC))) = List.take l.length (List.map (fun x => List.map C.fz x) LC) by simp)
    let t3 : Tp pr := .a (Ev.castq (congrArg (fun x => Q.call (144 : FuncId) [V.t (T.seq (2 : Nat) x)] []) (show (List.map (List.map C.fz) LC) = (List.take l.length (List.map (fun x => List.map C.fz x) LC)) by simp [*])) (g2))
    exact .tp [.a (g), t1, t2, t3, .mT, .bT] (by kernel_rfl)
theorem l3Tell_ev (t : Tm) (hs : t.shp) (hl : t.cells.length ≤ 1000000) : Ev pr (.call 101 [t.tv] []) (tellO (goodOf t)) := by
  have g := flat0_ev t hs hl
  have g2 := GoodTermS_ev t.cells (by omega)
  have hg := termOf_cells hs
  have e : goodOf t = if (termOf t.cells).isSome = true then some t.cells else none := by
    unfold goodOf
    by_cases h : t.cells.length ≤ 600 ∧ t.cells.all cellGood = true
    · rw [if_pos h, if_pos (hg.2 h)]
    · rw [if_neg h, if_neg (fun h2 => h (hg.1 h2))]
  rw [e]
  generalize (termOf t.cells).isSome = b at *
  generalize t.cells = l at *
  obtain ⟨k, n, ks⟩ := t
  exact tlM k n ks l g b g2
def ofO : Option Tm → Out
  | none => .val (.tup [tsV 0 0 [], bl false]) []
  | some t => .val (.tup [t.tv, bl true]) []
theorem of_no (L : List (List T)) (k n : Int) (ks : List Tm) (g : Ev pr (.call 42 [.t (.seq 2 L)] []) (.val (.tup [tsV k n ks, bl false]) [])) : Ev pr (.call 53 [.t (.seq 2 L)] []) (ofO none) := by
  unfold ofO tsV at *
  exact .tp [.a (g), .bT, .bT, .bT] (by kernel_rfl)
theorem of_long (L : List (List T)) (h : L.length > 40) (hL : L.length ≤ 1048576) (k n : Int) (ks : List Tm) (g : Ev pr (.call 42 [.t (.seq 2 L)] []) (.val (.tup [tsV k n ks, bl true]) [])) : Ev pr (.call 53 [.t (.seq 2 L)] []) (ofO none) := by
  unfold ofO tsV at *
  let t3 : Tp pr := .b (show (decide ((↑L.length : Int) > (40 : Int))) = true by (simp; omega))
  exact .tp [.a (g), .bF, .i (rfl : ((↑L.length : Int)) = _), t3, .bT] (by kernel_rfl)
section
variable (L : List (List T)) (h : ¬ L.length > 40) (k n : Int) (ks : List Tm) (g : Ev pr (.call 42 [.t (.seq 2 L)] []) (.val (.tup [tsV k n ks, bl true]) [])) (fs : List Int) (g2 : Ev pr (.call 43 [tsV k n ks, i64 0, .t .nils] []) (.val (isq fs) []))
include h g g2
theorem of_free (hf : ¬ fs.length = 0) : Ev pr (.call 53 [.t (.seq 2 L)] []) (ofO none) := by
  unfold ofO tsV at *
  let t3 : Tp pr := .b (show (decide ((↑L.length : Int) > (40 : Int))) = false by (simp; omega))
  let t5 : Tp pr := .i (show ((↑(List.map intt fs).length : Int) : Int) = (↑fs.length : Int) by simp)
  let t6 : Tp pr := .b (show (decide ((↑fs.length : Int) > (0 : Int))) = true by (simp; omega))
  exact .tp [.a (g), .bF, .i (rfl : ((↑L.length : Int)) = _), t3, .a (g2), t5, t6] (by kernel_rfl)
theorem of_bad (hf : fs = []) (k2 n2 : Int) (ks2 : List Tm) (g3 : Ev pr (.call 100 [tsV k n ks] []) (.val (tsV k2 n2 ks2) [])) (g4 : Ev pr (.call 101 [tsV k2 n2 ks2] []) (.val (.tup [.t (.seq 2 []), bl false]) [])) :
    Ev pr (.call 53 [.t (.seq 2 L)] []) (ofO none) := by
  subst hf
  simp only [List.map_nil, isq, sl] at g2
  unfold ofO tsV at *
  let t3 : Tp pr := .b (show (decide ((↑L.length : Int) > (40 : Int))) = false by (simp; omega))
  let t5 : Tp pr := .i (rfl : ((0 : Int) : Int) = (0 : Int))
  exact .tp [.a (g), .bF, .i (rfl : ((↑L.length : Int)) = _), t3, .a (g2), t5, .bF, .a (g3), .a (g4), .bT] (by kernel_rfl)
theorem of_ok (hf : fs = []) (k2 n2 : Int) (ks2 : List Tm) (g3 : Ev pr (.call 100 [tsV k n ks] []) (.val (tsV k2 n2 ks2) [])) (R : List (List T)) (g4 : Ev pr (.call 101 [tsV k2 n2 ks2] []) (.val (.tup [.t (.seq 2 R), bl true]) [])) :
    Ev pr (.call 53 [.t (.seq 2 L)] []) (.val (.tup [tsV k2 n2 ks2, bl true]) []) := by
  subst hf
  simp only [List.map_nil, isq, sl] at g2
  unfold tsV at *
  let t3 : Tp pr := .b (show (decide ((↑L.length : Int) > (40 : Int))) = false by (simp; omega))
  let t5 : Tp pr := .i (rfl : ((0 : Int) : Int) = (0 : Int))
  exact .tp [.a (g), .bF, .i (rfl : ((↑L.length : Int)) = _), t3, .a (g2), t5, .bF, .a (g3), .a (g4), .bF] (by kernel_rfl)
end
def handedT (l : List Cell) : Option Tm :=
  match codeOf l with
  | none => none
  | some t => if l.length > 40 then none else if (goodOf t.hand).isSome = true then some t.hand else none
theorem l7Of_ev (l : List Cell) (h2 : l.length ≤ 1048576) : Ev pr (.call 53 [.t (.seq 2 (l.map Cell.ce))] []) (ofO (handedT l)) := by
  have hcode : codeOf l = match termOf l with
    | some t => if t.frees 0 = [] then some t else none
    | none => none := by
    unfold codeOf termOf
    by_cases c : l.length > 600
    · rw [if_pos c, if_pos c]
    · rw [if_neg c, if_neg c]
      cases readT 601 l with
      | none => rfl
      | some p =>
        obtain ⟨t, r⟩ := p
        cases r <;> rfl
  unfold handedT
  rw [hcode]
  rcases l3Tree_ev l h2 with ⟨e, k, n, ks, g⟩ | ⟨t, e, hl, ho, h6, g⟩
  · rw [e]
    exact of_no _ k n ks g
  · rw [e]
    dsimp only
    have hf := l3Free_ev t 0 true [] ho (by rw [← hl]; omega) (by rw [← hl]; simp; omega) (fun _ => rfl)
    have e1 : isqN true [] = .t .nils := rfl
    have e0 : (i64 ((0 : Nat) : Int)) = i64 0 := rfl
    rw [e1, e0] at hf
    by_cases h4 : l.length > 40
    · have := of_long (l.map Cell.ce) (by simpa using h4) (by simpa using h2)
      have h5 : (match (if t.frees 0 = [] then some t else none : Option Tm) with
        | none => none
        | some t => if l.length > 40 then none else if (goodOf t.hand).isSome = true then some t.hand else none) = none := by
        split
        · rfl
        · rw [if_pos h4]
      rw [h5]
      obtain ⟨k, n, ks⟩ := t
      exact this k n ks g
    · by_cases hfr : t.frees 0 = []
      · rw [if_pos hfr]
        dsimp only
        rw [if_neg h4]
        have hfe : (t.frees 0).foldl insL [] = [] := by rw [hfr]; rfl
        have gh := l7Hand_ev t ho.shp (ok_vb ho) (by rw [← hl]; omega)
        have hh := hand_cells t ho.shp
        have gt := l3Tell_ev t.hand hh.1 (by have := hh.2; rw [← hl] at this; omega)
        generalize t.hand = u at *
        cases hg : goodOf u with
        | none =>
          rw [hg] at gt
          rw [if_neg (by simp)]
          obtain ⟨k, n, ks⟩ := t
          obtain ⟨k2, n2, ks2⟩ := u
          exact of_bad _ (by simpa using h4) k n ks g _ hf hfe k2 n2 ks2 gh gt
        | some c =>
          rw [hg] at gt
          simp only [Option.isSome_some, if_true]
          obtain ⟨k, n, ks⟩ := t
          obtain ⟨k2, n2, ks2⟩ := u
          exact of_ok _ (by simpa using h4) k n ks g _ hf hfe k2 n2 ks2 gh _ gt
      · rw [if_neg hfr]
        obtain ⟨k, n, ks⟩ := t
        exact of_free _ (by simpa using h4) k n ks g _ hf (fun h => hfr ((fold_nil _).1 h))
def rhOS (x : Int × Int × Bool) : Out := .val (.tup [i64 x.1, i64 x.2.1, bl x.2.2]) []
theorem rhs_no (L : List (List T)) (k : Int) (g : Ev pr (.call 53 [.t (.seq 2 L)] []) (ofO none)) : Ev pr (.call 20 [.t (.seq 2 L), i64 k] []) (rhOS (0, 0, false)) := by
  unfold rhOS ofO tsV at *
  exact .tp [.a (g), .bT] (by kernel_rfl)
theorem rhs_ok (L : List (List T)) (k : Int) (k2 n2 : Int) (X : List (List T)) (g : Ev pr (.call 53 [.t (.seq 2 L)] []) (.val (.tup [aV k2 n2 X, bl true]) [])) (l : List Cell)
    (g1 : Ev pr (.call 54 [aV 4 0 [aT k2 n2 X, aT 3 0 [aT 1 0 []]], .t .nils] []) (.val (cvS l) (cmS l))) (x y z : Int) (b : Bool)
    (g2 : Ev pr (.call 10 [.t (.seq 2 (l.map Cell.ce)), i64 k] []) (.val (.tup [i64 x, i64 y, i64 z, bl b]) [])) : Ev pr (.call 20 [.t (.seq 2 L), i64 k] []) (rhOS (if b = true then (x, y, true) else (0, 0, false))) := by
  have v0 := l7Var_ev 0
  have l1 := l7Lam_ev 1 0 []
  have p1 := l7App_ev k2 n2 X 3 0 [aT 1 0 []]
  have hlen : (l.map Cell.cc).length = l.length := by simp
  have ht : List.take l.length (l.map Cell.cc) = l.map Cell.cc := List.take_of_length_le (by simp)
  have hf : (l.map Cell.cc).map (List.map C.fz) = l.map Cell.ce := by simp [Cell.cc, Cell.ce, C.fz, Function.comp_def]
  rw [← hf] at g2
  unfold cvS cmS aV aT at *
  cases b with
  | true =>
    rw [if_pos rfl]
    unfold rhOS
    generalize l.map Cell.cc = LC at *
    let t12 : Tp pr := .m (show (decide (LC.length = l.length ∧ (0 : Nat) + l.length ≤ l.length)) = true by simp [*])
    let t13 : Tp pr := .n .rows (show (List.map (fun x => List.map C.fz x) (List.take l.length (List.drop (0 : Nat) LC))) = List.take l.length (List.map (fun x => List.map C.fz x) LC) by simp)
    let t14 : Tp pr := .a (Ev.castq (congrArg (fun x => Q.call (10 : FuncId) [V.t (T.seq (2 : Nat) x), i64 k] []) (show (List.map (List.map C.fz) LC) = (List.take l.length (List.map (fun x => List.map C.fz x) LC)) by simp [*])) (g2))
    exact .tp [.a (g), .bF, .mT, .a (v0), .mT, .a (l1), .mT, .a (p1), .mT, .a (g1), .mT, .mT, t12, t13, t14, .mT, .mT, .mT, .mT, .mT, .mT, .mT, .mT, .mT, .mT, .bF] (by kernel_rfl)
  | false =>
    rw [if_neg (by simp)]
    unfold rhOS
    generalize l.map Cell.cc = LC at *
    let t12 : Tp pr := .m (show (decide (LC.length = l.length ∧ (0 : Nat) + l.length ≤ l.length)) = true by simp [*])
    let t13 : Tp pr := .n .rows (show (List.map (fun x => List.map C.fz x) (List.take l.length (List.drop (0 : Nat) LC))) = List.take l.length (List.map (fun x => List.map C.fz x) LC) by simp)
    let t14 : Tp pr := .a (Ev.castq (congrArg (fun x => Q.call (10 : FuncId) [V.t (T.seq (2 : Nat) x), i64 k] []) (show (List.map (List.map C.fz) LC) = (List.take l.length (List.map (fun x => List.map C.fz x) LC)) by simp [*])) (g2))
    exact .tp [.a (g), .bF, .mT, .a (v0), .mT, .a (l1), .mT, .a (p1), .mT, .a (g1), .mT, .mT, t12, t13, t14, .mT, .mT, .mT, .mT, .mT, .mT, .mT, .mT, .mT, .mT, .bT] (by kernel_rfl)
theorem runTerm_no (l : List Cell) (k : Int) (h : (runTerm l k).2.2.2 = false) : runTerm l k = (0, 0, 0, false) := by
  unfold runTerm at *
  cases hc : codeOf l with
  | none => rfl
  | some t =>
    rw [hc] at h
    dsimp only at h ⊢
    by_cases hk : 0 ≤ k ∧ k ≤ 2000
    · rw [if_pos hk] at h
      unfold rtEnd at h
      split at h
      · split at h <;> cases h
      · split at h <;> cases h
    · rw [if_neg hk]
theorem goodOf_some {t : Tm} {c : List Cell} (h : goodOf t = some c) : c = t.cells ∧ c.length ≤ 600 := by
  unfold goodOf at h
  split at h
  · rename_i h2
    obtain rfl := Option.some.inj h
    exact ⟨rfl, h2.1⟩
  · cases h
theorem RunHandedS_ev (l : List Cell) (k : Int) (h2 : l.length ≤ 1048576) : Ev pr (.call 20 [.t (.seq 2 (l.map Cell.ce)), i64 k] []) (rhOS (runHanded l k)) := by
  have g := l7Of_ev l h2
  unfold runHanded handed
  unfold handedT at g
  cases hc : codeOf l with
  | none =>
    rw [hc] at g
    exact rhs_no _ k g
  | some t =>
    rw [hc] at g
    dsimp only at g ⊢
    by_cases h4 : l.length > 40
    · rw [if_pos h4] at g ⊢
      exact rhs_no _ k g
    · rw [if_neg h4] at g ⊢
      cases hg : goodOf t.hand with
      | none =>
        rw [hg] at g
        simp only [Option.isSome_none, Bool.false_eq_true, if_false] at g
        exact rhs_no _ k g
      | some c =>
        rw [hg] at g
        simp only [Option.isSome_some, if_true] at g
        dsimp only
        obtain ⟨hcc, hcl⟩ := goodOf_some hg
        have ho : t.shp := by
          have := hc
          unfold codeOf at this
          split at this
          · cases this
          · split at this
            · rename_i t' h'
              split at this
              · obtain rfl := Option.some.inj this
                exact (readT_spec 601 l t' [] h').2.shp
              · cases this
            · cases this
        have hs := (hand_cells t ho).1
        have gf := flat0_ev (tApp t.hand (tLam (tVar 0))) ⟨rfl, hs, ⟨rfl, ⟨rfl, trivial⟩, trivial⟩, trivial⟩ (by
          simp only [tApp, tLam, tVar, Tm.cells, Tm.cellsL, List.length_cons, List.length_append, List.length_nil]
          rw [← hcc]; omega)
        have ec : (tApp t.hand (tLam (tVar 0))).cells = ⟨4, 0⟩ :: (c ++ [⟨3, 0⟩, ⟨1, 0⟩]) := by
          simp [tApp, tLam, tVar, Tm.cells, Tm.cellsL, hcc]
        rw [ec] at gf
        have gr := RunTermS_ev (⟨4, 0⟩ :: (c ++ [⟨3, 0⟩, ⟨1, 0⟩])) k (by simp; omega)
        have hno := runTerm_no (⟨4, 0⟩ :: (c ++ [⟨3, 0⟩, ⟨1, 0⟩])) k
        generalize (⟨4, 0⟩ :: (c ++ [⟨3, 0⟩, ⟨1, 0⟩]) : List Cell) = L at *
        generalize runTerm L k = r at *
        clear hg hcc hs ec ho
        generalize t.hand = u at *
        obtain ⟨k2, n2, ks2⟩ := u
        obtain ⟨r1, r2, r3, r4⟩ := r
        have := rhs_ok _ k k2 n2 _ g L gf r1 r2 r3 r4 gr
        cases r4 with
        | true => exact this
        | false =>
          have := hno rfl
          simp only [Prod.mk.injEq] at this
          obtain ⟨rfl, rfl, rfl, _⟩ := this
          assumption
end Go.Ev

/- What is known by the kit's contracts: slices.Sort; and by the machine: slices.Clone. -/
namespace Go.Ev
set_option linter.unusedVariables false
set_option linter.unusedSimpArgs false
open Go.Proofs
set_option maxRecDepth 100000
set_option linter.unusedVariables false
set_option maxHeartbeats 4000000
theorem follows_ok : pr0.P.follows .mixedOrders = true := by kernel_rfl
theorem len32_ev : Ev pr0 (.call 168 [.t (.int .u32 0)] []) (.val (i64 0) []) := by
  let t2 : Tp pr0 := .i (rfl : ((0 : Int) : Int) = (0 : Int))
  let t3 : Tp pr0 := .g .u8 (show (lkpS (ByteArray.mk #[(0 : UInt8), (1 : UInt8), (2 : UInt8), (2 : UInt8), (3 : UInt8), (3 : UInt8), (3 : UInt8), (3 : UInt8), (4 : UInt8), (4 : UInt8), (4 : UInt8), (4 : UInt8), (4 : UInt8), (4 : UInt8), (4 : UInt8), (4 : UInt8), (5 : UInt8), (5 : UInt8), (5 : UInt8), (5 : UInt8), (5 : UInt8), (5 : UInt8), (5 : UInt8), (5 : UInt8), (5 : UInt8), (5 : UInt8), (5 : UInt8), (5 : UInt8), (5 : UInt8), (5 : UInt8), (5 : UInt8), (5 : UInt8), (6 : UInt8), (6 : UInt8), (6 : UInt8), (6 : UInt8), (6 : UInt8), (6 : UInt8), (6 : UInt8), (6 : UInt8), (6 : UInt8), (6 : UInt8), (6 : UInt8), (6 : UInt8), (6 : UInt8), (6 : UInt8), (6 : UInt8), (6 : UInt8), (6 : UInt8), (6 : UInt8), (6 : UInt8), (6 : UInt8), (6 : UInt8), (6 : UInt8), (6 : UInt8), (6 : UInt8), (6 : UInt8), (6 : UInt8), (6 : UInt8), (6 : UInt8), (6 : UInt8), (6 : UInt8), (6 : UInt8), (6 : UInt8), (7 : UInt8), (7 : UInt8), (7 : UInt8), (7 : UInt8), (7 : UInt8), (7 : UInt8), (7 : UInt8), (7 : UInt8), (7 : UInt8), (7 : UInt8), (7 : UInt8), (7 : UInt8), (7 : UInt8), (7 : UInt8), (7 : UInt8), (7 : UInt8), (7 : UInt8), (7 : UInt8), (7 : UInt8), (7 : UInt8), (7 : UInt8), (7 : UInt8), (7 : UInt8), (7 : UInt8), (7 : UInt8), (7 : UInt8), (7 : UInt8), (7 : UInt8), (7 : UInt8), (7 : UInt8), (7 : UInt8), (7 : UInt8), (7 : UInt8), (7 : UInt8), (7 : UInt8), (7 : UInt8), (7 : UInt8), (7 : UInt8), (7 : UInt8), (7 : UInt8), (7 : UInt8), (7 : UInt8), (7 : UInt8), (7 : UInt8), (7 : UInt8), (7 : UInt8), (7 : UInt8), (7 : UInt8), (7 : UInt8), (7 : UInt8), (7 : UInt8), (7 : UInt8), (7 : UInt8), (7 : UInt8), (7 : UInt8), (7 : UInt8), (7 : UInt8), (7 : UInt8), (7 : UInt8), (7 : UInt8), (7 : UInt8), (7 : UInt8), (7 : UInt8), (7 : UInt8), (8 : UInt8), (8 : UInt8), (8 : UInt8), (8 : UInt8), (8 : UInt8), (8 : UInt8), (8 : UInt8), (8 : UInt8), (8 : UInt8), (8 : UInt8), (8 : UInt8), (8 : UInt8), (8 : UInt8), (8 : UInt8), (8 : UInt8), (8 : UInt8), (8 : UInt8), (8 : UInt8), (8 : UInt8), (8 : UInt8), (8 : UInt8), (8 : UInt8), (8 : UInt8), (8 : UInt8), (8 : UInt8), (8 : UInt8), (8 : UInt8), (8 : UInt8), (8 : UInt8), (8 : UInt8), (8 : UInt8), (8 : UInt8), (8 : UInt8), (8 : UInt8), (8 : UInt8), (8 : UInt8), (8 : UInt8), (8 : UInt8), (8 : UInt8), (8 : UInt8), (8 : UInt8), (8 : UInt8), (8 : UInt8), (8 : UInt8), (8 : UInt8), (8 : UInt8), (8 : UInt8), (8 : UInt8), (8 : UInt8), (8 : UInt8), (8 : UInt8), (8 : UInt8), (8 : UInt8), (8 : UInt8), (8 : UInt8), (8 : UInt8), (8 : UInt8), (8 : UInt8), (8 : UInt8), (8 : UInt8), (8 : UInt8), (8 : UInt8), (8 : UInt8), (8 : UInt8), (8 : UInt8), (8 : UInt8), (8 : UInt8), (8 : UInt8), (8 : UInt8), (8 : UInt8), (8 : UInt8), (8 : UInt8), (8 : UInt8), (8 : UInt8), (8 : UInt8), (8 : UInt8), (8 : UInt8), (8 : UInt8), (8 : UInt8), (8 : UInt8), (8 : UInt8), (8 : UInt8), (8 : UInt8), (8 : UInt8), (8 : UInt8), (8 : UInt8), (8 : UInt8), (8 : UInt8), (8 : UInt8), (8 : UInt8), (8 : UInt8), (8 : UInt8), (8 : UInt8), (8 : UInt8), (8 : UInt8), (8 : UInt8), (8 : UInt8), (8 : UInt8), (8 : UInt8), (8 : UInt8), (8 : UInt8), (8 : UInt8), (8 : UInt8), (8 : UInt8), (8 : UInt8), (8 : UInt8), (8 : UInt8), (8 : UInt8), (8 : UInt8), (8 : UInt8), (8 : UInt8), (8 : UInt8), (8 : UInt8), (8 : UInt8), (8 : UInt8), (8 : UInt8), (8 : UInt8), (8 : UInt8), (8 : UInt8), (8 : UInt8), (8 : UInt8), (8 : UInt8), (8 : UInt8), (8 : UInt8), (8 : UInt8), (8 : UInt8), (8 : UInt8), (8 : UInt8)]) (0 : Int)) = some ((0 : UInt8)) from rfl)
  exact .tp [.bF, .bF, t2, t3, t2, t2] (by kernel_rfl)
theorem len64_ev : Ev pr0 (.call 169 [.t (.int .u64 0)] []) (.val (i64 0) []) := by
  let t3 : Tp pr0 := .i (rfl : ((0 : Int) : Int) = (0 : Int))
  let t4 : Tp pr0 := .g .u8 (show (lkpS (ByteArray.mk #[(0 : UInt8), (1 : UInt8), (2 : UInt8), (2 : UInt8), (3 : UInt8), (3 : UInt8), (3 : UInt8), (3 : UInt8), (4 : UInt8), (4 : UInt8), (4 : UInt8), (4 : UInt8), (4 : UInt8), (4 : UInt8), (4 : UInt8), (4 : UInt8), (5 : UInt8), (5 : UInt8), (5 : UInt8), (5 : UInt8), (5 : UInt8), (5 : UInt8), (5 : UInt8), (5 : UInt8), (5 : UInt8), (5 : UInt8), (5 : UInt8), (5 : UInt8), (5 : UInt8), (5 : UInt8), (5 : UInt8), (5 : UInt8), (6 : UInt8), (6 : UInt8), (6 : UInt8), (6 : UInt8), (6 : UInt8), (6 : UInt8), (6 : UInt8), (6 : UInt8), (6 : UInt8), (6 : UInt8), (6 : UInt8), (6 : UInt8), (6 : UInt8), (6 : UInt8), (6 : UInt8), (6 : UInt8), (6 : UInt8), (6 : UInt8), (6 : UInt8), (6 : UInt8), (6 : UInt8), (6 : UInt8), (6 : UInt8), (6 : UInt8), (6 : UInt8), (6 : UInt8), (6 : UInt8), (6 : UInt8), (6 : UInt8), (6 : UInt8), (6 : UInt8), (6 : UInt8), (7 : UInt8), (7 : UInt8), (7 : UInt8), (7 : UInt8), (7 : UInt8), (7 : UInt8), (7 : UInt8), (7 : UInt8), (7 : UInt8), (7 : UInt8), (7 : UInt8), (7 : UInt8), (7 : UInt8), (7 : UInt8), (7 : UInt8), (7 : UInt8), (7 : UInt8), (7 : UInt8), (7 : UInt8), (7 : UInt8), (7 : UInt8), (7 : UInt8), (7 : UInt8), (7 : UInt8), (7 : UInt8), (7 : UInt8), (7 : UInt8), (7 : UInt8), (7 : UInt8), (7 : UInt8), (7 : UInt8), (7 : UInt8), (7 : UInt8), (7 : UInt8), (7 : UInt8), (7 : UInt8), (7 : UInt8), (7 : UInt8), (7 : UInt8), (7 : UInt8), (7 : UInt8), (7 : UInt8), (7 : UInt8), (7 : UInt8), (7 : UInt8), (7 : UInt8), (7 : UInt8), (7 : UInt8), (7 : UInt8), (7 : UInt8), (7 : UInt8), (7 : UInt8), (7 : UInt8), (7 : UInt8), (7 : UInt8), (7 : UInt8), (7 : UInt8), (7 : UInt8), (7 : UInt8), (7 : UInt8), (7 : UInt8), (7 : UInt8), (7 : UInt8), (7 : UInt8), (8 : UInt8), (8 : UInt8), (8 : UInt8), (8 : UInt8), (8 : UInt8), (8 : UInt8), (8 : UInt8), (8 : UInt8), (8 : UInt8), (8 : UInt8), (8 : UInt8), (8 : UInt8), (8 : UInt8), (8 : UInt8), (8 : UInt8), (8 : UInt8), (8 : UInt8), (8 : UInt8), (8 : UInt8), (8 : UInt8), (8 : UInt8), (8 : UInt8), (8 : UInt8), (8 : UInt8), (8 : UInt8), (8 : UInt8), (8 : UInt8), (8 : UInt8), (8 : UInt8), (8 : UInt8), (8 : UInt8), (8 : UInt8), (8 : UInt8), (8 : UInt8), (8 : UInt8), (8 : UInt8), (8 : UInt8), (8 : UInt8), (8 : UInt8), (8 : UInt8), (8 : UInt8), (8 : UInt8), (8 : UInt8), (8 : UInt8), (8 : UInt8), (8 : UInt8), (8 : UInt8), (8 : UInt8), (8 : UInt8), (8 : UInt8), (8 : UInt8), (8 : UInt8), (8 : UInt8), (8 : UInt8), (8 : UInt8), (8 : UInt8), (8 : UInt8), (8 : UInt8), (8 : UInt8), (8 : UInt8), (8 : UInt8), (8 : UInt8), (8 : UInt8), (8 : UInt8), (8 : UInt8), (8 : UInt8), (8 : UInt8), (8 : UInt8), (8 : UInt8), (8 : UInt8), (8 : UInt8), (8 : UInt8), (8 : UInt8), (8 : UInt8), (8 : UInt8), (8 : UInt8), (8 : UInt8), (8 : UInt8), (8 : UInt8), (8 : UInt8), (8 : UInt8), (8 : UInt8), (8 : UInt8), (8 : UInt8), (8 : UInt8), (8 : UInt8), (8 : UInt8), (8 : UInt8), (8 : UInt8), (8 : UInt8), (8 : UInt8), (8 : UInt8), (8 : UInt8), (8 : UInt8), (8 : UInt8), (8 : UInt8), (8 : UInt8), (8 : UInt8), (8 : UInt8), (8 : UInt8), (8 : UInt8), (8 : UInt8), (8 : UInt8), (8 : UInt8), (8 : UInt8), (8 : UInt8), (8 : UInt8), (8 : UInt8), (8 : UInt8), (8 : UInt8), (8 : UInt8), (8 : UInt8), (8 : UInt8), (8 : UInt8), (8 : UInt8), (8 : UInt8), (8 : UInt8), (8 : UInt8), (8 : UInt8), (8 : UInt8), (8 : UInt8), (8 : UInt8), (8 : UInt8), (8 : UInt8), (8 : UInt8), (8 : UInt8), (8 : UInt8), (8 : UInt8)]) (0 : Int)) = some ((0 : UInt8)) from rfl)
  exact .tp [.bF, .bF, .bF, t3, t4, t3, t3] (by kernel_rfl)
theorem len0_ev : Ev pr0 (.call 140 [.t (.int .u64 0)] []) (.val (i64 0) []) := by
  exact .tp [.bF, .a (len64_ev)] (by kernel_rfl)
theorem insL0_ev : Ev pr0 (.loop (lq pr0 159 0) (at_ [(0, .t (.seq 1 [])), (1, i64 0), (2, i64 0), (6, i64 1)] [] 0)) (.exit 0 (at_ [] [] 0)) := by
  exact .tp [.bF] (by kernel_rfl)
theorem ins0_ev : Ev pr0 (.call 159 [.t (.seq 1 []), i64 0, i64 0] []) (.val (.tup []) []) := by
  let t0 : Tp pr0 := .i (rfl : ((1 : Int) : Int) = (1 : Int))
  exact .tp [t0, .a (insL0_ev)] (by kernel_rfl)
theorem pdqL0_ev : Ev pr0 (.loop (lq pr0 139 0) (at_ [(0, .t (.seq 1 [])), (1, i64 0), (2, i64 0), (3, i64 0), (8, bl true), (9, bl true)] [] 0)) (.ret (at_ [] [] 0)) := by
  let t0 : Tp pr0 := .i (rfl : ((0 : Int) : Int) = (0 : Int))
  exact .tp [t0, .bT, .a (ins0_ev)] (by kernel_rfl)
theorem pdq0_ev : Ev pr0 (.call 139 [.t (.seq 1 []), i64 0, i64 0, i64 0] []) (.val (.tup []) []) := by
  exact .tp [.a (pdqL0_ev)] (by kernel_rfl)
theorem sort0_ev : Ev pr0 (.call 91 [.vec 0 0 1 0 0] [.vec true 1 []]) (.val (.tup []) [.vec true 1 []]) := by
  let t0 : Tp pr0 := .i (rfl : ((0 : Int) : Int) = (0 : Int))
  exact .tp [t0, t0, .a (len0_ev), .mT, .n .rows (rfl : ([]) = _), .a (pdq0_ev), .mT] (by kernel_rfl)
theorem sortp_ok : ∀ (args : List V) (H : List Ob) (v : V) (H' : List Ob), sortPrim args H = some (v, H') → ∀ (w : World) (F : Nat → Prop) (σ : Sg) (cs : Array Value), Wf w F σ (ofL H) → RepL w F σ (ofL H) args cs →
    Calls pr0.P 91 cs w fun e w' => ∃ c F' σ', e = .returned c ∧ Step w F σ (ofL H) w' F' σ' (ofL H') ∧ RepV w' F' σ' (ofL H') v c :=
  sort_ok (pr0 := pr0) follows_ok (fun _ _ h => by cases h) sort0_ev fun blk off cap zs w hH hb hz => Try.slices_Sort_int blk off cap zs w hH hb hz
end Go.Ev

/- slices.Clone at rows of frames, values, bindings: by the machine, and by its contract. -/
namespace Go.Ev
set_option linter.unusedVariables false
set_option linter.unusedSimpArgs false
open Go.Proofs
set_option maxRecDepth 100000
set_option linter.unusedVariables false
set_option maxHeartbeats 4000000
theorem clFrameN_ev : Ev pr0 (.call 108 [.t (.sn true)] []) (.val (.t .nils) []) := by
  exact .tp [.bT] (by kernel_rfl)
theorem clFrameE_ev : Ev pr0 (.call 108 [.t (.sn false)] []) (.val (.vec 0 0 4 0 0) [.vec true 4 []]) := by
  exact .tp [.bF, .mT, .bT, .c (rfl : ((0 : Nat)) = _), .n .crows (rfl : ([]) = _)] (by kernel_rfl)
theorem clFrameL_ev (e : List T) (es : List (List T)) (h : es.length + 1 ≤ 1048576) : Ev pr0 (.call 108 [.t (.seq 4 (e :: es))] []) (.val (.vec 0 (es.length + 1) 4 0 (es.length + 1)) [.vec true 4 ((e :: es).map (List.map C.t))]) := by
  let t2 : Tp pr0 := .m (show (decide ((0 : Nat) = (0 : Nat) ∧ (0 : Nat) ≤ (0 : Nat) ∧ (0 : Nat) + (List.map (fun x => List.map C.t x) (e :: es)).length ≤ (4294967296 : Nat))) = true by (simp; omega))
  let t4 : Tp pr0 := .c (show ((0 : Nat) + (List.map (fun x => List.map C.t x) (e :: es)).length : Nat) = es.length + (1 : Nat) by simp)
  let t5 : Tp pr0 := .n .crows (show ([].append (List.map (fun x => List.map C.t x) (e :: es))) = List.map C.t e :: List.map (fun x => List.map C.t x) es by simp)
  exact .tp [.mT, .bF, t2, .bF, t4, t5] (by kernel_rfl)
theorem clValN_ev : Ev pr0 (.call 109 [.t (.sn true)] []) (.val (.t .nils) []) := by
  exact .tp [.bT] (by kernel_rfl)
theorem clValE_ev : Ev pr0 (.call 109 [.t (.sn false)] []) (.val (.vec 0 0 4 0 0) [.vec true 4 []]) := by
  exact .tp [.bF, .mT, .bT, .c (rfl : ((0 : Nat)) = _), .n .crows (rfl : ([]) = _)] (by kernel_rfl)
theorem clValL_ev (e : List T) (es : List (List T)) (h : es.length + 1 ≤ 1048576) : Ev pr0 (.call 109 [.t (.seq 4 (e :: es))] []) (.val (.vec 0 (es.length + 1) 4 0 (es.length + 1)) [.vec true 4 ((e :: es).map (List.map C.t))]) := by
  let t2 : Tp pr0 := .m (show (decide ((0 : Nat) = (0 : Nat) ∧ (0 : Nat) ≤ (0 : Nat) ∧ (0 : Nat) + (List.map (fun x => List.map C.t x) (e :: es)).length ≤ (4294967296 : Nat))) = true by (simp; omega))
  let t4 : Tp pr0 := .c (show ((0 : Nat) + (List.map (fun x => List.map C.t x) (e :: es)).length : Nat) = es.length + (1 : Nat) by simp)
  let t5 : Tp pr0 := .n .crows (show ([].append (List.map (fun x => List.map C.t x) (e :: es))) = List.map C.t e :: List.map (fun x => List.map C.t x) es by simp)
  exact .tp [.mT, .bF, t2, .bF, t4, t5] (by kernel_rfl)
theorem clBindN_ev : Ev pr0 (.call 110 [.t (.sn true)] []) (.val (.t .nils) []) := by
  exact .tp [.bT] (by kernel_rfl)
theorem clBindE_ev : Ev pr0 (.call 110 [.t (.sn false)] []) (.val (.vec 0 0 2 0 0) [.vec true 2 []]) := by
  exact .tp [.bF, .mT, .bT, .c (rfl : ((0 : Nat)) = _), .n .crows (rfl : ([]) = _)] (by kernel_rfl)
theorem clBindL_ev (e : List T) (es : List (List T)) (h : es.length + 1 ≤ 1048576) : Ev pr0 (.call 110 [.t (.seq 2 (e :: es))] []) (.val (.vec 0 (es.length + 1) 2 0 (es.length + 1)) [.vec true 2 ((e :: es).map (List.map C.t))]) := by
  let t2 : Tp pr0 := .m (show (decide ((0 : Nat) = (0 : Nat) ∧ (0 : Nat) ≤ (0 : Nat) ∧ (0 : Nat) + (List.map (fun x => List.map C.t x) (e :: es)).length ≤ (4294967296 : Nat))) = true by (simp; omega))
  let t4 : Tp pr0 := .c (show ((0 : Nat) + (List.map (fun x => List.map C.t x) (e :: es)).length : Nat) = es.length + (1 : Nat) by simp)
  let t5 : Tp pr0 := .n .crows (show ([].append (List.map (fun x => List.map C.t x) (e :: es))) = List.map C.t e :: List.map (fun x => List.map C.t x) es by simp)
  exact .tp [.mT, .bF, t2, .bF, t4, t5] (by kernel_rfl)
theorem prim_all : PrimOk pr := by
  intro f p hf args H v H' hc w F σ cs wf hr
  have hf' : (if f = 91 then some sortPrim else if f = 108 then some (clonePrimN 4) else if f = 109 then some (clonePrimN 4) else if f = 110 then some (clonePrimN 2) else none) = some p := hf
  split at hf'
  · rename_i e
    subst e
    obtain rfl := Option.some.inj hf'
    exact sortp_ok args H v H' hc w F σ cs wf hr
  split at hf'
  · rename_i e
    subst e
    obtain rfl := Option.some.inj hf'
    exact cloneN_ok (pr0 := pr0) (by omega) follows_ok (fun _ _ h => by cases h) clFrameN_ev clFrameE_ev clFrameL_ev args H v H' hc w F σ cs wf hr
  split at hf'
  · rename_i e
    subst e
    obtain rfl := Option.some.inj hf'
    exact cloneN_ok (pr0 := pr0) (by omega) follows_ok (fun _ _ h => by cases h) clValN_ev clValE_ev clValL_ev args H v H' hc w F σ cs wf hr
  split at hf'
  · rename_i e
    subst e
    obtain rfl := Option.some.inj hf'
    exact cloneN_ok (pr0 := pr0) (by omega) follows_ok (fun _ _ h => by cases h) clBindN_ev clBindE_ev clBindL_ev args H v H' hc w F σ cs wf hr
  · cases hf'
theorem cloneFrame_ev (l : List Frm) (h : l.length ≤ 1048576) : Ev pr (.call 108 [.t (.seq 4 (l.map Frm.ce))] []) (.val (.vec 0 l.length 4 0 l.length) [.vec true 4 (l.map Frm.cc)]) := by
  have h2 : clonePrimN 4 [.t (.seq 4 (l.map Frm.ce))] [] = some (.vec 0 l.length 4 0 l.length, [.vec true 4 (l.map Frm.cc)]) := by
    simp [clonePrimN, h, Frm.ce, Frm.cc, Function.comp_def]
  exact Ev.prim (p := clonePrimN 4) (by kernel_rfl) rfl h2
theorem cloneVal_ev (l : List Vl) (h : l.length ≤ 1048576) : Ev pr (.call 109 [.t (.seq 4 (l.map Vl.ce))] []) (.val (.vec 0 l.length 4 0 l.length) [.vec true 4 (l.map Vl.cc)]) := by
  have h2 : clonePrimN 4 [.t (.seq 4 (l.map Vl.ce))] [] = some (.vec 0 l.length 4 0 l.length, [.vec true 4 (l.map Vl.cc)]) := by
    simp [clonePrimN, h, Vl.ce, Vl.cc, Function.comp_def]
  exact Ev.prim (p := clonePrimN 4) (by kernel_rfl) rfl h2
theorem cloneBind_ev (l : List Bd) (h : l.length ≤ 1048576) : Ev pr (.call 110 [.t (.seq 2 (l.map Bd.ce))] []) (.val (.vec 0 l.length 2 0 l.length) [.vec true 2 (l.map Bd.cc)]) := by
  have h2 : clonePrimN 2 [.t (.seq 2 (l.map Bd.ce))] [] = some (.vec 0 l.length 2 0 l.length, [.vec true 2 (l.map Bd.cc)]) := by
    simp [clonePrimN, h, Bd.ce, Bd.cc, Function.comp_def]
  exact Ev.prim (p := clonePrimN 2) (by kernel_rfl) rfl h2
end Go.Ev

/- Rows of the laws: sizes, copies, comparisons, marks. -/
namespace Go.Ev
set_option linter.unusedVariables false
set_option linter.unusedSimpArgs false
open Go.Proofs
set_option maxRecDepth 100000
set_option linter.unusedVariables false
set_option linter.unusedSimpArgs false
set_option maxHeartbeats 4000000
@[simp high] theorem Cell_get_mid (m : List Cell) (x : Cell) (r : List Cell) : ((m ++ x :: r).map Cell.cc)[m.length]? = some [C.t (.int .i64 x.kind), C.t (.int .i64 x.n)] := by simp [Cell.cc]
@[simp high] theorem Cell_lkp_mid (m : List Cell) (x : Cell) (r : List Cell) : lkp ((m ++ x :: r).map Cell.ce) (m.length : Int) = some [T.int .i64 x.kind, T.int .i64 x.n] := by simp [Cell.ce]
def szCell (l : List Cell) (n : Int) : Int := if n - l.length < 0 then -1 else n - l.length
theorem szCellS_ev (l : List Cell) (n : Int) (h0 : 0 ≤ n) (h1 : n ≤ 1048576) (hl : l.length ≤ 9223372036854775807) : Ev pr (.call 9 [.t (.seq 2 (l.map Cell.ce)), i64 n] []) (.val (i64 (szCell l n)) []) := by
  unfold szCell
  by_cases h : n - l.length < 0
  · rw [if_pos h]
    let t0 : Tp pr := .i (show ((↑(List.map Cell.ce l).length : Int) : Int) = (↑l.length : Int) by simp)
    let t1 : Tp pr := .i (wrap_i64 (a := n - (↑l.length : Int)) (by omega) (by omega))
    let t2 : Tp pr := .b (show (decide (n - (↑l.length : Int) < (0 : Int))) = true by (simp; omega))
    exact .tp [t0, t1, t2] (by kernel_rfl)
  · rw [if_neg h]
    let t0 : Tp pr := .i (show ((↑(List.map Cell.ce l).length : Int) : Int) = (↑l.length : Int) by simp)
    let t1 : Tp pr := .i (wrap_i64 (a := n - (↑l.length : Int)) (by omega) (by omega))
    let t2 : Tp pr := .b (show (decide (n - (↑l.length : Int) < (0 : Int))) = false by (simp; omega))
    exact .tp [t0, t1, t2] (by kernel_rfl)
theorem toCell_ev (x : Cell) : Ev pr (.call 35 [.agg (x.ce.map V.t)] []) (.val (.agg (x.ce.map V.t)) []) := by
  obtain ⟨a0, a1⟩ := x
  exact .tp [] (by kernel_rfl)
theorem toCellL_ev : ∀ (rest m : List Cell), m.length + rest.length ≤ 1048576 → Ev pr (.loop (lq pr 11 0) (at_ [(0, .t (.seq 2 ((m ++ rest).map Cell.ce))), (3, .vec 0 (m.length + rest.length) 2 0 (m.length + rest.length)), (4, i64 m.length)] [.vec true 2 ((m ++ List.replicate rest.length (⟨0, 0⟩ : Cell)).map Cell.cc)] 0))
    (.exit 0 (at_ [(3, .vec 0 (m.length + rest.length) 2 0 (m.length + rest.length))] [.vec true 2 ((m ++ rest).map Cell.cc)] 0))
  | [], m, h => by
    simp only [List.length_nil, List.replicate_zero, Nat.add_zero] at h ⊢
    let t0 : Tp pr := .i (show ((↑(List.map Cell.ce (m ++ [])).length : Int) : Int) = (↑m.length : Int) by simp)
    let t1 : Tp pr := .b (show (decide ((↑m.length : Int) < (↑m.length : Int))) = false by simp)
    exact .tp [t0, t1] (by kernel_rfl)
  | x :: rest, m, h => by
    simp only [List.length_cons] at h
    have ih := toCellL_ev rest (m ++ [x]) (by simp; omega)
    simp only [List.length_append, List.length_singleton, List.append_assoc, List.singleton_append] at ih
    have hx := toCell_ev x
    have hg := Cell_get_mid m (⟨0, 0⟩ : Cell) (List.replicate rest.length (⟨0, 0⟩ : Cell))
    have hs : ((m ++ (⟨0, 0⟩ : Cell) :: List.replicate rest.length (⟨0, 0⟩ : Cell)).map Cell.cc).set m.length x.cc = (m ++ x :: List.replicate rest.length (⟨0, 0⟩ : Cell)).map Cell.cc := by simp
    rw [show List.replicate (x :: rest).length ((⟨0, 0⟩ : Cell)) = (⟨0, 0⟩ : Cell) :: List.replicate rest.length (⟨0, 0⟩ : Cell) from rfl]
    have hl : m.length + (x :: rest).length = m.length + 1 + rest.length := by simp; omega
    rw [hl]
    let t0 : Tp pr := .i (show ((↑(List.map Cell.ce (m ++ x :: rest)).length : Int) : Int) = (↑m.length : Int) + ((↑rest.length : Int) + (1 : Int)) by simp)
    let t1 : Tp pr := .b (show (decide ((↑m.length : Int) < (↑m.length : Int) + ((↑rest.length : Int) + (1 : Int)))) = true by (simp; omega))
    let t2 : Tp pr := .g .row (show (lkp (List.map Cell.ce (m ++ x :: rest)) (↑m.length : Int)) = some (x.ce) by simp)
    let t4 : Tp pr := .m (show (decide ((0 : Int) ≤ (↑m.length : Int) ∧ (↑m.length : Int).toNat < m.length + (1 : Nat) + rest.length)) = true by (simp; omega))
    let t5 : Tp pr := .c (show ((0 : Nat) + (↑m.length : Int).toNat : Nat) = m.length by omega)
    let t6 : Tp pr := .m (show (decide ((List.map Cell.cc (m ++ Cell.mk (0 : Int) (0 : Int) :: List.replicate rest.length (Cell.mk (0 : Int) (0 : Int)))).length = m.length + (1 : Nat) + rest.length)) = true by (simp; omega))
    let t7 : Tp pr := .g .crow (show ((List.map Cell.cc (m ++ Cell.mk (0 : Int) (0 : Int) :: List.replicate rest.length (Cell.mk (0 : Int) (0 : Int))))[m.length]?) = some ([C.t (T.int IntKind.i64 (Cell.mk (0 : Int) (0 : Int)).kind), C.t (T.int IntKind.i64 (Cell.mk (0 : Int) (0 : Int)).n)]) from hg)
    let t8 : Tp pr := .n .crows (show ((List.map Cell.cc (m ++ Cell.mk (0 : Int) (0 : Int) :: List.replicate rest.length (Cell.mk (0 : Int) (0 : Int)))).set m.length [C.t (T.int IntKind.i64 x.kind), C.t (T.int IntKind.i64 x.n)]) = List.map Cell.cc m ++ [C.t (T.int IntKind.i64 x.kind), C.t (T.int IntKind.i64 x.n)] :: List.replicate rest.length (Cell.mk (0 : Int) (0 : Int)).cc by simp)
    let t9 : Tp pr := .i (wrap_i64 (a := (↑m.length : Int) + (1 : Int)) (by omega) (by omega))
    let t10 : Tp pr := .a (Ev.castq (congrArg (fun x_1 => Q.loop (lq pr (11 : FuncId) (0 : Nat)) (at_ [((0 : Nat), V.t (T.seq (2 : Nat) (List.map Cell.ce (m ++ x :: rest)))), ((3 : Nat), V.vec (0 : Nat) (m.length + (1 : Nat) + rest.length) (2 : Nat) (0 : Nat) (m.length + (1 : Nat) + rest.length)), ((4 : Nat), i64 (↑(m.length + (1 : Nat)) : Int))] [Ob.vec true (2 : Nat) x_1] (0 : Nat))) (show (List.map Cell.cc (m ++ x :: List.replicate rest.length (Cell.mk (0 : Int) (0 : Int)))) = ((List.map Cell.cc m).append ([C.t (T.int IntKind.i64 x.kind), C.t (T.int IntKind.i64 x.n)] :: List.replicate rest.length [C.t (T.int IntKind.i64 (0 : Int)), C.t (T.int IntKind.i64 (0 : Int))])) by simp [Cell.cc, Cell.ce])) (ih))
    exact .tp [t0, t1, t2, .a (hx), t4, t5, t6, t7, t8, t9, t10] (by kernel_rfl)
theorem toCellS_ev (l : List Cell) (hl : l.length ≤ 1048576) : Ev pr (.call 11 [.t (.seq 2 (l.map Cell.ce))] []) (.val (.vec 0 l.length 2 0 l.length) [.vec true 2 (l.map Cell.cc)]) := by
  have := toCellL_ev l [] (by simpa using hl)
  simp only [List.length_nil, Nat.zero_add, List.nil_append, List.map_replicate, Cell.cc] at this
  let t0 : Tp pr := .i (show ((↑(List.map Cell.ce l).length : Int) : Int) = (↑l.length : Int) by simp)
  let t1 : Tp pr := .m (show (decide ((0 : Int) ≤ (↑l.length : Int) ∧ (↑l.length : Int) ≤ (↑l.length : Int) ∧ (↑l.length : Int) ≤ (4294967296 : Int))) = true by (simp; omega))
  let t2 : Tp pr := .c (show ((↑l.length : Int).toNat : Nat) = l.length by omega)
  let t3 : Tp pr := .n .crows (rfl : (List.replicate l.length [C.t (T.int IntKind.i64 (0 : Int)), C.t (T.int IntKind.i64 (0 : Int))]) = _)
  exact .tp [t0, t1, t2, t3, .a (this)] (by kernel_rfl)
theorem eqCell_ev (x : Cell) : Ev pr (.call 41 [.agg (x.ce.map V.t), .agg (x.ce.map V.t)] []) (.val (bl true) []) := by
  obtain ⟨a0, a1⟩ := x
  exact .tp [.b (show (a0 != a0) = false by simp), .b (show (a1 != a1) = false by simp)] (by kernel_rfl)
theorem eqCellL_ev : ∀ (rest m : List Cell), m.length + rest.length ≤ 1048576 → Ev pr (.loop (lq pr 13 0) (at_ [(0, .t (.seq 2 ((m ++ rest).map Cell.ce))), (1, .t (.seq 2 ((m ++ rest).map Cell.ce))), (5, i64 m.length)] [] 0)) (.exit 0 (at_ [] [] 0))
  | [], m, h => by
    simp only [List.append_nil]
    let t0 : Tp pr := .i (show ((↑(List.map Cell.ce m).length : Int) : Int) = (↑m.length : Int) by simp)
    let t1 : Tp pr := .b (show (decide ((↑m.length : Int) < (↑m.length : Int))) = false by simp)
    exact .tp [t0, t1] (by kernel_rfl)
  | x :: rest, m, h => by
    simp only [List.length_cons] at h
    have ih := eqCellL_ev rest (m ++ [x]) (by simp; omega)
    simp only [List.length_append, List.length_singleton, List.append_assoc, List.singleton_append] at ih
    have hx := eqCell_ev x
    have hg := Cell_lkp_mid m x rest
    have hlen : ((m ++ x :: rest).map Cell.ce).length = m.length + 1 + rest.length := by simp; omega
    generalize (m ++ x :: rest).map Cell.ce = R at *
    let t1 : Tp pr := .b (show (decide ((↑m.length : Int) < (↑R.length : Int))) = true by (simp; omega))
    let t4 : Tp pr := .g .row (show (lkp R (↑m.length : Int)) = some ([T.int IntKind.i64 x.kind, T.int IntKind.i64 x.n]) from hg)
    let t16 : Tp pr := .i (wrap_i64 (a := (↑m.length : Int) + (1 : Int)) (by omega) (by omega))
    exact .tp [.i (rfl : ((↑R.length : Int)) = _), t1, .mT, .mT, t4, .mT, .mT, .mT, .mT, t4, .mT, .mT, .a (hx), .mT, .mT, .bF, t16, .a (ih)] (by kernel_rfl)
theorem eqCellS_ev (l : List Cell) (h : l.length ≤ 1048576) : Ev pr (.call 13 [.t (.seq 2 (l.map Cell.ce)), .t (.seq 2 (l.map Cell.ce))] []) (.val (bl true) []) := by
  have := eqCellL_ev l [] (by simpa using h)
  simp only [List.length_nil, List.nil_append] at this
  let t0 : Tp pr := .i (show ((↑(List.map Cell.ce l).length : Int) : Int) = (↑l.length : Int) by simp)
  let t2 : Tp pr := .b (show ((↑l.length : Int) != (↑l.length : Int)) = false by simp)
  exact .tp [t0, t0, t2, .a (this)] (by kernel_rfl)
end Go.Ev

/- The law: the program's RunHanded returns what the reference's returns. -/
namespace Go.Ev
set_option linter.unusedVariables false
set_option linter.unusedSimpArgs false
open Go.Proofs
set_option maxRecDepth 100000
set_option linter.unusedVariables false
set_option linter.unusedSimpArgs false
set_option maxHeartbeats 4000000
def Cell.wf (x : Cell) : Prop := (Lit.int .i64 x.kind).wf = true ∧ (Lit.int .i64 x.n).wf = true
theorem prim_none : PrimOk pr := prim_all
theorem law0_ev (l : List Cell) (k : Int) (hl : l.length ≤ 9223372036854775807) : Ev pr (.call 5 [.t (.seq 2 (l.map Cell.ce)), i64 k] []) (.val (bl true) []) := by
  have h0 := szCellS_ev l 1048576 (by omega) (by omega) hl
  unfold szCell at h0
  by_cases hz : (1048576 : Int) - l.length < 0
  · rw [if_pos hz] at h0
    exact .tp [.a (h0), .bT] (by kernel_rfl)
  · rw [if_neg hz] at h0
    have h1 : l.length ≤ 1048576 := by omega
    have g1 := toCellS_ev l h1
    have g2 := RunHandedS_ev l k h1
    have g3 := RunHandedI_ev l k h1
    have g4 := eqCellS_ev l h1
    unfold rhO at g3
    unfold rhOS at g2
    generalize runHanded l k = r at *
    obtain ⟨r1, r2, r3⟩ := r
    let t1 : Tp pr := .b (show (decide ((1048576 : Int) - (↑l.length : Int) < (0 : Int))) = false by (simp; omega))
    let t3 : Tp pr := .m (show (decide ((List.map Cell.cc l).length = l.length ∧ (0 : Nat) + l.length ≤ l.length)) = true by simp)
    let t4 : Tp pr := .n .rows (show (List.map (fun x => List.map C.fz x) (List.take l.length (List.drop (0 : Nat) (List.map Cell.cc l)))) = List.map ((fun x => List.map C.fz x) ∘ Cell.cc) l by simp)
    let t13 : Tp pr := .b (show (!decide (r3 = r3)) = false by simp)
    exact .tp [.a (h0), t1, .a (g1), t3, t4, .a (g2), .a (g1), t3, t4, .a (g3), .mT, .b (show (r1 != r1) = false by simp), .b (show (r2 != r2) = false by simp), t13, .a (g1), t3, t4, t3, t4, .a (g4), .mT, .bF] (by kernel_rfl)
theorem law_ev (l : List Cell) (h : l.length ≤ 9223372036854775807 ∧ ∀ x ∈ l, x.wf) (k : Int) (h3 : (Lit.int .i64 k).wf = true) : Ev pr (.call 5 [.t (.seq 2 (l.map Cell.ce)), i64 k] []) (.val (.t (.bool true)) []) := law0_ev l k h.1
end Go.Ev
