import Derived.Test.YtoinanmhigafgaaKFnExactRunProgram3
/- Expressions: how they are read by the reference. -/
namespace Go.Ev
set_option linter.unusedVariables false
set_option linter.unusedSimpArgs false
open Go.Proofs
set_option maxRecDepth 100000
set_option linter.unusedVariables false
set_option maxHeartbeats 1000000
def rdObs (k nm : Int) (tx : ByteArray) (ks : List (List T)) : List Ob := [Ob.box [i64 0, i64 0, V.t (T.str (ByteArray.mk #[])), V.t T.nils], Ob.box [i64 k, i64 nm, V.t (T.str tx), V.vec 2 ks.length 4 0 ks.length], Ob.vec true 4 (ks.map tc)]
theorem rdL0_ev (l : List Ex) (i k nm : Int) (tx : ByteArray) (ks : List (List T)) : Ev pr (.loop (lq pr 78 0) (at_ [(0, exs l), (1, i64 i), (4, V.ptr 0 1 0 0), (7, V.ptr 1 1 0 0), (8, i64 0)] (rdObs k nm tx ks) 0))
    (.exit 1 (at_ [(1, i64 i), (4, V.ptr 0 1 0 0), (7, V.ptr 1 1 0 0)] (rdObs k nm tx ks) 0)) := by
  exact .tp [.b (rfl : false = false)] (by kernel_rfl)
def rdL1o (l : List Ex) (k nm : Int) (tx : ByteArray) (ks : List (List T)) : Option (E × List Ex) → Out
  | some (a, r1) => .exit 1 (at_ [(1, i64 (l.length - r1.length)), (4, V.ptr 0 1 0 0), (7, V.ptr 1 1 0 0)] (rdObs k nm tx (ks ++ [a.ts])) 0)
  | none => .ret (at_ [(4, V.ptr 0 1 0 0), (5, i64 0)] [Ob.box [i64 0, i64 0, V.t (T.str (ByteArray.mk #[])), V.t T.nils]] 0)
theorem rdL1_ev (l : List Ex) (i k nm : Int) (tx : ByteArray) (ks : List (List T)) (hk : ks.length ≤ 2) (res : Option (E × List Ex)) (h0 : ∀ a r, res = some (a, r) → r.length < l.length)
    (hr : Ev pr (.call 78 [exs l, i64 i] []) (.val (outS l.length res) [])) :
    Ev pr (.loop (lq pr 78 0) (at_ [(0, exs l), (1, i64 i), (4, V.ptr 0 1 0 0), (7, V.ptr 1 1 0 0), (8, i64 1)] (rdObs k nm tx ks) 0)) (rdL1o l k nm tx ks res) := by
  cases res with
  | none => exact .tp [.b (rfl : true = true), .a (hr), .b (rfl : true = true)] (by kernel_rfl)
  | some p =>
    obtain ⟨a, r1⟩ := p
    have := h0 a r1 rfl
    let t2 : Tp pr := .b (show (decide ((↑l.length : Int) - (↑r1.length : Int) = (0 : Int))) = false by (simp; omega))
    let t4 : Tp pr := .m (show (decide ((List.map tc ks).length = ks.length ∧ (0 : Nat) + ks.length ≤ ks.length ∧ ks.length + (1 : Nat) ≤ (4294967296 : Nat))) = true by (simp; omega))
    let t5 : Tp pr := .b (show (decide (ks.length + (1 : Nat) ≤ ks.length)) = false by simp)
    let t7 : Tp pr := .n .crows (show ((List.take ks.length (List.map tc ks)).append (List.take (1 : Nat) (List.drop (0 : Nat) [[C.t (T.int IntKind.i64 a.kind), C.t (T.int IntKind.i64 a.nm), C.t (T.str a.text), C.t (T.seq (4 : Nat) a.kids)]]))) = List.map tc ks ++ [[C.t (T.int IntKind.i64 a.kind), C.t (T.int IntKind.i64 a.nm), C.t (T.str a.text), C.t (T.seq (4 : Nat) a.kids)]] by simp)
    let t8 : Tp pr := .i (rfl : ((0 : Int) : Int) = (0 : Int))
    let t9 : Tp pr := .a (Ev.castq ((congrArg (fun x => Q.loop (lq pr (78 : FuncId) (0 : Nat)) (at_ [((0 : Nat), V.t (T.seq (3 : Nat) (List.map Ex.ce l))), ((1 : Nat), V.t (T.int IntKind.i64 ((↑l.length : Int) - (↑r1.length : Int)))), ((4 : Nat), V.ptr (0 : Nat) (1 : Nat) (0 : Nat) (0 : Nat)), ((7 : Nat), V.ptr (1 : Nat) (1 : Nat) (0 : Nat) (0 : Nat)), ((8 : Nat), V.t (T.int IntKind.i64 (0 : Int)))] [Ob.box [V.t (T.int IntKind.i64 (0 : Int)), V.t (T.int IntKind.i64 (0 : Int)), V.t (T.str (ByteArray.mk #[])), V.t T.nils], Ob.box [V.t (T.int IntKind.i64 k), V.t (T.int IntKind.i64 nm), V.t (T.str tx), V.vec (2 : Nat) (ks ++ [a.ts]).length (4 : Nat) (0 : Nat) (ks ++ [a.ts]).length], Ob.vec true (4 : Nat) x] (0 : Nat))) (show (List.map tc (ks ++ [a.ts])) = ((List.map tc ks).append [[C.t (T.int IntKind.i64 a.kind), C.t (T.int IntKind.i64 a.nm), C.t (T.str a.text), C.t (T.seq (4 : Nat) a.kids)]]) by simp [E.ts, tc])).trans (congrArg (fun x => Q.loop (lq pr (78 : FuncId) (0 : Nat)) (at_ [((0 : Nat), V.t (T.seq (3 : Nat) (List.map Ex.ce l))), ((1 : Nat), V.t (T.int IntKind.i64 ((↑l.length : Int) - (↑r1.length : Int)))), ((4 : Nat), V.ptr (0 : Nat) (1 : Nat) (0 : Nat) (0 : Nat)), ((7 : Nat), V.ptr (1 : Nat) (1 : Nat) (0 : Nat) (0 : Nat)), ((8 : Nat), V.t (T.int IntKind.i64 (0 : Int)))] [Ob.box [V.t (T.int IntKind.i64 (0 : Int)), V.t (T.int IntKind.i64 (0 : Int)), V.t (T.str (ByteArray.mk #[])), V.t T.nils], Ob.box [V.t (T.int IntKind.i64 k), V.t (T.int IntKind.i64 nm), V.t (T.str tx), V.vec (2 : Nat) x (4 : Nat) (0 : Nat) x], Ob.vec true (4 : Nat) ((List.map tc ks).append [[C.t (T.int IntKind.i64 a.kind), C.t (T.int IntKind.i64 a.nm), C.t (T.str a.text), C.t (T.seq (4 : Nat) a.kids)]])] (0 : Nat))) (show ((ks ++ [a.ts]).length) = (ks.length + (1 : Nat)) by simp [E.ts, tc]))) ((rdL0_ev l _ k nm tx (ks ++ [a.ts]))))
    exact .tp [.b (rfl : true = true), .a (hr), t2, .m (rfl : true = true), t4, t5, .c (rfl : (ks.length + (1 : Nat)) = _), t7, t8, t9] (by kernel_rfl)
def rdL2o (l : List Ex) (k nm : Int) (tx : ByteArray) (res2 : List Ex → Option (E × List Ex)) : Option (E × List Ex) → Out
  | some (a, r1) => rdL1o l k nm tx [a.ts] (res2 r1)
  | none => rdL1o l k nm tx [] none
theorem rdL2_ev (l : List Ex) (i k nm : Int) (tx : ByteArray) (res : Option (E × List Ex)) (res2 : List Ex → Option (E × List Ex)) (h0 : ∀ a r, res = some (a, r) → r.length < l.length) (h1 : ∀ b a r r2, res = some (b, r) → res2 r = some (a, r2) → r2.length < l.length)
    (hr : Ev pr (.call 78 [exs l, i64 i] []) (.val (outS l.length res) []))
    (hr2 : ∀ a r, res = some (a, r) → Ev pr (.call 78 [exs l, i64 (l.length - r.length)] []) (.val (outS l.length (res2 r)) [])) :
    Ev pr (.loop (lq pr 78 0) (at_ [(0, exs l), (1, i64 i), (4, V.ptr 0 1 0 0), (7, V.ptr 1 1 0 0), (8, i64 2)] (rdObs k nm tx []) 0))
      (rdL2o l k nm tx res2 res) := by
  cases res with
  | none => exact .tp [.b (rfl : true = true), .a (hr), .b (rfl : true = true)] (by kernel_rfl)
  | some p =>
    obtain ⟨a, r1⟩ := p
    have := h0 a r1 rfl
    have h2 := hr2 a r1 rfl
    have h3 := rdL1_ev l _ k nm tx [a.ts] (by simp) (res2 r1) (fun b r hb => h1 a b r1 r rfl hb) h2
    cases h4 : res2 r1 with
    | none => rw [h4] at h3; simp only [rdL2o, h4]; (
      let t2 : Tp pr := .b (show (decide ((↑l.length : Int) - (↑r1.length : Int) = (0 : Int))) = false by (simp; omega))
      let t7 : Tp pr := .n .crows (show ([].append (List.take (1 : Nat) (List.drop (0 : Nat) [[C.t (T.int IntKind.i64 a.kind), C.t (T.int IntKind.i64 a.nm), C.t (T.str a.text), C.t (T.seq (4 : Nat) a.kids)]]))) = [[C.t (T.int IntKind.i64 a.kind), C.t (T.int IntKind.i64 a.nm), C.t (T.str a.text), C.t (T.seq (4 : Nat) a.kids)]] by simp)
      let t8 : Tp pr := .i (rfl : ((1 : Int) : Int) = (1 : Int))
      exact .tp [.b (rfl : true = true), .a (hr), t2, .m (rfl : true = true), .m (rfl : true = true), .b (rfl : false = false), .c (rfl : ((1 : Nat)) = _), t7, t8, .a (h3)] (by kernel_rfl))
    | some q => 
      obtain ⟨b, r2⟩ := q
      rw [h4] at h3; simp only [rdL2o, h4]; (
        let t2 : Tp pr := .b (show (decide ((↑l.length : Int) - (↑r1.length : Int) = (0 : Int))) = false by (simp; omega))
        let t7 : Tp pr := .n .crows (show ([].append (List.take (1 : Nat) (List.drop (0 : Nat) [[C.t (T.int IntKind.i64 a.kind), C.t (T.int IntKind.i64 a.nm), C.t (T.str a.text), C.t (T.seq (4 : Nat) a.kids)]]))) = [[C.t (T.int IntKind.i64 a.kind), C.t (T.int IntKind.i64 a.nm), C.t (T.str a.text), C.t (T.seq (4 : Nat) a.kids)]] by simp)
        let t8 : Tp pr := .i (rfl : ((1 : Int) : Int) = (1 : Int))
        exact .tp [.b (rfl : true = true), .a (hr), t2, .m (rfl : true = true), .m (rfl : true = true), .b (rfl : false = false), .c (rfl : ((1 : Nat)) = _), t7, t8, .a (h3)] (by kernel_rfl))
theorem l2Read_ev (l : List Ex) (hl : l.length ≤ 1048576) (hs : ∀ x ∈ l, x.text.size ≤ 9223372036854775807) : ∀ (n : Nat) (rest done : List Ex) (i : Int), l = done ++ rest → i = done.length → rest.length ≤ n →
    Ev pr (.call 78 [exs l, i64 i] []) (.val (outS l.length (readE n rest)) [])
  | 0, rest, done, i, h, hi, hn => by
    have : rest = [] := List.length_eq_zero_iff.1 (by omega)
    subst this
    have hll : l.length = done.length := by simp [h]
    let t0 : Tp pr := .i (show ((↑(List.map Ex.ce l).length : Int) : Int) = (↑l.length : Int) by simp)
    let t1 : Tp pr := .b (show (decide (i ≥ (↑l.length : Int))) = true by (simp; omega))
    exact .tp [t0, t1] (by kernel_rfl)
  | n + 1, [], done, i, h, hi, hn => by
    have hll : l.length = done.length := by simp [h]
    let t0 : Tp pr := .i (show ((↑(List.map Ex.ce l).length : Int) : Int) = (↑l.length : Int) by simp)
    let t1 : Tp pr := .b (show (decide (i ≥ (↑l.length : Int))) = true by (simp; omega))
    exact .tp [t0, t1] (by kernel_rfl)
  | n + 1, x :: r, done, i, h, hi, hn => by
    have hx := hs x (by simp [h])
    have hll : l.length = done.length + 1 + r.length := by simp [h]; omega
    have hg : lkp (l.map Ex.ce) i = some x.ce := by subst hi; subst h; simp
    simp at hn
    have ih1 := l2Read_ev l hl hs n r (done ++ [x]) (i + 1) (by simp [h]) (by simp [hi]) (by omega)
    have hlt : ∀ (a : E) (r1 : List Ex), readE n r = some (a, r1) → r1.length < l.length := fun a r1 h1 => by
      have := readE_lt _ _ _ _ h1; omega
    have k0 := rdL0_ev l (i + 1) x.kind x.num x.text []
    have k1 := rdL1_ev l (i + 1) x.kind x.num x.text [] (by simp) (readE n r) hlt ih1
    have k2 := rdL2_ev l (i + 1) x.kind x.num x.text (readE n r) (readE n) hlt (fun b a r1 r2 h1 h2 => by
      have := hlt b r1 h1; have := readE_lt _ _ _ _ h2; omega) ih1 (fun a r1 h1 => by
        obtain ⟨d, hd⟩ := readE_suf _ _ _ _ h1
        have e : (done ++ x :: d).length = l.length - r1.length := by
          have := congrArg List.length hd
          simp at this
          simp; omega
        exact l2Read_ev l hl hs n r1 (done ++ x :: d) _ (by simp [h, ← hd]) (by rw [e]; have := hlt a r1 h1; omega) (by have := readE_lt _ _ _ _ h1; omega))
    cases h1 : readE n r with
    | none =>
      rw [h1] at ih1 k1 k2
      let t0 : Tp pr := .i (show ((↑(List.map Ex.ce l).length : Int) : Int) = (↑l.length : Int) by simp)
      let t1 : Tp pr := .b (show (decide (i ≥ (↑l.length : Int))) = false by (simp; omega))
      let t2 : Tp pr := .g .row (show (lkp (List.map Ex.ce l) i) = some (x.ce) from hg)
      by_cases hc3 : x.kind = (1 : Int)
      · let t3 : Tp pr := .b (show (decide (x.kind = (1 : Int))) = true by simpa using hc3)
        let t4 : Tp pr := .a (l1In_ev (x.num) ((0 : Int)) ((999999999 : Int)))
        by_cases hc5 : (0 : Int) ≤ x.num ∧ x.num ≤ (999999999 : Int)
        · let t5 : Tp pr := .b (show (decide (x.num ≥ (0 : Int)) && decide (x.num ≤ (999999999 : Int))) = true by simpa using hc5)
          by_cases hc6 : x.text = e0
          · let t6 : Tp pr := .b (show (!x.text.toList == []) = false by simpa using hc6)
            let t7 : Tp pr := .i (wrap_i64 (a := i + (1 : Int)) (by omega) (by omega))
            exact .tpe [t0, t1, t2, t3, t4, t5, t6, t7, .a (k0), .m (rfl : true = true), .n .rows (rfl : ([]) = _)] (Out.val (V.tup [V.agg [V.t (T.int IntKind.i64 x.kind), V.t (T.int IntKind.i64 x.num), V.t (T.str x.text), V.t (T.seq (4 : Nat) [])], V.t (T.int IntKind.i64 (i + (1 : Int)))]) []) (by kernel_rfl) ((((congrArg (fun x_1 => Out.val (V.tup [V.agg [V.t (T.int IntKind.i64 x_1), V.t (T.int IntKind.i64 x.num), V.t (T.str x.text), V.t (T.seq (4 : Nat) [])], V.t (T.int IntKind.i64 (i + (1 : Int)))]) []) (show (x.kind) = ((1 : Int)) by assumption)).trans (congrArg (fun x_1 => Out.val (V.tup [V.agg [V.t (T.int IntKind.i64 (1 : Int)), V.t (T.int IntKind.i64 x.num), V.t (T.str x_1), V.t (T.seq (4 : Nat) [])], V.t (T.int IntKind.i64 (i + (1 : Int)))]) []) (show (x.text) = (ByteArray.mk #[]) by assumption))).trans (congrArg (fun x_1 => Out.val (V.tup [V.agg [V.t (T.int IntKind.i64 (1 : Int)), V.t (T.int IntKind.i64 x.num), V.t (T.str (ByteArray.mk #[])), V.t (T.seq (4 : Nat) [])], V.t (T.int IntKind.i64 x_1)]) []) (show (i + (1 : Int)) = ((↑done.length : Int) + ((↑r.length : Int) + (1 : Int)) - (↑r.length : Int)) by omega))).trans (show (Out.val (V.tup [V.agg [V.t (T.int IntKind.i64 (1 : Int)), V.t (T.int IntKind.i64 x.num), V.t (T.str (ByteArray.mk #[])), V.t (T.seq (4 : Nat) [])], V.t (T.int IntKind.i64 ((↑done.length : Int) + ((↑r.length : Int) + (1 : Int)) - (↑r.length : Int)))]) []) = Out.val (outS l.length (readE (n + (1 : Nat)) (x :: r))) [] by simp [readE, outS, vs, E.ts, E.kids, *]))
          · let t6 : Tp pr := .b (show (!x.text.toList == []) = true by simpa using hc6)
            exact .tpe [t0, t1, t2, t3, t4, t5, t6] (Out.val (V.tup [V.agg [V.t (T.int IntKind.i64 (0 : Int)), V.t (T.int IntKind.i64 (0 : Int)), V.t (T.str (ByteArray.mk #[])), V.t (T.seq (4 : Nat) [])], V.t (T.int IntKind.i64 (0 : Int))]) []) (by kernel_rfl) ((rfl).trans (show (Out.val (V.tup [V.agg [V.t (T.int IntKind.i64 (0 : Int)), V.t (T.int IntKind.i64 (0 : Int)), V.t (T.str (ByteArray.mk #[])), V.t (T.seq (4 : Nat) [])], V.t (T.int IntKind.i64 (0 : Int))]) []) = Out.val (outS l.length (readE (n + (1 : Nat)) (x :: r))) [] by simp [readE, outS, vs, E.ts, E.kids, *]))
        · let t5 : Tp pr := .b (show (decide (x.num ≥ (0 : Int)) && decide (x.num ≤ (999999999 : Int))) = false by simpa using hc5)
          exact .tpe [t0, t1, t2, t3, t4, t5, .b (rfl : true = true)] (Out.val (V.tup [V.agg [V.t (T.int IntKind.i64 (0 : Int)), V.t (T.int IntKind.i64 (0 : Int)), V.t (T.str (ByteArray.mk #[])), V.t (T.seq (4 : Nat) [])], V.t (T.int IntKind.i64 (0 : Int))]) []) (by kernel_rfl) ((rfl).trans (show (Out.val (V.tup [V.agg [V.t (T.int IntKind.i64 (0 : Int)), V.t (T.int IntKind.i64 (0 : Int)), V.t (T.str (ByteArray.mk #[])), V.t (T.seq (4 : Nat) [])], V.t (T.int IntKind.i64 (0 : Int))]) []) = Out.val (outS l.length (readE (n + (1 : Nat)) (x :: r))) [] by simp [readE, outS, vs, E.ts, E.kids, *]))
      · let t3 : Tp pr := .b (show (decide (x.kind = (1 : Int))) = false by simpa using hc3)
        by_cases hc4 : x.kind = (2 : Int)
        · let t4 : Tp pr := .b (show (decide (x.kind = (2 : Int))) = true by simpa using hc4)
          let t5 : Tp pr := .a (GoodName_ev (x.text) (by assumption))
          by_cases hc6 : nameOk x.text = true
          · let t6 : Tp pr := .b (show (nameOk x.text) = true by simpa using hc6)
            by_cases hc7 : x.num = (0 : Int)
            · let t7 : Tp pr := .b (show (!decide (x.num = (0 : Int))) = false by simpa using hc7)
              let t8 : Tp pr := .i (wrap_i64 (a := i + (1 : Int)) (by omega) (by omega))
              exact .tpe [t0, t1, t2, t3, t4, t5, t6, t7, t8, .a (k0), .m (rfl : true = true), .n .rows (rfl : ([]) = _)] (Out.val (V.tup [V.agg [V.t (T.int IntKind.i64 x.kind), V.t (T.int IntKind.i64 x.num), V.t (T.str x.text), V.t (T.seq (4 : Nat) [])], V.t (T.int IntKind.i64 (i + (1 : Int)))]) []) (by kernel_rfl) ((((congrArg (fun x_1 => Out.val (V.tup [V.agg [V.t (T.int IntKind.i64 x_1), V.t (T.int IntKind.i64 x.num), V.t (T.str x.text), V.t (T.seq (4 : Nat) [])], V.t (T.int IntKind.i64 (i + (1 : Int)))]) []) (show (x.kind) = ((2 : Int)) by assumption)).trans (congrArg (fun x_1 => Out.val (V.tup [V.agg [V.t (T.int IntKind.i64 (2 : Int)), V.t (T.int IntKind.i64 x_1), V.t (T.str x.text), V.t (T.seq (4 : Nat) [])], V.t (T.int IntKind.i64 (i + (1 : Int)))]) []) (show (x.num) = ((0 : Int)) by assumption))).trans (congrArg (fun x_1 => Out.val (V.tup [V.agg [V.t (T.int IntKind.i64 (2 : Int)), V.t (T.int IntKind.i64 (0 : Int)), V.t (T.str x.text), V.t (T.seq (4 : Nat) [])], V.t (T.int IntKind.i64 x_1)]) []) (show (i + (1 : Int)) = ((↑done.length : Int) + ((↑r.length : Int) + (1 : Int)) - (↑r.length : Int)) by omega))).trans (show (Out.val (V.tup [V.agg [V.t (T.int IntKind.i64 (2 : Int)), V.t (T.int IntKind.i64 (0 : Int)), V.t (T.str x.text), V.t (T.seq (4 : Nat) [])], V.t (T.int IntKind.i64 ((↑done.length : Int) + ((↑r.length : Int) + (1 : Int)) - (↑r.length : Int)))]) []) = Out.val (outS l.length (readE (n + (1 : Nat)) (x :: r))) [] by simp [readE, outS, vs, E.ts, E.kids, *]))
            · let t7 : Tp pr := .b (show (!decide (x.num = (0 : Int))) = true by simpa using hc7)
              exact .tpe [t0, t1, t2, t3, t4, t5, t6, t7] (Out.val (V.tup [V.agg [V.t (T.int IntKind.i64 (0 : Int)), V.t (T.int IntKind.i64 (0 : Int)), V.t (T.str (ByteArray.mk #[])), V.t (T.seq (4 : Nat) [])], V.t (T.int IntKind.i64 (0 : Int))]) []) (by kernel_rfl) ((rfl).trans (show (Out.val (V.tup [V.agg [V.t (T.int IntKind.i64 (0 : Int)), V.t (T.int IntKind.i64 (0 : Int)), V.t (T.str (ByteArray.mk #[])), V.t (T.seq (4 : Nat) [])], V.t (T.int IntKind.i64 (0 : Int))]) []) = Out.val (outS l.length (readE (n + (1 : Nat)) (x :: r))) [] by simp [readE, outS, vs, E.ts, E.kids, *]))
          · let t6 : Tp pr := .b (show (nameOk x.text) = false by simpa using hc6)
            exact .tpe [t0, t1, t2, t3, t4, t5, t6, .b (rfl : true = true)] (Out.val (V.tup [V.agg [V.t (T.int IntKind.i64 (0 : Int)), V.t (T.int IntKind.i64 (0 : Int)), V.t (T.str (ByteArray.mk #[])), V.t (T.seq (4 : Nat) [])], V.t (T.int IntKind.i64 (0 : Int))]) []) (by kernel_rfl) ((rfl).trans (show (Out.val (V.tup [V.agg [V.t (T.int IntKind.i64 (0 : Int)), V.t (T.int IntKind.i64 (0 : Int)), V.t (T.str (ByteArray.mk #[])), V.t (T.seq (4 : Nat) [])], V.t (T.int IntKind.i64 (0 : Int))]) []) = Out.val (outS l.length (readE (n + (1 : Nat)) (x :: r))) [] by simp [readE, outS, vs, E.ts, E.kids, *]))
        · let t4 : Tp pr := .b (show (decide (x.kind = (2 : Int))) = false by simpa using hc4)
          by_cases hc5 : x.kind = (3 : Int)
          · let t5 : Tp pr := .b (show (decide (x.kind = (3 : Int))) = true by simpa using hc5)
            let t6 : Tp pr := .b (show (decide (x.kind = (3 : Int))) = true by (simp; omega))
            by_cases hc7 : x.num = (0 : Int)
            · let t7 : Tp pr := .b (show (decide (x.num = (0 : Int))) = true by simpa using hc7)
              by_cases hc8 : x.text = e0
              · let t8 : Tp pr := .b (show (!x.text.toList == []) = false by simpa using hc8)
                let t9 : Tp pr := .i (wrap_i64 (a := i + (1 : Int)) (by omega) (by omega))
                exact .tpe [t0, t1, t2, t3, t4, t5, t6, t7, t8, t9, .a (k1)] (Out.val (V.tup [V.agg [V.t (T.int IntKind.i64 (0 : Int)), V.t (T.int IntKind.i64 (0 : Int)), V.t (T.str (ByteArray.mk #[])), V.t (T.seq (4 : Nat) [])], V.t (T.int IntKind.i64 (0 : Int))]) []) (by kernel_rfl) ((rfl).trans (show (Out.val (V.tup [V.agg [V.t (T.int IntKind.i64 (0 : Int)), V.t (T.int IntKind.i64 (0 : Int)), V.t (T.str (ByteArray.mk #[])), V.t (T.seq (4 : Nat) [])], V.t (T.int IntKind.i64 (0 : Int))]) []) = Out.val (outS l.length (readE (n + (1 : Nat)) (x :: r))) [] by simp [readE, outS, vs, E.ts, E.kids, *]))
              · let t8 : Tp pr := .b (show (!x.text.toList == []) = true by simpa using hc8)
                exact .tpe [t0, t1, t2, t3, t4, t5, t6, t7, t8] (Out.val (V.tup [V.agg [V.t (T.int IntKind.i64 (0 : Int)), V.t (T.int IntKind.i64 (0 : Int)), V.t (T.str (ByteArray.mk #[])), V.t (T.seq (4 : Nat) [])], V.t (T.int IntKind.i64 (0 : Int))]) []) (by kernel_rfl) ((rfl).trans (show (Out.val (V.tup [V.agg [V.t (T.int IntKind.i64 (0 : Int)), V.t (T.int IntKind.i64 (0 : Int)), V.t (T.str (ByteArray.mk #[])), V.t (T.seq (4 : Nat) [])], V.t (T.int IntKind.i64 (0 : Int))]) []) = Out.val (outS l.length (readE (n + (1 : Nat)) (x :: r))) [] by simp [readE, outS, vs, E.ts, E.kids, *]))
            · let t7 : Tp pr := .b (show (decide (x.num = (0 : Int))) = false by simpa using hc7)
              exact .tpe [t0, t1, t2, t3, t4, t5, t6, t7, .b (rfl : true = true)] (Out.val (V.tup [V.agg [V.t (T.int IntKind.i64 (0 : Int)), V.t (T.int IntKind.i64 (0 : Int)), V.t (T.str (ByteArray.mk #[])), V.t (T.seq (4 : Nat) [])], V.t (T.int IntKind.i64 (0 : Int))]) []) (by kernel_rfl) ((rfl).trans (show (Out.val (V.tup [V.agg [V.t (T.int IntKind.i64 (0 : Int)), V.t (T.int IntKind.i64 (0 : Int)), V.t (T.str (ByteArray.mk #[])), V.t (T.seq (4 : Nat) [])], V.t (T.int IntKind.i64 (0 : Int))]) []) = Out.val (outS l.length (readE (n + (1 : Nat)) (x :: r))) [] by simp [readE, outS, vs, E.ts, E.kids, *]))
          · let t5 : Tp pr := .b (show (decide (x.kind = (3 : Int))) = false by simpa using hc5)
            by_cases hc6 : x.kind = (4 : Int)
            · let t6 : Tp pr := .b (show (decide (x.kind = (4 : Int))) = true by simpa using hc6)
              by_cases hc7 : x.num = (0 : Int)
              · let t7 : Tp pr := .b (show (decide (x.num = (0 : Int))) = true by simpa using hc7)
                by_cases hc8 : x.text = e0
                · let t8 : Tp pr := .b (show (!x.text.toList == []) = false by simpa using hc8)
                  let t9 : Tp pr := .i (wrap_i64 (a := i + (1 : Int)) (by omega) (by omega))
                  exact .tpe [t0, t1, t2, t3, t4, t5, t6, t7, t8, t9, .a (k1)] (Out.val (V.tup [V.agg [V.t (T.int IntKind.i64 (0 : Int)), V.t (T.int IntKind.i64 (0 : Int)), V.t (T.str (ByteArray.mk #[])), V.t (T.seq (4 : Nat) [])], V.t (T.int IntKind.i64 (0 : Int))]) []) (by kernel_rfl) ((rfl).trans (show (Out.val (V.tup [V.agg [V.t (T.int IntKind.i64 (0 : Int)), V.t (T.int IntKind.i64 (0 : Int)), V.t (T.str (ByteArray.mk #[])), V.t (T.seq (4 : Nat) [])], V.t (T.int IntKind.i64 (0 : Int))]) []) = Out.val (outS l.length (readE (n + (1 : Nat)) (x :: r))) [] by simp [readE, outS, vs, E.ts, E.kids, *]))
                · let t8 : Tp pr := .b (show (!x.text.toList == []) = true by simpa using hc8)
                  exact .tpe [t0, t1, t2, t3, t4, t5, t6, t7, t8] (Out.val (V.tup [V.agg [V.t (T.int IntKind.i64 (0 : Int)), V.t (T.int IntKind.i64 (0 : Int)), V.t (T.str (ByteArray.mk #[])), V.t (T.seq (4 : Nat) [])], V.t (T.int IntKind.i64 (0 : Int))]) []) (by kernel_rfl) ((rfl).trans (show (Out.val (V.tup [V.agg [V.t (T.int IntKind.i64 (0 : Int)), V.t (T.int IntKind.i64 (0 : Int)), V.t (T.str (ByteArray.mk #[])), V.t (T.seq (4 : Nat) [])], V.t (T.int IntKind.i64 (0 : Int))]) []) = Out.val (outS l.length (readE (n + (1 : Nat)) (x :: r))) [] by simp [readE, outS, vs, E.ts, E.kids, *]))
              · let t7 : Tp pr := .b (show (decide (x.num = (0 : Int))) = false by simpa using hc7)
                exact .tpe [t0, t1, t2, t3, t4, t5, t6, t7, .b (rfl : true = true)] (Out.val (V.tup [V.agg [V.t (T.int IntKind.i64 (0 : Int)), V.t (T.int IntKind.i64 (0 : Int)), V.t (T.str (ByteArray.mk #[])), V.t (T.seq (4 : Nat) [])], V.t (T.int IntKind.i64 (0 : Int))]) []) (by kernel_rfl) ((rfl).trans (show (Out.val (V.tup [V.agg [V.t (T.int IntKind.i64 (0 : Int)), V.t (T.int IntKind.i64 (0 : Int)), V.t (T.str (ByteArray.mk #[])), V.t (T.seq (4 : Nat) [])], V.t (T.int IntKind.i64 (0 : Int))]) []) = Out.val (outS l.length (readE (n + (1 : Nat)) (x :: r))) [] by simp [readE, outS, vs, E.ts, E.kids, *]))
            · let t6 : Tp pr := .b (show (decide (x.kind = (4 : Int))) = false by simpa using hc6)
              by_cases hc7 : x.kind = (5 : Int)
              · let t7 : Tp pr := .b (show (decide (x.kind = (5 : Int))) = true by simpa using hc7)
                by_cases hc8 : x.num = (0 : Int)
                · let t8 : Tp pr := .b (show (decide (x.num = (0 : Int))) = true by simpa using hc8)
                  by_cases hc10 : strength x.text.toList ≤ (0 : Int)
                  · let t10 : Tp pr := .b (show (!decide (strength x.text.toList > (0 : Int))) = true by simpa using hc10)
                    exact .tpe [t0, t1, t2, t3, t4, t5, t6, t7, t8, .a (l2Strength_ev (x.text)), t10] (Out.val (V.tup [V.agg [V.t (T.int IntKind.i64 (0 : Int)), V.t (T.int IntKind.i64 (0 : Int)), V.t (T.str (ByteArray.mk #[])), V.t (T.seq (4 : Nat) [])], V.t (T.int IntKind.i64 (0 : Int))]) []) (by kernel_rfl) ((rfl).trans (show (Out.val (V.tup [V.agg [V.t (T.int IntKind.i64 (0 : Int)), V.t (T.int IntKind.i64 (0 : Int)), V.t (T.str (ByteArray.mk #[])), V.t (T.seq (4 : Nat) [])], V.t (T.int IntKind.i64 (0 : Int))]) []) = Out.val (outS l.length (readE (n + (1 : Nat)) (x :: r))) [] by simp [readE, outS, vs, E.ts, E.kids, *]))
                  · let t10 : Tp pr := .b (show (!decide (strength x.text.toList > (0 : Int))) = false by simpa using hc10)
                    let t11 : Tp pr := .i (wrap_i64 (a := i + (1 : Int)) (by omega) (by omega))
                    exact .tpe [t0, t1, t2, t3, t4, t5, t6, t7, t8, .a (l2Strength_ev (x.text)), t10, t11, .a (k2)] (Out.val (V.tup [V.agg [V.t (T.int IntKind.i64 (0 : Int)), V.t (T.int IntKind.i64 (0 : Int)), V.t (T.str (ByteArray.mk #[])), V.t (T.seq (4 : Nat) [])], V.t (T.int IntKind.i64 (0 : Int))]) []) (by kernel_rfl) ((rfl).trans (show (Out.val (V.tup [V.agg [V.t (T.int IntKind.i64 (0 : Int)), V.t (T.int IntKind.i64 (0 : Int)), V.t (T.str (ByteArray.mk #[])), V.t (T.seq (4 : Nat) [])], V.t (T.int IntKind.i64 (0 : Int))]) []) = Out.val (outS l.length (readE (n + (1 : Nat)) (x :: r))) [] by simp [readE, outS, vs, E.ts, E.kids, *]))
                · let t8 : Tp pr := .b (show (decide (x.num = (0 : Int))) = false by simpa using hc8)
                  exact .tpe [t0, t1, t2, t3, t4, t5, t6, t7, t8, .b (rfl : true = true)] (Out.val (V.tup [V.agg [V.t (T.int IntKind.i64 (0 : Int)), V.t (T.int IntKind.i64 (0 : Int)), V.t (T.str (ByteArray.mk #[])), V.t (T.seq (4 : Nat) [])], V.t (T.int IntKind.i64 (0 : Int))]) []) (by kernel_rfl) ((rfl).trans (show (Out.val (V.tup [V.agg [V.t (T.int IntKind.i64 (0 : Int)), V.t (T.int IntKind.i64 (0 : Int)), V.t (T.str (ByteArray.mk #[])), V.t (T.seq (4 : Nat) [])], V.t (T.int IntKind.i64 (0 : Int))]) []) = Out.val (outS l.length (readE (n + (1 : Nat)) (x :: r))) [] by simp [readE, outS, vs, E.ts, E.kids, *]))
              · let t7 : Tp pr := .b (show (decide (x.kind = (5 : Int))) = false by simpa using hc7)
                exact .tpe [t0, t1, t2, t3, t4, t5, t6, t7, .b (rfl : true = true)] (Out.val (V.tup [V.agg [V.t (T.int IntKind.i64 (0 : Int)), V.t (T.int IntKind.i64 (0 : Int)), V.t (T.str (ByteArray.mk #[])), V.t (T.seq (4 : Nat) [])], V.t (T.int IntKind.i64 (0 : Int))]) []) (by kernel_rfl) ((rfl).trans (show (Out.val (V.tup [V.agg [V.t (T.int IntKind.i64 (0 : Int)), V.t (T.int IntKind.i64 (0 : Int)), V.t (T.str (ByteArray.mk #[])), V.t (T.seq (4 : Nat) [])], V.t (T.int IntKind.i64 (0 : Int))]) []) = Out.val (outS l.length (readE (n + (1 : Nat)) (x :: r))) [] by simp [readE, outS, vs, E.ts, E.kids, *]))
    | some p =>
      obtain ⟨a, r1⟩ := p
      have hr := readE_lt _ _ _ _ h1
      rw [h1] at ih1 k1 k2
      cases h2 : readE n r1 with
      | none => 
        simp only [rdL2o, h2] at k2
        let t0 : Tp pr := .i (show ((↑(List.map Ex.ce l).length : Int) : Int) = (↑l.length : Int) by simp)
        let t1 : Tp pr := .b (show (decide (i ≥ (↑l.length : Int))) = false by (simp; omega))
        let t2 : Tp pr := .g .row (show (lkp (List.map Ex.ce l) i) = some (x.ce) from hg)
        by_cases hc3 : x.kind = (1 : Int)
        · let t3 : Tp pr := .b (show (decide (x.kind = (1 : Int))) = true by simpa using hc3)
          let t4 : Tp pr := .a (l1In_ev (x.num) ((0 : Int)) ((999999999 : Int)))
          by_cases hc5 : (0 : Int) ≤ x.num ∧ x.num ≤ (999999999 : Int)
          · let t5 : Tp pr := .b (show (decide (x.num ≥ (0 : Int)) && decide (x.num ≤ (999999999 : Int))) = true by simpa using hc5)
            by_cases hc6 : x.text = e0
            · let t6 : Tp pr := .b (show (!x.text.toList == []) = false by simpa using hc6)
              let t7 : Tp pr := .i (wrap_i64 (a := i + (1 : Int)) (by omega) (by omega))
              exact .tpe [t0, t1, t2, t3, t4, t5, t6, t7, .a (k0), .m (rfl : true = true), .n .rows (rfl : ([]) = _)] (Out.val (V.tup [V.agg [V.t (T.int IntKind.i64 x.kind), V.t (T.int IntKind.i64 x.num), V.t (T.str x.text), V.t (T.seq (4 : Nat) [])], V.t (T.int IntKind.i64 (i + (1 : Int)))]) []) (by kernel_rfl) ((((congrArg (fun x_1 => Out.val (V.tup [V.agg [V.t (T.int IntKind.i64 x_1), V.t (T.int IntKind.i64 x.num), V.t (T.str x.text), V.t (T.seq (4 : Nat) [])], V.t (T.int IntKind.i64 (i + (1 : Int)))]) []) (show (x.kind) = ((1 : Int)) by assumption)).trans (congrArg (fun x_1 => Out.val (V.tup [V.agg [V.t (T.int IntKind.i64 (1 : Int)), V.t (T.int IntKind.i64 x.num), V.t (T.str x_1), V.t (T.seq (4 : Nat) [])], V.t (T.int IntKind.i64 (i + (1 : Int)))]) []) (show (x.text) = (ByteArray.mk #[]) by assumption))).trans (congrArg (fun x_1 => Out.val (V.tup [V.agg [V.t (T.int IntKind.i64 (1 : Int)), V.t (T.int IntKind.i64 x.num), V.t (T.str (ByteArray.mk #[])), V.t (T.seq (4 : Nat) [])], V.t (T.int IntKind.i64 x_1)]) []) (show (i + (1 : Int)) = ((↑done.length : Int) + ((↑r.length : Int) + (1 : Int)) - (↑r.length : Int)) by omega))).trans (show (Out.val (V.tup [V.agg [V.t (T.int IntKind.i64 (1 : Int)), V.t (T.int IntKind.i64 x.num), V.t (T.str (ByteArray.mk #[])), V.t (T.seq (4 : Nat) [])], V.t (T.int IntKind.i64 ((↑done.length : Int) + ((↑r.length : Int) + (1 : Int)) - (↑r.length : Int)))]) []) = Out.val (outS l.length (readE (n + (1 : Nat)) (x :: r))) [] by simp [readE, outS, vs, E.ts, E.kids, *]))
            · let t6 : Tp pr := .b (show (!x.text.toList == []) = true by simpa using hc6)
              exact .tpe [t0, t1, t2, t3, t4, t5, t6] (Out.val (V.tup [V.agg [V.t (T.int IntKind.i64 (0 : Int)), V.t (T.int IntKind.i64 (0 : Int)), V.t (T.str (ByteArray.mk #[])), V.t (T.seq (4 : Nat) [])], V.t (T.int IntKind.i64 (0 : Int))]) []) (by kernel_rfl) ((rfl).trans (show (Out.val (V.tup [V.agg [V.t (T.int IntKind.i64 (0 : Int)), V.t (T.int IntKind.i64 (0 : Int)), V.t (T.str (ByteArray.mk #[])), V.t (T.seq (4 : Nat) [])], V.t (T.int IntKind.i64 (0 : Int))]) []) = Out.val (outS l.length (readE (n + (1 : Nat)) (x :: r))) [] by simp [readE, outS, vs, E.ts, E.kids, *]))
          · let t5 : Tp pr := .b (show (decide (x.num ≥ (0 : Int)) && decide (x.num ≤ (999999999 : Int))) = false by simpa using hc5)
            exact .tpe [t0, t1, t2, t3, t4, t5, .b (rfl : true = true)] (Out.val (V.tup [V.agg [V.t (T.int IntKind.i64 (0 : Int)), V.t (T.int IntKind.i64 (0 : Int)), V.t (T.str (ByteArray.mk #[])), V.t (T.seq (4 : Nat) [])], V.t (T.int IntKind.i64 (0 : Int))]) []) (by kernel_rfl) ((rfl).trans (show (Out.val (V.tup [V.agg [V.t (T.int IntKind.i64 (0 : Int)), V.t (T.int IntKind.i64 (0 : Int)), V.t (T.str (ByteArray.mk #[])), V.t (T.seq (4 : Nat) [])], V.t (T.int IntKind.i64 (0 : Int))]) []) = Out.val (outS l.length (readE (n + (1 : Nat)) (x :: r))) [] by simp [readE, outS, vs, E.ts, E.kids, *]))
        · let t3 : Tp pr := .b (show (decide (x.kind = (1 : Int))) = false by simpa using hc3)
          by_cases hc4 : x.kind = (2 : Int)
          · let t4 : Tp pr := .b (show (decide (x.kind = (2 : Int))) = true by simpa using hc4)
            let t5 : Tp pr := .a (GoodName_ev (x.text) (by assumption))
            by_cases hc6 : nameOk x.text = true
            · let t6 : Tp pr := .b (show (nameOk x.text) = true by simpa using hc6)
              by_cases hc7 : x.num = (0 : Int)
              · let t7 : Tp pr := .b (show (!decide (x.num = (0 : Int))) = false by simpa using hc7)
                let t8 : Tp pr := .i (wrap_i64 (a := i + (1 : Int)) (by omega) (by omega))
                exact .tpe [t0, t1, t2, t3, t4, t5, t6, t7, t8, .a (k0), .m (rfl : true = true), .n .rows (rfl : ([]) = _)] (Out.val (V.tup [V.agg [V.t (T.int IntKind.i64 x.kind), V.t (T.int IntKind.i64 x.num), V.t (T.str x.text), V.t (T.seq (4 : Nat) [])], V.t (T.int IntKind.i64 (i + (1 : Int)))]) []) (by kernel_rfl) ((((congrArg (fun x_1 => Out.val (V.tup [V.agg [V.t (T.int IntKind.i64 x_1), V.t (T.int IntKind.i64 x.num), V.t (T.str x.text), V.t (T.seq (4 : Nat) [])], V.t (T.int IntKind.i64 (i + (1 : Int)))]) []) (show (x.kind) = ((2 : Int)) by assumption)).trans (congrArg (fun x_1 => Out.val (V.tup [V.agg [V.t (T.int IntKind.i64 (2 : Int)), V.t (T.int IntKind.i64 x_1), V.t (T.str x.text), V.t (T.seq (4 : Nat) [])], V.t (T.int IntKind.i64 (i + (1 : Int)))]) []) (show (x.num) = ((0 : Int)) by assumption))).trans (congrArg (fun x_1 => Out.val (V.tup [V.agg [V.t (T.int IntKind.i64 (2 : Int)), V.t (T.int IntKind.i64 (0 : Int)), V.t (T.str x.text), V.t (T.seq (4 : Nat) [])], V.t (T.int IntKind.i64 x_1)]) []) (show (i + (1 : Int)) = ((↑done.length : Int) + ((↑r.length : Int) + (1 : Int)) - (↑r.length : Int)) by omega))).trans (show (Out.val (V.tup [V.agg [V.t (T.int IntKind.i64 (2 : Int)), V.t (T.int IntKind.i64 (0 : Int)), V.t (T.str x.text), V.t (T.seq (4 : Nat) [])], V.t (T.int IntKind.i64 ((↑done.length : Int) + ((↑r.length : Int) + (1 : Int)) - (↑r.length : Int)))]) []) = Out.val (outS l.length (readE (n + (1 : Nat)) (x :: r))) [] by simp [readE, outS, vs, E.ts, E.kids, *]))
              · let t7 : Tp pr := .b (show (!decide (x.num = (0 : Int))) = true by simpa using hc7)
                exact .tpe [t0, t1, t2, t3, t4, t5, t6, t7] (Out.val (V.tup [V.agg [V.t (T.int IntKind.i64 (0 : Int)), V.t (T.int IntKind.i64 (0 : Int)), V.t (T.str (ByteArray.mk #[])), V.t (T.seq (4 : Nat) [])], V.t (T.int IntKind.i64 (0 : Int))]) []) (by kernel_rfl) ((rfl).trans (show (Out.val (V.tup [V.agg [V.t (T.int IntKind.i64 (0 : Int)), V.t (T.int IntKind.i64 (0 : Int)), V.t (T.str (ByteArray.mk #[])), V.t (T.seq (4 : Nat) [])], V.t (T.int IntKind.i64 (0 : Int))]) []) = Out.val (outS l.length (readE (n + (1 : Nat)) (x :: r))) [] by simp [readE, outS, vs, E.ts, E.kids, *]))
            · let t6 : Tp pr := .b (show (nameOk x.text) = false by simpa using hc6)
              exact .tpe [t0, t1, t2, t3, t4, t5, t6, .b (rfl : true = true)] (Out.val (V.tup [V.agg [V.t (T.int IntKind.i64 (0 : Int)), V.t (T.int IntKind.i64 (0 : Int)), V.t (T.str (ByteArray.mk #[])), V.t (T.seq (4 : Nat) [])], V.t (T.int IntKind.i64 (0 : Int))]) []) (by kernel_rfl) ((rfl).trans (show (Out.val (V.tup [V.agg [V.t (T.int IntKind.i64 (0 : Int)), V.t (T.int IntKind.i64 (0 : Int)), V.t (T.str (ByteArray.mk #[])), V.t (T.seq (4 : Nat) [])], V.t (T.int IntKind.i64 (0 : Int))]) []) = Out.val (outS l.length (readE (n + (1 : Nat)) (x :: r))) [] by simp [readE, outS, vs, E.ts, E.kids, *]))
          · let t4 : Tp pr := .b (show (decide (x.kind = (2 : Int))) = false by simpa using hc4)
            by_cases hc5 : x.kind = (3 : Int)
            · let t5 : Tp pr := .b (show (decide (x.kind = (3 : Int))) = true by simpa using hc5)
              let t6 : Tp pr := .b (show (decide (x.kind = (3 : Int))) = true by (simp; omega))
              by_cases hc7 : x.num = (0 : Int)
              · let t7 : Tp pr := .b (show (decide (x.num = (0 : Int))) = true by simpa using hc7)
                by_cases hc8 : x.text = e0
                · let t8 : Tp pr := .b (show (!x.text.toList == []) = false by simpa using hc8)
                  let t9 : Tp pr := .i (wrap_i64 (a := i + (1 : Int)) (by omega) (by omega))
                  let t12 : Tp pr := .n .rows (show (List.map (fun x => List.map C.fz x) (List.take (1 : Nat) (List.drop (0 : Nat) (List.map tc ([].append [[T.int IntKind.i64 a.kind, T.int IntKind.i64 a.nm, T.str a.text, T.seq (4 : Nat) a.kids]]))))) = [[T.int IntKind.i64 a.kind, T.int IntKind.i64 a.nm, T.str a.text, T.seq (4 : Nat) a.kids]] by simp)
                  exact .tpe [t0, t1, t2, t3, t4, t5, t6, t7, t8, t9, .a (k1), .m (rfl : true = true), t12] (Out.val (V.tup [V.agg [V.t (T.int IntKind.i64 x.kind), V.t (T.int IntKind.i64 x.num), V.t (T.str x.text), V.t (T.seq (4 : Nat) [[T.int IntKind.i64 a.kind, T.int IntKind.i64 a.nm, T.str a.text, T.seq (4 : Nat) a.kids]])], V.t (T.int IntKind.i64 ((↑l.length : Int) - (↑r1.length : Int)))]) []) (by kernel_rfl) (((((congrArg (fun x_1 => Out.val (V.tup [V.agg [V.t (T.int IntKind.i64 x_1), V.t (T.int IntKind.i64 x.num), V.t (T.str x.text), V.t (T.seq (4 : Nat) [[T.int IntKind.i64 a.kind, T.int IntKind.i64 a.nm, T.str a.text, T.seq (4 : Nat) a.kids]])], V.t (T.int IntKind.i64 ((↑l.length : Int) - (↑r1.length : Int)))]) []) (show (x.kind) = ((3 : Int)) by assumption)).trans (congrArg (fun x_1 => Out.val (V.tup [V.agg [V.t (T.int IntKind.i64 (3 : Int)), V.t (T.int IntKind.i64 x_1), V.t (T.str x.text), V.t (T.seq (4 : Nat) [[T.int IntKind.i64 a.kind, T.int IntKind.i64 a.nm, T.str a.text, T.seq (4 : Nat) a.kids]])], V.t (T.int IntKind.i64 ((↑l.length : Int) - (↑r1.length : Int)))]) []) (show (x.num) = ((0 : Int)) by assumption))).trans (congrArg (fun x => Out.val (V.tup [V.agg [V.t (T.int IntKind.i64 (3 : Int)), V.t (T.int IntKind.i64 (0 : Int)), V.t (T.str x), V.t (T.seq (4 : Nat) [[T.int IntKind.i64 a.kind, T.int IntKind.i64 a.nm, T.str a.text, T.seq (4 : Nat) a.kids]])], V.t (T.int IntKind.i64 ((↑l.length : Int) - (↑r1.length : Int)))]) []) (show (x.text) = (ByteArray.mk #[]) by assumption))).trans (congrArg (fun x => Out.val (V.tup [V.agg [V.t (T.int IntKind.i64 (3 : Int)), V.t (T.int IntKind.i64 (0 : Int)), V.t (T.str (ByteArray.mk #[])), V.t (T.seq (4 : Nat) [[T.int IntKind.i64 a.kind, T.int IntKind.i64 a.nm, T.str a.text, T.seq (4 : Nat) a.kids]])], V.t (T.int IntKind.i64 x)]) []) (show ((↑l.length : Int) - (↑r1.length : Int)) = ((↑done.length : Int) + ((↑r.length : Int) + (1 : Int)) - (↑r1.length : Int)) by omega))).trans (show (Out.val (V.tup [V.agg [V.t (T.int IntKind.i64 (3 : Int)), V.t (T.int IntKind.i64 (0 : Int)), V.t (T.str (ByteArray.mk #[])), V.t (T.seq (4 : Nat) [[T.int IntKind.i64 a.kind, T.int IntKind.i64 a.nm, T.str a.text, T.seq (4 : Nat) a.kids]])], V.t (T.int IntKind.i64 ((↑done.length : Int) + ((↑r.length : Int) + (1 : Int)) - (↑r1.length : Int)))]) []) = Out.val (outS l.length (readE (n + (1 : Nat)) (x :: r))) [] by simp [readE, outS, vs, E.ts, E.kids, *]))
                · let t8 : Tp pr := .b (show (!x.text.toList == []) = true by simpa using hc8)
                  exact .tpe [t0, t1, t2, t3, t4, t5, t6, t7, t8] (Out.val (V.tup [V.agg [V.t (T.int IntKind.i64 (0 : Int)), V.t (T.int IntKind.i64 (0 : Int)), V.t (T.str (ByteArray.mk #[])), V.t (T.seq (4 : Nat) [])], V.t (T.int IntKind.i64 (0 : Int))]) []) (by kernel_rfl) ((rfl).trans (show (Out.val (V.tup [V.agg [V.t (T.int IntKind.i64 (0 : Int)), V.t (T.int IntKind.i64 (0 : Int)), V.t (T.str (ByteArray.mk #[])), V.t (T.seq (4 : Nat) [])], V.t (T.int IntKind.i64 (0 : Int))]) []) = Out.val (outS l.length (readE (n + (1 : Nat)) (x :: r))) [] by simp [readE, outS, vs, E.ts, E.kids, *]))
              · let t7 : Tp pr := .b (show (decide (x.num = (0 : Int))) = false by simpa using hc7)
                exact .tpe [t0, t1, t2, t3, t4, t5, t6, t7, .b (rfl : true = true)] (Out.val (V.tup [V.agg [V.t (T.int IntKind.i64 (0 : Int)), V.t (T.int IntKind.i64 (0 : Int)), V.t (T.str (ByteArray.mk #[])), V.t (T.seq (4 : Nat) [])], V.t (T.int IntKind.i64 (0 : Int))]) []) (by kernel_rfl) ((rfl).trans (show (Out.val (V.tup [V.agg [V.t (T.int IntKind.i64 (0 : Int)), V.t (T.int IntKind.i64 (0 : Int)), V.t (T.str (ByteArray.mk #[])), V.t (T.seq (4 : Nat) [])], V.t (T.int IntKind.i64 (0 : Int))]) []) = Out.val (outS l.length (readE (n + (1 : Nat)) (x :: r))) [] by simp [readE, outS, vs, E.ts, E.kids, *]))
            · let t5 : Tp pr := .b (show (decide (x.kind = (3 : Int))) = false by simpa using hc5)
              by_cases hc6 : x.kind = (4 : Int)
              · let t6 : Tp pr := .b (show (decide (x.kind = (4 : Int))) = true by simpa using hc6)
                by_cases hc7 : x.num = (0 : Int)
                · let t7 : Tp pr := .b (show (decide (x.num = (0 : Int))) = true by simpa using hc7)
                  by_cases hc8 : x.text = e0
                  · let t8 : Tp pr := .b (show (!x.text.toList == []) = false by simpa using hc8)
                    let t9 : Tp pr := .i (wrap_i64 (a := i + (1 : Int)) (by omega) (by omega))
                    let t12 : Tp pr := .n .rows (show (List.map (fun x => List.map C.fz x) (List.take (1 : Nat) (List.drop (0 : Nat) (List.map tc ([].append [[T.int IntKind.i64 a.kind, T.int IntKind.i64 a.nm, T.str a.text, T.seq (4 : Nat) a.kids]]))))) = [[T.int IntKind.i64 a.kind, T.int IntKind.i64 a.nm, T.str a.text, T.seq (4 : Nat) a.kids]] by simp)
                    exact .tpe [t0, t1, t2, t3, t4, t5, t6, t7, t8, t9, .a (k1), .m (rfl : true = true), t12] (Out.val (V.tup [V.agg [V.t (T.int IntKind.i64 x.kind), V.t (T.int IntKind.i64 x.num), V.t (T.str x.text), V.t (T.seq (4 : Nat) [[T.int IntKind.i64 a.kind, T.int IntKind.i64 a.nm, T.str a.text, T.seq (4 : Nat) a.kids]])], V.t (T.int IntKind.i64 ((↑l.length : Int) - (↑r1.length : Int)))]) []) (by kernel_rfl) (((((congrArg (fun x_1 => Out.val (V.tup [V.agg [V.t (T.int IntKind.i64 x_1), V.t (T.int IntKind.i64 x.num), V.t (T.str x.text), V.t (T.seq (4 : Nat) [[T.int IntKind.i64 a.kind, T.int IntKind.i64 a.nm, T.str a.text, T.seq (4 : Nat) a.kids]])], V.t (T.int IntKind.i64 ((↑l.length : Int) - (↑r1.length : Int)))]) []) (show (x.kind) = ((4 : Int)) by assumption)).trans (congrArg (fun x_1 => Out.val (V.tup [V.agg [V.t (T.int IntKind.i64 (4 : Int)), V.t (T.int IntKind.i64 x_1), V.t (T.str x.text), V.t (T.seq (4 : Nat) [[T.int IntKind.i64 a.kind, T.int IntKind.i64 a.nm, T.str a.text, T.seq (4 : Nat) a.kids]])], V.t (T.int IntKind.i64 ((↑l.length : Int) - (↑r1.length : Int)))]) []) (show (x.num) = ((0 : Int)) by assumption))).trans (congrArg (fun x => Out.val (V.tup [V.agg [V.t (T.int IntKind.i64 (4 : Int)), V.t (T.int IntKind.i64 (0 : Int)), V.t (T.str x), V.t (T.seq (4 : Nat) [[T.int IntKind.i64 a.kind, T.int IntKind.i64 a.nm, T.str a.text, T.seq (4 : Nat) a.kids]])], V.t (T.int IntKind.i64 ((↑l.length : Int) - (↑r1.length : Int)))]) []) (show (x.text) = (ByteArray.mk #[]) by assumption))).trans (congrArg (fun x => Out.val (V.tup [V.agg [V.t (T.int IntKind.i64 (4 : Int)), V.t (T.int IntKind.i64 (0 : Int)), V.t (T.str (ByteArray.mk #[])), V.t (T.seq (4 : Nat) [[T.int IntKind.i64 a.kind, T.int IntKind.i64 a.nm, T.str a.text, T.seq (4 : Nat) a.kids]])], V.t (T.int IntKind.i64 x)]) []) (show ((↑l.length : Int) - (↑r1.length : Int)) = ((↑done.length : Int) + ((↑r.length : Int) + (1 : Int)) - (↑r1.length : Int)) by omega))).trans (show (Out.val (V.tup [V.agg [V.t (T.int IntKind.i64 (4 : Int)), V.t (T.int IntKind.i64 (0 : Int)), V.t (T.str (ByteArray.mk #[])), V.t (T.seq (4 : Nat) [[T.int IntKind.i64 a.kind, T.int IntKind.i64 a.nm, T.str a.text, T.seq (4 : Nat) a.kids]])], V.t (T.int IntKind.i64 ((↑done.length : Int) + ((↑r.length : Int) + (1 : Int)) - (↑r1.length : Int)))]) []) = Out.val (outS l.length (readE (n + (1 : Nat)) (x :: r))) [] by simp [readE, outS, vs, E.ts, E.kids, *]))
                  · let t8 : Tp pr := .b (show (!x.text.toList == []) = true by simpa using hc8)
                    exact .tpe [t0, t1, t2, t3, t4, t5, t6, t7, t8] (Out.val (V.tup [V.agg [V.t (T.int IntKind.i64 (0 : Int)), V.t (T.int IntKind.i64 (0 : Int)), V.t (T.str (ByteArray.mk #[])), V.t (T.seq (4 : Nat) [])], V.t (T.int IntKind.i64 (0 : Int))]) []) (by kernel_rfl) ((rfl).trans (show (Out.val (V.tup [V.agg [V.t (T.int IntKind.i64 (0 : Int)), V.t (T.int IntKind.i64 (0 : Int)), V.t (T.str (ByteArray.mk #[])), V.t (T.seq (4 : Nat) [])], V.t (T.int IntKind.i64 (0 : Int))]) []) = Out.val (outS l.length (readE (n + (1 : Nat)) (x :: r))) [] by simp [readE, outS, vs, E.ts, E.kids, *]))
                · let t7 : Tp pr := .b (show (decide (x.num = (0 : Int))) = false by simpa using hc7)
                  exact .tpe [t0, t1, t2, t3, t4, t5, t6, t7, .b (rfl : true = true)] (Out.val (V.tup [V.agg [V.t (T.int IntKind.i64 (0 : Int)), V.t (T.int IntKind.i64 (0 : Int)), V.t (T.str (ByteArray.mk #[])), V.t (T.seq (4 : Nat) [])], V.t (T.int IntKind.i64 (0 : Int))]) []) (by kernel_rfl) ((rfl).trans (show (Out.val (V.tup [V.agg [V.t (T.int IntKind.i64 (0 : Int)), V.t (T.int IntKind.i64 (0 : Int)), V.t (T.str (ByteArray.mk #[])), V.t (T.seq (4 : Nat) [])], V.t (T.int IntKind.i64 (0 : Int))]) []) = Out.val (outS l.length (readE (n + (1 : Nat)) (x :: r))) [] by simp [readE, outS, vs, E.ts, E.kids, *]))
              · let t6 : Tp pr := .b (show (decide (x.kind = (4 : Int))) = false by simpa using hc6)
                by_cases hc7 : x.kind = (5 : Int)
                · let t7 : Tp pr := .b (show (decide (x.kind = (5 : Int))) = true by simpa using hc7)
                  by_cases hc8 : x.num = (0 : Int)
                  · let t8 : Tp pr := .b (show (decide (x.num = (0 : Int))) = true by simpa using hc8)
                    by_cases hc10 : strength x.text.toList ≤ (0 : Int)
                    · let t10 : Tp pr := .b (show (!decide (strength x.text.toList > (0 : Int))) = true by simpa using hc10)
                      exact .tpe [t0, t1, t2, t3, t4, t5, t6, t7, t8, .a (l2Strength_ev (x.text)), t10] (Out.val (V.tup [V.agg [V.t (T.int IntKind.i64 (0 : Int)), V.t (T.int IntKind.i64 (0 : Int)), V.t (T.str (ByteArray.mk #[])), V.t (T.seq (4 : Nat) [])], V.t (T.int IntKind.i64 (0 : Int))]) []) (by kernel_rfl) ((rfl).trans (show (Out.val (V.tup [V.agg [V.t (T.int IntKind.i64 (0 : Int)), V.t (T.int IntKind.i64 (0 : Int)), V.t (T.str (ByteArray.mk #[])), V.t (T.seq (4 : Nat) [])], V.t (T.int IntKind.i64 (0 : Int))]) []) = Out.val (outS l.length (readE (n + (1 : Nat)) (x :: r))) [] by simp [readE, outS, vs, E.ts, E.kids, *]))
                    · let t10 : Tp pr := .b (show (!decide (strength x.text.toList > (0 : Int))) = false by simpa using hc10)
                      let t11 : Tp pr := .i (wrap_i64 (a := i + (1 : Int)) (by omega) (by omega))
                      exact .tpe [t0, t1, t2, t3, t4, t5, t6, t7, t8, .a (l2Strength_ev (x.text)), t10, t11, .a (k2)] (Out.val (V.tup [V.agg [V.t (T.int IntKind.i64 (0 : Int)), V.t (T.int IntKind.i64 (0 : Int)), V.t (T.str (ByteArray.mk #[])), V.t (T.seq (4 : Nat) [])], V.t (T.int IntKind.i64 (0 : Int))]) []) (by kernel_rfl) ((rfl).trans (show (Out.val (V.tup [V.agg [V.t (T.int IntKind.i64 (0 : Int)), V.t (T.int IntKind.i64 (0 : Int)), V.t (T.str (ByteArray.mk #[])), V.t (T.seq (4 : Nat) [])], V.t (T.int IntKind.i64 (0 : Int))]) []) = Out.val (outS l.length (readE (n + (1 : Nat)) (x :: r))) [] by simp [readE, outS, vs, E.ts, E.kids, *]))
                  · let t8 : Tp pr := .b (show (decide (x.num = (0 : Int))) = false by simpa using hc8)
                    exact .tpe [t0, t1, t2, t3, t4, t5, t6, t7, t8, .b (rfl : true = true)] (Out.val (V.tup [V.agg [V.t (T.int IntKind.i64 (0 : Int)), V.t (T.int IntKind.i64 (0 : Int)), V.t (T.str (ByteArray.mk #[])), V.t (T.seq (4 : Nat) [])], V.t (T.int IntKind.i64 (0 : Int))]) []) (by kernel_rfl) ((rfl).trans (show (Out.val (V.tup [V.agg [V.t (T.int IntKind.i64 (0 : Int)), V.t (T.int IntKind.i64 (0 : Int)), V.t (T.str (ByteArray.mk #[])), V.t (T.seq (4 : Nat) [])], V.t (T.int IntKind.i64 (0 : Int))]) []) = Out.val (outS l.length (readE (n + (1 : Nat)) (x :: r))) [] by simp [readE, outS, vs, E.ts, E.kids, *]))
                · let t7 : Tp pr := .b (show (decide (x.kind = (5 : Int))) = false by simpa using hc7)
                  exact .tpe [t0, t1, t2, t3, t4, t5, t6, t7, .b (rfl : true = true)] (Out.val (V.tup [V.agg [V.t (T.int IntKind.i64 (0 : Int)), V.t (T.int IntKind.i64 (0 : Int)), V.t (T.str (ByteArray.mk #[])), V.t (T.seq (4 : Nat) [])], V.t (T.int IntKind.i64 (0 : Int))]) []) (by kernel_rfl) ((rfl).trans (show (Out.val (V.tup [V.agg [V.t (T.int IntKind.i64 (0 : Int)), V.t (T.int IntKind.i64 (0 : Int)), V.t (T.str (ByteArray.mk #[])), V.t (T.seq (4 : Nat) [])], V.t (T.int IntKind.i64 (0 : Int))]) []) = Out.val (outS l.length (readE (n + (1 : Nat)) (x :: r))) [] by simp [readE, outS, vs, E.ts, E.kids, *]))
      | some q =>
        obtain ⟨b, r2⟩ := q
        simp only [rdL2o, h2] at k2
        have h0 := strength_nonneg x.text.toList
        by_cases hst : strength x.text.toList = 0
        · have hst2 : ¬ 0 < strength x.text.toList := by omega
          let t0 : Tp pr := .i (show ((↑(List.map Ex.ce l).length : Int) : Int) = (↑l.length : Int) by simp)
          let t1 : Tp pr := .b (show (decide (i ≥ (↑l.length : Int))) = false by (simp; omega))
          let t2 : Tp pr := .g .row (show (lkp (List.map Ex.ce l) i) = some (x.ce) from hg)
          by_cases hc3 : x.kind = (1 : Int)
          · let t3 : Tp pr := .b (show (decide (x.kind = (1 : Int))) = true by simpa using hc3)
            let t4 : Tp pr := .a (l1In_ev (x.num) ((0 : Int)) ((999999999 : Int)))
            by_cases hc5 : (0 : Int) ≤ x.num ∧ x.num ≤ (999999999 : Int)
            · let t5 : Tp pr := .b (show (decide (x.num ≥ (0 : Int)) && decide (x.num ≤ (999999999 : Int))) = true by simpa using hc5)
              by_cases hc6 : x.text = e0
              · let t6 : Tp pr := .b (show (!x.text.toList == []) = false by simpa using hc6)
                let t7 : Tp pr := .i (wrap_i64 (a := i + (1 : Int)) (by omega) (by omega))
                exact .tpe [t0, t1, t2, t3, t4, t5, t6, t7, .a (k0), .m (rfl : true = true), .n .rows (rfl : ([]) = _)] (Out.val (V.tup [V.agg [V.t (T.int IntKind.i64 x.kind), V.t (T.int IntKind.i64 x.num), V.t (T.str x.text), V.t (T.seq (4 : Nat) [])], V.t (T.int IntKind.i64 (i + (1 : Int)))]) []) (by kernel_rfl) ((((congrArg (fun x_1 => Out.val (V.tup [V.agg [V.t (T.int IntKind.i64 x_1), V.t (T.int IntKind.i64 x.num), V.t (T.str x.text), V.t (T.seq (4 : Nat) [])], V.t (T.int IntKind.i64 (i + (1 : Int)))]) []) (show (x.kind) = ((1 : Int)) by assumption)).trans (congrArg (fun x_1 => Out.val (V.tup [V.agg [V.t (T.int IntKind.i64 (1 : Int)), V.t (T.int IntKind.i64 x.num), V.t (T.str x_1), V.t (T.seq (4 : Nat) [])], V.t (T.int IntKind.i64 (i + (1 : Int)))]) []) (show (x.text) = (ByteArray.mk #[]) by assumption))).trans (congrArg (fun x_1 => Out.val (V.tup [V.agg [V.t (T.int IntKind.i64 (1 : Int)), V.t (T.int IntKind.i64 x.num), V.t (T.str (ByteArray.mk #[])), V.t (T.seq (4 : Nat) [])], V.t (T.int IntKind.i64 x_1)]) []) (show (i + (1 : Int)) = ((↑done.length : Int) + ((↑r.length : Int) + (1 : Int)) - (↑r.length : Int)) by omega))).trans (show (Out.val (V.tup [V.agg [V.t (T.int IntKind.i64 (1 : Int)), V.t (T.int IntKind.i64 x.num), V.t (T.str (ByteArray.mk #[])), V.t (T.seq (4 : Nat) [])], V.t (T.int IntKind.i64 ((↑done.length : Int) + ((↑r.length : Int) + (1 : Int)) - (↑r.length : Int)))]) []) = Out.val (outS l.length (readE (n + (1 : Nat)) (x :: r))) [] by simp [readE, outS, vs, E.ts, E.kids, *]))
              · let t6 : Tp pr := .b (show (!x.text.toList == []) = true by simpa using hc6)
                exact .tpe [t0, t1, t2, t3, t4, t5, t6] (Out.val (V.tup [V.agg [V.t (T.int IntKind.i64 (0 : Int)), V.t (T.int IntKind.i64 (0 : Int)), V.t (T.str (ByteArray.mk #[])), V.t (T.seq (4 : Nat) [])], V.t (T.int IntKind.i64 (0 : Int))]) []) (by kernel_rfl) ((rfl).trans (show (Out.val (V.tup [V.agg [V.t (T.int IntKind.i64 (0 : Int)), V.t (T.int IntKind.i64 (0 : Int)), V.t (T.str (ByteArray.mk #[])), V.t (T.seq (4 : Nat) [])], V.t (T.int IntKind.i64 (0 : Int))]) []) = Out.val (outS l.length (readE (n + (1 : Nat)) (x :: r))) [] by simp [readE, outS, vs, E.ts, E.kids, *]))
            · let t5 : Tp pr := .b (show (decide (x.num ≥ (0 : Int)) && decide (x.num ≤ (999999999 : Int))) = false by simpa using hc5)
              exact .tpe [t0, t1, t2, t3, t4, t5, .b (rfl : true = true)] (Out.val (V.tup [V.agg [V.t (T.int IntKind.i64 (0 : Int)), V.t (T.int IntKind.i64 (0 : Int)), V.t (T.str (ByteArray.mk #[])), V.t (T.seq (4 : Nat) [])], V.t (T.int IntKind.i64 (0 : Int))]) []) (by kernel_rfl) ((rfl).trans (show (Out.val (V.tup [V.agg [V.t (T.int IntKind.i64 (0 : Int)), V.t (T.int IntKind.i64 (0 : Int)), V.t (T.str (ByteArray.mk #[])), V.t (T.seq (4 : Nat) [])], V.t (T.int IntKind.i64 (0 : Int))]) []) = Out.val (outS l.length (readE (n + (1 : Nat)) (x :: r))) [] by simp [readE, outS, vs, E.ts, E.kids, *]))
          · let t3 : Tp pr := .b (show (decide (x.kind = (1 : Int))) = false by simpa using hc3)
            by_cases hc4 : x.kind = (2 : Int)
            · let t4 : Tp pr := .b (show (decide (x.kind = (2 : Int))) = true by simpa using hc4)
              let t5 : Tp pr := .a (GoodName_ev (x.text) (by assumption))
              by_cases hc6 : nameOk x.text = true
              · let t6 : Tp pr := .b (show (nameOk x.text) = true by simpa using hc6)
                by_cases hc7 : x.num = (0 : Int)
                · let t7 : Tp pr := .b (show (!decide (x.num = (0 : Int))) = false by simpa using hc7)
                  let t8 : Tp pr := .i (wrap_i64 (a := i + (1 : Int)) (by omega) (by omega))
                  exact .tpe [t0, t1, t2, t3, t4, t5, t6, t7, t8, .a (k0), .m (rfl : true = true), .n .rows (rfl : ([]) = _)] (Out.val (V.tup [V.agg [V.t (T.int IntKind.i64 x.kind), V.t (T.int IntKind.i64 x.num), V.t (T.str x.text), V.t (T.seq (4 : Nat) [])], V.t (T.int IntKind.i64 (i + (1 : Int)))]) []) (by kernel_rfl) ((((congrArg (fun x_1 => Out.val (V.tup [V.agg [V.t (T.int IntKind.i64 x_1), V.t (T.int IntKind.i64 x.num), V.t (T.str x.text), V.t (T.seq (4 : Nat) [])], V.t (T.int IntKind.i64 (i + (1 : Int)))]) []) (show (x.kind) = ((2 : Int)) by assumption)).trans (congrArg (fun x_1 => Out.val (V.tup [V.agg [V.t (T.int IntKind.i64 (2 : Int)), V.t (T.int IntKind.i64 x_1), V.t (T.str x.text), V.t (T.seq (4 : Nat) [])], V.t (T.int IntKind.i64 (i + (1 : Int)))]) []) (show (x.num) = ((0 : Int)) by assumption))).trans (congrArg (fun x_1 => Out.val (V.tup [V.agg [V.t (T.int IntKind.i64 (2 : Int)), V.t (T.int IntKind.i64 (0 : Int)), V.t (T.str x.text), V.t (T.seq (4 : Nat) [])], V.t (T.int IntKind.i64 x_1)]) []) (show (i + (1 : Int)) = ((↑done.length : Int) + ((↑r.length : Int) + (1 : Int)) - (↑r.length : Int)) by omega))).trans (show (Out.val (V.tup [V.agg [V.t (T.int IntKind.i64 (2 : Int)), V.t (T.int IntKind.i64 (0 : Int)), V.t (T.str x.text), V.t (T.seq (4 : Nat) [])], V.t (T.int IntKind.i64 ((↑done.length : Int) + ((↑r.length : Int) + (1 : Int)) - (↑r.length : Int)))]) []) = Out.val (outS l.length (readE (n + (1 : Nat)) (x :: r))) [] by simp [readE, outS, vs, E.ts, E.kids, *]))
                · let t7 : Tp pr := .b (show (!decide (x.num = (0 : Int))) = true by simpa using hc7)
                  exact .tpe [t0, t1, t2, t3, t4, t5, t6, t7] (Out.val (V.tup [V.agg [V.t (T.int IntKind.i64 (0 : Int)), V.t (T.int IntKind.i64 (0 : Int)), V.t (T.str (ByteArray.mk #[])), V.t (T.seq (4 : Nat) [])], V.t (T.int IntKind.i64 (0 : Int))]) []) (by kernel_rfl) ((rfl).trans (show (Out.val (V.tup [V.agg [V.t (T.int IntKind.i64 (0 : Int)), V.t (T.int IntKind.i64 (0 : Int)), V.t (T.str (ByteArray.mk #[])), V.t (T.seq (4 : Nat) [])], V.t (T.int IntKind.i64 (0 : Int))]) []) = Out.val (outS l.length (readE (n + (1 : Nat)) (x :: r))) [] by simp [readE, outS, vs, E.ts, E.kids, *]))
              · let t6 : Tp pr := .b (show (nameOk x.text) = false by simpa using hc6)
                exact .tpe [t0, t1, t2, t3, t4, t5, t6, .b (rfl : true = true)] (Out.val (V.tup [V.agg [V.t (T.int IntKind.i64 (0 : Int)), V.t (T.int IntKind.i64 (0 : Int)), V.t (T.str (ByteArray.mk #[])), V.t (T.seq (4 : Nat) [])], V.t (T.int IntKind.i64 (0 : Int))]) []) (by kernel_rfl) ((rfl).trans (show (Out.val (V.tup [V.agg [V.t (T.int IntKind.i64 (0 : Int)), V.t (T.int IntKind.i64 (0 : Int)), V.t (T.str (ByteArray.mk #[])), V.t (T.seq (4 : Nat) [])], V.t (T.int IntKind.i64 (0 : Int))]) []) = Out.val (outS l.length (readE (n + (1 : Nat)) (x :: r))) [] by simp [readE, outS, vs, E.ts, E.kids, *]))
            · let t4 : Tp pr := .b (show (decide (x.kind = (2 : Int))) = false by simpa using hc4)
              by_cases hc5 : x.kind = (3 : Int)
              · let t5 : Tp pr := .b (show (decide (x.kind = (3 : Int))) = true by simpa using hc5)
                let t6 : Tp pr := .b (show (decide (x.kind = (3 : Int))) = true by (simp; omega))
                by_cases hc7 : x.num = (0 : Int)
                · let t7 : Tp pr := .b (show (decide (x.num = (0 : Int))) = true by simpa using hc7)
                  by_cases hc8 : x.text = e0
                  · let t8 : Tp pr := .b (show (!x.text.toList == []) = false by simpa using hc8)
                    let t9 : Tp pr := .i (wrap_i64 (a := i + (1 : Int)) (by omega) (by omega))
                    let t12 : Tp pr := .n .rows (show (List.map (fun x => List.map C.fz x) (List.take (1 : Nat) (List.drop (0 : Nat) (List.map tc ([].append [[T.int IntKind.i64 a.kind, T.int IntKind.i64 a.nm, T.str a.text, T.seq (4 : Nat) a.kids]]))))) = [[T.int IntKind.i64 a.kind, T.int IntKind.i64 a.nm, T.str a.text, T.seq (4 : Nat) a.kids]] by simp)
                    exact .tpe [t0, t1, t2, t3, t4, t5, t6, t7, t8, t9, .a (k1), .m (rfl : true = true), t12] (Out.val (V.tup [V.agg [V.t (T.int IntKind.i64 x.kind), V.t (T.int IntKind.i64 x.num), V.t (T.str x.text), V.t (T.seq (4 : Nat) [[T.int IntKind.i64 a.kind, T.int IntKind.i64 a.nm, T.str a.text, T.seq (4 : Nat) a.kids]])], V.t (T.int IntKind.i64 ((↑l.length : Int) - (↑r1.length : Int)))]) []) (by kernel_rfl) (((((congrArg (fun x_1 => Out.val (V.tup [V.agg [V.t (T.int IntKind.i64 x_1), V.t (T.int IntKind.i64 x.num), V.t (T.str x.text), V.t (T.seq (4 : Nat) [[T.int IntKind.i64 a.kind, T.int IntKind.i64 a.nm, T.str a.text, T.seq (4 : Nat) a.kids]])], V.t (T.int IntKind.i64 ((↑l.length : Int) - (↑r1.length : Int)))]) []) (show (x.kind) = ((3 : Int)) by assumption)).trans (congrArg (fun x_1 => Out.val (V.tup [V.agg [V.t (T.int IntKind.i64 (3 : Int)), V.t (T.int IntKind.i64 x_1), V.t (T.str x.text), V.t (T.seq (4 : Nat) [[T.int IntKind.i64 a.kind, T.int IntKind.i64 a.nm, T.str a.text, T.seq (4 : Nat) a.kids]])], V.t (T.int IntKind.i64 ((↑l.length : Int) - (↑r1.length : Int)))]) []) (show (x.num) = ((0 : Int)) by assumption))).trans (congrArg (fun x => Out.val (V.tup [V.agg [V.t (T.int IntKind.i64 (3 : Int)), V.t (T.int IntKind.i64 (0 : Int)), V.t (T.str x), V.t (T.seq (4 : Nat) [[T.int IntKind.i64 a.kind, T.int IntKind.i64 a.nm, T.str a.text, T.seq (4 : Nat) a.kids]])], V.t (T.int IntKind.i64 ((↑l.length : Int) - (↑r1.length : Int)))]) []) (show (x.text) = (ByteArray.mk #[]) by assumption))).trans (congrArg (fun x => Out.val (V.tup [V.agg [V.t (T.int IntKind.i64 (3 : Int)), V.t (T.int IntKind.i64 (0 : Int)), V.t (T.str (ByteArray.mk #[])), V.t (T.seq (4 : Nat) [[T.int IntKind.i64 a.kind, T.int IntKind.i64 a.nm, T.str a.text, T.seq (4 : Nat) a.kids]])], V.t (T.int IntKind.i64 x)]) []) (show ((↑l.length : Int) - (↑r1.length : Int)) = ((↑done.length : Int) + ((↑r.length : Int) + (1 : Int)) - (↑r1.length : Int)) by omega))).trans (show (Out.val (V.tup [V.agg [V.t (T.int IntKind.i64 (3 : Int)), V.t (T.int IntKind.i64 (0 : Int)), V.t (T.str (ByteArray.mk #[])), V.t (T.seq (4 : Nat) [[T.int IntKind.i64 a.kind, T.int IntKind.i64 a.nm, T.str a.text, T.seq (4 : Nat) a.kids]])], V.t (T.int IntKind.i64 ((↑done.length : Int) + ((↑r.length : Int) + (1 : Int)) - (↑r1.length : Int)))]) []) = Out.val (outS l.length (readE (n + (1 : Nat)) (x :: r))) [] by simp [readE, outS, vs, E.ts, E.kids, *]))
                  · let t8 : Tp pr := .b (show (!x.text.toList == []) = true by simpa using hc8)
                    exact .tpe [t0, t1, t2, t3, t4, t5, t6, t7, t8] (Out.val (V.tup [V.agg [V.t (T.int IntKind.i64 (0 : Int)), V.t (T.int IntKind.i64 (0 : Int)), V.t (T.str (ByteArray.mk #[])), V.t (T.seq (4 : Nat) [])], V.t (T.int IntKind.i64 (0 : Int))]) []) (by kernel_rfl) ((rfl).trans (show (Out.val (V.tup [V.agg [V.t (T.int IntKind.i64 (0 : Int)), V.t (T.int IntKind.i64 (0 : Int)), V.t (T.str (ByteArray.mk #[])), V.t (T.seq (4 : Nat) [])], V.t (T.int IntKind.i64 (0 : Int))]) []) = Out.val (outS l.length (readE (n + (1 : Nat)) (x :: r))) [] by simp [readE, outS, vs, E.ts, E.kids, *]))
                · let t7 : Tp pr := .b (show (decide (x.num = (0 : Int))) = false by simpa using hc7)
                  exact .tpe [t0, t1, t2, t3, t4, t5, t6, t7, .b (rfl : true = true)] (Out.val (V.tup [V.agg [V.t (T.int IntKind.i64 (0 : Int)), V.t (T.int IntKind.i64 (0 : Int)), V.t (T.str (ByteArray.mk #[])), V.t (T.seq (4 : Nat) [])], V.t (T.int IntKind.i64 (0 : Int))]) []) (by kernel_rfl) ((rfl).trans (show (Out.val (V.tup [V.agg [V.t (T.int IntKind.i64 (0 : Int)), V.t (T.int IntKind.i64 (0 : Int)), V.t (T.str (ByteArray.mk #[])), V.t (T.seq (4 : Nat) [])], V.t (T.int IntKind.i64 (0 : Int))]) []) = Out.val (outS l.length (readE (n + (1 : Nat)) (x :: r))) [] by simp [readE, outS, vs, E.ts, E.kids, *]))
              · let t5 : Tp pr := .b (show (decide (x.kind = (3 : Int))) = false by simpa using hc5)
                by_cases hc6 : x.kind = (4 : Int)
                · let t6 : Tp pr := .b (show (decide (x.kind = (4 : Int))) = true by simpa using hc6)
                  by_cases hc7 : x.num = (0 : Int)
                  · let t7 : Tp pr := .b (show (decide (x.num = (0 : Int))) = true by simpa using hc7)
                    by_cases hc8 : x.text = e0
                    · let t8 : Tp pr := .b (show (!x.text.toList == []) = false by simpa using hc8)
                      let t9 : Tp pr := .i (wrap_i64 (a := i + (1 : Int)) (by omega) (by omega))
                      let t12 : Tp pr := .n .rows (show (List.map (fun x => List.map C.fz x) (List.take (1 : Nat) (List.drop (0 : Nat) (List.map tc ([].append [[T.int IntKind.i64 a.kind, T.int IntKind.i64 a.nm, T.str a.text, T.seq (4 : Nat) a.kids]]))))) = [[T.int IntKind.i64 a.kind, T.int IntKind.i64 a.nm, T.str a.text, T.seq (4 : Nat) a.kids]] by simp)
                      exact .tpe [t0, t1, t2, t3, t4, t5, t6, t7, t8, t9, .a (k1), .m (rfl : true = true), t12] (Out.val (V.tup [V.agg [V.t (T.int IntKind.i64 x.kind), V.t (T.int IntKind.i64 x.num), V.t (T.str x.text), V.t (T.seq (4 : Nat) [[T.int IntKind.i64 a.kind, T.int IntKind.i64 a.nm, T.str a.text, T.seq (4 : Nat) a.kids]])], V.t (T.int IntKind.i64 ((↑l.length : Int) - (↑r1.length : Int)))]) []) (by kernel_rfl) (((((congrArg (fun x_1 => Out.val (V.tup [V.agg [V.t (T.int IntKind.i64 x_1), V.t (T.int IntKind.i64 x.num), V.t (T.str x.text), V.t (T.seq (4 : Nat) [[T.int IntKind.i64 a.kind, T.int IntKind.i64 a.nm, T.str a.text, T.seq (4 : Nat) a.kids]])], V.t (T.int IntKind.i64 ((↑l.length : Int) - (↑r1.length : Int)))]) []) (show (x.kind) = ((4 : Int)) by assumption)).trans (congrArg (fun x_1 => Out.val (V.tup [V.agg [V.t (T.int IntKind.i64 (4 : Int)), V.t (T.int IntKind.i64 x_1), V.t (T.str x.text), V.t (T.seq (4 : Nat) [[T.int IntKind.i64 a.kind, T.int IntKind.i64 a.nm, T.str a.text, T.seq (4 : Nat) a.kids]])], V.t (T.int IntKind.i64 ((↑l.length : Int) - (↑r1.length : Int)))]) []) (show (x.num) = ((0 : Int)) by assumption))).trans (congrArg (fun x => Out.val (V.tup [V.agg [V.t (T.int IntKind.i64 (4 : Int)), V.t (T.int IntKind.i64 (0 : Int)), V.t (T.str x), V.t (T.seq (4 : Nat) [[T.int IntKind.i64 a.kind, T.int IntKind.i64 a.nm, T.str a.text, T.seq (4 : Nat) a.kids]])], V.t (T.int IntKind.i64 ((↑l.length : Int) - (↑r1.length : Int)))]) []) (show (x.text) = (ByteArray.mk #[]) by assumption))).trans (congrArg (fun x => Out.val (V.tup [V.agg [V.t (T.int IntKind.i64 (4 : Int)), V.t (T.int IntKind.i64 (0 : Int)), V.t (T.str (ByteArray.mk #[])), V.t (T.seq (4 : Nat) [[T.int IntKind.i64 a.kind, T.int IntKind.i64 a.nm, T.str a.text, T.seq (4 : Nat) a.kids]])], V.t (T.int IntKind.i64 x)]) []) (show ((↑l.length : Int) - (↑r1.length : Int)) = ((↑done.length : Int) + ((↑r.length : Int) + (1 : Int)) - (↑r1.length : Int)) by omega))).trans (show (Out.val (V.tup [V.agg [V.t (T.int IntKind.i64 (4 : Int)), V.t (T.int IntKind.i64 (0 : Int)), V.t (T.str (ByteArray.mk #[])), V.t (T.seq (4 : Nat) [[T.int IntKind.i64 a.kind, T.int IntKind.i64 a.nm, T.str a.text, T.seq (4 : Nat) a.kids]])], V.t (T.int IntKind.i64 ((↑done.length : Int) + ((↑r.length : Int) + (1 : Int)) - (↑r1.length : Int)))]) []) = Out.val (outS l.length (readE (n + (1 : Nat)) (x :: r))) [] by simp [readE, outS, vs, E.ts, E.kids, *]))
                    · let t8 : Tp pr := .b (show (!x.text.toList == []) = true by simpa using hc8)
                      exact .tpe [t0, t1, t2, t3, t4, t5, t6, t7, t8] (Out.val (V.tup [V.agg [V.t (T.int IntKind.i64 (0 : Int)), V.t (T.int IntKind.i64 (0 : Int)), V.t (T.str (ByteArray.mk #[])), V.t (T.seq (4 : Nat) [])], V.t (T.int IntKind.i64 (0 : Int))]) []) (by kernel_rfl) ((rfl).trans (show (Out.val (V.tup [V.agg [V.t (T.int IntKind.i64 (0 : Int)), V.t (T.int IntKind.i64 (0 : Int)), V.t (T.str (ByteArray.mk #[])), V.t (T.seq (4 : Nat) [])], V.t (T.int IntKind.i64 (0 : Int))]) []) = Out.val (outS l.length (readE (n + (1 : Nat)) (x :: r))) [] by simp [readE, outS, vs, E.ts, E.kids, *]))
                  · let t7 : Tp pr := .b (show (decide (x.num = (0 : Int))) = false by simpa using hc7)
                    exact .tpe [t0, t1, t2, t3, t4, t5, t6, t7, .b (rfl : true = true)] (Out.val (V.tup [V.agg [V.t (T.int IntKind.i64 (0 : Int)), V.t (T.int IntKind.i64 (0 : Int)), V.t (T.str (ByteArray.mk #[])), V.t (T.seq (4 : Nat) [])], V.t (T.int IntKind.i64 (0 : Int))]) []) (by kernel_rfl) ((rfl).trans (show (Out.val (V.tup [V.agg [V.t (T.int IntKind.i64 (0 : Int)), V.t (T.int IntKind.i64 (0 : Int)), V.t (T.str (ByteArray.mk #[])), V.t (T.seq (4 : Nat) [])], V.t (T.int IntKind.i64 (0 : Int))]) []) = Out.val (outS l.length (readE (n + (1 : Nat)) (x :: r))) [] by simp [readE, outS, vs, E.ts, E.kids, *]))
                · let t6 : Tp pr := .b (show (decide (x.kind = (4 : Int))) = false by simpa using hc6)
                  by_cases hc7 : x.kind = (5 : Int)
                  · let t7 : Tp pr := .b (show (decide (x.kind = (5 : Int))) = true by simpa using hc7)
                    by_cases hc8 : x.num = (0 : Int)
                    · let t8 : Tp pr := .b (show (decide (x.num = (0 : Int))) = true by simpa using hc8)
                      let t10 : Tp pr := .b (show (!decide (strength x.text.toList > (0 : Int))) = true by (simp; omega))
                      exact .tpe [t0, t1, t2, t3, t4, t5, t6, t7, t8, .a (l2Strength_ev (x.text)), t10] (Out.val (V.tup [V.agg [V.t (T.int IntKind.i64 (0 : Int)), V.t (T.int IntKind.i64 (0 : Int)), V.t (T.str (ByteArray.mk #[])), V.t (T.seq (4 : Nat) [])], V.t (T.int IntKind.i64 (0 : Int))]) []) (by kernel_rfl) ((rfl).trans (show (Out.val (V.tup [V.agg [V.t (T.int IntKind.i64 (0 : Int)), V.t (T.int IntKind.i64 (0 : Int)), V.t (T.str (ByteArray.mk #[])), V.t (T.seq (4 : Nat) [])], V.t (T.int IntKind.i64 (0 : Int))]) []) = Out.val (outS l.length (readE (n + (1 : Nat)) (x :: r))) [] by simp [readE, outS, vs, E.ts, E.kids, *]))
                    · let t8 : Tp pr := .b (show (decide (x.num = (0 : Int))) = false by simpa using hc8)
                      exact .tpe [t0, t1, t2, t3, t4, t5, t6, t7, t8, .b (rfl : true = true)] (Out.val (V.tup [V.agg [V.t (T.int IntKind.i64 (0 : Int)), V.t (T.int IntKind.i64 (0 : Int)), V.t (T.str (ByteArray.mk #[])), V.t (T.seq (4 : Nat) [])], V.t (T.int IntKind.i64 (0 : Int))]) []) (by kernel_rfl) ((rfl).trans (show (Out.val (V.tup [V.agg [V.t (T.int IntKind.i64 (0 : Int)), V.t (T.int IntKind.i64 (0 : Int)), V.t (T.str (ByteArray.mk #[])), V.t (T.seq (4 : Nat) [])], V.t (T.int IntKind.i64 (0 : Int))]) []) = Out.val (outS l.length (readE (n + (1 : Nat)) (x :: r))) [] by simp [readE, outS, vs, E.ts, E.kids, *]))
                  · let t7 : Tp pr := .b (show (decide (x.kind = (5 : Int))) = false by simpa using hc7)
                    exact .tpe [t0, t1, t2, t3, t4, t5, t6, t7, .b (rfl : true = true)] (Out.val (V.tup [V.agg [V.t (T.int IntKind.i64 (0 : Int)), V.t (T.int IntKind.i64 (0 : Int)), V.t (T.str (ByteArray.mk #[])), V.t (T.seq (4 : Nat) [])], V.t (T.int IntKind.i64 (0 : Int))]) []) (by kernel_rfl) ((rfl).trans (show (Out.val (V.tup [V.agg [V.t (T.int IntKind.i64 (0 : Int)), V.t (T.int IntKind.i64 (0 : Int)), V.t (T.str (ByteArray.mk #[])), V.t (T.seq (4 : Nat) [])], V.t (T.int IntKind.i64 (0 : Int))]) []) = Out.val (outS l.length (readE (n + (1 : Nat)) (x :: r))) [] by simp [readE, outS, vs, E.ts, E.kids, *]))
        · have hst2 : 0 < strength x.text.toList := by omega
          let t0 : Tp pr := .i (show ((↑(List.map Ex.ce l).length : Int) : Int) = (↑l.length : Int) by simp)
          let t1 : Tp pr := .b (show (decide (i ≥ (↑l.length : Int))) = false by (simp; omega))
          let t2 : Tp pr := .g .row (show (lkp (List.map Ex.ce l) i) = some (x.ce) from hg)
          by_cases hc3 : x.kind = (1 : Int)
          · let t3 : Tp pr := .b (show (decide (x.kind = (1 : Int))) = true by simpa using hc3)
            let t4 : Tp pr := .a (l1In_ev (x.num) ((0 : Int)) ((999999999 : Int)))
            by_cases hc5 : (0 : Int) ≤ x.num ∧ x.num ≤ (999999999 : Int)
            · let t5 : Tp pr := .b (show (decide (x.num ≥ (0 : Int)) && decide (x.num ≤ (999999999 : Int))) = true by simpa using hc5)
              by_cases hc6 : x.text = e0
              · let t6 : Tp pr := .b (show (!x.text.toList == []) = false by simpa using hc6)
                let t7 : Tp pr := .i (wrap_i64 (a := i + (1 : Int)) (by omega) (by omega))
                exact .tpe [t0, t1, t2, t3, t4, t5, t6, t7, .a (k0), .m (rfl : true = true), .n .rows (rfl : ([]) = _)] (Out.val (V.tup [V.agg [V.t (T.int IntKind.i64 x.kind), V.t (T.int IntKind.i64 x.num), V.t (T.str x.text), V.t (T.seq (4 : Nat) [])], V.t (T.int IntKind.i64 (i + (1 : Int)))]) []) (by kernel_rfl) ((((congrArg (fun x_1 => Out.val (V.tup [V.agg [V.t (T.int IntKind.i64 x_1), V.t (T.int IntKind.i64 x.num), V.t (T.str x.text), V.t (T.seq (4 : Nat) [])], V.t (T.int IntKind.i64 (i + (1 : Int)))]) []) (show (x.kind) = ((1 : Int)) by assumption)).trans (congrArg (fun x_1 => Out.val (V.tup [V.agg [V.t (T.int IntKind.i64 (1 : Int)), V.t (T.int IntKind.i64 x.num), V.t (T.str x_1), V.t (T.seq (4 : Nat) [])], V.t (T.int IntKind.i64 (i + (1 : Int)))]) []) (show (x.text) = (ByteArray.mk #[]) by assumption))).trans (congrArg (fun x_1 => Out.val (V.tup [V.agg [V.t (T.int IntKind.i64 (1 : Int)), V.t (T.int IntKind.i64 x.num), V.t (T.str (ByteArray.mk #[])), V.t (T.seq (4 : Nat) [])], V.t (T.int IntKind.i64 x_1)]) []) (show (i + (1 : Int)) = ((↑done.length : Int) + ((↑r.length : Int) + (1 : Int)) - (↑r.length : Int)) by omega))).trans (show (Out.val (V.tup [V.agg [V.t (T.int IntKind.i64 (1 : Int)), V.t (T.int IntKind.i64 x.num), V.t (T.str (ByteArray.mk #[])), V.t (T.seq (4 : Nat) [])], V.t (T.int IntKind.i64 ((↑done.length : Int) + ((↑r.length : Int) + (1 : Int)) - (↑r.length : Int)))]) []) = Out.val (outS l.length (readE (n + (1 : Nat)) (x :: r))) [] by simp [readE, outS, vs, E.ts, E.kids, *]))
              · let t6 : Tp pr := .b (show (!x.text.toList == []) = true by simpa using hc6)
                exact .tpe [t0, t1, t2, t3, t4, t5, t6] (Out.val (V.tup [V.agg [V.t (T.int IntKind.i64 (0 : Int)), V.t (T.int IntKind.i64 (0 : Int)), V.t (T.str (ByteArray.mk #[])), V.t (T.seq (4 : Nat) [])], V.t (T.int IntKind.i64 (0 : Int))]) []) (by kernel_rfl) ((rfl).trans (show (Out.val (V.tup [V.agg [V.t (T.int IntKind.i64 (0 : Int)), V.t (T.int IntKind.i64 (0 : Int)), V.t (T.str (ByteArray.mk #[])), V.t (T.seq (4 : Nat) [])], V.t (T.int IntKind.i64 (0 : Int))]) []) = Out.val (outS l.length (readE (n + (1 : Nat)) (x :: r))) [] by simp [readE, outS, vs, E.ts, E.kids, *]))
            · let t5 : Tp pr := .b (show (decide (x.num ≥ (0 : Int)) && decide (x.num ≤ (999999999 : Int))) = false by simpa using hc5)
              exact .tpe [t0, t1, t2, t3, t4, t5, .b (rfl : true = true)] (Out.val (V.tup [V.agg [V.t (T.int IntKind.i64 (0 : Int)), V.t (T.int IntKind.i64 (0 : Int)), V.t (T.str (ByteArray.mk #[])), V.t (T.seq (4 : Nat) [])], V.t (T.int IntKind.i64 (0 : Int))]) []) (by kernel_rfl) ((rfl).trans (show (Out.val (V.tup [V.agg [V.t (T.int IntKind.i64 (0 : Int)), V.t (T.int IntKind.i64 (0 : Int)), V.t (T.str (ByteArray.mk #[])), V.t (T.seq (4 : Nat) [])], V.t (T.int IntKind.i64 (0 : Int))]) []) = Out.val (outS l.length (readE (n + (1 : Nat)) (x :: r))) [] by simp [readE, outS, vs, E.ts, E.kids, *]))
          · let t3 : Tp pr := .b (show (decide (x.kind = (1 : Int))) = false by simpa using hc3)
            by_cases hc4 : x.kind = (2 : Int)
            · let t4 : Tp pr := .b (show (decide (x.kind = (2 : Int))) = true by simpa using hc4)
              let t5 : Tp pr := .a (GoodName_ev (x.text) (by assumption))
              by_cases hc6 : nameOk x.text = true
              · let t6 : Tp pr := .b (show (nameOk x.text) = true by simpa using hc6)
                by_cases hc7 : x.num = (0 : Int)
                · let t7 : Tp pr := .b (show (!decide (x.num = (0 : Int))) = false by simpa using hc7)
                  let t8 : Tp pr := .i (wrap_i64 (a := i + (1 : Int)) (by omega) (by omega))
                  exact .tpe [t0, t1, t2, t3, t4, t5, t6, t7, t8, .a (k0), .m (rfl : true = true), .n .rows (rfl : ([]) = _)] (Out.val (V.tup [V.agg [V.t (T.int IntKind.i64 x.kind), V.t (T.int IntKind.i64 x.num), V.t (T.str x.text), V.t (T.seq (4 : Nat) [])], V.t (T.int IntKind.i64 (i + (1 : Int)))]) []) (by kernel_rfl) ((((congrArg (fun x_1 => Out.val (V.tup [V.agg [V.t (T.int IntKind.i64 x_1), V.t (T.int IntKind.i64 x.num), V.t (T.str x.text), V.t (T.seq (4 : Nat) [])], V.t (T.int IntKind.i64 (i + (1 : Int)))]) []) (show (x.kind) = ((2 : Int)) by assumption)).trans (congrArg (fun x_1 => Out.val (V.tup [V.agg [V.t (T.int IntKind.i64 (2 : Int)), V.t (T.int IntKind.i64 x_1), V.t (T.str x.text), V.t (T.seq (4 : Nat) [])], V.t (T.int IntKind.i64 (i + (1 : Int)))]) []) (show (x.num) = ((0 : Int)) by assumption))).trans (congrArg (fun x_1 => Out.val (V.tup [V.agg [V.t (T.int IntKind.i64 (2 : Int)), V.t (T.int IntKind.i64 (0 : Int)), V.t (T.str x.text), V.t (T.seq (4 : Nat) [])], V.t (T.int IntKind.i64 x_1)]) []) (show (i + (1 : Int)) = ((↑done.length : Int) + ((↑r.length : Int) + (1 : Int)) - (↑r.length : Int)) by omega))).trans (show (Out.val (V.tup [V.agg [V.t (T.int IntKind.i64 (2 : Int)), V.t (T.int IntKind.i64 (0 : Int)), V.t (T.str x.text), V.t (T.seq (4 : Nat) [])], V.t (T.int IntKind.i64 ((↑done.length : Int) + ((↑r.length : Int) + (1 : Int)) - (↑r.length : Int)))]) []) = Out.val (outS l.length (readE (n + (1 : Nat)) (x :: r))) [] by simp [readE, outS, vs, E.ts, E.kids, *]))
                · let t7 : Tp pr := .b (show (!decide (x.num = (0 : Int))) = true by simpa using hc7)
                  exact .tpe [t0, t1, t2, t3, t4, t5, t6, t7] (Out.val (V.tup [V.agg [V.t (T.int IntKind.i64 (0 : Int)), V.t (T.int IntKind.i64 (0 : Int)), V.t (T.str (ByteArray.mk #[])), V.t (T.seq (4 : Nat) [])], V.t (T.int IntKind.i64 (0 : Int))]) []) (by kernel_rfl) ((rfl).trans (show (Out.val (V.tup [V.agg [V.t (T.int IntKind.i64 (0 : Int)), V.t (T.int IntKind.i64 (0 : Int)), V.t (T.str (ByteArray.mk #[])), V.t (T.seq (4 : Nat) [])], V.t (T.int IntKind.i64 (0 : Int))]) []) = Out.val (outS l.length (readE (n + (1 : Nat)) (x :: r))) [] by simp [readE, outS, vs, E.ts, E.kids, *]))
              · let t6 : Tp pr := .b (show (nameOk x.text) = false by simpa using hc6)
                exact .tpe [t0, t1, t2, t3, t4, t5, t6, .b (rfl : true = true)] (Out.val (V.tup [V.agg [V.t (T.int IntKind.i64 (0 : Int)), V.t (T.int IntKind.i64 (0 : Int)), V.t (T.str (ByteArray.mk #[])), V.t (T.seq (4 : Nat) [])], V.t (T.int IntKind.i64 (0 : Int))]) []) (by kernel_rfl) ((rfl).trans (show (Out.val (V.tup [V.agg [V.t (T.int IntKind.i64 (0 : Int)), V.t (T.int IntKind.i64 (0 : Int)), V.t (T.str (ByteArray.mk #[])), V.t (T.seq (4 : Nat) [])], V.t (T.int IntKind.i64 (0 : Int))]) []) = Out.val (outS l.length (readE (n + (1 : Nat)) (x :: r))) [] by simp [readE, outS, vs, E.ts, E.kids, *]))
            · let t4 : Tp pr := .b (show (decide (x.kind = (2 : Int))) = false by simpa using hc4)
              by_cases hc5 : x.kind = (3 : Int)
              · let t5 : Tp pr := .b (show (decide (x.kind = (3 : Int))) = true by simpa using hc5)
                let t6 : Tp pr := .b (show (decide (x.kind = (3 : Int))) = true by (simp; omega))
                by_cases hc7 : x.num = (0 : Int)
                · let t7 : Tp pr := .b (show (decide (x.num = (0 : Int))) = true by simpa using hc7)
                  by_cases hc8 : x.text = e0
                  · let t8 : Tp pr := .b (show (!x.text.toList == []) = false by simpa using hc8)
                    let t9 : Tp pr := .i (wrap_i64 (a := i + (1 : Int)) (by omega) (by omega))
                    let t12 : Tp pr := .n .rows (show (List.map (fun x => List.map C.fz x) (List.take (1 : Nat) (List.drop (0 : Nat) (List.map tc ([].append [[T.int IntKind.i64 a.kind, T.int IntKind.i64 a.nm, T.str a.text, T.seq (4 : Nat) a.kids]]))))) = [[T.int IntKind.i64 a.kind, T.int IntKind.i64 a.nm, T.str a.text, T.seq (4 : Nat) a.kids]] by simp)
                    exact .tpe [t0, t1, t2, t3, t4, t5, t6, t7, t8, t9, .a (k1), .m (rfl : true = true), t12] (Out.val (V.tup [V.agg [V.t (T.int IntKind.i64 x.kind), V.t (T.int IntKind.i64 x.num), V.t (T.str x.text), V.t (T.seq (4 : Nat) [[T.int IntKind.i64 a.kind, T.int IntKind.i64 a.nm, T.str a.text, T.seq (4 : Nat) a.kids]])], V.t (T.int IntKind.i64 ((↑l.length : Int) - (↑r1.length : Int)))]) []) (by kernel_rfl) (((((congrArg (fun x_1 => Out.val (V.tup [V.agg [V.t (T.int IntKind.i64 x_1), V.t (T.int IntKind.i64 x.num), V.t (T.str x.text), V.t (T.seq (4 : Nat) [[T.int IntKind.i64 a.kind, T.int IntKind.i64 a.nm, T.str a.text, T.seq (4 : Nat) a.kids]])], V.t (T.int IntKind.i64 ((↑l.length : Int) - (↑r1.length : Int)))]) []) (show (x.kind) = ((3 : Int)) by assumption)).trans (congrArg (fun x_1 => Out.val (V.tup [V.agg [V.t (T.int IntKind.i64 (3 : Int)), V.t (T.int IntKind.i64 x_1), V.t (T.str x.text), V.t (T.seq (4 : Nat) [[T.int IntKind.i64 a.kind, T.int IntKind.i64 a.nm, T.str a.text, T.seq (4 : Nat) a.kids]])], V.t (T.int IntKind.i64 ((↑l.length : Int) - (↑r1.length : Int)))]) []) (show (x.num) = ((0 : Int)) by assumption))).trans (congrArg (fun x => Out.val (V.tup [V.agg [V.t (T.int IntKind.i64 (3 : Int)), V.t (T.int IntKind.i64 (0 : Int)), V.t (T.str x), V.t (T.seq (4 : Nat) [[T.int IntKind.i64 a.kind, T.int IntKind.i64 a.nm, T.str a.text, T.seq (4 : Nat) a.kids]])], V.t (T.int IntKind.i64 ((↑l.length : Int) - (↑r1.length : Int)))]) []) (show (x.text) = (ByteArray.mk #[]) by assumption))).trans (congrArg (fun x => Out.val (V.tup [V.agg [V.t (T.int IntKind.i64 (3 : Int)), V.t (T.int IntKind.i64 (0 : Int)), V.t (T.str (ByteArray.mk #[])), V.t (T.seq (4 : Nat) [[T.int IntKind.i64 a.kind, T.int IntKind.i64 a.nm, T.str a.text, T.seq (4 : Nat) a.kids]])], V.t (T.int IntKind.i64 x)]) []) (show ((↑l.length : Int) - (↑r1.length : Int)) = ((↑done.length : Int) + ((↑r.length : Int) + (1 : Int)) - (↑r1.length : Int)) by omega))).trans (show (Out.val (V.tup [V.agg [V.t (T.int IntKind.i64 (3 : Int)), V.t (T.int IntKind.i64 (0 : Int)), V.t (T.str (ByteArray.mk #[])), V.t (T.seq (4 : Nat) [[T.int IntKind.i64 a.kind, T.int IntKind.i64 a.nm, T.str a.text, T.seq (4 : Nat) a.kids]])], V.t (T.int IntKind.i64 ((↑done.length : Int) + ((↑r.length : Int) + (1 : Int)) - (↑r1.length : Int)))]) []) = Out.val (outS l.length (readE (n + (1 : Nat)) (x :: r))) [] by simp [readE, outS, vs, E.ts, E.kids, *]))
                  · let t8 : Tp pr := .b (show (!x.text.toList == []) = true by simpa using hc8)
                    exact .tpe [t0, t1, t2, t3, t4, t5, t6, t7, t8] (Out.val (V.tup [V.agg [V.t (T.int IntKind.i64 (0 : Int)), V.t (T.int IntKind.i64 (0 : Int)), V.t (T.str (ByteArray.mk #[])), V.t (T.seq (4 : Nat) [])], V.t (T.int IntKind.i64 (0 : Int))]) []) (by kernel_rfl) ((rfl).trans (show (Out.val (V.tup [V.agg [V.t (T.int IntKind.i64 (0 : Int)), V.t (T.int IntKind.i64 (0 : Int)), V.t (T.str (ByteArray.mk #[])), V.t (T.seq (4 : Nat) [])], V.t (T.int IntKind.i64 (0 : Int))]) []) = Out.val (outS l.length (readE (n + (1 : Nat)) (x :: r))) [] by simp [readE, outS, vs, E.ts, E.kids, *]))
                · let t7 : Tp pr := .b (show (decide (x.num = (0 : Int))) = false by simpa using hc7)
                  exact .tpe [t0, t1, t2, t3, t4, t5, t6, t7, .b (rfl : true = true)] (Out.val (V.tup [V.agg [V.t (T.int IntKind.i64 (0 : Int)), V.t (T.int IntKind.i64 (0 : Int)), V.t (T.str (ByteArray.mk #[])), V.t (T.seq (4 : Nat) [])], V.t (T.int IntKind.i64 (0 : Int))]) []) (by kernel_rfl) ((rfl).trans (show (Out.val (V.tup [V.agg [V.t (T.int IntKind.i64 (0 : Int)), V.t (T.int IntKind.i64 (0 : Int)), V.t (T.str (ByteArray.mk #[])), V.t (T.seq (4 : Nat) [])], V.t (T.int IntKind.i64 (0 : Int))]) []) = Out.val (outS l.length (readE (n + (1 : Nat)) (x :: r))) [] by simp [readE, outS, vs, E.ts, E.kids, *]))
              · let t5 : Tp pr := .b (show (decide (x.kind = (3 : Int))) = false by simpa using hc5)
                by_cases hc6 : x.kind = (4 : Int)
                · let t6 : Tp pr := .b (show (decide (x.kind = (4 : Int))) = true by simpa using hc6)
                  by_cases hc7 : x.num = (0 : Int)
                  · let t7 : Tp pr := .b (show (decide (x.num = (0 : Int))) = true by simpa using hc7)
                    by_cases hc8 : x.text = e0
                    · let t8 : Tp pr := .b (show (!x.text.toList == []) = false by simpa using hc8)
                      let t9 : Tp pr := .i (wrap_i64 (a := i + (1 : Int)) (by omega) (by omega))
                      let t12 : Tp pr := .n .rows (show (List.map (fun x => List.map C.fz x) (List.take (1 : Nat) (List.drop (0 : Nat) (List.map tc ([].append [[T.int IntKind.i64 a.kind, T.int IntKind.i64 a.nm, T.str a.text, T.seq (4 : Nat) a.kids]]))))) = [[T.int IntKind.i64 a.kind, T.int IntKind.i64 a.nm, T.str a.text, T.seq (4 : Nat) a.kids]] by simp)
                      exact .tpe [t0, t1, t2, t3, t4, t5, t6, t7, t8, t9, .a (k1), .m (rfl : true = true), t12] (Out.val (V.tup [V.agg [V.t (T.int IntKind.i64 x.kind), V.t (T.int IntKind.i64 x.num), V.t (T.str x.text), V.t (T.seq (4 : Nat) [[T.int IntKind.i64 a.kind, T.int IntKind.i64 a.nm, T.str a.text, T.seq (4 : Nat) a.kids]])], V.t (T.int IntKind.i64 ((↑l.length : Int) - (↑r1.length : Int)))]) []) (by kernel_rfl) (((((congrArg (fun x_1 => Out.val (V.tup [V.agg [V.t (T.int IntKind.i64 x_1), V.t (T.int IntKind.i64 x.num), V.t (T.str x.text), V.t (T.seq (4 : Nat) [[T.int IntKind.i64 a.kind, T.int IntKind.i64 a.nm, T.str a.text, T.seq (4 : Nat) a.kids]])], V.t (T.int IntKind.i64 ((↑l.length : Int) - (↑r1.length : Int)))]) []) (show (x.kind) = ((4 : Int)) by assumption)).trans (congrArg (fun x_1 => Out.val (V.tup [V.agg [V.t (T.int IntKind.i64 (4 : Int)), V.t (T.int IntKind.i64 x_1), V.t (T.str x.text), V.t (T.seq (4 : Nat) [[T.int IntKind.i64 a.kind, T.int IntKind.i64 a.nm, T.str a.text, T.seq (4 : Nat) a.kids]])], V.t (T.int IntKind.i64 ((↑l.length : Int) - (↑r1.length : Int)))]) []) (show (x.num) = ((0 : Int)) by assumption))).trans (congrArg (fun x => Out.val (V.tup [V.agg [V.t (T.int IntKind.i64 (4 : Int)), V.t (T.int IntKind.i64 (0 : Int)), V.t (T.str x), V.t (T.seq (4 : Nat) [[T.int IntKind.i64 a.kind, T.int IntKind.i64 a.nm, T.str a.text, T.seq (4 : Nat) a.kids]])], V.t (T.int IntKind.i64 ((↑l.length : Int) - (↑r1.length : Int)))]) []) (show (x.text) = (ByteArray.mk #[]) by assumption))).trans (congrArg (fun x => Out.val (V.tup [V.agg [V.t (T.int IntKind.i64 (4 : Int)), V.t (T.int IntKind.i64 (0 : Int)), V.t (T.str (ByteArray.mk #[])), V.t (T.seq (4 : Nat) [[T.int IntKind.i64 a.kind, T.int IntKind.i64 a.nm, T.str a.text, T.seq (4 : Nat) a.kids]])], V.t (T.int IntKind.i64 x)]) []) (show ((↑l.length : Int) - (↑r1.length : Int)) = ((↑done.length : Int) + ((↑r.length : Int) + (1 : Int)) - (↑r1.length : Int)) by omega))).trans (show (Out.val (V.tup [V.agg [V.t (T.int IntKind.i64 (4 : Int)), V.t (T.int IntKind.i64 (0 : Int)), V.t (T.str (ByteArray.mk #[])), V.t (T.seq (4 : Nat) [[T.int IntKind.i64 a.kind, T.int IntKind.i64 a.nm, T.str a.text, T.seq (4 : Nat) a.kids]])], V.t (T.int IntKind.i64 ((↑done.length : Int) + ((↑r.length : Int) + (1 : Int)) - (↑r1.length : Int)))]) []) = Out.val (outS l.length (readE (n + (1 : Nat)) (x :: r))) [] by simp [readE, outS, vs, E.ts, E.kids, *]))
                    · let t8 : Tp pr := .b (show (!x.text.toList == []) = true by simpa using hc8)
                      exact .tpe [t0, t1, t2, t3, t4, t5, t6, t7, t8] (Out.val (V.tup [V.agg [V.t (T.int IntKind.i64 (0 : Int)), V.t (T.int IntKind.i64 (0 : Int)), V.t (T.str (ByteArray.mk #[])), V.t (T.seq (4 : Nat) [])], V.t (T.int IntKind.i64 (0 : Int))]) []) (by kernel_rfl) ((rfl).trans (show (Out.val (V.tup [V.agg [V.t (T.int IntKind.i64 (0 : Int)), V.t (T.int IntKind.i64 (0 : Int)), V.t (T.str (ByteArray.mk #[])), V.t (T.seq (4 : Nat) [])], V.t (T.int IntKind.i64 (0 : Int))]) []) = Out.val (outS l.length (readE (n + (1 : Nat)) (x :: r))) [] by simp [readE, outS, vs, E.ts, E.kids, *]))
                  · let t7 : Tp pr := .b (show (decide (x.num = (0 : Int))) = false by simpa using hc7)
                    exact .tpe [t0, t1, t2, t3, t4, t5, t6, t7, .b (rfl : true = true)] (Out.val (V.tup [V.agg [V.t (T.int IntKind.i64 (0 : Int)), V.t (T.int IntKind.i64 (0 : Int)), V.t (T.str (ByteArray.mk #[])), V.t (T.seq (4 : Nat) [])], V.t (T.int IntKind.i64 (0 : Int))]) []) (by kernel_rfl) ((rfl).trans (show (Out.val (V.tup [V.agg [V.t (T.int IntKind.i64 (0 : Int)), V.t (T.int IntKind.i64 (0 : Int)), V.t (T.str (ByteArray.mk #[])), V.t (T.seq (4 : Nat) [])], V.t (T.int IntKind.i64 (0 : Int))]) []) = Out.val (outS l.length (readE (n + (1 : Nat)) (x :: r))) [] by simp [readE, outS, vs, E.ts, E.kids, *]))
                · let t6 : Tp pr := .b (show (decide (x.kind = (4 : Int))) = false by simpa using hc6)
                  by_cases hc7 : x.kind = (5 : Int)
                  · let t7 : Tp pr := .b (show (decide (x.kind = (5 : Int))) = true by simpa using hc7)
                    by_cases hc8 : x.num = (0 : Int)
                    · let t8 : Tp pr := .b (show (decide (x.num = (0 : Int))) = true by simpa using hc8)
                      let t10 : Tp pr := .b (show (!decide (strength x.text.toList > (0 : Int))) = false by (simp; omega))
                      let t11 : Tp pr := .i (wrap_i64 (a := i + (1 : Int)) (by omega) (by omega))
                      let t14 : Tp pr := .n .rows (show (List.map (fun x => List.map C.fz x) (List.take (2 : Nat) (List.drop (0 : Nat) (List.map tc ([[T.int IntKind.i64 a.kind, T.int IntKind.i64 a.nm, T.str a.text, T.seq (4 : Nat) a.kids]].append [[T.int IntKind.i64 b.kind, T.int IntKind.i64 b.nm, T.str b.text, T.seq (4 : Nat) b.kids]]))))) = [[T.int IntKind.i64 a.kind, T.int IntKind.i64 a.nm, T.str a.text, T.seq (4 : Nat) a.kids], [T.int IntKind.i64 b.kind, T.int IntKind.i64 b.nm, T.str b.text, T.seq (4 : Nat) b.kids]] by simp)
                      exact .tpe [t0, t1, t2, t3, t4, t5, t6, t7, t8, .a (l2Strength_ev (x.text)), t10, t11, .a (k2), .m (rfl : true = true), t14] (Out.val (V.tup [V.agg [V.t (T.int IntKind.i64 x.kind), V.t (T.int IntKind.i64 x.num), V.t (T.str x.text), V.t (T.seq (4 : Nat) [[T.int IntKind.i64 a.kind, T.int IntKind.i64 a.nm, T.str a.text, T.seq (4 : Nat) a.kids], [T.int IntKind.i64 b.kind, T.int IntKind.i64 b.nm, T.str b.text, T.seq (4 : Nat) b.kids]])], V.t (T.int IntKind.i64 ((↑l.length : Int) - (↑r2.length : Int)))]) []) (by kernel_rfl) ((((congrArg (fun x_1 => Out.val (V.tup [V.agg [V.t (T.int IntKind.i64 x_1), V.t (T.int IntKind.i64 x.num), V.t (T.str x.text), V.t (T.seq (4 : Nat) [[T.int IntKind.i64 a.kind, T.int IntKind.i64 a.nm, T.str a.text, T.seq (4 : Nat) a.kids], [T.int IntKind.i64 b.kind, T.int IntKind.i64 b.nm, T.str b.text, T.seq (4 : Nat) b.kids]])], V.t (T.int IntKind.i64 ((↑l.length : Int) - (↑r2.length : Int)))]) []) (show (x.kind) = ((5 : Int)) by assumption)).trans (congrArg (fun x_1 => Out.val (V.tup [V.agg [V.t (T.int IntKind.i64 (5 : Int)), V.t (T.int IntKind.i64 x_1), V.t (T.str x.text), V.t (T.seq (4 : Nat) [[T.int IntKind.i64 a.kind, T.int IntKind.i64 a.nm, T.str a.text, T.seq (4 : Nat) a.kids], [T.int IntKind.i64 b.kind, T.int IntKind.i64 b.nm, T.str b.text, T.seq (4 : Nat) b.kids]])], V.t (T.int IntKind.i64 ((↑l.length : Int) - (↑r2.length : Int)))]) []) (show (x.num) = ((0 : Int)) by assumption))).trans (congrArg (fun x_1 => Out.val (V.tup [V.agg [V.t (T.int IntKind.i64 (5 : Int)), V.t (T.int IntKind.i64 (0 : Int)), V.t (T.str x.text), V.t (T.seq (4 : Nat) [[T.int IntKind.i64 a.kind, T.int IntKind.i64 a.nm, T.str a.text, T.seq (4 : Nat) a.kids], [T.int IntKind.i64 b.kind, T.int IntKind.i64 b.nm, T.str b.text, T.seq (4 : Nat) b.kids]])], V.t (T.int IntKind.i64 x_1)]) []) (show ((↑l.length : Int) - (↑r2.length : Int)) = ((↑done.length : Int) + ((↑r.length : Int) + (1 : Int)) - (↑r2.length : Int)) by omega))).trans (show (Out.val (V.tup [V.agg [V.t (T.int IntKind.i64 (5 : Int)), V.t (T.int IntKind.i64 (0 : Int)), V.t (T.str x.text), V.t (T.seq (4 : Nat) [[T.int IntKind.i64 a.kind, T.int IntKind.i64 a.nm, T.str a.text, T.seq (4 : Nat) a.kids], [T.int IntKind.i64 b.kind, T.int IntKind.i64 b.nm, T.str b.text, T.seq (4 : Nat) b.kids]])], V.t (T.int IntKind.i64 ((↑done.length : Int) + ((↑r.length : Int) + (1 : Int)) - (↑r2.length : Int)))]) []) = Out.val (outS l.length (readE (n + (1 : Nat)) (x :: r))) [] by simp [readE, outS, vs, E.ts, E.kids, *]))
                    · let t8 : Tp pr := .b (show (decide (x.num = (0 : Int))) = false by simpa using hc8)
                      exact .tpe [t0, t1, t2, t3, t4, t5, t6, t7, t8, .b (rfl : true = true)] (Out.val (V.tup [V.agg [V.t (T.int IntKind.i64 (0 : Int)), V.t (T.int IntKind.i64 (0 : Int)), V.t (T.str (ByteArray.mk #[])), V.t (T.seq (4 : Nat) [])], V.t (T.int IntKind.i64 (0 : Int))]) []) (by kernel_rfl) ((rfl).trans (show (Out.val (V.tup [V.agg [V.t (T.int IntKind.i64 (0 : Int)), V.t (T.int IntKind.i64 (0 : Int)), V.t (T.str (ByteArray.mk #[])), V.t (T.seq (4 : Nat) [])], V.t (T.int IntKind.i64 (0 : Int))]) []) = Out.val (outS l.length (readE (n + (1 : Nat)) (x :: r))) [] by simp [readE, outS, vs, E.ts, E.kids, *]))
                  · let t7 : Tp pr := .b (show (decide (x.kind = (5 : Int))) = false by simpa using hc7)
                    exact .tpe [t0, t1, t2, t3, t4, t5, t6, t7, .b (rfl : true = true)] (Out.val (V.tup [V.agg [V.t (T.int IntKind.i64 (0 : Int)), V.t (T.int IntKind.i64 (0 : Int)), V.t (T.str (ByteArray.mk #[])), V.t (T.seq (4 : Nat) [])], V.t (T.int IntKind.i64 (0 : Int))]) []) (by kernel_rfl) ((rfl).trans (show (Out.val (V.tup [V.agg [V.t (T.int IntKind.i64 (0 : Int)), V.t (T.int IntKind.i64 (0 : Int)), V.t (T.str (ByteArray.mk #[])), V.t (T.seq (4 : Nat) [])], V.t (T.int IntKind.i64 (0 : Int))]) []) = Out.val (outS l.length (readE (n + (1 : Nat)) (x :: r))) [] by simp [readE, outS, vs, E.ts, E.kids, *]))
end Go.Ev

/- Expressions of locals. -/
namespace Go.Ev
set_option linter.unusedVariables false
set_option linter.unusedSimpArgs false
open Go.Proofs
set_option maxRecDepth 100000
set_option linter.unusedVariables false
set_option maxHeartbeats 1000000
theorem exprOf_ev (l : List Ex) (hl : l.length ≤ 1048576) (hs : ∀ x ∈ l, x.text.size ≤ 9223372036854775807) : Ev pr (.call 58 [exs l] []) (.val (outE (parse l)) []) := by
  have h := exprFrom_ev l.length l (Nat.le_refl _) hl hs
  by_cases h40 : l.length ≤ 40
  · have h41 : ¬ (l.length : Int) > 40 := by omega
    cases h1 : readE l.length l with
    | none =>
      rw [h1] at h
      let t0 : Tp pr := .i (show ((↑(List.map Ex.ce l).length : Int) : Int) = (↑l.length : Int) by simp)
      let t1 : Tp pr := .b (show (decide ((↑l.length : Int) > (40 : Int))) = false by (simp; omega))
      let t3 : Tp pr := .i (rfl : ((0 : Int) : Int) = (0 : Int))
      exact .tpe [t0, t1, .a (h), t3, .b (rfl : false = false)] (Out.val (V.t T.nilp) []) (by kernel_rfl) ((rfl).trans (show (Out.val (V.t T.nilp) []) = Out.val (outE (parse l)) [] by simp [parse, outE, *]))
    | some p =>
      obtain ⟨e, r⟩ := p
      rw [h1] at h
      cases r with
      | nil => (
        let t0 : Tp pr := .i (show ((↑(List.map Ex.ce l).length : Int) : Int) = (↑l.length : Int) by simp)
        let t1 : Tp pr := .b (show (decide ((↑l.length : Int) > (40 : Int))) = false by (simp; omega))
        let t3 : Tp pr := .i (rfl : ((0 : Int) : Int) = (0 : Int))
        exact .tpe [t0, t1, .a (h), t3, .b (rfl : false = false)] (Out.val (V.t (T.ptr [T.int IntKind.i64 e.kind, T.int IntKind.i64 e.nm, T.str e.text, e.tab.fst, e.tab.snd] (0 : Nat))) []) (by kernel_rfl) ((rfl).trans (show (Out.val (V.t (T.ptr [T.int IntKind.i64 e.kind, T.int IntKind.i64 e.nm, T.str e.text, e.tab.fst, e.tab.snd] (0 : Nat))) []) = Out.val (outE (parse l)) [] by simp [parse, outE, E.tp, *])))
      | cons y r => (
        let t0 : Tp pr := .i (show ((↑(List.map Ex.ce l).length : Int) : Int) = (↑l.length : Int) by simp)
        let t1 : Tp pr := .b (show (decide ((↑l.length : Int) > (40 : Int))) = false by (simp; omega))
        let t3 : Tp pr := .i (show ((↑(List.map Ex.ce (y :: r)).length : Int) : Int) = (↑r.length : Int) + (1 : Int) by simp)
        let t4 : Tp pr := .b (show (decide ((↑r.length : Int) + (1 : Int) > (0 : Int))) = true by simp)
        exact .tpe [t0, t1, .a (h), t3, t4] (Out.val (V.t T.nilp) []) (by kernel_rfl) ((rfl).trans (show (Out.val (V.t T.nilp) []) = Out.val (outE (parse l)) [] by simp [parse, outE, E.tp, *])))
  · have h41 : (l.length : Int) > 40 := by omega
    let t0 : Tp pr := .i (show ((↑(List.map Ex.ce l).length : Int) : Int) = (↑l.length : Int) by simp)
    let t1 : Tp pr := .b (show (decide ((↑l.length : Int) > (40 : Int))) = true by (simp; omega))
    exact .tpe [t0, t1] (Out.val (V.t T.nilp) []) (by kernel_rfl) ((rfl).trans (show (Out.val (V.t T.nilp) []) = Out.val (outE (parse l)) [] by simp [parse, outE, *]))
theorem l2Tree_ev (l : List Ex) (hl : l.length ≤ 1048576) (hs : ∀ x ∈ l, x.text.size ≤ 9223372036854775807) : Ev pr (.call 55 [exs l] []) (.val (.tup [vs (oe (tree? l)), bl (parse l).isSome]) []) := by
  have h := l2Read_ev l hl hs l.length l [] 0 rfl rfl (Nat.le_refl _)
  by_cases h40 : l.length ≤ 40
  · have h41 : ¬ (l.length : Int) > 40 := by omega
    cases h1 : readE l.length l with
    | none =>
      rw [h1] at h
      let t0 : Tp pr := .i (show ((↑(List.map Ex.ce l).length : Int) : Int) = (↑l.length : Int) by simp)
      let t1 : Tp pr := .b (show (decide ((↑l.length : Int) > (40 : Int))) = false by (simp; omega))
      exact .tpe [t0, t1, .a (h), .b (rfl : false = false)] (Out.val (V.tup [V.agg [V.t (T.int IntKind.i64 (0 : Int)), V.t (T.int IntKind.i64 (0 : Int)), V.t (T.str (ByteArray.mk #[])), V.t (T.seq (4 : Nat) [])], V.t (T.bool false)]) []) (by kernel_rfl) ((rfl).trans (show (Out.val (V.tup [V.agg [V.t (T.int IntKind.i64 (0 : Int)), V.t (T.int IntKind.i64 (0 : Int)), V.t (T.str (ByteArray.mk #[])), V.t (T.seq (4 : Nat) [])], V.t (T.bool false)]) []) = Out.val (V.tup [vs (oe (tree? l)), bl (parse l).isSome]) [] by simp [tree?, parse, oe, *]))
    | some p =>
      obtain ⟨e, r⟩ := p
      have hlt := readE_lt _ _ _ _ h1
      rw [h1] at h
      cases r with
      | nil => (
        let t0 : Tp pr := .i (show ((↑(List.map Ex.ce l).length : Int) : Int) = (↑l.length : Int) by simp)
        let t1 : Tp pr := .b (show (decide ((↑l.length : Int) > (40 : Int))) = false by (simp; omega))
        let t3 : Tp pr := .b (show (decide ((↑l.length : Int) - (0 : Int) > (0 : Int))) = true by (simp; omega))
        let t4 : Tp pr := .i (show ((↑(List.map Ex.ce l).length : Int) : Int) = (↑l.length : Int) by simp)
        exact .tpe [t0, t1, .a (h), t3, t4] (Out.val (V.tup [V.agg [V.t (T.int IntKind.i64 e.kind), V.t (T.int IntKind.i64 e.nm), V.t (T.str e.text), V.t (T.seq (4 : Nat) e.kids)], V.t (T.bool (decide ((↑l.length : Int) - (0 : Int) = (↑l.length : Int))))]) []) (by kernel_rfl) ((congrArg (fun x => Out.val (V.tup [V.agg [V.t (T.int IntKind.i64 e.kind), V.t (T.int IntKind.i64 e.nm), V.t (T.str e.text), V.t (T.seq (4 : Nat) e.kids)], V.t (T.bool x)]) []) (show (decide ((↑l.length : Int) - (0 : Int) = (↑l.length : Int))) = (true) by simp)).trans (show (Out.val (V.tup [V.agg [V.t (T.int IntKind.i64 e.kind), V.t (T.int IntKind.i64 e.nm), V.t (T.str e.text), V.t (T.seq (4 : Nat) e.kids)], V.t (T.bool true)]) []) = Out.val (V.tup [vs (oe (tree? l)), bl (parse l).isSome]) [] by simp [tree?, parse, oe, *])))
      | cons y r => simp at hlt; (
        let t0 : Tp pr := .i (show ((↑(List.map Ex.ce l).length : Int) : Int) = (↑l.length : Int) by simp)
        let t1 : Tp pr := .b (show (decide ((↑l.length : Int) > (40 : Int))) = false by (simp; omega))
        let t3 : Tp pr := .b (show (decide ((↑l.length : Int) - (↑(y :: r).length : Int) > (0 : Int))) = true by (simp; omega))
        let t4 : Tp pr := .i (show ((↑(List.map Ex.ce l).length : Int) : Int) = (↑l.length : Int) by simp)
        exact .tpe [t0, t1, .a (h), t3, t4] (Out.val (V.tup [V.agg [V.t (T.int IntKind.i64 e.kind), V.t (T.int IntKind.i64 e.nm), V.t (T.str e.text), V.t (T.seq (4 : Nat) e.kids)], V.t (T.bool (decide ((↑l.length : Int) - (↑(y :: r).length : Int) = (↑l.length : Int))))]) []) (by kernel_rfl) ((congrArg (fun x => Out.val (V.tup [V.agg [V.t (T.int IntKind.i64 e.kind), V.t (T.int IntKind.i64 e.nm), V.t (T.str e.text), V.t (T.seq (4 : Nat) e.kids)], V.t (T.bool x)]) []) (show (decide ((↑l.length : Int) - (↑(y :: r).length : Int) = (↑l.length : Int))) = (false) by (simp <;> omega))).trans (show (Out.val (V.tup [V.agg [V.t (T.int IntKind.i64 e.kind), V.t (T.int IntKind.i64 e.nm), V.t (T.str e.text), V.t (T.seq (4 : Nat) e.kids)], V.t (T.bool false)]) []) = Out.val (V.tup [vs (oe (tree? l)), bl (parse l).isSome]) [] by simp [tree?, parse, oe, *])))
  · have h41 : (l.length : Int) > 40 := by omega
    let t0 : Tp pr := .i (show ((↑(List.map Ex.ce l).length : Int) : Int) = (↑l.length : Int) by simp)
    let t1 : Tp pr := .b (show (decide ((↑l.length : Int) > (40 : Int))) = true by (simp; omega))
    exact .tpe [t0, t1] (Out.val (V.tup [V.agg [V.t (T.int IntKind.i64 (0 : Int)), V.t (T.int IntKind.i64 (0 : Int)), V.t (T.str (ByteArray.mk #[])), V.t (T.seq (4 : Nat) [])], V.t (T.bool false)]) []) (by kernel_rfl) ((rfl).trans (show (Out.val (V.tup [V.agg [V.t (T.int IntKind.i64 (0 : Int)), V.t (T.int IntKind.i64 (0 : Int)), V.t (T.str (ByteArray.mk #[])), V.t (T.seq (4 : Nat) [])], V.t (T.bool false)]) []) = Out.val (V.tup [vs (oe (tree? l)), bl (parse l).isSome]) [] by simp [tree?, parse, oe, *]))
theorem nameNo_ev (s : ByteArray) : Ev pr (.call 77 [.t (.str s)] []) (.val (i64 (nameNo s)) []) := by
  by_cases h : s.size = 1
  · obtain ⟨b, hb, hg⟩ := one_byte h
    let t1 : Tp pr := .b (show ((↑s.size : Int) != (1 : Int)) = false by (simp; omega))
    let t2 : Tp pr := .g .u8 (show (lkpS s (0 : Int)) = some (b) from hg)
    by_cases hc3 : (↑b.toNat : Int) < (97 : Int)
    · let t3 : Tp pr := .b (show (decide ((↑b.toNat : Int) < (97 : Int))) = true by simpa using hc3)
      exact .tpe [.i (rfl : ((↑s.size : Int)) = _), t1, t2, t3, .b (rfl : true = true)] (Out.val (V.t (T.int IntKind.i64 (-1 : Int))) []) (by kernel_rfl) ((congrArg (fun x => Out.val (V.t (T.int IntKind.i64 x)) []) (show ((-1 : Int)) = (if (97 : Int) ≤ (↑b.toNat : Int) ∧ (↑b.toNat : Int) ≤ (106 : Int) then (↑b.toNat : Int) - (97 : Int) else (-1 : Int)) by omega)).trans (show (Out.val (V.t (T.int IntKind.i64 (if (97 : Int) ≤ (↑b.toNat : Int) ∧ (↑b.toNat : Int) ≤ (106 : Int) then (↑b.toNat : Int) - (97 : Int) else (-1 : Int)))) []) = Out.val (i64 (nameNo s)) [] by simp [nameNo, *]))
    · let t3 : Tp pr := .b (show (decide ((↑b.toNat : Int) < (97 : Int))) = false by simpa using hc3)
      let t4 : Tp pr := .g .u8 (show (lkpS s (0 : Int)) = some (b) from hg)
      by_cases hc5 : (106 : Int) < (↑b.toNat : Int)
      · let t5 : Tp pr := .b (show (decide ((↑b.toNat : Int) > (106 : Int))) = true by simpa using hc5)
        exact .tpe [.i (rfl : ((↑s.size : Int)) = _), t1, t2, t3, t4, t5] (Out.val (V.t (T.int IntKind.i64 (-1 : Int))) []) (by kernel_rfl) ((congrArg (fun x => Out.val (V.t (T.int IntKind.i64 x)) []) (show ((-1 : Int)) = (if (97 : Int) ≤ (↑b.toNat : Int) ∧ (↑b.toNat : Int) ≤ (106 : Int) then (↑b.toNat : Int) - (97 : Int) else (-1 : Int)) by omega)).trans (show (Out.val (V.t (T.int IntKind.i64 (if (97 : Int) ≤ (↑b.toNat : Int) ∧ (↑b.toNat : Int) ≤ (106 : Int) then (↑b.toNat : Int) - (97 : Int) else (-1 : Int)))) []) = Out.val (i64 (nameNo s)) [] by simp [nameNo, *]))
      · let t5 : Tp pr := .b (show (decide ((↑b.toNat : Int) > (106 : Int))) = false by simpa using hc5)
        let t6 : Tp pr := .g .u8 (show (lkpS s (0 : Int)) = some (b) from hg)
        let t7 : Tp pr := .i (wrap_u8 (a := (↑b.toNat : Int) - (97 : Int)) (by omega) (by omega))
        let t8 : Tp pr := .i (wrap_i64 (a := (↑b.toNat : Int) - (97 : Int)) (by omega) (by omega))
        exact .tpe [.i (rfl : ((↑s.size : Int)) = _), t1, t2, t3, t4, t5, t6, t7, t8] (Out.val (V.t (T.int IntKind.i64 ((↑b.toNat : Int) - (97 : Int)))) []) (by kernel_rfl) ((congrArg (fun x => Out.val (V.t (T.int IntKind.i64 x)) []) (show ((↑b.toNat : Int) - (97 : Int)) = (if (97 : Int) ≤ (↑b.toNat : Int) ∧ (↑b.toNat : Int) ≤ (106 : Int) then (↑b.toNat : Int) - (97 : Int) else (-1 : Int)) by omega)).trans (show (Out.val (V.t (T.int IntKind.i64 (if (97 : Int) ≤ (↑b.toNat : Int) ∧ (↑b.toNat : Int) ≤ (106 : Int) then (↑b.toNat : Int) - (97 : Int) else (-1 : Int)))) []) = Out.val (i64 (nameNo s)) [] by simp [nameNo, *]))
  · have h2 := nameNo_size h
    rw [h2]
    let t1 : Tp pr := .b (show ((↑s.size : Int) != (1 : Int)) = true by (simp; omega))
    exact .tp [.i (rfl : ((↑s.size : Int)) = _), t1, .b (rfl : true = true), .b (rfl : true = true)] (by kernel_rfl)
theorem localBad_ev (x : Ex) : Ev pr (.call 76 [vs x.ce] []) (.val (bl (bad x)) []) := by
  by_cases hc0 : x.kind = (2 : Int)
  · let t0 : Tp pr := .b (show (decide (x.kind = (2 : Int))) = true by simpa using hc0)
    exact .tpe [t0, .a (nameNo_ev (x.text))] (Out.val (V.t (T.bool (decide (nameNo x.text < (0 : Int))))) []) (by kernel_rfl) (congrArg (fun x => Out.val (V.t (T.bool x)) []) (show (decide (nameNo x.text < (0 : Int))) = (bad x) by simp [bad, *]))
  · let t0 : Tp pr := .b (show (decide (x.kind = (2 : Int))) = false by simpa using hc0)
    exact .tpe [t0] (Out.val (V.t (T.bool false)) []) (by kernel_rfl) (congrArg (fun x => Out.val (V.t (T.bool x)) []) (show (false) = (bad x) by simp [bad, *]))
theorem idxEx_ev (l : List Ex) (hl : l.length ≤ 1048576) : ∀ (rest done : List Ex) (i : Int), l = done ++ rest → i = done.length →
    Ev pr (.loop (lq pr 94 0) (at_ [(0, exs l), (1, .t (.clo 76 [])), (7, i64 l.length), (8, i64 i)] [] 0))
      (if 0 ≤ idxFrom bad i rest then .ret (at_ [(4, i64 (idxFrom bad i rest))] [] 0) else .exit 0 (at_ [] [] 0))
  | [], done, i, h, hi => by
    have hll : (l.length : Int) = done.length := by simp [h]
    let t0 : Tp pr := .b (show (decide (i < (↑l.length : Int))) = false by (simp; omega))
    exact .tp [t0] (by kernel_rfl)
  | x :: rest, done, i, h, hi => by
    have hll : (l.length : Int) = done.length + 1 + rest.length := by simp [h]; omega
    have hg : lkp (l.map Ex.ce) i = some x.ce := by subst hi; subst h; simp
    have ih := idxEx_ev l hl rest (done ++ [x]) (i + 1) (by simp [h]) (by simp [hi])
    have hi0 : 0 ≤ i := by omega
    cases hb : bad x with
    | true => (
      let t0 : Tp pr := .b (show (decide (i < (↑l.length : Int))) = true by (simp; omega))
      let t1 : Tp pr := .g .row (show (lkp (List.map Ex.ce l) i) = some (x.ce) from hg)
      exact .tpe [t0, t1, .a (localBad_ev (x)), .b (show (bad x) = true by assumption)] (Out.ret (at_ [((4 : Nat), V.t (T.int IntKind.i64 i))] [] (0 : Nat))) (by kernel_rfl) ((rfl).trans (show (Out.ret (at_ [((4 : Nat), V.t (T.int IntKind.i64 i))] [] (0 : Nat))) = if (0 : Int) ≤ idxFrom bad i (x :: rest) then Out.ret (at_ [((4 : Nat), i64 (idxFrom bad i (x :: rest)))] [] (0 : Nat)) else Out.exit (0 : Nat) (at_ [] [] (0 : Nat)) by simp [idxFrom, hb, hi0])))
    | false =>
      have hI : idxFrom bad i (x :: rest) = idxFrom bad (i + 1) rest := by simp [idxFrom, hb]
      rw [hI]
      by_cases h0 : 0 ≤ idxFrom bad (i + 1) rest
      · rw [if_pos h0] at ih ⊢; (
        let t0 : Tp pr := .b (show (decide (i < (↑l.length : Int))) = true by (simp; omega))
        let t1 : Tp pr := .g .row (show (lkp (List.map Ex.ce l) i) = some (x.ce) from hg)
        let t4 : Tp pr := .i (wrap_i64 (a := i + (1 : Int)) (by omega) (by omega))
        exact .tp [t0, t1, .a (localBad_ev (x)), .b (show (bad x) = false by assumption), t4, .a (ih)] (by kernel_rfl))
      · rw [if_neg h0] at ih ⊢; (
        let t0 : Tp pr := .b (show (decide (i < (↑l.length : Int))) = true by (simp; omega))
        let t1 : Tp pr := .g .row (show (lkp (List.map Ex.ce l) i) = some (x.ce) from hg)
        let t4 : Tp pr := .i (wrap_i64 (a := i + (1 : Int)) (by omega) (by omega))
        exact .tp [t0, t1, .a (localBad_ev (x)), .b (show (bad x) = false by assumption), t4, .a (ih)] (by kernel_rfl))
theorem idxExs_ev (l : List Ex) (hl : l.length ≤ 1048576) : Ev pr (.call 94 [exs l, .t (.clo 76 [])] []) (.val (i64 (idxFrom bad 0 l)) []) := by
  have h := idxEx_ev l hl l [] 0 rfl rfl
  have h2 := idxFrom_neg bad l 0 (Int.le_refl _)
  by_cases h0 : 0 ≤ idxFrom bad 0 l
  · rw [if_pos h0] at h; (
    let t0 : Tp pr := .i (show ((↑(List.map Ex.ce l).length : Int) : Int) = (↑l.length : Int) by simp)
    exact .tp [t0, .a (h)] (by kernel_rfl))
  · rw [if_neg h0] at h; rw [h2 h0]; (
    let t0 : Tp pr := .i (show ((↑(List.map Ex.ce l).length : Int) : Int) = (↑l.length : Int) by simp)
    exact .tp [t0, .a (h)] (by kernel_rfl))
theorem anyBad_ev (l : List Ex) (hl : l.length ≤ 1048576) : Ev pr (.call 75 [exs l, .t (.clo 76 [])] []) (.val (bl (l.any bad)) []) := by
  rw [← idxFrom_any bad l 0 (by omega)]
  exact .tp [.a (idxExs_ev (l) (by assumption))] (by kernel_rfl)
theorem localExpr_ev (l : List Ex) (hl : l.length ≤ 1048576) (hs : ∀ x ∈ l, x.text.size ≤ 9223372036854775807) : Ev pr (.call 50 [exs l] []) (.val (outE (parseL l)) []) := by
  have h := exprOf_ev l hl hs
  cases hp : parse l with
  | none => rw [hp] at h; (
    by_cases hc1 : ∃ x, x ∈ l ∧ bad x = true
    · let t1 : Tp pr := .b (show (l.any bad) = true by simpa using hc1)
      exact .tpe [.a (anyBad_ev (l) (by assumption)), t1] (Out.val (V.t T.nilp) []) (by kernel_rfl) ((rfl).trans (show (Out.val (V.t T.nilp) []) = Out.val (outE (parseL l)) [] by simp [parseL, outE, *]))
    · let t1 : Tp pr := .b (show (l.any bad) = false by simpa using hc1)
      exact .tpe [.a (anyBad_ev (l) (by assumption)), t1, .a (h)] (Out.val (V.t T.nilp) []) (by kernel_rfl) ((rfl).trans (show (Out.val (V.t T.nilp) []) = Out.val (outE (parseL l)) [] by simp [parseL, outE, *])))
  | some e => rw [hp] at h; (
    by_cases hc1 : ∃ x, x ∈ l ∧ bad x = true
    · let t1 : Tp pr := .b (show (l.any bad) = true by simpa using hc1)
      exact .tpe [.a (anyBad_ev (l) (by assumption)), t1] (Out.val (V.t T.nilp) []) (by kernel_rfl) ((rfl).trans (show (Out.val (V.t T.nilp) []) = Out.val (outE (parseL l)) [] by simp [parseL, outE, E.tp, *]))
    · let t1 : Tp pr := .b (show (l.any bad) = false by simpa using hc1)
      exact .tpe [.a (anyBad_ev (l) (by assumption)), t1, .a (h)] (Out.val (V.t (T.ptr [T.int IntKind.i64 e.kind, T.int IntKind.i64 e.nm, T.str e.text, e.tab.fst, e.tab.snd] (0 : Nat))) []) (by kernel_rfl) ((rfl).trans (show (Out.val (V.t (T.ptr [T.int IntKind.i64 e.kind, T.int IntKind.i64 e.nm, T.str e.text, e.tab.fst, e.tab.snd] (0 : Nat))) []) = Out.val (outE (parseL l)) [] by simp [parseL, outE, E.tp, *])))
theorem NameNoS_ev (s : ByteArray) : Ev pr (.call 73 [.t (.str s)] []) (.val (if nameNo s < 0 then .tup [i64 0, bl false] else .tup [i64 (nameNo s), bl true]) []) := by
  by_cases h : s.size = 1
  · obtain ⟨b, hb, hg⟩ := one_byte h
    by_cases hr : 97 ≤ (b.toNat : Int) ∧ (b.toNat : Int) ≤ 106
    · have hn : nameNo s = b.toNat - 97 := by simp [nameNo, hb, hr]
      have h97 : ¬ (b.toNat : Int) < 97 := by omega
      have h106 : ¬ (b.toNat : Int) > 106 := by omega
      rw [hn, if_neg (by omega)]
      let t1 : Tp pr := .b (show ((↑s.size : Int) != (1 : Int)) = false by (simp; omega))
      let t2 : Tp pr := .g .u8 (show (lkpS s (0 : Int)) = some (b) from hg)
      let t3 : Tp pr := .b (show (decide ((↑b.toNat : Int) < (97 : Int))) = false by (simp; omega))
      let t4 : Tp pr := .g .u8 (show (lkpS s (0 : Int)) = some (b) from hg)
      let t5 : Tp pr := .b (show (decide ((↑b.toNat : Int) > (106 : Int))) = false by (simp; omega))
      let t6 : Tp pr := .g .u8 (show (lkpS s (0 : Int)) = some (b) from hg)
      let t7 : Tp pr := .i (wrap_u8 (a := (↑b.toNat : Int) - (97 : Int)) (by omega) (by omega))
      let t8 : Tp pr := .i (wrap_i64 (a := (↑b.toNat : Int) - (97 : Int)) (by omega) (by omega))
      exact .tp [.i (rfl : ((↑s.size : Int)) = _), t1, t2, t3, t4, t5, t6, t7, t8] (by kernel_rfl)
    · have hn : nameNo s = -1 := by simp [nameNo, hb, hr]
      rw [hn, if_pos (by omega)]
      by_cases h97 : (b.toNat : Int) < 97
      · let t1 : Tp pr := .b (show ((↑s.size : Int) != (1 : Int)) = false by (simp; omega))
        let t2 : Tp pr := .g .u8 (show (lkpS s (0 : Int)) = some (b) from hg)
        let t3 : Tp pr := .b (show (decide ((↑b.toNat : Int) < (97 : Int))) = true by (simp; omega))
        exact .tp [.i (rfl : ((↑s.size : Int)) = _), t1, t2, t3, .b (rfl : true = true)] (by kernel_rfl)
      · have h106 : (b.toNat : Int) > 106 := by omega
        let t1 : Tp pr := .b (show ((↑s.size : Int) != (1 : Int)) = false by (simp; omega))
        let t2 : Tp pr := .g .u8 (show (lkpS s (0 : Int)) = some (b) from hg)
        let t3 : Tp pr := .b (show (decide ((↑b.toNat : Int) < (97 : Int))) = false by (simp; omega))
        let t4 : Tp pr := .g .u8 (show (lkpS s (0 : Int)) = some (b) from hg)
        let t5 : Tp pr := .b (show (decide ((↑b.toNat : Int) > (106 : Int))) = true by (simp; omega))
        exact .tp [.i (rfl : ((↑s.size : Int)) = _), t1, t2, t3, t4, t5] (by kernel_rfl)
  · have h2 := nameNo_size h
    rw [h2]
    let t1 : Tp pr := .b (show ((↑s.size : Int) != (1 : Int)) = true by (simp; omega))
    exact .tp [.i (rfl : ((↑s.size : Int)) = _), t1, .b (rfl : true = true), .b (rfl : true = true)] (by kernel_rfl)
end Go.Ev

/- Lines: which are good. -/
namespace Go.Ev
set_option linter.unusedVariables false
set_option linter.unusedSimpArgs false
open Go.Proofs
set_option maxRecDepth 100000
set_option linter.unusedVariables false
set_option maxHeartbeats 1000000
theorem l17L_ev (ks : List E) (hk : ks.length ≤ 2) (hn : ∀ k ∈ ks, Ev pr (.call 71 [vs k.ts] []) (.val (bl k.names) [])) : ∀ (rest done : List E) (i : Int), ks = done ++ rest → i = done.length →
    Ev pr (.loop (lq pr 71 0) (at_ [(18, .t (.seq 4 (ks.map E.ts))), (19, i64 ks.length), (20, i64 i)] [] 0))
      (bif rest.all E.names then .exit 0 (at_ [] [] 0) else .ret (at_ [(2, bl false)] [] 0))
  | [], done, i, h, hi => by
    have hll : (ks.length : Int) = done.length := by simp [h]
    let t0 : Tp pr := .b (show (decide (i < (↑ks.length : Int))) = false by (simp; omega))
    exact .tp [t0] (by kernel_rfl)
  | x :: rest, done, i, h, hi => by
    have hll : (ks.length : Int) = done.length + 1 + rest.length := by simp [h]; omega
    have hg : lkp (ks.map E.ts) i = some x.ts := by subst hi; subst h; simp
    have hx := hn x (by simp [h])
    have ih := l17L_ev ks hk hn rest (done ++ [x]) (i + 1) (by simp [h]) (by simp [hi])
    cases hb : x.names with
    | true =>
      simp only [List.all_cons, hb, Bool.true_and]
      cases hr : rest.all E.names with
      | true => rw [hr] at ih; (
        let t0 : Tp pr := .b (show (decide (i < (↑ks.length : Int))) = true by (simp; omega))
        let t1 : Tp pr := .g .row (show (lkp (List.map E.ts ks) i) = some (x.ts) from hg)
        let t3 : Tp pr := .b (show (!x.names) = false by (simp; omega))
        let t4 : Tp pr := .i (wrap_i64 (a := i + (1 : Int)) (by omega) (by omega))
        exact .tp [t0, t1, .a (hn (x) (by simp [*])), t3, t4, .a (ih)] (by kernel_rfl))
      | false => rw [hr] at ih; (
        let t0 : Tp pr := .b (show (decide (i < (↑ks.length : Int))) = true by (simp; omega))
        let t1 : Tp pr := .g .row (show (lkp (List.map E.ts ks) i) = some (x.ts) from hg)
        let t3 : Tp pr := .b (show (!x.names) = false by (simp; omega))
        let t4 : Tp pr := .i (wrap_i64 (a := i + (1 : Int)) (by omega) (by omega))
        exact .tp [t0, t1, .a (hn (x) (by simp [*])), t3, t4, .a (ih)] (by kernel_rfl))
    | false =>
      simp only [List.all_cons, hb, Bool.false_and]
      let t0 : Tp pr := .b (show (decide (i < (↑ks.length : Int))) = true by (simp; omega))
      let t1 : Tp pr := .g .row (show (lkp (List.map E.ts ks) i) = some (x.ts) from hg)
      let t3 : Tp pr := .b (show (!x.names) = true by (simp; omega))
      exact .tp [t0, t1, .a (hn (x) (by simp [*])), t3] (by kernel_rfl)
theorem l17Names_ev : ∀ e : E, Ev pr (.call 71 [vs e.ts] []) (.val (bl e.names) [])
  | .num n => by
    have h := l17L_ev [] (by simp) (by simp) [] [] 0 rfl rfl
    let t1 : Tp pr := .i (rfl : ((0 : Int) : Int) = (0 : Int))
    exact .tp [.b (rfl : false = false), t1, .a (h)] (by kernel_rfl)
  | .name s => by
    have h := NameNoS_ev s
    by_cases h0 : nameNo s < 0
    · rw [if_pos h0] at h; exact .tpe [.b (rfl : true = true), .a (h)] (Out.val (V.t (T.bool false)) []) (by kernel_rfl) (congrArg (fun x => Out.val (V.t (T.bool x)) []) (show (false) = ((E.name s).names) by simp [E.names]; omega))
    · rw [if_neg h0] at h; exact .tpe [.b (rfl : true = true), .a (h)] (Out.val (V.t (T.bool true)) []) (by kernel_rfl) (congrArg (fun x => Out.val (V.t (T.bool x)) []) (show (true) = ((E.name s).names) by simp [E.names]; omega))
  | .neg a => by
    have ih := l17Names_ev a
    have h := l17L_ev [a] (by simp) (by simpa using ih) [a] [] 0 rfl rfl
    cases ha : a.names with
    | true => simp only [List.all_cons, ha, List.all_nil, Bool.and_self, cond_true] at h; (
      let t1 : Tp pr := .i (rfl : ((1 : Int) : Int) = (1 : Int))
      exact .tpe [.b (rfl : false = false), t1, .a (h)] (Out.val (V.t (T.bool true)) []) (by kernel_rfl) (congrArg (fun x => Out.val (V.t (T.bool x)) []) (show (true) = (a.neg.names) by simp [E.names, ha])))
    | false => simp only [List.all_cons, ha, List.all_nil, Bool.false_and, cond_false] at h; (
      let t1 : Tp pr := .i (rfl : ((1 : Int) : Int) = (1 : Int))
      exact .tpe [.b (rfl : false = false), t1, .a (h)] (Out.val (V.t (T.bool false)) []) (by kernel_rfl) (congrArg (fun x => Out.val (V.t (T.bool x)) []) (show (false) = (a.neg.names) by simp [E.names, ha])))
  | .not a => by
    have ih := l17Names_ev a
    have h := l17L_ev [a] (by simp) (by simpa using ih) [a] [] 0 rfl rfl
    cases ha : a.names with
    | true => simp only [List.all_cons, ha, List.all_nil, Bool.and_self, cond_true] at h; (
      let t1 : Tp pr := .i (rfl : ((1 : Int) : Int) = (1 : Int))
      exact .tpe [.b (rfl : false = false), t1, .a (h)] (Out.val (V.t (T.bool true)) []) (by kernel_rfl) (congrArg (fun x => Out.val (V.t (T.bool x)) []) (show (true) = (a.not.names) by simp [E.names, ha])))
    | false => simp only [List.all_cons, ha, List.all_nil, Bool.false_and, cond_false] at h; (
      let t1 : Tp pr := .i (rfl : ((1 : Int) : Int) = (1 : Int))
      exact .tpe [.b (rfl : false = false), t1, .a (h)] (Out.val (V.t (T.bool false)) []) (by kernel_rfl) (congrArg (fun x => Out.val (V.t (T.bool x)) []) (show (false) = (a.not.names) by simp [E.names, ha])))
  | .two s a b => by
    have ih := l17Names_ev a
    have ih2 := l17Names_ev b
    have h := l17L_ev [a, b] (by simp) (by intro k hk; simp at hk; rcases hk with rfl | rfl <;> assumption) [a, b] [] 0 rfl rfl
    cases ha : (a.names && b.names) with
    | true => simp only [List.all_cons, List.all_nil, Bool.and_true, ha, cond_true] at h; (
      let t1 : Tp pr := .i (rfl : ((2 : Int) : Int) = (2 : Int))
      exact .tpe [.b (rfl : false = false), t1, .a (h)] (Out.val (V.t (T.bool true)) []) (by kernel_rfl) (congrArg (fun x => Out.val (V.t (T.bool x)) []) (show (true) = ((E.two s a b).names) by simp [E.names, ha])))
    | false => simp only [List.all_cons, List.all_nil, Bool.and_true, ha, cond_false] at h; (
      let t1 : Tp pr := .i (rfl : ((2 : Int) : Int) = (2 : Int))
      exact .tpe [.b (rfl : false = false), t1, .a (h)] (Out.val (V.t (T.bool false)) []) (by kernel_rfl) (congrArg (fun x => Out.val (V.t (T.bool x)) []) (show (false) = ((E.two s a b).names) by simp only [E.names, ha])))
theorem l17Expr_ev (l : List Ex) (hl : l.length ≤ 1048576) (hs : ∀ x ∈ l, x.text.size ≤ 9223372036854775807) : Ev pr (.call 38 [exs l] []) (.val (.tup [vs (oe (tree? l)), bl (parseL l).isSome]) []) := by
  rw [parseL_isSome]
  cases hp : parse l with
  | none => (
    let t0 : Tp pr := .a (l2Tree_ev (l) (by assumption) (by assumption))
    let t4 : Tp pr := .b (show (match parse l with
    | some val => true
    | none => false) = false by simp [*])
    exact .tp [t0, .m (rfl : true = true), .m (rfl : true = true), .m (rfl : true = true), t4, .m (rfl : true = true), .m (rfl : true = true), .m (rfl : true = true), .m (rfl : true = true), .m (rfl : true = true)] (by kernel_rfl))
  | some e =>
    have ht := parse_tree hp
    have h := l17Names_ev e
    rw [ht]
    let t0 : Tp pr := .a (l2Tree_ev (l) (by assumption) (by assumption))
    let t4 : Tp pr := .b (show (match parse l with
    | some val => true
    | none => false) = true by simp [*])
    let t6 : Tp pr := .a (Ev.castq ((((congrArg (fun x => Q.call (71 : FuncId) [V.agg [V.t (T.int IntKind.i64 x), V.t (T.int IntKind.i64 e.nm), V.t (T.str e.text), V.t (T.seq (4 : Nat) e.kids)]] []) (show (e.kind) = (oKind (tree? l)) by simp [*])).trans (congrArg (fun x => Q.call (71 : FuncId) [V.agg [V.t (T.int IntKind.i64 (oKind (tree? l))), V.t (T.int IntKind.i64 x), V.t (T.str e.text), V.t (T.seq (4 : Nat) e.kids)]] []) (show (e.nm) = (oNm (tree? l)) by simp [*]))).trans (congrArg (fun x => Q.call (71 : FuncId) [V.agg [V.t (T.int IntKind.i64 (oKind (tree? l))), V.t (T.int IntKind.i64 (oNm (tree? l))), V.t (T.str x), V.t (T.seq (4 : Nat) e.kids)]] []) (show (e.text) = (oText (tree? l)) by simp [*]))).trans (congrArg (fun x => Q.call (71 : FuncId) [V.agg [V.t (T.int IntKind.i64 (oKind (tree? l))), V.t (T.int IntKind.i64 (oNm (tree? l))), V.t (T.str (oText (tree? l))), V.t (T.seq (4 : Nat) x)]] []) (show (e.kids) = (oKids (tree? l)) by simp [*]))) (h))
    exact .tpe [t0, .m (rfl : true = true), .m (rfl : true = true), .m (rfl : true = true), t4, .m (rfl : true = true), t6, .m (rfl : true = true), .m (rfl : true = true), .m (rfl : true = true), .m (rfl : true = true)] (Out.val (V.tup [V.agg [V.t (T.int IntKind.i64 (oKind (tree? l))), V.t (T.int IntKind.i64 (oNm (tree? l))), V.t (T.str (oText (tree? l))), V.t (T.seq (4 : Nat) (oKids (tree? l)))], V.t (T.bool e.names)]) []) (by kernel_rfl) (((((congrArg (fun x => Out.val (V.tup [V.agg [V.t (T.int IntKind.i64 x), V.t (T.int IntKind.i64 (oNm (tree? l))), V.t (T.str (oText (tree? l))), V.t (T.seq (4 : Nat) (oKids (tree? l)))], V.t (T.bool e.names)]) []) (show (oKind (tree? l)) = (oKind (some e)) by simp [*])).trans (congrArg (fun x => Out.val (V.tup [V.agg [V.t (T.int IntKind.i64 (oKind (some e))), V.t (T.int IntKind.i64 x), V.t (T.str (oText (tree? l))), V.t (T.seq (4 : Nat) (oKids (tree? l)))], V.t (T.bool e.names)]) []) (show (oNm (tree? l)) = (oNm (some e)) by simp [*]))).trans (congrArg (fun x => Out.val (V.tup [V.agg [V.t (T.int IntKind.i64 (oKind (some e))), V.t (T.int IntKind.i64 (oNm (some e))), V.t (T.str x), V.t (T.seq (4 : Nat) (oKids (tree? l)))], V.t (T.bool e.names)]) []) (show (oText (tree? l)) = (oText (some e)) by simp [*]))).trans (congrArg (fun x => Out.val (V.tup [V.agg [V.t (T.int IntKind.i64 (oKind (some e))), V.t (T.int IntKind.i64 (oNm (some e))), V.t (T.str (oText (some e))), V.t (T.seq (4 : Nat) x)], V.t (T.bool e.names)]) []) (show (oKids (tree? l)) = (oKids (some e)) by simp [*]))).trans (congrArg (fun x => Out.val (V.tup [V.agg [V.t (T.int IntKind.i64 (oKind (some e))), V.t (T.int IntKind.i64 (oNm (some e))), V.t (T.str (oText (some e))), V.t (T.seq (4 : Nat) (oKids (some e)))], V.t (T.bool x)]) []) (show (e.names) = (true && e.names) by simp [hp])))
theorem lineOk_ev (x : Line) (hl : x.expr.length ≤ 1048576) (hs : ∀ y ∈ x.expr, y.text.size ≤ 9223372036854775807) : Ev pr (.call 44 [vs x.ce] []) (.val (bl (lineOk x)) []) := by
  have h := localExpr_ev x.expr hl hs
  unfold lineOk
  cases hp : parseL x.expr with
  | none => rw [hp] at h; (
    by_cases hc0 : x.kind = (1 : Int)
    · let t0 : Tp pr := .b (show (decide (x.kind = (1 : Int))) = true by simpa using hc0)
      let t1 : Tp pr := .a (within_ev (x.name) ((0 : Int)) ((9 : Int)))
      by_cases hc2 : (0 : Int) ≤ x.name ∧ x.name ≤ (9 : Int)
      · let t2 : Tp pr := .b (show (decide (x.name ≥ (0 : Int)) && decide (x.name ≤ (9 : Int))) = true by simpa using hc2)
        exact .tpe [t0, t1, t2, .a (h)] (Out.val (V.t (T.bool false)) []) (by kernel_rfl) ((rfl).trans (show (Out.val (V.t (T.bool false)) []) = Out.val (bl (if x.kind = (1 : Int) then decide (x.name ≥ (0 : Int)) && decide (x.name ≤ (9 : Int)) && none.isSome else if x.kind = (2 : Int) then decide (x.name = (0 : Int)) && none.isSome else decide (x.kind = (3 : Int)) && decide (x.name = (0 : Int)) && decide (x.expr.length = (0 : Nat)))) [] by simp [*]))
      · let t2 : Tp pr := .b (show (decide (x.name ≥ (0 : Int)) && decide (x.name ≤ (9 : Int))) = false by simpa using hc2)
        exact .tpe [t0, t1, t2] (Out.val (V.t (T.bool false)) []) (by kernel_rfl) ((rfl).trans (show (Out.val (V.t (T.bool false)) []) = Out.val (bl (if x.kind = (1 : Int) then decide (x.name ≥ (0 : Int)) && decide (x.name ≤ (9 : Int)) && none.isSome else if x.kind = (2 : Int) then decide (x.name = (0 : Int)) && none.isSome else decide (x.kind = (3 : Int)) && decide (x.name = (0 : Int)) && decide (x.expr.length = (0 : Nat)))) [] by simp [*]))
    · let t0 : Tp pr := .b (show (decide (x.kind = (1 : Int))) = false by simpa using hc0)
      by_cases hc1 : x.kind = (2 : Int)
      · let t1 : Tp pr := .b (show (decide (x.kind = (2 : Int))) = true by simpa using hc1)
        by_cases hc2 : x.name = (0 : Int)
        · let t2 : Tp pr := .b (show (decide (x.name = (0 : Int))) = true by simpa using hc2)
          exact .tpe [t0, t1, t2, .a (h)] (Out.val (V.t (T.bool false)) []) (by kernel_rfl) ((rfl).trans (show (Out.val (V.t (T.bool false)) []) = Out.val (bl (if x.kind = (1 : Int) then decide (x.name ≥ (0 : Int)) && decide (x.name ≤ (9 : Int)) && none.isSome else if x.kind = (2 : Int) then decide (x.name = (0 : Int)) && none.isSome else decide (x.kind = (3 : Int)) && decide (x.name = (0 : Int)) && decide (x.expr.length = (0 : Nat)))) [] by simp [*]))
        · let t2 : Tp pr := .b (show (decide (x.name = (0 : Int))) = false by simpa using hc2)
          exact .tpe [t0, t1, t2] (Out.val (V.t (T.bool false)) []) (by kernel_rfl) ((rfl).trans (show (Out.val (V.t (T.bool false)) []) = Out.val (bl (if x.kind = (1 : Int) then decide (x.name ≥ (0 : Int)) && decide (x.name ≤ (9 : Int)) && none.isSome else if x.kind = (2 : Int) then decide (x.name = (0 : Int)) && none.isSome else decide (x.kind = (3 : Int)) && decide (x.name = (0 : Int)) && decide (x.expr.length = (0 : Nat)))) [] by simp [*]))
      · let t1 : Tp pr := .b (show (decide (x.kind = (2 : Int))) = false by simpa using hc1)
        by_cases hc2 : x.kind = (3 : Int)
        · let t2 : Tp pr := .b (show (decide (x.kind = (3 : Int))) = true by simpa using hc2)
          by_cases hc3 : x.name = (0 : Int)
          · let t3 : Tp pr := .b (show (decide (x.name = (0 : Int))) = true by simpa using hc3)
            let t4 : Tp pr := .i (show ((↑(List.map Ex.ce x.expr).length : Int) : Int) = (↑x.expr.length : Int) by simp)
            exact .tpe [t0, t1, t2, t3, t4] (Out.val (V.t (T.bool (decide ((↑x.expr.length : Int) = (0 : Int))))) []) (by kernel_rfl) ((congrArg (fun x => Out.val (V.t (T.bool x)) []) (show (decide ((↑x.expr.length : Int) = (0 : Int))) = (decide (x.expr = [])) by simp)).trans (show (Out.val (V.t (T.bool (decide (x.expr = [])))) []) = Out.val (bl (if x.kind = (1 : Int) then decide (x.name ≥ (0 : Int)) && decide (x.name ≤ (9 : Int)) && none.isSome else if x.kind = (2 : Int) then decide (x.name = (0 : Int)) && none.isSome else decide (x.kind = (3 : Int)) && decide (x.name = (0 : Int)) && decide (x.expr.length = (0 : Nat)))) [] by simp [*]))
          · let t3 : Tp pr := .b (show (decide (x.name = (0 : Int))) = false by simpa using hc3)
            exact .tpe [t0, t1, t2, t3] (Out.val (V.t (T.bool false)) []) (by kernel_rfl) ((rfl).trans (show (Out.val (V.t (T.bool false)) []) = Out.val (bl (if x.kind = (1 : Int) then decide (x.name ≥ (0 : Int)) && decide (x.name ≤ (9 : Int)) && none.isSome else if x.kind = (2 : Int) then decide (x.name = (0 : Int)) && none.isSome else decide (x.kind = (3 : Int)) && decide (x.name = (0 : Int)) && decide (x.expr.length = (0 : Nat)))) [] by simp [*]))
        · let t2 : Tp pr := .b (show (decide (x.kind = (3 : Int))) = false by simpa using hc2)
          exact .tpe [t0, t1, t2, .b (rfl : false = false)] (Out.val (V.t (T.bool false)) []) (by kernel_rfl) ((rfl).trans (show (Out.val (V.t (T.bool false)) []) = Out.val (bl (if x.kind = (1 : Int) then decide (x.name ≥ (0 : Int)) && decide (x.name ≤ (9 : Int)) && none.isSome else if x.kind = (2 : Int) then decide (x.name = (0 : Int)) && none.isSome else decide (x.kind = (3 : Int)) && decide (x.name = (0 : Int)) && decide (x.expr.length = (0 : Nat)))) [] by simp [*])))
  | some e => rw [hp] at h; (
    by_cases hc0 : x.kind = (1 : Int)
    · let t0 : Tp pr := .b (show (decide (x.kind = (1 : Int))) = true by simpa using hc0)
      let t1 : Tp pr := .a (within_ev (x.name) ((0 : Int)) ((9 : Int)))
      by_cases hc2 : (0 : Int) ≤ x.name ∧ x.name ≤ (9 : Int)
      · let t2 : Tp pr := .b (show (decide (x.name ≥ (0 : Int)) && decide (x.name ≤ (9 : Int))) = true by simpa using hc2)
        exact .tpe [t0, t1, t2, .a (h)] (Out.val (V.t (T.bool true)) []) (by kernel_rfl) ((rfl).trans (show (Out.val (V.t (T.bool true)) []) = Out.val (bl (if x.kind = (1 : Int) then decide (x.name ≥ (0 : Int)) && decide (x.name ≤ (9 : Int)) && (some e).isSome else if x.kind = (2 : Int) then decide (x.name = (0 : Int)) && (some e).isSome else decide (x.kind = (3 : Int)) && decide (x.name = (0 : Int)) && decide (x.expr.length = (0 : Nat)))) [] by simp [*]))
      · let t2 : Tp pr := .b (show (decide (x.name ≥ (0 : Int)) && decide (x.name ≤ (9 : Int))) = false by simpa using hc2)
        exact .tpe [t0, t1, t2] (Out.val (V.t (T.bool false)) []) (by kernel_rfl) ((congrArg (fun x => Out.val (V.t (T.bool x)) []) (show (false) = (decide ((0 : Int) ≤ x.name) && decide (x.name ≤ (9 : Int))) by (simp; omega))).trans (show (Out.val (V.t (T.bool (decide ((0 : Int) ≤ x.name) && decide (x.name ≤ (9 : Int))))) []) = Out.val (bl (if x.kind = (1 : Int) then decide (x.name ≥ (0 : Int)) && decide (x.name ≤ (9 : Int)) && (some e).isSome else if x.kind = (2 : Int) then decide (x.name = (0 : Int)) && (some e).isSome else decide (x.kind = (3 : Int)) && decide (x.name = (0 : Int)) && decide (x.expr.length = (0 : Nat)))) [] by simp [*]))
    · let t0 : Tp pr := .b (show (decide (x.kind = (1 : Int))) = false by simpa using hc0)
      by_cases hc1 : x.kind = (2 : Int)
      · let t1 : Tp pr := .b (show (decide (x.kind = (2 : Int))) = true by simpa using hc1)
        by_cases hc2 : x.name = (0 : Int)
        · let t2 : Tp pr := .b (show (decide (x.name = (0 : Int))) = true by simpa using hc2)
          exact .tpe [t0, t1, t2, .a (h)] (Out.val (V.t (T.bool true)) []) (by kernel_rfl) ((rfl).trans (show (Out.val (V.t (T.bool true)) []) = Out.val (bl (if x.kind = (1 : Int) then decide (x.name ≥ (0 : Int)) && decide (x.name ≤ (9 : Int)) && (some e).isSome else if x.kind = (2 : Int) then decide (x.name = (0 : Int)) && (some e).isSome else decide (x.kind = (3 : Int)) && decide (x.name = (0 : Int)) && decide (x.expr.length = (0 : Nat)))) [] by simp [*]))
        · let t2 : Tp pr := .b (show (decide (x.name = (0 : Int))) = false by simpa using hc2)
          exact .tpe [t0, t1, t2] (Out.val (V.t (T.bool false)) []) (by kernel_rfl) ((rfl).trans (show (Out.val (V.t (T.bool false)) []) = Out.val (bl (if x.kind = (1 : Int) then decide (x.name ≥ (0 : Int)) && decide (x.name ≤ (9 : Int)) && (some e).isSome else if x.kind = (2 : Int) then decide (x.name = (0 : Int)) && (some e).isSome else decide (x.kind = (3 : Int)) && decide (x.name = (0 : Int)) && decide (x.expr.length = (0 : Nat)))) [] by simp [*]))
      · let t1 : Tp pr := .b (show (decide (x.kind = (2 : Int))) = false by simpa using hc1)
        by_cases hc2 : x.kind = (3 : Int)
        · let t2 : Tp pr := .b (show (decide (x.kind = (3 : Int))) = true by simpa using hc2)
          by_cases hc3 : x.name = (0 : Int)
          · let t3 : Tp pr := .b (show (decide (x.name = (0 : Int))) = true by simpa using hc3)
            let t4 : Tp pr := .i (show ((↑(List.map Ex.ce x.expr).length : Int) : Int) = (↑x.expr.length : Int) by simp)
            exact .tpe [t0, t1, t2, t3, t4] (Out.val (V.t (T.bool (decide ((↑x.expr.length : Int) = (0 : Int))))) []) (by kernel_rfl) ((congrArg (fun x => Out.val (V.t (T.bool x)) []) (show (decide ((↑x.expr.length : Int) = (0 : Int))) = (decide (x.expr = [])) by simp)).trans (show (Out.val (V.t (T.bool (decide (x.expr = [])))) []) = Out.val (bl (if x.kind = (1 : Int) then decide (x.name ≥ (0 : Int)) && decide (x.name ≤ (9 : Int)) && (some e).isSome else if x.kind = (2 : Int) then decide (x.name = (0 : Int)) && (some e).isSome else decide (x.kind = (3 : Int)) && decide (x.name = (0 : Int)) && decide (x.expr.length = (0 : Nat)))) [] by simp [*]))
          · let t3 : Tp pr := .b (show (decide (x.name = (0 : Int))) = false by simpa using hc3)
            exact .tpe [t0, t1, t2, t3] (Out.val (V.t (T.bool false)) []) (by kernel_rfl) ((rfl).trans (show (Out.val (V.t (T.bool false)) []) = Out.val (bl (if x.kind = (1 : Int) then decide (x.name ≥ (0 : Int)) && decide (x.name ≤ (9 : Int)) && (some e).isSome else if x.kind = (2 : Int) then decide (x.name = (0 : Int)) && (some e).isSome else decide (x.kind = (3 : Int)) && decide (x.name = (0 : Int)) && decide (x.expr.length = (0 : Nat)))) [] by simp [*]))
        · let t2 : Tp pr := .b (show (decide (x.kind = (3 : Int))) = false by simpa using hc2)
          exact .tpe [t0, t1, t2, .b (rfl : false = false)] (Out.val (V.t (T.bool false)) []) (by kernel_rfl) ((rfl).trans (show (Out.val (V.t (T.bool false)) []) = Out.val (bl (if x.kind = (1 : Int) then decide (x.name ≥ (0 : Int)) && decide (x.name ≤ (9 : Int)) && (some e).isSome else if x.kind = (2 : Int) then decide (x.name = (0 : Int)) && (some e).isSome else decide (x.kind = (3 : Int)) && decide (x.name = (0 : Int)) && decide (x.expr.length = (0 : Nat)))) [] by simp [*])))
end Go.Ev

/- Programs: which are good. -/
namespace Go.Ev
set_option linter.unusedVariables false
set_option linter.unusedSimpArgs false
open Go.Proofs
set_option maxRecDepth 100000
set_option linter.unusedVariables false
set_option maxHeartbeats 1000000
def endsOut (l : List Line) : Option (List Int × List Int × List Int) → Out
  | some (out, st, junk) => .exit 0 (at_ [(4, .vec 0 l.length 1 0 l.length), (5, .vec 1 (st.length + junk.length) 1 0 st.length)] [.vec true 1 (ints out), .vec true 1 (ints (st.reverse ++ junk))] 0)
  | none => .ret (at_ [(2, .t .nils), (3, bl false)] [] 0)
theorem endsL_ev (l : List Line) (hl : l.length ≤ 1048576) : ∀ (rest done : List Line) (i : Int) (out st junk : List Int), l = done ++ rest → i = done.length → out.length = l.length → (∀ k ∈ st, 0 ≤ k ∧ k < l.length) → st.length ≤ done.length →
    Ev pr (.loop (lq pr 45 0) (at_ [(4, .vec 0 l.length 1 0 l.length), (5, .vec 1 (st.length + junk.length) 1 0 st.length), (13, lines l), (14, i64 l.length), (15, i64 i)] [.vec true 1 (ints out), .vec true 1 (ints (st.reverse ++ junk))] 0))
      (endsOut l (endsGo rest i out st junk))
  | [], done, i, out, st, junk, h, hi, ho, hs, hd => by
    have hll : (l.length : Int) = done.length := by simp [h]
    let t0 : Tp pr := .b (show (decide (i < (↑l.length : Int))) = false by (simp; omega))
    exact .tp [t0] (by kernel_rfl)
  | x :: rest, done, i, out, st, junk, h, hi, ho, hs, hd => by
    have hll : (l.length : Int) = done.length + 1 + rest.length := by simp [h]; omega
    have hg : lkp (l.map Line.ce) i = some x.ce := by subst hi; subst h; simp
    have hdl : (done ++ [x]).length = done.length + 1 := by simp
    by_cases h2 : x.kind = 2
    · have ih := endsL_ev l hl rest (done ++ [x]) (i + 1) out (i :: st) junk.tail (by simp [h]) (by simp [hi]) ho (List.forall_mem_cons.2 ⟨by omega, hs⟩) (by simp; omega)
      cases junk with
      | nil => 
        let t0 : Tp pr := .b (show (decide (i < (↑l.length : Int))) = true by (simp; omega))
        let t1 : Tp pr := .g .row (show (lkp (List.map Line.ce l) i) = some (x.ce) from hg)
        let t2 : Tp pr := .b (show (decide (x.kind = (2 : Int))) = true by (simp; omega))
        let t4 : Tp pr := .m (show (decide ((ints (st.reverse ++ [])).length = st.length + (0 : Nat) ∧ (0 : Nat) + st.length ≤ st.length + (0 : Nat) ∧ st.length + (1 : Nat) ≤ (4294967296 : Nat))) = true by (simp; omega))
        let t5 : Tp pr := .b (show (decide (st.length + (1 : Nat) ≤ st.length + (0 : Nat))) = false by simp)
        let t7 : Tp pr := .n .crows (show ((List.take st.length (ints (st.reverse ++ []))).append (List.take (1 : Nat) (List.drop (0 : Nat) [[C.t (T.int IntKind.i64 i)]]))) = ints st.reverse ++ [[C.t (T.int IntKind.i64 i)]] by simp)
        let t8 : Tp pr := .i (wrap_i64 (a := i + (1 : Int)) (by omega) (by omega))
        let t9 : Tp pr := .a (Ev.castq (congrArg (fun x => Q.loop (lq pr (45 : FuncId) (0 : Nat)) (at_ [((4 : Nat), V.vec (0 : Nat) l.length (1 : Nat) (0 : Nat) l.length), ((5 : Nat), V.vec (1 : Nat) ((i :: st).length + [].tail.length) (1 : Nat) (0 : Nat) (i :: st).length), ((13 : Nat), lines l), ((14 : Nat), i64 (↑l.length : Int)), ((15 : Nat), i64 (i + (1 : Int)))] [Ob.vec true (1 : Nat) (ints out), Ob.vec true (1 : Nat) x] (0 : Nat))) (show (ints ((i :: st).reverse ++ [].tail)) = ((ints st.reverse).append [[C.t (T.int IntKind.i64 i)]]) by simp [ints_app, ints_cons, intc])) (ih))
        exact .tpe [t0, t1, t2, .m (rfl : true = true), t4, t5, .c (rfl : (st.length + (1 : Nat)) = _), t7, t8, t9] (endsOut l (endsGo rest (i + (1 : Int)) out (i :: st) [].tail)) (by kernel_rfl) ((congrArg (fun x => x) (show (endsOut l (endsGo rest (i + (1 : Int)) out (i :: st) [].tail)) = (endsOut (done ++ x :: rest) (endsGo rest ((↑done.length : Int) + (1 : Int)) out ((↑done.length : Int) :: st) [])) by simp [*])).trans (show (endsOut (done ++ x :: rest) (endsGo rest ((↑done.length : Int) + (1 : Int)) out ((↑done.length : Int) :: st) [])) = endsOut l (endsGo (x :: rest) i out st []) by simp [endsGo, *]))
      | cons j junk => 
        let t0 : Tp pr := .b (show (decide (i < (↑l.length : Int))) = true by (simp; omega))
        let t1 : Tp pr := .g .row (show (lkp (List.map Line.ce l) i) = some (x.ce) from hg)
        let t2 : Tp pr := .b (show (decide (x.kind = (2 : Int))) = true by (simp; omega))
        let t4 : Tp pr := .m (show (decide ((ints (st.reverse ++ j :: junk)).length = st.length + (j :: junk).length ∧ (0 : Nat) + st.length ≤ st.length + (j :: junk).length ∧ st.length + (1 : Nat) ≤ (4294967296 : Nat))) = true by (simp; omega))
        let t5 : Tp pr := .b (show (decide (st.length + (1 : Nat) ≤ st.length + (j :: junk).length)) = true by simp)
        let t7 : Tp pr := .n .crows (show (((List.take st.length (ints (st.reverse ++ j :: junk))).append (List.take (1 : Nat) (List.drop (0 : Nat) [[C.t (T.int IntKind.i64 i)]]))).append (List.drop (st.length + (1 : Nat)) (ints (st.reverse ++ j :: junk)))) = ints st.reverse ++ [C.t (T.int IntKind.i64 i)] :: ints junk by simp)
        let t8 : Tp pr := .i (wrap_i64 (a := i + (1 : Int)) (by omega) (by omega))
        let t9 : Tp pr := .a (Ev.castq ((congrArg (fun x => Q.loop (lq pr (45 : FuncId) (0 : Nat)) (at_ [((4 : Nat), V.vec (0 : Nat) l.length (1 : Nat) (0 : Nat) l.length), ((5 : Nat), V.vec (1 : Nat) x (1 : Nat) (0 : Nat) (i :: st).length), ((13 : Nat), lines l), ((14 : Nat), i64 (↑l.length : Int)), ((15 : Nat), i64 (i + (1 : Int)))] [Ob.vec true (1 : Nat) (ints out), Ob.vec true (1 : Nat) (ints ((i :: st).reverse ++ (j :: junk).tail))] (0 : Nat))) (show ((i :: st).length + (j :: junk).tail.length) = (st.length + (j :: junk).length) by (simp; omega))).trans (congrArg (fun x => Q.loop (lq pr (45 : FuncId) (0 : Nat)) (at_ [((4 : Nat), V.vec (0 : Nat) l.length (1 : Nat) (0 : Nat) l.length), ((5 : Nat), V.vec (1 : Nat) (st.length + (j :: junk).length) (1 : Nat) (0 : Nat) (i :: st).length), ((13 : Nat), lines l), ((14 : Nat), i64 (↑l.length : Int)), ((15 : Nat), i64 (i + (1 : Int)))] [Ob.vec true (1 : Nat) (ints out), Ob.vec true (1 : Nat) x] (0 : Nat))) (show (ints ((i :: st).reverse ++ (j :: junk).tail)) = ((ints st.reverse).append ([C.t (T.int IntKind.i64 i)] :: ints junk)) by simp [ints_app, ints_cons, intc]))) (ih))
        exact .tpe [t0, t1, t2, .m (rfl : true = true), t4, t5, .c (rfl : (st.length + (1 : Nat)) = _), t7, t8, t9] (endsOut l (endsGo rest (i + (1 : Int)) out (i :: st) (j :: junk).tail)) (by kernel_rfl) ((congrArg (fun x => x) (show (endsOut l (endsGo rest (i + (1 : Int)) out (i :: st) (j :: junk).tail)) = (endsOut (done ++ x :: rest) (endsGo rest ((↑done.length : Int) + (1 : Int)) out ((↑done.length : Int) :: st) junk)) by simp [*])).trans (show (endsOut (done ++ x :: rest) (endsGo rest ((↑done.length : Int) + (1 : Int)) out ((↑done.length : Int) :: st) junk)) = endsOut l (endsGo (x :: rest) i out st (j :: junk)) by simp [endsGo, *]))
    · by_cases h3 : x.kind = 3
      · cases st with
        | nil => (
          let t0 : Tp pr := .b (show (decide (i < (↑l.length : Int))) = true by (simp; omega))
          let t1 : Tp pr := .g .row (show (lkp (List.map Line.ce l) i) = some (x.ce) from hg)
          let t2 : Tp pr := .b (show (decide (x.kind = (2 : Int))) = false by (simp; omega))
          let t3 : Tp pr := .b (show (decide (x.kind = (3 : Int))) = true by (simp; omega))
          let t4 : Tp pr := .i (rfl : ((0 : Int) : Int) = (0 : Int))
          let t5 : Tp pr := .i (rfl : ((-1 : Int) : Int) = (-1 : Int))
          exact .tpe [t0, t1, t2, t3, t4, t5, .b (rfl : true = true)] (Out.ret (at_ [((2 : Nat), V.t T.nils), ((3 : Nat), V.t (T.bool false))] [] (0 : Nat))) (by kernel_rfl) ((rfl).trans (show (Out.ret (at_ [((2 : Nat), V.t T.nils), ((3 : Nat), V.t (T.bool false))] [] (0 : Nat))) = endsOut l (endsGo (x :: rest) i out [] junk) by simp [endsGo, endsOut, *])))
        | cons j st' =>
          have hj := hs j (by simp)
          have ih := endsL_ev l hl rest (done ++ [x]) (i + 1) ((out.set i.toNat j).set j.toNat i) st' (j :: junk) (by simp [h]) (by simp [hi]) (by simp [ho]) (by intro k hk; exact hs k (by simp [hk])) (by simp at hd ⊢; omega)
          have g1 := ints_get (l := out) (k := i.toNat) (by omega)
          have g2 := ints_get (l := out.set i.toNat j) (k := j.toNat) (by simp; omega)
          let t0 : Tp pr := .b (show (decide (i < (↑l.length : Int))) = true by (simp; omega))
          let t1 : Tp pr := .g .row (show (lkp (List.map Line.ce l) i) = some (x.ce) from hg)
          let t2 : Tp pr := .b (show (decide (x.kind = (2 : Int))) = false by (simp; omega))
          let t3 : Tp pr := .b (show (decide (x.kind = (3 : Int))) = true by (simp; omega))
          let t4 : Tp pr := .i (show ((↑(j :: st').length : Int) : Int) = (↑st'.length : Int) + (1 : Int) by simp)
          let t5 : Tp pr := .i (wrap_i64 (a := (↑st'.length : Int) + (1 : Int) - (1 : Int)) (by omega) (by (simp at *; omega)))
          let t6 : Tp pr := .b (show (decide ((↑st'.length : Int) + (1 : Int) - (1 : Int) < (0 : Int))) = false by simp)
          let t12 : Tp pr := .m (show (decide ((0 : Int) ≤ (↑st'.length : Int) + (1 : Int) - (1 : Int) ∧ ((↑st'.length : Int) + (1 : Int) - (1 : Int)).toNat < (j :: st').length)) = true by simp)
          let t13 : Tp pr := .c (show ((0 : Nat) + ((↑st'.length : Int) + (1 : Int) - (1 : Int)).toNat : Nat) = st'.length by omega)
          let t15 : Tp pr := .m (show (decide ((ints ((j :: st').reverse ++ junk)).length = (j :: st').length + junk.length)) = true by (simp; omega))
          let t16 : Tp pr := .g .crow (show ((ints ((j :: st').reverse ++ junk))[st'.length]?) = some (intc j) by simp)
          let t20 : Tp pr := .m (show (decide ((0 : Int) ≤ (↑st'.length : Int) + (1 : Int) - (1 : Int) ∧ ((↑st'.length : Int) + (1 : Int) - (1 : Int)).toNat < (j :: st').length)) = true by simp)
          let t21 : Tp pr := .c (show ((0 : Nat) + ((↑st'.length : Int) + (1 : Int) - (1 : Int)).toNat : Nat) = st'.length by omega)
          let t23 : Tp pr := .m (show (decide ((ints ((j :: st').reverse ++ junk)).length = (j :: st').length + junk.length)) = true by (simp; omega))
          let t24 : Tp pr := .g .crow (show ((ints ((j :: st').reverse ++ junk))[st'.length]?) = some (intc j) by simp)
          let t27 : Tp pr := .m (show (decide ((0 : Int) ≤ i ∧ i.toNat < l.length)) = true by simp [*])
          let t28 : Tp pr := .c (show ((0 : Nat) + i.toNat : Nat) = i.toNat by omega)
          let t30 : Tp pr := .m (show (decide ((ints out).length = l.length)) = true by simp [*])
          let t31 : Tp pr := .g .crow (show ((ints out)[i.toNat]?) = some (intc (out.getD i.toNat (0 : Int))) from g1)
          let t32 : Tp pr := .n .crows (show ((ints out).set i.toNat [C.t (T.int IntKind.i64 j)]) = ints (out.set i.toNat j) by simp)
          let t34 : Tp pr := .m (show (decide ((0 : Int) ≤ j ∧ j.toNat < l.length)) = true by (simp; omega))
          let t35 : Tp pr := .c (show ((0 : Nat) + j.toNat : Nat) = j.toNat by omega)
          let t37 : Tp pr := .m (show (decide ((ints (out.set i.toNat j)).length = l.length)) = true by simp [*])
          let t38 : Tp pr := .g .crow (show ((ints (out.set i.toNat j))[j.toNat]?) = some (intc ((out.set i.toNat j).getD j.toNat (0 : Int))) from g2)
          let t39 : Tp pr := .n .crows (show ((ints (out.set i.toNat j)).set j.toNat [C.t (T.int IntKind.i64 i)]) = ints ((out.set i.toNat j).set j.toNat i) by simp)
          let t41 : Tp pr := .m (show (decide ((0 : Int) ≤ (0 : Int) ∧ (0 : Int) ≤ (↑st'.length : Int) + (1 : Int) - (1 : Int) ∧ (0 : Nat) + ((↑st'.length : Int) + (1 : Int) - (1 : Int)).toNat ≤ (j :: st').length + junk.length)) = true by (simp; omega))
          let t43 : Tp pr := .c (show (((↑st'.length : Int) + (1 : Int) - (1 : Int)).toNat - (0 : Nat) : Nat) = st'.length by omega)
          let t44 : Tp pr := .i (wrap_i64 (a := i + (1 : Int)) (by omega) (by omega))
          let t45 : Tp pr := .a (Ev.castq ((congrArg (fun x => Q.loop (lq pr (45 : FuncId) (0 : Nat)) (at_ [((4 : Nat), V.vec (0 : Nat) l.length (1 : Nat) (0 : Nat) l.length), ((5 : Nat), V.vec (1 : Nat) x (1 : Nat) (0 : Nat) st'.length), ((13 : Nat), lines l), ((14 : Nat), i64 (↑l.length : Int)), ((15 : Nat), i64 (i + (1 : Int)))] [Ob.vec true (1 : Nat) (ints ((out.set i.toNat j).set j.toNat i)), Ob.vec true (1 : Nat) (ints (st'.reverse ++ j :: junk))] (0 : Nat))) (show (st'.length + (j :: junk).length) = ((j :: st').length + junk.length) by (simp; omega))).trans (congrArg (fun x => Q.loop (lq pr (45 : FuncId) (0 : Nat)) (at_ [((4 : Nat), V.vec (0 : Nat) l.length (1 : Nat) (0 : Nat) l.length), ((5 : Nat), V.vec (1 : Nat) ((j :: st').length + junk.length) (1 : Nat) (0 : Nat) st'.length), ((13 : Nat), lines l), ((14 : Nat), i64 (↑l.length : Int)), ((15 : Nat), i64 (i + (1 : Int)))] [Ob.vec true (1 : Nat) (ints ((out.set i.toNat j).set j.toNat i)), Ob.vec true (1 : Nat) x] (0 : Nat))) (show (ints (st'.reverse ++ j :: junk)) = (ints ((j :: st').reverse ++ junk)) by simp [ints_app, ints_cons, intc]))) (ih))
          exact .tpe [t0, t1, t2, t3, t4, t5, t6, .m (rfl : true = true), .m (rfl : true = true), .m (rfl : true = true), .m (rfl : true = true), .m (rfl : true = true), t12, t13, .m (rfl : true = true), t15, t16, .m (rfl : true = true), .m (rfl : true = true), .m (rfl : true = true), t20, t21, .m (rfl : true = true), t23, t24, .m (rfl : true = true), .m (rfl : true = true), t27, t28, .m (rfl : true = true), t30, t31, t32, .m (rfl : true = true), t34, t35, .m (rfl : true = true), t37, t38, t39, .m (rfl : true = true), t41, .c (rfl : ((0 : Nat)) = _), t43, t44, t45] (endsOut l (endsGo rest (i + (1 : Int)) ((out.set i.toNat j).set j.toNat i) st' (j :: junk))) (by kernel_rfl) ((congrArg (fun x => x) (show (endsOut l (endsGo rest (i + (1 : Int)) ((out.set i.toNat j).set j.toNat i) st' (j :: junk))) = (endsOut (done ++ x :: rest) (endsGo rest ((↑done.length : Int) + (1 : Int)) ((out.set done.length j).set j.toNat (↑done.length : Int)) st' (j :: junk))) by simp [*])).trans (show (endsOut (done ++ x :: rest) (endsGo rest ((↑done.length : Int) + (1 : Int)) ((out.set done.length j).set j.toNat (↑done.length : Int)) st' (j :: junk))) = endsOut l (endsGo (x :: rest) i out (j :: st') junk) by simp [endsGo, *]))
      · have ih := endsL_ev l hl rest (done ++ [x]) (i + 1) out st junk (by simp [h]) (by simp [hi]) ho hs (by simp; omega)
        let t0 : Tp pr := .b (show (decide (i < (↑l.length : Int))) = true by (simp; omega))
        let t1 : Tp pr := .g .row (show (lkp (List.map Line.ce l) i) = some (x.ce) from hg)
        let t2 : Tp pr := .b (show (decide (x.kind = (2 : Int))) = false by (simp; omega))
        let t3 : Tp pr := .b (show (decide (x.kind = (3 : Int))) = false by (simp; omega))
        let t4 : Tp pr := .i (wrap_i64 (a := i + (1 : Int)) (by omega) (by omega))
        exact .tpe [t0, t1, t2, t3, t4, .a (ih)] (endsOut l (endsGo rest (i + (1 : Int)) out st junk)) (by kernel_rfl) ((congrArg (fun x => x) (show (endsOut l (endsGo rest (i + (1 : Int)) out st junk)) = (endsOut (done ++ x :: rest) (endsGo rest ((↑done.length : Int) + (1 : Int)) out st junk)) by simp [*])).trans (show (endsOut (done ++ x :: rest) (endsGo rest ((↑done.length : Int) + (1 : Int)) out st junk)) = endsOut l (endsGo (x :: rest) i out st junk) by simp [endsGo, *]))
theorem ends_ev (l : List Line) (hl : l.length ≤ 1048576) : Ev pr (.call 45 [lines l] []) (.val (match endsGo l 0 (List.replicate l.length 0) [] [] with
    | some (out, st, junk) => .tup [.t (.seq 1 (out.map intt)), bl (decide (st.length = 0))]
    | none => .tup [.t (.seq 1 []), bl false]) []) := by
  have h := endsL_ev l hl l [] 0 (List.replicate l.length 0) [] [] rfl rfl (by simp) (by simp) (by simp)
  cases hr : endsGo l 0 (List.replicate l.length 0) [] [] with
  | none => rw [hr] at h; unfold endsOut at h; (
    let t0 : Tp pr := .i (show ((↑(List.map Line.ce l).length : Int) : Int) = (↑l.length : Int) by simp)
    let t1 : Tp pr := .m (show (decide ((0 : Int) ≤ (↑l.length : Int) ∧ (↑l.length : Int) ≤ (↑l.length : Int) ∧ (↑l.length : Int) ≤ (4294967296 : Int))) = true by (simp; omega))
    let t2 : Tp pr := .c (show ((↑l.length : Int).toNat : Nat) = l.length by omega)
    let t3 : Tp pr := .n .crows (rfl : (List.replicate l.length [C.t (T.int IntKind.i64 (0 : Int))]) = _)
    let t4 : Tp pr := .i (show ((↑(List.map Line.ce l).length : Int) : Int) = (↑l.length : Int) by simp)
    let t5 : Tp pr := .a (Ev.castq (congrArg (fun x => Q.loop (lq pr (45 : FuncId) (0 : Nat)) (at_ [((4 : Nat), V.vec (0 : Nat) l.length (1 : Nat) (0 : Nat) l.length), ((5 : Nat), V.vec (1 : Nat) ((0 : Nat) + (0 : Nat)) (1 : Nat) (0 : Nat) (0 : Nat)), ((13 : Nat), lines l), ((14 : Nat), i64 (↑l.length : Int)), ((15 : Nat), i64 (0 : Int))] [Ob.vec true (1 : Nat) x, Ob.vec true (1 : Nat) (ints ([].reverse ++ []))] (0 : Nat))) (show (ints (List.replicate l.length (0 : Int))) = (List.replicate l.length [C.t (T.int IntKind.i64 (0 : Int))]) by simp [ints, intc])) (h))
    exact .tp [t0, t1, t2, t3, t4, t5] (by kernel_rfl))
  | some p =>
    obtain ⟨out, st, junk⟩ := p
    have hol := endsGo_len _ _ _ _ _ _ _ _ hr
    simp at hol
    rw [hr] at h; unfold endsOut at h; (
      let t0 : Tp pr := .i (show ((↑(List.map Line.ce l).length : Int) : Int) = (↑l.length : Int) by simp)
      let t1 : Tp pr := .m (show (decide ((0 : Int) ≤ (↑l.length : Int) ∧ (↑l.length : Int) ≤ (↑l.length : Int) ∧ (↑l.length : Int) ≤ (4294967296 : Int))) = true by (simp; omega))
      let t2 : Tp pr := .c (show ((↑l.length : Int).toNat : Nat) = l.length by omega)
      let t3 : Tp pr := .n .crows (rfl : (List.replicate l.length [C.t (T.int IntKind.i64 (0 : Int))]) = _)
      let t4 : Tp pr := .i (show ((↑(List.map Line.ce l).length : Int) : Int) = (↑l.length : Int) by simp)
      let t5 : Tp pr := .a (Ev.castq (congrArg (fun x => Q.loop (lq pr (45 : FuncId) (0 : Nat)) (at_ [((4 : Nat), V.vec (0 : Nat) l.length (1 : Nat) (0 : Nat) l.length), ((5 : Nat), V.vec (1 : Nat) ((0 : Nat) + (0 : Nat)) (1 : Nat) (0 : Nat) (0 : Nat)), ((13 : Nat), lines l), ((14 : Nat), i64 (↑l.length : Int)), ((15 : Nat), i64 (0 : Int))] [Ob.vec true (1 : Nat) x, Ob.vec true (1 : Nat) (ints ([].reverse ++ []))] (0 : Nat))) (show (ints (List.replicate l.length (0 : Int))) = (List.replicate l.length [C.t (T.int IntKind.i64 (0 : Int))]) by simp [intt, ← hol])) (h))
      let t7 : Tp pr := .m (show (decide ((ints out).length = l.length ∧ (0 : Nat) + l.length ≤ l.length)) = true by simp [*])
      let t8 : Tp pr := .n .rows (show (List.map (fun x => List.map C.fz x) (List.take l.length (List.drop (0 : Nat) (ints out)))) = List.take l.length (List.map intt out) by simp)
      exact .tpe [t0, t1, t2, t3, t4, t5, .i (rfl : ((↑st.length : Int)) = _), t7, t8] (Out.val (V.tup [V.t (T.seq (1 : Nat) (List.take l.length (List.map intt out))), V.t (T.bool (decide ((↑st.length : Int) = (0 : Int))))]) []) (by kernel_rfl) ((congrArg (fun x => Out.val (V.tup [V.t (T.seq (1 : Nat) x), V.t (T.bool (decide ((↑st.length : Int) = (0 : Int))))]) []) (show (List.take l.length (List.map intt out)) = (List.map intt out) by simp [intt, ← hol])).trans (congrArg (fun x => Out.val (V.tup [V.t (T.seq (1 : Nat) (List.map intt out)), V.t (T.bool x)]) []) (show (decide ((↑st.length : Int) = (0 : Int))) = (decide (st.length = (0 : Nat))) by simp [intt, ← hol]))))
theorem notOk_ev (x : Line) (hl : x.expr.length ≤ 1048576) (hs : ∀ y ∈ x.expr, y.text.size ≤ 9223372036854775807) : Ev pr (.call 43 [vs x.ce] []) (.val (bl (!lineOk x)) []) := by
  let t0 : Tp pr := .a (lineOk_ev (x) (by assumption) (by assumption))
  exact .tp [t0] (by kernel_rfl)
theorem idxLine_ev (l : List Line) (hl : l.length ≤ 1048576) (hs : ∀ x ∈ l, x.expr.length ≤ 1048576 ∧ ∀ y ∈ x.expr, y.text.size ≤ 9223372036854775807) : ∀ (rest done : List Line) (i : Int), l = done ++ rest → i = done.length →
    Ev pr (.loop (lq pr 72 0) (at_ [(0, lines l), (1, .t (.clo 43 [])), (7, i64 l.length), (8, i64 i)] [] 0))
      (if 0 ≤ idxFrom (fun x => !lineOk x) i rest then .ret (at_ [(4, i64 (idxFrom (fun x => !lineOk x) i rest))] [] 0) else .exit 0 (at_ [] [] 0))
  | [], done, i, h, hi => by
    have hll : (l.length : Int) = done.length := by simp [h]
    let t0 : Tp pr := .b (show (decide (i < (↑l.length : Int))) = false by (simp; omega))
    exact .tp [t0] (by kernel_rfl)
  | x :: rest, done, i, h, hi => by
    have hll : (l.length : Int) = done.length + 1 + rest.length := by simp [h]; omega
    have hg : lkp (l.map Line.ce) i = some x.ce := by subst hi; subst h; simp
    have ih := idxLine_ev l hl hs rest (done ++ [x]) (i + 1) (by simp [h]) (by simp [hi])
    have hi0 : 0 ≤ i := by omega
    have hx := notOk_ev x (hs x (by simp [h])).1 (hs x (by simp [h])).2
    cases hb : lineOk x with
    | false => rw [hb] at hx; (
      let t0 : Tp pr := .b (show (decide (i < (↑l.length : Int))) = true by (simp; omega))
      let t1 : Tp pr := .g .row (show (lkp (List.map Line.ce l) i) = some (x.ce) from hg)
      exact .tpe [t0, t1, .a (hx), .b (rfl : true = true)] (Out.ret (at_ [((4 : Nat), V.t (T.int IntKind.i64 i))] [] (0 : Nat))) (by kernel_rfl) ((rfl).trans (show (Out.ret (at_ [((4 : Nat), V.t (T.int IntKind.i64 i))] [] (0 : Nat))) = if (0 : Int) ≤ idxFrom (fun x => !lineOk x) i (x :: rest) then Out.ret (at_ [((4 : Nat), i64 (idxFrom (fun x => !lineOk x) i (x :: rest)))] [] (0 : Nat)) else Out.exit (0 : Nat) (at_ [] [] (0 : Nat)) by simp [idxFrom, hb, hi0])))
    | true =>
      rw [hb] at hx
      have hI : idxFrom (fun x => !lineOk x) i (x :: rest) = idxFrom (fun x => !lineOk x) (i + 1) rest := by simp [idxFrom, hb]
      rw [hI]
      by_cases h0 : 0 ≤ idxFrom (fun x => !lineOk x) (i + 1) rest
      · rw [if_pos h0] at ih ⊢; (
        let t0 : Tp pr := .b (show (decide (i < (↑l.length : Int))) = true by (simp; omega))
        let t1 : Tp pr := .g .row (show (lkp (List.map Line.ce l) i) = some (x.ce) from hg)
        let t4 : Tp pr := .i (wrap_i64 (a := i + (1 : Int)) (by omega) (by omega))
        exact .tp [t0, t1, .a (hx), .b (rfl : false = false), t4, .a (ih)] (by kernel_rfl))
      · rw [if_neg h0] at ih ⊢; (
        let t0 : Tp pr := .b (show (decide (i < (↑l.length : Int))) = true by (simp; omega))
        let t1 : Tp pr := .g .row (show (lkp (List.map Line.ce l) i) = some (x.ce) from hg)
        let t4 : Tp pr := .i (wrap_i64 (a := i + (1 : Int)) (by omega) (by omega))
        exact .tp [t0, t1, .a (hx), .b (rfl : false = false), t4, .a (ih)] (by kernel_rfl))
theorem idxLines_ev (l : List Line) (hl : l.length ≤ 1048576) (hs : ∀ x ∈ l, x.expr.length ≤ 1048576 ∧ ∀ y ∈ x.expr, y.text.size ≤ 9223372036854775807) : Ev pr (.call 72 [lines l, .t (.clo 43 [])] []) (.val (i64 (idxFrom (fun x => !lineOk x) 0 l)) []) := by
  have h := idxLine_ev l hl hs l [] 0 rfl rfl
  have h2 := idxFrom_neg (fun x => !lineOk x) l 0 (Int.le_refl _)
  by_cases h0 : 0 ≤ idxFrom (fun x => !lineOk x) 0 l
  · rw [if_pos h0] at h; (
    let t0 : Tp pr := .i (show ((↑(List.map Line.ce l).length : Int) : Int) = (↑l.length : Int) by simp)
    exact .tp [t0, .a (h)] (by kernel_rfl))
  · rw [if_neg h0] at h; rw [h2 h0]; (
    let t0 : Tp pr := .i (show ((↑(List.map Line.ce l).length : Int) : Int) = (↑l.length : Int) by simp)
    exact .tp [t0, .a (h)] (by kernel_rfl))
theorem anyLine_ev (l : List Line) (hl : l.length ≤ 1048576) (hs : ∀ x ∈ l, x.expr.length ≤ 1048576 ∧ ∀ y ∈ x.expr, y.text.size ≤ 9223372036854775807) : Ev pr (.call 42 [lines l, .t (.clo 43 [])] []) (.val (bl (l.any fun x => !lineOk x)) []) := by
  rw [← idxFrom_any (fun x => !lineOk x) l 0 (by omega)]
  let t0 : Tp pr := .a (idxLines_ev (l) (by assumption) (by assumption))
  exact .tp [t0] (by kernel_rfl)
theorem GoodProgramI_ev (l : List Line) (hl : l.length ≤ 1048576) (hs : ∀ x ∈ l, x.expr.length ≤ 1048576 ∧ ∀ y ∈ x.expr, y.text.size ≤ 9223372036854775807) : Ev pr (.call 12 [lines l] []) (.val (bl (goodProgram l)) []) := by
  have h := ends_ev l hl
  have h2 := anyLine_ev l hl hs
  unfold goodProgram endsOk
  cases ha : l.any fun x => !lineOk x with
  | true => rw [ha] at h2; (
    let t0 : Tp pr := .i (show ((↑(List.map Line.ce l).length : Int) : Int) = (↑l.length : Int) by simp)
    let t1 : Tp pr := .a (within_ev ((↑l.length : Int)) ((1 : Int)) ((12 : Int)))
    by_cases hc2 : (↑l.length : Int) < (1 : Int) ∨ (12 : Int) < (↑l.length : Int)
    · let t2 : Tp pr := .b (show (!(decide ((↑l.length : Int) ≥ (1 : Int)) && decide ((↑l.length : Int) ≤ (12 : Int)))) = true by simpa using hc2)
      exact .tpe [t0, t1, t2, .b (rfl : true = true)] (Out.val (V.t (T.bool false)) []) (by kernel_rfl) (congrArg (fun x => Out.val (V.t (T.bool x)) []) (show (false) = (decide ((↑l.length : Int) ≥ (1 : Int)) && decide ((↑l.length : Int) ≤ (12 : Int)) && false &&
        match endsGo l (0 : Int) (List.replicate l.length (0 : Int)) [] [] with
        | some (fst, st, snd) => decide (st.length = (0 : Nat))
        | none => false) by simp))
    · let t2 : Tp pr := .b (show (!(decide ((↑l.length : Int) ≥ (1 : Int)) && decide ((↑l.length : Int) ≤ (12 : Int)))) = false by simpa using hc2)
      exact .tpe [t0, t1, t2, .a (h2), .b (rfl : true = true)] (Out.val (V.t (T.bool false)) []) (by kernel_rfl) (congrArg (fun x => Out.val (V.t (T.bool x)) []) (show (false) = (decide ((↑l.length : Int) ≥ (1 : Int)) && decide ((↑l.length : Int) ≤ (12 : Int)) && false &&
        match endsGo l (0 : Int) (List.replicate l.length (0 : Int)) [] [] with
        | some (fst, st, snd) => decide (st.length = (0 : Nat))
        | none => false) by simp)))
  | false =>
    rw [ha] at h2
    cases hr : endsGo l 0 (List.replicate l.length 0) [] [] with
    | none => rw [hr] at h; (
      let t0 : Tp pr := .i (show ((↑(List.map Line.ce l).length : Int) : Int) = (↑l.length : Int) by simp)
      let t1 : Tp pr := .a (within_ev ((↑l.length : Int)) ((1 : Int)) ((12 : Int)))
      by_cases hc2 : (↑l.length : Int) < (1 : Int) ∨ (12 : Int) < (↑l.length : Int)
      · let t2 : Tp pr := .b (show (!(decide ((↑l.length : Int) ≥ (1 : Int)) && decide ((↑l.length : Int) ≤ (12 : Int)))) = true by simpa using hc2)
        exact .tpe [t0, t1, t2, .b (rfl : true = true)] (Out.val (V.t (T.bool false)) []) (by kernel_rfl) (congrArg (fun x => Out.val (V.t (T.bool x)) []) (show (false) = (decide ((↑l.length : Int) ≥ (1 : Int)) && decide ((↑l.length : Int) ≤ (12 : Int)) && true && false) by simp))
      · let t2 : Tp pr := .b (show (!(decide ((↑l.length : Int) ≥ (1 : Int)) && decide ((↑l.length : Int) ≤ (12 : Int)))) = false by simpa using hc2)
        exact .tpe [t0, t1, t2, .a (h2), .b (rfl : false = false), .a (h)] (Out.val (V.t (T.bool false)) []) (by kernel_rfl) (congrArg (fun x => Out.val (V.t (T.bool x)) []) (show (false) = (decide ((↑l.length : Int) ≥ (1 : Int)) && decide ((↑l.length : Int) ≤ (12 : Int)) && true && false) by simp)))
    | some p =>
      obtain ⟨out, st, junk⟩ := p
      rw [hr] at h; (
        let t0 : Tp pr := .i (show ((↑(List.map Line.ce l).length : Int) : Int) = (↑l.length : Int) by simp)
        let t1 : Tp pr := .a (within_ev ((↑l.length : Int)) ((1 : Int)) ((12 : Int)))
        by_cases hc2 : (↑l.length : Int) < (1 : Int) ∨ (12 : Int) < (↑l.length : Int)
        · let t2 : Tp pr := .b (show (!(decide ((↑l.length : Int) ≥ (1 : Int)) && decide ((↑l.length : Int) ≤ (12 : Int)))) = true by simpa using hc2)
          exact .tpe [t0, t1, t2, .b (rfl : true = true)] (Out.val (V.t (T.bool false)) []) (by kernel_rfl) (congrArg (fun x => Out.val (V.t (T.bool x)) []) (show (false) = (decide ((↑l.length : Int) ≥ (1 : Int)) && decide ((↑l.length : Int) ≤ (12 : Int)) && true && decide (st.length = (0 : Nat))) by (simp [*] <;> omega)))
        · let t2 : Tp pr := .b (show (!(decide ((↑l.length : Int) ≥ (1 : Int)) && decide ((↑l.length : Int) ≤ (12 : Int)))) = false by simpa using hc2)
          exact .tpe [t0, t1, t2, .a (h2), .b (rfl : false = false), .a (h)] (Out.val (V.t (T.bool (decide (st.length = (0 : Nat))))) []) (by kernel_rfl) (congrArg (fun x => Out.val (V.t (T.bool x)) []) (show (decide (st.length = (0 : Nat))) = (decide ((↑l.length : Int) ≥ (1 : Int)) && decide ((↑l.length : Int) ≤ (12 : Int)) && true && decide (st.length = (0 : Nat))) by (simp [*] <;> omega))))
end Go.Ev

/- Programs: which are good, by the reference; the law. -/
namespace Go.Ev
set_option linter.unusedVariables false
set_option linter.unusedSimpArgs false
open Go.Proofs
set_option maxRecDepth 100000
set_option linter.unusedVariables false
set_option maxHeartbeats 1000000
def specOut (l : List Line) : Option Int → Out
  | some o => .exit 0 (at_ [(0, lines l), (3, i64 o)] [] 0)
  | none => .ret (at_ [(2, bl false)] [] 0)
theorem GoodProgL_ev (l : List Line) (hl : l.length ≤ 1048576) (hs : ∀ x ∈ l, x.expr.length ≤ 1048576 ∧ ∀ y ∈ x.expr, y.text.size ≤ 9223372036854775807) : ∀ (rest done : List Line) (i o : Int), l = done ++ rest → i = done.length → 0 ≤ o → o ≤ i →
    Ev pr (.loop (lq pr 10 0) (at_ [(0, lines l), (3, i64 o), (8, lines l), (9, i64 l.length), (10, i64 i)] [] 0)) (specOut l (specGo rest o))
  | [], done, i, o, h, hi, ho, hoi => by
    have hll : (l.length : Int) = done.length := by simp [h]
    let t0 : Tp pr := .b (show (decide (i < (↑l.length : Int))) = false by (simp; omega))
    exact .tp [t0] (by kernel_rfl)
  | x :: rest, done, i, o, h, hi, ho, hoi => by
    have hll : (l.length : Int) = done.length + 1 + rest.length := by simp [h]; omega
    have hg : lkp (l.map Line.ce) i = some x.ce := by subst hi; subst h; simp
    have hx := l17Expr_ev x.expr (hs x (by simp [h])).1 (hs x (by simp [h])).2
    have ih0 := GoodProgL_ev l hl hs rest (done ++ [x]) (i + 1) o (by simp [h]) (by simp [hi]) ho (by omega)
    have ih1 := GoodProgL_ev l hl hs rest (done ++ [x]) (i + 1) (o + 1) (by simp [h]) (by simp [hi]) (by omega) (by omega)
    have ih2 : 0 < o → _ := fun h0 => GoodProgL_ev l hl hs rest (done ++ [x]) (i + 1) (o - 1) (by simp [h]) (by simp [hi]) (by omega) (by omega)
    cases hp : (parseL x.expr).isSome with
    | true =>
      rw [hp] at hx
      let t0 : Tp pr := .b (show (decide (i < (↑l.length : Int))) = true by (simp; omega))
      let t1 : Tp pr := .g .row (show (lkp (List.map Line.ce l) i) = some (x.ce) from hg)
      by_cases hc3 : x.kind = (1 : Int)
      · let t3 : Tp pr := .b (show (decide (x.kind = (1 : Int))) = true by simpa using hc3)
        let t5 : Tp pr := .a (l1In_ev (x.name) ((0 : Int)) ((9 : Int)))
        by_cases hc6 : x.name < (0 : Int) ∨ (9 : Int) < x.name
        · let t6 : Tp pr := .b (show (!(decide (x.name ≥ (0 : Int)) && decide (x.name ≤ (9 : Int)))) = true by simpa using hc6)
          exact .tpe [t0, t1, .a (hx), t3, .b (rfl : false = false), t5, t6] (Out.ret (at_ [((2 : Nat), V.t (T.bool false))] [] (0 : Nat))) (by kernel_rfl) (congrArg (fun x => x) (show (Out.ret (at_ [((2 : Nat), V.t (T.bool false))] [] (0 : Nat))) = (specOut l (specGo (x :: rest) o)) by grind [specGo, specOut, bl, i64, sl]))
        · let t6 : Tp pr := .b (show (!(decide (x.name ≥ (0 : Int)) && decide (x.name ≤ (9 : Int)))) = false by simpa using hc6)
          let t7 : Tp pr := .i (wrap_i64 (a := i + (1 : Int)) (by omega) (by omega))
          exact .tpe [t0, t1, .a (hx), t3, .b (rfl : false = false), t5, t6, t7, .a (ih0)] (specOut l (specGo rest o)) (by kernel_rfl) (congrArg (fun x => x) (show (specOut l (specGo rest o)) = (specOut l (specGo (x :: rest) o)) by grind [specGo, specOut, bl, i64, sl]))
      · let t3 : Tp pr := .b (show (decide (x.kind = (1 : Int))) = false by simpa using hc3)
        by_cases hc4 : x.kind = (2 : Int)
        · let t4 : Tp pr := .b (show (decide (x.kind = (2 : Int))) = true by simpa using hc4)
          by_cases hc6 : x.name = (0 : Int)
          · let t6 : Tp pr := .b (show (x.name != (0 : Int)) = false by simpa using hc6)
            let t7 : Tp pr := .i (wrap_i64 (a := o + (1 : Int)) (by omega) (by omega))
            let t8 : Tp pr := .i (wrap_i64 (a := i + (1 : Int)) (by omega) (by omega))
            exact .tpe [t0, t1, .a (hx), t3, t4, .b (rfl : false = false), t6, t7, t8, .a (ih1)] (specOut l (specGo rest (o + (1 : Int)))) (by kernel_rfl) (congrArg (fun x => x) (show (specOut l (specGo rest (o + (1 : Int)))) = (specOut l (specGo (x :: rest) o)) by grind [specGo, specOut, bl, i64, sl]))
          · let t6 : Tp pr := .b (show (x.name != (0 : Int)) = true by simpa using hc6)
            exact .tpe [t0, t1, .a (hx), t3, t4, .b (rfl : false = false), t6] (Out.ret (at_ [((2 : Nat), V.t (T.bool false))] [] (0 : Nat))) (by kernel_rfl) (congrArg (fun x => x) (show (Out.ret (at_ [((2 : Nat), V.t (T.bool false))] [] (0 : Nat))) = (specOut l (specGo (x :: rest) o)) by grind [specGo, specOut, bl, i64, sl]))
        · let t4 : Tp pr := .b (show (decide (x.kind = (2 : Int))) = false by simpa using hc4)
          by_cases hc5 : x.kind = (3 : Int)
          · let t5 : Tp pr := .b (show (decide (x.kind = (3 : Int))) = true by simpa using hc5)
            by_cases hc6 : x.name = (0 : Int)
            · let t6 : Tp pr := .b (show (x.name != (0 : Int)) = false by simpa using hc6)
              let t7 : Tp pr := .i (show ((↑(List.map Ex.ce x.expr).length : Int) : Int) = (↑x.expr.length : Int) by simp)
              by_cases hc8 : (0 : Nat) < x.expr.length
              · let t8 : Tp pr := .b (show (decide ((↑x.expr.length : Int) > (0 : Int))) = true by simpa using hc8)
                exact .tpe [t0, t1, .a (hx), t3, t4, t5, t6, t7, t8, .b (rfl : true = true)] (Out.ret (at_ [((2 : Nat), V.t (T.bool false))] [] (0 : Nat))) (by kernel_rfl) (congrArg (fun x => x) (show (Out.ret (at_ [((2 : Nat), V.t (T.bool false))] [] (0 : Nat))) = (specOut l (specGo (x :: rest) o)) by grind [specGo, specOut, bl, i64, sl]))
              · let t8 : Tp pr := .b (show (decide ((↑x.expr.length : Int) > (0 : Int))) = false by simpa using hc8)
                by_cases hc9 : o = (0 : Int)
                · let t9 : Tp pr := .b (show (decide (o = (0 : Int))) = true by simpa using hc9)
                  exact .tpe [t0, t1, .a (hx), t3, t4, t5, t6, t7, t8, t9] (Out.ret (at_ [((2 : Nat), V.t (T.bool false))] [] (0 : Nat))) (by kernel_rfl) (congrArg (fun x => x) (show (Out.ret (at_ [((2 : Nat), V.t (T.bool false))] [] (0 : Nat))) = (specOut l (specGo (x :: rest) o)) by grind [specGo, specOut, bl, i64, sl]))
                · let t9 : Tp pr := .b (show (decide (o = (0 : Int))) = false by simpa using hc9)
                  let t10 : Tp pr := .i (wrap_i64 (a := o - (1 : Int)) (by omega) (by omega))
                  let t11 : Tp pr := .i (wrap_i64 (a := i + (1 : Int)) (by omega) (by omega))
                  exact .tpe [t0, t1, .a (hx), t3, t4, t5, t6, t7, t8, t9, t10, t11, .a (ih2 (by omega))] (specOut l (specGo rest (o - (1 : Int)))) (by kernel_rfl) (congrArg (fun x => x) (show (specOut l (specGo rest (o - (1 : Int)))) = (specOut l (specGo (x :: rest) o)) by grind [specGo, specOut, bl, i64, sl]))
            · let t6 : Tp pr := .b (show (x.name != (0 : Int)) = true by simpa using hc6)
              exact .tpe [t0, t1, .a (hx), t3, t4, t5, t6, .b (rfl : true = true), .b (rfl : true = true)] (Out.ret (at_ [((2 : Nat), V.t (T.bool false))] [] (0 : Nat))) (by kernel_rfl) (congrArg (fun x => x) (show (Out.ret (at_ [((2 : Nat), V.t (T.bool false))] [] (0 : Nat))) = (specOut l (specGo (x :: rest) o)) by grind [specGo, specOut, bl, i64, sl]))
          · let t5 : Tp pr := .b (show (decide (x.kind = (3 : Int))) = false by simpa using hc5)
            exact .tpe [t0, t1, .a (hx), t3, t4, t5] (Out.ret (at_ [((2 : Nat), V.t (T.bool false))] [] (0 : Nat))) (by kernel_rfl) (congrArg (fun x => x) (show (Out.ret (at_ [((2 : Nat), V.t (T.bool false))] [] (0 : Nat))) = (specOut l (specGo (x :: rest) o)) by grind [specGo, specOut, bl, i64, sl]))
    | false =>
      rw [hp] at hx
      let t0 : Tp pr := .b (show (decide (i < (↑l.length : Int))) = true by (simp; omega))
      let t1 : Tp pr := .g .row (show (lkp (List.map Line.ce l) i) = some (x.ce) from hg)
      by_cases hc3 : x.kind = (1 : Int)
      · let t3 : Tp pr := .b (show (decide (x.kind = (1 : Int))) = true by simpa using hc3)
        exact .tpe [t0, t1, .a (hx), t3, .b (rfl : true = true), .b (rfl : true = true)] (Out.ret (at_ [((2 : Nat), V.t (T.bool false))] [] (0 : Nat))) (by kernel_rfl) (congrArg (fun x => x) (show (Out.ret (at_ [((2 : Nat), V.t (T.bool false))] [] (0 : Nat))) = (specOut l (specGo (x :: rest) o)) by grind [specGo, specOut, bl, i64, sl]))
      · let t3 : Tp pr := .b (show (decide (x.kind = (1 : Int))) = false by simpa using hc3)
        by_cases hc4 : x.kind = (2 : Int)
        · let t4 : Tp pr := .b (show (decide (x.kind = (2 : Int))) = true by simpa using hc4)
          exact .tpe [t0, t1, .a (hx), t3, t4, .b (rfl : true = true), .b (rfl : true = true)] (Out.ret (at_ [((2 : Nat), V.t (T.bool false))] [] (0 : Nat))) (by kernel_rfl) (congrArg (fun x => x) (show (Out.ret (at_ [((2 : Nat), V.t (T.bool false))] [] (0 : Nat))) = (specOut l (specGo (x :: rest) o)) by grind [specGo, specOut, bl, i64, sl]))
        · let t4 : Tp pr := .b (show (decide (x.kind = (2 : Int))) = false by simpa using hc4)
          by_cases hc5 : x.kind = (3 : Int)
          · let t5 : Tp pr := .b (show (decide (x.kind = (3 : Int))) = true by simpa using hc5)
            by_cases hc6 : x.name = (0 : Int)
            · let t6 : Tp pr := .b (show (x.name != (0 : Int)) = false by simpa using hc6)
              let t7 : Tp pr := .i (show ((↑(List.map Ex.ce x.expr).length : Int) : Int) = (↑x.expr.length : Int) by simp)
              by_cases hc8 : (0 : Nat) < x.expr.length
              · let t8 : Tp pr := .b (show (decide ((↑x.expr.length : Int) > (0 : Int))) = true by simpa using hc8)
                exact .tpe [t0, t1, .a (hx), t3, t4, t5, t6, t7, t8, .b (rfl : true = true)] (Out.ret (at_ [((2 : Nat), V.t (T.bool false))] [] (0 : Nat))) (by kernel_rfl) (congrArg (fun x => x) (show (Out.ret (at_ [((2 : Nat), V.t (T.bool false))] [] (0 : Nat))) = (specOut l (specGo (x :: rest) o)) by grind [specGo, specOut, bl, i64, sl]))
              · let t8 : Tp pr := .b (show (decide ((↑x.expr.length : Int) > (0 : Int))) = false by simpa using hc8)
                by_cases hc9 : o = (0 : Int)
                · let t9 : Tp pr := .b (show (decide (o = (0 : Int))) = true by simpa using hc9)
                  exact .tpe [t0, t1, .a (hx), t3, t4, t5, t6, t7, t8, t9] (Out.ret (at_ [((2 : Nat), V.t (T.bool false))] [] (0 : Nat))) (by kernel_rfl) (congrArg (fun x => x) (show (Out.ret (at_ [((2 : Nat), V.t (T.bool false))] [] (0 : Nat))) = (specOut l (specGo (x :: rest) o)) by grind [specGo, specOut, bl, i64, sl]))
                · let t9 : Tp pr := .b (show (decide (o = (0 : Int))) = false by simpa using hc9)
                  let t10 : Tp pr := .i (wrap_i64 (a := o - (1 : Int)) (by omega) (by omega))
                  let t11 : Tp pr := .i (wrap_i64 (a := i + (1 : Int)) (by omega) (by omega))
                  exact .tpe [t0, t1, .a (hx), t3, t4, t5, t6, t7, t8, t9, t10, t11, .a (ih2 (by omega))] (specOut l (specGo rest (o - (1 : Int)))) (by kernel_rfl) (congrArg (fun x => x) (show (specOut l (specGo rest (o - (1 : Int)))) = (specOut l (specGo (x :: rest) o)) by grind [specGo, specOut, bl, i64, sl]))
            · let t6 : Tp pr := .b (show (x.name != (0 : Int)) = true by simpa using hc6)
              exact .tpe [t0, t1, .a (hx), t3, t4, t5, t6, .b (rfl : true = true), .b (rfl : true = true)] (Out.ret (at_ [((2 : Nat), V.t (T.bool false))] [] (0 : Nat))) (by kernel_rfl) (congrArg (fun x => x) (show (Out.ret (at_ [((2 : Nat), V.t (T.bool false))] [] (0 : Nat))) = (specOut l (specGo (x :: rest) o)) by grind [specGo, specOut, bl, i64, sl]))
          · let t5 : Tp pr := .b (show (decide (x.kind = (3 : Int))) = false by simpa using hc5)
            exact .tpe [t0, t1, .a (hx), t3, t4, t5] (Out.ret (at_ [((2 : Nat), V.t (T.bool false))] [] (0 : Nat))) (by kernel_rfl) (congrArg (fun x => x) (show (Out.ret (at_ [((2 : Nat), V.t (T.bool false))] [] (0 : Nat))) = (specOut l (specGo (x :: rest) o)) by grind [specGo, specOut, bl, i64, sl]))
theorem GoodProgramS_ev (l : List Line) (hl : l.length ≤ 1048576) (hs : ∀ x ∈ l, x.expr.length ≤ 1048576 ∧ ∀ y ∈ x.expr, y.text.size ≤ 9223372036854775807) : Ev pr (.call 10 [lines l] []) (.val (bl (goodProgram l)) []) := by
  have h := GoodProgL_ev l hl hs l [] 0 0 rfl rfl (Int.le_refl _) (Int.le_refl _)
  rw [goodProgram_spec]
  cases hr : specGo l 0 with
  | none => rw [hr] at h; unfold specOut at h; (
    let t0 : Tp pr := .i (show ((↑(List.map Line.ce l).length : Int) : Int) = (↑l.length : Int) by simp)
    exact .tp [t0, .a (h)] (by kernel_rfl))
  | some o => rw [hr] at h; unfold specOut at h; (
    let t0 : Tp pr := .i (show ((↑(List.map Line.ce l).length : Int) : Int) = (↑l.length : Int) by simp)
    let t2 : Tp pr := .i (show ((↑(List.map Line.ce l).length : Int) : Int) = (↑l.length : Int) by simp)
    let t3 : Tp pr := .a (l1In_ev ((↑l.length : Int)) ((1 : Int)) ((12 : Int)))
    by_cases hc4 : (1 : Int) ≤ (↑l.length : Int) ∧ (↑l.length : Int) ≤ (12 : Int)
    · let t4 : Tp pr := .b (show (decide ((↑l.length : Int) ≥ (1 : Int)) && decide ((↑l.length : Int) ≤ (12 : Int))) = true by simpa using hc4)
      exact .tpe [t0, .a (h), t2, t3, t4] (Out.val (V.t (T.bool (decide (o = (0 : Int))))) []) (by kernel_rfl) (congrArg (fun x => Out.val (V.t (T.bool x)) []) (show (decide (o = (0 : Int))) = (match some o with
      | some o => decide ((↑l.length : Int) ≥ (1 : Int)) && decide ((↑l.length : Int) ≤ (12 : Int)) && decide (o = (0 : Int))
      | none => false) by simp [*]))
    · let t4 : Tp pr := .b (show (decide ((↑l.length : Int) ≥ (1 : Int)) && decide ((↑l.length : Int) ≤ (12 : Int))) = false by simpa using hc4)
      exact .tpe [t0, .a (h), t2, t3, t4] (Out.val (V.t (T.bool false)) []) (by kernel_rfl) (congrArg (fun x => Out.val (V.t (T.bool x)) []) (show (false) = (match some o with
      | some o => decide ((↑l.length : Int) ≥ (1 : Int)) && decide ((↑l.length : Int) ≤ (12 : Int)) && decide (o = (0 : Int))
      | none => false) by simp [*])))
end Go.Ev

/- Numbers of two. -/
namespace Go.Ev
set_option linter.unusedVariables false
set_option linter.unusedSimpArgs false
open Go.Proofs
set_option maxRecDepth 100000
set_option linter.unusedVariables false
set_option maxHeartbeats 1000000
theorem boolNum_ev (b : Bool) : Ev pr (.call 87 [bl b] []) (.val (i64 (tru b)) []) := by
  cases b with
  | true => exact .tp [.b (rfl : true = true)] (by kernel_rfl)
  | false => exact .tp [.b (rfl : false = false)] (by kernel_rfl)
theorem l2Truth_ev (b : Bool) : Ev pr (.call 97 [bl b] []) (.val (i64 (tru b)) []) := by
  cases b with
  | true => exact .tp [.b (rfl : true = true)] (by kernel_rfl)
  | false => exact .tp [.b (rfl : false = false)] (by kernel_rfl)
theorem bounded_ev (n : Int) : Ev pr (.call 102 [i64 n] []) (.val (.tup [i64 (inB n).1, i64 (inB n).2]) []) := by
  let t0 : Tp pr := .a (within_ev (n) ((-1000000000 : Int)) ((1000000000 : Int)))
  by_cases hc1 : n < (-1000000000 : Int) ∨ (1000000000 : Int) < n
  · let t1 : Tp pr := .b (show (!(decide (n ≥ (-1000000000 : Int)) && decide (n ≤ (1000000000 : Int)))) = true by simpa using hc1)
    exact .tpe [t0, t1] (Out.val (V.tup [V.t (T.int IntKind.i64 (0 : Int)), V.t (T.int IntKind.i64 (3 : Int))]) []) (by kernel_rfl) ((congrArg (fun x => Out.val (V.tup [V.t (T.int IntKind.i64 x), V.t (T.int IntKind.i64 (3 : Int))]) []) (show ((0 : Int)) = ((inB n).fst) by grind [inB])).trans (congrArg (fun x => Out.val (V.tup [V.t (T.int IntKind.i64 (inB n).fst), V.t (T.int IntKind.i64 x)]) []) (show ((3 : Int)) = ((inB n).snd) by grind [inB])))
  · let t1 : Tp pr := .b (show (!(decide (n ≥ (-1000000000 : Int)) && decide (n ≤ (1000000000 : Int)))) = false by simpa using hc1)
    exact .tpe [t0, t1] (Out.val (V.tup [V.t (T.int IntKind.i64 n), V.t (T.int IntKind.i64 (0 : Int))]) []) (by kernel_rfl) ((congrArg (fun x => Out.val (V.tup [V.t (T.int IntKind.i64 x), V.t (T.int IntKind.i64 (0 : Int))]) []) (show (n) = ((inB n).fst) by grind [inB])).trans (congrArg (fun x => Out.val (V.tup [V.t (T.int IntKind.i64 (inB n).fst), V.t (T.int IntKind.i64 x)]) []) (show ((0 : Int)) = ((inB n).snd) by grind [inB])))
theorem l2Bound_ev (n : Int) : Ev pr (.call 82 [i64 n] []) (.val (bl (decide (n ≥ -1000000000) && decide (n ≤ 1000000000))) []) := by
  let t0 : Tp pr := .a (l1In_ev (n) ((-1000000000 : Int)) ((1000000000 : Int)))
  exact .tp [t0] (by kernel_rfl)
theorem two_ev (s : ByteArray) (a b : Int) (ha : -1000000000 ≤ a) (ha2 : a ≤ 1000000000) (hb : -1000000000 ≤ b) (hb2 : b ≤ 1000000000) : Ev pr (.call 88 [.t (.str s), i64 a, i64 b] []) (.val (.tup [i64 (two2 s.toList a b).1, i64 (two2 s.toList a b).2]) []) := by
  have hm := mul_bd ha ha2 hb hb2
  have hq := tdiv_bd b ha ha2
  have hr := tmod_bd b ha ha2
  by_cases hs : 0 ≤ b ∧ b ≤ 20
  · have hp : pow2 b 64 = 2 ^ b.toNat := by
      have := pow2_eq (n := b.toNat) (by omega)
      rwa [Int.toNat_of_nonneg hs.1] at this
    have hp2 := pow_bd (n := b.toNat) (by omega)
    rw [← hp] at hp2
    have hp3 := mulp_bd ha ha2 hp2
    have hp4 : (1 : Int) * pow2 b 64 = pow2 b 64 := by omega
    by_cases hc0 : s.toList = [(43 : UInt8)]
    · let t0 : Tp pr := .b (show (s.toList == [(43 : UInt8)]) = true by simpa using hc0)
      let t1 : Tp pr := .i (wrap_i64 (a := a + b) (by omega) (by omega))
      exact .tpe [t0, t1, .a (bounded_ev (a + b))] (Out.val (V.tup [V.t (T.int IntKind.i64 (inB (a + b)).fst), V.t (T.int IntKind.i64 (inB (a + b)).snd)]) []) (by kernel_rfl) ((congrArg (fun x => Out.val (V.tup [V.t (T.int IntKind.i64 x), V.t (T.int IntKind.i64 (inB (a + b)).snd)]) []) (show ((inB (a + b)).fst) = ((two2 s.toList a b).fst) by grind [two2])).trans (congrArg (fun x => Out.val (V.tup [V.t (T.int IntKind.i64 (two2 s.toList a b).fst), V.t (T.int IntKind.i64 x)]) []) (show ((inB (a + b)).snd) = ((two2 s.toList a b).snd) by grind [two2])))
    · let t0 : Tp pr := .b (show (s.toList == [(43 : UInt8)]) = false by simpa using hc0)
      by_cases hc1 : s.toList = [(45 : UInt8)]
      · let t1 : Tp pr := .b (show (s.toList == [(45 : UInt8)]) = true by simpa using hc1)
        let t2 : Tp pr := .i (wrap_i64 (a := a - b) (by omega) (by omega))
        exact .tpe [t0, t1, t2, .a (bounded_ev (a - b))] (Out.val (V.tup [V.t (T.int IntKind.i64 (inB (a - b)).fst), V.t (T.int IntKind.i64 (inB (a - b)).snd)]) []) (by kernel_rfl) ((congrArg (fun x => Out.val (V.tup [V.t (T.int IntKind.i64 x), V.t (T.int IntKind.i64 (inB (a - b)).snd)]) []) (show ((inB (a - b)).fst) = ((two2 s.toList a b).fst) by grind [two2])).trans (congrArg (fun x => Out.val (V.tup [V.t (T.int IntKind.i64 (two2 s.toList a b).fst), V.t (T.int IntKind.i64 x)]) []) (show ((inB (a - b)).snd) = ((two2 s.toList a b).snd) by grind [two2])))
      · let t1 : Tp pr := .b (show (s.toList == [(45 : UInt8)]) = false by simpa using hc1)
        by_cases hc2 : s.toList = [(42 : UInt8)]
        · let t2 : Tp pr := .b (show (s.toList == [(42 : UInt8)]) = true by simpa using hc2)
          let t3 : Tp pr := .i (wrap_i64 (a := a * b) (by omega) (by omega))
          exact .tpe [t0, t1, t2, t3, .a (bounded_ev (a * b))] (Out.val (V.tup [V.t (T.int IntKind.i64 (inB (a * b)).fst), V.t (T.int IntKind.i64 (inB (a * b)).snd)]) []) (by kernel_rfl) ((congrArg (fun x => Out.val (V.tup [V.t (T.int IntKind.i64 x), V.t (T.int IntKind.i64 (inB (a * b)).snd)]) []) (show ((inB (a * b)).fst) = ((two2 s.toList a b).fst) by grind [two2])).trans (congrArg (fun x => Out.val (V.tup [V.t (T.int IntKind.i64 (two2 s.toList a b).fst), V.t (T.int IntKind.i64 x)]) []) (show ((inB (a * b)).snd) = ((two2 s.toList a b).snd) by grind [two2])))
        · let t2 : Tp pr := .b (show (s.toList == [(42 : UInt8)]) = false by simpa using hc2)
          by_cases hc3 : s.toList = [(47 : UInt8)]
          · let t3 : Tp pr := .b (show (s.toList == [(47 : UInt8)]) = true by simpa using hc3)
            let t4 : Tp pr := .b (show (s.toList == [(47 : UInt8)]) = true by (simp; omega))
            by_cases hc5 : b = (0 : Int)
            · let t5 : Tp pr := .b (show (decide (b = (0 : Int))) = true by simpa using hc5)
              exact .tpe [t0, t1, t2, t3, t4, t5] (Out.val (V.tup [V.t (T.int IntKind.i64 (0 : Int)), V.t (T.int IntKind.i64 (2 : Int))]) []) (by kernel_rfl) ((congrArg (fun x => Out.val (V.tup [V.t (T.int IntKind.i64 x), V.t (T.int IntKind.i64 (2 : Int))]) []) (show ((0 : Int)) = ((two2 s.toList a b).fst) by grind [two2])).trans (congrArg (fun x => Out.val (V.tup [V.t (T.int IntKind.i64 (two2 s.toList a b).fst), V.t (T.int IntKind.i64 x)]) []) (show ((2 : Int)) = ((two2 s.toList a b).snd) by grind [two2])))
            · let t5 : Tp pr := .b (show (decide (b = (0 : Int))) = false by simpa using hc5)
              let t6 : Tp pr := .b (show (s.toList == [(47 : UInt8)]) = true by (simp; omega))
              let t7 : Tp pr := .m (show (decide (b ≠ (0 : Int))) = true by simp [*])
              let t8 : Tp pr := .i (wrap_i64 (a := a.tdiv b) (by omega) (by omega))
              exact .tpe [t0, t1, t2, t3, t4, t5, t6, t7, t8] (Out.val (V.tup [V.t (T.int IntKind.i64 (a.tdiv b)), V.t (T.int IntKind.i64 (0 : Int))]) []) (by kernel_rfl) ((congrArg (fun x => Out.val (V.tup [V.t (T.int IntKind.i64 x), V.t (T.int IntKind.i64 (0 : Int))]) []) (show (a.tdiv b) = ((two2 s.toList a b).fst) by grind [two2])).trans (congrArg (fun x => Out.val (V.tup [V.t (T.int IntKind.i64 (two2 s.toList a b).fst), V.t (T.int IntKind.i64 x)]) []) (show ((0 : Int)) = ((two2 s.toList a b).snd) by grind [two2])))
          · let t3 : Tp pr := .b (show (s.toList == [(47 : UInt8)]) = false by simpa using hc3)
            by_cases hc4 : s.toList = [(37 : UInt8)]
            · let t4 : Tp pr := .b (show (s.toList == [(37 : UInt8)]) = true by simpa using hc4)
              by_cases hc5 : b = (0 : Int)
              · let t5 : Tp pr := .b (show (decide (b = (0 : Int))) = true by simpa using hc5)
                exact .tpe [t0, t1, t2, t3, t4, t5] (Out.val (V.tup [V.t (T.int IntKind.i64 (0 : Int)), V.t (T.int IntKind.i64 (2 : Int))]) []) (by kernel_rfl) ((congrArg (fun x => Out.val (V.tup [V.t (T.int IntKind.i64 x), V.t (T.int IntKind.i64 (2 : Int))]) []) (show ((0 : Int)) = ((two2 s.toList a b).fst) by grind [two2])).trans (congrArg (fun x => Out.val (V.tup [V.t (T.int IntKind.i64 (two2 s.toList a b).fst), V.t (T.int IntKind.i64 x)]) []) (show ((2 : Int)) = ((two2 s.toList a b).snd) by grind [two2])))
              · let t5 : Tp pr := .b (show (decide (b = (0 : Int))) = false by simpa using hc5)
                let t6 : Tp pr := .b (show (s.toList == [(47 : UInt8)]) = false by (simp; omega))
                let t7 : Tp pr := .m (show (decide (b ≠ (0 : Int))) = true by simp [*])
                exact .tpe [t0, t1, t2, t3, t4, t5, t6, t7, .i (rfl : (a.tmod b) = _)] (Out.val (V.tup [V.t (T.int IntKind.i64 (a.tmod b)), V.t (T.int IntKind.i64 (0 : Int))]) []) (by kernel_rfl) ((congrArg (fun x => Out.val (V.tup [V.t (T.int IntKind.i64 x), V.t (T.int IntKind.i64 (0 : Int))]) []) (show (a.tmod b) = ((two2 s.toList a b).fst) by grind [two2])).trans (congrArg (fun x => Out.val (V.tup [V.t (T.int IntKind.i64 (two2 s.toList a b).fst), V.t (T.int IntKind.i64 x)]) []) (show ((0 : Int)) = ((two2 s.toList a b).snd) by grind [two2])))
            · let t4 : Tp pr := .b (show (s.toList == [(37 : UInt8)]) = false by simpa using hc4)
              by_cases hc5 : s.toList = [(60 : UInt8), (60 : UInt8)]
              · let t5 : Tp pr := .b (show (s.toList == [(60 : UInt8), (60 : UInt8)]) = true by simpa using hc5)
                let t6 : Tp pr := .a (within_ev (b) ((0 : Int)) ((20 : Int)))
                let t7 : Tp pr := .b (show (!(decide (b ≥ (0 : Int)) && decide (b ≤ (20 : Int)))) = false by (simp; omega))
                let t8 : Tp pr := .m (show (decide ((0 : Int) ≤ b)) = true by simp [*])
                let t9 : Tp pr := .i (wrap_i64 (a := (1 : Int) * pow2 b (64 : Nat)) (by omega) (by omega))
                let t10 : Tp pr := .i (wrap_i64 (a := a * ((1 : Int) * pow2 b (64 : Nat))) (by (simp; omega)) (by (simp; omega)))
                let t11 : Tp pr := .a (bounded_ev (a * ((1 : Int) * pow2 b (64 : Nat))))
                exact .tpe [t0, t1, t2, t3, t4, t5, t6, t7, t8, t9, t10, t11] (Out.val (V.tup [V.t (T.int IntKind.i64 (inB (a * ((1 : Int) * pow2 b (64 : Nat)))).fst), V.t (T.int IntKind.i64 (inB (a * ((1 : Int) * pow2 b (64 : Nat)))).snd)]) []) (by kernel_rfl) ((congrArg (fun x => Out.val (V.tup [V.t (T.int IntKind.i64 x), V.t (T.int IntKind.i64 (inB (a * ((1 : Int) * pow2 b (64 : Nat)))).snd)]) []) (show ((inB (a * ((1 : Int) * pow2 b (64 : Nat)))).fst) = ((two2 s.toList a b).fst) by grind [two2])).trans (congrArg (fun x => Out.val (V.tup [V.t (T.int IntKind.i64 (two2 s.toList a b).fst), V.t (T.int IntKind.i64 x)]) []) (show ((inB (a * ((1 : Int) * pow2 b (64 : Nat)))).snd) = ((two2 s.toList a b).snd) by grind [two2])))
              · let t5 : Tp pr := .b (show (s.toList == [(60 : UInt8), (60 : UInt8)]) = false by simpa using hc5)
                by_cases hc6 : s.toList = [(60 : UInt8)]
                · let t6 : Tp pr := .b (show (s.toList == [(60 : UInt8)]) = true by simpa using hc6)
                  exact .tpe [t0, t1, t2, t3, t4, t5, t6, .a (boolNum_ev (decide (a < b)))] (Out.val (V.tup [V.t (T.int IntKind.i64 (tru (decide (a < b)))), V.t (T.int IntKind.i64 (0 : Int))]) []) (by kernel_rfl) ((congrArg (fun x => Out.val (V.tup [V.t (T.int IntKind.i64 x), V.t (T.int IntKind.i64 (0 : Int))]) []) (show (tru (decide (a < b))) = ((two2 s.toList a b).fst) by grind [two2])).trans (congrArg (fun x => Out.val (V.tup [V.t (T.int IntKind.i64 (two2 s.toList a b).fst), V.t (T.int IntKind.i64 x)]) []) (show ((0 : Int)) = ((two2 s.toList a b).snd) by grind [two2])))
                · let t6 : Tp pr := .b (show (s.toList == [(60 : UInt8)]) = false by simpa using hc6)
                  by_cases hc7 : s.toList = [(60 : UInt8), (61 : UInt8)]
                  · let t7 : Tp pr := .b (show (s.toList == [(60 : UInt8), (61 : UInt8)]) = true by simpa using hc7)
                    exact .tpe [t0, t1, t2, t3, t4, t5, t6, t7, .a (boolNum_ev (decide (a ≤ b)))] (Out.val (V.tup [V.t (T.int IntKind.i64 (tru (decide (a ≤ b)))), V.t (T.int IntKind.i64 (0 : Int))]) []) (by kernel_rfl) ((congrArg (fun x => Out.val (V.tup [V.t (T.int IntKind.i64 x), V.t (T.int IntKind.i64 (0 : Int))]) []) (show (tru (decide (a ≤ b))) = ((two2 s.toList a b).fst) by grind [two2])).trans (congrArg (fun x => Out.val (V.tup [V.t (T.int IntKind.i64 (two2 s.toList a b).fst), V.t (T.int IntKind.i64 x)]) []) (show ((0 : Int)) = ((two2 s.toList a b).snd) by grind [two2])))
                  · let t7 : Tp pr := .b (show (s.toList == [(60 : UInt8), (61 : UInt8)]) = false by simpa using hc7)
                    by_cases hc8 : s.toList = [(61 : UInt8), (61 : UInt8)]
                    · let t8 : Tp pr := .b (show (s.toList == [(61 : UInt8), (61 : UInt8)]) = true by simpa using hc8)
                      exact .tpe [t0, t1, t2, t3, t4, t5, t6, t7, t8, .a (boolNum_ev (decide (a = b)))] (Out.val (V.tup [V.t (T.int IntKind.i64 (tru (decide (a = b)))), V.t (T.int IntKind.i64 (0 : Int))]) []) (by kernel_rfl) ((congrArg (fun x => Out.val (V.tup [V.t (T.int IntKind.i64 x), V.t (T.int IntKind.i64 (0 : Int))]) []) (show (tru (decide (a = b))) = ((two2 s.toList a b).fst) by grind [two2])).trans (congrArg (fun x => Out.val (V.tup [V.t (T.int IntKind.i64 (two2 s.toList a b).fst), V.t (T.int IntKind.i64 x)]) []) (show ((0 : Int)) = ((two2 s.toList a b).snd) by grind [two2])))
                    · let t8 : Tp pr := .b (show (s.toList == [(61 : UInt8), (61 : UInt8)]) = false by simpa using hc8)
                      exact .tpe [t0, t1, t2, t3, t4, t5, t6, t7, t8, .a (boolNum_ev (a != b))] (Out.val (V.tup [V.t (T.int IntKind.i64 (tru (a != b))), V.t (T.int IntKind.i64 (0 : Int))]) []) (by kernel_rfl) ((congrArg (fun x => Out.val (V.tup [V.t (T.int IntKind.i64 x), V.t (T.int IntKind.i64 (0 : Int))]) []) (show (tru (a != b)) = ((two2 s.toList a b).fst) by grind [two2])).trans (congrArg (fun x => Out.val (V.tup [V.t (T.int IntKind.i64 (two2 s.toList a b).fst), V.t (T.int IntKind.i64 x)]) []) (show ((0 : Int)) = ((two2 s.toList a b).snd) by grind [two2])))
  · by_cases hc0 : s.toList = [(43 : UInt8)]
    · let t0 : Tp pr := .b (show (s.toList == [(43 : UInt8)]) = true by simpa using hc0)
      let t1 : Tp pr := .i (wrap_i64 (a := a + b) (by omega) (by omega))
      exact .tpe [t0, t1, .a (bounded_ev (a + b))] (Out.val (V.tup [V.t (T.int IntKind.i64 (inB (a + b)).fst), V.t (T.int IntKind.i64 (inB (a + b)).snd)]) []) (by kernel_rfl) ((congrArg (fun x => Out.val (V.tup [V.t (T.int IntKind.i64 x), V.t (T.int IntKind.i64 (inB (a + b)).snd)]) []) (show ((inB (a + b)).fst) = ((two2 s.toList a b).fst) by grind [two2])).trans (congrArg (fun x => Out.val (V.tup [V.t (T.int IntKind.i64 (two2 s.toList a b).fst), V.t (T.int IntKind.i64 x)]) []) (show ((inB (a + b)).snd) = ((two2 s.toList a b).snd) by grind [two2])))
    · let t0 : Tp pr := .b (show (s.toList == [(43 : UInt8)]) = false by simpa using hc0)
      by_cases hc1 : s.toList = [(45 : UInt8)]
      · let t1 : Tp pr := .b (show (s.toList == [(45 : UInt8)]) = true by simpa using hc1)
        let t2 : Tp pr := .i (wrap_i64 (a := a - b) (by omega) (by omega))
        exact .tpe [t0, t1, t2, .a (bounded_ev (a - b))] (Out.val (V.tup [V.t (T.int IntKind.i64 (inB (a - b)).fst), V.t (T.int IntKind.i64 (inB (a - b)).snd)]) []) (by kernel_rfl) ((congrArg (fun x => Out.val (V.tup [V.t (T.int IntKind.i64 x), V.t (T.int IntKind.i64 (inB (a - b)).snd)]) []) (show ((inB (a - b)).fst) = ((two2 s.toList a b).fst) by grind [two2])).trans (congrArg (fun x => Out.val (V.tup [V.t (T.int IntKind.i64 (two2 s.toList a b).fst), V.t (T.int IntKind.i64 x)]) []) (show ((inB (a - b)).snd) = ((two2 s.toList a b).snd) by grind [two2])))
      · let t1 : Tp pr := .b (show (s.toList == [(45 : UInt8)]) = false by simpa using hc1)
        by_cases hc2 : s.toList = [(42 : UInt8)]
        · let t2 : Tp pr := .b (show (s.toList == [(42 : UInt8)]) = true by simpa using hc2)
          let t3 : Tp pr := .i (wrap_i64 (a := a * b) (by omega) (by omega))
          exact .tpe [t0, t1, t2, t3, .a (bounded_ev (a * b))] (Out.val (V.tup [V.t (T.int IntKind.i64 (inB (a * b)).fst), V.t (T.int IntKind.i64 (inB (a * b)).snd)]) []) (by kernel_rfl) ((congrArg (fun x => Out.val (V.tup [V.t (T.int IntKind.i64 x), V.t (T.int IntKind.i64 (inB (a * b)).snd)]) []) (show ((inB (a * b)).fst) = ((two2 s.toList a b).fst) by grind [two2])).trans (congrArg (fun x => Out.val (V.tup [V.t (T.int IntKind.i64 (two2 s.toList a b).fst), V.t (T.int IntKind.i64 x)]) []) (show ((inB (a * b)).snd) = ((two2 s.toList a b).snd) by grind [two2])))
        · let t2 : Tp pr := .b (show (s.toList == [(42 : UInt8)]) = false by simpa using hc2)
          by_cases hc3 : s.toList = [(47 : UInt8)]
          · let t3 : Tp pr := .b (show (s.toList == [(47 : UInt8)]) = true by simpa using hc3)
            let t4 : Tp pr := .b (show (s.toList == [(47 : UInt8)]) = true by (simp; omega))
            let t5 : Tp pr := .b (show (decide (b = (0 : Int))) = false by (simp; omega))
            let t6 : Tp pr := .b (show (s.toList == [(47 : UInt8)]) = true by (simp; omega))
            let t7 : Tp pr := .m (show (decide (b ≠ (0 : Int))) = true by (simp; omega))
            let t8 : Tp pr := .i (wrap_i64 (a := a.tdiv b) (by omega) (by omega))
            exact .tpe [t0, t1, t2, t3, t4, t5, t6, t7, t8] (Out.val (V.tup [V.t (T.int IntKind.i64 (a.tdiv b)), V.t (T.int IntKind.i64 (0 : Int))]) []) (by kernel_rfl) ((congrArg (fun x => Out.val (V.tup [V.t (T.int IntKind.i64 x), V.t (T.int IntKind.i64 (0 : Int))]) []) (show (a.tdiv b) = ((two2 s.toList a b).fst) by grind [two2])).trans (congrArg (fun x => Out.val (V.tup [V.t (T.int IntKind.i64 (two2 s.toList a b).fst), V.t (T.int IntKind.i64 x)]) []) (show ((0 : Int)) = ((two2 s.toList a b).snd) by grind [two2])))
          · let t3 : Tp pr := .b (show (s.toList == [(47 : UInt8)]) = false by simpa using hc3)
            by_cases hc4 : s.toList = [(37 : UInt8)]
            · let t4 : Tp pr := .b (show (s.toList == [(37 : UInt8)]) = true by simpa using hc4)
              let t5 : Tp pr := .b (show (decide (b = (0 : Int))) = false by (simp; omega))
              let t6 : Tp pr := .b (show (s.toList == [(47 : UInt8)]) = false by (simp; omega))
              let t7 : Tp pr := .m (show (decide (b ≠ (0 : Int))) = true by (simp; omega))
              exact .tpe [t0, t1, t2, t3, t4, t5, t6, t7, .i (rfl : (a.tmod b) = _)] (Out.val (V.tup [V.t (T.int IntKind.i64 (a.tmod b)), V.t (T.int IntKind.i64 (0 : Int))]) []) (by kernel_rfl) ((congrArg (fun x => Out.val (V.tup [V.t (T.int IntKind.i64 x), V.t (T.int IntKind.i64 (0 : Int))]) []) (show (a.tmod b) = ((two2 s.toList a b).fst) by grind [two2])).trans (congrArg (fun x => Out.val (V.tup [V.t (T.int IntKind.i64 (two2 s.toList a b).fst), V.t (T.int IntKind.i64 x)]) []) (show ((0 : Int)) = ((two2 s.toList a b).snd) by grind [two2])))
            · let t4 : Tp pr := .b (show (s.toList == [(37 : UInt8)]) = false by simpa using hc4)
              by_cases hc5 : s.toList = [(60 : UInt8), (60 : UInt8)]
              · let t5 : Tp pr := .b (show (s.toList == [(60 : UInt8), (60 : UInt8)]) = true by simpa using hc5)
                let t6 : Tp pr := .a (within_ev (b) ((0 : Int)) ((20 : Int)))
                let t7 : Tp pr := .b (show (!(decide (b ≥ (0 : Int)) && decide (b ≤ (20 : Int)))) = true by (simp; omega))
                exact .tpe [t0, t1, t2, t3, t4, t5, t6, t7] (Out.val (V.tup [V.t (T.int IntKind.i64 (0 : Int)), V.t (T.int IntKind.i64 (3 : Int))]) []) (by kernel_rfl) ((congrArg (fun x => Out.val (V.tup [V.t (T.int IntKind.i64 x), V.t (T.int IntKind.i64 (3 : Int))]) []) (show ((0 : Int)) = ((two2 s.toList a b).fst) by grind [two2])).trans (congrArg (fun x => Out.val (V.tup [V.t (T.int IntKind.i64 (two2 s.toList a b).fst), V.t (T.int IntKind.i64 x)]) []) (show ((3 : Int)) = ((two2 s.toList a b).snd) by grind [two2])))
              · let t5 : Tp pr := .b (show (s.toList == [(60 : UInt8), (60 : UInt8)]) = false by simpa using hc5)
                by_cases hc6 : s.toList = [(60 : UInt8)]
                · let t6 : Tp pr := .b (show (s.toList == [(60 : UInt8)]) = true by simpa using hc6)
                  exact .tpe [t0, t1, t2, t3, t4, t5, t6, .a (boolNum_ev (decide (a < b)))] (Out.val (V.tup [V.t (T.int IntKind.i64 (tru (decide (a < b)))), V.t (T.int IntKind.i64 (0 : Int))]) []) (by kernel_rfl) ((congrArg (fun x => Out.val (V.tup [V.t (T.int IntKind.i64 x), V.t (T.int IntKind.i64 (0 : Int))]) []) (show (tru (decide (a < b))) = ((two2 s.toList a b).fst) by grind [two2])).trans (congrArg (fun x => Out.val (V.tup [V.t (T.int IntKind.i64 (two2 s.toList a b).fst), V.t (T.int IntKind.i64 x)]) []) (show ((0 : Int)) = ((two2 s.toList a b).snd) by grind [two2])))
                · let t6 : Tp pr := .b (show (s.toList == [(60 : UInt8)]) = false by simpa using hc6)
                  by_cases hc7 : s.toList = [(60 : UInt8), (61 : UInt8)]
                  · let t7 : Tp pr := .b (show (s.toList == [(60 : UInt8), (61 : UInt8)]) = true by simpa using hc7)
                    exact .tpe [t0, t1, t2, t3, t4, t5, t6, t7, .a (boolNum_ev (decide (a ≤ b)))] (Out.val (V.tup [V.t (T.int IntKind.i64 (tru (decide (a ≤ b)))), V.t (T.int IntKind.i64 (0 : Int))]) []) (by kernel_rfl) ((congrArg (fun x => Out.val (V.tup [V.t (T.int IntKind.i64 x), V.t (T.int IntKind.i64 (0 : Int))]) []) (show (tru (decide (a ≤ b))) = ((two2 s.toList a b).fst) by grind [two2])).trans (congrArg (fun x => Out.val (V.tup [V.t (T.int IntKind.i64 (two2 s.toList a b).fst), V.t (T.int IntKind.i64 x)]) []) (show ((0 : Int)) = ((two2 s.toList a b).snd) by grind [two2])))
                  · let t7 : Tp pr := .b (show (s.toList == [(60 : UInt8), (61 : UInt8)]) = false by simpa using hc7)
                    by_cases hc8 : s.toList = [(61 : UInt8), (61 : UInt8)]
                    · let t8 : Tp pr := .b (show (s.toList == [(61 : UInt8), (61 : UInt8)]) = true by simpa using hc8)
                      exact .tpe [t0, t1, t2, t3, t4, t5, t6, t7, t8, .a (boolNum_ev (decide (a = b)))] (Out.val (V.tup [V.t (T.int IntKind.i64 (tru (decide (a = b)))), V.t (T.int IntKind.i64 (0 : Int))]) []) (by kernel_rfl) ((congrArg (fun x => Out.val (V.tup [V.t (T.int IntKind.i64 x), V.t (T.int IntKind.i64 (0 : Int))]) []) (show (tru (decide (a = b))) = ((two2 s.toList a b).fst) by grind [two2])).trans (congrArg (fun x => Out.val (V.tup [V.t (T.int IntKind.i64 (two2 s.toList a b).fst), V.t (T.int IntKind.i64 x)]) []) (show ((0 : Int)) = ((two2 s.toList a b).snd) by grind [two2])))
                    · let t8 : Tp pr := .b (show (s.toList == [(61 : UInt8), (61 : UInt8)]) = false by simpa using hc8)
                      exact .tpe [t0, t1, t2, t3, t4, t5, t6, t7, t8, .a (boolNum_ev (a != b))] (Out.val (V.tup [V.t (T.int IntKind.i64 (tru (a != b))), V.t (T.int IntKind.i64 (0 : Int))]) []) (by kernel_rfl) ((congrArg (fun x => Out.val (V.tup [V.t (T.int IntKind.i64 x), V.t (T.int IntKind.i64 (0 : Int))]) []) (show (tru (a != b)) = ((two2 s.toList a b).fst) by grind [two2])).trans (congrArg (fun x => Out.val (V.tup [V.t (T.int IntKind.i64 (two2 s.toList a b).fst), V.t (T.int IntKind.i64 x)]) []) (show ((0 : Int)) = ((two2 s.toList a b).snd) by grind [two2])))
theorem l2Do_ev (s : ByteArray) (a b : Int) (ha : -1000000000 ≤ a) (ha2 : a ≤ 1000000000) (hb : -1000000000 ≤ b) (hb2 : b ≤ 1000000000) : Ev pr (.call 98 [.t (.str s), i64 a, i64 b] []) (.val (.tup [i64 (do2 s.toList a b).1, i64 (do2 s.toList a b).2]) []) := by
  have hm := mul_bd ha ha2 hb hb2
  have hq := tdiv_bd b ha ha2
  have hr := tmod_bd b ha ha2
  by_cases hs : 0 ≤ b ∧ b ≤ 20
  · have hp : pow2 b 64 = 2 ^ b.toNat := by
      have := pow2_eq (n := b.toNat) (by omega)
      rwa [Int.toNat_of_nonneg hs.1] at this
    have hp2 := pow_bd (n := b.toNat) (by omega)
    rw [← hp] at hp2
    have hp3 := mulp_bd ha ha2 hp2
    by_cases hc0 : s.toList = [(43 : UInt8)]
    · let t0 : Tp pr := .b (show (s.toList == [(43 : UInt8)]) = true by simpa using hc0)
      let t1 : Tp pr := .i (wrap_i64 (a := a + b) (by omega) (by omega))
      exact .tpe [t0, t1] (Out.val (V.tup [V.t (T.int IntKind.i64 (a + b)), V.t (T.int IntKind.i64 (0 : Int))]) []) (by kernel_rfl) ((congrArg (fun x => Out.val (V.tup [V.t (T.int IntKind.i64 x), V.t (T.int IntKind.i64 (0 : Int))]) []) (show (a + b) = ((do2 s.toList a b).fst) by grind [do2])).trans (congrArg (fun x => Out.val (V.tup [V.t (T.int IntKind.i64 (do2 s.toList a b).fst), V.t (T.int IntKind.i64 x)]) []) (show ((0 : Int)) = ((do2 s.toList a b).snd) by grind [do2])))
    · let t0 : Tp pr := .b (show (s.toList == [(43 : UInt8)]) = false by simpa using hc0)
      by_cases hc1 : s.toList = [(45 : UInt8)]
      · let t1 : Tp pr := .b (show (s.toList == [(45 : UInt8)]) = true by simpa using hc1)
        let t2 : Tp pr := .i (wrap_i64 (a := a - b) (by omega) (by omega))
        exact .tpe [t0, t1, t2] (Out.val (V.tup [V.t (T.int IntKind.i64 (a - b)), V.t (T.int IntKind.i64 (0 : Int))]) []) (by kernel_rfl) ((congrArg (fun x => Out.val (V.tup [V.t (T.int IntKind.i64 x), V.t (T.int IntKind.i64 (0 : Int))]) []) (show (a - b) = ((do2 s.toList a b).fst) by grind [do2])).trans (congrArg (fun x => Out.val (V.tup [V.t (T.int IntKind.i64 (do2 s.toList a b).fst), V.t (T.int IntKind.i64 x)]) []) (show ((0 : Int)) = ((do2 s.toList a b).snd) by grind [do2])))
      · let t1 : Tp pr := .b (show (s.toList == [(45 : UInt8)]) = false by simpa using hc1)
        by_cases hc2 : s.toList = [(42 : UInt8)]
        · let t2 : Tp pr := .b (show (s.toList == [(42 : UInt8)]) = true by simpa using hc2)
          let t3 : Tp pr := .i (wrap_i64 (a := a * b) (by omega) (by omega))
          exact .tpe [t0, t1, t2, t3] (Out.val (V.tup [V.t (T.int IntKind.i64 (a * b)), V.t (T.int IntKind.i64 (0 : Int))]) []) (by kernel_rfl) ((congrArg (fun x => Out.val (V.tup [V.t (T.int IntKind.i64 x), V.t (T.int IntKind.i64 (0 : Int))]) []) (show (a * b) = ((do2 s.toList a b).fst) by grind [do2])).trans (congrArg (fun x => Out.val (V.tup [V.t (T.int IntKind.i64 (do2 s.toList a b).fst), V.t (T.int IntKind.i64 x)]) []) (show ((0 : Int)) = ((do2 s.toList a b).snd) by grind [do2])))
        · let t2 : Tp pr := .b (show (s.toList == [(42 : UInt8)]) = false by simpa using hc2)
          by_cases hc3 : s.toList = [(60 : UInt8)]
          · let t3 : Tp pr := .b (show (s.toList == [(60 : UInt8)]) = true by simpa using hc3)
            exact .tpe [t0, t1, t2, t3, .a (l2Truth_ev (decide (a < b)))] (Out.val (V.tup [V.t (T.int IntKind.i64 (tru (decide (a < b)))), V.t (T.int IntKind.i64 (0 : Int))]) []) (by kernel_rfl) ((congrArg (fun x => Out.val (V.tup [V.t (T.int IntKind.i64 x), V.t (T.int IntKind.i64 (0 : Int))]) []) (show (tru (decide (a < b))) = ((do2 s.toList a b).fst) by grind [do2])).trans (congrArg (fun x => Out.val (V.tup [V.t (T.int IntKind.i64 (do2 s.toList a b).fst), V.t (T.int IntKind.i64 x)]) []) (show ((0 : Int)) = ((do2 s.toList a b).snd) by grind [do2])))
          · let t3 : Tp pr := .b (show (s.toList == [(60 : UInt8)]) = false by simpa using hc3)
            by_cases hc4 : s.toList = [(60 : UInt8), (61 : UInt8)]
            · let t4 : Tp pr := .b (show (s.toList == [(60 : UInt8), (61 : UInt8)]) = true by simpa using hc4)
              exact .tpe [t0, t1, t2, t3, t4, .a (l2Truth_ev (decide (a ≤ b)))] (Out.val (V.tup [V.t (T.int IntKind.i64 (tru (decide (a ≤ b)))), V.t (T.int IntKind.i64 (0 : Int))]) []) (by kernel_rfl) ((congrArg (fun x => Out.val (V.tup [V.t (T.int IntKind.i64 x), V.t (T.int IntKind.i64 (0 : Int))]) []) (show (tru (decide (a ≤ b))) = ((do2 s.toList a b).fst) by grind [do2])).trans (congrArg (fun x => Out.val (V.tup [V.t (T.int IntKind.i64 (do2 s.toList a b).fst), V.t (T.int IntKind.i64 x)]) []) (show ((0 : Int)) = ((do2 s.toList a b).snd) by grind [do2])))
            · let t4 : Tp pr := .b (show (s.toList == [(60 : UInt8), (61 : UInt8)]) = false by simpa using hc4)
              by_cases hc5 : s.toList = [(61 : UInt8), (61 : UInt8)]
              · let t5 : Tp pr := .b (show (s.toList == [(61 : UInt8), (61 : UInt8)]) = true by simpa using hc5)
                exact .tpe [t0, t1, t2, t3, t4, t5, .a (l2Truth_ev (decide (a = b)))] (Out.val (V.tup [V.t (T.int IntKind.i64 (tru (decide (a = b)))), V.t (T.int IntKind.i64 (0 : Int))]) []) (by kernel_rfl) ((congrArg (fun x => Out.val (V.tup [V.t (T.int IntKind.i64 x), V.t (T.int IntKind.i64 (0 : Int))]) []) (show (tru (decide (a = b))) = ((do2 s.toList a b).fst) by grind [do2])).trans (congrArg (fun x => Out.val (V.tup [V.t (T.int IntKind.i64 (do2 s.toList a b).fst), V.t (T.int IntKind.i64 x)]) []) (show ((0 : Int)) = ((do2 s.toList a b).snd) by grind [do2])))
              · let t5 : Tp pr := .b (show (s.toList == [(61 : UInt8), (61 : UInt8)]) = false by simpa using hc5)
                by_cases hc6 : s.toList = [(33 : UInt8), (61 : UInt8)]
                · let t6 : Tp pr := .b (show (s.toList == [(33 : UInt8), (61 : UInt8)]) = true by simpa using hc6)
                  exact .tpe [t0, t1, t2, t3, t4, t5, t6, .a (l2Truth_ev (a != b))] (Out.val (V.tup [V.t (T.int IntKind.i64 (tru (a != b))), V.t (T.int IntKind.i64 (0 : Int))]) []) (by kernel_rfl) ((congrArg (fun x => Out.val (V.tup [V.t (T.int IntKind.i64 x), V.t (T.int IntKind.i64 (0 : Int))]) []) (show (tru (a != b)) = ((do2 s.toList a b).fst) by grind [do2])).trans (congrArg (fun x => Out.val (V.tup [V.t (T.int IntKind.i64 (do2 s.toList a b).fst), V.t (T.int IntKind.i64 x)]) []) (show ((0 : Int)) = ((do2 s.toList a b).snd) by grind [do2])))
                · let t6 : Tp pr := .b (show (s.toList == [(33 : UInt8), (61 : UInt8)]) = false by simpa using hc6)
                  by_cases hc7 : s.toList = [(60 : UInt8), (60 : UInt8)]
                  · let t7 : Tp pr := .b (show (s.toList == [(60 : UInt8), (60 : UInt8)]) = true by simpa using hc7)
                    let t8 : Tp pr := .a (l1In_ev (b) ((0 : Int)) ((20 : Int)))
                    let t9 : Tp pr := .b (show (!(decide (b ≥ (0 : Int)) && decide (b ≤ (20 : Int)))) = false by (simp; omega))
                    let t10 : Tp pr := .i (wrap_u64 (a := b) (by omega) (by omega))
                    let t11 : Tp pr := .m (show (decide ((0 : Int) ≤ b)) = true by simp [*])
                    let t12 : Tp pr := .i (wrap_i64 (a := a * pow2 b (64 : Nat)) (by omega) (by omega))
                    exact .tpe [t0, t1, t2, t3, t4, t5, t6, t7, t8, t9, t10, t11, t12] (Out.val (V.tup [V.t (T.int IntKind.i64 (a * pow2 b (64 : Nat))), V.t (T.int IntKind.i64 (0 : Int))]) []) (by kernel_rfl) ((congrArg (fun x => Out.val (V.tup [V.t (T.int IntKind.i64 x), V.t (T.int IntKind.i64 (0 : Int))]) []) (show (a * pow2 b (64 : Nat)) = ((do2 s.toList a b).fst) by grind [do2])).trans (congrArg (fun x => Out.val (V.tup [V.t (T.int IntKind.i64 (do2 s.toList a b).fst), V.t (T.int IntKind.i64 x)]) []) (show ((0 : Int)) = ((do2 s.toList a b).snd) by grind [do2])))
                  · let t7 : Tp pr := .b (show (s.toList == [(60 : UInt8), (60 : UInt8)]) = false by simpa using hc7)
                    by_cases hc8 : b = (0 : Int)
                    · let t8 : Tp pr := .b (show (decide (b = (0 : Int))) = true by simpa using hc8)
                      exact .tpe [t0, t1, t2, t3, t4, t5, t6, t7, t8] (Out.val (V.tup [V.t (T.int IntKind.i64 (0 : Int)), V.t (T.int IntKind.i64 (2 : Int))]) []) (by kernel_rfl) ((congrArg (fun x => Out.val (V.tup [V.t (T.int IntKind.i64 x), V.t (T.int IntKind.i64 (2 : Int))]) []) (show ((0 : Int)) = ((do2 s.toList a b).fst) by grind [do2])).trans (congrArg (fun x => Out.val (V.tup [V.t (T.int IntKind.i64 (do2 s.toList a b).fst), V.t (T.int IntKind.i64 x)]) []) (show ((2 : Int)) = ((do2 s.toList a b).snd) by grind [do2])))
                    · let t8 : Tp pr := .b (show (decide (b = (0 : Int))) = false by simpa using hc8)
                      by_cases hc9 : s.toList = [(47 : UInt8)]
                      · let t9 : Tp pr := .b (show (s.toList == [(47 : UInt8)]) = true by simpa using hc9)
                        let t10 : Tp pr := .m (show (decide (b ≠ (0 : Int))) = true by simp [*])
                        let t11 : Tp pr := .i (wrap_i64 (a := a.tdiv b) (by omega) (by omega))
                        exact .tpe [t0, t1, t2, t3, t4, t5, t6, t7, t8, t9, t10, t11] (Out.val (V.tup [V.t (T.int IntKind.i64 (a.tdiv b)), V.t (T.int IntKind.i64 (0 : Int))]) []) (by kernel_rfl) ((congrArg (fun x => Out.val (V.tup [V.t (T.int IntKind.i64 x), V.t (T.int IntKind.i64 (0 : Int))]) []) (show (a.tdiv b) = ((do2 s.toList a b).fst) by grind [do2])).trans (congrArg (fun x => Out.val (V.tup [V.t (T.int IntKind.i64 (do2 s.toList a b).fst), V.t (T.int IntKind.i64 x)]) []) (show ((0 : Int)) = ((do2 s.toList a b).snd) by grind [do2])))
                      · let t9 : Tp pr := .b (show (s.toList == [(47 : UInt8)]) = false by simpa using hc9)
                        let t10 : Tp pr := .m (show (decide (b ≠ (0 : Int))) = true by simp [*])
                        exact .tpe [t0, t1, t2, t3, t4, t5, t6, t7, t8, t9, t10, .i (rfl : (a.tmod b) = _)] (Out.val (V.tup [V.t (T.int IntKind.i64 (a.tmod b)), V.t (T.int IntKind.i64 (0 : Int))]) []) (by kernel_rfl) ((congrArg (fun x => Out.val (V.tup [V.t (T.int IntKind.i64 x), V.t (T.int IntKind.i64 (0 : Int))]) []) (show (a.tmod b) = ((do2 s.toList a b).fst) by grind [do2])).trans (congrArg (fun x => Out.val (V.tup [V.t (T.int IntKind.i64 (do2 s.toList a b).fst), V.t (T.int IntKind.i64 x)]) []) (show ((0 : Int)) = ((do2 s.toList a b).snd) by grind [do2])))
  · by_cases hc0 : s.toList = [(43 : UInt8)]
    · let t0 : Tp pr := .b (show (s.toList == [(43 : UInt8)]) = true by simpa using hc0)
      let t1 : Tp pr := .i (wrap_i64 (a := a + b) (by omega) (by omega))
      exact .tpe [t0, t1] (Out.val (V.tup [V.t (T.int IntKind.i64 (a + b)), V.t (T.int IntKind.i64 (0 : Int))]) []) (by kernel_rfl) ((congrArg (fun x => Out.val (V.tup [V.t (T.int IntKind.i64 x), V.t (T.int IntKind.i64 (0 : Int))]) []) (show (a + b) = ((do2 s.toList a b).fst) by grind [do2])).trans (congrArg (fun x => Out.val (V.tup [V.t (T.int IntKind.i64 (do2 s.toList a b).fst), V.t (T.int IntKind.i64 x)]) []) (show ((0 : Int)) = ((do2 s.toList a b).snd) by grind [do2])))
    · let t0 : Tp pr := .b (show (s.toList == [(43 : UInt8)]) = false by simpa using hc0)
      by_cases hc1 : s.toList = [(45 : UInt8)]
      · let t1 : Tp pr := .b (show (s.toList == [(45 : UInt8)]) = true by simpa using hc1)
        let t2 : Tp pr := .i (wrap_i64 (a := a - b) (by omega) (by omega))
        exact .tpe [t0, t1, t2] (Out.val (V.tup [V.t (T.int IntKind.i64 (a - b)), V.t (T.int IntKind.i64 (0 : Int))]) []) (by kernel_rfl) ((congrArg (fun x => Out.val (V.tup [V.t (T.int IntKind.i64 x), V.t (T.int IntKind.i64 (0 : Int))]) []) (show (a - b) = ((do2 s.toList a b).fst) by grind [do2])).trans (congrArg (fun x => Out.val (V.tup [V.t (T.int IntKind.i64 (do2 s.toList a b).fst), V.t (T.int IntKind.i64 x)]) []) (show ((0 : Int)) = ((do2 s.toList a b).snd) by grind [do2])))
      · let t1 : Tp pr := .b (show (s.toList == [(45 : UInt8)]) = false by simpa using hc1)
        by_cases hc2 : s.toList = [(42 : UInt8)]
        · let t2 : Tp pr := .b (show (s.toList == [(42 : UInt8)]) = true by simpa using hc2)
          let t3 : Tp pr := .i (wrap_i64 (a := a * b) (by omega) (by omega))
          exact .tpe [t0, t1, t2, t3] (Out.val (V.tup [V.t (T.int IntKind.i64 (a * b)), V.t (T.int IntKind.i64 (0 : Int))]) []) (by kernel_rfl) ((congrArg (fun x => Out.val (V.tup [V.t (T.int IntKind.i64 x), V.t (T.int IntKind.i64 (0 : Int))]) []) (show (a * b) = ((do2 s.toList a b).fst) by grind [do2])).trans (congrArg (fun x => Out.val (V.tup [V.t (T.int IntKind.i64 (do2 s.toList a b).fst), V.t (T.int IntKind.i64 x)]) []) (show ((0 : Int)) = ((do2 s.toList a b).snd) by grind [do2])))
        · let t2 : Tp pr := .b (show (s.toList == [(42 : UInt8)]) = false by simpa using hc2)
          by_cases hc3 : s.toList = [(60 : UInt8)]
          · let t3 : Tp pr := .b (show (s.toList == [(60 : UInt8)]) = true by simpa using hc3)
            exact .tpe [t0, t1, t2, t3, .a (l2Truth_ev (decide (a < b)))] (Out.val (V.tup [V.t (T.int IntKind.i64 (tru (decide (a < b)))), V.t (T.int IntKind.i64 (0 : Int))]) []) (by kernel_rfl) ((congrArg (fun x => Out.val (V.tup [V.t (T.int IntKind.i64 x), V.t (T.int IntKind.i64 (0 : Int))]) []) (show (tru (decide (a < b))) = ((do2 s.toList a b).fst) by grind [do2])).trans (congrArg (fun x => Out.val (V.tup [V.t (T.int IntKind.i64 (do2 s.toList a b).fst), V.t (T.int IntKind.i64 x)]) []) (show ((0 : Int)) = ((do2 s.toList a b).snd) by grind [do2])))
          · let t3 : Tp pr := .b (show (s.toList == [(60 : UInt8)]) = false by simpa using hc3)
            by_cases hc4 : s.toList = [(60 : UInt8), (61 : UInt8)]
            · let t4 : Tp pr := .b (show (s.toList == [(60 : UInt8), (61 : UInt8)]) = true by simpa using hc4)
              exact .tpe [t0, t1, t2, t3, t4, .a (l2Truth_ev (decide (a ≤ b)))] (Out.val (V.tup [V.t (T.int IntKind.i64 (tru (decide (a ≤ b)))), V.t (T.int IntKind.i64 (0 : Int))]) []) (by kernel_rfl) ((congrArg (fun x => Out.val (V.tup [V.t (T.int IntKind.i64 x), V.t (T.int IntKind.i64 (0 : Int))]) []) (show (tru (decide (a ≤ b))) = ((do2 s.toList a b).fst) by grind [do2])).trans (congrArg (fun x => Out.val (V.tup [V.t (T.int IntKind.i64 (do2 s.toList a b).fst), V.t (T.int IntKind.i64 x)]) []) (show ((0 : Int)) = ((do2 s.toList a b).snd) by grind [do2])))
            · let t4 : Tp pr := .b (show (s.toList == [(60 : UInt8), (61 : UInt8)]) = false by simpa using hc4)
              by_cases hc5 : s.toList = [(61 : UInt8), (61 : UInt8)]
              · let t5 : Tp pr := .b (show (s.toList == [(61 : UInt8), (61 : UInt8)]) = true by simpa using hc5)
                exact .tpe [t0, t1, t2, t3, t4, t5, .a (l2Truth_ev (decide (a = b)))] (Out.val (V.tup [V.t (T.int IntKind.i64 (tru (decide (a = b)))), V.t (T.int IntKind.i64 (0 : Int))]) []) (by kernel_rfl) ((congrArg (fun x => Out.val (V.tup [V.t (T.int IntKind.i64 x), V.t (T.int IntKind.i64 (0 : Int))]) []) (show (tru (decide (a = b))) = ((do2 s.toList a b).fst) by grind [do2])).trans (congrArg (fun x => Out.val (V.tup [V.t (T.int IntKind.i64 (do2 s.toList a b).fst), V.t (T.int IntKind.i64 x)]) []) (show ((0 : Int)) = ((do2 s.toList a b).snd) by grind [do2])))
              · let t5 : Tp pr := .b (show (s.toList == [(61 : UInt8), (61 : UInt8)]) = false by simpa using hc5)
                by_cases hc6 : s.toList = [(33 : UInt8), (61 : UInt8)]
                · let t6 : Tp pr := .b (show (s.toList == [(33 : UInt8), (61 : UInt8)]) = true by simpa using hc6)
                  exact .tpe [t0, t1, t2, t3, t4, t5, t6, .a (l2Truth_ev (a != b))] (Out.val (V.tup [V.t (T.int IntKind.i64 (tru (a != b))), V.t (T.int IntKind.i64 (0 : Int))]) []) (by kernel_rfl) ((congrArg (fun x => Out.val (V.tup [V.t (T.int IntKind.i64 x), V.t (T.int IntKind.i64 (0 : Int))]) []) (show (tru (a != b)) = ((do2 s.toList a b).fst) by grind [do2])).trans (congrArg (fun x => Out.val (V.tup [V.t (T.int IntKind.i64 (do2 s.toList a b).fst), V.t (T.int IntKind.i64 x)]) []) (show ((0 : Int)) = ((do2 s.toList a b).snd) by grind [do2])))
                · let t6 : Tp pr := .b (show (s.toList == [(33 : UInt8), (61 : UInt8)]) = false by simpa using hc6)
                  by_cases hc7 : s.toList = [(60 : UInt8), (60 : UInt8)]
                  · let t7 : Tp pr := .b (show (s.toList == [(60 : UInt8), (60 : UInt8)]) = true by simpa using hc7)
                    let t8 : Tp pr := .a (l1In_ev (b) ((0 : Int)) ((20 : Int)))
                    let t9 : Tp pr := .b (show (!(decide (b ≥ (0 : Int)) && decide (b ≤ (20 : Int)))) = true by (simp; omega))
                    exact .tpe [t0, t1, t2, t3, t4, t5, t6, t7, t8, t9] (Out.val (V.tup [V.t (T.int IntKind.i64 (0 : Int)), V.t (T.int IntKind.i64 (3 : Int))]) []) (by kernel_rfl) ((congrArg (fun x => Out.val (V.tup [V.t (T.int IntKind.i64 x), V.t (T.int IntKind.i64 (3 : Int))]) []) (show ((0 : Int)) = ((do2 s.toList a b).fst) by grind [do2])).trans (congrArg (fun x => Out.val (V.tup [V.t (T.int IntKind.i64 (do2 s.toList a b).fst), V.t (T.int IntKind.i64 x)]) []) (show ((3 : Int)) = ((do2 s.toList a b).snd) by grind [do2])))
                  · let t7 : Tp pr := .b (show (s.toList == [(60 : UInt8), (60 : UInt8)]) = false by simpa using hc7)
                    let t8 : Tp pr := .b (show (decide (b = (0 : Int))) = false by (simp; omega))
                    by_cases hc9 : s.toList = [(47 : UInt8)]
                    · let t9 : Tp pr := .b (show (s.toList == [(47 : UInt8)]) = true by simpa using hc9)
                      let t10 : Tp pr := .m (show (decide (b ≠ (0 : Int))) = true by (simp; omega))
                      let t11 : Tp pr := .i (wrap_i64 (a := a.tdiv b) (by omega) (by omega))
                      exact .tpe [t0, t1, t2, t3, t4, t5, t6, t7, t8, t9, t10, t11] (Out.val (V.tup [V.t (T.int IntKind.i64 (a.tdiv b)), V.t (T.int IntKind.i64 (0 : Int))]) []) (by kernel_rfl) ((congrArg (fun x => Out.val (V.tup [V.t (T.int IntKind.i64 x), V.t (T.int IntKind.i64 (0 : Int))]) []) (show (a.tdiv b) = ((do2 s.toList a b).fst) by grind [do2])).trans (congrArg (fun x => Out.val (V.tup [V.t (T.int IntKind.i64 (do2 s.toList a b).fst), V.t (T.int IntKind.i64 x)]) []) (show ((0 : Int)) = ((do2 s.toList a b).snd) by grind [do2])))
                    · let t9 : Tp pr := .b (show (s.toList == [(47 : UInt8)]) = false by simpa using hc9)
                      let t10 : Tp pr := .m (show (decide (b ≠ (0 : Int))) = true by (simp; omega))
                      exact .tpe [t0, t1, t2, t3, t4, t5, t6, t7, t8, t9, t10, .i (rfl : (a.tmod b) = _)] (Out.val (V.tup [V.t (T.int IntKind.i64 (a.tmod b)), V.t (T.int IntKind.i64 (0 : Int))]) []) (by kernel_rfl) ((congrArg (fun x => Out.val (V.tup [V.t (T.int IntKind.i64 x), V.t (T.int IntKind.i64 (0 : Int))]) []) (show (a.tmod b) = ((do2 s.toList a b).fst) by grind [do2])).trans (congrArg (fun x => Out.val (V.tup [V.t (T.int IntKind.i64 (do2 s.toList a b).fst), V.t (T.int IntKind.i64 x)]) []) (show ((0 : Int)) = ((do2 s.toList a b).snd) by grind [do2])))
end Go.Ev

/- Locals: which are good; a copy of them. -/
namespace Go.Ev
set_option linter.unusedVariables false
set_option linter.unusedSimpArgs false
open Go.Proofs
set_option maxRecDepth 100000
set_option linter.unusedVariables false
set_option maxHeartbeats 1000000
theorem Clone_ev (l : List Int) (h : 0 < l.length) (h2 : l.length ≤ 1000000) : Ev pr (.call 65 [.t (.seq 1 (l.map intt))] []) (.val (.vec 0 l.length 1 0 l.length) [.vec true 1 (ints l)]) := by
  let t0 : Tp pr := .m (show (decide ((0 : Nat) < (List.map intt l).length)) = true by simp [*])
  let t2 : Tp pr := .m (show (decide ((0 : Nat) = (0 : Nat) ∧ (0 : Nat) ≤ (0 : Nat) ∧ (0 : Nat) + (List.map (fun x => List.map C.t x) (List.map intt l)).length ≤ (4294967296 : Nat))) = true by (simp; omega))
  by_cases hc3 : l = []
  · let t3 : Tp pr := .b (show (decide ((0 : Nat) + (List.map (fun x => List.map C.t x) (List.map intt l)).length ≤ (0 : Nat))) = true by simpa using hc3)
    let t4 : Tp pr := .c (show ((0 : Nat) + (List.map (fun x => List.map C.t x) (List.map intt l)).length : Nat) = l.length by simp)
    let t5 : Tp pr := .n .crows (show (([].append (List.map (fun x => List.map C.t x) (List.map intt l))).append (List.drop ((0 : Nat) + (List.map (fun x => List.map C.t x) (List.map intt l)).length) [])) = List.map ((fun x => List.map C.t x) ∘ intt) l by simp)
    exact .tpe [t0, .b (rfl : false = false), t2, t3, t4, t5] (Out.val (V.vec (0 : Nat) (0 : Nat) (1 : Nat) (0 : Nat) l.length) [Ob.vec true (1 : Nat) (List.map ((fun x => List.map C.t x) ∘ intt) l)]) (by kernel_rfl) ((congrArg (fun x => Out.val (V.vec (0 : Nat) x (1 : Nat) (0 : Nat) l.length) [Ob.vec true (1 : Nat) (List.map ((fun x => List.map C.t x) ∘ intt) l)]) (show ((0 : Nat)) = (l.length) by simp [*])).trans (congrArg (fun x => Out.val (V.vec (0 : Nat) l.length (1 : Nat) (0 : Nat) l.length) [Ob.vec true (1 : Nat) x]) (show (List.map ((fun x => List.map C.t x) ∘ intt) l) = (ints l) by rfl)))
  · let t3 : Tp pr := .b (show (decide ((0 : Nat) + (List.map (fun x => List.map C.t x) (List.map intt l)).length ≤ (0 : Nat))) = false by simpa using hc3)
    let t4 : Tp pr := .c (show ((0 : Nat) + (List.map (fun x => List.map C.t x) (List.map intt l)).length : Nat) = l.length by simp)
    let t5 : Tp pr := .n .crows (show ([].append (List.map (fun x => List.map C.t x) (List.map intt l))) = List.map ((fun x => List.map C.t x) ∘ intt) l by simp)
    exact .tp [t0, .b (rfl : false = false), t2, t3, t4, t5] (by kernel_rfl)
def bdB (n : Int) : Bool := decide (n ≥ -1000000000) && decide (n ≤ 1000000000)
theorem localF_ev (n : Int) : Ev pr (.call 85 [i64 n] []) (.val (bl (!bdB n)) []) := by
  let t0 : Tp pr := .a (within_ev (n) ((-1000000000 : Int)) ((1000000000 : Int)))
  exact .tp [t0] (by kernel_rfl)
theorem idxInt_ev (l : List Int) (hl : l.length ≤ 1048576) : ∀ (rest done : List Int) (i : Int), l = done ++ rest → i = done.length →
    Ev pr (.loop (lq pr 101 0) (at_ [(0, .t (.seq 1 (l.map intt))), (1, .t (.clo 85 [])), (7, i64 l.length), (8, i64 i)] [] 0))
      (if 0 ≤ idxFrom (fun x => !bdB x) i rest then .ret (at_ [(4, i64 (idxFrom (fun x => !bdB x) i rest))] [] 0) else .exit 0 (at_ [] [] 0))
  | [], done, i, h, hi => by
    have hll : (l.length : Int) = done.length := by simp [h]
    let t0 : Tp pr := .b (show (decide (i < (↑l.length : Int))) = false by (simp; omega))
    exact .tp [t0] (by kernel_rfl)
  | x :: rest, done, i, h, hi => by
    have hll : (l.length : Int) = done.length + 1 + rest.length := by simp [h]; omega
    have hg : lkp (l.map intt) i = some [T.int .i64 x] := by subst hi; subst h; simp [intt]
    have ih := idxInt_ev l hl rest (done ++ [x]) (i + 1) (by simp [h]) (by simp [hi])
    have hi0 : 0 ≤ i := by omega
    have hx := localF_ev x
    cases hb : bdB x with
    | false => rw [hb] at hx; (
      let t0 : Tp pr := .b (show (decide (i < (↑l.length : Int))) = true by (simp; omega))
      let t1 : Tp pr := .g .row (show (lkp (List.map intt l) i) = some ([T.int IntKind.i64 x]) from hg)
      exact .tpe [t0, t1, .a (hx), .b (rfl : true = true)] (Out.ret (at_ [((4 : Nat), V.t (T.int IntKind.i64 i))] [] (0 : Nat))) (by kernel_rfl) ((rfl).trans (show (Out.ret (at_ [((4 : Nat), V.t (T.int IntKind.i64 i))] [] (0 : Nat))) = if (0 : Int) ≤ idxFrom (fun x => !bdB x) i (x :: rest) then Out.ret (at_ [((4 : Nat), i64 (idxFrom (fun x => !bdB x) i (x :: rest)))] [] (0 : Nat)) else Out.exit (0 : Nat) (at_ [] [] (0 : Nat)) by simp [idxFrom, hb, hi0])))
    | true =>
      rw [hb] at hx
      have hI : idxFrom (fun x => !bdB x) i (x :: rest) = idxFrom (fun x => !bdB x) (i + 1) rest := by simp [idxFrom, hb]
      rw [hI]
      by_cases h0 : 0 ≤ idxFrom (fun x => !bdB x) (i + 1) rest
      · rw [if_pos h0] at ih ⊢; (
        let t0 : Tp pr := .b (show (decide (i < (↑l.length : Int))) = true by (simp; omega))
        let t1 : Tp pr := .g .row (show (lkp (List.map intt l) i) = some ([T.int IntKind.i64 x]) from hg)
        let t4 : Tp pr := .i (wrap_i64 (a := i + (1 : Int)) (by omega) (by omega))
        exact .tp [t0, t1, .a (hx), .b (rfl : false = false), t4, .a (ih)] (by kernel_rfl))
      · rw [if_neg h0] at ih ⊢; (
        let t0 : Tp pr := .b (show (decide (i < (↑l.length : Int))) = true by (simp; omega))
        let t1 : Tp pr := .g .row (show (lkp (List.map intt l) i) = some ([T.int IntKind.i64 x]) from hg)
        let t4 : Tp pr := .i (wrap_i64 (a := i + (1 : Int)) (by omega) (by omega))
        exact .tp [t0, t1, .a (hx), .b (rfl : false = false), t4, .a (ih)] (by kernel_rfl))
theorem idxInts_ev (l : List Int) (hl : l.length ≤ 1048576) : Ev pr (.call 101 [.t (.seq 1 (l.map intt)), .t (.clo 85 [])] []) (.val (i64 (idxFrom (fun x => !bdB x) 0 l)) []) := by
  have h := idxInt_ev l hl l [] 0 rfl rfl
  have h2 := idxFrom_neg (fun x => !bdB x) l 0 (Int.le_refl _)
  by_cases h0 : 0 ≤ idxFrom (fun x => !bdB x) 0 l
  · rw [if_pos h0] at h; (
    let t0 : Tp pr := .i (show ((↑(List.map intt l).length : Int) : Int) = (↑l.length : Int) by simp)
    exact .tp [t0, .a (h)] (by kernel_rfl))
  · rw [if_neg h0] at h; rw [h2 h0]; (
    let t0 : Tp pr := .i (show ((↑(List.map intt l).length : Int) : Int) = (↑l.length : Int) by simp)
    exact .tp [t0, .a (h)] (by kernel_rfl))
theorem anyInt_ev (l : List Int) (hl : l.length ≤ 1048576) : Ev pr (.call 84 [.t (.seq 1 (l.map intt)), .t (.clo 85 [])] []) (.val (bl (l.any fun x => !bdB x)) []) := by
  rw [← idxFrom_any (fun x => !bdB x) l 0 (by omega)]
  exact .tp [.a (idxInts_ev (l) (by assumption))] (by kernel_rfl)
def localsOk (l : List Int) : Bool := decide (l.length = 10) && l.all bdB
theorem localsOk_ev (l : List Int) (hl : l.length ≤ 1048576) : Ev pr (.call 64 [.t (.seq 1 (l.map intt))] []) (.val (bl (localsOk l)) []) := by
  have h := anyInt_ev l hl
  have e : (l.any fun x => !bdB x) = !l.all bdB := by simp [List.any_eq_not_all_not]
  rw [e] at h
  unfold localsOk
  let t0 : Tp pr := .i (show ((↑(List.map intt l).length : Int) : Int) = (↑l.length : Int) by simp)
  by_cases hc1 : (↑l.length : Int) = (10 : Int)
  · let t1 : Tp pr := .b (show (decide ((↑l.length : Int) = (10 : Int))) = true by simpa using hc1)
    exact .tpe [t0, t1, .a (h)] (Out.val (V.t (T.bool !!l.all bdB)) []) (by kernel_rfl) (congrArg (fun x => Out.val (V.t (T.bool x)) []) (show (!!l.all bdB) = (decide (l.length = (10 : Nat)) && l.all bdB) by (simp [*] <;> omega)))
  · let t1 : Tp pr := .b (show (decide ((↑l.length : Int) = (10 : Int))) = false by simpa using hc1)
    exact .tpe [t0, t1] (Out.val (V.t (T.bool false)) []) (by kernel_rfl) (congrArg (fun x => Out.val (V.t (T.bool x)) []) (show (false) = (decide (l.length = (10 : Nat)) && l.all bdB) by (simp [*] <;> omega)))
theorem endOf_ev (c : Int) : Ev pr (.call 68 [i64 c] []) (.val (i64 (endOf c)) []) := by
  by_cases hc0 : c = (2 : Int)
  · let t0 : Tp pr := .b (show (decide (c = (2 : Int))) = true by simpa using hc0)
    exact .tpe [t0] (Out.val (V.t (T.int IntKind.i64 (2 : Int))) []) (by kernel_rfl) (congrArg (fun x => Out.val (V.t (T.int IntKind.i64 x)) []) (show ((2 : Int)) = (endOf c) by grind [endOf]))
  · let t0 : Tp pr := .b (show (decide (c = (2 : Int))) = false by simpa using hc0)
    by_cases hc1 : c = (3 : Int)
    · let t1 : Tp pr := .b (show (decide (c = (3 : Int))) = true by simpa using hc1)
      exact .tpe [t0, t1] (Out.val (V.t (T.int IntKind.i64 (3 : Int))) []) (by kernel_rfl) (congrArg (fun x => Out.val (V.t (T.int IntKind.i64 x)) []) (show ((3 : Int)) = (endOf c) by grind [endOf]))
    · let t1 : Tp pr := .b (show (decide (c = (3 : Int))) = false by simpa using hc1)
      exact .tpe [t0, t1] (Out.val (V.t (T.int IntKind.i64 (0 : Int))) []) (by kernel_rfl) (congrArg (fun x => Out.val (V.t (T.int IntKind.i64 x)) []) (show ((0 : Int)) = (endOf c) by grind [endOf]))
end Go.Ev

/- Numbers of expressions of locals. -/
namespace Go.Ev
set_option linter.unusedVariables false
set_option linter.unusedSimpArgs false
open Go.Proofs
set_option maxRecDepth 100000
set_option linter.unusedVariables false
set_option maxHeartbeats 4000000
attribute [local simp] e0
theorem idxStrL_ev (l : List ByteArray) (s : ByteArray) (hl : l.length ≤ 1000) : ∀ (rest done : List ByteArray) (i : Int), l = done ++ rest → i = done.length →
    Ev pr (.loop (lq pr 86 0) (at_ [(0, .t (.seq 1 (l.map strt))), (1, .t (.str s)), (7, i64 l.length), (8, i64 i)] [] 0))
      (if 0 ≤ idxFrom (fun x : ByteArray => x.toList == s.toList) i rest then .ret (at_ [(4, i64 (idxFrom (fun x : ByteArray => x.toList == s.toList) i rest))] [] 0) else .exit 0 (at_ [] [] 0))
  | [], done, i, h, hi => by
    have hll : (l.length : Int) = done.length := by simp [h]
    let t0 : Tp pr := .b (show (decide (i < (↑l.length : Int))) = false by (simp; omega))
    exact .tp [t0] (by kernel_rfl)
  | x :: rest, done, i, h, hi => by
    have hll : (l.length : Int) = done.length + 1 + rest.length := by simp [h]; omega
    have hg : lkp (l.map strt) i = some [T.str x] := by subst hi; subst h; simp [strt]
    have ih := idxStrL_ev l s hl rest (done ++ [x]) (i + 1) (by simp [h]) (by simp [hi])
    have hi0 : 0 ≤ i := by omega
    cases hb : x.toList == s.toList with
    | true =>
      have hb2 := (BEq.comm (a := s.toList) (b := x.toList)).trans hb
      rw [show idxFrom (fun x : ByteArray => x.toList == s.toList) i (x :: rest) = i by simp only [idxFrom, hb, if_true], if_pos hi0]
      let t0 : Tp pr := .b (show (decide (i < (↑l.length : Int))) = true by (simp; omega))
      let t1 : Tp pr := .g .row (show (lkp (List.map strt l) i) = some ([T.str x]) from hg)
      let t2 : Tp pr := .b (show (s.toList == x.toList) = true by assumption)
      exact .tp [t0, t1, t2] (by kernel_rfl)
    | false =>
      have hb2 := (BEq.comm (a := s.toList) (b := x.toList)).trans hb
      have hI : idxFrom (fun x : ByteArray => x.toList == s.toList) i (x :: rest) = idxFrom (fun x : ByteArray => x.toList == s.toList) (i + 1) rest := by simp only [idxFrom, hb, Bool.false_eq_true, if_false]
      rw [hI]
      by_cases h0 : 0 ≤ idxFrom (fun x : ByteArray => x.toList == s.toList) (i + 1) rest
      · rw [if_pos h0] at ih ⊢; (
        let t0 : Tp pr := .b (show (decide (i < (↑l.length : Int))) = true by (simp; omega))
        let t1 : Tp pr := .g .row (show (lkp (List.map strt l) i) = some ([T.str x]) from hg)
        let t2 : Tp pr := .b (show (s.toList == x.toList) = false by assumption)
        let t3 : Tp pr := .i (wrap_i64 (a := i + (1 : Int)) (by omega) (by omega))
        exact .tp [t0, t1, t2, t3, .a (ih)] (by kernel_rfl))
      · rw [if_neg h0] at ih ⊢; (
        let t0 : Tp pr := .b (show (decide (i < (↑l.length : Int))) = true by (simp; omega))
        let t1 : Tp pr := .g .row (show (lkp (List.map strt l) i) = some ([T.str x]) from hg)
        let t2 : Tp pr := .b (show (s.toList == x.toList) = false by assumption)
        let t3 : Tp pr := .i (wrap_i64 (a := i + (1 : Int)) (by omega) (by omega))
        exact .tp [t0, t1, t2, t3, .a (ih)] (by kernel_rfl))
theorem idxStr_ev (l : List ByteArray) (s : ByteArray) (hl : l.length ≤ 1000) : Ev pr (.call 86 [.t (.seq 1 (l.map strt)), .t (.str s)] []) (.val (i64 (idxFrom (fun x : ByteArray => x.toList == s.toList) 0 l)) []) := by
  have h := idxStrL_ev l s hl l [] 0 rfl rfl
  have h2 := idxFrom_neg (fun x : ByteArray => x.toList == s.toList) l 0 (Int.le_refl _)
  by_cases h0 : 0 ≤ idxFrom (fun x : ByteArray => x.toList == s.toList) 0 l
  · rw [if_pos h0] at h; (
    let t0 : Tp pr := .i (show ((↑(List.map strt l).length : Int) : Int) = (↑l.length : Int) by simp)
    exact .tp [t0, .a (h)] (by kernel_rfl))
  · rw [if_neg h0] at h; rw [h2 h0]; (
    let t0 : Tp pr := .i (show ((↑(List.map strt l).length : Int) : Int) = (↑l.length : Int) by simp)
    exact .tp [t0, .a (h)] (by kernel_rfl))
theorem eval_ev (nms : List ByteArray) (hnl : nms.length ≤ 10) (hnm : ∀ s, 0 ≤ nameNo s → idxFrom (fun x : ByteArray => x.toList == s.toList) 0 nms = nameNo s) (lo : List Int) (h10 : lo.length = 10) (hlo : ∀ v ∈ lo, bd v) :
    ∀ (e : E), e.ok → e.names = true → Ev pr (.call 66 [.t e.tp, .t (.seq 1 (nms.map strt)), .t (.seq 1 (lo.map intt))] []) (.val (.tup [i64 (evalE (lval lo) e).1, i64 (evalE (lval lo) e).2]) [])
  | .num n, h, hn => by
    exact .tp [.b (rfl : true = true)] (by kernel_rfl)
  | .name s, h, hn => by
    have h0 : 0 ≤ nameNo s := by simpa [E.names] using hn
    have h9 := nameNo_lt s
    have hi := idxStr_ev nms s (by omega)
    rw [hnm s h0] at hi
    have hg : lkp (lo.map intt) (nameNo s) = some [T.int .i64 (lo.getD (nameNo s).toNat 0)] := by
      rw [lkp, if_pos h0]
      simp [List.getD_eq_getElem?_getD, intt, show (nameNo s).toNat < lo.length by omega]
    rw [show evalE (lval lo) (.name s) = (lo.getD (nameNo s).toNat 0, 0) from rfl]
    generalize lo.getD (nameNo s).toNat 0 = v at *
    let t3 : Tp pr := .b (show (decide (nameNo s < (0 : Int))) = false by (simp; omega))
    let t4 : Tp pr := .g .row (show (lkp (List.map intt lo) (nameNo s)) = some ([T.int IntKind.i64 v]) from hg)
    exact .tp [.b (rfl : false = false), .b (rfl : true = true), .a (hi), t3, t4] (by kernel_rfl)
  | .neg a, h, hn => by
    have ih := eval_ev nms hnl hnm lo h10 hlo a h hn
    have ha := evalE_bd (lval lo) (lval_bd hlo) a h
    by_cases hc3 : (evalE (lval lo) a).snd = (0 : Int)
    · let t3 : Tp pr := .b (show ((evalE (lval lo) a).snd != (0 : Int)) = false by simpa using hc3)
      let t5 : Tp pr := .i (wrap_i64 (a := (0 : Int) - (evalE (lval lo) a).fst) (by omega) (by omega))
      exact .tpe [.b (rfl : false = false), .b (rfl : false = false), .a (ih), t3, .b (rfl : true = true), t5] (Out.val (V.tup [V.t (T.int IntKind.i64 ((0 : Int) - (evalE (lval lo) a).fst)), V.t (T.int IntKind.i64 (0 : Int))]) []) (by kernel_rfl) ((congrArg (fun x => Out.val (V.tup [V.t (T.int IntKind.i64 x), V.t (T.int IntKind.i64 (0 : Int))]) []) (show ((0 : Int) - (evalE (lval lo) a).fst) = ((evalE (lval lo) a.neg).fst) by simp [evalE, *])).trans (congrArg (fun x => Out.val (V.tup [V.t (T.int IntKind.i64 (evalE (lval lo) a.neg).fst), V.t (T.int IntKind.i64 x)]) []) (show ((0 : Int)) = ((evalE (lval lo) a.neg).snd) by simp [evalE, *])))
    · let t3 : Tp pr := .b (show ((evalE (lval lo) a).snd != (0 : Int)) = true by simpa using hc3)
      exact .tpe [.b (rfl : false = false), .b (rfl : false = false), .a (ih), t3] (Out.val (V.tup [V.t (T.int IntKind.i64 (0 : Int)), V.t (T.int IntKind.i64 (evalE (lval lo) a).snd)]) []) (by kernel_rfl) ((congrArg (fun x => Out.val (V.tup [V.t (T.int IntKind.i64 x), V.t (T.int IntKind.i64 (evalE (lval lo) a).snd)]) []) (show ((0 : Int)) = ((evalE (lval lo) a.neg).fst) by simp [evalE, *])).trans (congrArg (fun x => Out.val (V.tup [V.t (T.int IntKind.i64 (evalE (lval lo) a.neg).fst), V.t (T.int IntKind.i64 x)]) []) (show ((evalE (lval lo) a).snd) = ((evalE (lval lo) a.neg).snd) by simp [evalE, *])))
  | .not a, h, hn => by
    have ih := eval_ev nms hnl hnm lo h10 hlo a h hn
    by_cases hc3 : (evalE (lval lo) a).snd = (0 : Int)
    · let t3 : Tp pr := .b (show ((evalE (lval lo) a).snd != (0 : Int)) = false by simpa using hc3)
      let t6 : Tp pr := .a (boolNum_ev (decide ((evalE (lval lo) a).fst = (0 : Int))))
      exact .tpe [.b (rfl : false = false), .b (rfl : false = false), .a (ih), t3, .b (rfl : false = false), .b (rfl : true = true), t6] (Out.val (V.tup [V.t (T.int IntKind.i64 (tru (decide ((evalE (lval lo) a).fst = (0 : Int))))), V.t (T.int IntKind.i64 (0 : Int))]) []) (by kernel_rfl) ((congrArg (fun x => Out.val (V.tup [V.t (T.int IntKind.i64 x), V.t (T.int IntKind.i64 (0 : Int))]) []) (show (tru (decide ((evalE (lval lo) a).fst = (0 : Int)))) = ((evalE (lval lo) a.not).fst) by simp [evalE, *])).trans (congrArg (fun x => Out.val (V.tup [V.t (T.int IntKind.i64 (evalE (lval lo) a.not).fst), V.t (T.int IntKind.i64 x)]) []) (show ((0 : Int)) = ((evalE (lval lo) a.not).snd) by simp [evalE, *])))
    · let t3 : Tp pr := .b (show ((evalE (lval lo) a).snd != (0 : Int)) = true by simpa using hc3)
      exact .tpe [.b (rfl : false = false), .b (rfl : false = false), .a (ih), t3] (Out.val (V.tup [V.t (T.int IntKind.i64 (0 : Int)), V.t (T.int IntKind.i64 (evalE (lval lo) a).snd)]) []) (by kernel_rfl) ((congrArg (fun x => Out.val (V.tup [V.t (T.int IntKind.i64 x), V.t (T.int IntKind.i64 (evalE (lval lo) a).snd)]) []) (show ((0 : Int)) = ((evalE (lval lo) a.not).fst) by simp [evalE, *])).trans (congrArg (fun x => Out.val (V.tup [V.t (T.int IntKind.i64 (evalE (lval lo) a.not).fst), V.t (T.int IntKind.i64 x)]) []) (show ((evalE (lval lo) a).snd) = ((evalE (lval lo) a.not).snd) by simp [evalE, *])))
  | .two s a b, h, hn => by
    simp only [E.names, Bool.and_eq_true] at hn
    have ih := eval_ev nms hnl hnm lo h10 hlo a h.2.1 hn.1
    have ih2 := eval_ev nms hnl hnm lo h10 hlo b h.2.2 hn.2
    have ha := evalE_bd (lval lo) (lval_bd hlo) a h.2.1
    have hb := evalE_bd (lval lo) (lval_bd hlo) b h.2.2
    rw [show E.tp (.two s a b) = .ptr [.int .i64 5, .int .i64 0, .str s, (E.two s a b).tab.1, (E.two s a b).tab.2] 0 from rfl]
    by_cases hc3 : (evalE (lval lo) a).snd = (0 : Int)
    · let t3 : Tp pr := .b (show ((evalE (lval lo) a).snd != (0 : Int)) = false by simpa using hc3)
      by_cases hc6 : s.toList = [(38 : UInt8), (38 : UInt8)]
      · let t6 : Tp pr := .b (show (s.toList == [(38 : UInt8), (38 : UInt8)]) = true by simpa using hc6)
        by_cases hc7 : (evalE (lval lo) a).fst = (0 : Int)
        · let t7 : Tp pr := .b (show (decide ((evalE (lval lo) a).fst = (0 : Int))) = true by simpa using hc7)
          exact .tpe [.b (rfl : false = false), .b (rfl : false = false), .a (ih), t3, .b (rfl : false = false), .b (rfl : false = false), t6, t7] (Out.val (V.tup [V.t (T.int IntKind.i64 (0 : Int)), V.t (T.int IntKind.i64 (0 : Int))]) []) (by kernel_rfl) ((congrArg (fun x => Out.val (V.tup [V.t (T.int IntKind.i64 x), V.t (T.int IntKind.i64 (0 : Int))]) []) (show ((0 : Int)) = ((evalE (lval lo) (E.two s a b)).fst) by grind [evalE, E.text])).trans (congrArg (fun x => Out.val (V.tup [V.t (T.int IntKind.i64 (evalE (lval lo) (E.two s a b)).fst), V.t (T.int IntKind.i64 x)]) []) (show ((0 : Int)) = ((evalE (lval lo) (E.two s a b)).snd) by grind [evalE, E.text])))
        · let t7 : Tp pr := .b (show (decide ((evalE (lval lo) a).fst = (0 : Int))) = false by simpa using hc7)
          let t8 : Tp pr := .b (show (s.toList == [(124 : UInt8), (124 : UInt8)]) = false by simp [*])
          by_cases hc11 : (evalE (lval lo) b).snd = (0 : Int)
          · let t11 : Tp pr := .b (show ((evalE (lval lo) b).snd != (0 : Int)) = false by simpa using hc11)
            let t12 : Tp pr := .b (show (s.toList == [(38 : UInt8), (38 : UInt8)]) = true by (simp; omega))
            let t14 : Tp pr := .a (boolNum_ev ((evalE (lval lo) b).fst != (0 : Int)))
            exact .tpe [.b (rfl : false = false), .b (rfl : false = false), .a (ih), t3, .b (rfl : false = false), .b (rfl : false = false), t6, t7, t8, .b (rfl : false = false), .a (ih2), t11, t12, .b (rfl : true = true), t14] (Out.val (V.tup [V.t (T.int IntKind.i64 (tru ((evalE (lval lo) b).fst != (0 : Int)))), V.t (T.int IntKind.i64 (0 : Int))]) []) (by kernel_rfl) ((congrArg (fun x => Out.val (V.tup [V.t (T.int IntKind.i64 x), V.t (T.int IntKind.i64 (0 : Int))]) []) (show (tru ((evalE (lval lo) b).fst != (0 : Int))) = ((evalE (lval lo) (E.two s a b)).fst) by grind [evalE, E.text])).trans (congrArg (fun x => Out.val (V.tup [V.t (T.int IntKind.i64 (evalE (lval lo) (E.two s a b)).fst), V.t (T.int IntKind.i64 x)]) []) (show ((0 : Int)) = ((evalE (lval lo) (E.two s a b)).snd) by grind [evalE, E.text])))
          · let t11 : Tp pr := .b (show ((evalE (lval lo) b).snd != (0 : Int)) = true by simpa using hc11)
            exact .tpe [.b (rfl : false = false), .b (rfl : false = false), .a (ih), t3, .b (rfl : false = false), .b (rfl : false = false), t6, t7, t8, .b (rfl : false = false), .a (ih2), t11] (Out.val (V.tup [V.t (T.int IntKind.i64 (0 : Int)), V.t (T.int IntKind.i64 (evalE (lval lo) b).snd)]) []) (by kernel_rfl) ((congrArg (fun x => Out.val (V.tup [V.t (T.int IntKind.i64 x), V.t (T.int IntKind.i64 (evalE (lval lo) b).snd)]) []) (show ((0 : Int)) = ((evalE (lval lo) (E.two s a b)).fst) by grind [evalE, E.text])).trans (congrArg (fun x => Out.val (V.tup [V.t (T.int IntKind.i64 (evalE (lval lo) (E.two s a b)).fst), V.t (T.int IntKind.i64 x)]) []) (show ((evalE (lval lo) b).snd) = ((evalE (lval lo) (E.two s a b)).snd) by grind [evalE, E.text])))
      · let t6 : Tp pr := .b (show (s.toList == [(38 : UInt8), (38 : UInt8)]) = false by simpa using hc6)
        by_cases hc8 : s.toList = [(124 : UInt8), (124 : UInt8)]
        · let t8 : Tp pr := .b (show (s.toList == [(124 : UInt8), (124 : UInt8)]) = true by simpa using hc8)
          by_cases hc9 : (evalE (lval lo) a).fst = (0 : Int)
          · let t9 : Tp pr := .b (show ((evalE (lval lo) a).fst != (0 : Int)) = false by simpa using hc9)
            by_cases hc11 : (evalE (lval lo) b).snd = (0 : Int)
            · let t11 : Tp pr := .b (show ((evalE (lval lo) b).snd != (0 : Int)) = false by simpa using hc11)
              let t12 : Tp pr := .b (show (s.toList == [(38 : UInt8), (38 : UInt8)]) = false by (simp; omega))
              let t13 : Tp pr := .b (show (s.toList == [(124 : UInt8), (124 : UInt8)]) = true by (simp; omega))
              let t14 : Tp pr := .a (boolNum_ev ((evalE (lval lo) b).fst != (0 : Int)))
              exact .tpe [.b (rfl : false = false), .b (rfl : false = false), .a (ih), t3, .b (rfl : false = false), .b (rfl : false = false), t6, .b (rfl : false = false), t8, t9, .a (ih2), t11, t12, t13, t14] (Out.val (V.tup [V.t (T.int IntKind.i64 (tru ((evalE (lval lo) b).fst != (0 : Int)))), V.t (T.int IntKind.i64 (0 : Int))]) []) (by kernel_rfl) ((congrArg (fun x => Out.val (V.tup [V.t (T.int IntKind.i64 x), V.t (T.int IntKind.i64 (0 : Int))]) []) (show (tru ((evalE (lval lo) b).fst != (0 : Int))) = ((evalE (lval lo) (E.two s a b)).fst) by grind [evalE, E.text])).trans (congrArg (fun x => Out.val (V.tup [V.t (T.int IntKind.i64 (evalE (lval lo) (E.two s a b)).fst), V.t (T.int IntKind.i64 x)]) []) (show ((0 : Int)) = ((evalE (lval lo) (E.two s a b)).snd) by grind [evalE, E.text])))
            · let t11 : Tp pr := .b (show ((evalE (lval lo) b).snd != (0 : Int)) = true by simpa using hc11)
              exact .tpe [.b (rfl : false = false), .b (rfl : false = false), .a (ih), t3, .b (rfl : false = false), .b (rfl : false = false), t6, .b (rfl : false = false), t8, t9, .a (ih2), t11] (Out.val (V.tup [V.t (T.int IntKind.i64 (0 : Int)), V.t (T.int IntKind.i64 (evalE (lval lo) b).snd)]) []) (by kernel_rfl) ((congrArg (fun x => Out.val (V.tup [V.t (T.int IntKind.i64 x), V.t (T.int IntKind.i64 (evalE (lval lo) b).snd)]) []) (show ((0 : Int)) = ((evalE (lval lo) (E.two s a b)).fst) by grind [evalE, E.text])).trans (congrArg (fun x => Out.val (V.tup [V.t (T.int IntKind.i64 (evalE (lval lo) (E.two s a b)).fst), V.t (T.int IntKind.i64 x)]) []) (show ((evalE (lval lo) b).snd) = ((evalE (lval lo) (E.two s a b)).snd) by grind [evalE, E.text])))
          · let t9 : Tp pr := .b (show ((evalE (lval lo) a).fst != (0 : Int)) = true by simpa using hc9)
            exact .tpe [.b (rfl : false = false), .b (rfl : false = false), .a (ih), t3, .b (rfl : false = false), .b (rfl : false = false), t6, .b (rfl : false = false), t8, t9] (Out.val (V.tup [V.t (T.int IntKind.i64 (1 : Int)), V.t (T.int IntKind.i64 (0 : Int))]) []) (by kernel_rfl) ((congrArg (fun x => Out.val (V.tup [V.t (T.int IntKind.i64 x), V.t (T.int IntKind.i64 (0 : Int))]) []) (show ((1 : Int)) = ((evalE (lval lo) (E.two s a b)).fst) by grind [evalE, E.text])).trans (congrArg (fun x => Out.val (V.tup [V.t (T.int IntKind.i64 (evalE (lval lo) (E.two s a b)).fst), V.t (T.int IntKind.i64 x)]) []) (show ((0 : Int)) = ((evalE (lval lo) (E.two s a b)).snd) by grind [evalE, E.text])))
        · let t8 : Tp pr := .b (show (s.toList == [(124 : UInt8), (124 : UInt8)]) = false by simpa using hc8)
          by_cases hc11 : (evalE (lval lo) b).snd = (0 : Int)
          · let t11 : Tp pr := .b (show ((evalE (lval lo) b).snd != (0 : Int)) = false by simpa using hc11)
            let t12 : Tp pr := .b (show (s.toList == [(38 : UInt8), (38 : UInt8)]) = false by (simp; omega))
            let t13 : Tp pr := .b (show (s.toList == [(124 : UInt8), (124 : UInt8)]) = false by (simp; omega))
            let t14 : Tp pr := .a (two_ev (s) ((evalE (lval lo) a).fst) ((evalE (lval lo) b).fst) (by omega) (by omega) (by omega) (by omega))
            exact .tpe [.b (rfl : false = false), .b (rfl : false = false), .a (ih), t3, .b (rfl : false = false), .b (rfl : false = false), t6, .b (rfl : false = false), t8, .b (rfl : false = false), .a (ih2), t11, t12, t13, t14] (Out.val (V.tup [V.t (T.int IntKind.i64 (two2 s.toList (evalE (lval lo) a).fst (evalE (lval lo) b).fst).fst), V.t (T.int IntKind.i64 (two2 s.toList (evalE (lval lo) a).fst (evalE (lval lo) b).fst).snd)]) []) (by kernel_rfl) ((congrArg (fun x => Out.val (V.tup [V.t (T.int IntKind.i64 x), V.t (T.int IntKind.i64 (two2 s.toList (evalE (lval lo) a).fst (evalE (lval lo) b).fst).snd)]) []) (show ((two2 s.toList (evalE (lval lo) a).fst (evalE (lval lo) b).fst).fst) = ((evalE (lval lo) (E.two s a b)).fst) by grind [evalE, E.text])).trans (congrArg (fun x => Out.val (V.tup [V.t (T.int IntKind.i64 (evalE (lval lo) (E.two s a b)).fst), V.t (T.int IntKind.i64 x)]) []) (show ((two2 s.toList (evalE (lval lo) a).fst (evalE (lval lo) b).fst).snd) = ((evalE (lval lo) (E.two s a b)).snd) by grind [evalE, E.text])))
          · let t11 : Tp pr := .b (show ((evalE (lval lo) b).snd != (0 : Int)) = true by simpa using hc11)
            exact .tpe [.b (rfl : false = false), .b (rfl : false = false), .a (ih), t3, .b (rfl : false = false), .b (rfl : false = false), t6, .b (rfl : false = false), t8, .b (rfl : false = false), .a (ih2), t11] (Out.val (V.tup [V.t (T.int IntKind.i64 (0 : Int)), V.t (T.int IntKind.i64 (evalE (lval lo) b).snd)]) []) (by kernel_rfl) ((congrArg (fun x => Out.val (V.tup [V.t (T.int IntKind.i64 x), V.t (T.int IntKind.i64 (evalE (lval lo) b).snd)]) []) (show ((0 : Int)) = ((evalE (lval lo) (E.two s a b)).fst) by grind [evalE, E.text])).trans (congrArg (fun x => Out.val (V.tup [V.t (T.int IntKind.i64 (evalE (lval lo) (E.two s a b)).fst), V.t (T.int IntKind.i64 x)]) []) (show ((evalE (lval lo) b).snd) = ((evalE (lval lo) (E.two s a b)).snd) by grind [evalE, E.text])))
    · let t3 : Tp pr := .b (show ((evalE (lval lo) a).snd != (0 : Int)) = true by simpa using hc3)
      exact .tpe [.b (rfl : false = false), .b (rfl : false = false), .a (ih), t3] (Out.val (V.tup [V.t (T.int IntKind.i64 (0 : Int)), V.t (T.int IntKind.i64 (evalE (lval lo) a).snd)]) []) (by kernel_rfl) ((congrArg (fun x => Out.val (V.tup [V.t (T.int IntKind.i64 x), V.t (T.int IntKind.i64 (evalE (lval lo) a).snd)]) []) (show ((0 : Int)) = ((evalE (lval lo) (E.two s a b)).fst) by grind [evalE, E.text])).trans (congrArg (fun x => Out.val (V.tup [V.t (T.int IntKind.i64 (evalE (lval lo) (E.two s a b)).fst), V.t (T.int IntKind.i64 x)]) []) (show ((evalE (lval lo) a).snd) = ((evalE (lval lo) (E.two s a b)).snd) by grind [evalE, E.text])))
theorem l2EvalL_ev (nms : List ByteArray) (hnl : nms.length ≤ 10) (lo : List Int) (h10 : lo.length = 10) (s : ByteArray) : ∀ (rest done : List ByteArray) (i : Int), nms = done ++ rest → i = done.length → 0 ≤ idxFrom (fun x : ByteArray => x.toList == s.toList) i rest →
    Ev pr (.loop (lq pr 79 0) (at_ [(2, .t (.seq 1 (lo.map intt))), (3, .ptr 0 1 0 0), (24, .t (.seq 1 (nms.map strt))), (25, i64 nms.length), (26, i64 i)] [.box [i64 2, i64 0, .t (.str s), .t (.seq 4 [])]] 0))
      (.ret (at_ [(6, i64 (lo.getD (idxFrom (fun x : ByteArray => x.toList == s.toList) i rest).toNat 0)), (7, i64 0)] [] 0))
  | [], done, i, h, hi, hp => by simp [idxFrom] at hp
  | x :: rest, done, i, h, hi, hp => by
    have hll : (nms.length : Int) = done.length + 1 + rest.length := by simp [h]; omega
    have hg : lkp (nms.map strt) i = some [T.str x] := by subst hi; subst h; simp [strt]
    have hi0 : 0 ≤ i := by omega
    cases hb : x.toList == s.toList with
    | true =>
      rw [show idxFrom (fun x : ByteArray => x.toList == s.toList) i (x :: rest) = i by simp only [idxFrom, hb, if_true]]
      have hg2 : lkp (lo.map intt) i = some [T.int .i64 (lo.getD i.toNat 0)] := by
        rw [lkp, if_pos hi0]
        simp [List.getD_eq_getElem?_getD, intt, show i.toNat < lo.length by omega]
      generalize lo.getD i.toNat 0 = v at *
      let t0 : Tp pr := .b (show (decide (i < (↑nms.length : Int))) = true by (simp; omega))
      let t1 : Tp pr := .g .row (show (lkp (List.map strt nms) i) = some ([T.str x]) from hg)
      let t2 : Tp pr := .b (show (x.toList == s.toList) = true by assumption)
      let t3 : Tp pr := .g .row (show (lkp (List.map intt lo) i) = some ([T.int IntKind.i64 v]) from hg2)
      exact .tp [t0, t1, t2, t3] (by kernel_rfl)
    | false =>
      have hI : idxFrom (fun x : ByteArray => x.toList == s.toList) i (x :: rest) = idxFrom (fun x : ByteArray => x.toList == s.toList) (i + 1) rest := by simp only [idxFrom, hb, Bool.false_eq_true, if_false]
      rw [hI] at hp ⊢
      have ih := l2EvalL_ev nms hnl lo h10 s rest (done ++ [x]) (i + 1) (by simp [h]) (by simp [hi]) hp
      let t0 : Tp pr := .b (show (decide (i < (↑nms.length : Int))) = true by (simp; omega))
      let t1 : Tp pr := .g .row (show (lkp (List.map strt nms) i) = some ([T.str x]) from hg)
      let t2 : Tp pr := .b (show (x.toList == s.toList) = false by assumption)
      let t3 : Tp pr := .i (wrap_i64 (a := i + (1 : Int)) (by omega) (by omega))
      exact .tp [t0, t1, t2, t3, .a (ih)] (by kernel_rfl)
theorem l2Eval_ev (nms : List ByteArray) (hnl : nms.length ≤ 10) (hnm : ∀ s, 0 ≤ nameNo s → idxFrom (fun x : ByteArray => x.toList == s.toList) 0 nms = nameNo s) (lo : List Int) (h10 : lo.length = 10) (hlo : ∀ v ∈ lo, bd v) :
    ∀ (e : E), e.ok → e.names = true → Ev pr (.call 79 [vs e.ts, .t (.seq 1 (nms.map strt)), .t (.seq 1 (lo.map intt))] []) (.val (.tup [i64 (evalE (lval lo) e).1, i64 (evalE (lval lo) e).2]) [])
  | .num n, h, hn => by
    exact .tp [.b (rfl : true = true)] (by kernel_rfl)
  | .name s, h, hn => by
    have h0 : 0 ≤ nameNo s := by simpa [E.names] using hn
    have h9 := nameNo_lt s
    have hL := l2EvalL_ev nms hnl lo h10 s nms [] 0 rfl rfl (by rw [hnm s h0]; exact h0)
    rw [hnm s h0] at hL
    rw [show evalE (lval lo) (.name s) = (lo.getD (nameNo s).toNat 0, 0) from rfl]
    generalize lo.getD (nameNo s).toNat 0 = v at *
    let t2 : Tp pr := .i (show ((↑(List.map strt nms).length : Int) : Int) = (↑nms.length : Int) by simp)
    exact .tp [.b (rfl : false = false), .b (rfl : true = true), t2, .a (hL)] (by kernel_rfl)
  | .neg a, h, hn => by
    have g0 : lkp (E.neg a).kids 0 = some a.ts := rfl
    have ih := l2Eval_ev nms hnl hnm lo h10 hlo a h hn
    have ha := evalE_bd (lval lo) (lval_bd hlo) a h
    let t2 : Tp pr := .g .row (show (lkp a.neg.kids (0 : Int)) = some (a.ts) from g0)
    by_cases hc4 : (evalE (lval lo) a).snd = (0 : Int)
    · let t4 : Tp pr := .b (show ((evalE (lval lo) a).snd != (0 : Int)) = false by simpa using hc4)
      let t6 : Tp pr := .i (wrap_i64 (a := (0 : Int) - (evalE (lval lo) a).fst) (by omega) (by omega))
      exact .tpe [.b (rfl : false = false), .b (rfl : false = false), t2, .a (ih), t4, .b (rfl : true = true), t6] (Out.val (V.tup [V.t (T.int IntKind.i64 ((0 : Int) - (evalE (lval lo) a).fst)), V.t (T.int IntKind.i64 (0 : Int))]) []) (by kernel_rfl) ((congrArg (fun x => Out.val (V.tup [V.t (T.int IntKind.i64 x), V.t (T.int IntKind.i64 (0 : Int))]) []) (show ((0 : Int) - (evalE (lval lo) a).fst) = ((evalE (lval lo) a.neg).fst) by simp [evalE, *])).trans (congrArg (fun x => Out.val (V.tup [V.t (T.int IntKind.i64 (evalE (lval lo) a.neg).fst), V.t (T.int IntKind.i64 x)]) []) (show ((0 : Int)) = ((evalE (lval lo) a.neg).snd) by simp [evalE, *])))
    · let t4 : Tp pr := .b (show ((evalE (lval lo) a).snd != (0 : Int)) = true by simpa using hc4)
      exact .tpe [.b (rfl : false = false), .b (rfl : false = false), t2, .a (ih), t4] (Out.val (V.tup [V.t (T.int IntKind.i64 (0 : Int)), V.t (T.int IntKind.i64 (evalE (lval lo) a).snd)]) []) (by kernel_rfl) ((congrArg (fun x => Out.val (V.tup [V.t (T.int IntKind.i64 x), V.t (T.int IntKind.i64 (evalE (lval lo) a).snd)]) []) (show ((0 : Int)) = ((evalE (lval lo) a.neg).fst) by simp [evalE, *])).trans (congrArg (fun x => Out.val (V.tup [V.t (T.int IntKind.i64 (evalE (lval lo) a.neg).fst), V.t (T.int IntKind.i64 x)]) []) (show ((evalE (lval lo) a).snd) = ((evalE (lval lo) a.neg).snd) by simp [evalE, *])))
  | .not a, h, hn => by
    have g0 : lkp (E.not a).kids 0 = some a.ts := rfl
    have ih := l2Eval_ev nms hnl hnm lo h10 hlo a h hn
    let t2 : Tp pr := .g .row (show (lkp a.not.kids (0 : Int)) = some (a.ts) from g0)
    by_cases hc4 : (evalE (lval lo) a).snd = (0 : Int)
    · let t4 : Tp pr := .b (show ((evalE (lval lo) a).snd != (0 : Int)) = false by simpa using hc4)
      let t7 : Tp pr := .a (l2Truth_ev (decide ((evalE (lval lo) a).fst = (0 : Int))))
      exact .tpe [.b (rfl : false = false), .b (rfl : false = false), t2, .a (ih), t4, .b (rfl : false = false), .b (rfl : true = true), t7] (Out.val (V.tup [V.t (T.int IntKind.i64 (tru (decide ((evalE (lval lo) a).fst = (0 : Int))))), V.t (T.int IntKind.i64 (0 : Int))]) []) (by kernel_rfl) ((congrArg (fun x => Out.val (V.tup [V.t (T.int IntKind.i64 x), V.t (T.int IntKind.i64 (0 : Int))]) []) (show (tru (decide ((evalE (lval lo) a).fst = (0 : Int)))) = ((evalE (lval lo) a.not).fst) by simp [evalE, *])).trans (congrArg (fun x => Out.val (V.tup [V.t (T.int IntKind.i64 (evalE (lval lo) a.not).fst), V.t (T.int IntKind.i64 x)]) []) (show ((0 : Int)) = ((evalE (lval lo) a.not).snd) by simp [evalE, *])))
    · let t4 : Tp pr := .b (show ((evalE (lval lo) a).snd != (0 : Int)) = true by simpa using hc4)
      exact .tpe [.b (rfl : false = false), .b (rfl : false = false), t2, .a (ih), t4] (Out.val (V.tup [V.t (T.int IntKind.i64 (0 : Int)), V.t (T.int IntKind.i64 (evalE (lval lo) a).snd)]) []) (by kernel_rfl) ((congrArg (fun x => Out.val (V.tup [V.t (T.int IntKind.i64 x), V.t (T.int IntKind.i64 (evalE (lval lo) a).snd)]) []) (show ((0 : Int)) = ((evalE (lval lo) a.not).fst) by simp [evalE, *])).trans (congrArg (fun x => Out.val (V.tup [V.t (T.int IntKind.i64 (evalE (lval lo) a.not).fst), V.t (T.int IntKind.i64 x)]) []) (show ((evalE (lval lo) a).snd) = ((evalE (lval lo) a.not).snd) by simp [evalE, *])))
  | .two s a b, h, hn => by
    have g0 : lkp (E.two s a b).kids 0 = some a.ts := rfl
    have g1 : lkp (E.two s a b).kids 1 = some b.ts := rfl
    simp only [E.names, Bool.and_eq_true] at hn
    have ih := l2Eval_ev nms hnl hnm lo h10 hlo a h.2.1 hn.1
    have ih2 := l2Eval_ev nms hnl hnm lo h10 hlo b h.2.2 hn.2
    have ha := evalE_bd (lval lo) (lval_bd hlo) a h.2.1
    have hb := evalE_bd (lval lo) (lval_bd hlo) b h.2.2
    have hd : s.toList ≠ [38, 38] → s.toList ≠ [124, 124] → two2 s.toList (evalE (lval lo) a).1 (evalE (lval lo) b).1 = outB (do2 s.toList (evalE (lval lo) a).1 (evalE (lval lo) b).1) := fun h1 h2 => do2_two _ _ _ h.1 h1 h2 ha.1 ha.2
    rw [show (E.two s a b).ts = [.int .i64 5, .int .i64 0, .str s, .seq 4 (E.two s a b).kids] from rfl]
    let t2 : Tp pr := .g .row (show (lkp (E.two s a b).kids (0 : Int)) = some (a.ts) from g0)
    by_cases hc4 : (evalE (lval lo) a).snd = (0 : Int)
    · let t4 : Tp pr := .b (show ((evalE (lval lo) a).snd != (0 : Int)) = false by simpa using hc4)
      by_cases hc7 : s.toList = [(38 : UInt8), (38 : UInt8)]
      · let t7 : Tp pr := .b (show (s.toList == [(38 : UInt8), (38 : UInt8)]) = true by simpa using hc7)
        by_cases hc8 : (evalE (lval lo) a).fst = (0 : Int)
        · let t8 : Tp pr := .b (show (decide ((evalE (lval lo) a).fst = (0 : Int))) = true by simpa using hc8)
          exact .tpe [.b (rfl : false = false), .b (rfl : false = false), t2, .a (ih), t4, .b (rfl : false = false), .b (rfl : false = false), t7, t8] (Out.val (V.tup [V.t (T.int IntKind.i64 (0 : Int)), V.t (T.int IntKind.i64 (0 : Int))]) []) (by kernel_rfl) ((congrArg (fun x => Out.val (V.tup [V.t (T.int IntKind.i64 x), V.t (T.int IntKind.i64 (0 : Int))]) []) (show ((0 : Int)) = ((evalE (lval lo) (E.two s a b)).fst) by grind [evalE, E.text, outB])).trans (congrArg (fun x => Out.val (V.tup [V.t (T.int IntKind.i64 (evalE (lval lo) (E.two s a b)).fst), V.t (T.int IntKind.i64 x)]) []) (show ((0 : Int)) = ((evalE (lval lo) (E.two s a b)).snd) by grind [evalE, E.text, outB])))
        · let t8 : Tp pr := .b (show (decide ((evalE (lval lo) a).fst = (0 : Int))) = false by simpa using hc8)
          let t9 : Tp pr := .b (show (s.toList == [(124 : UInt8), (124 : UInt8)]) = false by simp [*])
          let t11 : Tp pr := .g .row (show (lkp (E.two s a b).kids (1 : Int)) = some (b.ts) from g1)
          by_cases hc13 : (evalE (lval lo) b).snd = (0 : Int)
          · let t13 : Tp pr := .b (show ((evalE (lval lo) b).snd != (0 : Int)) = false by simpa using hc13)
            let t14 : Tp pr := .b (show (s.toList == [(38 : UInt8), (38 : UInt8)]) = true by (simp; omega))
            let t16 : Tp pr := .a (l2Truth_ev ((evalE (lval lo) b).fst != (0 : Int)))
            exact .tpe [.b (rfl : false = false), .b (rfl : false = false), t2, .a (ih), t4, .b (rfl : false = false), .b (rfl : false = false), t7, t8, t9, .b (rfl : false = false), t11, .a (ih2), t13, t14, .b (rfl : true = true), t16] (Out.val (V.tup [V.t (T.int IntKind.i64 (tru ((evalE (lval lo) b).fst != (0 : Int)))), V.t (T.int IntKind.i64 (0 : Int))]) []) (by kernel_rfl) ((congrArg (fun x => Out.val (V.tup [V.t (T.int IntKind.i64 x), V.t (T.int IntKind.i64 (0 : Int))]) []) (show (tru ((evalE (lval lo) b).fst != (0 : Int))) = ((evalE (lval lo) (E.two s a b)).fst) by grind [evalE, E.text, outB])).trans (congrArg (fun x => Out.val (V.tup [V.t (T.int IntKind.i64 (evalE (lval lo) (E.two s a b)).fst), V.t (T.int IntKind.i64 x)]) []) (show ((0 : Int)) = ((evalE (lval lo) (E.two s a b)).snd) by grind [evalE, E.text, outB])))
          · let t13 : Tp pr := .b (show ((evalE (lval lo) b).snd != (0 : Int)) = true by simpa using hc13)
            exact .tpe [.b (rfl : false = false), .b (rfl : false = false), t2, .a (ih), t4, .b (rfl : false = false), .b (rfl : false = false), t7, t8, t9, .b (rfl : false = false), t11, .a (ih2), t13] (Out.val (V.tup [V.t (T.int IntKind.i64 (0 : Int)), V.t (T.int IntKind.i64 (evalE (lval lo) b).snd)]) []) (by kernel_rfl) ((congrArg (fun x => Out.val (V.tup [V.t (T.int IntKind.i64 x), V.t (T.int IntKind.i64 (evalE (lval lo) b).snd)]) []) (show ((0 : Int)) = ((evalE (lval lo) (E.two s a b)).fst) by grind [evalE, E.text, outB])).trans (congrArg (fun x => Out.val (V.tup [V.t (T.int IntKind.i64 (evalE (lval lo) (E.two s a b)).fst), V.t (T.int IntKind.i64 x)]) []) (show ((evalE (lval lo) b).snd) = ((evalE (lval lo) (E.two s a b)).snd) by grind [evalE, E.text, outB])))
      · let t7 : Tp pr := .b (show (s.toList == [(38 : UInt8), (38 : UInt8)]) = false by simpa using hc7)
        by_cases hc9 : s.toList = [(124 : UInt8), (124 : UInt8)]
        · let t9 : Tp pr := .b (show (s.toList == [(124 : UInt8), (124 : UInt8)]) = true by simpa using hc9)
          by_cases hc10 : (evalE (lval lo) a).fst = (0 : Int)
          · let t10 : Tp pr := .b (show ((evalE (lval lo) a).fst != (0 : Int)) = false by simpa using hc10)
            let t11 : Tp pr := .g .row (show (lkp (E.two s a b).kids (1 : Int)) = some (b.ts) from g1)
            by_cases hc13 : (evalE (lval lo) b).snd = (0 : Int)
            · let t13 : Tp pr := .b (show ((evalE (lval lo) b).snd != (0 : Int)) = false by simpa using hc13)
              let t14 : Tp pr := .b (show (s.toList == [(38 : UInt8), (38 : UInt8)]) = false by (simp; omega))
              let t15 : Tp pr := .b (show (s.toList == [(124 : UInt8), (124 : UInt8)]) = true by (simp; omega))
              let t16 : Tp pr := .a (l2Truth_ev ((evalE (lval lo) b).fst != (0 : Int)))
              exact .tpe [.b (rfl : false = false), .b (rfl : false = false), t2, .a (ih), t4, .b (rfl : false = false), .b (rfl : false = false), t7, .b (rfl : false = false), t9, t10, t11, .a (ih2), t13, t14, t15, t16] (Out.val (V.tup [V.t (T.int IntKind.i64 (tru ((evalE (lval lo) b).fst != (0 : Int)))), V.t (T.int IntKind.i64 (0 : Int))]) []) (by kernel_rfl) ((congrArg (fun x => Out.val (V.tup [V.t (T.int IntKind.i64 x), V.t (T.int IntKind.i64 (0 : Int))]) []) (show (tru ((evalE (lval lo) b).fst != (0 : Int))) = ((evalE (lval lo) (E.two s a b)).fst) by grind [evalE, E.text, outB])).trans (congrArg (fun x => Out.val (V.tup [V.t (T.int IntKind.i64 (evalE (lval lo) (E.two s a b)).fst), V.t (T.int IntKind.i64 x)]) []) (show ((0 : Int)) = ((evalE (lval lo) (E.two s a b)).snd) by grind [evalE, E.text, outB])))
            · let t13 : Tp pr := .b (show ((evalE (lval lo) b).snd != (0 : Int)) = true by simpa using hc13)
              exact .tpe [.b (rfl : false = false), .b (rfl : false = false), t2, .a (ih), t4, .b (rfl : false = false), .b (rfl : false = false), t7, .b (rfl : false = false), t9, t10, t11, .a (ih2), t13] (Out.val (V.tup [V.t (T.int IntKind.i64 (0 : Int)), V.t (T.int IntKind.i64 (evalE (lval lo) b).snd)]) []) (by kernel_rfl) ((congrArg (fun x => Out.val (V.tup [V.t (T.int IntKind.i64 x), V.t (T.int IntKind.i64 (evalE (lval lo) b).snd)]) []) (show ((0 : Int)) = ((evalE (lval lo) (E.two s a b)).fst) by grind [evalE, E.text, outB])).trans (congrArg (fun x => Out.val (V.tup [V.t (T.int IntKind.i64 (evalE (lval lo) (E.two s a b)).fst), V.t (T.int IntKind.i64 x)]) []) (show ((evalE (lval lo) b).snd) = ((evalE (lval lo) (E.two s a b)).snd) by grind [evalE, E.text, outB])))
          · let t10 : Tp pr := .b (show ((evalE (lval lo) a).fst != (0 : Int)) = true by simpa using hc10)
            exact .tpe [.b (rfl : false = false), .b (rfl : false = false), t2, .a (ih), t4, .b (rfl : false = false), .b (rfl : false = false), t7, .b (rfl : false = false), t9, t10] (Out.val (V.tup [V.t (T.int IntKind.i64 (1 : Int)), V.t (T.int IntKind.i64 (0 : Int))]) []) (by kernel_rfl) ((congrArg (fun x => Out.val (V.tup [V.t (T.int IntKind.i64 x), V.t (T.int IntKind.i64 (0 : Int))]) []) (show ((1 : Int)) = ((evalE (lval lo) (E.two s a b)).fst) by grind [evalE, E.text, outB])).trans (congrArg (fun x => Out.val (V.tup [V.t (T.int IntKind.i64 (evalE (lval lo) (E.two s a b)).fst), V.t (T.int IntKind.i64 x)]) []) (show ((0 : Int)) = ((evalE (lval lo) (E.two s a b)).snd) by grind [evalE, E.text, outB])))
        · let t9 : Tp pr := .b (show (s.toList == [(124 : UInt8), (124 : UInt8)]) = false by simpa using hc9)
          let t11 : Tp pr := .g .row (show (lkp (E.two s a b).kids (1 : Int)) = some (b.ts) from g1)
          by_cases hc13 : (evalE (lval lo) b).snd = (0 : Int)
          · let t13 : Tp pr := .b (show ((evalE (lval lo) b).snd != (0 : Int)) = false by simpa using hc13)
            let t14 : Tp pr := .b (show (s.toList == [(38 : UInt8), (38 : UInt8)]) = false by (simp; omega))
            let t15 : Tp pr := .b (show (s.toList == [(124 : UInt8), (124 : UInt8)]) = false by (simp; omega))
            let t16 : Tp pr := .a (l2Do_ev (s) ((evalE (lval lo) a).fst) ((evalE (lval lo) b).fst) (by omega) (by omega) (by omega) (by omega))
            by_cases hc17 : (do2 s.toList (evalE (lval lo) a).fst (evalE (lval lo) b).fst).snd = (0 : Int)
            · let t17 : Tp pr := .b (show (decide ((do2 s.toList (evalE (lval lo) a).fst (evalE (lval lo) b).fst).snd = (0 : Int))) = true by simpa using hc17)
              let t18 : Tp pr := .a (l2Bound_ev ((do2 s.toList (evalE (lval lo) a).fst (evalE (lval lo) b).fst).fst))
              by_cases hc19 : (do2 s.toList (evalE (lval lo) a).fst (evalE (lval lo) b).fst).fst < (-1000000000 : Int) ∨ (1000000000 : Int) < (do2 s.toList (evalE (lval lo) a).fst (evalE (lval lo) b).fst).fst
              · let t19 : Tp pr := .b (show (!(decide ((do2 s.toList (evalE (lval lo) a).fst (evalE (lval lo) b).fst).fst ≥ (-1000000000 : Int)) && decide ((do2 s.toList (evalE (lval lo) a).fst (evalE (lval lo) b).fst).fst ≤ (1000000000 : Int)))) = true by simpa using hc19)
                exact .tpe [.b (rfl : false = false), .b (rfl : false = false), t2, .a (ih), t4, .b (rfl : false = false), .b (rfl : false = false), t7, .b (rfl : false = false), t9, .b (rfl : false = false), t11, .a (ih2), t13, t14, t15, t16, t17, t18, t19] (Out.val (V.tup [V.t (T.int IntKind.i64 (0 : Int)), V.t (T.int IntKind.i64 (3 : Int))]) []) (by kernel_rfl) ((congrArg (fun x => Out.val (V.tup [V.t (T.int IntKind.i64 x), V.t (T.int IntKind.i64 (3 : Int))]) []) (show ((0 : Int)) = ((evalE (lval lo) (E.two s a b)).fst) by grind [evalE, E.text, outB])).trans (congrArg (fun x => Out.val (V.tup [V.t (T.int IntKind.i64 (evalE (lval lo) (E.two s a b)).fst), V.t (T.int IntKind.i64 x)]) []) (show ((3 : Int)) = ((evalE (lval lo) (E.two s a b)).snd) by grind [evalE, E.text, outB])))
              · let t19 : Tp pr := .b (show (!(decide ((do2 s.toList (evalE (lval lo) a).fst (evalE (lval lo) b).fst).fst ≥ (-1000000000 : Int)) && decide ((do2 s.toList (evalE (lval lo) a).fst (evalE (lval lo) b).fst).fst ≤ (1000000000 : Int)))) = false by simpa using hc19)
                exact .tpe [.b (rfl : false = false), .b (rfl : false = false), t2, .a (ih), t4, .b (rfl : false = false), .b (rfl : false = false), t7, .b (rfl : false = false), t9, .b (rfl : false = false), t11, .a (ih2), t13, t14, t15, t16, t17, t18, t19] (Out.val (V.tup [V.t (T.int IntKind.i64 (do2 s.toList (evalE (lval lo) a).fst (evalE (lval lo) b).fst).fst), V.t (T.int IntKind.i64 (do2 s.toList (evalE (lval lo) a).fst (evalE (lval lo) b).fst).snd)]) []) (by kernel_rfl) ((congrArg (fun x => Out.val (V.tup [V.t (T.int IntKind.i64 x), V.t (T.int IntKind.i64 (do2 s.toList (evalE (lval lo) a).fst (evalE (lval lo) b).fst).snd)]) []) (show ((do2 s.toList (evalE (lval lo) a).fst (evalE (lval lo) b).fst).fst) = ((evalE (lval lo) (E.two s a b)).fst) by grind [evalE, E.text, outB])).trans (congrArg (fun x => Out.val (V.tup [V.t (T.int IntKind.i64 (evalE (lval lo) (E.two s a b)).fst), V.t (T.int IntKind.i64 x)]) []) (show ((do2 s.toList (evalE (lval lo) a).fst (evalE (lval lo) b).fst).snd) = ((evalE (lval lo) (E.two s a b)).snd) by grind [evalE, E.text, outB])))
            · let t17 : Tp pr := .b (show (decide ((do2 s.toList (evalE (lval lo) a).fst (evalE (lval lo) b).fst).snd = (0 : Int))) = false by simpa using hc17)
              exact .tpe [.b (rfl : false = false), .b (rfl : false = false), t2, .a (ih), t4, .b (rfl : false = false), .b (rfl : false = false), t7, .b (rfl : false = false), t9, .b (rfl : false = false), t11, .a (ih2), t13, t14, t15, t16, t17, .b (rfl : false = false)] (Out.val (V.tup [V.t (T.int IntKind.i64 (do2 s.toList (evalE (lval lo) a).fst (evalE (lval lo) b).fst).fst), V.t (T.int IntKind.i64 (do2 s.toList (evalE (lval lo) a).fst (evalE (lval lo) b).fst).snd)]) []) (by kernel_rfl) ((congrArg (fun x => Out.val (V.tup [V.t (T.int IntKind.i64 x), V.t (T.int IntKind.i64 (do2 s.toList (evalE (lval lo) a).fst (evalE (lval lo) b).fst).snd)]) []) (show ((do2 s.toList (evalE (lval lo) a).fst (evalE (lval lo) b).fst).fst) = ((evalE (lval lo) (E.two s a b)).fst) by grind [evalE, E.text, outB])).trans (congrArg (fun x => Out.val (V.tup [V.t (T.int IntKind.i64 (evalE (lval lo) (E.two s a b)).fst), V.t (T.int IntKind.i64 x)]) []) (show ((do2 s.toList (evalE (lval lo) a).fst (evalE (lval lo) b).fst).snd) = ((evalE (lval lo) (E.two s a b)).snd) by grind [evalE, E.text, outB])))
          · let t13 : Tp pr := .b (show ((evalE (lval lo) b).snd != (0 : Int)) = true by simpa using hc13)
            exact .tpe [.b (rfl : false = false), .b (rfl : false = false), t2, .a (ih), t4, .b (rfl : false = false), .b (rfl : false = false), t7, .b (rfl : false = false), t9, .b (rfl : false = false), t11, .a (ih2), t13] (Out.val (V.tup [V.t (T.int IntKind.i64 (0 : Int)), V.t (T.int IntKind.i64 (evalE (lval lo) b).snd)]) []) (by kernel_rfl) ((congrArg (fun x => Out.val (V.tup [V.t (T.int IntKind.i64 x), V.t (T.int IntKind.i64 (evalE (lval lo) b).snd)]) []) (show ((0 : Int)) = ((evalE (lval lo) (E.two s a b)).fst) by grind [evalE, E.text, outB])).trans (congrArg (fun x => Out.val (V.tup [V.t (T.int IntKind.i64 (evalE (lval lo) (E.two s a b)).fst), V.t (T.int IntKind.i64 x)]) []) (show ((evalE (lval lo) b).snd) = ((evalE (lval lo) (E.two s a b)).snd) by grind [evalE, E.text, outB])))
    · let t4 : Tp pr := .b (show ((evalE (lval lo) a).snd != (0 : Int)) = true by simpa using hc4)
      exact .tpe [.b (rfl : false = false), .b (rfl : false = false), t2, .a (ih), t4] (Out.val (V.tup [V.t (T.int IntKind.i64 (0 : Int)), V.t (T.int IntKind.i64 (evalE (lval lo) a).snd)]) []) (by kernel_rfl) ((congrArg (fun x => Out.val (V.tup [V.t (T.int IntKind.i64 x), V.t (T.int IntKind.i64 (evalE (lval lo) a).snd)]) []) (show ((0 : Int)) = ((evalE (lval lo) (E.two s a b)).fst) by grind [evalE, E.text, outB])).trans (congrArg (fun x => Out.val (V.tup [V.t (T.int IntKind.i64 (evalE (lval lo) (E.two s a b)).fst), V.t (T.int IntKind.i64 x)]) []) (show ((evalE (lval lo) a).snd) = ((evalE (lval lo) (E.two s a b)).snd) by grind [evalE, E.text, outB])))
end Go.Ev
