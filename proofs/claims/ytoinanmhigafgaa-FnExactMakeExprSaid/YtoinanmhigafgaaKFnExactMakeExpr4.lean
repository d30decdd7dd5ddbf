import Derived.Test.YtoinanmhigafgaaKFnExactMakeExpr3
/- Lines: which are good. -/
namespace Go.Ev
set_option linter.unusedVariables false
set_option linter.unusedSimpArgs false
open Go.Proofs
set_option maxRecDepth 100000
set_option linter.unusedVariables false
set_option maxHeartbeats 1000000
theorem l17L_ev (ks : List E) (hk : ks.length ≤ 2) (hn : ∀ k ∈ ks, Ev pr (.call 71 [vs k.ts] []) (.val (bl k.names) [])) : ∀ (rest done : List E) (i : Int), ks = done ++ rest → i = done.length →
    Ev pr (.loop (lq pr 71 0) (at_ [(18, .t (.seq 4 (ks.map E.ts))), (19, i64 ks.length), (20, i64 i)] [] 0))
      (bif rest.all E.names then .exit 0 (at_ [] [] 0) else .ret (at_ [(2, bl false)] [] 0))
  | [], done, i, h, hi => by
    have hll : (ks.length : Int) = done.length := by simp [h]
    let t0 : Tp pr := .b (show (decide (i < (↑ks.length : Int))) = false by (simp; omega))
    exact .tp [t0] (by kernel_rfl)
  | x :: rest, done, i, h, hi => by
    have hll : (ks.length : Int) = done.length + 1 + rest.length := by simp [h]; omega
    have hg : lkp (ks.map E.ts) i = some x.ts := by subst hi; subst h; simp
    have hx := hn x (by simp [h])
    have ih := l17L_ev ks hk hn rest (done ++ [x]) (i + 1) (by simp [h]) (by simp [hi])
    cases hb : x.names with
    | true =>
      simp only [List.all_cons, hb, Bool.true_and]
      cases hr : rest.all E.names with
      | true => rw [hr] at ih; (
        let t0 : Tp pr := .b (show (decide (i < (↑ks.length : Int))) = true by (simp; omega))
        let t1 : Tp pr := .g .row (show (lkp (List.map E.ts ks) i) = some (x.ts) from hg)
        let t3 : Tp pr := .b (show (!x.names) = false by (simp; omega))
        let t4 : Tp pr := .i (wrap_i64 (a := i + (1 : Int)) (by omega) (by omega))
        exact .tp [t0, t1, .a (hn (x) (by simp [*])), t3, t4, .a (ih)] (by kernel_rfl))
      | false => rw [hr] at ih; (
        let t0 : Tp pr := .b (show (decide (i < (↑ks.length : Int))) = true by (simp; omega))
        let t1 : Tp pr := .g .row (show (lkp (List.map E.ts ks) i) = some (x.ts) from hg)
        let t3 : Tp pr := .b (show (!x.names) = false by (simp; omega))
        let t4 : Tp pr := .i (wrap_i64 (a := i + (1 : Int)) (by omega) (by omega))
        exact .tp [t0, t1, .a (hn (x) (by simp [*])), t3, t4, .a (ih)] (by kernel_rfl))
    | false =>
      simp only [List.all_cons, hb, Bool.false_and]
      let t0 : Tp pr := .b (show (decide (i < (↑ks.length : Int))) = true by (simp; omega))
      let t1 : Tp pr := .g .row (show (lkp (List.map E.ts ks) i) = some (x.ts) from hg)
      let t3 : Tp pr := .b (show (!x.names) = true by (simp; omega))
      exact .tp [t0, t1, .a (hn (x) (by simp [*])), t3] (by kernel_rfl)
theorem l17Names_ev : ∀ e : E, Ev pr (.call 71 [vs e.ts] []) (.val (bl e.names) [])
  | .num n => by
    have h := l17L_ev [] (by simp) (by simp) [] [] 0 rfl rfl
    let t1 : Tp pr := .i (rfl : ((0 : Int) : Int) = (0 : Int))
    exact .tp [.b (rfl : false = false), t1, .a (h)] (by kernel_rfl)
  | .name s => by
    have h := NameNoS_ev s
    by_cases h0 : nameNo s < 0
    · rw [if_pos h0] at h; exact .tpe [.b (rfl : true = true), .a (h)] (Out.val (V.t (T.bool false)) []) (by kernel_rfl) (congrArg (fun x => Out.val (V.t (T.bool x)) []) (show (false) = ((E.name s).names) by simp [E.names]; omega))
    · rw [if_neg h0] at h; exact .tpe [.b (rfl : true = true), .a (h)] (Out.val (V.t (T.bool true)) []) (by kernel_rfl) (congrArg (fun x => Out.val (V.t (T.bool x)) []) (show (true) = ((E.name s).names) by simp [E.names]; omega))
  | .neg a => by
    have ih := l17Names_ev a
    have h := l17L_ev [a] (by simp) (by simpa using ih) [a] [] 0 rfl rfl
    cases ha : a.names with
    | true => simp only [List.all_cons, ha, List.all_nil, Bool.and_self, cond_true] at h; (
      let t1 : Tp pr := .i (rfl : ((1 : Int) : Int) = (1 : Int))
      exact .tpe [.b (rfl : false = false), t1, .a (h)] (Out.val (V.t (T.bool true)) []) (by kernel_rfl) (congrArg (fun x => Out.val (V.t (T.bool x)) []) (show (true) = (a.neg.names) by simp [E.names, ha])))
    | false => simp only [List.all_cons, ha, List.all_nil, Bool.false_and, cond_false] at h; (
      let t1 : Tp pr := .i (rfl : ((1 : Int) : Int) = (1 : Int))
      exact .tpe [.b (rfl : false = false), t1, .a (h)] (Out.val (V.t (T.bool false)) []) (by kernel_rfl) (congrArg (fun x => Out.val (V.t (T.bool x)) []) (show (false) = (a.neg.names) by simp [E.names, ha])))
  | .not a => by
    have ih := l17Names_ev a
    have h := l17L_ev [a] (by simp) (by simpa using ih) [a] [] 0 rfl rfl
    cases ha : a.names with
    | true => simp only [List.all_cons, ha, List.all_nil, Bool.and_self, cond_true] at h; (
      let t1 : Tp pr := .i (rfl : ((1 : Int) : Int) = (1 : Int))
      exact .tpe [.b (rfl : false = false), t1, .a (h)] (Out.val (V.t (T.bool true)) []) (by kernel_rfl) (congrArg (fun x => Out.val (V.t (T.bool x)) []) (show (true) = (a.not.names) by simp [E.names, ha])))
    | false => simp only [List.all_cons, ha, List.all_nil, Bool.false_and, cond_false] at h; (
      let t1 : Tp pr := .i (rfl : ((1 : Int) : Int) = (1 : Int))
      exact .tpe [.b (rfl : false = false), t1, .a (h)] (Out.val (V.t (T.bool false)) []) (by kernel_rfl) (congrArg (fun x => Out.val (V.t (T.bool x)) []) (show (false) = (a.not.names) by simp [E.names, ha])))
  | .two s a b => by
    have ih := l17Names_ev a
    have ih2 := l17Names_ev b
    have h := l17L_ev [a, b] (by simp) (by intro k hk; simp at hk; rcases hk with rfl | rfl <;> assumption) [a, b] [] 0 rfl rfl
    cases ha : (a.names && b.names) with
    | true => simp only [List.all_cons, List.all_nil, Bool.and_true, ha, cond_true] at h; (
      let t1 : Tp pr := .i (rfl : ((2 : Int) : Int) = (2 : Int))
      exact .tpe [.b (rfl : false = false), t1, .a (h)] (Out.val (V.t (T.bool true)) []) (by kernel_rfl) (congrArg (fun x => Out.val (V.t (T.bool x)) []) (show (true) = ((E.two s a b).names) by simp [E.names, ha])))
    | false => simp only [List.all_cons, List.all_nil, Bool.and_true, ha, cond_false] at h; (
      let t1 : Tp pr := .i (rfl : ((2 : Int) : Int) = (2 : Int))
      exact .tpe [.b (rfl : false = false), t1, .a (h)] (Out.val (V.t (T.bool false)) []) (by kernel_rfl) (congrArg (fun x => Out.val (V.t (T.bool x)) []) (show (false) = ((E.two s a b).names) by simp only [E.names, ha])))
theorem l17Expr_ev (l : List Ex) (hl : l.length ≤ 1048576) (hs : ∀ x ∈ l, x.text.size ≤ 9223372036854775807) : Ev pr (.call 38 [exs l] []) (.val (.tup [vs (oe (tree? l)), bl (parseL l).isSome]) []) := by
  rw [parseL_isSome]
  cases hp : parse l with
  | none => (
    let t0 : Tp pr := .a (l2Tree_ev (l) (by assumption) (by assumption))
    let t1 : Tp pr := .b (show (match parse l with
    | some val => true
    | none => false) = false by simp [*])
    exact .tp [t0, t1] (by kernel_rfl))
  | some e =>
    have ht := parse_tree hp
    have h := l17Names_ev e
    rw [ht]
    let t0 : Tp pr := .a (l2Tree_ev (l) (by assumption) (by assumption))
    let t1 : Tp pr := .b (show (match parse l with
    | some val => true
    | none => false) = true by simp [*])
    let t2 : Tp pr := .a (Ev.castq ((((congrArg (fun x => Q.call (71 : FuncId) [V.agg [V.t (T.int IntKind.i64 x), V.t (T.int IntKind.i64 e.nm), V.t (T.str e.text), V.t (T.seq (4 : Nat) e.kids)]] []) (show (e.kind) = (oKind (tree? l)) by simp [*])).trans (congrArg (fun x => Q.call (71 : FuncId) [V.agg [V.t (T.int IntKind.i64 (oKind (tree? l))), V.t (T.int IntKind.i64 x), V.t (T.str e.text), V.t (T.seq (4 : Nat) e.kids)]] []) (show (e.nm) = (oNm (tree? l)) by simp [*]))).trans (congrArg (fun x => Q.call (71 : FuncId) [V.agg [V.t (T.int IntKind.i64 (oKind (tree? l))), V.t (T.int IntKind.i64 (oNm (tree? l))), V.t (T.str x), V.t (T.seq (4 : Nat) e.kids)]] []) (show (e.text) = (oText (tree? l)) by simp [*]))).trans (congrArg (fun x => Q.call (71 : FuncId) [V.agg [V.t (T.int IntKind.i64 (oKind (tree? l))), V.t (T.int IntKind.i64 (oNm (tree? l))), V.t (T.str (oText (tree? l))), V.t (T.seq (4 : Nat) x)]] []) (show (e.kids) = (oKids (tree? l)) by simp [*]))) (h))
    exact .tpe [t0, t1, t2] (Out.val (V.tup [V.agg [V.t (T.int IntKind.i64 (oKind (tree? l))), V.t (T.int IntKind.i64 (oNm (tree? l))), V.t (T.str (oText (tree? l))), V.t (T.seq (4 : Nat) (oKids (tree? l)))], V.t (T.bool e.names)]) []) (by kernel_rfl) (((((congrArg (fun x => Out.val (V.tup [V.agg [V.t (T.int IntKind.i64 x), V.t (T.int IntKind.i64 (oNm (tree? l))), V.t (T.str (oText (tree? l))), V.t (T.seq (4 : Nat) (oKids (tree? l)))], V.t (T.bool e.names)]) []) (show (oKind (tree? l)) = (oKind (some e)) by simp [*])).trans (congrArg (fun x => Out.val (V.tup [V.agg [V.t (T.int IntKind.i64 (oKind (some e))), V.t (T.int IntKind.i64 x), V.t (T.str (oText (tree? l))), V.t (T.seq (4 : Nat) (oKids (tree? l)))], V.t (T.bool e.names)]) []) (show (oNm (tree? l)) = (oNm (some e)) by simp [*]))).trans (congrArg (fun x => Out.val (V.tup [V.agg [V.t (T.int IntKind.i64 (oKind (some e))), V.t (T.int IntKind.i64 (oNm (some e))), V.t (T.str x), V.t (T.seq (4 : Nat) (oKids (tree? l)))], V.t (T.bool e.names)]) []) (show (oText (tree? l)) = (oText (some e)) by simp [*]))).trans (congrArg (fun x => Out.val (V.tup [V.agg [V.t (T.int IntKind.i64 (oKind (some e))), V.t (T.int IntKind.i64 (oNm (some e))), V.t (T.str (oText (some e))), V.t (T.seq (4 : Nat) x)], V.t (T.bool e.names)]) []) (show (oKids (tree? l)) = (oKids (some e)) by simp [*]))).trans (congrArg (fun x => Out.val (V.tup [V.agg [V.t (T.int IntKind.i64 (oKind (some e))), V.t (T.int IntKind.i64 (oNm (some e))), V.t (T.str (oText (some e))), V.t (T.seq (4 : Nat) (oKids (some e)))], V.t (T.bool x)]) []) (show (e.names) = (true && e.names) by simp [hp])))
theorem lineOk_ev (x : Line) (hl : x.expr.length ≤ 1048576) (hs : ∀ y ∈ x.expr, y.text.size ≤ 9223372036854775807) : Ev pr (.call 44 [vs x.ce] []) (.val (bl (lineOk x)) []) := by
  have h := localExpr_ev x.expr hl hs
  unfold lineOk
  cases hp : parseL x.expr with
  | none => rw [hp] at h; (
    by_cases hc0 : x.kind = (1 : Int)
    · let t0 : Tp pr := .b (show (decide (x.kind = (1 : Int))) = true by simpa using hc0)
      let t1 : Tp pr := .a (within_ev (x.name) ((0 : Int)) ((9 : Int)))
      by_cases hc2 : (0 : Int) ≤ x.name ∧ x.name ≤ (9 : Int)
      · let t2 : Tp pr := .b (show (decide (x.name ≥ (0 : Int)) && decide (x.name ≤ (9 : Int))) = true by simpa using hc2)
        exact .tpe [t0, t1, t2, .a (h)] (Out.val (V.t (T.bool false)) []) (by kernel_rfl) ((rfl).trans (show (Out.val (V.t (T.bool false)) []) = Out.val (bl (if x.kind = (1 : Int) then decide (x.name ≥ (0 : Int)) && decide (x.name ≤ (9 : Int)) && none.isSome else if x.kind = (2 : Int) then decide (x.name = (0 : Int)) && none.isSome else decide (x.kind = (3 : Int)) && decide (x.name = (0 : Int)) && decide (x.expr.length = (0 : Nat)))) [] by simp [*]))
      · let t2 : Tp pr := .b (show (decide (x.name ≥ (0 : Int)) && decide (x.name ≤ (9 : Int))) = false by simpa using hc2)
        exact .tpe [t0, t1, t2] (Out.val (V.t (T.bool false)) []) (by kernel_rfl) ((rfl).trans (show (Out.val (V.t (T.bool false)) []) = Out.val (bl (if x.kind = (1 : Int) then decide (x.name ≥ (0 : Int)) && decide (x.name ≤ (9 : Int)) && none.isSome else if x.kind = (2 : Int) then decide (x.name = (0 : Int)) && none.isSome else decide (x.kind = (3 : Int)) && decide (x.name = (0 : Int)) && decide (x.expr.length = (0 : Nat)))) [] by simp [*]))
    · let t0 : Tp pr := .b (show (decide (x.kind = (1 : Int))) = false by simpa using hc0)
      by_cases hc1 : x.kind = (2 : Int)
      · let t1 : Tp pr := .b (show (decide (x.kind = (2 : Int))) = true by simpa using hc1)
        by_cases hc2 : x.name = (0 : Int)
        · let t2 : Tp pr := .b (show (decide (x.name = (0 : Int))) = true by simpa using hc2)
          exact .tpe [t0, t1, t2, .a (h)] (Out.val (V.t (T.bool false)) []) (by kernel_rfl) ((rfl).trans (show (Out.val (V.t (T.bool false)) []) = Out.val (bl (if x.kind = (1 : Int) then decide (x.name ≥ (0 : Int)) && decide (x.name ≤ (9 : Int)) && none.isSome else if x.kind = (2 : Int) then decide (x.name = (0 : Int)) && none.isSome else decide (x.kind = (3 : Int)) && decide (x.name = (0 : Int)) && decide (x.expr.length = (0 : Nat)))) [] by simp [*]))
        · let t2 : Tp pr := .b (show (decide (x.name = (0 : Int))) = false by simpa using hc2)
          exact .tpe [t0, t1, t2] (Out.val (V.t (T.bool false)) []) (by kernel_rfl) ((rfl).trans (show (Out.val (V.t (T.bool false)) []) = Out.val (bl (if x.kind = (1 : Int) then decide (x.name ≥ (0 : Int)) && decide (x.name ≤ (9 : Int)) && none.isSome else if x.kind = (2 : Int) then decide (x.name = (0 : Int)) && none.isSome else decide (x.kind = (3 : Int)) && decide (x.name = (0 : Int)) && decide (x.expr.length = (0 : Nat)))) [] by simp [*]))
      · let t1 : Tp pr := .b (show (decide (x.kind = (2 : Int))) = false by simpa using hc1)
        by_cases hc2 : x.kind = (3 : Int)
        · let t2 : Tp pr := .b (show (decide (x.kind = (3 : Int))) = true by simpa using hc2)
          by_cases hc3 : x.name = (0 : Int)
          · let t3 : Tp pr := .b (show (decide (x.name = (0 : Int))) = true by simpa using hc3)
            let t4 : Tp pr := .i (show ((↑(List.map Ex.ce x.expr).length : Int) : Int) = (↑x.expr.length : Int) by simp)
            exact .tpe [t0, t1, t2, t3, t4] (Out.val (V.t (T.bool (decide ((↑x.expr.length : Int) = (0 : Int))))) []) (by kernel_rfl) ((congrArg (fun x => Out.val (V.t (T.bool x)) []) (show (decide ((↑x.expr.length : Int) = (0 : Int))) = (decide (x.expr = [])) by simp)).trans (show (Out.val (V.t (T.bool (decide (x.expr = [])))) []) = Out.val (bl (if x.kind = (1 : Int) then decide (x.name ≥ (0 : Int)) && decide (x.name ≤ (9 : Int)) && none.isSome else if x.kind = (2 : Int) then decide (x.name = (0 : Int)) && none.isSome else decide (x.kind = (3 : Int)) && decide (x.name = (0 : Int)) && decide (x.expr.length = (0 : Nat)))) [] by simp [*]))
          · let t3 : Tp pr := .b (show (decide (x.name = (0 : Int))) = false by simpa using hc3)
            exact .tpe [t0, t1, t2, t3] (Out.val (V.t (T.bool false)) []) (by kernel_rfl) ((rfl).trans (show (Out.val (V.t (T.bool false)) []) = Out.val (bl (if x.kind = (1 : Int) then decide (x.name ≥ (0 : Int)) && decide (x.name ≤ (9 : Int)) && none.isSome else if x.kind = (2 : Int) then decide (x.name = (0 : Int)) && none.isSome else decide (x.kind = (3 : Int)) && decide (x.name = (0 : Int)) && decide (x.expr.length = (0 : Nat)))) [] by simp [*]))
        · let t2 : Tp pr := .b (show (decide (x.kind = (3 : Int))) = false by simpa using hc2)
          exact .tpe [t0, t1, t2, .b (rfl : false = false)] (Out.val (V.t (T.bool false)) []) (by kernel_rfl) ((rfl).trans (show (Out.val (V.t (T.bool false)) []) = Out.val (bl (if x.kind = (1 : Int) then decide (x.name ≥ (0 : Int)) && decide (x.name ≤ (9 : Int)) && none.isSome else if x.kind = (2 : Int) then decide (x.name = (0 : Int)) && none.isSome else decide (x.kind = (3 : Int)) && decide (x.name = (0 : Int)) && decide (x.expr.length = (0 : Nat)))) [] by simp [*])))
  | some e => rw [hp] at h; (
    by_cases hc0 : x.kind = (1 : Int)
    · let t0 : Tp pr := .b (show (decide (x.kind = (1 : Int))) = true by simpa using hc0)
      let t1 : Tp pr := .a (within_ev (x.name) ((0 : Int)) ((9 : Int)))
      by_cases hc2 : (0 : Int) ≤ x.name ∧ x.name ≤ (9 : Int)
      · let t2 : Tp pr := .b (show (decide (x.name ≥ (0 : Int)) && decide (x.name ≤ (9 : Int))) = true by simpa using hc2)
        exact .tpe [t0, t1, t2, .a (h)] (Out.val (V.t (T.bool true)) []) (by kernel_rfl) ((rfl).trans (show (Out.val (V.t (T.bool true)) []) = Out.val (bl (if x.kind = (1 : Int) then decide (x.name ≥ (0 : Int)) && decide (x.name ≤ (9 : Int)) && (some e).isSome else if x.kind = (2 : Int) then decide (x.name = (0 : Int)) && (some e).isSome else decide (x.kind = (3 : Int)) && decide (x.name = (0 : Int)) && decide (x.expr.length = (0 : Nat)))) [] by simp [*]))
      · let t2 : Tp pr := .b (show (decide (x.name ≥ (0 : Int)) && decide (x.name ≤ (9 : Int))) = false by simpa using hc2)
        exact .tpe [t0, t1, t2] (Out.val (V.t (T.bool false)) []) (by kernel_rfl) ((congrArg (fun x => Out.val (V.t (T.bool x)) []) (show (false) = (decide ((0 : Int) ≤ x.name) && decide (x.name ≤ (9 : Int))) by (simp; omega))).trans (show (Out.val (V.t (T.bool (decide ((0 : Int) ≤ x.name) && decide (x.name ≤ (9 : Int))))) []) = Out.val (bl (if x.kind = (1 : Int) then decide (x.name ≥ (0 : Int)) && decide (x.name ≤ (9 : Int)) && (some e).isSome else if x.kind = (2 : Int) then decide (x.name = (0 : Int)) && (some e).isSome else decide (x.kind = (3 : Int)) && decide (x.name = (0 : Int)) && decide (x.expr.length = (0 : Nat)))) [] by simp [*]))
    · let t0 : Tp pr := .b (show (decide (x.kind = (1 : Int))) = false by simpa using hc0)
      by_cases hc1 : x.kind = (2 : Int)
      · let t1 : Tp pr := .b (show (decide (x.kind = (2 : Int))) = true by simpa using hc1)
        by_cases hc2 : x.name = (0 : Int)
        · let t2 : Tp pr := .b (show (decide (x.name = (0 : Int))) = true by simpa using hc2)
          exact .tpe [t0, t1, t2, .a (h)] (Out.val (V.t (T.bool true)) []) (by kernel_rfl) ((rfl).trans (show (Out.val (V.t (T.bool true)) []) = Out.val (bl (if x.kind = (1 : Int) then decide (x.name ≥ (0 : Int)) && decide (x.name ≤ (9 : Int)) && (some e).isSome else if x.kind = (2 : Int) then decide (x.name = (0 : Int)) && (some e).isSome else decide (x.kind = (3 : Int)) && decide (x.name = (0 : Int)) && decide (x.expr.length = (0 : Nat)))) [] by simp [*]))
        · let t2 : Tp pr := .b (show (decide (x.name = (0 : Int))) = false by simpa using hc2)
          exact .tpe [t0, t1, t2] (Out.val (V.t (T.bool false)) []) (by kernel_rfl) ((rfl).trans (show (Out.val (V.t (T.bool false)) []) = Out.val (bl (if x.kind = (1 : Int) then decide (x.name ≥ (0 : Int)) && decide (x.name ≤ (9 : Int)) && (some e).isSome else if x.kind = (2 : Int) then decide (x.name = (0 : Int)) && (some e).isSome else decide (x.kind = (3 : Int)) && decide (x.name = (0 : Int)) && decide (x.expr.length = (0 : Nat)))) [] by simp [*]))
      · let t1 : Tp pr := .b (show (decide (x.kind = (2 : Int))) = false by simpa using hc1)
        by_cases hc2 : x.kind = (3 : Int)
        · let t2 : Tp pr := .b (show (decide (x.kind = (3 : Int))) = true by simpa using hc2)
          by_cases hc3 : x.name = (0 : Int)
          · let t3 : Tp pr := .b (show (decide (x.name = (0 : Int))) = true by simpa using hc3)
            let t4 : Tp pr := .i (show ((↑(List.map Ex.ce x.expr).length : Int) : Int) = (↑x.expr.length : Int) by simp)
            exact .tpe [t0, t1, t2, t3, t4] (Out.val (V.t (T.bool (decide ((↑x.expr.length : Int) = (0 : Int))))) []) (by kernel_rfl) ((congrArg (fun x => Out.val (V.t (T.bool x)) []) (show (decide ((↑x.expr.length : Int) = (0 : Int))) = (decide (x.expr = [])) by simp)).trans (show (Out.val (V.t (T.bool (decide (x.expr = [])))) []) = Out.val (bl (if x.kind = (1 : Int) then decide (x.name ≥ (0 : Int)) && decide (x.name ≤ (9 : Int)) && (some e).isSome else if x.kind = (2 : Int) then decide (x.name = (0 : Int)) && (some e).isSome else decide (x.kind = (3 : Int)) && decide (x.name = (0 : Int)) && decide (x.expr.length = (0 : Nat)))) [] by simp [*]))
          · let t3 : Tp pr := .b (show (decide (x.name = (0 : Int))) = false by simpa using hc3)
            exact .tpe [t0, t1, t2, t3] (Out.val (V.t (T.bool false)) []) (by kernel_rfl) ((rfl).trans (show (Out.val (V.t (T.bool false)) []) = Out.val (bl (if x.kind = (1 : Int) then decide (x.name ≥ (0 : Int)) && decide (x.name ≤ (9 : Int)) && (some e).isSome else if x.kind = (2 : Int) then decide (x.name = (0 : Int)) && (some e).isSome else decide (x.kind = (3 : Int)) && decide (x.name = (0 : Int)) && decide (x.expr.length = (0 : Nat)))) [] by simp [*]))
        · let t2 : Tp pr := .b (show (decide (x.kind = (3 : Int))) = false by simpa using hc2)
          exact .tpe [t0, t1, t2, .b (rfl : false = false)] (Out.val (V.t (T.bool false)) []) (by kernel_rfl) ((rfl).trans (show (Out.val (V.t (T.bool false)) []) = Out.val (bl (if x.kind = (1 : Int) then decide (x.name ≥ (0 : Int)) && decide (x.name ≤ (9 : Int)) && (some e).isSome else if x.kind = (2 : Int) then decide (x.name = (0 : Int)) && (some e).isSome else decide (x.kind = (3 : Int)) && decide (x.name = (0 : Int)) && decide (x.expr.length = (0 : Nat)))) [] by simp [*])))
end Go.Ev

/- Code that is made of an expression: the program's. -/
namespace Go.Ev
set_option linter.unusedVariables false
set_option linter.unusedSimpArgs false
open Go.Proofs
set_option maxRecDepth 100000
set_option linter.unusedVariables false
set_option maxHeartbeats 1000000
attribute [local simp] e0
theorem made_ev : ∀ (e : E) (l : List Bc), l.length + 6 * e.size ≤ 1000000 →
    Ev pr (.call 51 [.t e.tp, .vec 0 l.length 3 0 l.length] [.vec true 3 (bcc l)]) (.val (.vec 0 (codeE e l).length 3 0 (codeE e l).length) [.vec true 3 (bcc (codeE e l))])
  | .num n, l, h => by
    let t2 : Tp pr := .m (show (decide ((bcc l).length = l.length ∧ (0 : Nat) + l.length ≤ l.length ∧ l.length + (1 : Nat) ≤ (4294967296 : Nat))) = true by (simp; omega))
    let t3 : Tp pr := .b (show (decide (l.length + (1 : Nat) ≤ l.length)) = false by simp)
    let t5 : Tp pr := .n .crows (show ((List.take l.length (bcc l)).append (List.take (1 : Nat) (List.drop (0 : Nat) [[C.t (T.int IntKind.i64 (1 : Int)), C.t (T.int IntKind.i64 (E.num n).nm), C.t (T.str (ByteArray.mk #[]))]]))) = bcc (l ++ [Bc.mk (1 : Int) n (ByteArray.mk #[])]) by simp)
    exact .tpe [.b (rfl : true = true), .m (rfl : true = true), t2, t3, .c (rfl : (l.length + (1 : Nat)) = _), t5] (Out.val (V.vec (0 : Nat) (l.length + (1 : Nat)) (3 : Nat) (0 : Nat) (l.length + (1 : Nat))) [Ob.vec true (3 : Nat) (bcc (l ++ [Bc.mk (1 : Int) n (ByteArray.mk #[])]))]) (by kernel_rfl) (((congrArg (fun x => Out.val (V.vec (0 : Nat) x (3 : Nat) (0 : Nat) (l.length + (1 : Nat))) [Ob.vec true (3 : Nat) (bcc (l ++ [Bc.mk (1 : Int) n (ByteArray.mk #[])]))]) (show (l.length + (1 : Nat)) = ((codeE (E.num n) l).length) by simp [codeE])).trans (congrArg (fun x => Out.val (V.vec (0 : Nat) (codeE (E.num n) l).length (3 : Nat) (0 : Nat) x) [Ob.vec true (3 : Nat) (bcc (l ++ [Bc.mk (1 : Int) n (ByteArray.mk #[])]))]) (show (l.length + (1 : Nat)) = ((codeE (E.num n) l).length) by simp [codeE]))).trans (congrArg (fun x => Out.val (V.vec (0 : Nat) (codeE (E.num n) l).length (3 : Nat) (0 : Nat) (codeE (E.num n) l).length) [Ob.vec true (3 : Nat) x]) (show (bcc (l ++ [Bc.mk (1 : Int) n (ByteArray.mk #[])])) = (bcc (codeE (E.num n) l)) by simp [codeE])))
  | .name s, l, h => by
    let t4 : Tp pr := .m (show (decide ((bcc l).length = l.length ∧ (0 : Nat) + l.length ≤ l.length ∧ l.length + (1 : Nat) ≤ (4294967296 : Nat))) = true by (simp; omega))
    let t5 : Tp pr := .b (show (decide (l.length + (1 : Nat) ≤ l.length)) = false by simp)
    let t7 : Tp pr := .n .crows (show ((List.take l.length (bcc l)).append (List.take (1 : Nat) (List.drop (0 : Nat) [[C.t (T.int IntKind.i64 (2 : Int)), C.t (T.int IntKind.i64 (nameNo (E.name s).text)), C.t (T.str (ByteArray.mk #[]))]]))) = bcc (l ++ [Bc.mk (2 : Int) (nameNo s) (ByteArray.mk #[])]) by simp)
    exact .tpe [.b (rfl : false = false), .b (rfl : true = true), .a (nameNo_ev ((E.name s).text)), .m (rfl : true = true), t4, t5, .c (rfl : (l.length + (1 : Nat)) = _), t7] (Out.val (V.vec (0 : Nat) (l.length + (1 : Nat)) (3 : Nat) (0 : Nat) (l.length + (1 : Nat))) [Ob.vec true (3 : Nat) (bcc (l ++ [Bc.mk (2 : Int) (nameNo s) (ByteArray.mk #[])]))]) (by kernel_rfl) (((congrArg (fun x => Out.val (V.vec (0 : Nat) x (3 : Nat) (0 : Nat) (l.length + (1 : Nat))) [Ob.vec true (3 : Nat) (bcc (l ++ [Bc.mk (2 : Int) (nameNo s) (ByteArray.mk #[])]))]) (show (l.length + (1 : Nat)) = ((codeE (E.name s) l).length) by simp [codeE])).trans (congrArg (fun x => Out.val (V.vec (0 : Nat) (codeE (E.name s) l).length (3 : Nat) (0 : Nat) x) [Ob.vec true (3 : Nat) (bcc (l ++ [Bc.mk (2 : Int) (nameNo s) (ByteArray.mk #[])]))]) (show (l.length + (1 : Nat)) = ((codeE (E.name s) l).length) by simp [codeE]))).trans (congrArg (fun x => Out.val (V.vec (0 : Nat) (codeE (E.name s) l).length (3 : Nat) (0 : Nat) (codeE (E.name s) l).length) [Ob.vec true (3 : Nat) x]) (show (bcc (l ++ [Bc.mk (2 : Int) (nameNo s) (ByteArray.mk #[])])) = (bcc (codeE (E.name s) l)) by simp [codeE])))
  | .neg a, l, h => by
    have ih := made_ev a l (by simp [E.size] at h; omega)
    have hl := codeE_len a l
    simp only [E.size] at h
    let t5 : Tp pr := .m (show (decide ((bcc (codeE a l)).length = (codeE a l).length ∧ (0 : Nat) + (codeE a l).length ≤ (codeE a l).length ∧ (codeE a l).length + (1 : Nat) ≤ (4294967296 : Nat))) = true by (simp; omega))
    let t6 : Tp pr := .b (show (decide ((codeE a l).length + (1 : Nat) ≤ (codeE a l).length)) = false by simp)
    let t7 : Tp pr := .c (rfl : ((codeE a l).length + (1 : Nat)) = _)
    let t8 : Tp pr := .n .crows (show ((List.take (codeE a l).length (bcc (codeE a l))).append (List.take (1 : Nat) (List.drop (0 : Nat) [[C.t (T.int IntKind.i64 (5 : Int)), C.t (T.int IntKind.i64 (0 : Int)), C.t (T.str (ByteArray.mk #[(45 : UInt8)]))]]))) = bcc (codeE a l ++ [Bc.mk (5 : Int) (0 : Int) (ByteArray.mk #[(45 : UInt8)])]) by simp)
    exact .tpe [.b (rfl : false = false), .b (rfl : false = false), .b (rfl : true = true), .a (ih), .m (rfl : true = true), t5, t6, t7, t8] (Out.val (V.vec (0 : Nat) ((codeE a l).length + (1 : Nat)) (3 : Nat) (0 : Nat) ((codeE a l).length + (1 : Nat))) [Ob.vec true (3 : Nat) (bcc (codeE a l ++ [Bc.mk (5 : Int) (0 : Int) (ByteArray.mk #[(45 : UInt8)])]))]) (by kernel_rfl) (((congrArg (fun x => Out.val (V.vec (0 : Nat) x (3 : Nat) (0 : Nat) ((codeE a l).length + (1 : Nat))) [Ob.vec true (3 : Nat) (bcc (codeE a l ++ [Bc.mk (5 : Int) (0 : Int) (ByteArray.mk #[(45 : UInt8)])]))]) (show ((codeE a l).length + (1 : Nat)) = ((codeE a.neg l).length) by simp [codeE])).trans (congrArg (fun x => Out.val (V.vec (0 : Nat) (codeE a.neg l).length (3 : Nat) (0 : Nat) x) [Ob.vec true (3 : Nat) (bcc (codeE a l ++ [Bc.mk (5 : Int) (0 : Int) (ByteArray.mk #[(45 : UInt8)])]))]) (show ((codeE a l).length + (1 : Nat)) = ((codeE a.neg l).length) by simp [codeE]))).trans (congrArg (fun x => Out.val (V.vec (0 : Nat) (codeE a.neg l).length (3 : Nat) (0 : Nat) (codeE a.neg l).length) [Ob.vec true (3 : Nat) x]) (show (bcc (codeE a l ++ [Bc.mk (5 : Int) (0 : Int) (ByteArray.mk #[(45 : UInt8)])])) = (bcc (codeE a.neg l)) by simp [codeE])))
  | .not a, l, h => by
    have ih := made_ev a l (by simp [E.size] at h; omega)
    have hl := codeE_len a l
    simp only [E.size] at h
    let t6 : Tp pr := .m (show (decide ((bcc (codeE a l)).length = (codeE a l).length ∧ (0 : Nat) + (codeE a l).length ≤ (codeE a l).length ∧ (codeE a l).length + (1 : Nat) ≤ (4294967296 : Nat))) = true by (simp; omega))
    let t7 : Tp pr := .b (show (decide ((codeE a l).length + (1 : Nat) ≤ (codeE a l).length)) = false by simp)
    let t8 : Tp pr := .c (rfl : ((codeE a l).length + (1 : Nat)) = _)
    let t9 : Tp pr := .n .crows (show ((List.take (codeE a l).length (bcc (codeE a l))).append (List.take (1 : Nat) (List.drop (0 : Nat) [[C.t (T.int IntKind.i64 (5 : Int)), C.t (T.int IntKind.i64 (0 : Int)), C.t (T.str (ByteArray.mk #[(33 : UInt8)]))]]))) = bcc (codeE a l ++ [Bc.mk (5 : Int) (0 : Int) (ByteArray.mk #[(33 : UInt8)])]) by simp)
    exact .tpe [.b (rfl : false = false), .b (rfl : false = false), .b (rfl : false = false), .b (rfl : true = true), .a (ih), .m (rfl : true = true), t6, t7, t8, t9] (Out.val (V.vec (0 : Nat) ((codeE a l).length + (1 : Nat)) (3 : Nat) (0 : Nat) ((codeE a l).length + (1 : Nat))) [Ob.vec true (3 : Nat) (bcc (codeE a l ++ [Bc.mk (5 : Int) (0 : Int) (ByteArray.mk #[(33 : UInt8)])]))]) (by kernel_rfl) (((congrArg (fun x => Out.val (V.vec (0 : Nat) x (3 : Nat) (0 : Nat) ((codeE a l).length + (1 : Nat))) [Ob.vec true (3 : Nat) (bcc (codeE a l ++ [Bc.mk (5 : Int) (0 : Int) (ByteArray.mk #[(33 : UInt8)])]))]) (show ((codeE a l).length + (1 : Nat)) = ((codeE a.not l).length) by simp [codeE, bNot])).trans (congrArg (fun x => Out.val (V.vec (0 : Nat) (codeE a.not l).length (3 : Nat) (0 : Nat) x) [Ob.vec true (3 : Nat) (bcc (codeE a l ++ [Bc.mk (5 : Int) (0 : Int) (ByteArray.mk #[(33 : UInt8)])]))]) (show ((codeE a l).length + (1 : Nat)) = ((codeE a.not l).length) by simp [codeE, bNot]))).trans (congrArg (fun x => Out.val (V.vec (0 : Nat) (codeE a.not l).length (3 : Nat) (0 : Nat) (codeE a.not l).length) [Ob.vec true (3 : Nat) x]) (show (bcc (codeE a l ++ [Bc.mk (5 : Int) (0 : Int) (ByteArray.mk #[(33 : UInt8)])])) = (bcc (codeE a.not l)) by simp [codeE, bNot])))
  | .two s a b, l, h => by
    have ih := made_ev a l (by simp [E.size] at h; omega)
    have hl := codeE_len a l
    simp only [E.size] at h
    by_cases h1 : s.toList = [38, 38]
    · have ih2 := made_ev b (codeE a l ++ [⟨7, 0, e0⟩]) (by simp; omega)
      have hl2 := codeE_len b (codeE a l ++ [⟨7, 0, e0⟩])
      have hg := codeE_get b (codeE a l ++ [⟨7, 0, e0⟩]) (codeE a l).length (by simp)
      have hg2 : (bcc (codeE b (codeE a l ++ [⟨7, 0, e0⟩]) ++ [bNot, bNot]))[(codeE a l).length]? = some (Bc.cc ⟨7, 0, e0⟩) := by
        simp at hl2
        rw [bcc_app, List.getElem?_append_left (by simp; omega)]
        simp [bcc, hg]
      simp at hl2
      let t5 : Tp pr := .i (rfl : ((↑(codeE a l).length : Int)) = _)
      let t6 : Tp pr := .b (show ((E.two s a b).text.toList == [(38 : UInt8), (38 : UInt8)]) = true by (simp; omega))
      let t8 : Tp pr := .m (show (decide ((bcc (codeE a l)).length = (codeE a l).length ∧ (0 : Nat) + (codeE a l).length ≤ (codeE a l).length ∧ (codeE a l).length + (1 : Nat) ≤ (4294967296 : Nat))) = true by (simp; omega))
      let t9 : Tp pr := .b (show (decide ((codeE a l).length + (1 : Nat) ≤ (codeE a l).length)) = false by simp)
      let t10 : Tp pr := .c (rfl : ((codeE a l).length + (1 : Nat)) = _)
      let t11 : Tp pr := .n .crows (show ((List.take (codeE a l).length (bcc (codeE a l))).append (List.take (1 : Nat) (List.drop (0 : Nat) [[C.t (T.int IntKind.i64 (7 : Int)), C.t (T.int IntKind.i64 (0 : Int)), C.t (T.str (ByteArray.mk #[]))]]))) = bcc (codeE a l ++ [Bc.mk (7 : Int) (0 : Int) (ByteArray.mk #[])]) by simp)
      let t12 : Tp pr := .a (Ev.castq (congrArg (fun x => Q.call (51 : FuncId) [V.t b.tp, V.vec (0 : Nat) x (3 : Nat) (0 : Nat) x] [Ob.vec true (3 : Nat) (bcc (codeE a l ++ [Bc.mk (7 : Int) (0 : Int) e0]))]) (show ((codeE a l ++ [Bc.mk (7 : Int) (0 : Int) e0]).length) = ((codeE a l).length + (1 : Nat)) by simp [codeE, bNot, h1])) (ih2))
      let t14 : Tp pr := .m (show (decide ((bcc (codeE b (codeE a l ++ [Bc.mk (7 : Int) (0 : Int) e0]))).length = (codeE b (codeE a l ++ [Bc.mk (7 : Int) (0 : Int) e0])).length ∧ (0 : Nat) + (codeE b (codeE a l ++ [Bc.mk (7 : Int) (0 : Int) e0])).length ≤ (codeE b (codeE a l ++ [Bc.mk (7 : Int) (0 : Int) e0])).length ∧ (codeE b (codeE a l ++ [Bc.mk (7 : Int) (0 : Int) e0])).length + (2 : Nat) ≤ (4294967296 : Nat))) = true by (simp; omega))
      let t15 : Tp pr := .b (show (decide ((codeE b (codeE a l ++ [Bc.mk (7 : Int) (0 : Int) e0])).length + (2 : Nat) ≤ (codeE b (codeE a l ++ [Bc.mk (7 : Int) (0 : Int) e0])).length)) = false by simp)
      let t16 : Tp pr := .c (show ((codeE b (codeE a l ++ [Bc.mk (7 : Int) (0 : Int) e0])).length + (2 : Nat) : Nat) = (codeE b (codeE a l ++ [Bc.mk (7 : Int) (0 : Int) (ByteArray.mk #[])])).length + (2 : Nat) by rfl)
      let t17 : Tp pr := .n .crows (show ((List.take (codeE b (codeE a l ++ [Bc.mk (7 : Int) (0 : Int) e0])).length (bcc (codeE b (codeE a l ++ [Bc.mk (7 : Int) (0 : Int) e0])))).append (List.take (2 : Nat) (List.drop (0 : Nat) [[C.t (T.int IntKind.i64 (5 : Int)), C.t (T.int IntKind.i64 (0 : Int)), C.t (T.str (ByteArray.mk #[(33 : UInt8)]))], [C.t (T.int IntKind.i64 (5 : Int)), C.t (T.int IntKind.i64 (0 : Int)), C.t (T.str (ByteArray.mk #[(33 : UInt8)]))]]))) = bcc (codeE b (codeE a l ++ [Bc.mk (7 : Int) (0 : Int) (ByteArray.mk #[])]) ++ [Bc.mk (5 : Int) (0 : Int) (ByteArray.mk #[(33 : UInt8)]), Bc.mk (5 : Int) (0 : Int) (ByteArray.mk #[(33 : UInt8)])]) by simp)
      let t18 : Tp pr := .i (show ((↑((codeE b (codeE a l ++ [Bc.mk (7 : Int) (0 : Int) (ByteArray.mk #[])])).length + (2 : Nat)) : Int) : Int) = (↑(codeE b (codeE a l ++ [Bc.mk (7 : Int) (0 : Int) (ByteArray.mk #[])])).length : Int) + (2 : Int) by omega)
      let t19 : Tp pr := .i (wrap_i64 (a := (↑(codeE b (codeE a l ++ [Bc.mk (7 : Int) (0 : Int) (ByteArray.mk #[])])).length : Int) + (2 : Int) + (1 : Int)) (by omega) (by omega))
      let t20 : Tp pr := .m (show (decide ((0 : Int) ≤ (↑(codeE a l).length : Int) ∧ (↑(codeE a l).length : Int).toNat < (codeE b (codeE a l ++ [Bc.mk (7 : Int) (0 : Int) (ByteArray.mk #[])])).length + (2 : Nat))) = true by (simp; omega))
      let t21 : Tp pr := .c (show ((0 : Nat) + (↑(codeE a l).length : Int).toNat : Nat) = (codeE a l).length by omega)
      let t22 : Tp pr := .m (show (decide ((bcc (codeE b (codeE a l ++ [Bc.mk (7 : Int) (0 : Int) (ByteArray.mk #[])]) ++ [Bc.mk (5 : Int) (0 : Int) (ByteArray.mk #[(33 : UInt8)]), Bc.mk (5 : Int) (0 : Int) (ByteArray.mk #[(33 : UInt8)])])).length = (codeE b (codeE a l ++ [Bc.mk (7 : Int) (0 : Int) (ByteArray.mk #[])])).length + (2 : Nat))) = true by simp)
      let t23 : Tp pr := .g .crow (show ((bcc (codeE b (codeE a l ++ [Bc.mk (7 : Int) (0 : Int) (ByteArray.mk #[])]) ++ [Bc.mk (5 : Int) (0 : Int) (ByteArray.mk #[(33 : UInt8)]), Bc.mk (5 : Int) (0 : Int) (ByteArray.mk #[(33 : UInt8)])]))[(codeE a l).length]?) = some ((Bc.mk (7 : Int) (0 : Int) e0).cc) from hg2)
      let t24 : Tp pr := .n .crows (show ((bcc (codeE b (codeE a l ++ [Bc.mk (7 : Int) (0 : Int) (ByteArray.mk #[])]) ++ [Bc.mk (5 : Int) (0 : Int) (ByteArray.mk #[(33 : UInt8)]), Bc.mk (5 : Int) (0 : Int) (ByteArray.mk #[(33 : UInt8)])])).set (codeE a l).length [C.t (T.int IntKind.i64 (7 : Int)), C.t (T.int IntKind.i64 ((↑(codeE b (codeE a l ++ [Bc.mk (7 : Int) (0 : Int) (ByteArray.mk #[])])).length : Int) + (2 : Int) + (1 : Int))), C.t (T.str (ByteArray.mk #[]))]) = bcc ((codeE b (codeE a l ++ [Bc.mk (7 : Int) (0 : Int) (ByteArray.mk #[])]) ++ [Bc.mk (5 : Int) (0 : Int) (ByteArray.mk #[(33 : UInt8)]), Bc.mk (5 : Int) (0 : Int) (ByteArray.mk #[(33 : UInt8)])]).set (codeE a l).length (Bc.mk (7 : Int) ((↑(codeE b (codeE a l ++ [Bc.mk (7 : Int) (0 : Int) (ByteArray.mk #[])])).length : Int) + (2 : Int) + (1 : Int)) (ByteArray.mk #[]))) by simp)
      let t25 : Tp pr := .i (show ((↑((codeE b (codeE a l ++ [Bc.mk (7 : Int) (0 : Int) (ByteArray.mk #[])])).length + (2 : Nat)) : Int) : Int) = (↑(codeE b (codeE a l ++ [Bc.mk (7 : Int) (0 : Int) (ByteArray.mk #[])])).length : Int) + (2 : Int) by omega)
      let t26 : Tp pr := .i (wrap_i64 (a := (↑(codeE b (codeE a l ++ [Bc.mk (7 : Int) (0 : Int) (ByteArray.mk #[])])).length : Int) + (2 : Int) + (2 : Int)) (by omega) (by omega))
      let t28 : Tp pr := .m (show (decide ((bcc ((codeE b (codeE a l ++ [Bc.mk (7 : Int) (0 : Int) (ByteArray.mk #[])]) ++ [Bc.mk (5 : Int) (0 : Int) (ByteArray.mk #[(33 : UInt8)]), Bc.mk (5 : Int) (0 : Int) (ByteArray.mk #[(33 : UInt8)])]).set (codeE a l).length (Bc.mk (7 : Int) ((↑(codeE b (codeE a l ++ [Bc.mk (7 : Int) (0 : Int) (ByteArray.mk #[])])).length : Int) + (2 : Int) + (1 : Int)) (ByteArray.mk #[])))).length = (codeE b (codeE a l ++ [Bc.mk (7 : Int) (0 : Int) (ByteArray.mk #[])])).length + (2 : Nat) ∧ (0 : Nat) + ((codeE b (codeE a l ++ [Bc.mk (7 : Int) (0 : Int) (ByteArray.mk #[])])).length + (2 : Nat)) ≤ (codeE b (codeE a l ++ [Bc.mk (7 : Int) (0 : Int) (ByteArray.mk #[])])).length + (2 : Nat) ∧ (codeE b (codeE a l ++ [Bc.mk (7 : Int) (0 : Int) (ByteArray.mk #[])])).length + (2 : Nat) + (2 : Nat) ≤ (4294967296 : Nat))) = true by (simp; omega))
      let t29 : Tp pr := .b (show (decide ((codeE b (codeE a l ++ [Bc.mk (7 : Int) (0 : Int) (ByteArray.mk #[])])).length + (2 : Nat) + (2 : Nat) ≤ (codeE b (codeE a l ++ [Bc.mk (7 : Int) (0 : Int) (ByteArray.mk #[])])).length + (2 : Nat))) = false by simp)
      let t30 : Tp pr := .c (rfl : ((codeE b (codeE a l ++ [Bc.mk (7 : Int) (0 : Int) (ByteArray.mk #[])])).length + (2 : Nat) + (2 : Nat)) = _)
      let t31 : Tp pr := .n .crows (show ((List.take ((codeE b (codeE a l ++ [Bc.mk (7 : Int) (0 : Int) (ByteArray.mk #[])])).length + (2 : Nat)) (bcc ((codeE b (codeE a l ++ [Bc.mk (7 : Int) (0 : Int) (ByteArray.mk #[])]) ++ [Bc.mk (5 : Int) (0 : Int) (ByteArray.mk #[(33 : UInt8)]), Bc.mk (5 : Int) (0 : Int) (ByteArray.mk #[(33 : UInt8)])]).set (codeE a l).length (Bc.mk (7 : Int) ((↑(codeE b (codeE a l ++ [Bc.mk (7 : Int) (0 : Int) (ByteArray.mk #[])])).length : Int) + (2 : Int) + (1 : Int)) (ByteArray.mk #[]))))).append (List.take (2 : Nat) (List.drop (0 : Nat) [[C.t (T.int IntKind.i64 (6 : Int)), C.t (T.int IntKind.i64 ((↑(codeE b (codeE a l ++ [Bc.mk (7 : Int) (0 : Int) (ByteArray.mk #[])])).length : Int) + (2 : Int) + (2 : Int))), C.t (T.str (ByteArray.mk #[]))], [C.t (T.int IntKind.i64 (1 : Int)), C.t (T.int IntKind.i64 (0 : Int)), C.t (T.str (ByteArray.mk #[]))]]))) = bcc ((codeE b (codeE a l ++ [Bc.mk (7 : Int) (0 : Int) (ByteArray.mk #[])]) ++ [Bc.mk (5 : Int) (0 : Int) (ByteArray.mk #[(33 : UInt8)]), Bc.mk (5 : Int) (0 : Int) (ByteArray.mk #[(33 : UInt8)])]).set (codeE a l).length (Bc.mk (7 : Int) ((↑(codeE b (codeE a l ++ [Bc.mk (7 : Int) (0 : Int) (ByteArray.mk #[])])).length : Int) + (2 : Int) + (1 : Int)) (ByteArray.mk #[])) ++ [Bc.mk (6 : Int) ((↑(codeE b (codeE a l ++ [Bc.mk (7 : Int) (0 : Int) (ByteArray.mk #[])])).length : Int) + (2 : Int) + (2 : Int)) (ByteArray.mk #[]), Bc.mk (1 : Int) (0 : Int) (ByteArray.mk #[])]) by simp)
      exact .tpe [.b (rfl : false = false), .b (rfl : false = false), .b (rfl : false = false), .b (rfl : false = false), .a (ih), t5, t6, .m (rfl : true = true), t8, t9, t10, t11, t12, .m (rfl : true = true), t14, t15, t16, t17, t18, t19, t20, t21, t22, t23, t24, t25, t26, .m (rfl : true = true), t28, t29, t30, t31] (Out.val (V.vec (0 : Nat) ((codeE b (codeE a l ++ [Bc.mk (7 : Int) (0 : Int) (ByteArray.mk #[])])).length + (2 : Nat) + (2 : Nat)) (3 : Nat) (0 : Nat) ((codeE b (codeE a l ++ [Bc.mk (7 : Int) (0 : Int) (ByteArray.mk #[])])).length + (2 : Nat) + (2 : Nat))) [Ob.vec true (3 : Nat) (bcc ((codeE b (codeE a l ++ [Bc.mk (7 : Int) (0 : Int) (ByteArray.mk #[])]) ++ [Bc.mk (5 : Int) (0 : Int) (ByteArray.mk #[(33 : UInt8)]), Bc.mk (5 : Int) (0 : Int) (ByteArray.mk #[(33 : UInt8)])]).set (codeE a l).length (Bc.mk (7 : Int) ((↑(codeE b (codeE a l ++ [Bc.mk (7 : Int) (0 : Int) (ByteArray.mk #[])])).length : Int) + (2 : Int) + (1 : Int)) (ByteArray.mk #[])) ++ [Bc.mk (6 : Int) ((↑(codeE b (codeE a l ++ [Bc.mk (7 : Int) (0 : Int) (ByteArray.mk #[])])).length : Int) + (2 : Int) + (2 : Int)) (ByteArray.mk #[]), Bc.mk (1 : Int) (0 : Int) (ByteArray.mk #[])]))]) (by kernel_rfl) (((congrArg (fun x => Out.val (V.vec (0 : Nat) x (3 : Nat) (0 : Nat) ((codeE b (codeE a l ++ [Bc.mk (7 : Int) (0 : Int) (ByteArray.mk #[])])).length + (2 : Nat) + (2 : Nat))) [Ob.vec true (3 : Nat) (bcc ((codeE b (codeE a l ++ [Bc.mk (7 : Int) (0 : Int) (ByteArray.mk #[])]) ++ [Bc.mk (5 : Int) (0 : Int) (ByteArray.mk #[(33 : UInt8)]), Bc.mk (5 : Int) (0 : Int) (ByteArray.mk #[(33 : UInt8)])]).set (codeE a l).length (Bc.mk (7 : Int) ((↑(codeE b (codeE a l ++ [Bc.mk (7 : Int) (0 : Int) (ByteArray.mk #[])])).length : Int) + (2 : Int) + (1 : Int)) (ByteArray.mk #[])) ++ [Bc.mk (6 : Int) ((↑(codeE b (codeE a l ++ [Bc.mk (7 : Int) (0 : Int) (ByteArray.mk #[])])).length : Int) + (2 : Int) + (2 : Int)) (ByteArray.mk #[]), Bc.mk (1 : Int) (0 : Int) (ByteArray.mk #[])]))]) (show ((codeE b (codeE a l ++ [Bc.mk (7 : Int) (0 : Int) (ByteArray.mk #[])])).length + (2 : Nat) + (2 : Nat)) = ((codeE (E.two s a b) l).length) by simp [codeE, bNot, h1])).trans (congrArg (fun x => Out.val (V.vec (0 : Nat) (codeE (E.two s a b) l).length (3 : Nat) (0 : Nat) x) [Ob.vec true (3 : Nat) (bcc ((codeE b (codeE a l ++ [Bc.mk (7 : Int) (0 : Int) (ByteArray.mk #[])]) ++ [Bc.mk (5 : Int) (0 : Int) (ByteArray.mk #[(33 : UInt8)]), Bc.mk (5 : Int) (0 : Int) (ByteArray.mk #[(33 : UInt8)])]).set (codeE a l).length (Bc.mk (7 : Int) ((↑(codeE b (codeE a l ++ [Bc.mk (7 : Int) (0 : Int) (ByteArray.mk #[])])).length : Int) + (2 : Int) + (1 : Int)) (ByteArray.mk #[])) ++ [Bc.mk (6 : Int) ((↑(codeE b (codeE a l ++ [Bc.mk (7 : Int) (0 : Int) (ByteArray.mk #[])])).length : Int) + (2 : Int) + (2 : Int)) (ByteArray.mk #[]), Bc.mk (1 : Int) (0 : Int) (ByteArray.mk #[])]))]) (show ((codeE b (codeE a l ++ [Bc.mk (7 : Int) (0 : Int) (ByteArray.mk #[])])).length + (2 : Nat) + (2 : Nat)) = ((codeE (E.two s a b) l).length) by simp [codeE, bNot, h1]))).trans (congrArg (fun x => Out.val (V.vec (0 : Nat) (codeE (E.two s a b) l).length (3 : Nat) (0 : Nat) (codeE (E.two s a b) l).length) [Ob.vec true (3 : Nat) x]) (show (bcc ((codeE b (codeE a l ++ [Bc.mk (7 : Int) (0 : Int) (ByteArray.mk #[])]) ++ [Bc.mk (5 : Int) (0 : Int) (ByteArray.mk #[(33 : UInt8)]), Bc.mk (5 : Int) (0 : Int) (ByteArray.mk #[(33 : UInt8)])]).set (codeE a l).length (Bc.mk (7 : Int) ((↑(codeE b (codeE a l ++ [Bc.mk (7 : Int) (0 : Int) (ByteArray.mk #[])])).length : Int) + (2 : Int) + (1 : Int)) (ByteArray.mk #[])) ++ [Bc.mk (6 : Int) ((↑(codeE b (codeE a l ++ [Bc.mk (7 : Int) (0 : Int) (ByteArray.mk #[])])).length : Int) + (2 : Int) + (2 : Int)) (ByteArray.mk #[]), Bc.mk (1 : Int) (0 : Int) (ByteArray.mk #[])])) = (bcc (codeE (E.two s a b) l)) by simp [codeE, bNot, h1])))
    · by_cases h2 : s.toList = [124, 124]
      · have ih2 := made_ev b (codeE a l ++ [⟨7, (codeE a l).length + 3, e0⟩, ⟨1, 1, e0⟩, ⟨6, 0, e0⟩]) (by simp; omega)
        have hl2 := codeE_len b (codeE a l ++ [⟨7, (codeE a l).length + 3, e0⟩, ⟨1, 1, e0⟩, ⟨6, 0, e0⟩])
        have hg := codeE_get b (codeE a l ++ [⟨7, (codeE a l).length + 3, e0⟩, ⟨1, 1, e0⟩, ⟨6, 0, e0⟩]) ((codeE a l).length + 2) (by simp)
        have hg2 : (bcc (codeE b (codeE a l ++ [⟨7, (codeE a l).length + 3, e0⟩, ⟨1, 1, e0⟩, ⟨6, 0, e0⟩]) ++ [bNot, bNot]))[(codeE a l).length + 2]? = some (Bc.cc ⟨6, 0, e0⟩) := by
          simp at hl2
          rw [bcc_app, List.getElem?_append_left (by simp; omega)]
          simp [bcc, hg]
        simp at hl2
        let t5 : Tp pr := .i (rfl : ((↑(codeE a l).length : Int)) = _)
        let t6 : Tp pr := .b (show ((E.two s a b).text.toList == [(38 : UInt8), (38 : UInt8)]) = false by (simp; omega))
        let t7 : Tp pr := .b (show ((E.two s a b).text.toList == [(124 : UInt8), (124 : UInt8)]) = true by (simp; omega))
        let t8 : Tp pr := .i (wrap_i64 (a := (↑(codeE a l).length : Int) + (3 : Int)) (by omega) (by omega))
        let t10 : Tp pr := .m (show (decide ((bcc (codeE a l)).length = (codeE a l).length ∧ (0 : Nat) + (codeE a l).length ≤ (codeE a l).length ∧ (codeE a l).length + (3 : Nat) ≤ (4294967296 : Nat))) = true by (simp; omega))
        let t11 : Tp pr := .b (show (decide ((codeE a l).length + (3 : Nat) ≤ (codeE a l).length)) = false by simp)
        let t12 : Tp pr := .c (rfl : ((codeE a l).length + (3 : Nat)) = _)
        let t13 : Tp pr := .n .crows (show ((List.take (codeE a l).length (bcc (codeE a l))).append (List.take (3 : Nat) (List.drop (0 : Nat) [[C.t (T.int IntKind.i64 (7 : Int)), C.t (T.int IntKind.i64 ((↑(codeE a l).length : Int) + (3 : Int))), C.t (T.str (ByteArray.mk #[]))], [C.t (T.int IntKind.i64 (1 : Int)), C.t (T.int IntKind.i64 (1 : Int)), C.t (T.str (ByteArray.mk #[]))], [C.t (T.int IntKind.i64 (6 : Int)), C.t (T.int IntKind.i64 (0 : Int)), C.t (T.str (ByteArray.mk #[]))]]))) = bcc (codeE a l ++ [Bc.mk (7 : Int) ((↑(codeE a l).length : Int) + (3 : Int)) (ByteArray.mk #[]), Bc.mk (1 : Int) (1 : Int) (ByteArray.mk #[]), Bc.mk (6 : Int) (0 : Int) (ByteArray.mk #[])]) by simp)
        let t14 : Tp pr := .a (Ev.castq (congrArg (fun x => Q.call (51 : FuncId) [V.t b.tp, V.vec (0 : Nat) x (3 : Nat) (0 : Nat) x] [Ob.vec true (3 : Nat) (bcc (codeE a l ++ [Bc.mk (7 : Int) ((↑(codeE a l).length : Int) + (3 : Int)) e0, Bc.mk (1 : Int) (1 : Int) e0, Bc.mk (6 : Int) (0 : Int) e0]))]) (show ((codeE a l ++ [Bc.mk (7 : Int) ((↑(codeE a l).length : Int) + (3 : Int)) e0, Bc.mk (1 : Int) (1 : Int) e0, Bc.mk (6 : Int) (0 : Int) e0]).length) = ((codeE a l).length + (3 : Nat)) by simp [codeE, bNot, h1, h2])) (ih2))
        let t16 : Tp pr := .m (show (decide ((bcc (codeE b (codeE a l ++ [Bc.mk (7 : Int) ((↑(codeE a l).length : Int) + (3 : Int)) e0, Bc.mk (1 : Int) (1 : Int) e0, Bc.mk (6 : Int) (0 : Int) e0]))).length = (codeE b (codeE a l ++ [Bc.mk (7 : Int) ((↑(codeE a l).length : Int) + (3 : Int)) e0, Bc.mk (1 : Int) (1 : Int) e0, Bc.mk (6 : Int) (0 : Int) e0])).length ∧ (0 : Nat) + (codeE b (codeE a l ++ [Bc.mk (7 : Int) ((↑(codeE a l).length : Int) + (3 : Int)) e0, Bc.mk (1 : Int) (1 : Int) e0, Bc.mk (6 : Int) (0 : Int) e0])).length ≤ (codeE b (codeE a l ++ [Bc.mk (7 : Int) ((↑(codeE a l).length : Int) + (3 : Int)) e0, Bc.mk (1 : Int) (1 : Int) e0, Bc.mk (6 : Int) (0 : Int) e0])).length ∧ (codeE b (codeE a l ++ [Bc.mk (7 : Int) ((↑(codeE a l).length : Int) + (3 : Int)) e0, Bc.mk (1 : Int) (1 : Int) e0, Bc.mk (6 : Int) (0 : Int) e0])).length + (2 : Nat) ≤ (4294967296 : Nat))) = true by (simp; omega))
        let t17 : Tp pr := .b (show (decide ((codeE b (codeE a l ++ [Bc.mk (7 : Int) ((↑(codeE a l).length : Int) + (3 : Int)) e0, Bc.mk (1 : Int) (1 : Int) e0, Bc.mk (6 : Int) (0 : Int) e0])).length + (2 : Nat) ≤ (codeE b (codeE a l ++ [Bc.mk (7 : Int) ((↑(codeE a l).length : Int) + (3 : Int)) e0, Bc.mk (1 : Int) (1 : Int) e0, Bc.mk (6 : Int) (0 : Int) e0])).length)) = false by simp)
        let t18 : Tp pr := .c (show ((codeE b (codeE a l ++ [Bc.mk (7 : Int) ((↑(codeE a l).length : Int) + (3 : Int)) e0, Bc.mk (1 : Int) (1 : Int) e0, Bc.mk (6 : Int) (0 : Int) e0])).length + (2 : Nat) : Nat) = (codeE b (codeE a l ++ [Bc.mk (7 : Int) ((↑(codeE a l).length : Int) + (3 : Int)) (ByteArray.mk #[]), Bc.mk (1 : Int) (1 : Int) (ByteArray.mk #[]), Bc.mk (6 : Int) (0 : Int) (ByteArray.mk #[])])).length + (2 : Nat) by rfl)
        let t19 : Tp pr := .n .crows (show ((List.take (codeE b (codeE a l ++ [Bc.mk (7 : Int) ((↑(codeE a l).length : Int) + (3 : Int)) e0, Bc.mk (1 : Int) (1 : Int) e0, Bc.mk (6 : Int) (0 : Int) e0])).length (bcc (codeE b (codeE a l ++ [Bc.mk (7 : Int) ((↑(codeE a l).length : Int) + (3 : Int)) e0, Bc.mk (1 : Int) (1 : Int) e0, Bc.mk (6 : Int) (0 : Int) e0])))).append (List.take (2 : Nat) (List.drop (0 : Nat) [[C.t (T.int IntKind.i64 (5 : Int)), C.t (T.int IntKind.i64 (0 : Int)), C.t (T.str (ByteArray.mk #[(33 : UInt8)]))], [C.t (T.int IntKind.i64 (5 : Int)), C.t (T.int IntKind.i64 (0 : Int)), C.t (T.str (ByteArray.mk #[(33 : UInt8)]))]]))) = bcc (codeE b (codeE a l ++ [Bc.mk (7 : Int) ((↑(codeE a l).length : Int) + (3 : Int)) (ByteArray.mk #[]), Bc.mk (1 : Int) (1 : Int) (ByteArray.mk #[]), Bc.mk (6 : Int) (0 : Int) (ByteArray.mk #[])]) ++ [Bc.mk (5 : Int) (0 : Int) (ByteArray.mk #[(33 : UInt8)]), Bc.mk (5 : Int) (0 : Int) (ByteArray.mk #[(33 : UInt8)])]) by simp)
        let t20 : Tp pr := .i (wrap_i64 (a := (↑(codeE a l).length : Int) + (2 : Int)) (by omega) (by omega))
        let t21 : Tp pr := .i (show ((↑((codeE b (codeE a l ++ [Bc.mk (7 : Int) ((↑(codeE a l).length : Int) + (3 : Int)) (ByteArray.mk #[]), Bc.mk (1 : Int) (1 : Int) (ByteArray.mk #[]), Bc.mk (6 : Int) (0 : Int) (ByteArray.mk #[])])).length + (2 : Nat)) : Int) : Int) = (↑(codeE b (codeE a l ++ [Bc.mk (7 : Int) ((↑(codeE a l).length : Int) + (3 : Int)) (ByteArray.mk #[]), Bc.mk (1 : Int) (1 : Int) (ByteArray.mk #[]), Bc.mk (6 : Int) (0 : Int) (ByteArray.mk #[])])).length : Int) + (2 : Int) by omega)
        let t22 : Tp pr := .m (show (decide ((0 : Int) ≤ (↑(codeE a l).length : Int) + (2 : Int) ∧ ((↑(codeE a l).length : Int) + (2 : Int)).toNat < (codeE b (codeE a l ++ [Bc.mk (7 : Int) ((↑(codeE a l).length : Int) + (3 : Int)) (ByteArray.mk #[]), Bc.mk (1 : Int) (1 : Int) (ByteArray.mk #[]), Bc.mk (6 : Int) (0 : Int) (ByteArray.mk #[])])).length + (2 : Nat))) = true by (simp; omega))
        let t23 : Tp pr := .c (show ((0 : Nat) + ((↑(codeE a l).length : Int) + (2 : Int)).toNat : Nat) = (codeE a l).length + (2 : Nat) by omega)
        let t24 : Tp pr := .m (show (decide ((bcc (codeE b (codeE a l ++ [Bc.mk (7 : Int) ((↑(codeE a l).length : Int) + (3 : Int)) (ByteArray.mk #[]), Bc.mk (1 : Int) (1 : Int) (ByteArray.mk #[]), Bc.mk (6 : Int) (0 : Int) (ByteArray.mk #[])]) ++ [Bc.mk (5 : Int) (0 : Int) (ByteArray.mk #[(33 : UInt8)]), Bc.mk (5 : Int) (0 : Int) (ByteArray.mk #[(33 : UInt8)])])).length = (codeE b (codeE a l ++ [Bc.mk (7 : Int) ((↑(codeE a l).length : Int) + (3 : Int)) (ByteArray.mk #[]), Bc.mk (1 : Int) (1 : Int) (ByteArray.mk #[]), Bc.mk (6 : Int) (0 : Int) (ByteArray.mk #[])])).length + (2 : Nat))) = true by simp)
        let t25 : Tp pr := .g .crow (show ((bcc (codeE b (codeE a l ++ [Bc.mk (7 : Int) ((↑(codeE a l).length : Int) + (3 : Int)) (ByteArray.mk #[]), Bc.mk (1 : Int) (1 : Int) (ByteArray.mk #[]), Bc.mk (6 : Int) (0 : Int) (ByteArray.mk #[])]) ++ [Bc.mk (5 : Int) (0 : Int) (ByteArray.mk #[(33 : UInt8)]), Bc.mk (5 : Int) (0 : Int) (ByteArray.mk #[(33 : UInt8)])]))[(codeE a l).length + (2 : Nat)]?) = some ((Bc.mk (6 : Int) (0 : Int) e0).cc) from hg2)
        let t26 : Tp pr := .n .crows (show ((bcc (codeE b (codeE a l ++ [Bc.mk (7 : Int) ((↑(codeE a l).length : Int) + (3 : Int)) (ByteArray.mk #[]), Bc.mk (1 : Int) (1 : Int) (ByteArray.mk #[]), Bc.mk (6 : Int) (0 : Int) (ByteArray.mk #[])]) ++ [Bc.mk (5 : Int) (0 : Int) (ByteArray.mk #[(33 : UInt8)]), Bc.mk (5 : Int) (0 : Int) (ByteArray.mk #[(33 : UInt8)])])).set ((codeE a l).length + (2 : Nat)) [C.t (T.int IntKind.i64 (6 : Int)), C.t (T.int IntKind.i64 ((↑(codeE b (codeE a l ++ [Bc.mk (7 : Int) ((↑(codeE a l).length : Int) + (3 : Int)) (ByteArray.mk #[]), Bc.mk (1 : Int) (1 : Int) (ByteArray.mk #[]), Bc.mk (6 : Int) (0 : Int) (ByteArray.mk #[])])).length : Int) + (2 : Int))), C.t (T.str (ByteArray.mk #[]))]) = bcc ((codeE b (codeE a l ++ [Bc.mk (7 : Int) ((↑(codeE a l).length : Int) + (3 : Int)) (ByteArray.mk #[]), Bc.mk (1 : Int) (1 : Int) (ByteArray.mk #[]), Bc.mk (6 : Int) (0 : Int) (ByteArray.mk #[])]) ++ [Bc.mk (5 : Int) (0 : Int) (ByteArray.mk #[(33 : UInt8)]), Bc.mk (5 : Int) (0 : Int) (ByteArray.mk #[(33 : UInt8)])]).set ((codeE a l).length + (2 : Nat)) (Bc.mk (6 : Int) ((↑(codeE b (codeE a l ++ [Bc.mk (7 : Int) ((↑(codeE a l).length : Int) + (3 : Int)) (ByteArray.mk #[]), Bc.mk (1 : Int) (1 : Int) (ByteArray.mk #[]), Bc.mk (6 : Int) (0 : Int) (ByteArray.mk #[])])).length : Int) + (2 : Int)) (ByteArray.mk #[]))) by simp)
        exact .tpe [.b (rfl : false = false), .b (rfl : false = false), .b (rfl : false = false), .b (rfl : false = false), .a (ih), t5, t6, t7, t8, .m (rfl : true = true), t10, t11, t12, t13, t14, .m (rfl : true = true), t16, t17, t18, t19, t20, t21, t22, t23, t24, t25, t26] (Out.val (V.vec (0 : Nat) ((codeE b (codeE a l ++ [Bc.mk (7 : Int) ((↑(codeE a l).length : Int) + (3 : Int)) (ByteArray.mk #[]), Bc.mk (1 : Int) (1 : Int) (ByteArray.mk #[]), Bc.mk (6 : Int) (0 : Int) (ByteArray.mk #[])])).length + (2 : Nat)) (3 : Nat) (0 : Nat) ((codeE b (codeE a l ++ [Bc.mk (7 : Int) ((↑(codeE a l).length : Int) + (3 : Int)) (ByteArray.mk #[]), Bc.mk (1 : Int) (1 : Int) (ByteArray.mk #[]), Bc.mk (6 : Int) (0 : Int) (ByteArray.mk #[])])).length + (2 : Nat))) [Ob.vec true (3 : Nat) (bcc ((codeE b (codeE a l ++ [Bc.mk (7 : Int) ((↑(codeE a l).length : Int) + (3 : Int)) (ByteArray.mk #[]), Bc.mk (1 : Int) (1 : Int) (ByteArray.mk #[]), Bc.mk (6 : Int) (0 : Int) (ByteArray.mk #[])]) ++ [Bc.mk (5 : Int) (0 : Int) (ByteArray.mk #[(33 : UInt8)]), Bc.mk (5 : Int) (0 : Int) (ByteArray.mk #[(33 : UInt8)])]).set ((codeE a l).length + (2 : Nat)) (Bc.mk (6 : Int) ((↑(codeE b (codeE a l ++ [Bc.mk (7 : Int) ((↑(codeE a l).length : Int) + (3 : Int)) (ByteArray.mk #[]), Bc.mk (1 : Int) (1 : Int) (ByteArray.mk #[]), Bc.mk (6 : Int) (0 : Int) (ByteArray.mk #[])])).length : Int) + (2 : Int)) (ByteArray.mk #[]))))]) (by kernel_rfl) (((congrArg (fun x => Out.val (V.vec (0 : Nat) x (3 : Nat) (0 : Nat) ((codeE b (codeE a l ++ [Bc.mk (7 : Int) ((↑(codeE a l).length : Int) + (3 : Int)) (ByteArray.mk #[]), Bc.mk (1 : Int) (1 : Int) (ByteArray.mk #[]), Bc.mk (6 : Int) (0 : Int) (ByteArray.mk #[])])).length + (2 : Nat))) [Ob.vec true (3 : Nat) (bcc ((codeE b (codeE a l ++ [Bc.mk (7 : Int) ((↑(codeE a l).length : Int) + (3 : Int)) (ByteArray.mk #[]), Bc.mk (1 : Int) (1 : Int) (ByteArray.mk #[]), Bc.mk (6 : Int) (0 : Int) (ByteArray.mk #[])]) ++ [Bc.mk (5 : Int) (0 : Int) (ByteArray.mk #[(33 : UInt8)]), Bc.mk (5 : Int) (0 : Int) (ByteArray.mk #[(33 : UInt8)])]).set ((codeE a l).length + (2 : Nat)) (Bc.mk (6 : Int) ((↑(codeE b (codeE a l ++ [Bc.mk (7 : Int) ((↑(codeE a l).length : Int) + (3 : Int)) (ByteArray.mk #[]), Bc.mk (1 : Int) (1 : Int) (ByteArray.mk #[]), Bc.mk (6 : Int) (0 : Int) (ByteArray.mk #[])])).length : Int) + (2 : Int)) (ByteArray.mk #[]))))]) (show ((codeE b (codeE a l ++ [Bc.mk (7 : Int) ((↑(codeE a l).length : Int) + (3 : Int)) (ByteArray.mk #[]), Bc.mk (1 : Int) (1 : Int) (ByteArray.mk #[]), Bc.mk (6 : Int) (0 : Int) (ByteArray.mk #[])])).length + (2 : Nat)) = ((codeE (E.two s a b) l).length) by simp [codeE, bNot, h1, h2])).trans (congrArg (fun x => Out.val (V.vec (0 : Nat) (codeE (E.two s a b) l).length (3 : Nat) (0 : Nat) x) [Ob.vec true (3 : Nat) (bcc ((codeE b (codeE a l ++ [Bc.mk (7 : Int) ((↑(codeE a l).length : Int) + (3 : Int)) (ByteArray.mk #[]), Bc.mk (1 : Int) (1 : Int) (ByteArray.mk #[]), Bc.mk (6 : Int) (0 : Int) (ByteArray.mk #[])]) ++ [Bc.mk (5 : Int) (0 : Int) (ByteArray.mk #[(33 : UInt8)]), Bc.mk (5 : Int) (0 : Int) (ByteArray.mk #[(33 : UInt8)])]).set ((codeE a l).length + (2 : Nat)) (Bc.mk (6 : Int) ((↑(codeE b (codeE a l ++ [Bc.mk (7 : Int) ((↑(codeE a l).length : Int) + (3 : Int)) (ByteArray.mk #[]), Bc.mk (1 : Int) (1 : Int) (ByteArray.mk #[]), Bc.mk (6 : Int) (0 : Int) (ByteArray.mk #[])])).length : Int) + (2 : Int)) (ByteArray.mk #[]))))]) (show ((codeE b (codeE a l ++ [Bc.mk (7 : Int) ((↑(codeE a l).length : Int) + (3 : Int)) (ByteArray.mk #[]), Bc.mk (1 : Int) (1 : Int) (ByteArray.mk #[]), Bc.mk (6 : Int) (0 : Int) (ByteArray.mk #[])])).length + (2 : Nat)) = ((codeE (E.two s a b) l).length) by simp [codeE, bNot, h1, h2]))).trans (congrArg (fun x => Out.val (V.vec (0 : Nat) (codeE (E.two s a b) l).length (3 : Nat) (0 : Nat) (codeE (E.two s a b) l).length) [Ob.vec true (3 : Nat) x]) (show (bcc ((codeE b (codeE a l ++ [Bc.mk (7 : Int) ((↑(codeE a l).length : Int) + (3 : Int)) (ByteArray.mk #[]), Bc.mk (1 : Int) (1 : Int) (ByteArray.mk #[]), Bc.mk (6 : Int) (0 : Int) (ByteArray.mk #[])]) ++ [Bc.mk (5 : Int) (0 : Int) (ByteArray.mk #[(33 : UInt8)]), Bc.mk (5 : Int) (0 : Int) (ByteArray.mk #[(33 : UInt8)])]).set ((codeE a l).length + (2 : Nat)) (Bc.mk (6 : Int) ((↑(codeE b (codeE a l ++ [Bc.mk (7 : Int) ((↑(codeE a l).length : Int) + (3 : Int)) (ByteArray.mk #[]), Bc.mk (1 : Int) (1 : Int) (ByteArray.mk #[]), Bc.mk (6 : Int) (0 : Int) (ByteArray.mk #[])])).length : Int) + (2 : Int)) (ByteArray.mk #[])))) = (bcc (codeE (E.two s a b) l)) by simp [codeE, bNot, h1, h2])))
      · have ih2 := made_ev b (codeE a l) (by omega)
        have hl2 := codeE_len b (codeE a l)
        let t5 : Tp pr := .i (rfl : ((↑(codeE a l).length : Int)) = _)
        let t6 : Tp pr := .b (show ((E.two s a b).text.toList == [(38 : UInt8), (38 : UInt8)]) = false by (simp; omega))
        let t7 : Tp pr := .b (show ((E.two s a b).text.toList == [(124 : UInt8), (124 : UInt8)]) = false by (simp; omega))
        let t10 : Tp pr := .m (show (decide ((bcc (codeE b (codeE a l))).length = (codeE b (codeE a l)).length ∧ (0 : Nat) + (codeE b (codeE a l)).length ≤ (codeE b (codeE a l)).length ∧ (codeE b (codeE a l)).length + (1 : Nat) ≤ (4294967296 : Nat))) = true by (simp; omega))
        let t11 : Tp pr := .b (show (decide ((codeE b (codeE a l)).length + (1 : Nat) ≤ (codeE b (codeE a l)).length)) = false by simp)
        let t12 : Tp pr := .c (rfl : ((codeE b (codeE a l)).length + (1 : Nat)) = _)
        let t13 : Tp pr := .n .crows (show ((List.take (codeE b (codeE a l)).length (bcc (codeE b (codeE a l)))).append (List.take (1 : Nat) (List.drop (0 : Nat) [[C.t (T.int IntKind.i64 (4 : Int)), C.t (T.int IntKind.i64 (0 : Int)), C.t (T.str (E.two s a b).text)]]))) = bcc (codeE b (codeE a l) ++ [Bc.mk (4 : Int) (0 : Int) s]) by simp)
        exact .tpe [.b (rfl : false = false), .b (rfl : false = false), .b (rfl : false = false), .b (rfl : false = false), .a (ih), t5, t6, t7, .a (ih2), .m (rfl : true = true), t10, t11, t12, t13] (Out.val (V.vec (0 : Nat) ((codeE b (codeE a l)).length + (1 : Nat)) (3 : Nat) (0 : Nat) ((codeE b (codeE a l)).length + (1 : Nat))) [Ob.vec true (3 : Nat) (bcc (codeE b (codeE a l) ++ [Bc.mk (4 : Int) (0 : Int) s]))]) (by kernel_rfl) (((congrArg (fun x => Out.val (V.vec (0 : Nat) x (3 : Nat) (0 : Nat) ((codeE b (codeE a l)).length + (1 : Nat))) [Ob.vec true (3 : Nat) (bcc (codeE b (codeE a l) ++ [Bc.mk (4 : Int) (0 : Int) s]))]) (show ((codeE b (codeE a l)).length + (1 : Nat)) = ((codeE (E.two s a b) l).length) by simp [codeE, bNot, h1, h2])).trans (congrArg (fun x => Out.val (V.vec (0 : Nat) (codeE (E.two s a b) l).length (3 : Nat) (0 : Nat) x) [Ob.vec true (3 : Nat) (bcc (codeE b (codeE a l) ++ [Bc.mk (4 : Int) (0 : Int) s]))]) (show ((codeE b (codeE a l)).length + (1 : Nat)) = ((codeE (E.two s a b) l).length) by simp [codeE, bNot, h1, h2]))).trans (congrArg (fun x => Out.val (V.vec (0 : Nat) (codeE (E.two s a b) l).length (3 : Nat) (0 : Nat) (codeE (E.two s a b) l).length) [Ob.vec true (3 : Nat) x]) (show (bcc (codeE b (codeE a l) ++ [Bc.mk (4 : Int) (0 : Int) s])) = (bcc (codeE (E.two s a b) l)) by simp [codeE, bNot, h1, h2])))
end Go.Ev

/- Code that is made of an expression: from nothing; the reference's. -/
namespace Go.Ev
set_option linter.unusedVariables false
set_option linter.unusedSimpArgs false
open Go.Proofs
set_option maxRecDepth 100000
set_option linter.unusedVariables false
set_option maxHeartbeats 1000000
attribute [local simp] e0
theorem madeN_ev : ∀ (e : E), 6 * e.size ≤ 1000000 →
    Ev pr (.call 51 [.t e.tp, .t .nils] []) (.val (.vec 0 (codeE e []).length 3 0 (codeE e []).length) [.vec true 3 (bcc (codeE e []))])
  | .num n, h => by
    let t4 : Tp pr := .n .crows (show (List.take (1 : Nat) (List.drop (0 : Nat) [[C.t (T.int IntKind.i64 (1 : Int)), C.t (T.int IntKind.i64 (E.num n).nm), C.t (T.str (ByteArray.mk #[]))]])) = bcc [Bc.mk (1 : Int) n (ByteArray.mk #[])] by simp)
    exact .tp [.b (rfl : true = true), .m (rfl : true = true), .m (rfl : true = true), .c (rfl : ((1 : Nat)) = _), t4] (by kernel_rfl)
  | .name s, h => by
    let t6 : Tp pr := .n .crows (show (List.take (1 : Nat) (List.drop (0 : Nat) [[C.t (T.int IntKind.i64 (2 : Int)), C.t (T.int IntKind.i64 (nameNo (E.name s).text)), C.t (T.str (ByteArray.mk #[]))]])) = bcc [Bc.mk (2 : Int) (nameNo s) (ByteArray.mk #[])] by simp)
    exact .tp [.b (rfl : false = false), .b (rfl : true = true), .a (nameNo_ev ((E.name s).text)), .m (rfl : true = true), .m (rfl : true = true), .c (rfl : ((1 : Nat)) = _), t6] (by kernel_rfl)
  | .neg a, h => by
    have ih := madeN_ev a (by simp [E.size] at h; omega)
    have hl := codeE_len a []
    simp only [List.length_nil] at hl
    simp only [E.size] at h
    let t5 : Tp pr := .m (show (decide ((bcc (codeE a [])).length = (codeE a []).length ∧ (0 : Nat) + (codeE a []).length ≤ (codeE a []).length ∧ (codeE a []).length + (1 : Nat) ≤ (4294967296 : Nat))) = true by (simp; omega))
    let t6 : Tp pr := .b (show (decide ((codeE a []).length + (1 : Nat) ≤ (codeE a []).length)) = false by simp)
    let t7 : Tp pr := .c (rfl : ((codeE a []).length + (1 : Nat)) = _)
    let t8 : Tp pr := .n .crows (show ((List.take (codeE a []).length (bcc (codeE a []))).append (List.take (1 : Nat) (List.drop (0 : Nat) [[C.t (T.int IntKind.i64 (5 : Int)), C.t (T.int IntKind.i64 (0 : Int)), C.t (T.str (ByteArray.mk #[(45 : UInt8)]))]]))) = bcc (codeE a [] ++ [Bc.mk (5 : Int) (0 : Int) (ByteArray.mk #[(45 : UInt8)])]) by simp)
    exact .tpe [.b (rfl : false = false), .b (rfl : false = false), .b (rfl : true = true), .a (ih), .m (rfl : true = true), t5, t6, t7, t8] (Out.val (V.vec (0 : Nat) ((codeE a []).length + (1 : Nat)) (3 : Nat) (0 : Nat) ((codeE a []).length + (1 : Nat))) [Ob.vec true (3 : Nat) (bcc (codeE a [] ++ [Bc.mk (5 : Int) (0 : Int) (ByteArray.mk #[(45 : UInt8)])]))]) (by kernel_rfl) (((congrArg (fun x => Out.val (V.vec (0 : Nat) x (3 : Nat) (0 : Nat) ((codeE a []).length + (1 : Nat))) [Ob.vec true (3 : Nat) (bcc (codeE a [] ++ [Bc.mk (5 : Int) (0 : Int) (ByteArray.mk #[(45 : UInt8)])]))]) (show ((codeE a []).length + (1 : Nat)) = ((codeE a.neg []).length) by simp [codeE])).trans (congrArg (fun x => Out.val (V.vec (0 : Nat) (codeE a.neg []).length (3 : Nat) (0 : Nat) x) [Ob.vec true (3 : Nat) (bcc (codeE a [] ++ [Bc.mk (5 : Int) (0 : Int) (ByteArray.mk #[(45 : UInt8)])]))]) (show ((codeE a []).length + (1 : Nat)) = ((codeE a.neg []).length) by simp [codeE]))).trans (congrArg (fun x => Out.val (V.vec (0 : Nat) (codeE a.neg []).length (3 : Nat) (0 : Nat) (codeE a.neg []).length) [Ob.vec true (3 : Nat) x]) (show (bcc (codeE a [] ++ [Bc.mk (5 : Int) (0 : Int) (ByteArray.mk #[(45 : UInt8)])])) = (bcc (codeE a.neg [])) by simp [codeE])))
  | .not a, h => by
    have ih := madeN_ev a (by simp [E.size] at h; omega)
    have hl := codeE_len a []
    simp only [List.length_nil] at hl
    simp only [E.size] at h
    let t6 : Tp pr := .m (show (decide ((bcc (codeE a [])).length = (codeE a []).length ∧ (0 : Nat) + (codeE a []).length ≤ (codeE a []).length ∧ (codeE a []).length + (1 : Nat) ≤ (4294967296 : Nat))) = true by (simp; omega))
    let t7 : Tp pr := .b (show (decide ((codeE a []).length + (1 : Nat) ≤ (codeE a []).length)) = false by simp)
    let t8 : Tp pr := .c (rfl : ((codeE a []).length + (1 : Nat)) = _)
    let t9 : Tp pr := .n .crows (show ((List.take (codeE a []).length (bcc (codeE a []))).append (List.take (1 : Nat) (List.drop (0 : Nat) [[C.t (T.int IntKind.i64 (5 : Int)), C.t (T.int IntKind.i64 (0 : Int)), C.t (T.str (ByteArray.mk #[(33 : UInt8)]))]]))) = bcc (codeE a [] ++ [Bc.mk (5 : Int) (0 : Int) (ByteArray.mk #[(33 : UInt8)])]) by simp)
    exact .tpe [.b (rfl : false = false), .b (rfl : false = false), .b (rfl : false = false), .b (rfl : true = true), .a (ih), .m (rfl : true = true), t6, t7, t8, t9] (Out.val (V.vec (0 : Nat) ((codeE a []).length + (1 : Nat)) (3 : Nat) (0 : Nat) ((codeE a []).length + (1 : Nat))) [Ob.vec true (3 : Nat) (bcc (codeE a [] ++ [Bc.mk (5 : Int) (0 : Int) (ByteArray.mk #[(33 : UInt8)])]))]) (by kernel_rfl) (((congrArg (fun x => Out.val (V.vec (0 : Nat) x (3 : Nat) (0 : Nat) ((codeE a []).length + (1 : Nat))) [Ob.vec true (3 : Nat) (bcc (codeE a [] ++ [Bc.mk (5 : Int) (0 : Int) (ByteArray.mk #[(33 : UInt8)])]))]) (show ((codeE a []).length + (1 : Nat)) = ((codeE a.not []).length) by simp [codeE, bNot])).trans (congrArg (fun x => Out.val (V.vec (0 : Nat) (codeE a.not []).length (3 : Nat) (0 : Nat) x) [Ob.vec true (3 : Nat) (bcc (codeE a [] ++ [Bc.mk (5 : Int) (0 : Int) (ByteArray.mk #[(33 : UInt8)])]))]) (show ((codeE a []).length + (1 : Nat)) = ((codeE a.not []).length) by simp [codeE, bNot]))).trans (congrArg (fun x => Out.val (V.vec (0 : Nat) (codeE a.not []).length (3 : Nat) (0 : Nat) (codeE a.not []).length) [Ob.vec true (3 : Nat) x]) (show (bcc (codeE a [] ++ [Bc.mk (5 : Int) (0 : Int) (ByteArray.mk #[(33 : UInt8)])])) = (bcc (codeE a.not [])) by simp [codeE, bNot])))
  | .two s a b, h => by
    have ih := madeN_ev a (by simp [E.size] at h; omega)
    have hl := codeE_len a []
    simp only [List.length_nil] at hl
    simp only [E.size] at h
    by_cases h1 : s.toList = [38, 38]
    · have ih2 := made_ev b (codeE a [] ++ [⟨7, 0, e0⟩]) (by simp; omega)
      have hl2 := codeE_len b (codeE a [] ++ [⟨7, 0, e0⟩])
      have hg := codeE_get b (codeE a [] ++ [⟨7, 0, e0⟩]) (codeE a []).length (by simp)
      have hg2 : (bcc (codeE b (codeE a [] ++ [⟨7, 0, e0⟩]) ++ [bNot, bNot]))[(codeE a []).length]? = some (Bc.cc ⟨7, 0, e0⟩) := by
        simp at hl2
        rw [bcc_app, List.getElem?_append_left (by simp; omega)]
        simp [bcc, hg]
      simp at hl2
      let t5 : Tp pr := .i (rfl : ((↑(codeE a []).length : Int)) = _)
      let t6 : Tp pr := .b (show ((E.two s a b).text.toList == [(38 : UInt8), (38 : UInt8)]) = true by (simp; omega))
      let t8 : Tp pr := .m (show (decide ((bcc (codeE a [])).length = (codeE a []).length ∧ (0 : Nat) + (codeE a []).length ≤ (codeE a []).length ∧ (codeE a []).length + (1 : Nat) ≤ (4294967296 : Nat))) = true by (simp; omega))
      let t9 : Tp pr := .b (show (decide ((codeE a []).length + (1 : Nat) ≤ (codeE a []).length)) = false by simp)
      let t10 : Tp pr := .c (rfl : ((codeE a []).length + (1 : Nat)) = _)
      let t11 : Tp pr := .n .crows (show ((List.take (codeE a []).length (bcc (codeE a []))).append (List.take (1 : Nat) (List.drop (0 : Nat) [[C.t (T.int IntKind.i64 (7 : Int)), C.t (T.int IntKind.i64 (0 : Int)), C.t (T.str (ByteArray.mk #[]))]]))) = bcc (codeE a [] ++ [Bc.mk (7 : Int) (0 : Int) (ByteArray.mk #[])]) by simp)
      let t12 : Tp pr := .a (Ev.castq (congrArg (fun x => Q.call (51 : FuncId) [V.t b.tp, V.vec (0 : Nat) x (3 : Nat) (0 : Nat) x] [Ob.vec true (3 : Nat) (bcc (codeE a [] ++ [Bc.mk (7 : Int) (0 : Int) e0]))]) (show ((codeE a [] ++ [Bc.mk (7 : Int) (0 : Int) e0]).length) = ((codeE a []).length + (1 : Nat)) by simp [codeE, bNot, h1])) (ih2))
      let t14 : Tp pr := .m (show (decide ((bcc (codeE b (codeE a [] ++ [Bc.mk (7 : Int) (0 : Int) e0]))).length = (codeE b (codeE a [] ++ [Bc.mk (7 : Int) (0 : Int) e0])).length ∧ (0 : Nat) + (codeE b (codeE a [] ++ [Bc.mk (7 : Int) (0 : Int) e0])).length ≤ (codeE b (codeE a [] ++ [Bc.mk (7 : Int) (0 : Int) e0])).length ∧ (codeE b (codeE a [] ++ [Bc.mk (7 : Int) (0 : Int) e0])).length + (2 : Nat) ≤ (4294967296 : Nat))) = true by (simp; omega))
      let t15 : Tp pr := .b (show (decide ((codeE b (codeE a [] ++ [Bc.mk (7 : Int) (0 : Int) e0])).length + (2 : Nat) ≤ (codeE b (codeE a [] ++ [Bc.mk (7 : Int) (0 : Int) e0])).length)) = false by simp)
      let t16 : Tp pr := .c (show ((codeE b (codeE a [] ++ [Bc.mk (7 : Int) (0 : Int) e0])).length + (2 : Nat) : Nat) = (codeE b (codeE a [] ++ [Bc.mk (7 : Int) (0 : Int) (ByteArray.mk #[])])).length + (2 : Nat) by rfl)
      let t17 : Tp pr := .n .crows (show ((List.take (codeE b (codeE a [] ++ [Bc.mk (7 : Int) (0 : Int) e0])).length (bcc (codeE b (codeE a [] ++ [Bc.mk (7 : Int) (0 : Int) e0])))).append (List.take (2 : Nat) (List.drop (0 : Nat) [[C.t (T.int IntKind.i64 (5 : Int)), C.t (T.int IntKind.i64 (0 : Int)), C.t (T.str (ByteArray.mk #[(33 : UInt8)]))], [C.t (T.int IntKind.i64 (5 : Int)), C.t (T.int IntKind.i64 (0 : Int)), C.t (T.str (ByteArray.mk #[(33 : UInt8)]))]]))) = bcc (codeE b (codeE a [] ++ [Bc.mk (7 : Int) (0 : Int) (ByteArray.mk #[])]) ++ [Bc.mk (5 : Int) (0 : Int) (ByteArray.mk #[(33 : UInt8)]), Bc.mk (5 : Int) (0 : Int) (ByteArray.mk #[(33 : UInt8)])]) by simp)
      let t18 : Tp pr := .i (show ((↑((codeE b (codeE a [] ++ [Bc.mk (7 : Int) (0 : Int) (ByteArray.mk #[])])).length + (2 : Nat)) : Int) : Int) = (↑(codeE b (codeE a [] ++ [Bc.mk (7 : Int) (0 : Int) (ByteArray.mk #[])])).length : Int) + (2 : Int) by omega)
      let t19 : Tp pr := .i (wrap_i64 (a := (↑(codeE b (codeE a [] ++ [Bc.mk (7 : Int) (0 : Int) (ByteArray.mk #[])])).length : Int) + (2 : Int) + (1 : Int)) (by omega) (by omega))
      let t20 : Tp pr := .m (show (decide ((0 : Int) ≤ (↑(codeE a []).length : Int) ∧ (↑(codeE a []).length : Int).toNat < (codeE b (codeE a [] ++ [Bc.mk (7 : Int) (0 : Int) (ByteArray.mk #[])])).length + (2 : Nat))) = true by (simp; omega))
      let t21 : Tp pr := .c (show ((0 : Nat) + (↑(codeE a []).length : Int).toNat : Nat) = (codeE a []).length by omega)
      let t22 : Tp pr := .m (show (decide ((bcc (codeE b (codeE a [] ++ [Bc.mk (7 : Int) (0 : Int) (ByteArray.mk #[])]) ++ [Bc.mk (5 : Int) (0 : Int) (ByteArray.mk #[(33 : UInt8)]), Bc.mk (5 : Int) (0 : Int) (ByteArray.mk #[(33 : UInt8)])])).length = (codeE b (codeE a [] ++ [Bc.mk (7 : Int) (0 : Int) (ByteArray.mk #[])])).length + (2 : Nat))) = true by simp)
      let t23 : Tp pr := .g .crow (show ((bcc (codeE b (codeE a [] ++ [Bc.mk (7 : Int) (0 : Int) (ByteArray.mk #[])]) ++ [Bc.mk (5 : Int) (0 : Int) (ByteArray.mk #[(33 : UInt8)]), Bc.mk (5 : Int) (0 : Int) (ByteArray.mk #[(33 : UInt8)])]))[(codeE a []).length]?) = some ((Bc.mk (7 : Int) (0 : Int) e0).cc) from hg2)
      let t24 : Tp pr := .n .crows (show ((bcc (codeE b (codeE a [] ++ [Bc.mk (7 : Int) (0 : Int) (ByteArray.mk #[])]) ++ [Bc.mk (5 : Int) (0 : Int) (ByteArray.mk #[(33 : UInt8)]), Bc.mk (5 : Int) (0 : Int) (ByteArray.mk #[(33 : UInt8)])])).set (codeE a []).length [C.t (T.int IntKind.i64 (7 : Int)), C.t (T.int IntKind.i64 ((↑(codeE b (codeE a [] ++ [Bc.mk (7 : Int) (0 : Int) (ByteArray.mk #[])])).length : Int) + (2 : Int) + (1 : Int))), C.t (T.str (ByteArray.mk #[]))]) = bcc ((codeE b (codeE a [] ++ [Bc.mk (7 : Int) (0 : Int) (ByteArray.mk #[])]) ++ [Bc.mk (5 : Int) (0 : Int) (ByteArray.mk #[(33 : UInt8)]), Bc.mk (5 : Int) (0 : Int) (ByteArray.mk #[(33 : UInt8)])]).set (codeE a []).length (Bc.mk (7 : Int) ((↑(codeE b (codeE a [] ++ [Bc.mk (7 : Int) (0 : Int) (ByteArray.mk #[])])).length : Int) + (2 : Int) + (1 : Int)) (ByteArray.mk #[]))) by simp)
      let t25 : Tp pr := .i (show ((↑((codeE b (codeE a [] ++ [Bc.mk (7 : Int) (0 : Int) (ByteArray.mk #[])])).length + (2 : Nat)) : Int) : Int) = (↑(codeE b (codeE a [] ++ [Bc.mk (7 : Int) (0 : Int) (ByteArray.mk #[])])).length : Int) + (2 : Int) by omega)
      let t26 : Tp pr := .i (wrap_i64 (a := (↑(codeE b (codeE a [] ++ [Bc.mk (7 : Int) (0 : Int) (ByteArray.mk #[])])).length : Int) + (2 : Int) + (2 : Int)) (by omega) (by omega))
      let t28 : Tp pr := .m (show (decide ((bcc ((codeE b (codeE a [] ++ [Bc.mk (7 : Int) (0 : Int) (ByteArray.mk #[])]) ++ [Bc.mk (5 : Int) (0 : Int) (ByteArray.mk #[(33 : UInt8)]), Bc.mk (5 : Int) (0 : Int) (ByteArray.mk #[(33 : UInt8)])]).set (codeE a []).length (Bc.mk (7 : Int) ((↑(codeE b (codeE a [] ++ [Bc.mk (7 : Int) (0 : Int) (ByteArray.mk #[])])).length : Int) + (2 : Int) + (1 : Int)) (ByteArray.mk #[])))).length = (codeE b (codeE a [] ++ [Bc.mk (7 : Int) (0 : Int) (ByteArray.mk #[])])).length + (2 : Nat) ∧ (0 : Nat) + ((codeE b (codeE a [] ++ [Bc.mk (7 : Int) (0 : Int) (ByteArray.mk #[])])).length + (2 : Nat)) ≤ (codeE b (codeE a [] ++ [Bc.mk (7 : Int) (0 : Int) (ByteArray.mk #[])])).length + (2 : Nat) ∧ (codeE b (codeE a [] ++ [Bc.mk (7 : Int) (0 : Int) (ByteArray.mk #[])])).length + (2 : Nat) + (2 : Nat) ≤ (4294967296 : Nat))) = true by (simp; omega))
      let t29 : Tp pr := .b (show (decide ((codeE b (codeE a [] ++ [Bc.mk (7 : Int) (0 : Int) (ByteArray.mk #[])])).length + (2 : Nat) + (2 : Nat) ≤ (codeE b (codeE a [] ++ [Bc.mk (7 : Int) (0 : Int) (ByteArray.mk #[])])).length + (2 : Nat))) = false by simp)
      let t30 : Tp pr := .c (rfl : ((codeE b (codeE a [] ++ [Bc.mk (7 : Int) (0 : Int) (ByteArray.mk #[])])).length + (2 : Nat) + (2 : Nat)) = _)
      let t31 : Tp pr := .n .crows (show ((List.take ((codeE b (codeE a [] ++ [Bc.mk (7 : Int) (0 : Int) (ByteArray.mk #[])])).length + (2 : Nat)) (bcc ((codeE b (codeE a [] ++ [Bc.mk (7 : Int) (0 : Int) (ByteArray.mk #[])]) ++ [Bc.mk (5 : Int) (0 : Int) (ByteArray.mk #[(33 : UInt8)]), Bc.mk (5 : Int) (0 : Int) (ByteArray.mk #[(33 : UInt8)])]).set (codeE a []).length (Bc.mk (7 : Int) ((↑(codeE b (codeE a [] ++ [Bc.mk (7 : Int) (0 : Int) (ByteArray.mk #[])])).length : Int) + (2 : Int) + (1 : Int)) (ByteArray.mk #[]))))).append (List.take (2 : Nat) (List.drop (0 : Nat) [[C.t (T.int IntKind.i64 (6 : Int)), C.t (T.int IntKind.i64 ((↑(codeE b (codeE a [] ++ [Bc.mk (7 : Int) (0 : Int) (ByteArray.mk #[])])).length : Int) + (2 : Int) + (2 : Int))), C.t (T.str (ByteArray.mk #[]))], [C.t (T.int IntKind.i64 (1 : Int)), C.t (T.int IntKind.i64 (0 : Int)), C.t (T.str (ByteArray.mk #[]))]]))) = bcc ((codeE b (codeE a [] ++ [Bc.mk (7 : Int) (0 : Int) (ByteArray.mk #[])]) ++ [Bc.mk (5 : Int) (0 : Int) (ByteArray.mk #[(33 : UInt8)]), Bc.mk (5 : Int) (0 : Int) (ByteArray.mk #[(33 : UInt8)])]).set (codeE a []).length (Bc.mk (7 : Int) ((↑(codeE b (codeE a [] ++ [Bc.mk (7 : Int) (0 : Int) (ByteArray.mk #[])])).length : Int) + (2 : Int) + (1 : Int)) (ByteArray.mk #[])) ++ [Bc.mk (6 : Int) ((↑(codeE b (codeE a [] ++ [Bc.mk (7 : Int) (0 : Int) (ByteArray.mk #[])])).length : Int) + (2 : Int) + (2 : Int)) (ByteArray.mk #[]), Bc.mk (1 : Int) (0 : Int) (ByteArray.mk #[])]) by simp)
      exact .tpe [.b (rfl : false = false), .b (rfl : false = false), .b (rfl : false = false), .b (rfl : false = false), .a (ih), t5, t6, .m (rfl : true = true), t8, t9, t10, t11, t12, .m (rfl : true = true), t14, t15, t16, t17, t18, t19, t20, t21, t22, t23, t24, t25, t26, .m (rfl : true = true), t28, t29, t30, t31] (Out.val (V.vec (0 : Nat) ((codeE b (codeE a [] ++ [Bc.mk (7 : Int) (0 : Int) (ByteArray.mk #[])])).length + (2 : Nat) + (2 : Nat)) (3 : Nat) (0 : Nat) ((codeE b (codeE a [] ++ [Bc.mk (7 : Int) (0 : Int) (ByteArray.mk #[])])).length + (2 : Nat) + (2 : Nat))) [Ob.vec true (3 : Nat) (bcc ((codeE b (codeE a [] ++ [Bc.mk (7 : Int) (0 : Int) (ByteArray.mk #[])]) ++ [Bc.mk (5 : Int) (0 : Int) (ByteArray.mk #[(33 : UInt8)]), Bc.mk (5 : Int) (0 : Int) (ByteArray.mk #[(33 : UInt8)])]).set (codeE a []).length (Bc.mk (7 : Int) ((↑(codeE b (codeE a [] ++ [Bc.mk (7 : Int) (0 : Int) (ByteArray.mk #[])])).length : Int) + (2 : Int) + (1 : Int)) (ByteArray.mk #[])) ++ [Bc.mk (6 : Int) ((↑(codeE b (codeE a [] ++ [Bc.mk (7 : Int) (0 : Int) (ByteArray.mk #[])])).length : Int) + (2 : Int) + (2 : Int)) (ByteArray.mk #[]), Bc.mk (1 : Int) (0 : Int) (ByteArray.mk #[])]))]) (by kernel_rfl) (((congrArg (fun x => Out.val (V.vec (0 : Nat) x (3 : Nat) (0 : Nat) ((codeE b (codeE a [] ++ [Bc.mk (7 : Int) (0 : Int) (ByteArray.mk #[])])).length + (2 : Nat) + (2 : Nat))) [Ob.vec true (3 : Nat) (bcc ((codeE b (codeE a [] ++ [Bc.mk (7 : Int) (0 : Int) (ByteArray.mk #[])]) ++ [Bc.mk (5 : Int) (0 : Int) (ByteArray.mk #[(33 : UInt8)]), Bc.mk (5 : Int) (0 : Int) (ByteArray.mk #[(33 : UInt8)])]).set (codeE a []).length (Bc.mk (7 : Int) ((↑(codeE b (codeE a [] ++ [Bc.mk (7 : Int) (0 : Int) (ByteArray.mk #[])])).length : Int) + (2 : Int) + (1 : Int)) (ByteArray.mk #[])) ++ [Bc.mk (6 : Int) ((↑(codeE b (codeE a [] ++ [Bc.mk (7 : Int) (0 : Int) (ByteArray.mk #[])])).length : Int) + (2 : Int) + (2 : Int)) (ByteArray.mk #[]), Bc.mk (1 : Int) (0 : Int) (ByteArray.mk #[])]))]) (show ((codeE b (codeE a [] ++ [Bc.mk (7 : Int) (0 : Int) (ByteArray.mk #[])])).length + (2 : Nat) + (2 : Nat)) = ((codeE (E.two s a b) []).length) by simp [codeE, bNot, h1])).trans (congrArg (fun x => Out.val (V.vec (0 : Nat) (codeE (E.two s a b) []).length (3 : Nat) (0 : Nat) x) [Ob.vec true (3 : Nat) (bcc ((codeE b (codeE a [] ++ [Bc.mk (7 : Int) (0 : Int) (ByteArray.mk #[])]) ++ [Bc.mk (5 : Int) (0 : Int) (ByteArray.mk #[(33 : UInt8)]), Bc.mk (5 : Int) (0 : Int) (ByteArray.mk #[(33 : UInt8)])]).set (codeE a []).length (Bc.mk (7 : Int) ((↑(codeE b (codeE a [] ++ [Bc.mk (7 : Int) (0 : Int) (ByteArray.mk #[])])).length : Int) + (2 : Int) + (1 : Int)) (ByteArray.mk #[])) ++ [Bc.mk (6 : Int) ((↑(codeE b (codeE a [] ++ [Bc.mk (7 : Int) (0 : Int) (ByteArray.mk #[])])).length : Int) + (2 : Int) + (2 : Int)) (ByteArray.mk #[]), Bc.mk (1 : Int) (0 : Int) (ByteArray.mk #[])]))]) (show ((codeE b (codeE a [] ++ [Bc.mk (7 : Int) (0 : Int) (ByteArray.mk #[])])).length + (2 : Nat) + (2 : Nat)) = ((codeE (E.two s a b) []).length) by simp [codeE, bNot, h1]))).trans (congrArg (fun x => Out.val (V.vec (0 : Nat) (codeE (E.two s a b) []).length (3 : Nat) (0 : Nat) (codeE (E.two s a b) []).length) [Ob.vec true (3 : Nat) x]) (show (bcc ((codeE b (codeE a [] ++ [Bc.mk (7 : Int) (0 : Int) (ByteArray.mk #[])]) ++ [Bc.mk (5 : Int) (0 : Int) (ByteArray.mk #[(33 : UInt8)]), Bc.mk (5 : Int) (0 : Int) (ByteArray.mk #[(33 : UInt8)])]).set (codeE a []).length (Bc.mk (7 : Int) ((↑(codeE b (codeE a [] ++ [Bc.mk (7 : Int) (0 : Int) (ByteArray.mk #[])])).length : Int) + (2 : Int) + (1 : Int)) (ByteArray.mk #[])) ++ [Bc.mk (6 : Int) ((↑(codeE b (codeE a [] ++ [Bc.mk (7 : Int) (0 : Int) (ByteArray.mk #[])])).length : Int) + (2 : Int) + (2 : Int)) (ByteArray.mk #[]), Bc.mk (1 : Int) (0 : Int) (ByteArray.mk #[])])) = (bcc (codeE (E.two s a b) [])) by simp [codeE, bNot, h1])))
    · by_cases h2 : s.toList = [124, 124]
      · have ih2 := made_ev b (codeE a [] ++ [⟨7, (codeE a []).length + 3, e0⟩, ⟨1, 1, e0⟩, ⟨6, 0, e0⟩]) (by simp; omega)
        have hl2 := codeE_len b (codeE a [] ++ [⟨7, (codeE a []).length + 3, e0⟩, ⟨1, 1, e0⟩, ⟨6, 0, e0⟩])
        have hg := codeE_get b (codeE a [] ++ [⟨7, (codeE a []).length + 3, e0⟩, ⟨1, 1, e0⟩, ⟨6, 0, e0⟩]) ((codeE a []).length + 2) (by simp)
        have hg2 : (bcc (codeE b (codeE a [] ++ [⟨7, (codeE a []).length + 3, e0⟩, ⟨1, 1, e0⟩, ⟨6, 0, e0⟩]) ++ [bNot, bNot]))[(codeE a []).length + 2]? = some (Bc.cc ⟨6, 0, e0⟩) := by
          simp at hl2
          rw [bcc_app, List.getElem?_append_left (by simp; omega)]
          simp [bcc, hg]
        simp at hl2
        let t5 : Tp pr := .i (rfl : ((↑(codeE a []).length : Int)) = _)
        let t6 : Tp pr := .b (show ((E.two s a b).text.toList == [(38 : UInt8), (38 : UInt8)]) = false by (simp; omega))
        let t7 : Tp pr := .b (show ((E.two s a b).text.toList == [(124 : UInt8), (124 : UInt8)]) = true by (simp; omega))
        let t8 : Tp pr := .i (wrap_i64 (a := (↑(codeE a []).length : Int) + (3 : Int)) (by omega) (by omega))
        let t10 : Tp pr := .m (show (decide ((bcc (codeE a [])).length = (codeE a []).length ∧ (0 : Nat) + (codeE a []).length ≤ (codeE a []).length ∧ (codeE a []).length + (3 : Nat) ≤ (4294967296 : Nat))) = true by (simp; omega))
        let t11 : Tp pr := .b (show (decide ((codeE a []).length + (3 : Nat) ≤ (codeE a []).length)) = false by simp)
        let t12 : Tp pr := .c (rfl : ((codeE a []).length + (3 : Nat)) = _)
        let t13 : Tp pr := .n .crows (show ((List.take (codeE a []).length (bcc (codeE a []))).append (List.take (3 : Nat) (List.drop (0 : Nat) [[C.t (T.int IntKind.i64 (7 : Int)), C.t (T.int IntKind.i64 ((↑(codeE a []).length : Int) + (3 : Int))), C.t (T.str (ByteArray.mk #[]))], [C.t (T.int IntKind.i64 (1 : Int)), C.t (T.int IntKind.i64 (1 : Int)), C.t (T.str (ByteArray.mk #[]))], [C.t (T.int IntKind.i64 (6 : Int)), C.t (T.int IntKind.i64 (0 : Int)), C.t (T.str (ByteArray.mk #[]))]]))) = bcc (codeE a [] ++ [Bc.mk (7 : Int) ((↑(codeE a []).length : Int) + (3 : Int)) (ByteArray.mk #[]), Bc.mk (1 : Int) (1 : Int) (ByteArray.mk #[]), Bc.mk (6 : Int) (0 : Int) (ByteArray.mk #[])]) by simp)
        let t14 : Tp pr := .a (Ev.castq (congrArg (fun x => Q.call (51 : FuncId) [V.t b.tp, V.vec (0 : Nat) x (3 : Nat) (0 : Nat) x] [Ob.vec true (3 : Nat) (bcc (codeE a [] ++ [Bc.mk (7 : Int) ((↑(codeE a []).length : Int) + (3 : Int)) e0, Bc.mk (1 : Int) (1 : Int) e0, Bc.mk (6 : Int) (0 : Int) e0]))]) (show ((codeE a [] ++ [Bc.mk (7 : Int) ((↑(codeE a []).length : Int) + (3 : Int)) e0, Bc.mk (1 : Int) (1 : Int) e0, Bc.mk (6 : Int) (0 : Int) e0]).length) = ((codeE a []).length + (3 : Nat)) by simp [codeE, bNot, h1, h2])) (ih2))
        let t16 : Tp pr := .m (show (decide ((bcc (codeE b (codeE a [] ++ [Bc.mk (7 : Int) ((↑(codeE a []).length : Int) + (3 : Int)) e0, Bc.mk (1 : Int) (1 : Int) e0, Bc.mk (6 : Int) (0 : Int) e0]))).length = (codeE b (codeE a [] ++ [Bc.mk (7 : Int) ((↑(codeE a []).length : Int) + (3 : Int)) e0, Bc.mk (1 : Int) (1 : Int) e0, Bc.mk (6 : Int) (0 : Int) e0])).length ∧ (0 : Nat) + (codeE b (codeE a [] ++ [Bc.mk (7 : Int) ((↑(codeE a []).length : Int) + (3 : Int)) e0, Bc.mk (1 : Int) (1 : Int) e0, Bc.mk (6 : Int) (0 : Int) e0])).length ≤ (codeE b (codeE a [] ++ [Bc.mk (7 : Int) ((↑(codeE a []).length : Int) + (3 : Int)) e0, Bc.mk (1 : Int) (1 : Int) e0, Bc.mk (6 : Int) (0 : Int) e0])).length ∧ (codeE b (codeE a [] ++ [Bc.mk (7 : Int) ((↑(codeE a []).length : Int) + (3 : Int)) e0, Bc.mk (1 : Int) (1 : Int) e0, Bc.mk (6 : Int) (0 : Int) e0])).length + (2 : Nat) ≤ (4294967296 : Nat))) = true by (simp; omega))
        let t17 : Tp pr := .b (show (decide ((codeE b (codeE a [] ++ [Bc.mk (7 : Int) ((↑(codeE a []).length : Int) + (3 : Int)) e0, Bc.mk (1 : Int) (1 : Int) e0, Bc.mk (6 : Int) (0 : Int) e0])).length + (2 : Nat) ≤ (codeE b (codeE a [] ++ [Bc.mk (7 : Int) ((↑(codeE a []).length : Int) + (3 : Int)) e0, Bc.mk (1 : Int) (1 : Int) e0, Bc.mk (6 : Int) (0 : Int) e0])).length)) = false by simp)
        let t18 : Tp pr := .c (show ((codeE b (codeE a [] ++ [Bc.mk (7 : Int) ((↑(codeE a []).length : Int) + (3 : Int)) e0, Bc.mk (1 : Int) (1 : Int) e0, Bc.mk (6 : Int) (0 : Int) e0])).length + (2 : Nat) : Nat) = (codeE b (codeE a [] ++ [Bc.mk (7 : Int) ((↑(codeE a []).length : Int) + (3 : Int)) (ByteArray.mk #[]), Bc.mk (1 : Int) (1 : Int) (ByteArray.mk #[]), Bc.mk (6 : Int) (0 : Int) (ByteArray.mk #[])])).length + (2 : Nat) by rfl)
        let t19 : Tp pr := .n .crows (show ((List.take (codeE b (codeE a [] ++ [Bc.mk (7 : Int) ((↑(codeE a []).length : Int) + (3 : Int)) e0, Bc.mk (1 : Int) (1 : Int) e0, Bc.mk (6 : Int) (0 : Int) e0])).length (bcc (codeE b (codeE a [] ++ [Bc.mk (7 : Int) ((↑(codeE a []).length : Int) + (3 : Int)) e0, Bc.mk (1 : Int) (1 : Int) e0, Bc.mk (6 : Int) (0 : Int) e0])))).append (List.take (2 : Nat) (List.drop (0 : Nat) [[C.t (T.int IntKind.i64 (5 : Int)), C.t (T.int IntKind.i64 (0 : Int)), C.t (T.str (ByteArray.mk #[(33 : UInt8)]))], [C.t (T.int IntKind.i64 (5 : Int)), C.t (T.int IntKind.i64 (0 : Int)), C.t (T.str (ByteArray.mk #[(33 : UInt8)]))]]))) = bcc (codeE b (codeE a [] ++ [Bc.mk (7 : Int) ((↑(codeE a []).length : Int) + (3 : Int)) (ByteArray.mk #[]), Bc.mk (1 : Int) (1 : Int) (ByteArray.mk #[]), Bc.mk (6 : Int) (0 : Int) (ByteArray.mk #[])]) ++ [Bc.mk (5 : Int) (0 : Int) (ByteArray.mk #[(33 : UInt8)]), Bc.mk (5 : Int) (0 : Int) (ByteArray.mk #[(33 : UInt8)])]) by simp)
        let t20 : Tp pr := .i (wrap_i64 (a := (↑(codeE a []).length : Int) + (2 : Int)) (by omega) (by omega))
        let t21 : Tp pr := .i (show ((↑((codeE b (codeE a [] ++ [Bc.mk (7 : Int) ((↑(codeE a []).length : Int) + (3 : Int)) (ByteArray.mk #[]), Bc.mk (1 : Int) (1 : Int) (ByteArray.mk #[]), Bc.mk (6 : Int) (0 : Int) (ByteArray.mk #[])])).length + (2 : Nat)) : Int) : Int) = (↑(codeE b (codeE a [] ++ [Bc.mk (7 : Int) ((↑(codeE a []).length : Int) + (3 : Int)) (ByteArray.mk #[]), Bc.mk (1 : Int) (1 : Int) (ByteArray.mk #[]), Bc.mk (6 : Int) (0 : Int) (ByteArray.mk #[])])).length : Int) + (2 : Int) by omega)
        let t22 : Tp pr := .m (show (decide ((0 : Int) ≤ (↑(codeE a []).length : Int) + (2 : Int) ∧ ((↑(codeE a []).length : Int) + (2 : Int)).toNat < (codeE b (codeE a [] ++ [Bc.mk (7 : Int) ((↑(codeE a []).length : Int) + (3 : Int)) (ByteArray.mk #[]), Bc.mk (1 : Int) (1 : Int) (ByteArray.mk #[]), Bc.mk (6 : Int) (0 : Int) (ByteArray.mk #[])])).length + (2 : Nat))) = true by (simp; omega))
        let t23 : Tp pr := .c (show ((0 : Nat) + ((↑(codeE a []).length : Int) + (2 : Int)).toNat : Nat) = (codeE a []).length + (2 : Nat) by omega)
        let t24 : Tp pr := .m (show (decide ((bcc (codeE b (codeE a [] ++ [Bc.mk (7 : Int) ((↑(codeE a []).length : Int) + (3 : Int)) (ByteArray.mk #[]), Bc.mk (1 : Int) (1 : Int) (ByteArray.mk #[]), Bc.mk (6 : Int) (0 : Int) (ByteArray.mk #[])]) ++ [Bc.mk (5 : Int) (0 : Int) (ByteArray.mk #[(33 : UInt8)]), Bc.mk (5 : Int) (0 : Int) (ByteArray.mk #[(33 : UInt8)])])).length = (codeE b (codeE a [] ++ [Bc.mk (7 : Int) ((↑(codeE a []).length : Int) + (3 : Int)) (ByteArray.mk #[]), Bc.mk (1 : Int) (1 : Int) (ByteArray.mk #[]), Bc.mk (6 : Int) (0 : Int) (ByteArray.mk #[])])).length + (2 : Nat))) = true by simp)
        let t25 : Tp pr := .g .crow (show ((bcc (codeE b (codeE a [] ++ [Bc.mk (7 : Int) ((↑(codeE a []).length : Int) + (3 : Int)) (ByteArray.mk #[]), Bc.mk (1 : Int) (1 : Int) (ByteArray.mk #[]), Bc.mk (6 : Int) (0 : Int) (ByteArray.mk #[])]) ++ [Bc.mk (5 : Int) (0 : Int) (ByteArray.mk #[(33 : UInt8)]), Bc.mk (5 : Int) (0 : Int) (ByteArray.mk #[(33 : UInt8)])]))[(codeE a []).length + (2 : Nat)]?) = some ((Bc.mk (6 : Int) (0 : Int) e0).cc) from hg2)
        let t26 : Tp pr := .n .crows (show ((bcc (codeE b (codeE a [] ++ [Bc.mk (7 : Int) ((↑(codeE a []).length : Int) + (3 : Int)) (ByteArray.mk #[]), Bc.mk (1 : Int) (1 : Int) (ByteArray.mk #[]), Bc.mk (6 : Int) (0 : Int) (ByteArray.mk #[])]) ++ [Bc.mk (5 : Int) (0 : Int) (ByteArray.mk #[(33 : UInt8)]), Bc.mk (5 : Int) (0 : Int) (ByteArray.mk #[(33 : UInt8)])])).set ((codeE a []).length + (2 : Nat)) [C.t (T.int IntKind.i64 (6 : Int)), C.t (T.int IntKind.i64 ((↑(codeE b (codeE a [] ++ [Bc.mk (7 : Int) ((↑(codeE a []).length : Int) + (3 : Int)) (ByteArray.mk #[]), Bc.mk (1 : Int) (1 : Int) (ByteArray.mk #[]), Bc.mk (6 : Int) (0 : Int) (ByteArray.mk #[])])).length : Int) + (2 : Int))), C.t (T.str (ByteArray.mk #[]))]) = bcc ((codeE b (codeE a [] ++ [Bc.mk (7 : Int) ((↑(codeE a []).length : Int) + (3 : Int)) (ByteArray.mk #[]), Bc.mk (1 : Int) (1 : Int) (ByteArray.mk #[]), Bc.mk (6 : Int) (0 : Int) (ByteArray.mk #[])]) ++ [Bc.mk (5 : Int) (0 : Int) (ByteArray.mk #[(33 : UInt8)]), Bc.mk (5 : Int) (0 : Int) (ByteArray.mk #[(33 : UInt8)])]).set ((codeE a []).length + (2 : Nat)) (Bc.mk (6 : Int) ((↑(codeE b (codeE a [] ++ [Bc.mk (7 : Int) ((↑(codeE a []).length : Int) + (3 : Int)) (ByteArray.mk #[]), Bc.mk (1 : Int) (1 : Int) (ByteArray.mk #[]), Bc.mk (6 : Int) (0 : Int) (ByteArray.mk #[])])).length : Int) + (2 : Int)) (ByteArray.mk #[]))) by simp)
        exact .tpe [.b (rfl : false = false), .b (rfl : false = false), .b (rfl : false = false), .b (rfl : false = false), .a (ih), t5, t6, t7, t8, .m (rfl : true = true), t10, t11, t12, t13, t14, .m (rfl : true = true), t16, t17, t18, t19, t20, t21, t22, t23, t24, t25, t26] (Out.val (V.vec (0 : Nat) ((codeE b (codeE a [] ++ [Bc.mk (7 : Int) ((↑(codeE a []).length : Int) + (3 : Int)) (ByteArray.mk #[]), Bc.mk (1 : Int) (1 : Int) (ByteArray.mk #[]), Bc.mk (6 : Int) (0 : Int) (ByteArray.mk #[])])).length + (2 : Nat)) (3 : Nat) (0 : Nat) ((codeE b (codeE a [] ++ [Bc.mk (7 : Int) ((↑(codeE a []).length : Int) + (3 : Int)) (ByteArray.mk #[]), Bc.mk (1 : Int) (1 : Int) (ByteArray.mk #[]), Bc.mk (6 : Int) (0 : Int) (ByteArray.mk #[])])).length + (2 : Nat))) [Ob.vec true (3 : Nat) (bcc ((codeE b (codeE a [] ++ [Bc.mk (7 : Int) ((↑(codeE a []).length : Int) + (3 : Int)) (ByteArray.mk #[]), Bc.mk (1 : Int) (1 : Int) (ByteArray.mk #[]), Bc.mk (6 : Int) (0 : Int) (ByteArray.mk #[])]) ++ [Bc.mk (5 : Int) (0 : Int) (ByteArray.mk #[(33 : UInt8)]), Bc.mk (5 : Int) (0 : Int) (ByteArray.mk #[(33 : UInt8)])]).set ((codeE a []).length + (2 : Nat)) (Bc.mk (6 : Int) ((↑(codeE b (codeE a [] ++ [Bc.mk (7 : Int) ((↑(codeE a []).length : Int) + (3 : Int)) (ByteArray.mk #[]), Bc.mk (1 : Int) (1 : Int) (ByteArray.mk #[]), Bc.mk (6 : Int) (0 : Int) (ByteArray.mk #[])])).length : Int) + (2 : Int)) (ByteArray.mk #[]))))]) (by kernel_rfl) (((congrArg (fun x => Out.val (V.vec (0 : Nat) x (3 : Nat) (0 : Nat) ((codeE b (codeE a [] ++ [Bc.mk (7 : Int) ((↑(codeE a []).length : Int) + (3 : Int)) (ByteArray.mk #[]), Bc.mk (1 : Int) (1 : Int) (ByteArray.mk #[]), Bc.mk (6 : Int) (0 : Int) (ByteArray.mk #[])])).length + (2 : Nat))) [Ob.vec true (3 : Nat) (bcc ((codeE b (codeE a [] ++ [Bc.mk (7 : Int) ((↑(codeE a []).length : Int) + (3 : Int)) (ByteArray.mk #[]), Bc.mk (1 : Int) (1 : Int) (ByteArray.mk #[]), Bc.mk (6 : Int) (0 : Int) (ByteArray.mk #[])]) ++ [Bc.mk (5 : Int) (0 : Int) (ByteArray.mk #[(33 : UInt8)]), Bc.mk (5 : Int) (0 : Int) (ByteArray.mk #[(33 : UInt8)])]).set ((codeE a []).length + (2 : Nat)) (Bc.mk (6 : Int) ((↑(codeE b (codeE a [] ++ [Bc.mk (7 : Int) ((↑(codeE a []).length : Int) + (3 : Int)) (ByteArray.mk #[]), Bc.mk (1 : Int) (1 : Int) (ByteArray.mk #[]), Bc.mk (6 : Int) (0 : Int) (ByteArray.mk #[])])).length : Int) + (2 : Int)) (ByteArray.mk #[]))))]) (show ((codeE b (codeE a [] ++ [Bc.mk (7 : Int) ((↑(codeE a []).length : Int) + (3 : Int)) (ByteArray.mk #[]), Bc.mk (1 : Int) (1 : Int) (ByteArray.mk #[]), Bc.mk (6 : Int) (0 : Int) (ByteArray.mk #[])])).length + (2 : Nat)) = ((codeE (E.two s a b) []).length) by simp [codeE, bNot, h1, h2])).trans (congrArg (fun x => Out.val (V.vec (0 : Nat) (codeE (E.two s a b) []).length (3 : Nat) (0 : Nat) x) [Ob.vec true (3 : Nat) (bcc ((codeE b (codeE a [] ++ [Bc.mk (7 : Int) ((↑(codeE a []).length : Int) + (3 : Int)) (ByteArray.mk #[]), Bc.mk (1 : Int) (1 : Int) (ByteArray.mk #[]), Bc.mk (6 : Int) (0 : Int) (ByteArray.mk #[])]) ++ [Bc.mk (5 : Int) (0 : Int) (ByteArray.mk #[(33 : UInt8)]), Bc.mk (5 : Int) (0 : Int) (ByteArray.mk #[(33 : UInt8)])]).set ((codeE a []).length + (2 : Nat)) (Bc.mk (6 : Int) ((↑(codeE b (codeE a [] ++ [Bc.mk (7 : Int) ((↑(codeE a []).length : Int) + (3 : Int)) (ByteArray.mk #[]), Bc.mk (1 : Int) (1 : Int) (ByteArray.mk #[]), Bc.mk (6 : Int) (0 : Int) (ByteArray.mk #[])])).length : Int) + (2 : Int)) (ByteArray.mk #[]))))]) (show ((codeE b (codeE a [] ++ [Bc.mk (7 : Int) ((↑(codeE a []).length : Int) + (3 : Int)) (ByteArray.mk #[]), Bc.mk (1 : Int) (1 : Int) (ByteArray.mk #[]), Bc.mk (6 : Int) (0 : Int) (ByteArray.mk #[])])).length + (2 : Nat)) = ((codeE (E.two s a b) []).length) by simp [codeE, bNot, h1, h2]))).trans (congrArg (fun x => Out.val (V.vec (0 : Nat) (codeE (E.two s a b) []).length (3 : Nat) (0 : Nat) (codeE (E.two s a b) []).length) [Ob.vec true (3 : Nat) x]) (show (bcc ((codeE b (codeE a [] ++ [Bc.mk (7 : Int) ((↑(codeE a []).length : Int) + (3 : Int)) (ByteArray.mk #[]), Bc.mk (1 : Int) (1 : Int) (ByteArray.mk #[]), Bc.mk (6 : Int) (0 : Int) (ByteArray.mk #[])]) ++ [Bc.mk (5 : Int) (0 : Int) (ByteArray.mk #[(33 : UInt8)]), Bc.mk (5 : Int) (0 : Int) (ByteArray.mk #[(33 : UInt8)])]).set ((codeE a []).length + (2 : Nat)) (Bc.mk (6 : Int) ((↑(codeE b (codeE a [] ++ [Bc.mk (7 : Int) ((↑(codeE a []).length : Int) + (3 : Int)) (ByteArray.mk #[]), Bc.mk (1 : Int) (1 : Int) (ByteArray.mk #[]), Bc.mk (6 : Int) (0 : Int) (ByteArray.mk #[])])).length : Int) + (2 : Int)) (ByteArray.mk #[])))) = (bcc (codeE (E.two s a b) [])) by simp [codeE, bNot, h1, h2])))
      · have ih2 := made_ev b (codeE a []) (by omega)
        have hl2 := codeE_len b (codeE a [])
        let t5 : Tp pr := .i (rfl : ((↑(codeE a []).length : Int)) = _)
        let t6 : Tp pr := .b (show ((E.two s a b).text.toList == [(38 : UInt8), (38 : UInt8)]) = false by (simp; omega))
        let t7 : Tp pr := .b (show ((E.two s a b).text.toList == [(124 : UInt8), (124 : UInt8)]) = false by (simp; omega))
        let t10 : Tp pr := .m (show (decide ((bcc (codeE b (codeE a []))).length = (codeE b (codeE a [])).length ∧ (0 : Nat) + (codeE b (codeE a [])).length ≤ (codeE b (codeE a [])).length ∧ (codeE b (codeE a [])).length + (1 : Nat) ≤ (4294967296 : Nat))) = true by (simp; omega))
        let t11 : Tp pr := .b (show (decide ((codeE b (codeE a [])).length + (1 : Nat) ≤ (codeE b (codeE a [])).length)) = false by simp)
        let t12 : Tp pr := .c (rfl : ((codeE b (codeE a [])).length + (1 : Nat)) = _)
        let t13 : Tp pr := .n .crows (show ((List.take (codeE b (codeE a [])).length (bcc (codeE b (codeE a [])))).append (List.take (1 : Nat) (List.drop (0 : Nat) [[C.t (T.int IntKind.i64 (4 : Int)), C.t (T.int IntKind.i64 (0 : Int)), C.t (T.str (E.two s a b).text)]]))) = bcc (codeE b (codeE a []) ++ [Bc.mk (4 : Int) (0 : Int) s]) by simp)
        exact .tpe [.b (rfl : false = false), .b (rfl : false = false), .b (rfl : false = false), .b (rfl : false = false), .a (ih), t5, t6, t7, .a (ih2), .m (rfl : true = true), t10, t11, t12, t13] (Out.val (V.vec (0 : Nat) ((codeE b (codeE a [])).length + (1 : Nat)) (3 : Nat) (0 : Nat) ((codeE b (codeE a [])).length + (1 : Nat))) [Ob.vec true (3 : Nat) (bcc (codeE b (codeE a []) ++ [Bc.mk (4 : Int) (0 : Int) s]))]) (by kernel_rfl) (((congrArg (fun x => Out.val (V.vec (0 : Nat) x (3 : Nat) (0 : Nat) ((codeE b (codeE a [])).length + (1 : Nat))) [Ob.vec true (3 : Nat) (bcc (codeE b (codeE a []) ++ [Bc.mk (4 : Int) (0 : Int) s]))]) (show ((codeE b (codeE a [])).length + (1 : Nat)) = ((codeE (E.two s a b) []).length) by simp [codeE, bNot, h1, h2])).trans (congrArg (fun x => Out.val (V.vec (0 : Nat) (codeE (E.two s a b) []).length (3 : Nat) (0 : Nat) x) [Ob.vec true (3 : Nat) (bcc (codeE b (codeE a []) ++ [Bc.mk (4 : Int) (0 : Int) s]))]) (show ((codeE b (codeE a [])).length + (1 : Nat)) = ((codeE (E.two s a b) []).length) by simp [codeE, bNot, h1, h2]))).trans (congrArg (fun x => Out.val (V.vec (0 : Nat) (codeE (E.two s a b) []).length (3 : Nat) (0 : Nat) (codeE (E.two s a b) []).length) [Ob.vec true (3 : Nat) x]) (show (bcc (codeE b (codeE a []) ++ [Bc.mk (4 : Int) (0 : Int) s])) = (bcc (codeE (E.two s a b) [])) by simp [codeE, bNot, h1, h2])))
end Go.Ev

/- Code that is made of an expression: from nothing; the reference's. -/
namespace Go.Ev
set_option linter.unusedVariables false
set_option linter.unusedSimpArgs false
open Go.Proofs
set_option maxRecDepth 100000
set_option linter.unusedVariables false
set_option maxHeartbeats 1000000
attribute [local simp] e0
theorem l17Not_ev : Ev pr (.call 74 [] []) (.val (.agg [i64 5, i64 0, .t (.str sNot)]) []) := by
  exact .tp [] (by kernel_rfl)
theorem l17Make_ev : ∀ (e : E) (l : List Bc), l.length + 6 * e.size ≤ 1000000 → e.names = true →
    Ev pr (.call 48 [vs e.ts, .vec 0 l.length 3 0 l.length] [.vec true 3 (bcc l)]) (.val (.vec 0 (codeE e l).length 3 0 (codeE e l).length) [.vec true 3 (bcc (codeE e l))])
  | .num n, l, h, hn => by
    let t2 : Tp pr := .m (show (decide ((bcc l).length = l.length ∧ (0 : Nat) + l.length ≤ l.length ∧ l.length + (1 : Nat) ≤ (4294967296 : Nat))) = true by (simp; omega))
    let t3 : Tp pr := .b (show (decide (l.length + (1 : Nat) ≤ l.length)) = false by simp)
    let t5 : Tp pr := .n .crows (show ((List.take l.length (bcc l)).append (List.take (1 : Nat) (List.drop (0 : Nat) [[C.t (T.int IntKind.i64 (1 : Int)), C.t (T.int IntKind.i64 (E.num n).nm), C.t (T.str (ByteArray.mk #[]))]]))) = bcc (l ++ [Bc.mk (1 : Int) n (ByteArray.mk #[])]) by simp)
    exact .tpe [.b (rfl : true = true), .m (rfl : true = true), t2, t3, .c (rfl : (l.length + (1 : Nat)) = _), t5] (Out.val (V.vec (0 : Nat) (l.length + (1 : Nat)) (3 : Nat) (0 : Nat) (l.length + (1 : Nat))) [Ob.vec true (3 : Nat) (bcc (l ++ [Bc.mk (1 : Int) n (ByteArray.mk #[])]))]) (by kernel_rfl) (((congrArg (fun x => Out.val (V.vec (0 : Nat) x (3 : Nat) (0 : Nat) (l.length + (1 : Nat))) [Ob.vec true (3 : Nat) (bcc (l ++ [Bc.mk (1 : Int) n (ByteArray.mk #[])]))]) (show (l.length + (1 : Nat)) = ((codeE (E.num n) l).length) by simp [codeE])).trans (congrArg (fun x => Out.val (V.vec (0 : Nat) (codeE (E.num n) l).length (3 : Nat) (0 : Nat) x) [Ob.vec true (3 : Nat) (bcc (l ++ [Bc.mk (1 : Int) n (ByteArray.mk #[])]))]) (show (l.length + (1 : Nat)) = ((codeE (E.num n) l).length) by simp [codeE]))).trans (congrArg (fun x => Out.val (V.vec (0 : Nat) (codeE (E.num n) l).length (3 : Nat) (0 : Nat) (codeE (E.num n) l).length) [Ob.vec true (3 : Nat) x]) (show (bcc (l ++ [Bc.mk (1 : Int) n (ByteArray.mk #[])])) = (bcc (codeE (E.num n) l)) by simp [codeE])))
  | .name s, l, h, hn => by
    have hk := NameNoS_ev s
    have hk0 : 0 ≤ nameNo s := by simpa [E.names] using hn
    rw [if_neg (by omega)] at hk
    let t4 : Tp pr := .m (show (decide ((bcc l).length = l.length ∧ (0 : Nat) + l.length ≤ l.length ∧ l.length + (1 : Nat) ≤ (4294967296 : Nat))) = true by (simp; omega))
    let t5 : Tp pr := .b (show (decide (l.length + (1 : Nat) ≤ l.length)) = false by simp)
    let t7 : Tp pr := .n .crows (show ((List.take l.length (bcc l)).append (List.take (1 : Nat) (List.drop (0 : Nat) [[C.t (T.int IntKind.i64 (2 : Int)), C.t (T.int IntKind.i64 (nameNo s)), C.t (T.str (ByteArray.mk #[]))]]))) = bcc (l ++ [Bc.mk (2 : Int) (nameNo s) (ByteArray.mk #[])]) by simp)
    exact .tpe [.b (rfl : false = false), .b (rfl : true = true), .a (hk), .m (rfl : true = true), t4, t5, .c (rfl : (l.length + (1 : Nat)) = _), t7] (Out.val (V.vec (0 : Nat) (l.length + (1 : Nat)) (3 : Nat) (0 : Nat) (l.length + (1 : Nat))) [Ob.vec true (3 : Nat) (bcc (l ++ [Bc.mk (2 : Int) (nameNo s) (ByteArray.mk #[])]))]) (by kernel_rfl) (((congrArg (fun x => Out.val (V.vec (0 : Nat) x (3 : Nat) (0 : Nat) (l.length + (1 : Nat))) [Ob.vec true (3 : Nat) (bcc (l ++ [Bc.mk (2 : Int) (nameNo s) (ByteArray.mk #[])]))]) (show (l.length + (1 : Nat)) = ((codeE (E.name s) l).length) by simp [codeE])).trans (congrArg (fun x => Out.val (V.vec (0 : Nat) (codeE (E.name s) l).length (3 : Nat) (0 : Nat) x) [Ob.vec true (3 : Nat) (bcc (l ++ [Bc.mk (2 : Int) (nameNo s) (ByteArray.mk #[])]))]) (show (l.length + (1 : Nat)) = ((codeE (E.name s) l).length) by simp [codeE]))).trans (congrArg (fun x => Out.val (V.vec (0 : Nat) (codeE (E.name s) l).length (3 : Nat) (0 : Nat) (codeE (E.name s) l).length) [Ob.vec true (3 : Nat) x]) (show (bcc (l ++ [Bc.mk (2 : Int) (nameNo s) (ByteArray.mk #[])])) = (bcc (codeE (E.name s) l)) by simp [codeE])))
  | .neg a, l, h, hn => by
    have g0 : lkp (E.neg a).kids 0 = some a.ts := rfl
    have ih := l17Make_ev a l (by simp [E.size] at h; omega) (by simp [E.names] at hn; simp [hn])
    have hl := codeE_len a l
    simp only [E.size] at h
    let t2 : Tp pr := .g .row (show (lkp a.neg.kids (0 : Int)) = some (a.ts) from g0)
    let t6 : Tp pr := .m (show (decide ((bcc (codeE a l)).length = (codeE a l).length ∧ (0 : Nat) + (codeE a l).length ≤ (codeE a l).length ∧ (codeE a l).length + (1 : Nat) ≤ (4294967296 : Nat))) = true by (simp; omega))
    let t7 : Tp pr := .b (show (decide ((codeE a l).length + (1 : Nat) ≤ (codeE a l).length)) = false by simp)
    let t8 : Tp pr := .c (rfl : ((codeE a l).length + (1 : Nat)) = _)
    let t9 : Tp pr := .n .crows (show ((List.take (codeE a l).length (bcc (codeE a l))).append (List.take (1 : Nat) (List.drop (0 : Nat) [[C.t (T.int IntKind.i64 (5 : Int)), C.t (T.int IntKind.i64 (0 : Int)), C.t (T.str (ByteArray.mk #[(45 : UInt8)]))]]))) = bcc (codeE a l ++ [Bc.mk (5 : Int) (0 : Int) (ByteArray.mk #[(45 : UInt8)])]) by simp)
    exact .tpe [.b (rfl : false = false), .b (rfl : false = false), t2, .a (ih), .b (rfl : true = true), .m (rfl : true = true), t6, t7, t8, t9] (Out.val (V.vec (0 : Nat) ((codeE a l).length + (1 : Nat)) (3 : Nat) (0 : Nat) ((codeE a l).length + (1 : Nat))) [Ob.vec true (3 : Nat) (bcc (codeE a l ++ [Bc.mk (5 : Int) (0 : Int) (ByteArray.mk #[(45 : UInt8)])]))]) (by kernel_rfl) (((congrArg (fun x => Out.val (V.vec (0 : Nat) x (3 : Nat) (0 : Nat) ((codeE a l).length + (1 : Nat))) [Ob.vec true (3 : Nat) (bcc (codeE a l ++ [Bc.mk (5 : Int) (0 : Int) (ByteArray.mk #[(45 : UInt8)])]))]) (show ((codeE a l).length + (1 : Nat)) = ((codeE a.neg l).length) by simp [codeE])).trans (congrArg (fun x => Out.val (V.vec (0 : Nat) (codeE a.neg l).length (3 : Nat) (0 : Nat) x) [Ob.vec true (3 : Nat) (bcc (codeE a l ++ [Bc.mk (5 : Int) (0 : Int) (ByteArray.mk #[(45 : UInt8)])]))]) (show ((codeE a l).length + (1 : Nat)) = ((codeE a.neg l).length) by simp [codeE]))).trans (congrArg (fun x => Out.val (V.vec (0 : Nat) (codeE a.neg l).length (3 : Nat) (0 : Nat) (codeE a.neg l).length) [Ob.vec true (3 : Nat) x]) (show (bcc (codeE a l ++ [Bc.mk (5 : Int) (0 : Int) (ByteArray.mk #[(45 : UInt8)])])) = (bcc (codeE a.neg l)) by simp [codeE])))
  | .not a, l, h, hn => by
    have g0 : lkp (E.not a).kids 0 = some a.ts := rfl
    have ih := l17Make_ev a l (by simp [E.size] at h; omega) (by simp [E.names] at hn; simp [hn])
    have hl := codeE_len a l
    simp only [E.size] at h
    let t2 : Tp pr := .g .row (show (lkp a.not.kids (0 : Int)) = some (a.ts) from g0)
    let t8 : Tp pr := .m (show (decide ((bcc (codeE a l)).length = (codeE a l).length ∧ (0 : Nat) + (codeE a l).length ≤ (codeE a l).length ∧ (codeE a l).length + (1 : Nat) ≤ (4294967296 : Nat))) = true by (simp; omega))
    let t9 : Tp pr := .b (show (decide ((codeE a l).length + (1 : Nat) ≤ (codeE a l).length)) = false by simp)
    let t10 : Tp pr := .c (rfl : ((codeE a l).length + (1 : Nat)) = _)
    let t11 : Tp pr := .n .crows (show ((List.take (codeE a l).length (bcc (codeE a l))).append (List.take (1 : Nat) (List.drop (0 : Nat) [[C.t (T.int IntKind.i64 (5 : Int)), C.t (T.int IntKind.i64 (0 : Int)), C.t (T.str (ByteArray.mk #[(33 : UInt8)]))]]))) = bcc (codeE a l ++ [Bc.mk (5 : Int) (0 : Int) (ByteArray.mk #[(33 : UInt8)])]) by simp)
    exact .tpe [.b (rfl : false = false), .b (rfl : false = false), t2, .a (ih), .b (rfl : false = false), .b (rfl : true = true), .a (l17Not_ev), .m (rfl : true = true), t8, t9, t10, t11] (Out.val (V.vec (0 : Nat) ((codeE a l).length + (1 : Nat)) (3 : Nat) (0 : Nat) ((codeE a l).length + (1 : Nat))) [Ob.vec true (3 : Nat) (bcc (codeE a l ++ [Bc.mk (5 : Int) (0 : Int) (ByteArray.mk #[(33 : UInt8)])]))]) (by kernel_rfl) (((congrArg (fun x => Out.val (V.vec (0 : Nat) x (3 : Nat) (0 : Nat) ((codeE a l).length + (1 : Nat))) [Ob.vec true (3 : Nat) (bcc (codeE a l ++ [Bc.mk (5 : Int) (0 : Int) (ByteArray.mk #[(33 : UInt8)])]))]) (show ((codeE a l).length + (1 : Nat)) = ((codeE a.not l).length) by simp [codeE, bNot])).trans (congrArg (fun x => Out.val (V.vec (0 : Nat) (codeE a.not l).length (3 : Nat) (0 : Nat) x) [Ob.vec true (3 : Nat) (bcc (codeE a l ++ [Bc.mk (5 : Int) (0 : Int) (ByteArray.mk #[(33 : UInt8)])]))]) (show ((codeE a l).length + (1 : Nat)) = ((codeE a.not l).length) by simp [codeE, bNot]))).trans (congrArg (fun x => Out.val (V.vec (0 : Nat) (codeE a.not l).length (3 : Nat) (0 : Nat) (codeE a.not l).length) [Ob.vec true (3 : Nat) x]) (show (bcc (codeE a l ++ [Bc.mk (5 : Int) (0 : Int) (ByteArray.mk #[(33 : UInt8)])])) = (bcc (codeE a.not l)) by simp [codeE, bNot])))
  | .two s a b, l, h, hn => by
    have g0 : lkp (E.two s a b).kids 0 = some a.ts := rfl
    have g1 : lkp (E.two s a b).kids 1 = some b.ts := rfl
    have ih := l17Make_ev a l (by simp [E.size] at h; omega) (by simp [E.names] at hn; simp [hn])
    have hl := codeE_len a l
    simp only [E.size] at h
    by_cases h1 : s.toList = [38, 38]
    · have ih2 := l17Make_ev b (codeE a l ++ [⟨7, 0, e0⟩]) (by simp; omega) (by simp [E.names] at hn; simp [hn])
      have hl2 := codeE_len b (codeE a l ++ [⟨7, 0, e0⟩])
      have hg := codeE_get b (codeE a l ++ [⟨7, 0, e0⟩]) (codeE a l).length (by simp)
      have hg2 : (bcc (codeE b (codeE a l ++ [⟨7, 0, e0⟩]) ++ [bNot, bNot]))[(codeE a l).length]? = some (Bc.cc ⟨7, 0, e0⟩) := by
        simp at hl2
        rw [bcc_app, List.getElem?_append_left (by simp; omega)]
        simp [bcc, hg]
      have hg3 : ∀ r : List Bc, (bcc (codeE b ((codeE a l) ++ [⟨7, 0, e0⟩]) ++ r))[(codeE a l).length]? = some (Bc.cc ⟨7, 0, e0⟩) := fun r => by
        simp at hl2
        rw [bcc_app, List.getElem?_append_left (by simp; omega)]
        simp [bcc, hg]
      simp at hl2
      have hlt : (codeE a l).length < (codeE b ((codeE a l) ++ [⟨7, 0, ⟨#[]⟩⟩])).length := by omega
      let t2 : Tp pr := .g .row (show (lkp (E.two s a b).kids (0 : Int)) = some (a.ts) from g0)
      let t6 : Tp pr := .b (show ((E.two s a b).text.toList == [(38 : UInt8), (38 : UInt8)]) = true by (simp; omega))
      let t7 : Tp pr := .i (rfl : ((↑(codeE a l).length : Int)) = _)
      let t9 : Tp pr := .m (show (decide ((bcc (codeE a l)).length = (codeE a l).length ∧ (0 : Nat) + (codeE a l).length ≤ (codeE a l).length ∧ (codeE a l).length + (1 : Nat) ≤ (4294967296 : Nat))) = true by (simp; omega))
      let t10 : Tp pr := .b (show (decide ((codeE a l).length + (1 : Nat) ≤ (codeE a l).length)) = false by simp)
      let t11 : Tp pr := .c (rfl : ((codeE a l).length + (1 : Nat)) = _)
      let t12 : Tp pr := .n .crows (show ((List.take (codeE a l).length (bcc (codeE a l))).append (List.take (1 : Nat) (List.drop (0 : Nat) [[C.t (T.int IntKind.i64 (7 : Int)), C.t (T.int IntKind.i64 (0 : Int)), C.t (T.str (ByteArray.mk #[]))]]))) = bcc (codeE a l ++ [Bc.mk (7 : Int) (0 : Int) (ByteArray.mk #[])]) by simp)
      let t13 : Tp pr := .g .row (show (lkp (E.two s a b).kids (1 : Int)) = some (b.ts) from g1)
      let t14 : Tp pr := .a (Ev.castq (congrArg (fun x => Q.call (48 : FuncId) [vs b.ts, V.vec (0 : Nat) x (3 : Nat) (0 : Nat) x] [Ob.vec true (3 : Nat) (bcc (codeE a l ++ [Bc.mk (7 : Int) (0 : Int) e0]))]) (show ((codeE a l ++ [Bc.mk (7 : Int) (0 : Int) e0]).length) = ((codeE a l).length + (1 : Nat)) by simp [codeE, bNot, h1, List.set_append, hlt])) (ih2))
      let t18 : Tp pr := .m (show (decide ((bcc (codeE b (codeE a l ++ [Bc.mk (7 : Int) (0 : Int) e0]))).length = (codeE b (codeE a l ++ [Bc.mk (7 : Int) (0 : Int) e0])).length ∧ (0 : Nat) + (codeE b (codeE a l ++ [Bc.mk (7 : Int) (0 : Int) e0])).length ≤ (codeE b (codeE a l ++ [Bc.mk (7 : Int) (0 : Int) e0])).length ∧ (codeE b (codeE a l ++ [Bc.mk (7 : Int) (0 : Int) e0])).length + (2 : Nat) ≤ (4294967296 : Nat))) = true by (simp; omega))
      let t19 : Tp pr := .b (show (decide ((codeE b (codeE a l ++ [Bc.mk (7 : Int) (0 : Int) e0])).length + (2 : Nat) ≤ (codeE b (codeE a l ++ [Bc.mk (7 : Int) (0 : Int) e0])).length)) = false by simp)
      let t20 : Tp pr := .c (show ((codeE b (codeE a l ++ [Bc.mk (7 : Int) (0 : Int) e0])).length + (2 : Nat) : Nat) = (codeE b (codeE a l ++ [Bc.mk (7 : Int) (0 : Int) (ByteArray.mk #[])])).length + (2 : Nat) by rfl)
      let t21 : Tp pr := .n .crows (show ((List.take (codeE b (codeE a l ++ [Bc.mk (7 : Int) (0 : Int) e0])).length (bcc (codeE b (codeE a l ++ [Bc.mk (7 : Int) (0 : Int) e0])))).append (List.take (2 : Nat) (List.drop (0 : Nat) [[C.t (T.int IntKind.i64 (5 : Int)), C.t (T.int IntKind.i64 (0 : Int)), C.t (T.str (ByteArray.mk #[(33 : UInt8)]))], [C.t (T.int IntKind.i64 (5 : Int)), C.t (T.int IntKind.i64 (0 : Int)), C.t (T.str (ByteArray.mk #[(33 : UInt8)]))]]))) = bcc (codeE b (codeE a l ++ [Bc.mk (7 : Int) (0 : Int) (ByteArray.mk #[])]) ++ [Bc.mk (5 : Int) (0 : Int) (ByteArray.mk #[(33 : UInt8)]), Bc.mk (5 : Int) (0 : Int) (ByteArray.mk #[(33 : UInt8)])]) by simp)
      let t22 : Tp pr := .i (show ((↑((codeE b (codeE a l ++ [Bc.mk (7 : Int) (0 : Int) (ByteArray.mk #[])])).length + (2 : Nat)) : Int) : Int) = (↑(codeE b (codeE a l ++ [Bc.mk (7 : Int) (0 : Int) (ByteArray.mk #[])])).length : Int) + (2 : Int) by omega)
      let t23 : Tp pr := .i (wrap_i64 (a := (↑(codeE b (codeE a l ++ [Bc.mk (7 : Int) (0 : Int) (ByteArray.mk #[])])).length : Int) + (2 : Int) + (2 : Int)) (by omega) (by omega))
      let t25 : Tp pr := .m (show (decide ((bcc (codeE b (codeE a l ++ [Bc.mk (7 : Int) (0 : Int) (ByteArray.mk #[])]) ++ [Bc.mk (5 : Int) (0 : Int) (ByteArray.mk #[(33 : UInt8)]), Bc.mk (5 : Int) (0 : Int) (ByteArray.mk #[(33 : UInt8)])])).length = (codeE b (codeE a l ++ [Bc.mk (7 : Int) (0 : Int) (ByteArray.mk #[])])).length + (2 : Nat) ∧ (0 : Nat) + ((codeE b (codeE a l ++ [Bc.mk (7 : Int) (0 : Int) (ByteArray.mk #[])])).length + (2 : Nat)) ≤ (codeE b (codeE a l ++ [Bc.mk (7 : Int) (0 : Int) (ByteArray.mk #[])])).length + (2 : Nat) ∧ (codeE b (codeE a l ++ [Bc.mk (7 : Int) (0 : Int) (ByteArray.mk #[])])).length + (2 : Nat) + (2 : Nat) ≤ (4294967296 : Nat))) = true by (simp; omega))
      let t26 : Tp pr := .b (show (decide ((codeE b (codeE a l ++ [Bc.mk (7 : Int) (0 : Int) (ByteArray.mk #[])])).length + (2 : Nat) + (2 : Nat) ≤ (codeE b (codeE a l ++ [Bc.mk (7 : Int) (0 : Int) (ByteArray.mk #[])])).length + (2 : Nat))) = false by simp)
      let t27 : Tp pr := .c (rfl : ((codeE b (codeE a l ++ [Bc.mk (7 : Int) (0 : Int) (ByteArray.mk #[])])).length + (2 : Nat) + (2 : Nat)) = _)
      let t28 : Tp pr := .n .crows (show ((List.take ((codeE b (codeE a l ++ [Bc.mk (7 : Int) (0 : Int) (ByteArray.mk #[])])).length + (2 : Nat)) (bcc (codeE b (codeE a l ++ [Bc.mk (7 : Int) (0 : Int) (ByteArray.mk #[])]) ++ [Bc.mk (5 : Int) (0 : Int) (ByteArray.mk #[(33 : UInt8)]), Bc.mk (5 : Int) (0 : Int) (ByteArray.mk #[(33 : UInt8)])]))).append (List.take (2 : Nat) (List.drop (0 : Nat) [[C.t (T.int IntKind.i64 (6 : Int)), C.t (T.int IntKind.i64 ((↑(codeE b (codeE a l ++ [Bc.mk (7 : Int) (0 : Int) (ByteArray.mk #[])])).length : Int) + (2 : Int) + (2 : Int))), C.t (T.str (ByteArray.mk #[]))], [C.t (T.int IntKind.i64 (1 : Int)), C.t (T.int IntKind.i64 (0 : Int)), C.t (T.str (ByteArray.mk #[]))]]))) = bcc (codeE b (codeE a l ++ [Bc.mk (7 : Int) (0 : Int) (ByteArray.mk #[])]) ++ [Bc.mk (5 : Int) (0 : Int) (ByteArray.mk #[(33 : UInt8)]), Bc.mk (5 : Int) (0 : Int) (ByteArray.mk #[(33 : UInt8)]), Bc.mk (6 : Int) ((↑(codeE b (codeE a l ++ [Bc.mk (7 : Int) (0 : Int) (ByteArray.mk #[])])).length : Int) + (2 : Int) + (2 : Int)) (ByteArray.mk #[]), Bc.mk (1 : Int) (0 : Int) (ByteArray.mk #[])]) by simp)
      let t29 : Tp pr := .i (wrap_i64 (a := (↑(codeE b (codeE a l ++ [Bc.mk (7 : Int) (0 : Int) (ByteArray.mk #[])])).length : Int) + (2 : Int) + (1 : Int)) (by omega) (by omega))
      let t30 : Tp pr := .m (show (decide ((0 : Int) ≤ (↑(codeE a l).length : Int) ∧ (↑(codeE a l).length : Int).toNat < (codeE b (codeE a l ++ [Bc.mk (7 : Int) (0 : Int) (ByteArray.mk #[])])).length + (2 : Nat) + (2 : Nat))) = true by (simp; omega))
      let t31 : Tp pr := .c (show ((0 : Nat) + (↑(codeE a l).length : Int).toNat : Nat) = (codeE a l).length by omega)
      let t32 : Tp pr := .m (show (decide ((bcc (codeE b (codeE a l ++ [Bc.mk (7 : Int) (0 : Int) (ByteArray.mk #[])]) ++ [Bc.mk (5 : Int) (0 : Int) (ByteArray.mk #[(33 : UInt8)]), Bc.mk (5 : Int) (0 : Int) (ByteArray.mk #[(33 : UInt8)]), Bc.mk (6 : Int) ((↑(codeE b (codeE a l ++ [Bc.mk (7 : Int) (0 : Int) (ByteArray.mk #[])])).length : Int) + (2 : Int) + (2 : Int)) (ByteArray.mk #[]), Bc.mk (1 : Int) (0 : Int) (ByteArray.mk #[])])).length = (codeE b (codeE a l ++ [Bc.mk (7 : Int) (0 : Int) (ByteArray.mk #[])])).length + (2 : Nat) + (2 : Nat))) = true by simp)
      let t33 : Tp pr := .g .crow (show ((bcc (codeE b (codeE a l ++ [Bc.mk (7 : Int) (0 : Int) (ByteArray.mk #[])]) ++ [Bc.mk (5 : Int) (0 : Int) (ByteArray.mk #[(33 : UInt8)]), Bc.mk (5 : Int) (0 : Int) (ByteArray.mk #[(33 : UInt8)]), Bc.mk (6 : Int) ((↑(codeE b (codeE a l ++ [Bc.mk (7 : Int) (0 : Int) (ByteArray.mk #[])])).length : Int) + (2 : Int) + (2 : Int)) (ByteArray.mk #[]), Bc.mk (1 : Int) (0 : Int) (ByteArray.mk #[])]))[(codeE a l).length]?) = some ((Bc.mk (7 : Int) (0 : Int) (ByteArray.mk #[])).cc) by simp [*])
      let t34 : Tp pr := .n .crows (show ((bcc (codeE b (codeE a l ++ [Bc.mk (7 : Int) (0 : Int) (ByteArray.mk #[])]) ++ [Bc.mk (5 : Int) (0 : Int) (ByteArray.mk #[(33 : UInt8)]), Bc.mk (5 : Int) (0 : Int) (ByteArray.mk #[(33 : UInt8)]), Bc.mk (6 : Int) ((↑(codeE b (codeE a l ++ [Bc.mk (7 : Int) (0 : Int) (ByteArray.mk #[])])).length : Int) + (2 : Int) + (2 : Int)) (ByteArray.mk #[]), Bc.mk (1 : Int) (0 : Int) (ByteArray.mk #[])])).set (codeE a l).length [C.t (T.int IntKind.i64 (7 : Int)), C.t (T.int IntKind.i64 ((↑(codeE b (codeE a l ++ [Bc.mk (7 : Int) (0 : Int) (ByteArray.mk #[])])).length : Int) + (2 : Int) + (1 : Int))), C.t (T.str (ByteArray.mk #[]))]) = bcc ((codeE b (codeE a l ++ [Bc.mk (7 : Int) (0 : Int) (ByteArray.mk #[])]) ++ [Bc.mk (5 : Int) (0 : Int) (ByteArray.mk #[(33 : UInt8)]), Bc.mk (5 : Int) (0 : Int) (ByteArray.mk #[(33 : UInt8)]), Bc.mk (6 : Int) ((↑(codeE b (codeE a l ++ [Bc.mk (7 : Int) (0 : Int) (ByteArray.mk #[])])).length : Int) + (2 : Int) + (2 : Int)) (ByteArray.mk #[]), Bc.mk (1 : Int) (0 : Int) (ByteArray.mk #[])]).set (codeE a l).length (Bc.mk (7 : Int) ((↑(codeE b (codeE a l ++ [Bc.mk (7 : Int) (0 : Int) (ByteArray.mk #[])])).length : Int) + (2 : Int) + (1 : Int)) (ByteArray.mk #[]))) by simp)
      exact .tpe [.b (rfl : false = false), .b (rfl : false = false), t2, .a (ih), .b (rfl : false = false), .b (rfl : false = false), t6, t7, .m (rfl : true = true), t9, t10, t11, t12, t13, t14, .a (l17Not_ev), .a (l17Not_ev), .m (rfl : true = true), t18, t19, t20, t21, t22, t23, .m (rfl : true = true), t25, t26, t27, t28, t29, t30, t31, t32, t33, t34] (Out.val (V.vec (0 : Nat) ((codeE b (codeE a l ++ [Bc.mk (7 : Int) (0 : Int) (ByteArray.mk #[])])).length + (2 : Nat) + (2 : Nat)) (3 : Nat) (0 : Nat) ((codeE b (codeE a l ++ [Bc.mk (7 : Int) (0 : Int) (ByteArray.mk #[])])).length + (2 : Nat) + (2 : Nat))) [Ob.vec true (3 : Nat) (bcc ((codeE b (codeE a l ++ [Bc.mk (7 : Int) (0 : Int) (ByteArray.mk #[])]) ++ [Bc.mk (5 : Int) (0 : Int) (ByteArray.mk #[(33 : UInt8)]), Bc.mk (5 : Int) (0 : Int) (ByteArray.mk #[(33 : UInt8)]), Bc.mk (6 : Int) ((↑(codeE b (codeE a l ++ [Bc.mk (7 : Int) (0 : Int) (ByteArray.mk #[])])).length : Int) + (2 : Int) + (2 : Int)) (ByteArray.mk #[]), Bc.mk (1 : Int) (0 : Int) (ByteArray.mk #[])]).set (codeE a l).length (Bc.mk (7 : Int) ((↑(codeE b (codeE a l ++ [Bc.mk (7 : Int) (0 : Int) (ByteArray.mk #[])])).length : Int) + (2 : Int) + (1 : Int)) (ByteArray.mk #[]))))]) (by kernel_rfl) (((congrArg (fun x => Out.val (V.vec (0 : Nat) x (3 : Nat) (0 : Nat) ((codeE b (codeE a l ++ [Bc.mk (7 : Int) (0 : Int) (ByteArray.mk #[])])).length + (2 : Nat) + (2 : Nat))) [Ob.vec true (3 : Nat) (bcc ((codeE b (codeE a l ++ [Bc.mk (7 : Int) (0 : Int) (ByteArray.mk #[])]) ++ [Bc.mk (5 : Int) (0 : Int) (ByteArray.mk #[(33 : UInt8)]), Bc.mk (5 : Int) (0 : Int) (ByteArray.mk #[(33 : UInt8)]), Bc.mk (6 : Int) ((↑(codeE b (codeE a l ++ [Bc.mk (7 : Int) (0 : Int) (ByteArray.mk #[])])).length : Int) + (2 : Int) + (2 : Int)) (ByteArray.mk #[]), Bc.mk (1 : Int) (0 : Int) (ByteArray.mk #[])]).set (codeE a l).length (Bc.mk (7 : Int) ((↑(codeE b (codeE a l ++ [Bc.mk (7 : Int) (0 : Int) (ByteArray.mk #[])])).length : Int) + (2 : Int) + (1 : Int)) (ByteArray.mk #[]))))]) (show ((codeE b (codeE a l ++ [Bc.mk (7 : Int) (0 : Int) (ByteArray.mk #[])])).length + (2 : Nat) + (2 : Nat)) = ((codeE (E.two s a b) l).length) by simp [codeE, bNot, h1, List.set_append, hlt])).trans (congrArg (fun x => Out.val (V.vec (0 : Nat) (codeE (E.two s a b) l).length (3 : Nat) (0 : Nat) x) [Ob.vec true (3 : Nat) (bcc ((codeE b (codeE a l ++ [Bc.mk (7 : Int) (0 : Int) (ByteArray.mk #[])]) ++ [Bc.mk (5 : Int) (0 : Int) (ByteArray.mk #[(33 : UInt8)]), Bc.mk (5 : Int) (0 : Int) (ByteArray.mk #[(33 : UInt8)]), Bc.mk (6 : Int) ((↑(codeE b (codeE a l ++ [Bc.mk (7 : Int) (0 : Int) (ByteArray.mk #[])])).length : Int) + (2 : Int) + (2 : Int)) (ByteArray.mk #[]), Bc.mk (1 : Int) (0 : Int) (ByteArray.mk #[])]).set (codeE a l).length (Bc.mk (7 : Int) ((↑(codeE b (codeE a l ++ [Bc.mk (7 : Int) (0 : Int) (ByteArray.mk #[])])).length : Int) + (2 : Int) + (1 : Int)) (ByteArray.mk #[]))))]) (show ((codeE b (codeE a l ++ [Bc.mk (7 : Int) (0 : Int) (ByteArray.mk #[])])).length + (2 : Nat) + (2 : Nat)) = ((codeE (E.two s a b) l).length) by simp [codeE, bNot, h1, List.set_append, hlt]))).trans (congrArg (fun x => Out.val (V.vec (0 : Nat) (codeE (E.two s a b) l).length (3 : Nat) (0 : Nat) (codeE (E.two s a b) l).length) [Ob.vec true (3 : Nat) x]) (show (bcc ((codeE b (codeE a l ++ [Bc.mk (7 : Int) (0 : Int) (ByteArray.mk #[])]) ++ [Bc.mk (5 : Int) (0 : Int) (ByteArray.mk #[(33 : UInt8)]), Bc.mk (5 : Int) (0 : Int) (ByteArray.mk #[(33 : UInt8)]), Bc.mk (6 : Int) ((↑(codeE b (codeE a l ++ [Bc.mk (7 : Int) (0 : Int) (ByteArray.mk #[])])).length : Int) + (2 : Int) + (2 : Int)) (ByteArray.mk #[]), Bc.mk (1 : Int) (0 : Int) (ByteArray.mk #[])]).set (codeE a l).length (Bc.mk (7 : Int) ((↑(codeE b (codeE a l ++ [Bc.mk (7 : Int) (0 : Int) (ByteArray.mk #[])])).length : Int) + (2 : Int) + (1 : Int)) (ByteArray.mk #[])))) = (bcc (codeE (E.two s a b) l)) by simp [codeE, bNot, h1, List.set_append, hlt])))
    · by_cases h2 : s.toList = [124, 124]
      · have ih2 := l17Make_ev b (codeE a l ++ [⟨7, (codeE a l).length + 3, e0⟩, ⟨1, 1, e0⟩, ⟨6, 0, e0⟩]) (by simp; omega) (by simp [E.names] at hn; simp [hn])
        have hl2 := codeE_len b (codeE a l ++ [⟨7, (codeE a l).length + 3, e0⟩, ⟨1, 1, e0⟩, ⟨6, 0, e0⟩])
        have hg := codeE_get b (codeE a l ++ [⟨7, (codeE a l).length + 3, e0⟩, ⟨1, 1, e0⟩, ⟨6, 0, e0⟩]) ((codeE a l).length + 2) (by simp)
        have hg2 : (bcc (codeE b (codeE a l ++ [⟨7, (codeE a l).length + 3, e0⟩, ⟨1, 1, e0⟩, ⟨6, 0, e0⟩]) ++ [bNot, bNot]))[(codeE a l).length + 2]? = some (Bc.cc ⟨6, 0, e0⟩) := by
          simp at hl2
          rw [bcc_app, List.getElem?_append_left (by simp; omega)]
          simp [bcc, hg]
        simp at hl2
        let t2 : Tp pr := .g .row (show (lkp (E.two s a b).kids (0 : Int)) = some (a.ts) from g0)
        let t6 : Tp pr := .b (show ((E.two s a b).text.toList == [(38 : UInt8), (38 : UInt8)]) = false by (simp; omega))
        let t7 : Tp pr := .b (show ((E.two s a b).text.toList == [(124 : UInt8), (124 : UInt8)]) = true by (simp; omega))
        let t8 : Tp pr := .i (rfl : ((↑(codeE a l).length : Int)) = _)
        let t9 : Tp pr := .i (wrap_i64 (a := (↑(codeE a l).length : Int) + (3 : Int)) (by omega) (by omega))
        let t11 : Tp pr := .m (show (decide ((bcc (codeE a l)).length = (codeE a l).length ∧ (0 : Nat) + (codeE a l).length ≤ (codeE a l).length ∧ (codeE a l).length + (3 : Nat) ≤ (4294967296 : Nat))) = true by (simp; omega))
        let t12 : Tp pr := .b (show (decide ((codeE a l).length + (3 : Nat) ≤ (codeE a l).length)) = false by simp)
        let t13 : Tp pr := .c (rfl : ((codeE a l).length + (3 : Nat)) = _)
        let t14 : Tp pr := .n .crows (show ((List.take (codeE a l).length (bcc (codeE a l))).append (List.take (3 : Nat) (List.drop (0 : Nat) [[C.t (T.int IntKind.i64 (7 : Int)), C.t (T.int IntKind.i64 ((↑(codeE a l).length : Int) + (3 : Int))), C.t (T.str (ByteArray.mk #[]))], [C.t (T.int IntKind.i64 (1 : Int)), C.t (T.int IntKind.i64 (1 : Int)), C.t (T.str (ByteArray.mk #[]))], [C.t (T.int IntKind.i64 (6 : Int)), C.t (T.int IntKind.i64 (0 : Int)), C.t (T.str (ByteArray.mk #[]))]]))) = bcc (codeE a l ++ [Bc.mk (7 : Int) ((↑(codeE a l).length : Int) + (3 : Int)) (ByteArray.mk #[]), Bc.mk (1 : Int) (1 : Int) (ByteArray.mk #[]), Bc.mk (6 : Int) (0 : Int) (ByteArray.mk #[])]) by simp)
        let t15 : Tp pr := .g .row (show (lkp (E.two s a b).kids (1 : Int)) = some (b.ts) from g1)
        let t16 : Tp pr := .a (Ev.castq (congrArg (fun x => Q.call (48 : FuncId) [vs b.ts, V.vec (0 : Nat) x (3 : Nat) (0 : Nat) x] [Ob.vec true (3 : Nat) (bcc (codeE a l ++ [Bc.mk (7 : Int) ((↑(codeE a l).length : Int) + (3 : Int)) e0, Bc.mk (1 : Int) (1 : Int) e0, Bc.mk (6 : Int) (0 : Int) e0]))]) (show ((codeE a l ++ [Bc.mk (7 : Int) ((↑(codeE a l).length : Int) + (3 : Int)) e0, Bc.mk (1 : Int) (1 : Int) e0, Bc.mk (6 : Int) (0 : Int) e0]).length) = ((codeE a l).length + (3 : Nat)) by simp [codeE, bNot, h1, h2])) (ih2))
        let t20 : Tp pr := .m (show (decide ((bcc (codeE b (codeE a l ++ [Bc.mk (7 : Int) ((↑(codeE a l).length : Int) + (3 : Int)) e0, Bc.mk (1 : Int) (1 : Int) e0, Bc.mk (6 : Int) (0 : Int) e0]))).length = (codeE b (codeE a l ++ [Bc.mk (7 : Int) ((↑(codeE a l).length : Int) + (3 : Int)) e0, Bc.mk (1 : Int) (1 : Int) e0, Bc.mk (6 : Int) (0 : Int) e0])).length ∧ (0 : Nat) + (codeE b (codeE a l ++ [Bc.mk (7 : Int) ((↑(codeE a l).length : Int) + (3 : Int)) e0, Bc.mk (1 : Int) (1 : Int) e0, Bc.mk (6 : Int) (0 : Int) e0])).length ≤ (codeE b (codeE a l ++ [Bc.mk (7 : Int) ((↑(codeE a l).length : Int) + (3 : Int)) e0, Bc.mk (1 : Int) (1 : Int) e0, Bc.mk (6 : Int) (0 : Int) e0])).length ∧ (codeE b (codeE a l ++ [Bc.mk (7 : Int) ((↑(codeE a l).length : Int) + (3 : Int)) e0, Bc.mk (1 : Int) (1 : Int) e0, Bc.mk (6 : Int) (0 : Int) e0])).length + (2 : Nat) ≤ (4294967296 : Nat))) = true by (simp; omega))
        let t21 : Tp pr := .b (show (decide ((codeE b (codeE a l ++ [Bc.mk (7 : Int) ((↑(codeE a l).length : Int) + (3 : Int)) e0, Bc.mk (1 : Int) (1 : Int) e0, Bc.mk (6 : Int) (0 : Int) e0])).length + (2 : Nat) ≤ (codeE b (codeE a l ++ [Bc.mk (7 : Int) ((↑(codeE a l).length : Int) + (3 : Int)) e0, Bc.mk (1 : Int) (1 : Int) e0, Bc.mk (6 : Int) (0 : Int) e0])).length)) = false by simp)
        let t22 : Tp pr := .c (show ((codeE b (codeE a l ++ [Bc.mk (7 : Int) ((↑(codeE a l).length : Int) + (3 : Int)) e0, Bc.mk (1 : Int) (1 : Int) e0, Bc.mk (6 : Int) (0 : Int) e0])).length + (2 : Nat) : Nat) = (codeE b (codeE a l ++ [Bc.mk (7 : Int) ((↑(codeE a l).length : Int) + (3 : Int)) (ByteArray.mk #[]), Bc.mk (1 : Int) (1 : Int) (ByteArray.mk #[]), Bc.mk (6 : Int) (0 : Int) (ByteArray.mk #[])])).length + (2 : Nat) by rfl)
        let t23 : Tp pr := .n .crows (show ((List.take (codeE b (codeE a l ++ [Bc.mk (7 : Int) ((↑(codeE a l).length : Int) + (3 : Int)) e0, Bc.mk (1 : Int) (1 : Int) e0, Bc.mk (6 : Int) (0 : Int) e0])).length (bcc (codeE b (codeE a l ++ [Bc.mk (7 : Int) ((↑(codeE a l).length : Int) + (3 : Int)) e0, Bc.mk (1 : Int) (1 : Int) e0, Bc.mk (6 : Int) (0 : Int) e0])))).append (List.take (2 : Nat) (List.drop (0 : Nat) [[C.t (T.int IntKind.i64 (5 : Int)), C.t (T.int IntKind.i64 (0 : Int)), C.t (T.str (ByteArray.mk #[(33 : UInt8)]))], [C.t (T.int IntKind.i64 (5 : Int)), C.t (T.int IntKind.i64 (0 : Int)), C.t (T.str (ByteArray.mk #[(33 : UInt8)]))]]))) = bcc (codeE b (codeE a l ++ [Bc.mk (7 : Int) ((↑(codeE a l).length : Int) + (3 : Int)) (ByteArray.mk #[]), Bc.mk (1 : Int) (1 : Int) (ByteArray.mk #[]), Bc.mk (6 : Int) (0 : Int) (ByteArray.mk #[])]) ++ [Bc.mk (5 : Int) (0 : Int) (ByteArray.mk #[(33 : UInt8)]), Bc.mk (5 : Int) (0 : Int) (ByteArray.mk #[(33 : UInt8)])]) by simp)
        let t24 : Tp pr := .i (wrap_i64 (a := (↑(codeE a l).length : Int) + (2 : Int)) (by omega) (by omega))
        let t25 : Tp pr := .i (show ((↑((codeE b (codeE a l ++ [Bc.mk (7 : Int) ((↑(codeE a l).length : Int) + (3 : Int)) (ByteArray.mk #[]), Bc.mk (1 : Int) (1 : Int) (ByteArray.mk #[]), Bc.mk (6 : Int) (0 : Int) (ByteArray.mk #[])])).length + (2 : Nat)) : Int) : Int) = (↑(codeE b (codeE a l ++ [Bc.mk (7 : Int) ((↑(codeE a l).length : Int) + (3 : Int)) (ByteArray.mk #[]), Bc.mk (1 : Int) (1 : Int) (ByteArray.mk #[]), Bc.mk (6 : Int) (0 : Int) (ByteArray.mk #[])])).length : Int) + (2 : Int) by omega)
        let t26 : Tp pr := .m (show (decide ((0 : Int) ≤ (↑(codeE a l).length : Int) + (2 : Int) ∧ ((↑(codeE a l).length : Int) + (2 : Int)).toNat < (codeE b (codeE a l ++ [Bc.mk (7 : Int) ((↑(codeE a l).length : Int) + (3 : Int)) (ByteArray.mk #[]), Bc.mk (1 : Int) (1 : Int) (ByteArray.mk #[]), Bc.mk (6 : Int) (0 : Int) (ByteArray.mk #[])])).length + (2 : Nat))) = true by (simp; omega))
        let t27 : Tp pr := .c (show ((0 : Nat) + ((↑(codeE a l).length : Int) + (2 : Int)).toNat : Nat) = (codeE a l).length + (2 : Nat) by omega)
        let t28 : Tp pr := .m (show (decide ((bcc (codeE b (codeE a l ++ [Bc.mk (7 : Int) ((↑(codeE a l).length : Int) + (3 : Int)) (ByteArray.mk #[]), Bc.mk (1 : Int) (1 : Int) (ByteArray.mk #[]), Bc.mk (6 : Int) (0 : Int) (ByteArray.mk #[])]) ++ [Bc.mk (5 : Int) (0 : Int) (ByteArray.mk #[(33 : UInt8)]), Bc.mk (5 : Int) (0 : Int) (ByteArray.mk #[(33 : UInt8)])])).length = (codeE b (codeE a l ++ [Bc.mk (7 : Int) ((↑(codeE a l).length : Int) + (3 : Int)) (ByteArray.mk #[]), Bc.mk (1 : Int) (1 : Int) (ByteArray.mk #[]), Bc.mk (6 : Int) (0 : Int) (ByteArray.mk #[])])).length + (2 : Nat))) = true by simp)
        let t29 : Tp pr := .g .crow (show ((bcc (codeE b (codeE a l ++ [Bc.mk (7 : Int) ((↑(codeE a l).length : Int) + (3 : Int)) (ByteArray.mk #[]), Bc.mk (1 : Int) (1 : Int) (ByteArray.mk #[]), Bc.mk (6 : Int) (0 : Int) (ByteArray.mk #[])]) ++ [Bc.mk (5 : Int) (0 : Int) (ByteArray.mk #[(33 : UInt8)]), Bc.mk (5 : Int) (0 : Int) (ByteArray.mk #[(33 : UInt8)])]))[(codeE a l).length + (2 : Nat)]?) = some ((Bc.mk (6 : Int) (0 : Int) e0).cc) from hg2)
        let t30 : Tp pr := .n .crows (show ((bcc (codeE b (codeE a l ++ [Bc.mk (7 : Int) ((↑(codeE a l).length : Int) + (3 : Int)) (ByteArray.mk #[]), Bc.mk (1 : Int) (1 : Int) (ByteArray.mk #[]), Bc.mk (6 : Int) (0 : Int) (ByteArray.mk #[])]) ++ [Bc.mk (5 : Int) (0 : Int) (ByteArray.mk #[(33 : UInt8)]), Bc.mk (5 : Int) (0 : Int) (ByteArray.mk #[(33 : UInt8)])])).set ((codeE a l).length + (2 : Nat)) [C.t (T.int IntKind.i64 (6 : Int)), C.t (T.int IntKind.i64 ((↑(codeE b (codeE a l ++ [Bc.mk (7 : Int) ((↑(codeE a l).length : Int) + (3 : Int)) (ByteArray.mk #[]), Bc.mk (1 : Int) (1 : Int) (ByteArray.mk #[]), Bc.mk (6 : Int) (0 : Int) (ByteArray.mk #[])])).length : Int) + (2 : Int))), C.t (T.str (ByteArray.mk #[]))]) = bcc ((codeE b (codeE a l ++ [Bc.mk (7 : Int) ((↑(codeE a l).length : Int) + (3 : Int)) (ByteArray.mk #[]), Bc.mk (1 : Int) (1 : Int) (ByteArray.mk #[]), Bc.mk (6 : Int) (0 : Int) (ByteArray.mk #[])]) ++ [Bc.mk (5 : Int) (0 : Int) (ByteArray.mk #[(33 : UInt8)]), Bc.mk (5 : Int) (0 : Int) (ByteArray.mk #[(33 : UInt8)])]).set ((codeE a l).length + (2 : Nat)) (Bc.mk (6 : Int) ((↑(codeE b (codeE a l ++ [Bc.mk (7 : Int) ((↑(codeE a l).length : Int) + (3 : Int)) (ByteArray.mk #[]), Bc.mk (1 : Int) (1 : Int) (ByteArray.mk #[]), Bc.mk (6 : Int) (0 : Int) (ByteArray.mk #[])])).length : Int) + (2 : Int)) (ByteArray.mk #[]))) by simp)
        exact .tpe [.b (rfl : false = false), .b (rfl : false = false), t2, .a (ih), .b (rfl : false = false), .b (rfl : false = false), t6, t7, t8, t9, .m (rfl : true = true), t11, t12, t13, t14, t15, t16, .a (l17Not_ev), .a (l17Not_ev), .m (rfl : true = true), t20, t21, t22, t23, t24, t25, t26, t27, t28, t29, t30] (Out.val (V.vec (0 : Nat) ((codeE b (codeE a l ++ [Bc.mk (7 : Int) ((↑(codeE a l).length : Int) + (3 : Int)) (ByteArray.mk #[]), Bc.mk (1 : Int) (1 : Int) (ByteArray.mk #[]), Bc.mk (6 : Int) (0 : Int) (ByteArray.mk #[])])).length + (2 : Nat)) (3 : Nat) (0 : Nat) ((codeE b (codeE a l ++ [Bc.mk (7 : Int) ((↑(codeE a l).length : Int) + (3 : Int)) (ByteArray.mk #[]), Bc.mk (1 : Int) (1 : Int) (ByteArray.mk #[]), Bc.mk (6 : Int) (0 : Int) (ByteArray.mk #[])])).length + (2 : Nat))) [Ob.vec true (3 : Nat) (bcc ((codeE b (codeE a l ++ [Bc.mk (7 : Int) ((↑(codeE a l).length : Int) + (3 : Int)) (ByteArray.mk #[]), Bc.mk (1 : Int) (1 : Int) (ByteArray.mk #[]), Bc.mk (6 : Int) (0 : Int) (ByteArray.mk #[])]) ++ [Bc.mk (5 : Int) (0 : Int) (ByteArray.mk #[(33 : UInt8)]), Bc.mk (5 : Int) (0 : Int) (ByteArray.mk #[(33 : UInt8)])]).set ((codeE a l).length + (2 : Nat)) (Bc.mk (6 : Int) ((↑(codeE b (codeE a l ++ [Bc.mk (7 : Int) ((↑(codeE a l).length : Int) + (3 : Int)) (ByteArray.mk #[]), Bc.mk (1 : Int) (1 : Int) (ByteArray.mk #[]), Bc.mk (6 : Int) (0 : Int) (ByteArray.mk #[])])).length : Int) + (2 : Int)) (ByteArray.mk #[]))))]) (by kernel_rfl) (((congrArg (fun x => Out.val (V.vec (0 : Nat) x (3 : Nat) (0 : Nat) ((codeE b (codeE a l ++ [Bc.mk (7 : Int) ((↑(codeE a l).length : Int) + (3 : Int)) (ByteArray.mk #[]), Bc.mk (1 : Int) (1 : Int) (ByteArray.mk #[]), Bc.mk (6 : Int) (0 : Int) (ByteArray.mk #[])])).length + (2 : Nat))) [Ob.vec true (3 : Nat) (bcc ((codeE b (codeE a l ++ [Bc.mk (7 : Int) ((↑(codeE a l).length : Int) + (3 : Int)) (ByteArray.mk #[]), Bc.mk (1 : Int) (1 : Int) (ByteArray.mk #[]), Bc.mk (6 : Int) (0 : Int) (ByteArray.mk #[])]) ++ [Bc.mk (5 : Int) (0 : Int) (ByteArray.mk #[(33 : UInt8)]), Bc.mk (5 : Int) (0 : Int) (ByteArray.mk #[(33 : UInt8)])]).set ((codeE a l).length + (2 : Nat)) (Bc.mk (6 : Int) ((↑(codeE b (codeE a l ++ [Bc.mk (7 : Int) ((↑(codeE a l).length : Int) + (3 : Int)) (ByteArray.mk #[]), Bc.mk (1 : Int) (1 : Int) (ByteArray.mk #[]), Bc.mk (6 : Int) (0 : Int) (ByteArray.mk #[])])).length : Int) + (2 : Int)) (ByteArray.mk #[]))))]) (show ((codeE b (codeE a l ++ [Bc.mk (7 : Int) ((↑(codeE a l).length : Int) + (3 : Int)) (ByteArray.mk #[]), Bc.mk (1 : Int) (1 : Int) (ByteArray.mk #[]), Bc.mk (6 : Int) (0 : Int) (ByteArray.mk #[])])).length + (2 : Nat)) = ((codeE (E.two s a b) l).length) by simp [codeE, bNot, h1, h2])).trans (congrArg (fun x => Out.val (V.vec (0 : Nat) (codeE (E.two s a b) l).length (3 : Nat) (0 : Nat) x) [Ob.vec true (3 : Nat) (bcc ((codeE b (codeE a l ++ [Bc.mk (7 : Int) ((↑(codeE a l).length : Int) + (3 : Int)) (ByteArray.mk #[]), Bc.mk (1 : Int) (1 : Int) (ByteArray.mk #[]), Bc.mk (6 : Int) (0 : Int) (ByteArray.mk #[])]) ++ [Bc.mk (5 : Int) (0 : Int) (ByteArray.mk #[(33 : UInt8)]), Bc.mk (5 : Int) (0 : Int) (ByteArray.mk #[(33 : UInt8)])]).set ((codeE a l).length + (2 : Nat)) (Bc.mk (6 : Int) ((↑(codeE b (codeE a l ++ [Bc.mk (7 : Int) ((↑(codeE a l).length : Int) + (3 : Int)) (ByteArray.mk #[]), Bc.mk (1 : Int) (1 : Int) (ByteArray.mk #[]), Bc.mk (6 : Int) (0 : Int) (ByteArray.mk #[])])).length : Int) + (2 : Int)) (ByteArray.mk #[]))))]) (show ((codeE b (codeE a l ++ [Bc.mk (7 : Int) ((↑(codeE a l).length : Int) + (3 : Int)) (ByteArray.mk #[]), Bc.mk (1 : Int) (1 : Int) (ByteArray.mk #[]), Bc.mk (6 : Int) (0 : Int) (ByteArray.mk #[])])).length + (2 : Nat)) = ((codeE (E.two s a b) l).length) by simp [codeE, bNot, h1, h2]))).trans (congrArg (fun x => Out.val (V.vec (0 : Nat) (codeE (E.two s a b) l).length (3 : Nat) (0 : Nat) (codeE (E.two s a b) l).length) [Ob.vec true (3 : Nat) x]) (show (bcc ((codeE b (codeE a l ++ [Bc.mk (7 : Int) ((↑(codeE a l).length : Int) + (3 : Int)) (ByteArray.mk #[]), Bc.mk (1 : Int) (1 : Int) (ByteArray.mk #[]), Bc.mk (6 : Int) (0 : Int) (ByteArray.mk #[])]) ++ [Bc.mk (5 : Int) (0 : Int) (ByteArray.mk #[(33 : UInt8)]), Bc.mk (5 : Int) (0 : Int) (ByteArray.mk #[(33 : UInt8)])]).set ((codeE a l).length + (2 : Nat)) (Bc.mk (6 : Int) ((↑(codeE b (codeE a l ++ [Bc.mk (7 : Int) ((↑(codeE a l).length : Int) + (3 : Int)) (ByteArray.mk #[]), Bc.mk (1 : Int) (1 : Int) (ByteArray.mk #[]), Bc.mk (6 : Int) (0 : Int) (ByteArray.mk #[])])).length : Int) + (2 : Int)) (ByteArray.mk #[])))) = (bcc (codeE (E.two s a b) l)) by simp [codeE, bNot, h1, h2])))
      · have ih2 := l17Make_ev b (codeE a l) (by omega) (by simp [E.names] at hn; simp [hn])
        have hl2 := codeE_len b (codeE a l)
        let t2 : Tp pr := .g .row (show (lkp (E.two s a b).kids (0 : Int)) = some (a.ts) from g0)
        let t6 : Tp pr := .b (show ((E.two s a b).text.toList == [(38 : UInt8), (38 : UInt8)]) = false by (simp; omega))
        let t7 : Tp pr := .b (show ((E.two s a b).text.toList == [(124 : UInt8), (124 : UInt8)]) = false by (simp; omega))
        let t8 : Tp pr := .g .row (show (lkp (E.two s a b).kids (1 : Int)) = some (b.ts) from g1)
        let t11 : Tp pr := .m (show (decide ((bcc (codeE b (codeE a l))).length = (codeE b (codeE a l)).length ∧ (0 : Nat) + (codeE b (codeE a l)).length ≤ (codeE b (codeE a l)).length ∧ (codeE b (codeE a l)).length + (1 : Nat) ≤ (4294967296 : Nat))) = true by (simp; omega))
        let t12 : Tp pr := .b (show (decide ((codeE b (codeE a l)).length + (1 : Nat) ≤ (codeE b (codeE a l)).length)) = false by simp)
        let t13 : Tp pr := .c (rfl : ((codeE b (codeE a l)).length + (1 : Nat)) = _)
        let t14 : Tp pr := .n .crows (show ((List.take (codeE b (codeE a l)).length (bcc (codeE b (codeE a l)))).append (List.take (1 : Nat) (List.drop (0 : Nat) [[C.t (T.int IntKind.i64 (4 : Int)), C.t (T.int IntKind.i64 (0 : Int)), C.t (T.str (E.two s a b).text)]]))) = bcc (codeE b (codeE a l) ++ [Bc.mk (4 : Int) (0 : Int) s]) by simp)
        exact .tpe [.b (rfl : false = false), .b (rfl : false = false), t2, .a (ih), .b (rfl : false = false), .b (rfl : false = false), t6, t7, t8, .a (ih2), .m (rfl : true = true), t11, t12, t13, t14] (Out.val (V.vec (0 : Nat) ((codeE b (codeE a l)).length + (1 : Nat)) (3 : Nat) (0 : Nat) ((codeE b (codeE a l)).length + (1 : Nat))) [Ob.vec true (3 : Nat) (bcc (codeE b (codeE a l) ++ [Bc.mk (4 : Int) (0 : Int) s]))]) (by kernel_rfl) (((congrArg (fun x => Out.val (V.vec (0 : Nat) x (3 : Nat) (0 : Nat) ((codeE b (codeE a l)).length + (1 : Nat))) [Ob.vec true (3 : Nat) (bcc (codeE b (codeE a l) ++ [Bc.mk (4 : Int) (0 : Int) s]))]) (show ((codeE b (codeE a l)).length + (1 : Nat)) = ((codeE (E.two s a b) l).length) by simp [codeE, bNot, h1, h2])).trans (congrArg (fun x => Out.val (V.vec (0 : Nat) (codeE (E.two s a b) l).length (3 : Nat) (0 : Nat) x) [Ob.vec true (3 : Nat) (bcc (codeE b (codeE a l) ++ [Bc.mk (4 : Int) (0 : Int) s]))]) (show ((codeE b (codeE a l)).length + (1 : Nat)) = ((codeE (E.two s a b) l).length) by simp [codeE, bNot, h1, h2]))).trans (congrArg (fun x => Out.val (V.vec (0 : Nat) (codeE (E.two s a b) l).length (3 : Nat) (0 : Nat) (codeE (E.two s a b) l).length) [Ob.vec true (3 : Nat) x]) (show (bcc (codeE b (codeE a l) ++ [Bc.mk (4 : Int) (0 : Int) s])) = (bcc (codeE (E.two s a b) l)) by simp [codeE, bNot, h1, h2])))
theorem l17MakeN_ev : ∀ (e : E), 6 * e.size ≤ 1000000 → e.names = true →
    Ev pr (.call 48 [vs e.ts, .t .nils] []) (.val (.vec 0 (codeE e []).length 3 0 (codeE e []).length) [.vec true 3 (bcc (codeE e []))])
  | .num n, h, hn => by
    let t4 : Tp pr := .n .crows (show (List.take (1 : Nat) (List.drop (0 : Nat) [[C.t (T.int IntKind.i64 (1 : Int)), C.t (T.int IntKind.i64 (E.num n).nm), C.t (T.str (ByteArray.mk #[]))]])) = bcc [Bc.mk (1 : Int) n (ByteArray.mk #[])] by simp)
    exact .tp [.b (rfl : true = true), .m (rfl : true = true), .m (rfl : true = true), .c (rfl : ((1 : Nat)) = _), t4] (by kernel_rfl)
  | .name s, h, hn => by
    have hk := NameNoS_ev s
    have hk0 : 0 ≤ nameNo s := by simpa [E.names] using hn
    rw [if_neg (by omega)] at hk
    let t6 : Tp pr := .n .crows (show (List.take (1 : Nat) (List.drop (0 : Nat) [[C.t (T.int IntKind.i64 (2 : Int)), C.t (T.int IntKind.i64 (nameNo s)), C.t (T.str (ByteArray.mk #[]))]])) = bcc [Bc.mk (2 : Int) (nameNo s) (ByteArray.mk #[])] by simp)
    exact .tp [.b (rfl : false = false), .b (rfl : true = true), .a (hk), .m (rfl : true = true), .m (rfl : true = true), .c (rfl : ((1 : Nat)) = _), t6] (by kernel_rfl)
  | .neg a, h, hn => by
    have g0 : lkp (E.neg a).kids 0 = some a.ts := rfl
    have ih := l17MakeN_ev a (by simp [E.size] at h; omega) (by simp [E.names] at hn; simp [hn])
    have hl := codeE_len a []
    simp only [List.length_nil] at hl
    simp only [E.size] at h
    let t2 : Tp pr := .g .row (show (lkp a.neg.kids (0 : Int)) = some (a.ts) from g0)
    let t6 : Tp pr := .m (show (decide ((bcc (codeE a [])).length = (codeE a []).length ∧ (0 : Nat) + (codeE a []).length ≤ (codeE a []).length ∧ (codeE a []).length + (1 : Nat) ≤ (4294967296 : Nat))) = true by (simp; omega))
    let t7 : Tp pr := .b (show (decide ((codeE a []).length + (1 : Nat) ≤ (codeE a []).length)) = false by simp)
    let t8 : Tp pr := .c (rfl : ((codeE a []).length + (1 : Nat)) = _)
    let t9 : Tp pr := .n .crows (show ((List.take (codeE a []).length (bcc (codeE a []))).append (List.take (1 : Nat) (List.drop (0 : Nat) [[C.t (T.int IntKind.i64 (5 : Int)), C.t (T.int IntKind.i64 (0 : Int)), C.t (T.str (ByteArray.mk #[(45 : UInt8)]))]]))) = bcc (codeE a [] ++ [Bc.mk (5 : Int) (0 : Int) (ByteArray.mk #[(45 : UInt8)])]) by simp)
    exact .tpe [.b (rfl : false = false), .b (rfl : false = false), t2, .a (ih), .b (rfl : true = true), .m (rfl : true = true), t6, t7, t8, t9] (Out.val (V.vec (0 : Nat) ((codeE a []).length + (1 : Nat)) (3 : Nat) (0 : Nat) ((codeE a []).length + (1 : Nat))) [Ob.vec true (3 : Nat) (bcc (codeE a [] ++ [Bc.mk (5 : Int) (0 : Int) (ByteArray.mk #[(45 : UInt8)])]))]) (by kernel_rfl) (((congrArg (fun x => Out.val (V.vec (0 : Nat) x (3 : Nat) (0 : Nat) ((codeE a []).length + (1 : Nat))) [Ob.vec true (3 : Nat) (bcc (codeE a [] ++ [Bc.mk (5 : Int) (0 : Int) (ByteArray.mk #[(45 : UInt8)])]))]) (show ((codeE a []).length + (1 : Nat)) = ((codeE a.neg []).length) by simp [codeE])).trans (congrArg (fun x => Out.val (V.vec (0 : Nat) (codeE a.neg []).length (3 : Nat) (0 : Nat) x) [Ob.vec true (3 : Nat) (bcc (codeE a [] ++ [Bc.mk (5 : Int) (0 : Int) (ByteArray.mk #[(45 : UInt8)])]))]) (show ((codeE a []).length + (1 : Nat)) = ((codeE a.neg []).length) by simp [codeE]))).trans (congrArg (fun x => Out.val (V.vec (0 : Nat) (codeE a.neg []).length (3 : Nat) (0 : Nat) (codeE a.neg []).length) [Ob.vec true (3 : Nat) x]) (show (bcc (codeE a [] ++ [Bc.mk (5 : Int) (0 : Int) (ByteArray.mk #[(45 : UInt8)])])) = (bcc (codeE a.neg [])) by simp [codeE])))
  | .not a, h, hn => by
    have g0 : lkp (E.not a).kids 0 = some a.ts := rfl
    have ih := l17MakeN_ev a (by simp [E.size] at h; omega) (by simp [E.names] at hn; simp [hn])
    have hl := codeE_len a []
    simp only [List.length_nil] at hl
    simp only [E.size] at h
    let t2 : Tp pr := .g .row (show (lkp a.not.kids (0 : Int)) = some (a.ts) from g0)
    let t8 : Tp pr := .m (show (decide ((bcc (codeE a [])).length = (codeE a []).length ∧ (0 : Nat) + (codeE a []).length ≤ (codeE a []).length ∧ (codeE a []).length + (1 : Nat) ≤ (4294967296 : Nat))) = true by (simp; omega))
    let t9 : Tp pr := .b (show (decide ((codeE a []).length + (1 : Nat) ≤ (codeE a []).length)) = false by simp)
    let t10 : Tp pr := .c (rfl : ((codeE a []).length + (1 : Nat)) = _)
    let t11 : Tp pr := .n .crows (show ((List.take (codeE a []).length (bcc (codeE a []))).append (List.take (1 : Nat) (List.drop (0 : Nat) [[C.t (T.int IntKind.i64 (5 : Int)), C.t (T.int IntKind.i64 (0 : Int)), C.t (T.str (ByteArray.mk #[(33 : UInt8)]))]]))) = bcc (codeE a [] ++ [Bc.mk (5 : Int) (0 : Int) (ByteArray.mk #[(33 : UInt8)])]) by simp)
    exact .tpe [.b (rfl : false = false), .b (rfl : false = false), t2, .a (ih), .b (rfl : false = false), .b (rfl : true = true), .a (l17Not_ev), .m (rfl : true = true), t8, t9, t10, t11] (Out.val (V.vec (0 : Nat) ((codeE a []).length + (1 : Nat)) (3 : Nat) (0 : Nat) ((codeE a []).length + (1 : Nat))) [Ob.vec true (3 : Nat) (bcc (codeE a [] ++ [Bc.mk (5 : Int) (0 : Int) (ByteArray.mk #[(33 : UInt8)])]))]) (by kernel_rfl) (((congrArg (fun x => Out.val (V.vec (0 : Nat) x (3 : Nat) (0 : Nat) ((codeE a []).length + (1 : Nat))) [Ob.vec true (3 : Nat) (bcc (codeE a [] ++ [Bc.mk (5 : Int) (0 : Int) (ByteArray.mk #[(33 : UInt8)])]))]) (show ((codeE a []).length + (1 : Nat)) = ((codeE a.not []).length) by simp [codeE, bNot])).trans (congrArg (fun x => Out.val (V.vec (0 : Nat) (codeE a.not []).length (3 : Nat) (0 : Nat) x) [Ob.vec true (3 : Nat) (bcc (codeE a [] ++ [Bc.mk (5 : Int) (0 : Int) (ByteArray.mk #[(33 : UInt8)])]))]) (show ((codeE a []).length + (1 : Nat)) = ((codeE a.not []).length) by simp [codeE, bNot]))).trans (congrArg (fun x => Out.val (V.vec (0 : Nat) (codeE a.not []).length (3 : Nat) (0 : Nat) (codeE a.not []).length) [Ob.vec true (3 : Nat) x]) (show (bcc (codeE a [] ++ [Bc.mk (5 : Int) (0 : Int) (ByteArray.mk #[(33 : UInt8)])])) = (bcc (codeE a.not [])) by simp [codeE, bNot])))
  | .two s a b, h, hn => by
    have g0 : lkp (E.two s a b).kids 0 = some a.ts := rfl
    have g1 : lkp (E.two s a b).kids 1 = some b.ts := rfl
    have ih := l17MakeN_ev a (by simp [E.size] at h; omega) (by simp [E.names] at hn; simp [hn])
    have hl := codeE_len a []
    simp only [List.length_nil] at hl
    simp only [E.size] at h
    by_cases h1 : s.toList = [38, 38]
    · have ih2 := l17Make_ev b (codeE a [] ++ [⟨7, 0, e0⟩]) (by simp; omega) (by simp [E.names] at hn; simp [hn])
      have hl2 := codeE_len b (codeE a [] ++ [⟨7, 0, e0⟩])
      have hg := codeE_get b (codeE a [] ++ [⟨7, 0, e0⟩]) (codeE a []).length (by simp)
      have hg2 : (bcc (codeE b (codeE a [] ++ [⟨7, 0, e0⟩]) ++ [bNot, bNot]))[(codeE a []).length]? = some (Bc.cc ⟨7, 0, e0⟩) := by
        simp at hl2
        rw [bcc_app, List.getElem?_append_left (by simp; omega)]
        simp [bcc, hg]
      have hg3 : ∀ r : List Bc, (bcc (codeE b ((codeE a []) ++ [⟨7, 0, e0⟩]) ++ r))[(codeE a []).length]? = some (Bc.cc ⟨7, 0, e0⟩) := fun r => by
        simp at hl2
        rw [bcc_app, List.getElem?_append_left (by simp; omega)]
        simp [bcc, hg]
      simp at hl2
      have hlt : (codeE a []).length < (codeE b ((codeE a []) ++ [⟨7, 0, ⟨#[]⟩⟩])).length := by omega
      let t2 : Tp pr := .g .row (show (lkp (E.two s a b).kids (0 : Int)) = some (a.ts) from g0)
      let t6 : Tp pr := .b (show ((E.two s a b).text.toList == [(38 : UInt8), (38 : UInt8)]) = true by (simp; omega))
      let t7 : Tp pr := .i (rfl : ((↑(codeE a []).length : Int)) = _)
      let t9 : Tp pr := .m (show (decide ((bcc (codeE a [])).length = (codeE a []).length ∧ (0 : Nat) + (codeE a []).length ≤ (codeE a []).length ∧ (codeE a []).length + (1 : Nat) ≤ (4294967296 : Nat))) = true by (simp; omega))
      let t10 : Tp pr := .b (show (decide ((codeE a []).length + (1 : Nat) ≤ (codeE a []).length)) = false by simp)
      let t11 : Tp pr := .c (rfl : ((codeE a []).length + (1 : Nat)) = _)
      let t12 : Tp pr := .n .crows (show ((List.take (codeE a []).length (bcc (codeE a []))).append (List.take (1 : Nat) (List.drop (0 : Nat) [[C.t (T.int IntKind.i64 (7 : Int)), C.t (T.int IntKind.i64 (0 : Int)), C.t (T.str (ByteArray.mk #[]))]]))) = bcc (codeE a [] ++ [Bc.mk (7 : Int) (0 : Int) (ByteArray.mk #[])]) by simp)
      let t13 : Tp pr := .g .row (show (lkp (E.two s a b).kids (1 : Int)) = some (b.ts) from g1)
      let t14 : Tp pr := .a (Ev.castq (congrArg (fun x => Q.call (48 : FuncId) [vs b.ts, V.vec (0 : Nat) x (3 : Nat) (0 : Nat) x] [Ob.vec true (3 : Nat) (bcc (codeE a [] ++ [Bc.mk (7 : Int) (0 : Int) e0]))]) (show ((codeE a [] ++ [Bc.mk (7 : Int) (0 : Int) e0]).length) = ((codeE a []).length + (1 : Nat)) by simp [codeE, bNot, h1, List.set_append, hlt])) (ih2))
      let t18 : Tp pr := .m (show (decide ((bcc (codeE b (codeE a [] ++ [Bc.mk (7 : Int) (0 : Int) e0]))).length = (codeE b (codeE a [] ++ [Bc.mk (7 : Int) (0 : Int) e0])).length ∧ (0 : Nat) + (codeE b (codeE a [] ++ [Bc.mk (7 : Int) (0 : Int) e0])).length ≤ (codeE b (codeE a [] ++ [Bc.mk (7 : Int) (0 : Int) e0])).length ∧ (codeE b (codeE a [] ++ [Bc.mk (7 : Int) (0 : Int) e0])).length + (2 : Nat) ≤ (4294967296 : Nat))) = true by (simp; omega))
      let t19 : Tp pr := .b (show (decide ((codeE b (codeE a [] ++ [Bc.mk (7 : Int) (0 : Int) e0])).length + (2 : Nat) ≤ (codeE b (codeE a [] ++ [Bc.mk (7 : Int) (0 : Int) e0])).length)) = false by simp)
      let t20 : Tp pr := .c (show ((codeE b (codeE a [] ++ [Bc.mk (7 : Int) (0 : Int) e0])).length + (2 : Nat) : Nat) = (codeE b (codeE a [] ++ [Bc.mk (7 : Int) (0 : Int) (ByteArray.mk #[])])).length + (2 : Nat) by rfl)
      let t21 : Tp pr := .n .crows (show ((List.take (codeE b (codeE a [] ++ [Bc.mk (7 : Int) (0 : Int) e0])).length (bcc (codeE b (codeE a [] ++ [Bc.mk (7 : Int) (0 : Int) e0])))).append (List.take (2 : Nat) (List.drop (0 : Nat) [[C.t (T.int IntKind.i64 (5 : Int)), C.t (T.int IntKind.i64 (0 : Int)), C.t (T.str (ByteArray.mk #[(33 : UInt8)]))], [C.t (T.int IntKind.i64 (5 : Int)), C.t (T.int IntKind.i64 (0 : Int)), C.t (T.str (ByteArray.mk #[(33 : UInt8)]))]]))) = bcc (codeE b (codeE a [] ++ [Bc.mk (7 : Int) (0 : Int) (ByteArray.mk #[])]) ++ [Bc.mk (5 : Int) (0 : Int) (ByteArray.mk #[(33 : UInt8)]), Bc.mk (5 : Int) (0 : Int) (ByteArray.mk #[(33 : UInt8)])]) by simp)
      let t22 : Tp pr := .i (show ((↑((codeE b (codeE a [] ++ [Bc.mk (7 : Int) (0 : Int) (ByteArray.mk #[])])).length + (2 : Nat)) : Int) : Int) = (↑(codeE b (codeE a [] ++ [Bc.mk (7 : Int) (0 : Int) (ByteArray.mk #[])])).length : Int) + (2 : Int) by omega)
      let t23 : Tp pr := .i (wrap_i64 (a := (↑(codeE b (codeE a [] ++ [Bc.mk (7 : Int) (0 : Int) (ByteArray.mk #[])])).length : Int) + (2 : Int) + (2 : Int)) (by omega) (by omega))
      let t25 : Tp pr := .m (show (decide ((bcc (codeE b (codeE a [] ++ [Bc.mk (7 : Int) (0 : Int) (ByteArray.mk #[])]) ++ [Bc.mk (5 : Int) (0 : Int) (ByteArray.mk #[(33 : UInt8)]), Bc.mk (5 : Int) (0 : Int) (ByteArray.mk #[(33 : UInt8)])])).length = (codeE b (codeE a [] ++ [Bc.mk (7 : Int) (0 : Int) (ByteArray.mk #[])])).length + (2 : Nat) ∧ (0 : Nat) + ((codeE b (codeE a [] ++ [Bc.mk (7 : Int) (0 : Int) (ByteArray.mk #[])])).length + (2 : Nat)) ≤ (codeE b (codeE a [] ++ [Bc.mk (7 : Int) (0 : Int) (ByteArray.mk #[])])).length + (2 : Nat) ∧ (codeE b (codeE a [] ++ [Bc.mk (7 : Int) (0 : Int) (ByteArray.mk #[])])).length + (2 : Nat) + (2 : Nat) ≤ (4294967296 : Nat))) = true by (simp; omega))
      let t26 : Tp pr := .b (show (decide ((codeE b (codeE a [] ++ [Bc.mk (7 : Int) (0 : Int) (ByteArray.mk #[])])).length + (2 : Nat) + (2 : Nat) ≤ (codeE b (codeE a [] ++ [Bc.mk (7 : Int) (0 : Int) (ByteArray.mk #[])])).length + (2 : Nat))) = false by simp)
      let t27 : Tp pr := .c (rfl : ((codeE b (codeE a [] ++ [Bc.mk (7 : Int) (0 : Int) (ByteArray.mk #[])])).length + (2 : Nat) + (2 : Nat)) = _)
      let t28 : Tp pr := .n .crows (show ((List.take ((codeE b (codeE a [] ++ [Bc.mk (7 : Int) (0 : Int) (ByteArray.mk #[])])).length + (2 : Nat)) (bcc (codeE b (codeE a [] ++ [Bc.mk (7 : Int) (0 : Int) (ByteArray.mk #[])]) ++ [Bc.mk (5 : Int) (0 : Int) (ByteArray.mk #[(33 : UInt8)]), Bc.mk (5 : Int) (0 : Int) (ByteArray.mk #[(33 : UInt8)])]))).append (List.take (2 : Nat) (List.drop (0 : Nat) [[C.t (T.int IntKind.i64 (6 : Int)), C.t (T.int IntKind.i64 ((↑(codeE b (codeE a [] ++ [Bc.mk (7 : Int) (0 : Int) (ByteArray.mk #[])])).length : Int) + (2 : Int) + (2 : Int))), C.t (T.str (ByteArray.mk #[]))], [C.t (T.int IntKind.i64 (1 : Int)), C.t (T.int IntKind.i64 (0 : Int)), C.t (T.str (ByteArray.mk #[]))]]))) = bcc (codeE b (codeE a [] ++ [Bc.mk (7 : Int) (0 : Int) (ByteArray.mk #[])]) ++ [Bc.mk (5 : Int) (0 : Int) (ByteArray.mk #[(33 : UInt8)]), Bc.mk (5 : Int) (0 : Int) (ByteArray.mk #[(33 : UInt8)]), Bc.mk (6 : Int) ((↑(codeE b (codeE a [] ++ [Bc.mk (7 : Int) (0 : Int) (ByteArray.mk #[])])).length : Int) + (2 : Int) + (2 : Int)) (ByteArray.mk #[]), Bc.mk (1 : Int) (0 : Int) (ByteArray.mk #[])]) by simp)
      let t29 : Tp pr := .i (wrap_i64 (a := (↑(codeE b (codeE a [] ++ [Bc.mk (7 : Int) (0 : Int) (ByteArray.mk #[])])).length : Int) + (2 : Int) + (1 : Int)) (by omega) (by omega))
      let t30 : Tp pr := .m (show (decide ((0 : Int) ≤ (↑(codeE a []).length : Int) ∧ (↑(codeE a []).length : Int).toNat < (codeE b (codeE a [] ++ [Bc.mk (7 : Int) (0 : Int) (ByteArray.mk #[])])).length + (2 : Nat) + (2 : Nat))) = true by (simp; omega))
      let t31 : Tp pr := .c (show ((0 : Nat) + (↑(codeE a []).length : Int).toNat : Nat) = (codeE a []).length by omega)
      let t32 : Tp pr := .m (show (decide ((bcc (codeE b (codeE a [] ++ [Bc.mk (7 : Int) (0 : Int) (ByteArray.mk #[])]) ++ [Bc.mk (5 : Int) (0 : Int) (ByteArray.mk #[(33 : UInt8)]), Bc.mk (5 : Int) (0 : Int) (ByteArray.mk #[(33 : UInt8)]), Bc.mk (6 : Int) ((↑(codeE b (codeE a [] ++ [Bc.mk (7 : Int) (0 : Int) (ByteArray.mk #[])])).length : Int) + (2 : Int) + (2 : Int)) (ByteArray.mk #[]), Bc.mk (1 : Int) (0 : Int) (ByteArray.mk #[])])).length = (codeE b (codeE a [] ++ [Bc.mk (7 : Int) (0 : Int) (ByteArray.mk #[])])).length + (2 : Nat) + (2 : Nat))) = true by simp)
      let t33 : Tp pr := .g .crow (show ((bcc (codeE b (codeE a [] ++ [Bc.mk (7 : Int) (0 : Int) (ByteArray.mk #[])]) ++ [Bc.mk (5 : Int) (0 : Int) (ByteArray.mk #[(33 : UInt8)]), Bc.mk (5 : Int) (0 : Int) (ByteArray.mk #[(33 : UInt8)]), Bc.mk (6 : Int) ((↑(codeE b (codeE a [] ++ [Bc.mk (7 : Int) (0 : Int) (ByteArray.mk #[])])).length : Int) + (2 : Int) + (2 : Int)) (ByteArray.mk #[]), Bc.mk (1 : Int) (0 : Int) (ByteArray.mk #[])]))[(codeE a []).length]?) = some ((Bc.mk (7 : Int) (0 : Int) (ByteArray.mk #[])).cc) by simp [*])
      let t34 : Tp pr := .n .crows (show ((bcc (codeE b (codeE a [] ++ [Bc.mk (7 : Int) (0 : Int) (ByteArray.mk #[])]) ++ [Bc.mk (5 : Int) (0 : Int) (ByteArray.mk #[(33 : UInt8)]), Bc.mk (5 : Int) (0 : Int) (ByteArray.mk #[(33 : UInt8)]), Bc.mk (6 : Int) ((↑(codeE b (codeE a [] ++ [Bc.mk (7 : Int) (0 : Int) (ByteArray.mk #[])])).length : Int) + (2 : Int) + (2 : Int)) (ByteArray.mk #[]), Bc.mk (1 : Int) (0 : Int) (ByteArray.mk #[])])).set (codeE a []).length [C.t (T.int IntKind.i64 (7 : Int)), C.t (T.int IntKind.i64 ((↑(codeE b (codeE a [] ++ [Bc.mk (7 : Int) (0 : Int) (ByteArray.mk #[])])).length : Int) + (2 : Int) + (1 : Int))), C.t (T.str (ByteArray.mk #[]))]) = bcc ((codeE b (codeE a [] ++ [Bc.mk (7 : Int) (0 : Int) (ByteArray.mk #[])]) ++ [Bc.mk (5 : Int) (0 : Int) (ByteArray.mk #[(33 : UInt8)]), Bc.mk (5 : Int) (0 : Int) (ByteArray.mk #[(33 : UInt8)]), Bc.mk (6 : Int) ((↑(codeE b (codeE a [] ++ [Bc.mk (7 : Int) (0 : Int) (ByteArray.mk #[])])).length : Int) + (2 : Int) + (2 : Int)) (ByteArray.mk #[]), Bc.mk (1 : Int) (0 : Int) (ByteArray.mk #[])]).set (codeE a []).length (Bc.mk (7 : Int) ((↑(codeE b (codeE a [] ++ [Bc.mk (7 : Int) (0 : Int) (ByteArray.mk #[])])).length : Int) + (2 : Int) + (1 : Int)) (ByteArray.mk #[]))) by simp)
      exact .tpe [.b (rfl : false = false), .b (rfl : false = false), t2, .a (ih), .b (rfl : false = false), .b (rfl : false = false), t6, t7, .m (rfl : true = true), t9, t10, t11, t12, t13, t14, .a (l17Not_ev), .a (l17Not_ev), .m (rfl : true = true), t18, t19, t20, t21, t22, t23, .m (rfl : true = true), t25, t26, t27, t28, t29, t30, t31, t32, t33, t34] (Out.val (V.vec (0 : Nat) ((codeE b (codeE a [] ++ [Bc.mk (7 : Int) (0 : Int) (ByteArray.mk #[])])).length + (2 : Nat) + (2 : Nat)) (3 : Nat) (0 : Nat) ((codeE b (codeE a [] ++ [Bc.mk (7 : Int) (0 : Int) (ByteArray.mk #[])])).length + (2 : Nat) + (2 : Nat))) [Ob.vec true (3 : Nat) (bcc ((codeE b (codeE a [] ++ [Bc.mk (7 : Int) (0 : Int) (ByteArray.mk #[])]) ++ [Bc.mk (5 : Int) (0 : Int) (ByteArray.mk #[(33 : UInt8)]), Bc.mk (5 : Int) (0 : Int) (ByteArray.mk #[(33 : UInt8)]), Bc.mk (6 : Int) ((↑(codeE b (codeE a [] ++ [Bc.mk (7 : Int) (0 : Int) (ByteArray.mk #[])])).length : Int) + (2 : Int) + (2 : Int)) (ByteArray.mk #[]), Bc.mk (1 : Int) (0 : Int) (ByteArray.mk #[])]).set (codeE a []).length (Bc.mk (7 : Int) ((↑(codeE b (codeE a [] ++ [Bc.mk (7 : Int) (0 : Int) (ByteArray.mk #[])])).length : Int) + (2 : Int) + (1 : Int)) (ByteArray.mk #[]))))]) (by kernel_rfl) (((congrArg (fun x => Out.val (V.vec (0 : Nat) x (3 : Nat) (0 : Nat) ((codeE b (codeE a [] ++ [Bc.mk (7 : Int) (0 : Int) (ByteArray.mk #[])])).length + (2 : Nat) + (2 : Nat))) [Ob.vec true (3 : Nat) (bcc ((codeE b (codeE a [] ++ [Bc.mk (7 : Int) (0 : Int) (ByteArray.mk #[])]) ++ [Bc.mk (5 : Int) (0 : Int) (ByteArray.mk #[(33 : UInt8)]), Bc.mk (5 : Int) (0 : Int) (ByteArray.mk #[(33 : UInt8)]), Bc.mk (6 : Int) ((↑(codeE b (codeE a [] ++ [Bc.mk (7 : Int) (0 : Int) (ByteArray.mk #[])])).length : Int) + (2 : Int) + (2 : Int)) (ByteArray.mk #[]), Bc.mk (1 : Int) (0 : Int) (ByteArray.mk #[])]).set (codeE a []).length (Bc.mk (7 : Int) ((↑(codeE b (codeE a [] ++ [Bc.mk (7 : Int) (0 : Int) (ByteArray.mk #[])])).length : Int) + (2 : Int) + (1 : Int)) (ByteArray.mk #[]))))]) (show ((codeE b (codeE a [] ++ [Bc.mk (7 : Int) (0 : Int) (ByteArray.mk #[])])).length + (2 : Nat) + (2 : Nat)) = ((codeE (E.two s a b) []).length) by simp [codeE, bNot, h1, List.set_append, hlt])).trans (congrArg (fun x => Out.val (V.vec (0 : Nat) (codeE (E.two s a b) []).length (3 : Nat) (0 : Nat) x) [Ob.vec true (3 : Nat) (bcc ((codeE b (codeE a [] ++ [Bc.mk (7 : Int) (0 : Int) (ByteArray.mk #[])]) ++ [Bc.mk (5 : Int) (0 : Int) (ByteArray.mk #[(33 : UInt8)]), Bc.mk (5 : Int) (0 : Int) (ByteArray.mk #[(33 : UInt8)]), Bc.mk (6 : Int) ((↑(codeE b (codeE a [] ++ [Bc.mk (7 : Int) (0 : Int) (ByteArray.mk #[])])).length : Int) + (2 : Int) + (2 : Int)) (ByteArray.mk #[]), Bc.mk (1 : Int) (0 : Int) (ByteArray.mk #[])]).set (codeE a []).length (Bc.mk (7 : Int) ((↑(codeE b (codeE a [] ++ [Bc.mk (7 : Int) (0 : Int) (ByteArray.mk #[])])).length : Int) + (2 : Int) + (1 : Int)) (ByteArray.mk #[]))))]) (show ((codeE b (codeE a [] ++ [Bc.mk (7 : Int) (0 : Int) (ByteArray.mk #[])])).length + (2 : Nat) + (2 : Nat)) = ((codeE (E.two s a b) []).length) by simp [codeE, bNot, h1, List.set_append, hlt]))).trans (congrArg (fun x => Out.val (V.vec (0 : Nat) (codeE (E.two s a b) []).length (3 : Nat) (0 : Nat) (codeE (E.two s a b) []).length) [Ob.vec true (3 : Nat) x]) (show (bcc ((codeE b (codeE a [] ++ [Bc.mk (7 : Int) (0 : Int) (ByteArray.mk #[])]) ++ [Bc.mk (5 : Int) (0 : Int) (ByteArray.mk #[(33 : UInt8)]), Bc.mk (5 : Int) (0 : Int) (ByteArray.mk #[(33 : UInt8)]), Bc.mk (6 : Int) ((↑(codeE b (codeE a [] ++ [Bc.mk (7 : Int) (0 : Int) (ByteArray.mk #[])])).length : Int) + (2 : Int) + (2 : Int)) (ByteArray.mk #[]), Bc.mk (1 : Int) (0 : Int) (ByteArray.mk #[])]).set (codeE a []).length (Bc.mk (7 : Int) ((↑(codeE b (codeE a [] ++ [Bc.mk (7 : Int) (0 : Int) (ByteArray.mk #[])])).length : Int) + (2 : Int) + (1 : Int)) (ByteArray.mk #[])))) = (bcc (codeE (E.two s a b) [])) by simp [codeE, bNot, h1, List.set_append, hlt])))
    · by_cases h2 : s.toList = [124, 124]
      · have ih2 := l17Make_ev b (codeE a [] ++ [⟨7, (codeE a []).length + 3, e0⟩, ⟨1, 1, e0⟩, ⟨6, 0, e0⟩]) (by simp; omega) (by simp [E.names] at hn; simp [hn])
        have hl2 := codeE_len b (codeE a [] ++ [⟨7, (codeE a []).length + 3, e0⟩, ⟨1, 1, e0⟩, ⟨6, 0, e0⟩])
        have hg := codeE_get b (codeE a [] ++ [⟨7, (codeE a []).length + 3, e0⟩, ⟨1, 1, e0⟩, ⟨6, 0, e0⟩]) ((codeE a []).length + 2) (by simp)
        have hg2 : (bcc (codeE b (codeE a [] ++ [⟨7, (codeE a []).length + 3, e0⟩, ⟨1, 1, e0⟩, ⟨6, 0, e0⟩]) ++ [bNot, bNot]))[(codeE a []).length + 2]? = some (Bc.cc ⟨6, 0, e0⟩) := by
          simp at hl2
          rw [bcc_app, List.getElem?_append_left (by simp; omega)]
          simp [bcc, hg]
        simp at hl2
        let t2 : Tp pr := .g .row (show (lkp (E.two s a b).kids (0 : Int)) = some (a.ts) from g0)
        let t6 : Tp pr := .b (show ((E.two s a b).text.toList == [(38 : UInt8), (38 : UInt8)]) = false by (simp; omega))
        let t7 : Tp pr := .b (show ((E.two s a b).text.toList == [(124 : UInt8), (124 : UInt8)]) = true by (simp; omega))
        let t8 : Tp pr := .i (rfl : ((↑(codeE a []).length : Int)) = _)
        let t9 : Tp pr := .i (wrap_i64 (a := (↑(codeE a []).length : Int) + (3 : Int)) (by omega) (by omega))
        let t11 : Tp pr := .m (show (decide ((bcc (codeE a [])).length = (codeE a []).length ∧ (0 : Nat) + (codeE a []).length ≤ (codeE a []).length ∧ (codeE a []).length + (3 : Nat) ≤ (4294967296 : Nat))) = true by (simp; omega))
        let t12 : Tp pr := .b (show (decide ((codeE a []).length + (3 : Nat) ≤ (codeE a []).length)) = false by simp)
        let t13 : Tp pr := .c (rfl : ((codeE a []).length + (3 : Nat)) = _)
        let t14 : Tp pr := .n .crows (show ((List.take (codeE a []).length (bcc (codeE a []))).append (List.take (3 : Nat) (List.drop (0 : Nat) [[C.t (T.int IntKind.i64 (7 : Int)), C.t (T.int IntKind.i64 ((↑(codeE a []).length : Int) + (3 : Int))), C.t (T.str (ByteArray.mk #[]))], [C.t (T.int IntKind.i64 (1 : Int)), C.t (T.int IntKind.i64 (1 : Int)), C.t (T.str (ByteArray.mk #[]))], [C.t (T.int IntKind.i64 (6 : Int)), C.t (T.int IntKind.i64 (0 : Int)), C.t (T.str (ByteArray.mk #[]))]]))) = bcc (codeE a [] ++ [Bc.mk (7 : Int) ((↑(codeE a []).length : Int) + (3 : Int)) (ByteArray.mk #[]), Bc.mk (1 : Int) (1 : Int) (ByteArray.mk #[]), Bc.mk (6 : Int) (0 : Int) (ByteArray.mk #[])]) by simp)
        let t15 : Tp pr := .g .row (show (lkp (E.two s a b).kids (1 : Int)) = some (b.ts) from g1)
        let t16 : Tp pr := .a (Ev.castq (congrArg (fun x => Q.call (48 : FuncId) [vs b.ts, V.vec (0 : Nat) x (3 : Nat) (0 : Nat) x] [Ob.vec true (3 : Nat) (bcc (codeE a [] ++ [Bc.mk (7 : Int) ((↑(codeE a []).length : Int) + (3 : Int)) e0, Bc.mk (1 : Int) (1 : Int) e0, Bc.mk (6 : Int) (0 : Int) e0]))]) (show ((codeE a [] ++ [Bc.mk (7 : Int) ((↑(codeE a []).length : Int) + (3 : Int)) e0, Bc.mk (1 : Int) (1 : Int) e0, Bc.mk (6 : Int) (0 : Int) e0]).length) = ((codeE a []).length + (3 : Nat)) by simp [codeE, bNot, h1, h2])) (ih2))
        let t20 : Tp pr := .m (show (decide ((bcc (codeE b (codeE a [] ++ [Bc.mk (7 : Int) ((↑(codeE a []).length : Int) + (3 : Int)) e0, Bc.mk (1 : Int) (1 : Int) e0, Bc.mk (6 : Int) (0 : Int) e0]))).length = (codeE b (codeE a [] ++ [Bc.mk (7 : Int) ((↑(codeE a []).length : Int) + (3 : Int)) e0, Bc.mk (1 : Int) (1 : Int) e0, Bc.mk (6 : Int) (0 : Int) e0])).length ∧ (0 : Nat) + (codeE b (codeE a [] ++ [Bc.mk (7 : Int) ((↑(codeE a []).length : Int) + (3 : Int)) e0, Bc.mk (1 : Int) (1 : Int) e0, Bc.mk (6 : Int) (0 : Int) e0])).length ≤ (codeE b (codeE a [] ++ [Bc.mk (7 : Int) ((↑(codeE a []).length : Int) + (3 : Int)) e0, Bc.mk (1 : Int) (1 : Int) e0, Bc.mk (6 : Int) (0 : Int) e0])).length ∧ (codeE b (codeE a [] ++ [Bc.mk (7 : Int) ((↑(codeE a []).length : Int) + (3 : Int)) e0, Bc.mk (1 : Int) (1 : Int) e0, Bc.mk (6 : Int) (0 : Int) e0])).length + (2 : Nat) ≤ (4294967296 : Nat))) = true by (simp; omega))
        let t21 : Tp pr := .b (show (decide ((codeE b (codeE a [] ++ [Bc.mk (7 : Int) ((↑(codeE a []).length : Int) + (3 : Int)) e0, Bc.mk (1 : Int) (1 : Int) e0, Bc.mk (6 : Int) (0 : Int) e0])).length + (2 : Nat) ≤ (codeE b (codeE a [] ++ [Bc.mk (7 : Int) ((↑(codeE a []).length : Int) + (3 : Int)) e0, Bc.mk (1 : Int) (1 : Int) e0, Bc.mk (6 : Int) (0 : Int) e0])).length)) = false by simp)
        let t22 : Tp pr := .c (show ((codeE b (codeE a [] ++ [Bc.mk (7 : Int) ((↑(codeE a []).length : Int) + (3 : Int)) e0, Bc.mk (1 : Int) (1 : Int) e0, Bc.mk (6 : Int) (0 : Int) e0])).length + (2 : Nat) : Nat) = (codeE b (codeE a [] ++ [Bc.mk (7 : Int) ((↑(codeE a []).length : Int) + (3 : Int)) (ByteArray.mk #[]), Bc.mk (1 : Int) (1 : Int) (ByteArray.mk #[]), Bc.mk (6 : Int) (0 : Int) (ByteArray.mk #[])])).length + (2 : Nat) by rfl)
        let t23 : Tp pr := .n .crows (show ((List.take (codeE b (codeE a [] ++ [Bc.mk (7 : Int) ((↑(codeE a []).length : Int) + (3 : Int)) e0, Bc.mk (1 : Int) (1 : Int) e0, Bc.mk (6 : Int) (0 : Int) e0])).length (bcc (codeE b (codeE a [] ++ [Bc.mk (7 : Int) ((↑(codeE a []).length : Int) + (3 : Int)) e0, Bc.mk (1 : Int) (1 : Int) e0, Bc.mk (6 : Int) (0 : Int) e0])))).append (List.take (2 : Nat) (List.drop (0 : Nat) [[C.t (T.int IntKind.i64 (5 : Int)), C.t (T.int IntKind.i64 (0 : Int)), C.t (T.str (ByteArray.mk #[(33 : UInt8)]))], [C.t (T.int IntKind.i64 (5 : Int)), C.t (T.int IntKind.i64 (0 : Int)), C.t (T.str (ByteArray.mk #[(33 : UInt8)]))]]))) = bcc (codeE b (codeE a [] ++ [Bc.mk (7 : Int) ((↑(codeE a []).length : Int) + (3 : Int)) (ByteArray.mk #[]), Bc.mk (1 : Int) (1 : Int) (ByteArray.mk #[]), Bc.mk (6 : Int) (0 : Int) (ByteArray.mk #[])]) ++ [Bc.mk (5 : Int) (0 : Int) (ByteArray.mk #[(33 : UInt8)]), Bc.mk (5 : Int) (0 : Int) (ByteArray.mk #[(33 : UInt8)])]) by simp)
        let t24 : Tp pr := .i (wrap_i64 (a := (↑(codeE a []).length : Int) + (2 : Int)) (by omega) (by omega))
        let t25 : Tp pr := .i (show ((↑((codeE b (codeE a [] ++ [Bc.mk (7 : Int) ((↑(codeE a []).length : Int) + (3 : Int)) (ByteArray.mk #[]), Bc.mk (1 : Int) (1 : Int) (ByteArray.mk #[]), Bc.mk (6 : Int) (0 : Int) (ByteArray.mk #[])])).length + (2 : Nat)) : Int) : Int) = (↑(codeE b (codeE a [] ++ [Bc.mk (7 : Int) ((↑(codeE a []).length : Int) + (3 : Int)) (ByteArray.mk #[]), Bc.mk (1 : Int) (1 : Int) (ByteArray.mk #[]), Bc.mk (6 : Int) (0 : Int) (ByteArray.mk #[])])).length : Int) + (2 : Int) by omega)
        let t26 : Tp pr := .m (show (decide ((0 : Int) ≤ (↑(codeE a []).length : Int) + (2 : Int) ∧ ((↑(codeE a []).length : Int) + (2 : Int)).toNat < (codeE b (codeE a [] ++ [Bc.mk (7 : Int) ((↑(codeE a []).length : Int) + (3 : Int)) (ByteArray.mk #[]), Bc.mk (1 : Int) (1 : Int) (ByteArray.mk #[]), Bc.mk (6 : Int) (0 : Int) (ByteArray.mk #[])])).length + (2 : Nat))) = true by (simp; omega))
        let t27 : Tp pr := .c (show ((0 : Nat) + ((↑(codeE a []).length : Int) + (2 : Int)).toNat : Nat) = (codeE a []).length + (2 : Nat) by omega)
        let t28 : Tp pr := .m (show (decide ((bcc (codeE b (codeE a [] ++ [Bc.mk (7 : Int) ((↑(codeE a []).length : Int) + (3 : Int)) (ByteArray.mk #[]), Bc.mk (1 : Int) (1 : Int) (ByteArray.mk #[]), Bc.mk (6 : Int) (0 : Int) (ByteArray.mk #[])]) ++ [Bc.mk (5 : Int) (0 : Int) (ByteArray.mk #[(33 : UInt8)]), Bc.mk (5 : Int) (0 : Int) (ByteArray.mk #[(33 : UInt8)])])).length = (codeE b (codeE a [] ++ [Bc.mk (7 : Int) ((↑(codeE a []).length : Int) + (3 : Int)) (ByteArray.mk #[]), Bc.mk (1 : Int) (1 : Int) (ByteArray.mk #[]), Bc.mk (6 : Int) (0 : Int) (ByteArray.mk #[])])).length + (2 : Nat))) = true by simp)
        let t29 : Tp pr := .g .crow (show ((bcc (codeE b (codeE a [] ++ [Bc.mk (7 : Int) ((↑(codeE a []).length : Int) + (3 : Int)) (ByteArray.mk #[]), Bc.mk (1 : Int) (1 : Int) (ByteArray.mk #[]), Bc.mk (6 : Int) (0 : Int) (ByteArray.mk #[])]) ++ [Bc.mk (5 : Int) (0 : Int) (ByteArray.mk #[(33 : UInt8)]), Bc.mk (5 : Int) (0 : Int) (ByteArray.mk #[(33 : UInt8)])]))[(codeE a []).length + (2 : Nat)]?) = some ((Bc.mk (6 : Int) (0 : Int) e0).cc) from hg2)
        let t30 : Tp pr := .n .crows (show ((bcc (codeE b (codeE a [] ++ [Bc.mk (7 : Int) ((↑(codeE a []).length : Int) + (3 : Int)) (ByteArray.mk #[]), Bc.mk (1 : Int) (1 : Int) (ByteArray.mk #[]), Bc.mk (6 : Int) (0 : Int) (ByteArray.mk #[])]) ++ [Bc.mk (5 : Int) (0 : Int) (ByteArray.mk #[(33 : UInt8)]), Bc.mk (5 : Int) (0 : Int) (ByteArray.mk #[(33 : UInt8)])])).set ((codeE a []).length + (2 : Nat)) [C.t (T.int IntKind.i64 (6 : Int)), C.t (T.int IntKind.i64 ((↑(codeE b (codeE a [] ++ [Bc.mk (7 : Int) ((↑(codeE a []).length : Int) + (3 : Int)) (ByteArray.mk #[]), Bc.mk (1 : Int) (1 : Int) (ByteArray.mk #[]), Bc.mk (6 : Int) (0 : Int) (ByteArray.mk #[])])).length : Int) + (2 : Int))), C.t (T.str (ByteArray.mk #[]))]) = bcc ((codeE b (codeE a [] ++ [Bc.mk (7 : Int) ((↑(codeE a []).length : Int) + (3 : Int)) (ByteArray.mk #[]), Bc.mk (1 : Int) (1 : Int) (ByteArray.mk #[]), Bc.mk (6 : Int) (0 : Int) (ByteArray.mk #[])]) ++ [Bc.mk (5 : Int) (0 : Int) (ByteArray.mk #[(33 : UInt8)]), Bc.mk (5 : Int) (0 : Int) (ByteArray.mk #[(33 : UInt8)])]).set ((codeE a []).length + (2 : Nat)) (Bc.mk (6 : Int) ((↑(codeE b (codeE a [] ++ [Bc.mk (7 : Int) ((↑(codeE a []).length : Int) + (3 : Int)) (ByteArray.mk #[]), Bc.mk (1 : Int) (1 : Int) (ByteArray.mk #[]), Bc.mk (6 : Int) (0 : Int) (ByteArray.mk #[])])).length : Int) + (2 : Int)) (ByteArray.mk #[]))) by simp)
        exact .tpe [.b (rfl : false = false), .b (rfl : false = false), t2, .a (ih), .b (rfl : false = false), .b (rfl : false = false), t6, t7, t8, t9, .m (rfl : true = true), t11, t12, t13, t14, t15, t16, .a (l17Not_ev), .a (l17Not_ev), .m (rfl : true = true), t20, t21, t22, t23, t24, t25, t26, t27, t28, t29, t30] (Out.val (V.vec (0 : Nat) ((codeE b (codeE a [] ++ [Bc.mk (7 : Int) ((↑(codeE a []).length : Int) + (3 : Int)) (ByteArray.mk #[]), Bc.mk (1 : Int) (1 : Int) (ByteArray.mk #[]), Bc.mk (6 : Int) (0 : Int) (ByteArray.mk #[])])).length + (2 : Nat)) (3 : Nat) (0 : Nat) ((codeE b (codeE a [] ++ [Bc.mk (7 : Int) ((↑(codeE a []).length : Int) + (3 : Int)) (ByteArray.mk #[]), Bc.mk (1 : Int) (1 : Int) (ByteArray.mk #[]), Bc.mk (6 : Int) (0 : Int) (ByteArray.mk #[])])).length + (2 : Nat))) [Ob.vec true (3 : Nat) (bcc ((codeE b (codeE a [] ++ [Bc.mk (7 : Int) ((↑(codeE a []).length : Int) + (3 : Int)) (ByteArray.mk #[]), Bc.mk (1 : Int) (1 : Int) (ByteArray.mk #[]), Bc.mk (6 : Int) (0 : Int) (ByteArray.mk #[])]) ++ [Bc.mk (5 : Int) (0 : Int) (ByteArray.mk #[(33 : UInt8)]), Bc.mk (5 : Int) (0 : Int) (ByteArray.mk #[(33 : UInt8)])]).set ((codeE a []).length + (2 : Nat)) (Bc.mk (6 : Int) ((↑(codeE b (codeE a [] ++ [Bc.mk (7 : Int) ((↑(codeE a []).length : Int) + (3 : Int)) (ByteArray.mk #[]), Bc.mk (1 : Int) (1 : Int) (ByteArray.mk #[]), Bc.mk (6 : Int) (0 : Int) (ByteArray.mk #[])])).length : Int) + (2 : Int)) (ByteArray.mk #[]))))]) (by kernel_rfl) (((congrArg (fun x => Out.val (V.vec (0 : Nat) x (3 : Nat) (0 : Nat) ((codeE b (codeE a [] ++ [Bc.mk (7 : Int) ((↑(codeE a []).length : Int) + (3 : Int)) (ByteArray.mk #[]), Bc.mk (1 : Int) (1 : Int) (ByteArray.mk #[]), Bc.mk (6 : Int) (0 : Int) (ByteArray.mk #[])])).length + (2 : Nat))) [Ob.vec true (3 : Nat) (bcc ((codeE b (codeE a [] ++ [Bc.mk (7 : Int) ((↑(codeE a []).length : Int) + (3 : Int)) (ByteArray.mk #[]), Bc.mk (1 : Int) (1 : Int) (ByteArray.mk #[]), Bc.mk (6 : Int) (0 : Int) (ByteArray.mk #[])]) ++ [Bc.mk (5 : Int) (0 : Int) (ByteArray.mk #[(33 : UInt8)]), Bc.mk (5 : Int) (0 : Int) (ByteArray.mk #[(33 : UInt8)])]).set ((codeE a []).length + (2 : Nat)) (Bc.mk (6 : Int) ((↑(codeE b (codeE a [] ++ [Bc.mk (7 : Int) ((↑(codeE a []).length : Int) + (3 : Int)) (ByteArray.mk #[]), Bc.mk (1 : Int) (1 : Int) (ByteArray.mk #[]), Bc.mk (6 : Int) (0 : Int) (ByteArray.mk #[])])).length : Int) + (2 : Int)) (ByteArray.mk #[]))))]) (show ((codeE b (codeE a [] ++ [Bc.mk (7 : Int) ((↑(codeE a []).length : Int) + (3 : Int)) (ByteArray.mk #[]), Bc.mk (1 : Int) (1 : Int) (ByteArray.mk #[]), Bc.mk (6 : Int) (0 : Int) (ByteArray.mk #[])])).length + (2 : Nat)) = ((codeE (E.two s a b) []).length) by simp [codeE, bNot, h1, h2])).trans (congrArg (fun x => Out.val (V.vec (0 : Nat) (codeE (E.two s a b) []).length (3 : Nat) (0 : Nat) x) [Ob.vec true (3 : Nat) (bcc ((codeE b (codeE a [] ++ [Bc.mk (7 : Int) ((↑(codeE a []).length : Int) + (3 : Int)) (ByteArray.mk #[]), Bc.mk (1 : Int) (1 : Int) (ByteArray.mk #[]), Bc.mk (6 : Int) (0 : Int) (ByteArray.mk #[])]) ++ [Bc.mk (5 : Int) (0 : Int) (ByteArray.mk #[(33 : UInt8)]), Bc.mk (5 : Int) (0 : Int) (ByteArray.mk #[(33 : UInt8)])]).set ((codeE a []).length + (2 : Nat)) (Bc.mk (6 : Int) ((↑(codeE b (codeE a [] ++ [Bc.mk (7 : Int) ((↑(codeE a []).length : Int) + (3 : Int)) (ByteArray.mk #[]), Bc.mk (1 : Int) (1 : Int) (ByteArray.mk #[]), Bc.mk (6 : Int) (0 : Int) (ByteArray.mk #[])])).length : Int) + (2 : Int)) (ByteArray.mk #[]))))]) (show ((codeE b (codeE a [] ++ [Bc.mk (7 : Int) ((↑(codeE a []).length : Int) + (3 : Int)) (ByteArray.mk #[]), Bc.mk (1 : Int) (1 : Int) (ByteArray.mk #[]), Bc.mk (6 : Int) (0 : Int) (ByteArray.mk #[])])).length + (2 : Nat)) = ((codeE (E.two s a b) []).length) by simp [codeE, bNot, h1, h2]))).trans (congrArg (fun x => Out.val (V.vec (0 : Nat) (codeE (E.two s a b) []).length (3 : Nat) (0 : Nat) (codeE (E.two s a b) []).length) [Ob.vec true (3 : Nat) x]) (show (bcc ((codeE b (codeE a [] ++ [Bc.mk (7 : Int) ((↑(codeE a []).length : Int) + (3 : Int)) (ByteArray.mk #[]), Bc.mk (1 : Int) (1 : Int) (ByteArray.mk #[]), Bc.mk (6 : Int) (0 : Int) (ByteArray.mk #[])]) ++ [Bc.mk (5 : Int) (0 : Int) (ByteArray.mk #[(33 : UInt8)]), Bc.mk (5 : Int) (0 : Int) (ByteArray.mk #[(33 : UInt8)])]).set ((codeE a []).length + (2 : Nat)) (Bc.mk (6 : Int) ((↑(codeE b (codeE a [] ++ [Bc.mk (7 : Int) ((↑(codeE a []).length : Int) + (3 : Int)) (ByteArray.mk #[]), Bc.mk (1 : Int) (1 : Int) (ByteArray.mk #[]), Bc.mk (6 : Int) (0 : Int) (ByteArray.mk #[])])).length : Int) + (2 : Int)) (ByteArray.mk #[])))) = (bcc (codeE (E.two s a b) [])) by simp [codeE, bNot, h1, h2])))
      · have ih2 := l17Make_ev b (codeE a []) (by omega) (by simp [E.names] at hn; simp [hn])
        have hl2 := codeE_len b (codeE a [])
        let t2 : Tp pr := .g .row (show (lkp (E.two s a b).kids (0 : Int)) = some (a.ts) from g0)
        let t6 : Tp pr := .b (show ((E.two s a b).text.toList == [(38 : UInt8), (38 : UInt8)]) = false by (simp; omega))
        let t7 : Tp pr := .b (show ((E.two s a b).text.toList == [(124 : UInt8), (124 : UInt8)]) = false by (simp; omega))
        let t8 : Tp pr := .g .row (show (lkp (E.two s a b).kids (1 : Int)) = some (b.ts) from g1)
        let t11 : Tp pr := .m (show (decide ((bcc (codeE b (codeE a []))).length = (codeE b (codeE a [])).length ∧ (0 : Nat) + (codeE b (codeE a [])).length ≤ (codeE b (codeE a [])).length ∧ (codeE b (codeE a [])).length + (1 : Nat) ≤ (4294967296 : Nat))) = true by (simp; omega))
        let t12 : Tp pr := .b (show (decide ((codeE b (codeE a [])).length + (1 : Nat) ≤ (codeE b (codeE a [])).length)) = false by simp)
        let t13 : Tp pr := .c (rfl : ((codeE b (codeE a [])).length + (1 : Nat)) = _)
        let t14 : Tp pr := .n .crows (show ((List.take (codeE b (codeE a [])).length (bcc (codeE b (codeE a [])))).append (List.take (1 : Nat) (List.drop (0 : Nat) [[C.t (T.int IntKind.i64 (4 : Int)), C.t (T.int IntKind.i64 (0 : Int)), C.t (T.str (E.two s a b).text)]]))) = bcc (codeE b (codeE a []) ++ [Bc.mk (4 : Int) (0 : Int) s]) by simp)
        exact .tpe [.b (rfl : false = false), .b (rfl : false = false), t2, .a (ih), .b (rfl : false = false), .b (rfl : false = false), t6, t7, t8, .a (ih2), .m (rfl : true = true), t11, t12, t13, t14] (Out.val (V.vec (0 : Nat) ((codeE b (codeE a [])).length + (1 : Nat)) (3 : Nat) (0 : Nat) ((codeE b (codeE a [])).length + (1 : Nat))) [Ob.vec true (3 : Nat) (bcc (codeE b (codeE a []) ++ [Bc.mk (4 : Int) (0 : Int) s]))]) (by kernel_rfl) (((congrArg (fun x => Out.val (V.vec (0 : Nat) x (3 : Nat) (0 : Nat) ((codeE b (codeE a [])).length + (1 : Nat))) [Ob.vec true (3 : Nat) (bcc (codeE b (codeE a []) ++ [Bc.mk (4 : Int) (0 : Int) s]))]) (show ((codeE b (codeE a [])).length + (1 : Nat)) = ((codeE (E.two s a b) []).length) by simp [codeE, bNot, h1, h2])).trans (congrArg (fun x => Out.val (V.vec (0 : Nat) (codeE (E.two s a b) []).length (3 : Nat) (0 : Nat) x) [Ob.vec true (3 : Nat) (bcc (codeE b (codeE a []) ++ [Bc.mk (4 : Int) (0 : Int) s]))]) (show ((codeE b (codeE a [])).length + (1 : Nat)) = ((codeE (E.two s a b) []).length) by simp [codeE, bNot, h1, h2]))).trans (congrArg (fun x => Out.val (V.vec (0 : Nat) (codeE (E.two s a b) []).length (3 : Nat) (0 : Nat) (codeE (E.two s a b) []).length) [Ob.vec true (3 : Nat) x]) (show (bcc (codeE b (codeE a []) ++ [Bc.mk (4 : Int) (0 : Int) s])) = (bcc (codeE (E.two s a b) [])) by simp [codeE, bNot, h1, h2])))
end Go.Ev

/- MakeExpr, the program's and the reference's. -/
namespace Go.Ev
set_option linter.unusedVariables false
set_option linter.unusedSimpArgs false
open Go.Proofs
set_option maxRecDepth 100000
set_option linter.unusedVariables false
set_option maxHeartbeats 1000000
theorem MakeExprI_ev (l : List Ex) (hl : l.length ≤ 1048576) (hs : ∀ x ∈ l, x.text.size ≤ 9223372036854775807) : Ev pr (.call 17 [exs l] []) (match makeExpr l with
    | some c => .val (.tup [.vec 0 c.length 3 0 c.length, bl true]) [.vec true 3 (bcc c)]
    | none => .val (.tup [.t .nils, bl false]) []) := by
  have h := localExpr_ev l hl hs
  unfold makeExpr
  cases hp : parseL l with
  | none => rw [hp] at h; exact .tp [.a (h), .b (rfl : true = true)] (by kernel_rfl)
  | some e =>
    rw [hp] at h
    have hz := parseL_size hp
    have h2 := madeN_ev e (by omega)
    have h3 := codeE_len e []
    by_cases h120 : (codeE e []).length ≤ 120
    · simp only [h120, if_true]
      let t3 : Tp pr := .i (rfl : ((↑(codeE e []).length : Int)) = _)
      let t4 : Tp pr := .b (show (decide ((↑(codeE e []).length : Int) > (120 : Int))) = false by (simp; omega))
      exact .tp [.a (h), .b (rfl : false = false), .a (h2), t3, t4] (by kernel_rfl)
    · simp only [h120, if_false]
      let t3 : Tp pr := .i (rfl : ((↑(codeE e []).length : Int)) = _)
      let t4 : Tp pr := .b (show (decide ((↑(codeE e []).length : Int) > (120 : Int))) = true by (simp; omega))
      exact .tp [.a (h), .b (rfl : false = false), .a (h2), t3, t4] (by kernel_rfl)
theorem MakeExprS_ev (l : List Ex) (hl : l.length ≤ 1048576) (hs : ∀ x ∈ l, x.text.size ≤ 9223372036854775807) : Ev pr (.call 15 [exs l] []) (match makeExpr l with
    | some c => .val (.tup [bcs c, bl true]) []
    | none => .val (.tup [.t (.seq 3 []), bl false]) []) := by
  have h := l17Expr_ev l hl hs
  unfold makeExpr
  cases hp : parseL l with
  | none => rw [hp] at h; exact .tp [.a (h), .b (rfl : true = true)] (by kernel_rfl)
  | some e =>
    rw [hp] at h
    have ht := parse_tree (parseL_parse hp)
    rw [ht] at h
    have hn := parseL_names hp
    have hz := parseL_size hp
    have h2 := l17MakeN_ev e (by omega) hn
    have h3 := codeE_len e []
    by_cases h120 : (codeE e []).length ≤ 120
    · simp only [h120, if_true]
      let t3 : Tp pr := .i (rfl : ((↑(codeE e []).length : Int)) = _)
      let t4 : Tp pr := .b (show (decide ((↑(codeE e []).length : Int) > (120 : Int))) = false by (simp; omega))
      let t5 : Tp pr := .m (show (decide ((bcc (codeE e [])).length = (codeE e []).length ∧ (0 : Nat) + (codeE e []).length ≤ (codeE e []).length)) = true by simp)
      let t6 : Tp pr := .n .rows (show (List.map (fun x => List.map C.fz x) (List.take (codeE e []).length (List.drop (0 : Nat) (bcc (codeE e []))))) = List.map Bc.ce (codeE e []) by simp)
      exact .tp [.a (h), .b (rfl : false = false), .a (h2), t3, t4, t5, t6] (by kernel_rfl)
    · simp only [h120, if_false]
      let t3 : Tp pr := .i (rfl : ((↑(codeE e []).length : Int)) = _)
      let t4 : Tp pr := .b (show (decide ((↑(codeE e []).length : Int) > (120 : Int))) = true by (simp; omega))
      exact .tp [.a (h), .b (rfl : false = false), .a (h2), t3, t4] (by kernel_rfl)
end Go.Ev

/- Marks. -/
namespace Go.Ev
set_option linter.unusedVariables false
set_option linter.unusedSimpArgs false
open Go.Proofs
set_option maxRecDepth 100000
set_option linter.unusedVariables false
set_option maxHeartbeats 1000000
attribute [local simp] e0
theorem markTextL_ev : ∀ (n : Nat) (k : Int) (o : ByteArray), 0 ≤ k → k < 10 ^ n → o.size + n ≤ 1000 → n ≤ 18 →
    Ev pr (.loop (lq pr 54 0) (at_ [(0, i64 k), (3, .t (.str o))] [] 0)) (.exit 0 (at_ [(3, .t (.str (mtGo n k o)))] [] 0))
  | 0, k, o, h0, h1, h2, h3 => by
    have hk : k = 0 := by simp at h1; omega
    subst hk
    exact .tp [.b (rfl : false = false)] (by kernel_rfl)
  | n + 1, k, o, h0, h1, h2, h3 => by
    have hp : (10 : Int) ^ (n + 1) = 10 * 10 ^ n := by rw [Int.pow_succ]; omega
    have hb : (10 : Int) ^ n ≤ 10 ^ 17 := by
      have : n ≤ 17 := by omega
      exact_mod_cast Nat.pow_le_pow_right (by omega) this
    have hb2 : (10 : Int) ^ 17 = 100000000000000000 := by decide
    have hm0 : 0 ≤ k.tmod 10 := Int.tmod_nonneg _ h0
    have hm1 : k.tmod 10 < 10 := Int.tmod_lt_of_pos _ (by omega)
    have hd : k.tdiv 10 = k / 10 := Int.tdiv_eq_ediv_of_nonneg h0
    have hs : (strOf [48 + k.tmod 10]).size = 1 := by simp [strOf_size]
    by_cases hk : k > 0
    · have ih := markTextL_ev n (k.tdiv 10) (strOf [48 + k.tmod 10] ++ o) (by omega) (by omega) (by rw [ByteArray.size_append]; omega) (by omega)
      have e : mtGo (n + 1) k o = mtGo n (k.tdiv 10) (strOf [48 + k.tmod 10] ++ o) := by simp [mtGo, hk]
      rw [e]
      let t0 : Tp pr := .b (show (decide (k > (0 : Int))) = true by (simp; omega))
      let t2 : Tp pr := .i (wrap_i64 (a := (48 : Int) + k.tmod (10 : Int)) (by omega) (by omega))
      let t3 : Tp pr := .i (wrap_u8 (a := (48 : Int) + k.tmod (10 : Int)) (by omega) (by omega))
      let t5 : Tp pr := .n .rows (show (List.map (fun x => List.map C.fz x) (List.take (1 : Nat) (List.drop (0 : Nat) [[C.t (T.int IntKind.u8 ((48 : Int) + k.tmod (10 : Int)))]]))) = [[(C.t (T.int IntKind.u8 ((48 : Int) + k.tmod (10 : Int)))).fz]] by simp)
      let t6 : Tp pr := .m (show (decide ((1 : Nat) + o.size ≤ (9223372036854775807 : Nat))) = true by (simp; omega))
      let t7 : Tp pr := .n .str (show ((ByteArray.mk (Array.mk [UInt8.ofNat ((48 : Int) + k.tmod (10 : Int)).toNat])).append o) = ByteArray.mk (Array.mk [UInt8.ofNat ((48 : Int) + k.tmod (10 : Int)).toNat]) ++ o by simp)
      let t8 : Tp pr := .i (wrap_i64 (a := k.tdiv (10 : Int)) (by omega) (by omega))
      exact .tp [t0, .i (rfl : (k.tmod (10 : Int)) = _), t2, t3, .m (rfl : true = true), t5, t6, t7, t8, .a (ih)] (by kernel_rfl)
    · have e : mtGo (n + 1) k o = o := by simp [mtGo, hk]
      rw [e]
      let t0 : Tp pr := .b (show (decide (k > (0 : Int))) = false by (simp; omega))
      exact .tp [t0] (by kernel_rfl)
theorem markText_ev (k : Int) (h0 : 0 ≤ k) (h : k ≤ 10000000000) : Ev pr (.call 54 [i64 k] []) (.val (.t (.str (mText k))) []) := by
  unfold mText
  by_cases hk : k ≤ 0
  · rw [if_pos hk]; (
    let t0 : Tp pr := .b (show (decide (k ≤ (0 : Int))) = true by (simp; omega))
    exact .tp [t0] (by kernel_rfl))
  · rw [if_neg hk]
    have hl := markTextL_ev 18 k ⟨#[]⟩ h0 (by omega) (by decide) (by omega)
    have hz : (mtGo 18 k ⟨#[]⟩).size ≤ 1000 := mtGo_size 18 k ⟨#[]⟩ (by decide)
    let t0 : Tp pr := .b (show (decide (k ≤ (0 : Int))) = false by (simp; omega))
    let t2 : Tp pr := .m (show (decide ((1 : Nat) + (mtGo (18 : Nat) k (ByteArray.mk #[])).size ≤ (9223372036854775807 : Nat))) = true by (simp; omega))
    let t3 : Tp pr := .n .str (show ((ByteArray.mk #[(109 : UInt8)]).append (mtGo (18 : Nat) k (ByteArray.mk #[]))) = ByteArray.mk #[(109 : UInt8)] ++ mtGo (18 : Nat) k (ByteArray.mk #[]) by simp)
    exact .tp [t0, .a (hl), t2, t3] (by kernel_rfl)
theorem markBcL_ev (mt : Int → ByteArray) (hmt : ∀ k, 0 ≤ k → k ≤ 10000000000 → Ev pr (.call 54 [i64 k] []) (.val (.t (.str (mt k))) [])) : ∀ (rest m : List Bc) (k : Int), 0 ≤ k → k + 3 * rest.length ≤ 9000000 → m.length + rest.length ≤ 1048576 →
    Ev pr (.loop (lq pr 21 0) (at_ [(0, .vec 0 (m.length + rest.length) 3 0 (m.length + rest.length)), (1, i64 k), (5, i64 m.length)] [.vec true 3 (bcc (m ++ rest))] 1))
      (.exit 0 (at_ [(1, i64 (k + 3 * rest.length))] [.vec true 3 (bcc (m ++ mark3 mt k rest.length))] 1))
  | [], m, k, h0, h1, h2 => by
    let t0 : Tp pr := .i (show ((↑(m.length + (0 : Nat)) : Int) : Int) = (↑m.length : Int) by omega)
    let t1 : Tp pr := .b (show (decide ((↑m.length : Int) < (↑m.length : Int))) = false by simp)
    exact .tpe [t0, t1] (Out.exit (0 : Nat) (at_ [((1 : Nat), V.t (T.int IntKind.i64 k))] [Ob.vec true (3 : Nat) (bcc (m ++ []))] (1 : Nat))) (by kernel_rfl) ((congrArg (fun x => Out.exit (0 : Nat) (at_ [((1 : Nat), V.t (T.int IntKind.i64 x))] [Ob.vec true (3 : Nat) (bcc (m ++ []))] (1 : Nat))) (show (k) = (k + (0 : Int)) by simp [mark3])).trans (congrArg (fun x => Out.exit (0 : Nat) (at_ [((1 : Nat), V.t (T.int IntKind.i64 (k + (0 : Int))))] [Ob.vec true (3 : Nat) x] (1 : Nat))) (show (bcc (m ++ [])) = (bcc (m ++ mark3 mt k (0 : Nat))) by simp [mark3])))
  | x :: rest, m, k, h0, h1, h2 => by
    simp at h1 h2
    have ht := hmt (k + 1 + 1) (by omega) (by omega)
    have ih := markBcL_ev mt hmt rest (m ++ [⟨k, k + 1, mt (k + 1 + 1)⟩]) (k + 1 + 1 + 1) (by omega) (by omega) (by simp; omega)
    let t0 : Tp pr := .i (show ((↑(m.length + (x :: rest).length) : Int) : Int) = (↑m.length : Int) + ((↑rest.length : Int) + (1 : Int)) by simp)
    let t1 : Tp pr := .b (show (decide ((↑m.length : Int) < (↑m.length : Int) + ((↑rest.length : Int) + (1 : Int)))) = true by (simp; omega))
    let t2 : Tp pr := .m (show (decide ((0 : Int) ≤ (↑m.length : Int) ∧ (↑m.length : Int).toNat < m.length + (x :: rest).length)) = true by simp)
    let t3 : Tp pr := .c (show ((0 : Nat) + (↑m.length : Int).toNat : Nat) = m.length by omega)
    let t4 : Tp pr := .m (show (decide ((bcc (m ++ x :: rest)).length = m.length + (x :: rest).length)) = true by simp)
    let t5 : Tp pr := .g .crow (show ((bcc (m ++ x :: rest))[m.length]?) = some ([C.t (T.int IntKind.i64 x.op), C.t (T.int IntKind.i64 x.n), C.t (T.str x.text)]) by simp)
    let t6 : Tp pr := .m (show (decide ((bcc (m ++ x :: rest)).length = m.length + (x :: rest).length)) = true by simp)
    let t7 : Tp pr := .g .crow (show ((bcc (m ++ x :: rest))[m.length]?) = some ([C.t (T.int IntKind.i64 x.op), C.t (T.int IntKind.i64 x.n), C.t (T.str x.text)]) by simp)
    let t8 : Tp pr := .n .crows (show ((bcc (m ++ x :: rest)).set m.length [C.t (T.int IntKind.i64 k), C.t (T.int IntKind.i64 x.n), C.t (T.str x.text)]) = bcc (m ++ Bc.mk k x.n x.text :: rest) by simp)
    let t9 : Tp pr := .i (wrap_i64 (a := k + (1 : Int)) (by omega) (by omega))
    let t10 : Tp pr := .m (show (decide ((0 : Int) ≤ (↑m.length : Int) ∧ (↑m.length : Int).toNat < m.length + (x :: rest).length)) = true by simp)
    let t11 : Tp pr := .c (show ((0 : Nat) + (↑m.length : Int).toNat : Nat) = m.length by omega)
    let t12 : Tp pr := .m (show (decide ((bcc (m ++ Bc.mk k x.n x.text :: rest)).length = m.length + (x :: rest).length)) = true by simp)
    let t13 : Tp pr := .g .crow (show ((bcc (m ++ Bc.mk k x.n x.text :: rest))[m.length]?) = some ([C.t (T.int IntKind.i64 k), C.t (T.int IntKind.i64 x.n), C.t (T.str x.text)]) by simp)
    let t14 : Tp pr := .n .crows (show ((bcc (m ++ Bc.mk k x.n x.text :: rest)).set m.length [C.t (T.int IntKind.i64 k), C.t (T.int IntKind.i64 (k + (1 : Int))), C.t (T.str x.text)]) = bcc (m ++ Bc.mk k (k + (1 : Int)) x.text :: rest) by simp)
    let t15 : Tp pr := .i (wrap_i64 (a := k + (1 : Int) + (1 : Int)) (by omega) (by omega))
    let t16 : Tp pr := .a (hmt (k + (1 : Int) + (1 : Int)) (by omega) (by omega))
    let t17 : Tp pr := .m (show (decide ((0 : Int) ≤ (↑m.length : Int) ∧ (↑m.length : Int).toNat < m.length + (x :: rest).length)) = true by simp)
    let t18 : Tp pr := .c (show ((0 : Nat) + (↑m.length : Int).toNat : Nat) = m.length by omega)
    let t19 : Tp pr := .m (show (decide ((bcc (m ++ Bc.mk k (k + (1 : Int)) x.text :: rest)).length = m.length + (x :: rest).length)) = true by simp)
    let t20 : Tp pr := .g .crow (show ((bcc (m ++ Bc.mk k (k + (1 : Int)) x.text :: rest))[m.length]?) = some ([C.t (T.int IntKind.i64 k), C.t (T.int IntKind.i64 (k + (1 : Int))), C.t (T.str x.text)]) by simp)
    let t21 : Tp pr := .n .crows (show ((bcc (m ++ Bc.mk k (k + (1 : Int)) x.text :: rest)).set m.length [C.t (T.int IntKind.i64 k), C.t (T.int IntKind.i64 (k + (1 : Int))), C.t (T.str (mt (k + (1 : Int) + (1 : Int))))]) = bcc (m ++ Bc.mk k (k + (1 : Int)) (mt (k + (1 : Int) + (1 : Int))) :: rest) by simp)
    let t22 : Tp pr := .i (wrap_i64 (a := k + (1 : Int) + (1 : Int) + (1 : Int)) (by omega) (by omega))
    let t23 : Tp pr := .i (wrap_i64 (a := (↑m.length : Int) + (1 : Int)) (by omega) (by omega))
    let t24 : Tp pr := .a (Ev.castq (((congrArg (fun x => Q.loop (lq pr (21 : FuncId) (0 : Nat)) (at_ [((0 : Nat), V.vec (0 : Nat) x (3 : Nat) (0 : Nat) x), ((1 : Nat), i64 (k + (1 : Int) + (1 : Int) + (1 : Int))), ((5 : Nat), i64 (↑(m ++ [Bc.mk k (k + (1 : Int)) (mt (k + (1 : Int) + (1 : Int)))]).length : Int))] [Ob.vec true (3 : Nat) (bcc (m ++ [Bc.mk k (k + (1 : Int)) (mt (k + (1 : Int) + (1 : Int)))] ++ rest))] (1 : Nat))) (show ((m ++ [Bc.mk k (k + (1 : Int)) (mt (k + (1 : Int) + (1 : Int)))]).length + rest.length) = (m.length + (x :: rest).length) by (simp [mark3] <;> omega))).trans (congrArg (fun x_1 => Q.loop (lq pr (21 : FuncId) (0 : Nat)) (at_ [((0 : Nat), V.vec (0 : Nat) (m.length + (x :: rest).length) (3 : Nat) (0 : Nat) (m.length + (x :: rest).length)), ((1 : Nat), i64 (k + (1 : Int) + (1 : Int) + (1 : Int))), ((5 : Nat), i64 x_1)] [Ob.vec true (3 : Nat) (bcc (m ++ [Bc.mk k (k + (1 : Int)) (mt (k + (1 : Int) + (1 : Int)))] ++ rest))] (1 : Nat))) (show ((↑(m ++ [Bc.mk k (k + (1 : Int)) (mt (k + (1 : Int) + (1 : Int)))]).length : Int)) = ((↑m.length : Int) + (1 : Int)) by (simp [mark3] <;> omega)))).trans (congrArg (fun x_1 => Q.loop (lq pr (21 : FuncId) (0 : Nat)) (at_ [((0 : Nat), V.vec (0 : Nat) (m.length + (x :: rest).length) (3 : Nat) (0 : Nat) (m.length + (x :: rest).length)), ((1 : Nat), i64 (k + (1 : Int) + (1 : Int) + (1 : Int))), ((5 : Nat), i64 ((↑m.length : Int) + (1 : Int)))] [Ob.vec true (3 : Nat) x_1] (1 : Nat))) (show (bcc (m ++ [Bc.mk k (k + (1 : Int)) (mt (k + (1 : Int) + (1 : Int)))] ++ rest)) = (bcc (m ++ Bc.mk k (k + (1 : Int)) (mt (k + (1 : Int) + (1 : Int))) :: rest)) by (simp [mark3] <;> omega)))) (ih))
    exact .tpe [t0, t1, t2, t3, t4, t5, t6, t7, t8, t9, t10, t11, t12, t13, t14, t15, t16, t17, t18, t19, t20, t21, t22, t23, t24] (Out.exit (0 : Nat) (at_ [((1 : Nat), V.t (T.int IntKind.i64 (k + (1 : Int) + (1 : Int) + (1 : Int) + (3 : Int) * (↑rest.length : Int))))] [Ob.vec true (3 : Nat) (bcc (m ++ [Bc.mk k (k + (1 : Int)) (mt (k + (1 : Int) + (1 : Int)))] ++ mark3 mt (k + (1 : Int) + (1 : Int) + (1 : Int)) rest.length))] (1 : Nat))) (by kernel_rfl) ((congrArg (fun x => Out.exit (0 : Nat) (at_ [((1 : Nat), V.t (T.int IntKind.i64 x))] [Ob.vec true (3 : Nat) (bcc (m ++ [Bc.mk k (k + (1 : Int)) (mt (k + (1 : Int) + (1 : Int)))] ++ mark3 mt (k + (1 : Int) + (1 : Int) + (1 : Int)) rest.length))] (1 : Nat))) (show (k + (1 : Int) + (1 : Int) + (1 : Int) + (3 : Int) * (↑rest.length : Int)) = (k + (3 : Int) * (↑(x :: rest).length : Int)) by (simp [mark3] <;> omega))).trans (congrArg (fun x_1 => Out.exit (0 : Nat) (at_ [((1 : Nat), V.t (T.int IntKind.i64 (k + (3 : Int) * (↑(x :: rest).length : Int))))] [Ob.vec true (3 : Nat) x_1] (1 : Nat))) (show (bcc (m ++ [Bc.mk k (k + (1 : Int)) (mt (k + (1 : Int) + (1 : Int)))] ++ mark3 mt (k + (1 : Int) + (1 : Int) + (1 : Int)) rest.length)) = (bcc (m ++ mark3 mt k (x :: rest).length)) by (simp [mark3] <;> omega))))
theorem markBcS_ev (mt : Int → ByteArray) (hmt : ∀ k, 0 ≤ k → k ≤ 10000000000 → Ev pr (.call 54 [i64 k] []) (.val (.t (.str (mt k))) [])) (l : List Bc) (k : Int) (h0 : 0 ≤ k) (h : k + 3 * l.length ≤ 9000000) (h2 : l.length ≤ 1048576) : Ev pr (.call 21 [.vec 0 l.length 3 0 l.length, i64 k] [.vec true 3 (bcc l)]) (.val (i64 (k + 3 * l.length)) [.vec true 3 (bcc (mark3 mt k l.length))]) := by
  have := markBcL_ev mt hmt l [] k h0 h (by simpa using h2)
  let t0 : Tp pr := .a (Ev.castq (congrArg (fun x => Q.loop (lq pr (21 : FuncId) (0 : Nat)) (at_ [((0 : Nat), V.vec (0 : Nat) x (3 : Nat) (0 : Nat) x), ((1 : Nat), i64 k), ((5 : Nat), i64 (↑(0 : Nat) : Int))] [Ob.vec true (3 : Nat) (bcc ([] ++ l))] (1 : Nat))) (show ((0 : Nat) + l.length) = (l.length) by simp)) (this))
  exact .tp [t0] (by kernel_rfl)
theorem markExL_ev (mt : Int → ByteArray) (hmt : ∀ k, 0 ≤ k → k ≤ 10000000000 → Ev pr (.call 54 [i64 k] []) (.val (.t (.str (mt k))) [])) : ∀ (rest m : List Bc) (k : Int), 0 ≤ k → k + 3 * rest.length ≤ 9000000 → m.length + rest.length ≤ 1048576 →
    Ev pr (.loop (lq pr 20 0) (at_ [(0, .vec 0 (m.length + rest.length) 3 0 (m.length + rest.length)), (1, i64 k), (5, i64 m.length)] [.vec true 3 (bcc (m ++ rest))] 1))
      (.exit 0 (at_ [(1, i64 (k + 3 * rest.length))] [.vec true 3 (bcc (m ++ mark3 mt k rest.length))] 1))
  | [], m, k, h0, h1, h2 => by
    let t0 : Tp pr := .i (show ((↑(m.length + (0 : Nat)) : Int) : Int) = (↑m.length : Int) by omega)
    let t1 : Tp pr := .b (show (decide ((↑m.length : Int) < (↑m.length : Int))) = false by simp)
    exact .tpe [t0, t1] (Out.exit (0 : Nat) (at_ [((1 : Nat), V.t (T.int IntKind.i64 k))] [Ob.vec true (3 : Nat) (bcc (m ++ []))] (1 : Nat))) (by kernel_rfl) ((congrArg (fun x => Out.exit (0 : Nat) (at_ [((1 : Nat), V.t (T.int IntKind.i64 x))] [Ob.vec true (3 : Nat) (bcc (m ++ []))] (1 : Nat))) (show (k) = (k + (0 : Int)) by simp [mark3])).trans (congrArg (fun x => Out.exit (0 : Nat) (at_ [((1 : Nat), V.t (T.int IntKind.i64 (k + (0 : Int))))] [Ob.vec true (3 : Nat) x] (1 : Nat))) (show (bcc (m ++ [])) = (bcc (m ++ mark3 mt k (0 : Nat))) by simp [mark3])))
  | x :: rest, m, k, h0, h1, h2 => by
    simp at h1 h2
    have ht := hmt (k + 1 + 1) (by omega) (by omega)
    have ih := markExL_ev mt hmt rest (m ++ [⟨k, k + 1, mt (k + 1 + 1)⟩]) (k + 1 + 1 + 1) (by omega) (by omega) (by simp; omega)
    let t0 : Tp pr := .i (show ((↑(m.length + (x :: rest).length) : Int) : Int) = (↑m.length : Int) + ((↑rest.length : Int) + (1 : Int)) by simp)
    let t1 : Tp pr := .b (show (decide ((↑m.length : Int) < (↑m.length : Int) + ((↑rest.length : Int) + (1 : Int)))) = true by (simp; omega))
    let t2 : Tp pr := .m (show (decide ((0 : Int) ≤ (↑m.length : Int) ∧ (↑m.length : Int).toNat < m.length + (x :: rest).length)) = true by simp)
    let t3 : Tp pr := .c (show ((0 : Nat) + (↑m.length : Int).toNat : Nat) = m.length by omega)
    let t4 : Tp pr := .m (show (decide ((bcc (m ++ x :: rest)).length = m.length + (x :: rest).length)) = true by simp)
    let t5 : Tp pr := .g .crow (show ((bcc (m ++ x :: rest))[m.length]?) = some ([C.t (T.int IntKind.i64 x.op), C.t (T.int IntKind.i64 x.n), C.t (T.str x.text)]) by simp)
    let t6 : Tp pr := .m (show (decide ((bcc (m ++ x :: rest)).length = m.length + (x :: rest).length)) = true by simp)
    let t7 : Tp pr := .g .crow (show ((bcc (m ++ x :: rest))[m.length]?) = some ([C.t (T.int IntKind.i64 x.op), C.t (T.int IntKind.i64 x.n), C.t (T.str x.text)]) by simp)
    let t8 : Tp pr := .n .crows (show ((bcc (m ++ x :: rest)).set m.length [C.t (T.int IntKind.i64 k), C.t (T.int IntKind.i64 x.n), C.t (T.str x.text)]) = bcc (m ++ Bc.mk k x.n x.text :: rest) by simp)
    let t9 : Tp pr := .i (wrap_i64 (a := k + (1 : Int)) (by omega) (by omega))
    let t10 : Tp pr := .m (show (decide ((0 : Int) ≤ (↑m.length : Int) ∧ (↑m.length : Int).toNat < m.length + (x :: rest).length)) = true by simp)
    let t11 : Tp pr := .c (show ((0 : Nat) + (↑m.length : Int).toNat : Nat) = m.length by omega)
    let t12 : Tp pr := .m (show (decide ((bcc (m ++ Bc.mk k x.n x.text :: rest)).length = m.length + (x :: rest).length)) = true by simp)
    let t13 : Tp pr := .g .crow (show ((bcc (m ++ Bc.mk k x.n x.text :: rest))[m.length]?) = some ([C.t (T.int IntKind.i64 k), C.t (T.int IntKind.i64 x.n), C.t (T.str x.text)]) by simp)
    let t14 : Tp pr := .n .crows (show ((bcc (m ++ Bc.mk k x.n x.text :: rest)).set m.length [C.t (T.int IntKind.i64 k), C.t (T.int IntKind.i64 (k + (1 : Int))), C.t (T.str x.text)]) = bcc (m ++ Bc.mk k (k + (1 : Int)) x.text :: rest) by simp)
    let t15 : Tp pr := .i (wrap_i64 (a := k + (1 : Int) + (1 : Int)) (by omega) (by omega))
    let t16 : Tp pr := .a (hmt (k + (1 : Int) + (1 : Int)) (by omega) (by omega))
    let t17 : Tp pr := .m (show (decide ((0 : Int) ≤ (↑m.length : Int) ∧ (↑m.length : Int).toNat < m.length + (x :: rest).length)) = true by simp)
    let t18 : Tp pr := .c (show ((0 : Nat) + (↑m.length : Int).toNat : Nat) = m.length by omega)
    let t19 : Tp pr := .m (show (decide ((bcc (m ++ Bc.mk k (k + (1 : Int)) x.text :: rest)).length = m.length + (x :: rest).length)) = true by simp)
    let t20 : Tp pr := .g .crow (show ((bcc (m ++ Bc.mk k (k + (1 : Int)) x.text :: rest))[m.length]?) = some ([C.t (T.int IntKind.i64 k), C.t (T.int IntKind.i64 (k + (1 : Int))), C.t (T.str x.text)]) by simp)
    let t21 : Tp pr := .n .crows (show ((bcc (m ++ Bc.mk k (k + (1 : Int)) x.text :: rest)).set m.length [C.t (T.int IntKind.i64 k), C.t (T.int IntKind.i64 (k + (1 : Int))), C.t (T.str (mt (k + (1 : Int) + (1 : Int))))]) = bcc (m ++ Bc.mk k (k + (1 : Int)) (mt (k + (1 : Int) + (1 : Int))) :: rest) by simp)
    let t22 : Tp pr := .i (wrap_i64 (a := k + (1 : Int) + (1 : Int) + (1 : Int)) (by omega) (by omega))
    let t23 : Tp pr := .i (wrap_i64 (a := (↑m.length : Int) + (1 : Int)) (by omega) (by omega))
    let t24 : Tp pr := .a (Ev.castq (((congrArg (fun x => Q.loop (lq pr (20 : FuncId) (0 : Nat)) (at_ [((0 : Nat), V.vec (0 : Nat) x (3 : Nat) (0 : Nat) x), ((1 : Nat), i64 (k + (1 : Int) + (1 : Int) + (1 : Int))), ((5 : Nat), i64 (↑(m ++ [Bc.mk k (k + (1 : Int)) (mt (k + (1 : Int) + (1 : Int)))]).length : Int))] [Ob.vec true (3 : Nat) (bcc (m ++ [Bc.mk k (k + (1 : Int)) (mt (k + (1 : Int) + (1 : Int)))] ++ rest))] (1 : Nat))) (show ((m ++ [Bc.mk k (k + (1 : Int)) (mt (k + (1 : Int) + (1 : Int)))]).length + rest.length) = (m.length + (x :: rest).length) by (simp [mark3] <;> omega))).trans (congrArg (fun x_1 => Q.loop (lq pr (20 : FuncId) (0 : Nat)) (at_ [((0 : Nat), V.vec (0 : Nat) (m.length + (x :: rest).length) (3 : Nat) (0 : Nat) (m.length + (x :: rest).length)), ((1 : Nat), i64 (k + (1 : Int) + (1 : Int) + (1 : Int))), ((5 : Nat), i64 x_1)] [Ob.vec true (3 : Nat) (bcc (m ++ [Bc.mk k (k + (1 : Int)) (mt (k + (1 : Int) + (1 : Int)))] ++ rest))] (1 : Nat))) (show ((↑(m ++ [Bc.mk k (k + (1 : Int)) (mt (k + (1 : Int) + (1 : Int)))]).length : Int)) = ((↑m.length : Int) + (1 : Int)) by (simp [mark3] <;> omega)))).trans (congrArg (fun x_1 => Q.loop (lq pr (20 : FuncId) (0 : Nat)) (at_ [((0 : Nat), V.vec (0 : Nat) (m.length + (x :: rest).length) (3 : Nat) (0 : Nat) (m.length + (x :: rest).length)), ((1 : Nat), i64 (k + (1 : Int) + (1 : Int) + (1 : Int))), ((5 : Nat), i64 ((↑m.length : Int) + (1 : Int)))] [Ob.vec true (3 : Nat) x_1] (1 : Nat))) (show (bcc (m ++ [Bc.mk k (k + (1 : Int)) (mt (k + (1 : Int) + (1 : Int)))] ++ rest)) = (bcc (m ++ Bc.mk k (k + (1 : Int)) (mt (k + (1 : Int) + (1 : Int))) :: rest)) by (simp [mark3] <;> omega)))) (ih))
    exact .tpe [t0, t1, t2, t3, t4, t5, t6, t7, t8, t9, t10, t11, t12, t13, t14, t15, t16, t17, t18, t19, t20, t21, t22, t23, t24] (Out.exit (0 : Nat) (at_ [((1 : Nat), V.t (T.int IntKind.i64 (k + (1 : Int) + (1 : Int) + (1 : Int) + (3 : Int) * (↑rest.length : Int))))] [Ob.vec true (3 : Nat) (bcc (m ++ [Bc.mk k (k + (1 : Int)) (mt (k + (1 : Int) + (1 : Int)))] ++ mark3 mt (k + (1 : Int) + (1 : Int) + (1 : Int)) rest.length))] (1 : Nat))) (by kernel_rfl) ((congrArg (fun x => Out.exit (0 : Nat) (at_ [((1 : Nat), V.t (T.int IntKind.i64 x))] [Ob.vec true (3 : Nat) (bcc (m ++ [Bc.mk k (k + (1 : Int)) (mt (k + (1 : Int) + (1 : Int)))] ++ mark3 mt (k + (1 : Int) + (1 : Int) + (1 : Int)) rest.length))] (1 : Nat))) (show (k + (1 : Int) + (1 : Int) + (1 : Int) + (3 : Int) * (↑rest.length : Int)) = (k + (3 : Int) * (↑(x :: rest).length : Int)) by (simp [mark3] <;> omega))).trans (congrArg (fun x_1 => Out.exit (0 : Nat) (at_ [((1 : Nat), V.t (T.int IntKind.i64 (k + (3 : Int) * (↑(x :: rest).length : Int))))] [Ob.vec true (3 : Nat) x_1] (1 : Nat))) (show (bcc (m ++ [Bc.mk k (k + (1 : Int)) (mt (k + (1 : Int) + (1 : Int)))] ++ mark3 mt (k + (1 : Int) + (1 : Int) + (1 : Int)) rest.length)) = (bcc (m ++ mark3 mt k (x :: rest).length)) by (simp [mark3] <;> omega))))
theorem markExS_ev (mt : Int → ByteArray) (hmt : ∀ k, 0 ≤ k → k ≤ 10000000000 → Ev pr (.call 54 [i64 k] []) (.val (.t (.str (mt k))) [])) (l : List Bc) (k : Int) (h0 : 0 ≤ k) (h : k + 3 * l.length ≤ 9000000) (h2 : l.length ≤ 1048576) : Ev pr (.call 20 [.vec 0 l.length 3 0 l.length, i64 k] [.vec true 3 (bcc l)]) (.val (i64 (k + 3 * l.length)) [.vec true 3 (bcc (mark3 mt k l.length))]) := by
  have := markExL_ev mt hmt l [] k h0 h (by simpa using h2)
  let t0 : Tp pr := .a (Ev.castq (congrArg (fun x => Q.loop (lq pr (20 : FuncId) (0 : Nat)) (at_ [((0 : Nat), V.vec (0 : Nat) x (3 : Nat) (0 : Nat) x), ((1 : Nat), i64 k), ((5 : Nat), i64 (↑(0 : Nat) : Int))] [Ob.vec true (3 : Nat) (bcc ([] ++ l))] (1 : Nat))) (show ((0 : Nat) + l.length) = (l.length) by simp)) (this))
  exact .tp [t0] (by kernel_rfl)
theorem heldBcL_ev (mt : Int → ByteArray) (hmt : ∀ k, 0 ≤ k → k ≤ 10000000000 → Ev pr (.call 54 [i64 k] []) (.val (.t (.str (mt k))) [])) : ∀ (n : Nat) (m : List Bc) (k : Int), 0 ≤ k → k + 3 * n ≤ 9000000 → m.length + n ≤ 1048576 →
    Ev pr (.loop (lq pr 22 0) (at_ [(0, bcs (m ++ mark3 mt k n)), (1, i64 k), (5, i64 m.length)] [] 0)) (.exit 0 (at_ [(1, i64 (k + 3 * n))] [] 0))
  | 0, m, k, h0, h1, h2 => by
    let t0 : Tp pr := .i (show ((↑(List.map Bc.ce (m ++ mark3 mt k (0 : Nat))).length : Int) : Int) = (↑m.length : Int) + (↑(mark3 mt k (0 : Nat)).length : Int) by simp)
    let t1 : Tp pr := .b (show (decide ((↑m.length : Int) < (↑m.length : Int) + (0 : Int))) = false by simp)
    exact .tpe [t0, t1] (Out.exit (0 : Nat) (at_ [((1 : Nat), V.t (T.int IntKind.i64 k))] [] (0 : Nat))) (by kernel_rfl) (congrArg (fun x => Out.exit (0 : Nat) (at_ [((1 : Nat), V.t (T.int IntKind.i64 x))] [] (0 : Nat))) (show (k) = (k + (0 : Int)) by simp [mark3]))
  | n + 1, m, k, h0, h1, h2 => by
    have ht := hmt (k + 1 + 1) (by omega) (by omega)
    have ih := heldBcL_ev mt hmt n (m ++ [⟨k, k + 1, mt (k + 1 + 1)⟩]) (k + 1 + 1 + 1) (by omega) (by omega) (by simp; omega)
    have hm := mark3_len mt (k + 1 + 1 + 1) n
    rw [show mark3 mt k (n + 1) = ⟨k, k + 1, mt (k + 1 + 1)⟩ :: mark3 mt (k + 1 + 1 + 1) n from rfl]
    let t0 : Tp pr := .i (show ((↑(List.map Bc.ce (m ++ Bc.mk k (k + (1 : Int)) (mt (k + (1 : Int) + (1 : Int))) :: mark3 mt (k + (1 : Int) + (1 : Int) + (1 : Int)) n)).length : Int) : Int) = (↑m.length : Int) + ((↑(mark3 mt (k + (1 : Int) + (1 : Int) + (1 : Int)) n).length : Int) + (1 : Int)) by simp)
    let t1 : Tp pr := .b (show (decide ((↑m.length : Int) < (↑m.length : Int) + ((↑(mark3 mt (k + (1 : Int) + (1 : Int) + (1 : Int)) n).length : Int) + (1 : Int)))) = true by (simp; omega))
    let t2 : Tp pr := .g .row (show (lkp (List.map Bc.ce (m ++ Bc.mk k (k + (1 : Int)) (mt (k + (1 : Int) + (1 : Int))) :: mark3 mt (k + (1 : Int) + (1 : Int) + (1 : Int)) n)) (↑m.length : Int)) = some ((Bc.mk k (k + (1 : Int)) (mt (k + (1 : Int) + (1 : Int)))).ce) by simp)
    let t4 : Tp pr := .i (wrap_i64 (a := k + (1 : Int)) (by omega) (by omega))
    let t5 : Tp pr := .g .row (show (lkp (List.map Bc.ce (m ++ Bc.mk k (k + (1 : Int)) (mt (k + (1 : Int) + (1 : Int))) :: mark3 mt (k + (1 : Int) + (1 : Int) + (1 : Int)) n)) (↑m.length : Int)) = some ((Bc.mk k (k + (1 : Int)) (mt (k + (1 : Int) + (1 : Int)))).ce) by simp)
    let t6 : Tp pr := .b (show (k + (1 : Int) != k + (1 : Int)) = false by simp)
    let t7 : Tp pr := .i (wrap_i64 (a := k + (1 : Int) + (1 : Int)) (by omega) (by omega))
    let t8 : Tp pr := .g .row (show (lkp (List.map Bc.ce (m ++ Bc.mk k (k + (1 : Int)) (mt (k + (1 : Int) + (1 : Int))) :: mark3 mt (k + (1 : Int) + (1 : Int) + (1 : Int)) n)) (↑m.length : Int)) = some ((Bc.mk k (k + (1 : Int)) (mt (k + (1 : Int) + (1 : Int)))).ce) by simp)
    let t9 : Tp pr := .a (hmt (k + (1 : Int) + (1 : Int)) (by omega) (by omega))
    let t10 : Tp pr := .b (show (!(mt (k + (1 : Int) + (1 : Int))).toList == (mt (k + (1 : Int) + (1 : Int))).toList) = false by simp)
    let t11 : Tp pr := .i (wrap_i64 (a := k + (1 : Int) + (1 : Int) + (1 : Int)) (by omega) (by omega))
    let t12 : Tp pr := .i (wrap_i64 (a := (↑m.length : Int) + (1 : Int)) (by omega) (by omega))
    let t13 : Tp pr := .a (Ev.castq ((congrArg (fun x => Q.loop (lq pr (22 : FuncId) (0 : Nat)) (at_ [((0 : Nat), V.t (T.seq (3 : Nat) x)), ((1 : Nat), V.t (T.int IntKind.i64 (k + (1 : Int) + (1 : Int) + (1 : Int)))), ((5 : Nat), V.t (T.int IntKind.i64 (↑(m ++ [Bc.mk k (k + (1 : Int)) (mt (k + (1 : Int) + (1 : Int)))]).length : Int)))] [] (0 : Nat))) (show (List.map Bc.ce (m ++ [Bc.mk k (k + (1 : Int)) (mt (k + (1 : Int) + (1 : Int)))] ++ mark3 mt (k + (1 : Int) + (1 : Int) + (1 : Int)) n)) = (List.map Bc.ce (m ++ Bc.mk k (k + (1 : Int)) (mt (k + (1 : Int) + (1 : Int))) :: mark3 mt (k + (1 : Int) + (1 : Int) + (1 : Int)) n)) by (simp <;> omega))).trans (congrArg (fun x => Q.loop (lq pr (22 : FuncId) (0 : Nat)) (at_ [((0 : Nat), V.t (T.seq (3 : Nat) (List.map Bc.ce (m ++ Bc.mk k (k + (1 : Int)) (mt (k + (1 : Int) + (1 : Int))) :: mark3 mt (k + (1 : Int) + (1 : Int) + (1 : Int)) n)))), ((1 : Nat), V.t (T.int IntKind.i64 (k + (1 : Int) + (1 : Int) + (1 : Int)))), ((5 : Nat), V.t (T.int IntKind.i64 x))] [] (0 : Nat))) (show ((↑(m ++ [Bc.mk k (k + (1 : Int)) (mt (k + (1 : Int) + (1 : Int)))]).length : Int)) = ((↑m.length : Int) + (1 : Int)) by (simp <;> omega)))) (ih))
    exact .tpe [t0, t1, t2, .b (show (k != k) = false by simp), t4, t5, t6, t7, t8, t9, t10, t11, t12, t13] (Out.exit (0 : Nat) (at_ [((1 : Nat), V.t (T.int IntKind.i64 (k + (1 : Int) + (1 : Int) + (1 : Int) + (3 : Int) * (↑n : Int))))] [] (0 : Nat))) (by kernel_rfl) (congrArg (fun x => Out.exit (0 : Nat) (at_ [((1 : Nat), V.t (T.int IntKind.i64 x))] [] (0 : Nat))) (show (k + (1 : Int) + (1 : Int) + (1 : Int) + (3 : Int) * (↑n : Int)) = (k + (3 : Int) * (↑(n + (1 : Nat)) : Int)) by (simp <;> omega)))
theorem heldBcS_ev (mt : Int → ByteArray) (hmt : ∀ k, 0 ≤ k → k ≤ 10000000000 → Ev pr (.call 54 [i64 k] []) (.val (.t (.str (mt k))) [])) (n : Nat) (k : Int) (h0 : 0 ≤ k) (h : k + 3 * n ≤ 9000000) (h2 : n ≤ 1048576) : Ev pr (.call 22 [bcs (mark3 mt k n), i64 k] []) (.val (i64 (k + 3 * n)) []) := by
  have := heldBcL_ev mt hmt n [] k h0 h (by simpa using h2)
  exact .tp [.a (this)] (by kernel_rfl)
theorem eqBc_ev (x : Bc) : Ev pr (.call 52 [vs x.ce, vs x.ce] []) (.val (bl true) []) := by
  let t0 : Tp pr := .b (show (x.op != x.op) = false by simp)
  let t2 : Tp pr := .b (show (!x.text.toList == x.text.toList) = false by simp)
  exact .tp [t0, .b (show (x.n != x.n) = false by simp), t2] (by kernel_rfl)
theorem eqBcL_ev : ∀ (rest m : List Bc), m.length + rest.length ≤ 1048576 → Ev pr (.loop (lq pr 18 0) (at_ [(0, bcs (m ++ rest)), (1, bcs (m ++ rest)), (5, i64 m.length)] [] 0)) (.exit 0 (at_ [] [] 0))
  | [], m, h => by
    let t0 : Tp pr := .i (show ((↑(List.map Bc.ce (m ++ [])).length : Int) : Int) = (↑m.length : Int) by simp)
    let t1 : Tp pr := .b (show (decide ((↑m.length : Int) < (↑m.length : Int))) = false by simp)
    exact .tp [t0, t1] (by kernel_rfl)
  | x :: rest, m, h => by
    simp at h
    have ih := eqBcL_ev rest (m ++ [x]) (by simp; omega)
    have hx := eqBc_ev x
    let t0 : Tp pr := .i (show ((↑(List.map Bc.ce (m ++ x :: rest)).length : Int) : Int) = (↑m.length : Int) + ((↑rest.length : Int) + (1 : Int)) by simp)
    let t1 : Tp pr := .b (show (decide ((↑m.length : Int) < (↑m.length : Int) + ((↑rest.length : Int) + (1 : Int)))) = true by (simp; omega))
    let t2 : Tp pr := .g .row (show (lkp (List.map Bc.ce (m ++ x :: rest)) (↑m.length : Int)) = some (x.ce) by simp)
    let t3 : Tp pr := .g .row (show (lkp (List.map Bc.ce (m ++ x :: rest)) (↑m.length : Int)) = some (x.ce) by simp)
    let t6 : Tp pr := .i (wrap_i64 (a := (↑m.length : Int) + (1 : Int)) (by omega) (by omega))
    let t7 : Tp pr := .a (Ev.castq ((congrArg (fun x_1 => Q.loop (lq pr (18 : FuncId) (0 : Nat)) (at_ [((0 : Nat), V.t (T.seq (3 : Nat) x_1)), ((1 : Nat), V.t (T.seq (3 : Nat) x_1)), ((5 : Nat), V.t (T.int IntKind.i64 (↑(m ++ [x]).length : Int)))] [] (0 : Nat))) (show (List.map Bc.ce (m ++ [x] ++ rest)) = (List.map Bc.ce (m ++ x :: rest)) by simp)).trans (congrArg (fun x_1 => Q.loop (lq pr (18 : FuncId) (0 : Nat)) (at_ [((0 : Nat), V.t (T.seq (3 : Nat) (List.map Bc.ce (m ++ x :: rest)))), ((1 : Nat), V.t (T.seq (3 : Nat) (List.map Bc.ce (m ++ x :: rest)))), ((5 : Nat), V.t (T.int IntKind.i64 x_1))] [] (0 : Nat))) (show ((↑(m ++ [x]).length : Int)) = ((↑m.length : Int) + (1 : Int)) by simp))) (ih))
    exact .tp [t0, t1, t2, t3, .a (hx), .b (rfl : false = false), t6, t7] (by kernel_rfl)
theorem eqBcS_ev (l : List Bc) (h : l.length ≤ 1048576) : Ev pr (.call 18 [bcs l, bcs l] []) (.val (bl true) []) := by
  have := eqBcL_ev l [] (by simpa using h)
  let t0 : Tp pr := .i (show ((↑(List.map Bc.ce l).length : Int) : Int) = (↑l.length : Int) by simp)
  let t1 : Tp pr := .i (show ((↑(List.map Bc.ce l).length : Int) : Int) = (↑l.length : Int) by simp)
  let t2 : Tp pr := .b (show ((↑l.length : Int) != (↑l.length : Int)) = false by simp)
  exact .tp [t0, t1, t2, .a (this)] (by kernel_rfl)
theorem eqBcNL_ev : Ev pr (.loop (lq pr 18 0) (at_ [(0, .t .nils), (1, .t (.seq 3 [])), (5, i64 0)] [] 0)) (.exit 0 (at_ [] [] 0)) := by
  let t0 : Tp pr := .i (rfl : ((0 : Int) : Int) = (0 : Int))
  exact .tp [t0, .b (rfl : false = false)] (by kernel_rfl)
theorem eqBcN_ev : Ev pr (.call 18 [.t .nils, .t (.seq 3 [])] []) (.val (bl true) []) := by
  let t0 : Tp pr := .i (rfl : ((0 : Int) : Int) = (0 : Int))
  let t1 : Tp pr := .i (rfl : ((0 : Int) : Int) = (0 : Int))
  exact .tp [t0, t1, .b (rfl : false = false), .a (eqBcNL_ev)] (by kernel_rfl)
theorem toEx2_ev (x : Ex) : Ev pr (.call 49 [vs x.ce] []) (.val (vs x.ce) []) := by
  exact .tp [] (by kernel_rfl)
theorem toExL2_ev : ∀ (rest m : List Ex), m.length + rest.length ≤ 1048576 → Ev pr (.loop (lq pr 16 0) (at_ [(0, exs (m ++ rest)), (3, .vec 0 (m.length + rest.length) 3 0 (m.length + rest.length)), (4, i64 m.length)] [.vec true 3 (bcc (exb m ++ List.replicate rest.length ⟨0, 0, e0⟩))] 0))
    (.exit 0 (at_ [(3, .vec 0 (m.length + rest.length) 3 0 (m.length + rest.length))] [.vec true 3 (bcc (exb (m ++ rest)))] 0))
  | [], m, h => by
    let t0 : Tp pr := .i (show ((↑(List.map Ex.ce (m ++ [])).length : Int) : Int) = (↑m.length : Int) by simp)
    let t1 : Tp pr := .b (show (decide ((↑m.length : Int) < (↑m.length : Int))) = false by simp)
    exact .tpe [t0, t1] (Out.exit (0 : Nat) (at_ [((3 : Nat), V.vec (0 : Nat) (m.length + (0 : Nat)) (3 : Nat) (0 : Nat) (m.length + (0 : Nat)))] [Ob.vec true (3 : Nat) (bcc (exb m ++ List.replicate (0 : Nat) (Bc.mk (0 : Int) (0 : Int) e0)))] (0 : Nat))) (by kernel_rfl) (congrArg (fun x => Out.exit (0 : Nat) (at_ [((3 : Nat), V.vec (0 : Nat) (m.length + (0 : Nat)) (3 : Nat) (0 : Nat) (m.length + (0 : Nat)))] [Ob.vec true (3 : Nat) x] (0 : Nat))) (show (bcc (exb m ++ List.replicate (0 : Nat) (Bc.mk (0 : Int) (0 : Int) e0))) = (bcc (exb (m ++ []))) by simp))
  | x :: rest, m, h => by
    simp at h
    have ih := toExL2_ev rest (m ++ [x]) (by simp; omega)
    have hx := toEx2_ev x
    rw [show List.replicate (x :: rest).length (⟨0, 0, e0⟩ : Bc) = ⟨0, 0, e0⟩ :: List.replicate rest.length ⟨0, 0, e0⟩ from rfl]
    have hg : (bcc (exb m ++ ⟨0, 0, e0⟩ :: List.replicate rest.length ⟨0, 0, e0⟩))[m.length]? = some [C.t (.int .i64 0), C.t (.int .i64 0), C.t (.str ⟨#[]⟩)] := by simpa using bcc_get_mid (exb m) ⟨0, 0, e0⟩ (List.replicate rest.length ⟨0, 0, e0⟩)
    let t0 : Tp pr := .i (show ((↑(List.map Ex.ce (m ++ x :: rest)).length : Int) : Int) = (↑m.length : Int) + ((↑rest.length : Int) + (1 : Int)) by simp)
    let t1 : Tp pr := .b (show (decide ((↑m.length : Int) < (↑m.length : Int) + ((↑rest.length : Int) + (1 : Int)))) = true by (simp; omega))
    let t2 : Tp pr := .g .row (show (lkp (List.map Ex.ce (m ++ x :: rest)) (↑m.length : Int)) = some (x.ce) by simp)
    let t4 : Tp pr := .m (show (decide ((0 : Int) ≤ (↑m.length : Int) ∧ (↑m.length : Int).toNat < m.length + (x :: rest).length)) = true by simp)
    let t5 : Tp pr := .c (show ((0 : Nat) + (↑m.length : Int).toNat : Nat) = m.length by omega)
    let t6 : Tp pr := .m (show (decide ((bcc (exb m ++ Bc.mk (0 : Int) (0 : Int) e0 :: List.replicate rest.length (Bc.mk (0 : Int) (0 : Int) e0))).length = m.length + (x :: rest).length)) = true by simp)
    let t7 : Tp pr := .g .crow (show ((bcc (exb m ++ Bc.mk (0 : Int) (0 : Int) e0 :: List.replicate rest.length (Bc.mk (0 : Int) (0 : Int) e0)))[m.length]?) = some ([C.t (T.int IntKind.i64 (0 : Int)), C.t (T.int IntKind.i64 (0 : Int)), C.t (T.str (ByteArray.mk #[]))]) from hg)
    let t8 : Tp pr := .n .crows (show ((bcc (exb m ++ Bc.mk (0 : Int) (0 : Int) e0 :: List.replicate rest.length (Bc.mk (0 : Int) (0 : Int) e0))).set m.length [C.t (T.int IntKind.i64 x.kind), C.t (T.int IntKind.i64 x.num), C.t (T.str x.text)]) = bcc (exb m ++ Bc.mk x.kind x.num x.text :: List.replicate rest.length (Bc.mk (0 : Int) (0 : Int) (ByteArray.mk #[]))) by simp)
    let t9 : Tp pr := .i (wrap_i64 (a := (↑m.length : Int) + (1 : Int)) (by omega) (by omega))
    let t10 : Tp pr := .a (Ev.castq ((((congrArg (fun x_1 => Q.loop (lq pr (16 : FuncId) (0 : Nat)) (at_ [((0 : Nat), V.t (T.seq (3 : Nat) x_1)), ((3 : Nat), V.vec (0 : Nat) ((m ++ [x]).length + rest.length) (3 : Nat) (0 : Nat) ((m ++ [x]).length + rest.length)), ((4 : Nat), V.t (T.int IntKind.i64 (↑(m ++ [x]).length : Int)))] [Ob.vec true (3 : Nat) (bcc (exb (m ++ [x]) ++ List.replicate rest.length (Bc.mk (0 : Int) (0 : Int) e0)))] (0 : Nat))) (show (List.map Ex.ce (m ++ [x] ++ rest)) = (List.map Ex.ce (m ++ x :: rest)) by (simp [exb] <;> omega))).trans (congrArg (fun x_1 => Q.loop (lq pr (16 : FuncId) (0 : Nat)) (at_ [((0 : Nat), V.t (T.seq (3 : Nat) (List.map Ex.ce (m ++ x :: rest)))), ((3 : Nat), V.vec (0 : Nat) x_1 (3 : Nat) (0 : Nat) x_1), ((4 : Nat), V.t (T.int IntKind.i64 (↑(m ++ [x]).length : Int)))] [Ob.vec true (3 : Nat) (bcc (exb (m ++ [x]) ++ List.replicate rest.length (Bc.mk (0 : Int) (0 : Int) e0)))] (0 : Nat))) (show ((m ++ [x]).length + rest.length) = (m.length + (x :: rest).length) by (simp [exb] <;> omega)))).trans (congrArg (fun x_1 => Q.loop (lq pr (16 : FuncId) (0 : Nat)) (at_ [((0 : Nat), V.t (T.seq (3 : Nat) (List.map Ex.ce (m ++ x :: rest)))), ((3 : Nat), V.vec (0 : Nat) (m.length + (x :: rest).length) (3 : Nat) (0 : Nat) (m.length + (x :: rest).length)), ((4 : Nat), V.t (T.int IntKind.i64 x_1))] [Ob.vec true (3 : Nat) (bcc (exb (m ++ [x]) ++ List.replicate rest.length (Bc.mk (0 : Int) (0 : Int) e0)))] (0 : Nat))) (show ((↑(m ++ [x]).length : Int)) = ((↑m.length : Int) + (1 : Int)) by (simp [exb] <;> omega)))).trans (congrArg (fun x_1 => Q.loop (lq pr (16 : FuncId) (0 : Nat)) (at_ [((0 : Nat), V.t (T.seq (3 : Nat) (List.map Ex.ce (m ++ x :: rest)))), ((3 : Nat), V.vec (0 : Nat) (m.length + (x :: rest).length) (3 : Nat) (0 : Nat) (m.length + (x :: rest).length)), ((4 : Nat), V.t (T.int IntKind.i64 ((↑m.length : Int) + (1 : Int))))] [Ob.vec true (3 : Nat) x_1] (0 : Nat))) (show (bcc (exb (m ++ [x]) ++ List.replicate rest.length (Bc.mk (0 : Int) (0 : Int) e0))) = (bcc (exb m ++ Bc.mk x.kind x.num x.text :: List.replicate rest.length (Bc.mk (0 : Int) (0 : Int) (ByteArray.mk #[])))) by (simp [exb] <;> omega)))) (ih))
    exact .tpe [t0, t1, t2, .a (hx), t4, t5, t6, t7, t8, t9, t10] (Out.exit (0 : Nat) (at_ [((3 : Nat), V.vec (0 : Nat) ((m ++ [x]).length + rest.length) (3 : Nat) (0 : Nat) ((m ++ [x]).length + rest.length))] [Ob.vec true (3 : Nat) (bcc (exb (m ++ [x] ++ rest)))] (0 : Nat))) (by kernel_rfl) (((congrArg (fun x_1 => Out.exit (0 : Nat) (at_ [((3 : Nat), V.vec (0 : Nat) x_1 (3 : Nat) (0 : Nat) ((m ++ [x]).length + rest.length))] [Ob.vec true (3 : Nat) (bcc (exb (m ++ [x] ++ rest)))] (0 : Nat))) (show ((m ++ [x]).length + rest.length) = (m.length + (x :: rest).length) by (simp [exb] <;> omega))).trans (congrArg (fun x_1 => Out.exit (0 : Nat) (at_ [((3 : Nat), V.vec (0 : Nat) (m.length + (x :: rest).length) (3 : Nat) (0 : Nat) x_1)] [Ob.vec true (3 : Nat) (bcc (exb (m ++ [x] ++ rest)))] (0 : Nat))) (show ((m ++ [x]).length + rest.length) = (m.length + (x :: rest).length) by (simp [exb] <;> omega)))).trans (congrArg (fun x_1 => Out.exit (0 : Nat) (at_ [((3 : Nat), V.vec (0 : Nat) (m.length + (x :: rest).length) (3 : Nat) (0 : Nat) (m.length + (x :: rest).length))] [Ob.vec true (3 : Nat) x_1] (0 : Nat))) (show (bcc (exb (m ++ [x] ++ rest))) = (bcc (exb (m ++ x :: rest))) by (simp [exb] <;> omega))))
theorem toExS2_ev (l : List Ex) (hl : l.length ≤ 1048576) : Ev pr (.call 16 [exs l] []) (.val (.vec 0 l.length 3 0 l.length) [.vec true 3 (bcc (exb l))]) := by
  have := toExL2_ev l [] (by simpa using hl)
  let t0 : Tp pr := .i (show ((↑(List.map Ex.ce l).length : Int) : Int) = (↑l.length : Int) by simp)
  let t1 : Tp pr := .m (show (decide ((0 : Int) ≤ (↑l.length : Int) ∧ (↑l.length : Int) ≤ (↑l.length : Int) ∧ (↑l.length : Int) ≤ (4294967296 : Int))) = true by (simp; omega))
  let t2 : Tp pr := .c (show ((↑l.length : Int).toNat : Nat) = l.length by omega)
  let t3 : Tp pr := .n .crows (rfl : (List.replicate l.length [C.t (T.int IntKind.i64 (0 : Int)), C.t (T.int IntKind.i64 (0 : Int)), C.t (T.str (ByteArray.mk #[]))]) = _)
  let t4 : Tp pr := .a (Ev.castq ((congrArg (fun x => Q.loop (lq pr (16 : FuncId) (0 : Nat)) (at_ [((0 : Nat), exs ([] ++ l)), ((3 : Nat), V.vec (0 : Nat) x (3 : Nat) (0 : Nat) x), ((4 : Nat), i64 (↑(0 : Nat) : Int))] [Ob.vec true (3 : Nat) (bcc (exb [] ++ List.replicate l.length (Bc.mk (0 : Int) (0 : Int) e0)))] (0 : Nat))) (show ((0 : Nat) + l.length) = (l.length) by simp [exb, bcc, Bc.cc])).trans (congrArg (fun x => Q.loop (lq pr (16 : FuncId) (0 : Nat)) (at_ [((0 : Nat), exs ([] ++ l)), ((3 : Nat), V.vec (0 : Nat) l.length (3 : Nat) (0 : Nat) l.length), ((4 : Nat), i64 (↑(0 : Nat) : Int))] [Ob.vec true (3 : Nat) x] (0 : Nat))) (show (bcc (exb [] ++ List.replicate l.length (Bc.mk (0 : Int) (0 : Int) e0))) = (List.replicate l.length [C.t (T.int IntKind.i64 (0 : Int)), C.t (T.int IntKind.i64 (0 : Int)), C.t (T.str (ByteArray.mk #[]))]) by simp [exb, bcc, Bc.cc]))) (this))
  exact .tpe [t0, t1, t2, t3, t4] (Out.val (V.vec (0 : Nat) ((0 : Nat) + l.length) (3 : Nat) (0 : Nat) ((0 : Nat) + l.length)) [Ob.vec true (3 : Nat) (bcc (exb ([] ++ l)))]) (by kernel_rfl) (((congrArg (fun x => Out.val (V.vec (0 : Nat) x (3 : Nat) (0 : Nat) ((0 : Nat) + l.length)) [Ob.vec true (3 : Nat) (bcc (exb ([] ++ l)))]) (show ((0 : Nat) + l.length) = (l.length) by simp [exb, bcc, Bc.cc])).trans (congrArg (fun x => Out.val (V.vec (0 : Nat) l.length (3 : Nat) (0 : Nat) x) [Ob.vec true (3 : Nat) (bcc (exb ([] ++ l)))]) (show ((0 : Nat) + l.length) = (l.length) by simp [exb, bcc, Bc.cc]))).trans (congrArg (fun x => Out.val (V.vec (0 : Nat) l.length (3 : Nat) (0 : Nat) l.length) [Ob.vec true (3 : Nat) x]) (show (bcc (exb ([] ++ l))) = (bcc (exb l)) by simp [exb, bcc, Bc.cc])))
theorem eqEx2_ev (x : Ex) : Ev pr (.call 53 [vs x.ce, vs x.ce] []) (.val (bl true) []) := by
  let t0 : Tp pr := .b (show (x.kind != x.kind) = false by simp)
  let t1 : Tp pr := .b (show (x.num != x.num) = false by simp)
  let t2 : Tp pr := .b (show (!x.text.toList == x.text.toList) = false by simp)
  exact .tp [t0, t1, t2] (by kernel_rfl)
theorem eqExL2_ev : ∀ (rest m : List Ex), m.length + rest.length ≤ 1048576 → Ev pr (.loop (lq pr 19 0) (at_ [(0, exs (m ++ rest)), (1, exs (m ++ rest)), (5, i64 m.length)] [] 0)) (.exit 0 (at_ [] [] 0))
  | [], m, h => by
    let t0 : Tp pr := .i (show ((↑(List.map Ex.ce (m ++ [])).length : Int) : Int) = (↑m.length : Int) by simp)
    let t1 : Tp pr := .b (show (decide ((↑m.length : Int) < (↑m.length : Int))) = false by simp)
    exact .tp [t0, t1] (by kernel_rfl)
  | x :: rest, m, h => by
    simp at h
    have ih := eqExL2_ev rest (m ++ [x]) (by simp; omega)
    have hx := eqEx2_ev x
    let t0 : Tp pr := .i (show ((↑(List.map Ex.ce (m ++ x :: rest)).length : Int) : Int) = (↑m.length : Int) + ((↑rest.length : Int) + (1 : Int)) by simp)
    let t1 : Tp pr := .b (show (decide ((↑m.length : Int) < (↑m.length : Int) + ((↑rest.length : Int) + (1 : Int)))) = true by (simp; omega))
    let t2 : Tp pr := .g .row (show (lkp (List.map Ex.ce (m ++ x :: rest)) (↑m.length : Int)) = some (x.ce) by simp)
    let t3 : Tp pr := .g .row (show (lkp (List.map Ex.ce (m ++ x :: rest)) (↑m.length : Int)) = some (x.ce) by simp)
    let t6 : Tp pr := .i (wrap_i64 (a := (↑m.length : Int) + (1 : Int)) (by omega) (by omega))
    let t7 : Tp pr := .a (Ev.castq ((congrArg (fun x_1 => Q.loop (lq pr (19 : FuncId) (0 : Nat)) (at_ [((0 : Nat), V.t (T.seq (3 : Nat) x_1)), ((1 : Nat), V.t (T.seq (3 : Nat) x_1)), ((5 : Nat), V.t (T.int IntKind.i64 (↑(m ++ [x]).length : Int)))] [] (0 : Nat))) (show (List.map Ex.ce (m ++ [x] ++ rest)) = (List.map Ex.ce (m ++ x :: rest)) by simp)).trans (congrArg (fun x_1 => Q.loop (lq pr (19 : FuncId) (0 : Nat)) (at_ [((0 : Nat), V.t (T.seq (3 : Nat) (List.map Ex.ce (m ++ x :: rest)))), ((1 : Nat), V.t (T.seq (3 : Nat) (List.map Ex.ce (m ++ x :: rest)))), ((5 : Nat), V.t (T.int IntKind.i64 x_1))] [] (0 : Nat))) (show ((↑(m ++ [x]).length : Int)) = ((↑m.length : Int) + (1 : Int)) by simp))) (ih))
    exact .tp [t0, t1, t2, t3, .a (hx), .b (rfl : false = false), t6, t7] (by kernel_rfl)
theorem eqExS2_ev (l : List Ex) (h : l.length ≤ 1048576) : Ev pr (.call 19 [exs l, exs l] []) (.val (bl true) []) := by
  have := eqExL2_ev l [] (by simpa using h)
  let t0 : Tp pr := .i (show ((↑(List.map Ex.ce l).length : Int) : Int) = (↑l.length : Int) by simp)
  let t1 : Tp pr := .i (show ((↑(List.map Ex.ce l).length : Int) : Int) = (↑l.length : Int) by simp)
  let t2 : Tp pr := .b (show ((↑l.length : Int) != (↑l.length : Int)) = false by simp)
  exact .tp [t0, t1, t2, .a (this)] (by kernel_rfl)
end Go.Ev

/- Sizes of expressions. -/
namespace Go.Ev
set_option linter.unusedVariables false
set_option linter.unusedSimpArgs false
open Go.Proofs
set_option maxRecDepth 100000
set_option linter.unusedVariables false
set_option maxHeartbeats 1000000
/-! Sizes. -/
def szEx (x : Ex) (n : Int) : Int := if n - x.text.size < 0 then -1 else n - x.text.size
theorem szEx_ev (x : Ex) (n : Int) (h0 : 0 ≤ n) (h1 : n ≤ 1048576) (hs : x.text.size ≤ 9223372036854775807) : Ev pr (.call 47 [vs x.ce, i64 n] []) (.val (i64 (szEx x n)) []) := by
  have hw := wrap_i64 (a := n - x.text.size) (by omega) (by omega)
  unfold szEx
  by_cases h : n - x.text.size < 0
  · rw [if_pos h]; exact .tp [.l x.text.size, .i hw, .b (decide_eq_true h)] (by kernel_rfl)
  · rw [if_neg h]; exact .tp [.l x.text.size, .i hw, .b (decide_eq_false h)] (by kernel_rfl)
def szExL : List Ex → Int → Option Int
  | [], n => some n
  | x :: r, n => if szEx x n < 0 then none else szExL r (szEx x n)
theorem szEx_le (x : Ex) (n : Int) (h0 : ¬ szEx x n < 0) : 0 ≤ szEx x n ∧ szEx x n ≤ n := by
  unfold szEx at *
  split at h0 <;> split <;> omega
theorem szExL_ev (l : List Ex) (hl : l.length ≤ 9223372036854775807) (hs : ∀ x ∈ l, x.text.size ≤ 9223372036854775807) : ∀ (rest done : List Ex) (n : Int), l = done ++ rest → 0 ≤ n → n ≤ 1048576 →
    Ev pr (.loop (lq pr 14 0) (at_ [(0, exs l), (1, i64 n), (5, i64 done.length)] [] 0)) (match szExL rest n with
      | some m => .exit 0 (at_ [(1, i64 m)] [] 0)
      | none => .ret (at_ [(4, i64 (-1))] [] 0))
  | [], done, n, he, h0, h1 => by
    have h : ¬ (done.length : Int) < l.length := by subst he; simp
    exact .tp [.ll Ex.ce l, .b (decide_eq_false h)] (by kernel_rfl)
  | x :: rest, done, n, he, h0, h1 => by
    have h : (done.length : Int) < l.length := by subst he; simp; omega
    have hx : x.text.size ≤ 9223372036854775807 := hs x (by subst he; simp)
    have hw := wrap_i64 (a := done.length + 1) (by omega) (by omega)
    unfold szExL
    by_cases h2 : szEx x n < 0
    · rw [if_pos h2]
      exact .tp [.ll Ex.ce l, .b (decide_eq_true h), .e (lkp_at Ex.ce he), .a (szEx_ev x n h0 h1 hx), .b (decide_eq_true h2)] (by kernel_rfl)
    · rw [if_neg h2]
      have hle := szEx_le x n h2
      have ih := szExL_ev l hl hs rest (done ++ [x]) (szEx x n) (by simp [he]) hle.1 (by omega)
      rw [show ((done ++ [x]).length : Int) = done.length + 1 by simp] at ih
      exact .tp [.ll Ex.ce l, .b (decide_eq_true h), .e (lkp_at Ex.ce he), .a (szEx_ev x n h0 h1 hx), .b (decide_eq_false h2), .i hw, .a ih] (by kernel_rfl)
def szExS (l : List Ex) (n : Int) : Int := if n - l.length < 0 then -1 else (szExL l (n - l.length)).getD (-1)
theorem szExS_ev (l : List Ex) (n : Int) (h0 : 0 ≤ n) (h1 : n ≤ 1048576) (hl : l.length ≤ 9223372036854775807) (hs : ∀ x ∈ l, x.text.size ≤ 9223372036854775807) : Ev pr (.call 14 [exs l, i64 n] []) (.val (i64 (szExS l n)) []) := by
  have hw := wrap_i64 (a := n - l.length) (by omega) (by omega)
  unfold szExS
  by_cases h : n - l.length < 0
  · rw [if_pos h]; exact .tp [.ll Ex.ce l, .i hw, .b (decide_eq_true h)] (by kernel_rfl)
  · rw [if_neg h]
    have hL := szExL_ev l hl hs l [] (n - l.length) rfl (by omega) (by omega)
    cases hr : szExL l (n - l.length) with
    | none => rw [hr] at hL; exact .tp [.ll Ex.ce l, .i hw, .b (decide_eq_false h), .a hL] (by kernel_rfl)
    | some m => rw [hr] at hL; exact .tp [.ll Ex.ce l, .i hw, .b (decide_eq_false h), .a hL] (by kernel_rfl)
theorem szExL_le : ∀ (l : List Ex) (n m : Int), 0 ≤ n → szExL l n = some m → 0 ≤ m ∧ m ≤ n
  | [], n, m, h0, h => by obtain rfl := Option.some.inj h; exact ⟨h0, Int.le_refl _⟩
  | x :: l, n, m, h0, h => by
    unfold szExL at h
    split at h
    · cases h
    · rename_i h2
      have h3 := szEx_le x n h2
      have := szExL_le l _ m h3.1 h
      omega
theorem szExS_le (l : List Ex) (n : Int) (h0 : ¬ szExS l n < 0) : 0 ≤ szExS l n ∧ szExS l n ≤ n - l.length := by
  unfold szExS at *
  split at h0
  · omega
  · rename_i h
    rw [if_neg h]
    cases hr : szExL l (n - l.length) with
    | none => rw [hr] at h0; simp at h0
    | some m => have := szExL_le l _ m (by omega) hr; simpa using this
theorem markBcNL_ev (k : Int) : Ev pr (.loop (lq pr 21 0) (at_ [(0, .t .nils), (1, i64 k), (5, i64 0)] [] 0)) (.exit 0 (at_ [(1, i64 k)] [] 0)) := by
  let t0 : Tp pr := .i (rfl : ((0 : Int) : Int) = (0 : Int))
  exact .tp [t0, .b (rfl : false = false)] (by kernel_rfl)
theorem markBcN_ev (k : Int) : Ev pr (.call 21 [.t .nils, i64 k] []) (.val (i64 k) []) := by
  have := markBcNL_ev k
  exact .tp [.a (this)] (by kernel_rfl)
theorem heldBcNL_ev (k : Int) : Ev pr (.loop (lq pr 22 0) (at_ [(0, .t .nils), (1, i64 k), (5, i64 0)] [] 0)) (.exit 0 (at_ [(1, i64 k)] [] 0)) := by
  let t0 : Tp pr := .i (rfl : ((0 : Int) : Int) = (0 : Int))
  exact .tp [t0, .b (rfl : false = false)] (by kernel_rfl)
theorem heldBcN_ev (k : Int) : Ev pr (.call 22 [.t .nils, i64 k] []) (.val (i64 k) []) := by
  have := heldBcNL_ev k
  exact .tp [.a (this)] (by kernel_rfl)
end Go.Ev

/- The law: the program's MakeExpr returns what the reference's returns. -/
namespace Go.Ev
set_option linter.unusedVariables false
set_option linter.unusedSimpArgs false
open Go.Proofs
set_option maxRecDepth 100000
set_option linter.unusedVariables false
set_option maxHeartbeats 1000000
@[simp] theorem bcc_flat (fl : Bool) (n : Nat) (l : List Bc) : Ob.flat (.vec fl n (bcc l)) = true := by simp [Ob.flat, bcc, Bc.cc, C.flat, T.flat]
@[simp] theorem mark3_take (mt : Int → ByteArray) (k : Int) (n : Nat) : List.take n (List.map Bc.ce (mark3 mt k n)) = List.map Bc.ce (mark3 mt k n) := List.take_of_length_le (by simp [mark3_len])
theorem makeExpr_len {l : List Ex} {c : List Bc} (h : makeExpr l = some c) : c.length ≤ 120 := by
  unfold makeExpr at h
  split at h
  · split at h
    · obtain rfl := Option.some.inj h; assumption
    · cases h
  · cases h
theorem law0_ev (l : List Ex) (hl : l.length ≤ 9223372036854775807) (hs : ∀ x ∈ l, x.text.size ≤ 9223372036854775807) : Ev pr (.call 4 [exs l] []) (.val (bl true) []) := by
  have h0 := szExS_ev l 1048576 (by omega) (by omega) hl hs
  by_cases hz : szExS l 1048576 < 0
  · let t1 : Tp pr := .b (show (decide (szExS l (1048576 : Int) < (0 : Int))) = true by (simp; omega))
    exact .tp [.a (h0), t1] (by kernel_rfl)
  · have k0 := szExS_le l 1048576 hz
    have k1 : l.length ≤ 1048576 := by omega
    have h1 := toExS2_ev l k1
    have h2 := MakeExprS_ev l k1 hs
    have h3 := MakeExprI_ev l k1 hs
    have h4 := eqExS2_ev l k1
    have h5 := markExS_ev mText markText_ev (exb l) 1 (by omega) (by simp; omega) (by simpa using k1)
    cases hm : makeExpr l with
    | none =>
      rw [hm] at h2 h3
      have h6 := eqBcN_ev
      have h7 := markBcN_ev 1
      have h8 := heldBcN_ev 1
      let t1 : Tp pr := .b (show (decide (szExS l (1048576 : Int) < (0 : Int))) = false by (simp; omega))
      let t3 : Tp pr := .m (show (decide ((bcc (exb l)).length = l.length ∧ (0 : Nat) + l.length ≤ l.length)) = true by simp)
      let t4 : Tp pr := .n .rows (show (List.map (fun x => List.map C.fz x) (List.take l.length (List.drop (0 : Nat) (bcc (exb l))))) = List.map Ex.ce l by simp)
      let t7 : Tp pr := .m (show (decide ((bcc (exb l)).length = l.length ∧ (0 : Nat) + l.length ≤ l.length)) = true by simp)
      let t8 : Tp pr := .n .rows (show (List.map (fun x => List.map C.fz x) (List.take l.length (List.drop (0 : Nat) (bcc (exb l))))) = List.map Ex.ce l by simp)
      let t15 : Tp pr := .m (show (decide ((bcc (exb l)).length = l.length ∧ (0 : Nat) + l.length ≤ l.length)) = true by simp)
      let t16 : Tp pr := .n .rows (show (List.map (fun x => List.map C.fz x) (List.take l.length (List.drop (0 : Nat) (bcc (exb l))))) = List.map Ex.ce l by simp)
      let t17 : Tp pr := .m (show (decide ((bcc (exb l)).length = l.length ∧ (0 : Nat) + l.length ≤ l.length)) = true by simp)
      let t18 : Tp pr := .n .rows (show (List.map (fun x => List.map C.fz x) (List.take l.length (List.drop (0 : Nat) (bcc (exb l))))) = List.map Ex.ce l by simp)
      let t22 : Tp pr := .a (Ev.castq (congrArg (fun x => Q.call (20 : FuncId) [V.vec (0 : Nat) x (3 : Nat) (0 : Nat) x, i64 (1 : Int)] [Ob.vec true (3 : Nat) (bcc (exb l))]) (show ((exb l).length) = (l.length) by simp)) (h5))
      let t32 : Tp pr := .m (show (decide ((bcc (exb l)).length = l.length ∧ (0 : Nat) + l.length ≤ l.length)) = true by simp)
      let t33 : Tp pr := .n .rows (show (List.map (fun x => List.map C.fz x) (List.take l.length (List.drop (0 : Nat) (bcc (exb l))))) = List.map Ex.ce l by simp)
      exact .tp [.a (h0), t1, .a (h1), t3, t4, .a (h2), .a (h1), t7, t8, .a (h3), .m (rfl : true = true), .a (h6), .b (rfl : false = false), .b (rfl : false = false), .a (h1), t15, t16, t17, t18, .a (h4), .m (rfl : true = true), .b (rfl : false = false), t22, .b (rfl : false = false), .a (h6), .b (rfl : false = false), .b (rfl : false = false), .a (h7), .a (h8), .b (rfl : false = false), .b (rfl : false = false), .a (h1), t32, t33, .a (h3), .m (rfl : true = true), .a (h6), .b (rfl : false = false), .b (rfl : false = false), .a (h8), .b (rfl : false = false), .b (rfl : false = false)] (by kernel_rfl)
    | some c =>
      rw [hm] at h2 h3
      have hc := makeExpr_len hm
      have h6 := eqBcS_ev c (by omega)
      have h7 := markBcS_ev mText markText_ev c 1 (by omega) (by omega) (by omega)
      have h8 := heldBcS_ev mText markText_ev c.length 1 (by omega) (by omega) (by omega)
      have h9 := mark3_len mText 1 c.length
      let t1 : Tp pr := .b (show (decide (szExS l (1048576 : Int) < (0 : Int))) = false by (simp; omega))
      let t3 : Tp pr := .m (show (decide ((bcc (exb l)).length = l.length ∧ (0 : Nat) + l.length ≤ l.length)) = true by simp)
      let t4 : Tp pr := .n .rows (show (List.map (fun x => List.map C.fz x) (List.take l.length (List.drop (0 : Nat) (bcc (exb l))))) = List.map Ex.ce l by simp)
      let t7 : Tp pr := .m (show (decide ((bcc (exb l)).length = l.length ∧ (0 : Nat) + l.length ≤ l.length)) = true by simp)
      let t8 : Tp pr := .n .rows (show (List.map (fun x => List.map C.fz x) (List.take l.length (List.drop (0 : Nat) (bcc (exb l))))) = List.map Ex.ce l by simp)
      let t10 : Tp pr := .m (show (true && [Ob.vec true (3 : Nat) (bcc c)].all Ob.flat) = true by simp)
      let t11 : Tp pr := .m (show (decide ((bcc c).length = c.length ∧ (0 : Nat) + c.length ≤ c.length)) = true by simp)
      let t12 : Tp pr := .n .rows (show (List.map (fun x => List.map C.fz x) (List.take c.length (List.drop (0 : Nat) (bcc c)))) = List.map Bc.ce c by simp)
      let t18 : Tp pr := .m (show (decide ((bcc (exb l)).length = l.length ∧ (0 : Nat) + l.length ≤ l.length)) = true by simp)
      let t19 : Tp pr := .n .rows (show (List.map (fun x => List.map C.fz x) (List.take l.length (List.drop (0 : Nat) (bcc (exb l))))) = List.map Ex.ce l by simp)
      let t20 : Tp pr := .m (show (decide ((bcc (exb l)).length = l.length ∧ (0 : Nat) + l.length ≤ l.length)) = true by simp)
      let t21 : Tp pr := .n .rows (show (List.map (fun x => List.map C.fz x) (List.take l.length (List.drop (0 : Nat) (bcc (exb l))))) = List.map Ex.ce l by simp)
      let t25 : Tp pr := .a (Ev.castq (congrArg (fun x => Q.call (20 : FuncId) [V.vec (0 : Nat) x (3 : Nat) (0 : Nat) x, i64 (1 : Int)] [Ob.vec true (3 : Nat) (bcc (exb l))]) (show ((exb l).length) = (l.length) by simp)) (h5))
      let t27 : Tp pr := .m (show (decide ((bcc c).length = c.length ∧ (0 : Nat) + c.length ≤ c.length)) = true by simp)
      let t28 : Tp pr := .n .rows (show (List.map (fun x => List.map C.fz x) (List.take c.length (List.drop (0 : Nat) (bcc c)))) = List.map Bc.ce c by simp)
      let t34 : Tp pr := .m (show (decide ((bcc (mark3 mText (1 : Int) c.length)).length = c.length ∧ (0 : Nat) + c.length ≤ c.length)) = true by simp [*])
      let t35 : Tp pr := .n .rows (show (List.map (fun x => List.map C.fz x) (List.take c.length (List.drop (0 : Nat) (bcc (mark3 mText (1 : Int) c.length))))) = List.map Bc.ce (mark3 mText (1 : Int) c.length) by simp)
      let t39 : Tp pr := .b (show ((1 : Int) + (3 : Int) * (↑c.length : Int) != (1 : Int) + (3 : Int) * (↑c.length : Int)) = false by simp)
      let t41 : Tp pr := .m (show (decide ((bcc (exb l)).length = l.length ∧ (0 : Nat) + l.length ≤ l.length)) = true by simp)
      let t42 : Tp pr := .n .rows (show (List.map (fun x => List.map C.fz x) (List.take l.length (List.drop (0 : Nat) (bcc (exb l))))) = List.map Ex.ce l by simp)
      let t44 : Tp pr := .m (show (true && [Ob.vec true (3 : Nat) (bcc c)].all Ob.flat) = true by simp)
      let t45 : Tp pr := .m (show (decide ((bcc c).length = c.length ∧ (0 : Nat) + c.length ≤ c.length)) = true by simp)
      let t46 : Tp pr := .n .rows (show (List.map (fun x => List.map C.fz x) (List.take c.length (List.drop (0 : Nat) (bcc c)))) = List.map Bc.ce c by simp)
      let t51 : Tp pr := .m (show (decide ((bcc (mark3 mText (1 : Int) c.length)).length = c.length ∧ (0 : Nat) + c.length ≤ c.length)) = true by simp [*])
      let t52 : Tp pr := .n .rows (show (List.map (fun x => List.map C.fz x) (List.take c.length (List.drop (0 : Nat) (bcc (mark3 mText (1 : Int) c.length))))) = List.map Bc.ce (mark3 mText (1 : Int) c.length) by simp)
      let t56 : Tp pr := .b (show ((1 : Int) + (3 : Int) * (↑c.length : Int) != (1 : Int) + (3 : Int) * (↑c.length : Int)) = false by simp)
      exact .tp [.a (h0), t1, .a (h1), t3, t4, .a (h2), .a (h1), t7, t8, .a (h3), t10, t11, t12, .a (h6), .m (rfl : true = true), .b (rfl : false = false), .b (rfl : false = false), .a (h1), t18, t19, t20, t21, .a (h4), .m (rfl : true = true), .b (rfl : false = false), t25, .b (rfl : false = false), t27, t28, .a (h6), .m (rfl : true = true), .b (rfl : false = false), .b (rfl : false = false), .a (h7), t34, t35, .a (h8), .m (rfl : true = true), .b (rfl : false = false), t39, .a (h1), t41, t42, .a (h3), t44, t45, t46, .a (h6), .m (rfl : true = true), .b (rfl : false = false), .b (rfl : false = false), t51, t52, .a (h8), .m (rfl : true = true), .b (rfl : false = false), t56] (by kernel_rfl)
def Ex.wf (x : Ex) : Prop := (Lit.int .i64 x.kind).wf = true ∧ (Lit.int .i64 x.num).wf = true ∧ x.text.size ≤ 9223372036854775807
theorem prim_none : PrimOk pr := fun f p h => by cases h
theorem law_ev (l : List Ex) (h : l.length ≤ 9223372036854775807 ∧ ∀ x ∈ l, x.wf) : Ev pr (.call 4 [exs l] []) (.val (.t (.bool true)) []) := law0_ev l h.1 fun x hx => (h.2 x hx).2.2
end Go.Ev
