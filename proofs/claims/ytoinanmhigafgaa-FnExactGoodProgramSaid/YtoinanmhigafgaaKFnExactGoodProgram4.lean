import Derived.Test.YtoinanmhigafgaaKFnExactGoodProgram3
/- Programs: which are good, by the reference; the law. -/
namespace Go.Ev
set_option linter.unusedVariables false
set_option linter.unusedSimpArgs false
open Go.Proofs
set_option maxRecDepth 100000
set_option linter.unusedVariables false
set_option maxHeartbeats 1000000
def specOut (l : List Line) : Option Int → Out
  | some o => .exit 0 (at_ [(0, lines l), (3, i64 o)] [] 0)
  | none => .ret (at_ [(2, bl false)] [] 0)
theorem GoodProgL_ev (l : List Line) (hl : l.length ≤ 1048576) (hs : ∀ x ∈ l, x.expr.length ≤ 1048576 ∧ ∀ y ∈ x.expr, y.text.size ≤ 9223372036854775807) : ∀ (rest done : List Line) (i o : Int), l = done ++ rest → i = done.length → 0 ≤ o → o ≤ i →
    Ev pr (.loop (lq pr 10 0) (at_ [(0, lines l), (3, i64 o), (8, lines l), (9, i64 l.length), (10, i64 i)] [] 0)) (specOut l (specGo rest o))
  | [], done, i, o, h, hi, ho, hoi => by
    have hll : (l.length : Int) = done.length := by simp [h]
    let t0 : Tp pr := .b (show (decide (i < (↑l.length : Int))) = false by (simp; omega))
    exact .tp [t0] (by kernel_rfl)
  | x :: rest, done, i, o, h, hi, ho, hoi => by
    have hll : (l.length : Int) = done.length + 1 + rest.length := by simp [h]; omega
    have hg : lkp (l.map Line.ce) i = some x.ce := by subst hi; subst h; simp
    have hx := l17Expr_ev x.expr (hs x (by simp [h])).1 (hs x (by simp [h])).2
    have ih0 := GoodProgL_ev l hl hs rest (done ++ [x]) (i + 1) o (by simp [h]) (by simp [hi]) ho (by omega)
    have ih1 := GoodProgL_ev l hl hs rest (done ++ [x]) (i + 1) (o + 1) (by simp [h]) (by simp [hi]) (by omega) (by omega)
    have ih2 : 0 < o → _ := fun h0 => GoodProgL_ev l hl hs rest (done ++ [x]) (i + 1) (o - 1) (by simp [h]) (by simp [hi]) (by omega) (by omega)
    cases hp : (parseL x.expr).isSome with
    | true =>
      rw [hp] at hx
      let t0 : Tp pr := .b (show (decide (i < (↑l.length : Int))) = true by (simp; omega))
      let t1 : Tp pr := .g .row (show (lkp (List.map Line.ce l) i) = some (x.ce) from hg)
      by_cases hc3 : x.kind = (1 : Int)
      · let t3 : Tp pr := .b (show (decide (x.kind = (1 : Int))) = true by simpa using hc3)
        let t5 : Tp pr := .a (l1In_ev (x.name) ((0 : Int)) ((9 : Int)))
        by_cases hc6 : x.name < (0 : Int) ∨ (9 : Int) < x.name
        · let t6 : Tp pr := .b (show (!(decide (x.name ≥ (0 : Int)) && decide (x.name ≤ (9 : Int)))) = true by simpa using hc6)
          exact .tpe [t0, t1, .a (hx), t3, .b (rfl : false = false), t5, t6] (Out.ret (at_ [((2 : Nat), V.t (T.bool false))] [] (0 : Nat))) (by kernel_rfl) (congrArg (fun x => x) (show (Out.ret (at_ [((2 : Nat), V.t (T.bool false))] [] (0 : Nat))) = (specOut l (specGo (x :: rest) o)) by grind [specGo, specOut, bl, i64, sl]))
        · let t6 : Tp pr := .b (show (!(decide (x.name ≥ (0 : Int)) && decide (x.name ≤ (9 : Int)))) = false by simpa using hc6)
          let t7 : Tp pr := .i (wrap_i64 (a := i + (1 : Int)) (by omega) (by omega))
          exact .tpe [t0, t1, .a (hx), t3, .b (rfl : false = false), t5, t6, t7, .a (ih0)] (specOut l (specGo rest o)) (by kernel_rfl) (congrArg (fun x => x) (show (specOut l (specGo rest o)) = (specOut l (specGo (x :: rest) o)) by grind [specGo, specOut, bl, i64, sl]))
      · let t3 : Tp pr := .b (show (decide (x.kind = (1 : Int))) = false by simpa using hc3)
        by_cases hc4 : x.kind = (2 : Int)
        · let t4 : Tp pr := .b (show (decide (x.kind = (2 : Int))) = true by simpa using hc4)
          by_cases hc6 : x.name = (0 : Int)
          · let t6 : Tp pr := .b (show (x.name != (0 : Int)) = false by simpa using hc6)
            let t7 : Tp pr := .i (wrap_i64 (a := o + (1 : Int)) (by omega) (by omega))
            let t8 : Tp pr := .i (wrap_i64 (a := i + (1 : Int)) (by omega) (by omega))
            exact .tpe [t0, t1, .a (hx), t3, t4, .b (rfl : false = false), t6, t7, t8, .a (ih1)] (specOut l (specGo rest (o + (1 : Int)))) (by kernel_rfl) (congrArg (fun x => x) (show (specOut l (specGo rest (o + (1 : Int)))) = (specOut l (specGo (x :: rest) o)) by grind [specGo, specOut, bl, i64, sl]))
          · let t6 : Tp pr := .b (show (x.name != (0 : Int)) = true by simpa using hc6)
            exact .tpe [t0, t1, .a (hx), t3, t4, .b (rfl : false = false), t6] (Out.ret (at_ [((2 : Nat), V.t (T.bool false))] [] (0 : Nat))) (by kernel_rfl) (congrArg (fun x => x) (show (Out.ret (at_ [((2 : Nat), V.t (T.bool false))] [] (0 : Nat))) = (specOut l (specGo (x :: rest) o)) by grind [specGo, specOut, bl, i64, sl]))
        · let t4 : Tp pr := .b (show (decide (x.kind = (2 : Int))) = false by simpa using hc4)
          by_cases hc5 : x.kind = (3 : Int)
          · let t5 : Tp pr := .b (show (decide (x.kind = (3 : Int))) = true by simpa using hc5)
            by_cases hc6 : x.name = (0 : Int)
            · let t6 : Tp pr := .b (show (x.name != (0 : Int)) = false by simpa using hc6)
              let t7 : Tp pr := .i (show ((↑(List.map Ex.ce x.expr).length : Int) : Int) = (↑x.expr.length : Int) by simp)
              by_cases hc8 : (0 : Nat) < x.expr.length
              · let t8 : Tp pr := .b (show (decide ((↑x.expr.length : Int) > (0 : Int))) = true by simpa using hc8)
                exact .tpe [t0, t1, .a (hx), t3, t4, t5, t6, t7, t8, .b (rfl : true = true)] (Out.ret (at_ [((2 : Nat), V.t (T.bool false))] [] (0 : Nat))) (by kernel_rfl) (congrArg (fun x => x) (show (Out.ret (at_ [((2 : Nat), V.t (T.bool false))] [] (0 : Nat))) = (specOut l (specGo (x :: rest) o)) by grind [specGo, specOut, bl, i64, sl]))
              · let t8 : Tp pr := .b (show (decide ((↑x.expr.length : Int) > (0 : Int))) = false by simpa using hc8)
                by_cases hc9 : o = (0 : Int)
                · let t9 : Tp pr := .b (show (decide (o = (0 : Int))) = true by simpa using hc9)
                  exact .tpe [t0, t1, .a (hx), t3, t4, t5, t6, t7, t8, t9] (Out.ret (at_ [((2 : Nat), V.t (T.bool false))] [] (0 : Nat))) (by kernel_rfl) (congrArg (fun x => x) (show (Out.ret (at_ [((2 : Nat), V.t (T.bool false))] [] (0 : Nat))) = (specOut l (specGo (x :: rest) o)) by grind [specGo, specOut, bl, i64, sl]))
                · let t9 : Tp pr := .b (show (decide (o = (0 : Int))) = false by simpa using hc9)
                  let t10 : Tp pr := .i (wrap_i64 (a := o - (1 : Int)) (by omega) (by omega))
                  let t11 : Tp pr := .i (wrap_i64 (a := i + (1 : Int)) (by omega) (by omega))
                  exact .tpe [t0, t1, .a (hx), t3, t4, t5, t6, t7, t8, t9, t10, t11, .a (ih2 (by omega))] (specOut l (specGo rest (o - (1 : Int)))) (by kernel_rfl) (congrArg (fun x => x) (show (specOut l (specGo rest (o - (1 : Int)))) = (specOut l (specGo (x :: rest) o)) by grind [specGo, specOut, bl, i64, sl]))
            · let t6 : Tp pr := .b (show (x.name != (0 : Int)) = true by simpa using hc6)
              exact .tpe [t0, t1, .a (hx), t3, t4, t5, t6, .b (rfl : true = true), .b (rfl : true = true)] (Out.ret (at_ [((2 : Nat), V.t (T.bool false))] [] (0 : Nat))) (by kernel_rfl) (congrArg (fun x => x) (show (Out.ret (at_ [((2 : Nat), V.t (T.bool false))] [] (0 : Nat))) = (specOut l (specGo (x :: rest) o)) by grind [specGo, specOut, bl, i64, sl]))
          · let t5 : Tp pr := .b (show (decide (x.kind = (3 : Int))) = false by simpa using hc5)
            exact .tpe [t0, t1, .a (hx), t3, t4, t5] (Out.ret (at_ [((2 : Nat), V.t (T.bool false))] [] (0 : Nat))) (by kernel_rfl) (congrArg (fun x => x) (show (Out.ret (at_ [((2 : Nat), V.t (T.bool false))] [] (0 : Nat))) = (specOut l (specGo (x :: rest) o)) by grind [specGo, specOut, bl, i64, sl]))
    | false =>
      rw [hp] at hx
      let t0 : Tp pr := .b (show (decide (i < (↑l.length : Int))) = true by (simp; omega))
      let t1 : Tp pr := .g .row (show (lkp (List.map Line.ce l) i) = some (x.ce) from hg)
      by_cases hc3 : x.kind = (1 : Int)
      · let t3 : Tp pr := .b (show (decide (x.kind = (1 : Int))) = true by simpa using hc3)
        exact .tpe [t0, t1, .a (hx), t3, .b (rfl : true = true), .b (rfl : true = true)] (Out.ret (at_ [((2 : Nat), V.t (T.bool false))] [] (0 : Nat))) (by kernel_rfl) (congrArg (fun x => x) (show (Out.ret (at_ [((2 : Nat), V.t (T.bool false))] [] (0 : Nat))) = (specOut l (specGo (x :: rest) o)) by grind [specGo, specOut, bl, i64, sl]))
      · let t3 : Tp pr := .b (show (decide (x.kind = (1 : Int))) = false by simpa using hc3)
        by_cases hc4 : x.kind = (2 : Int)
        · let t4 : Tp pr := .b (show (decide (x.kind = (2 : Int))) = true by simpa using hc4)
          exact .tpe [t0, t1, .a (hx), t3, t4, .b (rfl : true = true), .b (rfl : true = true)] (Out.ret (at_ [((2 : Nat), V.t (T.bool false))] [] (0 : Nat))) (by kernel_rfl) (congrArg (fun x => x) (show (Out.ret (at_ [((2 : Nat), V.t (T.bool false))] [] (0 : Nat))) = (specOut l (specGo (x :: rest) o)) by grind [specGo, specOut, bl, i64, sl]))
        · let t4 : Tp pr := .b (show (decide (x.kind = (2 : Int))) = false by simpa using hc4)
          by_cases hc5 : x.kind = (3 : Int)
          · let t5 : Tp pr := .b (show (decide (x.kind = (3 : Int))) = true by simpa using hc5)
            by_cases hc6 : x.name = (0 : Int)
            · let t6 : Tp pr := .b (show (x.name != (0 : Int)) = false by simpa using hc6)
              let t7 : Tp pr := .i (show ((↑(List.map Ex.ce x.expr).length : Int) : Int) = (↑x.expr.length : Int) by simp)
              by_cases hc8 : (0 : Nat) < x.expr.length
              · let t8 : Tp pr := .b (show (decide ((↑x.expr.length : Int) > (0 : Int))) = true by simpa using hc8)
                exact .tpe [t0, t1, .a (hx), t3, t4, t5, t6, t7, t8, .b (rfl : true = true)] (Out.ret (at_ [((2 : Nat), V.t (T.bool false))] [] (0 : Nat))) (by kernel_rfl) (congrArg (fun x => x) (show (Out.ret (at_ [((2 : Nat), V.t (T.bool false))] [] (0 : Nat))) = (specOut l (specGo (x :: rest) o)) by grind [specGo, specOut, bl, i64, sl]))
              · let t8 : Tp pr := .b (show (decide ((↑x.expr.length : Int) > (0 : Int))) = false by simpa using hc8)
                by_cases hc9 : o = (0 : Int)
                · let t9 : Tp pr := .b (show (decide (o = (0 : Int))) = true by simpa using hc9)
                  exact .tpe [t0, t1, .a (hx), t3, t4, t5, t6, t7, t8, t9] (Out.ret (at_ [((2 : Nat), V.t (T.bool false))] [] (0 : Nat))) (by kernel_rfl) (congrArg (fun x => x) (show (Out.ret (at_ [((2 : Nat), V.t (T.bool false))] [] (0 : Nat))) = (specOut l (specGo (x :: rest) o)) by grind [specGo, specOut, bl, i64, sl]))
                · let t9 : Tp pr := .b (show (decide (o = (0 : Int))) = false by simpa using hc9)
                  let t10 : Tp pr := .i (wrap_i64 (a := o - (1 : Int)) (by omega) (by omega))
                  let t11 : Tp pr := .i (wrap_i64 (a := i + (1 : Int)) (by omega) (by omega))
                  exact .tpe [t0, t1, .a (hx), t3, t4, t5, t6, t7, t8, t9, t10, t11, .a (ih2 (by omega))] (specOut l (specGo rest (o - (1 : Int)))) (by kernel_rfl) (congrArg (fun x => x) (show (specOut l (specGo rest (o - (1 : Int)))) = (specOut l (specGo (x :: rest) o)) by grind [specGo, specOut, bl, i64, sl]))
            · let t6 : Tp pr := .b (show (x.name != (0 : Int)) = true by simpa using hc6)
              exact .tpe [t0, t1, .a (hx), t3, t4, t5, t6, .b (rfl : true = true), .b (rfl : true = true)] (Out.ret (at_ [((2 : Nat), V.t (T.bool false))] [] (0 : Nat))) (by kernel_rfl) (congrArg (fun x => x) (show (Out.ret (at_ [((2 : Nat), V.t (T.bool false))] [] (0 : Nat))) = (specOut l (specGo (x :: rest) o)) by grind [specGo, specOut, bl, i64, sl]))
          · let t5 : Tp pr := .b (show (decide (x.kind = (3 : Int))) = false by simpa using hc5)
            exact .tpe [t0, t1, .a (hx), t3, t4, t5] (Out.ret (at_ [((2 : Nat), V.t (T.bool false))] [] (0 : Nat))) (by kernel_rfl) (congrArg (fun x => x) (show (Out.ret (at_ [((2 : Nat), V.t (T.bool false))] [] (0 : Nat))) = (specOut l (specGo (x :: rest) o)) by grind [specGo, specOut, bl, i64, sl]))
theorem GoodProgramS_ev (l : List Line) (hl : l.length ≤ 1048576) (hs : ∀ x ∈ l, x.expr.length ≤ 1048576 ∧ ∀ y ∈ x.expr, y.text.size ≤ 9223372036854775807) : Ev pr (.call 10 [lines l] []) (.val (bl (goodProgram l)) []) := by
  have h := GoodProgL_ev l hl hs l [] 0 0 rfl rfl (Int.le_refl _) (Int.le_refl _)
  rw [goodProgram_spec]
  cases hr : specGo l 0 with
  | none => rw [hr] at h; unfold specOut at h; (
    let t0 : Tp pr := .i (show ((↑(List.map Line.ce l).length : Int) : Int) = (↑l.length : Int) by simp)
    exact .tp [t0, .a (h)] (by kernel_rfl))
  | some o => rw [hr] at h; unfold specOut at h; (
    let t0 : Tp pr := .i (show ((↑(List.map Line.ce l).length : Int) : Int) = (↑l.length : Int) by simp)
    let t2 : Tp pr := .i (show ((↑(List.map Line.ce l).length : Int) : Int) = (↑l.length : Int) by simp)
    let t3 : Tp pr := .a (l1In_ev ((↑l.length : Int)) ((1 : Int)) ((12 : Int)))
    by_cases hc4 : (1 : Int) ≤ (↑l.length : Int) ∧ (↑l.length : Int) ≤ (12 : Int)
    · let t4 : Tp pr := .b (show (decide ((↑l.length : Int) ≥ (1 : Int)) && decide ((↑l.length : Int) ≤ (12 : Int))) = true by simpa using hc4)
      exact .tpe [t0, .a (h), t2, t3, t4] (Out.val (V.t (T.bool (decide (o = (0 : Int))))) []) (by kernel_rfl) (congrArg (fun x => Out.val (V.t (T.bool x)) []) (show (decide (o = (0 : Int))) = (match some o with
      | some o => decide ((↑l.length : Int) ≥ (1 : Int)) && decide ((↑l.length : Int) ≤ (12 : Int)) && decide (o = (0 : Int))
      | none => false) by simp [*]))
    · let t4 : Tp pr := .b (show (decide ((↑l.length : Int) ≥ (1 : Int)) && decide ((↑l.length : Int) ≤ (12 : Int))) = false by simpa using hc4)
      exact .tpe [t0, .a (h), t2, t3, t4] (Out.val (V.t (T.bool false)) []) (by kernel_rfl) (congrArg (fun x => Out.val (V.t (T.bool x)) []) (show (false) = (match some o with
      | some o => decide ((↑l.length : Int) ≥ (1 : Int)) && decide ((↑l.length : Int) ≤ (12 : Int)) && decide (o = (0 : Int))
      | none => false) by simp [*])))
end Go.Ev

/- Expressions and lines: what the laws' own functions do with them. -/
namespace Go.Ev
set_option linter.unusedVariables false
set_option linter.unusedSimpArgs false
open Go.Proofs
set_option maxRecDepth 100000
set_option linter.unusedVariables false
set_option maxHeartbeats 1000000
def Ex.cc (x : Ex) : List C := x.ce.map C.t
def Line.cc (x : Line) : List C := x.ce.map C.t
/-! Sizes. -/
def szEx (x : Ex) (n : Int) : Int := if n - x.text.size < 0 then -1 else n - x.text.size
theorem szEx_ev (x : Ex) (n : Int) (h0 : 0 ≤ n) (h1 : n ≤ 1048576) (hs : x.text.size ≤ 9223372036854775807) : Ev pr (.call 47 [vs x.ce, i64 n] []) (.val (i64 (szEx x n)) []) := by
  have hw := wrap_i64 (a := n - x.text.size) (by omega) (by omega)
  unfold szEx
  by_cases h : n - x.text.size < 0
  · rw [if_pos h]; exact .tp [.l x.text.size, .i hw, .b (decide_eq_true h)] (by kernel_rfl)
  · rw [if_neg h]; exact .tp [.l x.text.size, .i hw, .b (decide_eq_false h)] (by kernel_rfl)
def szExL : List Ex → Int → Option Int
  | [], n => some n
  | x :: r, n => if szEx x n < 0 then none else szExL r (szEx x n)
theorem szEx_le (x : Ex) (n : Int) (h0 : ¬ szEx x n < 0) : 0 ≤ szEx x n ∧ szEx x n ≤ n := by
  unfold szEx at *
  split at h0 <;> split <;> omega
theorem szExL_ev (l : List Ex) (hl : l.length ≤ 9223372036854775807) (hs : ∀ x ∈ l, x.text.size ≤ 9223372036854775807) : ∀ (rest done : List Ex) (n : Int), l = done ++ rest → 0 ≤ n → n ≤ 1048576 →
    Ev pr (.loop (lq pr 14 0) (at_ [(0, exs l), (1, i64 n), (5, i64 done.length)] [] 0)) (match szExL rest n with
      | some m => .exit 0 (at_ [(1, i64 m)] [] 0)
      | none => .ret (at_ [(4, i64 (-1))] [] 0))
  | [], done, n, he, h0, h1 => by
    have h : ¬ (done.length : Int) < l.length := by subst he; simp
    exact .tp [.ll Ex.ce l, .b (decide_eq_false h)] (by kernel_rfl)
  | x :: rest, done, n, he, h0, h1 => by
    have h : (done.length : Int) < l.length := by subst he; simp; omega
    have hx : x.text.size ≤ 9223372036854775807 := hs x (by subst he; simp)
    have hw := wrap_i64 (a := done.length + 1) (by omega) (by omega)
    unfold szExL
    by_cases h2 : szEx x n < 0
    · rw [if_pos h2]
      exact .tp [.ll Ex.ce l, .b (decide_eq_true h), .e (lkp_at Ex.ce he), .a (szEx_ev x n h0 h1 hx), .b (decide_eq_true h2)] (by kernel_rfl)
    · rw [if_neg h2]
      have hle := szEx_le x n h2
      have ih := szExL_ev l hl hs rest (done ++ [x]) (szEx x n) (by simp [he]) hle.1 (by omega)
      rw [show ((done ++ [x]).length : Int) = done.length + 1 by simp] at ih
      exact .tp [.ll Ex.ce l, .b (decide_eq_true h), .e (lkp_at Ex.ce he), .a (szEx_ev x n h0 h1 hx), .b (decide_eq_false h2), .i hw, .a ih] (by kernel_rfl)
def szExS (l : List Ex) (n : Int) : Int := if n - l.length < 0 then -1 else (szExL l (n - l.length)).getD (-1)
theorem szExS_ev (l : List Ex) (n : Int) (h0 : 0 ≤ n) (h1 : n ≤ 1048576) (hl : l.length ≤ 9223372036854775807) (hs : ∀ x ∈ l, x.text.size ≤ 9223372036854775807) : Ev pr (.call 14 [exs l, i64 n] []) (.val (i64 (szExS l n)) []) := by
  have hw := wrap_i64 (a := n - l.length) (by omega) (by omega)
  unfold szExS
  by_cases h : n - l.length < 0
  · rw [if_pos h]; exact .tp [.ll Ex.ce l, .i hw, .b (decide_eq_true h)] (by kernel_rfl)
  · rw [if_neg h]
    have hL := szExL_ev l hl hs l [] (n - l.length) rfl (by omega) (by omega)
    cases hr : szExL l (n - l.length) with
    | none => rw [hr] at hL; exact .tp [.ll Ex.ce l, .i hw, .b (decide_eq_false h), .a hL] (by kernel_rfl)
    | some m => rw [hr] at hL; exact .tp [.ll Ex.ce l, .i hw, .b (decide_eq_false h), .a hL] (by kernel_rfl)
theorem szExL_le : ∀ (l : List Ex) (n m : Int), 0 ≤ n → szExL l n = some m → 0 ≤ m ∧ m ≤ n
  | [], n, m, h0, h => by obtain rfl := Option.some.inj h; exact ⟨h0, Int.le_refl _⟩
  | x :: l, n, m, h0, h => by
    unfold szExL at h
    split at h
    · cases h
    · rename_i h2
      have h3 := szEx_le x n h2
      have := szExL_le l _ m h3.1 h
      omega
theorem szExS_le (l : List Ex) (n : Int) (h0 : ¬ szExS l n < 0) : 0 ≤ szExS l n ∧ szExS l n ≤ n - l.length := by
  unfold szExS at *
  split at h0
  · omega
  · rename_i h
    rw [if_neg h]
    cases hr : szExL l (n - l.length) with
    | none => rw [hr] at h0; simp at h0
    | some m => have := szExL_le l _ m (by omega) hr; simpa using this
theorem szLine_ev (x : Line) (n : Int) (h0 : 0 ≤ n) (h1 : n ≤ 1048576) (hl : x.expr.length ≤ 9223372036854775807) (hs : ∀ y ∈ x.expr, y.text.size ≤ 9223372036854775807) : Ev pr (.call 37 [vs x.ce, i64 n] []) (.val (i64 (if szExS x.expr n < 0 then -1 else szExS x.expr n)) []) := by
  have hE := szExS_ev x.expr n h0 h1 hl hs
  by_cases h : szExS x.expr n < 0
  · rw [if_pos h]; exact .tp [.a hE, .b (decide_eq_true h)] (by kernel_rfl)
  · rw [if_neg h]; exact .tp [.a hE, .b (decide_eq_false h)] (by kernel_rfl)
def szLine (x : Line) (n : Int) : Int := if szExS x.expr n < 0 then -1 else szExS x.expr n
def szLineL : List Line → Int → Option Int
  | [], n => some n
  | x :: r, n => if szLine x n < 0 then none else szLineL r (szLine x n)
theorem szLine_le (x : Line) (n : Int) (h0 : ¬ szLine x n < 0) : 0 ≤ szLine x n ∧ szLine x n ≤ n - x.expr.length := by
  unfold szLine at *
  split at h0
  · omega
  · rename_i h; rw [if_neg h]; exact szExS_le _ _ h
structure Line.ok (x : Line) : Prop where
  len : x.expr.length ≤ 9223372036854775807
  text : ∀ y ∈ x.expr, y.text.size ≤ 9223372036854775807
theorem szLineL_ev (l : List Line) (hl : l.length ≤ 9223372036854775807) (hs : ∀ x ∈ l, x.ok) : ∀ (rest done : List Line) (n : Int), l = done ++ rest → 0 ≤ n → n ≤ 1048576 →
    Ev pr (.loop (lq pr 9 0) (at_ [(0, lines l), (1, i64 n), (5, i64 done.length)] [] 0)) (match szLineL rest n with
      | some m => .exit 0 (at_ [(1, i64 m)] [] 0)
      | none => .ret (at_ [(4, i64 (-1))] [] 0))
  | [], done, n, he, h0, h1 => by
    have h : ¬ (done.length : Int) < l.length := by subst he; simp
    exact .tp [.ll Line.ce l, .b (decide_eq_false h)] (by kernel_rfl)
  | x :: rest, done, n, he, h0, h1 => by
    have h : (done.length : Int) < l.length := by subst he; simp; omega
    have hx : x.ok := hs x (by subst he; simp)
    have hw := wrap_i64 (a := done.length + 1) (by omega) (by omega)
    have hE : Ev pr (.call 37 [vs x.ce, i64 n] []) (.val (i64 (szLine x n)) []) := szLine_ev x n h0 h1 hx.len hx.text
    unfold szLineL
    by_cases h2 : szLine x n < 0
    · rw [if_pos h2]
      exact .tp [.ll Line.ce l, .b (decide_eq_true h), .e (lkp_at Line.ce he), .a hE, .b (decide_eq_true h2)] (by kernel_rfl)
    · rw [if_neg h2]
      have hle := szLine_le x n h2
      have ih := szLineL_ev l hl hs rest (done ++ [x]) (szLine x n) (by simp [he]) hle.1 (by omega)
      rw [show ((done ++ [x]).length : Int) = done.length + 1 by simp] at ih
      exact .tp [.ll Line.ce l, .b (decide_eq_true h), .e (lkp_at Line.ce he), .a hE, .b (decide_eq_false h2), .i hw, .a ih] (by kernel_rfl)
def szLineS (l : List Line) (n : Int) : Int := if n - l.length < 0 then -1 else (szLineL l (n - l.length)).getD (-1)
theorem szLineS_ev (l : List Line) (n : Int) (h0 : 0 ≤ n) (h1 : n ≤ 1048576) (hl : l.length ≤ 9223372036854775807) (hs : ∀ x ∈ l, x.ok) : Ev pr (.call 9 [lines l, i64 n] []) (.val (i64 (szLineS l n)) []) := by
  have hw := wrap_i64 (a := n - l.length) (by omega) (by omega)
  unfold szLineS
  by_cases h : n - l.length < 0
  · rw [if_pos h]; exact .tp [.ll Line.ce l, .i hw, .b (decide_eq_true h)] (by kernel_rfl)
  · rw [if_neg h]
    have hL := szLineL_ev l hl hs l [] (n - l.length) rfl (by omega) (by omega)
    cases hr : szLineL l (n - l.length) with
    | none => rw [hr] at hL; exact .tp [.ll Line.ce l, .i hw, .b (decide_eq_false h), .a hL] (by kernel_rfl)
    | some m => rw [hr] at hL; exact .tp [.ll Line.ce l, .i hw, .b (decide_eq_false h), .a hL] (by kernel_rfl)
/-! To the program's own. -/
theorem toEx_ev (x : Ex) : Ev pr (.call 49 [vs x.ce] []) (.val (vs x.ce) []) := .tp [] (by kernel_rfl)
theorem toExL_ev (l : List Ex) (hl : l.length ≤ 1048576) : ∀ (rest done : List Ex), l = done ++ rest →
    Ev pr (.loop (lq pr 16 0) (at_ [(0, exs l), (3, .vec 0 l.length 3 0 l.length), (4, i64 done.length)] [.vec true 3 (part Ex.cc Ex.z l done)] 0)) (.exit 0 (at_ [(3, .vec 0 l.length 3 0 l.length)] [.vec true 3 (l.map Ex.cc)] 0))
  | [], done, he => by
    have h : ¬ (done.length : Int) < l.length := by subst he; simp
    rw [← part_all Ex.cc Ex.z he]
    exact .tp [.ll Ex.ce l, .b (decide_eq_false h)] (by kernel_rfl)
  | x :: rest, done, he => by
    have h0 : done.length < l.length := by subst he; simp
    have h : (done.length : Int) < l.length := by omega
    have hw := wrap_i64 (a := done.length + 1) (by omega) (by omega)
    have ih := toExL_ev l hl rest (done ++ [x]) (by simp [he])
    rw [show ((done ++ [x]).length : Int) = done.length + 1 by simp] at ih
    have hm : decide ((0:Int) ≤ done.length ∧ (done.length : Int).toNat < l.length) = true := decide_eq_true (by omega)
    have hc : 0 + (done.length : Int).toNat = done.length := by omega
    exact .tp [.ll Ex.ce l, .b (decide_eq_true h), .e (lkp_at Ex.ce he), .a (toEx_ev x), .m hm, .c hc, .m (decide_eq_true (part_len Ex.cc Ex.z he)), .g .crow (part_get Ex.cc Ex.z he), .n .crows (part_set Ex.cc Ex.z he), .i hw, .a ih] (by kernel_rfl)
theorem toExS_ev (l : List Ex) (hl : l.length ≤ 1048576) : Ev pr (.call 16 [exs l] []) (.val (exs l) []) := by
  have h : decide ((0:Int) ≤ l.length ∧ (l.length:Int) ≤ l.length ∧ (l.length:Int) ≤ 4294967296) = true := decide_eq_true (by omega)
  exact .tp [.ll Ex.ce l, .m h, .c (Int.toNat_natCast l.length), .n .crows (part_nil Ex.cc Ex.z l).symm, .a (toExL_ev l hl l [] rfl), .m (full_ok Ex.cc l), .n .rows (fz_all Ex.ce l)] (by kernel_rfl)
theorem toLine_ev (x : Line) (hl : x.expr.length ≤ 1048576) : Ev pr (.call 40 [vs x.ce] []) (.val (vs x.ce) []) := .tp [.a (toExS_ev x.expr hl)] (by kernel_rfl)
theorem toLineL_ev (l : List Line) (hl : l.length ≤ 1048576) (hs : ∀ x ∈ l, x.expr.length ≤ 1048576) : ∀ (rest done : List Line), l = done ++ rest →
    Ev pr (.loop (lq pr 11 0) (at_ [(0, lines l), (3, .vec 0 l.length 3 0 l.length), (4, i64 done.length)] [.vec true 3 (part Line.cc Line.z l done)] 0)) (.exit 0 (at_ [(3, .vec 0 l.length 3 0 l.length)] [.vec true 3 (l.map Line.cc)] 0))
  | [], done, he => by
    have h : ¬ (done.length : Int) < l.length := by subst he; simp
    rw [← part_all Line.cc Line.z he]
    exact .tp [.ll Line.ce l, .b (decide_eq_false h)] (by kernel_rfl)
  | x :: rest, done, he => by
    have h0 : done.length < l.length := by subst he; simp
    have h : (done.length : Int) < l.length := by omega
    have hw := wrap_i64 (a := done.length + 1) (by omega) (by omega)
    have ih := toLineL_ev l hl hs rest (done ++ [x]) (by simp [he])
    rw [show ((done ++ [x]).length : Int) = done.length + 1 by simp] at ih
    have hm : decide ((0:Int) ≤ done.length ∧ (done.length : Int).toNat < l.length) = true := decide_eq_true (by omega)
    have hc : 0 + (done.length : Int).toNat = done.length := by omega
    exact .tp [.ll Line.ce l, .b (decide_eq_true h), .e (lkp_at Line.ce he), .a (toLine_ev x (hs x (by subst he; simp))), .m hm, .c hc, .m (decide_eq_true (part_len Line.cc Line.z he)), .g .crow (part_get Line.cc Line.z he), .n .crows (part_set Line.cc Line.z he), .i hw, .a ih] (by kernel_rfl)
theorem toLineS_ev (l : List Line) (hl : l.length ≤ 1048576) (hs : ∀ x ∈ l, x.expr.length ≤ 1048576) : Ev pr (.call 11 [lines l] []) (.val (lines l) []) := by
  have h : decide ((0:Int) ≤ l.length ∧ (l.length:Int) ≤ l.length ∧ (l.length:Int) ≤ 4294967296) = true := decide_eq_true (by omega)
  exact .tp [.ll Line.ce l, .m h, .c (Int.toNat_natCast l.length), .n .crows (part_nil Line.cc Line.z l).symm, .a (toLineL_ev l hl hs l [] rfl), .m (full_ok Line.cc l), .n .rows (fz_all Line.ce l)] (by kernel_rfl)
theorem eqEx_ev (x : Ex) : Ev pr (.call 53 [vs x.ce, vs x.ce] []) (.val (bl true) []) :=
  .tp [.b (ne_self x.kind), .b (ne_self x.num), .b (str_self x.text)] (by kernel_rfl)
theorem eqExL_ev (l : List Ex) (hl : l.length ≤ 9223372036854775807) : ∀ (rest done : List Ex), l = done ++ rest →
    Ev pr (.loop (lq pr 19 0) (at_ [(0, exs l), (1, exs l), (5, i64 done.length)] [] 0)) (.exit 0 (at_ [] [] 0))
  | [], done, he => by
    have h : ¬ (done.length : Int) < l.length := by subst he; simp
    exact .tp [.ll Ex.ce l, .b (decide_eq_false h)] (by kernel_rfl)
  | x :: rest, done, he => by
    have h0 : done.length < l.length := by subst he; simp
    have h : (done.length : Int) < l.length := by omega
    have hw := wrap_i64 (a := done.length + 1) (by omega) (by omega)
    have ih := eqExL_ev l hl rest (done ++ [x]) (by simp [he])
    rw [show ((done ++ [x]).length : Int) = done.length + 1 by simp] at ih
    exact .tp [.ll Ex.ce l, .b (decide_eq_true h), .e (lkp_at Ex.ce he), .e (lkp_at Ex.ce he), .a (eqEx_ev x), .b (rfl : false = false), .i hw, .a ih] (by kernel_rfl)
theorem eqExS_ev (l : List Ex) (hl : l.length ≤ 9223372036854775807) : Ev pr (.call 19 [exs l, exs l] []) (.val (bl true) []) :=
  .tp [.ll Ex.ce l, .ll Ex.ce l, .b (ne_self l.length), .a (eqExL_ev l hl l [] rfl)] (by kernel_rfl)
theorem eqLine_ev (x : Line) (hl : x.expr.length ≤ 9223372036854775807) : Ev pr (.call 46 [vs x.ce, vs x.ce] []) (.val (bl true) []) :=
  .tp [.b (ne_self x.kind), .b (ne_self x.name), .a (eqExS_ev x.expr hl), .b (rfl : false = false)] (by kernel_rfl)
theorem eqLineL_ev (l : List Line) (hl : l.length ≤ 9223372036854775807) (hs : ∀ x ∈ l, x.expr.length ≤ 9223372036854775807) : ∀ (rest done : List Line), l = done ++ rest →
    Ev pr (.loop (lq pr 13 0) (at_ [(0, lines l), (1, lines l), (5, i64 done.length)] [] 0)) (.exit 0 (at_ [] [] 0))
  | [], done, he => by
    have h : ¬ (done.length : Int) < l.length := by subst he; simp
    exact .tp [.ll Line.ce l, .b (decide_eq_false h)] (by kernel_rfl)
  | x :: rest, done, he => by
    have h0 : done.length < l.length := by subst he; simp
    have h : (done.length : Int) < l.length := by omega
    have hw := wrap_i64 (a := done.length + 1) (by omega) (by omega)
    have ih := eqLineL_ev l hl hs rest (done ++ [x]) (by simp [he])
    rw [show ((done ++ [x]).length : Int) = done.length + 1 by simp] at ih
    exact .tp [.ll Line.ce l, .b (decide_eq_true h), .e (lkp_at Line.ce he), .e (lkp_at Line.ce he), .a (eqLine_ev x (hs x (by subst he; simp))), .b (rfl : false = false), .i hw, .a ih] (by kernel_rfl)
theorem eqLineS_ev (l : List Line) (hl : l.length ≤ 9223372036854775807) (hs : ∀ x ∈ l, x.expr.length ≤ 9223372036854775807) : Ev pr (.call 13 [lines l, lines l] []) (.val (bl true) []) :=
  .tp [.ll Line.ce l, .ll Line.ce l, .b (ne_self l.length), .a (eqLineL_ev l hl hs l [] rfl)] (by kernel_rfl)
end Go.Ev

/- The law: the program's GoodProgram returns what the reference's returns. -/
namespace Go.Ev
set_option linter.unusedVariables false
set_option linter.unusedSimpArgs false
open Go.Proofs
set_option maxRecDepth 100000
set_option linter.unusedVariables false
set_option maxHeartbeats 1000000
theorem szLineL_all : ∀ (l : List Line) (n m : Int), 0 ≤ n → n ≤ 1048576 → szLineL l n = some m → ∀ x ∈ l, x.expr.length ≤ 1048576
  | [], n, m, h0, h1, h, x, hx => by cases hx
  | y :: l, n, m, h0, h1, h, x, hx => by
    unfold szLineL at h
    split at h
    · cases h
    · rename_i h2
      have h3 := szLine_le y n h2
      rcases List.mem_cons.1 hx with rfl | hx
      · omega
      · exact szLineL_all l _ m h3.1 (by omega) h x hx
theorem szLineS_all (l : List Line) (h : ¬ szLineS l 1048576 < 0) : l.length ≤ 1048576 ∧ ∀ x ∈ l, x.expr.length ≤ 1048576 := by
  unfold szLineS at h
  split at h
  · omega
  · rename_i h1
    cases hr : szLineL l (1048576 - l.length) with
    | none => rw [hr] at h; simp at h
    | some m => exact ⟨by omega, szLineL_all l _ m (by omega) (by omega) hr⟩
def Ex.wf (x : Ex) : Prop := (Lit.int .i64 x.kind).wf = true ∧ (Lit.int .i64 x.num).wf = true ∧ x.text.size ≤ 9223372036854775807
def Line.wf (x : Line) : Prop := (Lit.int .i64 x.kind).wf = true ∧ (Lit.int .i64 x.name).wf = true ∧ x.expr.length ≤ 9223372036854775807 ∧ ∀ y ∈ x.expr, y.wf
theorem Line.wf.ok {x : Line} (h : x.wf) : x.ok := ⟨h.2.2.1, fun y hy => (h.2.2.2 y hy).2.2⟩
theorem prim_none : PrimOk pr := fun f p h => by cases h
theorem law0_ev (l : List Line) (hl : l.length ≤ 9223372036854775807) (hs : ∀ x ∈ l, x.ok) : Ev pr (.call 3 [lines l] []) (.val (bl true) []) := by
  have h0 := szLineS_ev l 1048576 (by omega) (by omega) hl hs
  by_cases hz : szLineS l 1048576 < 0
  · let t1 : Tp pr := .b (show (decide (szLineS l (1048576 : Int) < (0 : Int))) = true by (simp; omega))
    exact .tp [.a (h0), t1] (by kernel_rfl)
  · obtain ⟨k1, k2⟩ := szLineS_all l hz
    have k3 : ∀ x ∈ l, x.expr.length ≤ 1048576 ∧ ∀ y ∈ x.expr, y.text.size ≤ 9223372036854775807 := fun x hx => ⟨k2 x hx, (hs x hx).text⟩
    have k4 : ∀ x ∈ l, x.expr.length ≤ 9223372036854775807 := fun x hx => (hs x hx).len
    let t1 : Tp pr := .b (show (decide (szLineS l (1048576 : Int) < (0 : Int))) = false by (simp; omega))
    let t2 : Tp pr := .a (toLineS_ev (l) (by assumption) (by assumption))
    let t3 : Tp pr := .a (GoodProgramS_ev (l) (by assumption) (by assumption))
    let t4 : Tp pr := .a (toLineS_ev (l) (by assumption) (by assumption))
    let t5 : Tp pr := .a (GoodProgramI_ev (l) (by assumption) (by assumption))
    let t6 : Tp pr := .b (show (!decide (goodProgram l = goodProgram l)) = false by simp)
    let t7 : Tp pr := .a (toLineS_ev (l) (by assumption) (by assumption))
    let t8 : Tp pr := .a (eqLineS_ev (l) (by assumption) (by assumption))
    exact .tp [.a (h0), t1, t2, t3, t4, t5, t6, t7, t8, .b (rfl : false = false)] (by kernel_rfl)
theorem law_ev (l : List Line) (h : l.length ≤ 9223372036854775807 ∧ ∀ x ∈ l, x.wf) : Ev pr (.call 3 [lines l] []) (.val (.t (.bool true)) []) := law0_ev l h.1 fun x hx => (h.2 x hx).ok
end Go.Ev
