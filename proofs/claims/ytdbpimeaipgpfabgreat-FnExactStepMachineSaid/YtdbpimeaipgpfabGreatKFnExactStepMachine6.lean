import Derived.Test.YtdbpimeaipgpfabGreatKFnExactStepMachine5
namespace Go.Ev
set_option linter.unusedVariables false
set_option linter.unusedSimpArgs false
open Go.Proofs
set_option maxRecDepth 100000
set_option maxHeartbeats 4000000
section
variable (L St Bt : List (List T)) (d : Bool) (p0 e0 v0 : Int) (X Y Z : List (List T)) (lg : Bool)
def elS (q : V) (k e : Int) (o : Out) : Prop := Ev pr (.loop (lq pr 109 0) (at_ [(0, q), (1, i64 k), (6, i64 e)] [] 0)) o
def elO (b : Bool) : Out := if b = true then .exit 0 (at_ [] [] 0) else .ret (at_ [(4, bl false)] [] 0)
theorem elEnd (k e : Int) (h : e < 0) : elS (eTr L St Bt d p0 e0 v0 X Y Z lg) k e (elO true) := by
  have h1 : ¬ (e ≥ 0) := by omega
  rw [show elO true = .exit 0 (at_ [] [] 0) from rfl]
  unfold elS eTr
  let t0 : Tp pr := .b (show (decide (e ≥ (0 : Int))) = false by (simp; omega))
  exact .tp [t0] (by kernel_rfl)
theorem elNo (k e : Int) (h : 0 ≤ e) (h2 : e < Z.length) (a b : Int) (hl : lkp Z e = some [.int .i64 a, .int .i64 b]) (hk : a ≥ k) : elS (eTr L St Bt d p0 e0 v0 X Y Z lg) k e (elO false) := by
  rw [show elO false = .ret (at_ [(4, bl false)] [] 0) from rfl]
  unfold elS eTr at *
  let t0 : Tp pr := .b (show (decide (e ≥ (0 : Int))) = true by (simp; omega))
  let t1 : Tp pr := .g .row (show (lkp Z e) = some ([T.int IntKind.i64 a, T.int IntKind.i64 b]) from hl)
  let t2 : Tp pr := .b (show (decide (a ≥ k)) = true by (simp; omega))
  exact .tp [t0, t1, t2] (by kernel_rfl)
theorem elGo (k e : Int) (h : 0 ≤ e) (h2 : e < Z.length) (a b : Int) (hl : lkp Z e = some [.int .i64 a, .int .i64 b]) (hk : ¬ (a ≥ k)) (o : Out) (g : elS (eTr L St Bt d p0 e0 v0 X Y Z lg) k b o) : elS (eTr L St Bt d p0 e0 v0 X Y Z lg) k e o := by
  unfold elS eTr at *
  let t0 : Tp pr := .b (show (decide (e ≥ (0 : Int))) = true by (simp; omega))
  let t1 : Tp pr := .g .row (show (lkp Z e) = some ([T.int IntKind.i64 a, T.int IntKind.i64 b]) from hl)
  let t2 : Tp pr := .b (show (decide (a ≥ k)) = false by (simp; omega))
  exact .tp [t0, t1, t2, t1, .a (g)] (by kernel_rfl)
theorem elLoop (bs : List Bd) (hd : Down bs) (k : Int) : ∀ (n : Nat) (e : Int), -1 ≤ e → e < bs.length → e < n →
    elS (eTr L St Bt d p0 e0 v0 X Y (bs.map Bd.ce) lg) k e (elO (elderB bs k n e))
  | 0, e, h0, h1, h2 => elEnd _ _ _ _ _ _ _ _ _ _ _ k e (by omega)
  | n + 1, e, h0, h1, h2 => by
    unfold elderB
    by_cases he : e < 0
    · rw [if_pos he]
      exact elEnd _ _ _ _ _ _ _ _ _ _ _ k e he
    · rw [if_neg he]
      have hlk := lkp_bd bs e (by omega) h1
      have h1' : e < ((bs.map Bd.ce).length : Int) := by simpa using h1
      by_cases hv : k ≤ (bdAt bs e).val
      · rw [if_pos hv]
        exact elNo _ _ _ _ _ _ _ _ _ _ _ k e (by omega) h1' _ _ hlk hv
      · rw [if_neg hv]
        have hu := hd _ _ (bdAt_some (by omega) h1)
        exact elGo _ _ _ _ _ _ _ _ _ _ _ k e (by omega) h1' _ _ hlk hv _ (elLoop bs hd k n _ hu.1 (by omega) (by omega))
theorem vNum (k : Nat) (hk : k < Y.length) (n p e : Int) (hl : Y[k]? = some [.bool false, .int .i64 n, .int .i64 p, .int .i64 e]) : Ev pr (.call 109 [eTr L St Bt d p0 e0 v0 X Y Z lg, i64 k] []) (.val (bl (decide (-1000000 ≤ n ∧ n ≤ 1000000) && (decide (p = 0) && decide (e = 0)))) []) := by
  have gw := within_ev n (-1000000) 1000000
  by_cases h1 : -1000000 ≤ n ∧ n ≤ 1000000
  · rw [show (decide (n ≥ -1000000) && decide (n ≤ 1000000)) = true by simp; omega] at gw
    rw [decide_eq_true h1, Bool.true_and]
    unfold eTr
    by_cases h2 : p = 0
    · subst h2
      let t0 : Tp pr := .g .row (show (lkp Y (↑k : Int)) = some ([T.bool false, T.int IntKind.i64 n, T.int IntKind.i64 (0 : Int), T.int IntKind.i64 e]) from hl)
      exact .tp [t0, .bT, .a (gw), .bT, .bT] (by kernel_rfl)
    · rw [decide_eq_false h2, Bool.false_and]
      let t0 : Tp pr := .g .row (show (lkp Y (↑k : Int)) = some ([T.bool false, T.int IntKind.i64 n, T.int IntKind.i64 p, T.int IntKind.i64 e]) from hl)
      let t4 : Tp pr := .b (show (decide (p = (0 : Int))) = false by (simp; omega))
      exact .tp [t0, .bT, .a (gw), .bT, t4] (by kernel_rfl)
  · rw [show (decide (n ≥ -1000000) && decide (n ≤ 1000000)) = false by simp; omega] at gw
    rw [decide_eq_false h1, Bool.false_and]
    unfold eTr
    let t0 : Tp pr := .g .row (show (lkp Y (↑k : Int)) = some ([T.bool false, T.int IntKind.i64 n, T.int IntKind.i64 p, T.int IntKind.i64 e]) from hl)
    exact .tp [t0, .bT, .a (gw), .bF, .bF] (by kernel_rfl)
theorem vFnN (k : Nat) (hk : k < Y.length) (n p e : Int) (hl : Y[k]? = some [.bool true, .int .i64 n, .int .i64 p, .int .i64 e]) (h : ¬ n = 0) : Ev pr (.call 109 [eTr L St Bt d p0 e0 v0 X Y Z lg, i64 k] []) (.val (bl false) []) := by
  unfold eTr
  let t0 : Tp pr := .g .row (show (lkp Y (↑k : Int)) = some ([T.bool true, T.int IntKind.i64 n, T.int IntKind.i64 p, T.int IntKind.i64 e]) from hl)
  let t6 : Tp pr := .b (show (n != (0 : Int)) = true by (simp; omega))
  exact .tp [t0, .bF, .mT, .mT, .mT, .mT, t6, .mT, .mT, .mT, .mT, .mT, .mT, .mT, .mT, .mT, .bT, .mT, .mT, .mT, .mT, .mT, .mT, .mT, .mT, .mT, .mT, .mT, .bT] (by kernel_rfl)
theorem vFnF (k : Nat) (hk : k < Y.length) (p e : Int) (hl : Y[k]? = some [.bool true, .int .i64 0, .int .i64 p, .int .i64 e]) (g : Ev pr (.call 113 [eTr L St Bt d p0 e0 v0 X Y Z lg, i64 p, i64 e] []) (.val (bl false) [])) : Ev pr (.call 109 [eTr L St Bt d p0 e0 v0 X Y Z lg, i64 k] []) (.val (bl false) []) := by
  unfold eTr at *
  let t0 : Tp pr := .g .row (show (lkp Y (↑k : Int)) = some ([T.bool true, T.int IntKind.i64 (0 : Int), T.int IntKind.i64 p, T.int IntKind.i64 e]) from hl)
  exact .tp [t0, .bF, .mT, .mT, .mT, .mT, .bF, .mT, .mT, .mT, .mT, .mT, .a (g), .mT, .mT, .mT, .mT, .bT, .mT, .mT, .mT, .mT, .mT, .mT, .mT, .mT, .mT, .mT, .mT, .bT] (by kernel_rfl)
theorem vFnK (k : Nat) (hk : k < Y.length) (p e : Int) (hl : Y[k]? = some [.bool true, .int .i64 0, .int .i64 p, .int .i64 e]) (g : Ev pr (.call 113 [eTr L St Bt d p0 e0 v0 X Y Z lg, i64 p, i64 e] []) (.val (bl true) [])) (h0 : 0 ≤ p) (h1 : p < L.length) (a b : Int) (hL : lkp L p = some [.int .i64 a, .int .i64 b]) (ha : ¬ a = 3) : Ev pr (.call 109 [eTr L St Bt d p0 e0 v0 X Y Z lg, i64 k] []) (.val (bl false) []) := by
  unfold eTr at *
  let t0 : Tp pr := .g .row (show (lkp Y (↑k : Int)) = some ([T.bool true, T.int IntKind.i64 (0 : Int), T.int IntKind.i64 p, T.int IntKind.i64 e]) from hl)
  let t24 : Tp pr := .g .row (show (lkp L p) = some ([T.int IntKind.i64 a, T.int IntKind.i64 b]) from hL)
  let t30 : Tp pr := .b (show (a != (3 : Int)) = true by (simp; omega))
  exact .tp [t0, .bF, .mT, .mT, .mT, .mT, .bF, .mT, .mT, .mT, .mT, .mT, .a (g), .mT, .mT, .mT, .mT, .bF, .mT, .mT, .mT, .mT, .mT, .mT, t24, .mT, .mT, .mT, .mT, .mT, t30] (by kernel_rfl)
theorem vFn (k : Nat) (hk : k < Y.length) (p e : Int) (hl : Y[k]? = some [.bool true, .int .i64 0, .int .i64 p, .int .i64 e]) (g : Ev pr (.call 113 [eTr L St Bt d p0 e0 v0 X Y Z lg, i64 p, i64 e] []) (.val (bl true) [])) (h0 : 0 ≤ p) (h1 : p < L.length) (b : Int) (hL : lkp L p = some [.int .i64 3, .int .i64 b])
    (r : Bool) (gl : elS (eTr L St Bt d p0 e0 v0 X Y Z lg) k e (elO r)) : Ev pr (.call 109 [eTr L St Bt d p0 e0 v0 X Y Z lg, i64 k] []) (.val (bl r) []) := by
  cases r with
  | true =>
    rw [show elO true = .exit 0 (at_ [] [] 0) from rfl] at gl
    unfold elS eTr at *
    let t0 : Tp pr := .g .row (show (lkp Y (↑k : Int)) = some ([T.bool true, T.int IntKind.i64 (0 : Int), T.int IntKind.i64 p, T.int IntKind.i64 e]) from hl)
    let t24 : Tp pr := .g .row (show (lkp L p) = some ([T.int IntKind.i64 (3 : Int), T.int IntKind.i64 b]) from hL)
    exact .tp [t0, .bF, .mT, .mT, .mT, .mT, .bF, .mT, .mT, .mT, .mT, .mT, .a (g), .mT, .mT, .mT, .mT, .bF, .mT, .mT, .mT, .mT, .mT, .mT, t24, .mT, .mT, .mT, .mT, .mT, .bF, .a (gl)] (by kernel_rfl)
  | false =>
    rw [show elO false = .ret (at_ [(4, bl false)] [] 0) from rfl] at gl
    unfold elS eTr at *
    let t0 : Tp pr := .g .row (show (lkp Y (↑k : Int)) = some ([T.bool true, T.int IntKind.i64 (0 : Int), T.int IntKind.i64 p, T.int IntKind.i64 e]) from hl)
    let t24 : Tp pr := .g .row (show (lkp L p) = some ([T.int IntKind.i64 (3 : Int), T.int IntKind.i64 b]) from hL)
    exact .tp [t0, .bF, .mT, .mT, .mT, .mT, .bF, .mT, .mT, .mT, .mT, .mT, .a (g), .mT, .mT, .mT, .mT, .bF, .mT, .mT, .mT, .mT, .mT, .mT, t24, .mT, .mT, .mT, .mT, .mT, .bF, .a (gl)] (by kernel_rfl)
end
theorem lkp_ce (c : Cd) (p : Int) (h0 : 0 ≤ p) (h : p < c.cells.length) : lkp (c.cells.map Cell.ce) p = some [.int .i64 (c.at_ p).kind, .int .i64 (c.at_ p).n] := by
  have hl : p.toNat < c.cells.length := by omega
  unfold lkp Cd.at_
  rw [if_pos h0, List.getElem?_map, List.getD_eq_getElem?_getD, List.getElem?_eq_getElem hl]
  rfl
theorem value_ev (c : Cd) (hc : CdOk c) (m : Mc) (lg : Bool) (hd : Down m.bds) (hb : m.bds.length ≤ 500) (k : Nat) (w : Vl) (hw : m.vals[k]? = some w) : Ev pr (.call 109 [eM c m lg, i64 k] []) (.val (bl (vlB c m.bds k w)) []) := by
  have hk : k < (m.vals.map Vl.ce).length := by simpa using (List.getElem?_eq_some_iff.1 hw).1
  have hl : (m.vals.map Vl.ce)[k]? = some [.bool w.fn, .int .i64 w.num, .int .i64 w.pl, .int .i64 w.env] := by rw [List.getElem?_map, hw]; rfl
  have gf := fits_ev c hc m lg hd hb w.pl w.env
  unfold vlB
  cases hf : w.fn with
  | false =>
    rw [hf] at hl
    rw [if_neg (by simp)]
    exact vNum _ _ _ _ _ _ _ _ _ _ _ k hk _ _ _ hl
  | true =>
    rw [hf] at hl
    rw [if_pos rfl]
    by_cases hn : w.num = 0
    · rw [hn] at hl
      rw [decide_eq_true hn, Bool.true_and]
      cases hfit : fitsB c m.bds w.pl w.env with
      | false =>
        rw [hfit] at gf
        rw [Bool.false_and]
        exact vFnF _ _ _ _ _ _ _ _ _ _ _ k hk _ _ hl gf
      | true =>
        rw [hfit] at gf
        rw [Bool.true_and]
        simp only [fitsB, Bool.and_eq_true, decide_eq_true_eq] at hfit
        have hce := lkp_ce c w.pl hfit.1.1 hfit.1.2
        have hp1 : w.pl < ((c.cells.map Cell.ce).length : Int) := by simpa using hfit.1.2
        by_cases hk3 : (c.at_ w.pl).kind = 3
        · rw [hk3] at hce
          rw [decide_eq_true hk3, Bool.true_and]
          exact vFn _ _ _ _ _ _ _ _ _ _ _ k hk _ _ hl gf hfit.1.1 hp1 _ hce _ (elLoop _ _ _ _ _ _ _ _ _ _ m.bds hd k _ _ hfit.2.1.1 hfit.2.1.2 (by omega))
        · rw [decide_eq_false hk3, Bool.false_and]
          exact vFnK _ _ _ _ _ _ _ _ _ _ _ k hk _ _ hl gf hfit.1.1 hp1 _ _ hce hk3
    · rw [decide_eq_false hn, Bool.false_and]
      exact vFnN _ _ _ _ _ _ _ _ _ _ _ k hk _ _ _ hl hn
section
variable (L St Bt : List (List T)) (d : Bool) (p0 e0 v0 : Int) (X Y Z : List (List T)) (lg : Bool) (k p e w : Int)
theorem fF (g : Ev pr (.call 113 [eTr L St Bt d p0 e0 v0 X Y Z lg, i64 p, i64 e] []) (.val (bl false) [])) : Ev pr (.call 112 [eTr L St Bt d p0 e0 v0 X Y Z lg, .agg [i64 k, i64 p, i64 e, i64 w]] []) (.val (bl false) []) := by
  unfold eTr at *
  exact .tp [.mT, .mT, .mT, .mT, .mT, .a (g), .mT, .mT, .mT, .bT, .mT, .mT, .mT, .mT, .mT, .mT, .mT, .mT, .mT, .mT, .mT, .mT, .mT, .mT, .bT, .mT, .mT, .mT, .mT, .mT, .bT] (by kernel_rfl)
variable (g : Ev pr (.call 113 [eTr L St Bt d p0 e0 v0 X Y Z lg, i64 p, i64 e] []) (.val (bl true) [])) (h0 : 0 ≤ p) (h1 : p < L.length) (a b : Int) (hL : lkp L p = some [.int .i64 a, .int .i64 b])
include g h0 h1 hL
theorem fK (ha : ¬ a = k) : Ev pr (.call 112 [eTr L St Bt d p0 e0 v0 X Y Z lg, .agg [i64 k, i64 p, i64 e, i64 w]] []) (.val (bl false) []) := by
  have _h0 := h0
  have _h1 := h1
  unfold eTr at *
  let t16 : Tp pr := .g .row (show (lkp L p) = some ([T.int IntKind.i64 a, T.int IntKind.i64 b]) from hL)
  let t25 : Tp pr := .b (show (a != k) = true by (simp; omega))
  exact .tp [.mT, .mT, .mT, .mT, .mT, .a (g), .mT, .mT, .mT, .bF, .mT, .mT, .mT, .mT, .mT, .mT, t16, .mT, .mT, .mT, .mT, .mT, .mT, .mT, .mT, t25, .mT, .mT, .mT, .mT, .mT, .bT] (by kernel_rfl)
theorem fA (ha : a = k) (hr : arity k < 2) : Ev pr (.call 112 [eTr L St Bt d p0 e0 v0 X Y Z lg, .agg [i64 k, i64 p, i64 e, i64 w]] []) (.val (bl false) []) := by
  have _h0 := h0
  have _h1 := h1
  subst ha
  have gk := kidsOf_ev a
  unfold eTr at *
  generalize arity a = r at *
  let t16 : Tp pr := .g .row (show (lkp L p) = some ([T.int IntKind.i64 a, T.int IntKind.i64 b]) from hL)
  let t32 : Tp pr := .b (show (decide (r < (2 : Int))) = true by (simp; omega))
  exact .tp [.mT, .mT, .mT, .mT, .mT, .a (g), .mT, .mT, .mT, .bF, .mT, .mT, .mT, .mT, .mT, .mT, t16, .mT, .mT, .mT, .mT, .mT, .mT, .mT, .mT, .b (show (a != a) = false by simp), .mT, .mT, .a (gk), .mT, .mT, .mT, t32] (by kernel_rfl)
theorem fI (ha : a = k) (hr : ¬ arity k < 2) (hk : k = 6 ∨ k = 7) : Ev pr (.call 112 [eTr L St Bt d p0 e0 v0 X Y Z lg, .agg [i64 k, i64 p, i64 e, i64 w]] []) (.val (bl (decide (w = -1))) []) := by
  have _h0 := h0
  have _h1 := h1
  subst ha
  have gk := kidsOf_ev a
  unfold eTr at *
  rcases hk with rfl | rfl
  · let t16 : Tp pr := .g .row (show (lkp L p) = some ([T.int IntKind.i64 (6 : Int), T.int IntKind.i64 b]) from hL)
    exact .tp [.mT, .mT, .mT, .mT, .mT, .a (g), .mT, .mT, .mT, .bF, .mT, .mT, .mT, .mT, .mT, .mT, t16, .mT, .mT, .mT, .mT, .mT, .mT, .mT, .mT, .bF, .mT, .mT, .a (gk), .mT, .mT, .mT, .bF, .bT, .bT] (by kernel_rfl)
  · let t16 : Tp pr := .g .row (show (lkp L p) = some ([T.int IntKind.i64 (7 : Int), T.int IntKind.i64 b]) from hL)
    exact .tp [.mT, .mT, .mT, .mT, .mT, .a (g), .mT, .mT, .mT, .bF, .mT, .mT, .mT, .mT, .mT, .mT, t16, .mT, .mT, .mT, .mT, .mT, .mT, .mT, .mT, .bF, .mT, .mT, .a (gk), .mT, .mT, .mT, .bF, .bF, .bT] (by kernel_rfl)
theorem fV (hY : Y.length ≤ 500) (ha : a = k) (hr : ¬ arity k < 2) (hk : k = 4 ∨ k = 5) : Ev pr (.call 112 [eTr L St Bt d p0 e0 v0 X Y Z lg, .agg [i64 k, i64 p, i64 e, i64 w]] []) (.val (bl (decide (w ≥ -1) && decide (w ≤ (Y.length : Int) - 1))) []) := by
  have _h0 := h0
  have _h1 := h1
  subst ha
  have gk := kidsOf_ev a
  have gw := within_ev w (-1) ((Y.length : Int) - 1)
  generalize (decide (w ≥ -1) && decide (w ≤ (Y.length : Int) - 1)) = bb at *
  unfold eTr at *
  rcases hk with rfl | rfl
  · let t16 : Tp pr := .g .row (show (lkp L p) = some ([T.int IntKind.i64 (4 : Int), T.int IntKind.i64 b]) from hL)
    let t44 : Tp pr := .i (wrap_i64 (a := (↑Y.length : Int) - (1 : Int)) (by omega) (by omega))
    exact .tp [.mT, .mT, .mT, .mT, .mT, .a (g), .mT, .mT, .mT, .bF, .mT, .mT, .mT, .mT, .mT, .mT, t16, .mT, .mT, .mT, .mT, .mT, .mT, .mT, .mT, .bF, .mT, .mT, .a (gk), .mT, .mT, .mT, .bF, .bF, .bF, .mT, .mT, .mT, .mT, .mT, .mT, .mT, .i (rfl : ((↑Y.length : Int)) = _), .mT, t44, .mT, .a (gw), .mT, .mT] (by kernel_rfl)
  · let t16 : Tp pr := .g .row (show (lkp L p) = some ([T.int IntKind.i64 (5 : Int), T.int IntKind.i64 b]) from hL)
    let t44 : Tp pr := .i (wrap_i64 (a := (↑Y.length : Int) - (1 : Int)) (by omega) (by omega))
    exact .tp [.mT, .mT, .mT, .mT, .mT, .a (g), .mT, .mT, .mT, .bF, .mT, .mT, .mT, .mT, .mT, .mT, t16, .mT, .mT, .mT, .mT, .mT, .mT, .mT, .mT, .bF, .mT, .mT, .a (gk), .mT, .mT, .mT, .bF, .bF, .bF, .mT, .mT, .mT, .mT, .mT, .mT, .mT, .i (rfl : ((↑Y.length : Int)) = _), .mT, t44, .mT, .a (gw), .mT, .mT] (by kernel_rfl)
end
end Go.Ev

namespace Go.Ev
set_option linter.unusedVariables false
set_option linter.unusedSimpArgs false
open Go.Proofs
set_option maxRecDepth 100000
set_option maxHeartbeats 4000000
def eMT (c : Cd) (m : Mc) (lg : Bool) : T := .ptr [.seq 2 (c.cells.map Cell.ce), .seq 1 (c.sizes.map intt), .seq 1 (c.bounds.map intt), .bool m.done, .int .i64 m.pl, .int .i64 m.env, .int .i64 m.val, .seq 4 (m.frs.reverse.map Frm.ce), .seq 4 (m.vals.map Vl.ce), .seq 2 (m.bds.map Bd.ce), .bool lg] 0
theorem eM_T (c : Cd) (m : Mc) (lg : Bool) : eM c m lg = .t (eMT c m lg) := rfl
theorem frame_ev (c : Cd) (hc : CdOk c) (m : Mc) (lg : Bool) (hd : Down m.bds) (hb : m.bds.length ≤ 500) (hv : m.vals.length ≤ 500) (f : Frm) : Ev pr (.call 112 [eM c m lg, .agg [i64 f.kind, i64 f.pl, i64 f.env, i64 f.val]] []) (.val (bl (frmB c m.bds m.vals.length f)) []) := by
  have gf := fits_ev c hc m lg hd hb f.pl f.env
  unfold frmB
  cases hfit : fitsB c m.bds f.pl f.env with
  | false =>
    rw [hfit] at gf
    rw [Bool.false_and]
    exact fF _ _ _ _ _ _ _ _ _ _ _ _ _ _ _ gf
  | true =>
    rw [hfit] at gf
    rw [Bool.true_and]
    simp only [fitsB, Bool.and_eq_true, decide_eq_true_eq] at hfit
    have hce := lkp_ce c f.pl hfit.1.1 hfit.1.2
    have hp1 : f.pl < ((c.cells.map Cell.ce).length : Int) := by simpa using hfit.1.2
    by_cases hk : (c.at_ f.pl).kind = f.kind
    · rw [decide_eq_true hk, Bool.true_and]
      by_cases k1 : f.kind = 4 ∨ f.kind = 5
      · rw [if_pos k1]
        have := fV _ _ _ _ _ _ _ _ _ _ _ _ _ _ f.val gf hfit.1.1 hp1 _ _ hce (by simpa using hv) hk (by unfold arity; omega) k1
        rw [show (decide (f.val ≥ -1) && decide (f.val ≤ ((m.vals.map Vl.ce).length : Int) - 1)) = decide (-1 ≤ f.val ∧ f.val < m.vals.length) by
          rw [Bool.eq_iff_iff]; simp; omega] at this
        exact this
      · rw [if_neg k1]
        by_cases k2 : f.kind = 6 ∨ f.kind = 7
        · rw [if_pos k2]
          exact fI _ _ _ _ _ _ _ _ _ _ _ _ _ _ _ gf hfit.1.1 hp1 _ _ hce hk (by unfold arity; omega) k2
        · rw [if_neg k2]
          exact fA _ _ _ _ _ _ _ _ _ _ _ _ _ _ _ gf hfit.1.1 hp1 _ _ hce hk (by unfold arity; omega)
    · rw [decide_eq_false hk, Bool.false_and]
      exact fK _ _ _ _ _ _ _ _ _ _ _ _ _ _ _ gf hfit.1.1 hp1 _ _ hce hk
theorem clo_ev (q : T) (k p e v : Int) (b : Bool) (g : Ev pr (.call 112 [.t q, .agg [i64 k, i64 p, i64 e, i64 v]] []) (.val (bl b) [])) : Ev pr (.call 111 [.agg [i64 k, i64 p, i64 e, i64 v], .t (.ptr [q] 0)] []) (.val (bl (!b)) []) := by
  exact .tp [.a (g)] (by kernel_rfl)
def ixS (q : T) (F : List (List T)) (i : Nat) (o : Out) : Prop :=
  Ev pr (.loop (lq pr 167 0) (at_ [(0, .t (.seq 4 F)), (1, .t (.clo 111 [.ptr [q] 0])), (7, i64 F.length), (8, i64 i)] [] 0)) o
def ixO (b : Bool) (k : Int) : Out := if b = true then .exit 0 (at_ [] [] 0) else .ret (at_ [(4, i64 k)] [] 0)
theorem ixEnd (q : T) (F : List (List T)) : ixS q F F.length (ixO true 0) := by
  rw [show ixO true 0 = .exit 0 (at_ [] [] 0) from rfl]
  unfold ixS
  let t0 : Tp pr := .b (show (decide ((↑F.length : Int) < (↑F.length : Int))) = false by simp)
  exact .tp [t0] (by kernel_rfl)
theorem ixNo (q : T) (F : List (List T)) (hF : F.length ≤ 500) (i : Nat) (hi : i < F.length) (k p e v : Int) (hl : F[i]? = some [.int .i64 k, .int .i64 p, .int .i64 e, .int .i64 v]) (g : Ev pr (.call 112 [.t q, .agg [i64 k, i64 p, i64 e, i64 v]] []) (.val (bl false) [])) : ixS q F i (ixO false i) := by
  have g2 := clo_ev q k p e v false g
  rw [show ixO false i = .ret (at_ [(4, i64 i)] [] 0) from rfl]
  clear g
  unfold ixS
  let t0 : Tp pr := .b (show (decide ((↑i : Int) < (↑F.length : Int))) = true by (simp; omega))
  let t1 : Tp pr := .g .row (show (lkp F (↑i : Int)) = some ([T.int IntKind.i64 k, T.int IntKind.i64 p, T.int IntKind.i64 e, T.int IntKind.i64 v]) from hl)
  exact .tp [t0, t1, .a (g2), .bT] (by kernel_rfl)
theorem ixGo (q : T) (F : List (List T)) (hF : F.length ≤ 500) (i : Nat) (hi : i < F.length) (k p e v : Int) (hl : F[i]? = some [.int .i64 k, .int .i64 p, .int .i64 e, .int .i64 v]) (g : Ev pr (.call 112 [.t q, .agg [i64 k, i64 p, i64 e, i64 v]] []) (.val (bl true) [])) (o : Out) (gl : ixS q F (i + 1) o) : ixS q F i o := by
  have g2 := clo_ev q k p e v true g
  clear g
  unfold ixS at *
  let t0 : Tp pr := .b (show (decide ((↑i : Int) < (↑F.length : Int))) = true by (simp; omega))
  let t1 : Tp pr := .g .row (show (lkp F (↑i : Int)) = some ([T.int IntKind.i64 k, T.int IntKind.i64 p, T.int IntKind.i64 e, T.int IntKind.i64 v]) from hl)
  let t4 : Tp pr := .i (wrap_i64 (a := (↑i : Int) + (1 : Int)) (by omega) (by omega))
  exact .tp [t0, t1, .a (g2), .bF, t4, .a (gl)] (by kernel_rfl)
theorem ixLoop (c : Cd) (hc : CdOk c) (m : Mc) (lg : Bool) (hd : Down m.bds) (hb : m.bds.length ≤ 500) (hv : m.vals.length ≤ 500) : ∀ (r a : List Frm), (a ++ r).length ≤ 500 →
    ∃ k : Nat, ixS (eMT c m lg) ((a ++ r).map Frm.ce) a.length (ixO (frsB c m.bds m.vals.length r) k)
  | [], a, h => ⟨0, by
    have := ixEnd (eMT c m lg) ((a ++ []).map Frm.ce)
    rw [List.length_map, List.append_nil] at this
    rw [List.append_nil]
    exact this⟩
  | f :: r, a, h => by
    have gf := frame_ev c hc m lg hd hb hv f
    rw [eM_T] at gf
    have hl : ((a ++ f :: r).map Frm.ce)[a.length]? = some [.int .i64 f.kind, .int .i64 f.pl, .int .i64 f.env, .int .i64 f.val] := by simp [Frm.ce]
    have hi : a.length < ((a ++ f :: r).map Frm.ce).length := by simp
    unfold frsB
    cases hfr : frmB c m.bds m.vals.length f with
    | false =>
      rw [hfr] at gf
      rw [Bool.false_and]
      exact ⟨a.length, ixNo _ _ (by simpa using h) _ hi _ _ _ _ hl gf⟩
    | true =>
      rw [hfr] at gf
      rw [Bool.true_and]
      obtain ⟨k, ih⟩ := ixLoop c hc m lg hd hb hv r (a ++ [f]) (by simpa using h)
      rw [List.append_assoc, List.singleton_append, List.length_append, List.length_singleton] at ih
      exact ⟨k, ixGo _ _ (by simpa using h) _ hi _ _ _ _ hl gf _ ih⟩
theorem cont_ev (q : T) (F : List (List T)) (hF : F.length ≤ 500) (b : Bool) (k : Nat) (g : ixS q F 0 (ixO b k)) : Ev pr (.call 110 [.t (.seq 4 F), .t (.clo 111 [.ptr [q] 0])] []) (.val (bl (!b)) []) := by
  have g2 : Ev pr (.call 167 [.t (.seq 4 F), .t (.clo 111 [.ptr [q] 0])] []) (.val (i64 (if b = true then -1 else k)) []) := by
    cases b with
    | true =>
      rw [show ixO true k = .exit 0 (at_ [] [] 0) from rfl] at g
      rw [if_pos rfl]
      unfold ixS at g
      exact .tp [.i (rfl : ((↑F.length : Int)) = _), .a (g)] (by kernel_rfl)
    | false =>
      rw [show ixO false k = .ret (at_ [(4, i64 k)] [] 0) from rfl] at g
      rw [if_neg (by simp)]
      unfold ixS at g
      exact .tp [.i (rfl : ((↑F.length : Int)) = _), .a (g)] (by kernel_rfl)
  clear g
  cases b with
  | true =>
    rw [if_pos rfl] at g2
    exact .tp [.a (g2)] (by kernel_rfl)
  | false =>
    rw [if_neg (by simp)] at g2
    exact .tp [.a (g2)] (by kernel_rfl)
end Go.Ev

namespace Go.Ev
set_option linter.unusedVariables false
set_option linter.unusedSimpArgs false
open Go.Proofs
set_option maxRecDepth 100000
set_option maxHeartbeats 4000000
section
variable (L St Bt : List (List T)) (d : Bool) (p0 e0 v0 : Int) (X Y Z : List (List T)) (lg : Bool)
def eCs : List T := [.seq 2 L, .seq 1 St, .seq 1 Bt, .bool d, .int .i64 p0, .int .i64 e0, .int .i64 v0, .seq 4 X, .seq 4 Y, .seq 2 Z, .bool lg]
def b0S (i : Nat) (o : Out) : Prop :=
  Ev pr (.loop (lq pr 56 0) (at_ [(1, .ptr 0 1 0 0), (3, .t (.ptr (eCs L St Bt d p0 e0 v0 X Y Z lg) 3)), (35, .t (.seq 2 Z)), (36, i64 Z.length), (37, i64 i)] [.box [.t (.ptr (eCs L St Bt d p0 e0 v0 X Y Z lg) 0)]] 0)) o
def b0O (b : Bool) : Out := if b = true then .exit 0 (at_ [(1, .ptr 0 1 0 0), (3, .t (.ptr (eCs L St Bt d p0 e0 v0 X Y Z lg) 3))] [.box [.t (.ptr (eCs L St Bt d p0 e0 v0 X Y Z lg) 0)]] 0) else .ret (at_ [(2, bl false)] [] 0)
theorem b0End : b0S L St Bt d p0 e0 v0 X Y Z lg Z.length (b0O L St Bt d p0 e0 v0 X Y Z lg true) := by
  rw [show b0O L St Bt d p0 e0 v0 X Y Z lg true = .exit 0 (at_ [(1, .ptr 0 1 0 0), (3, .t (.ptr (eCs L St Bt d p0 e0 v0 X Y Z lg) 3))] [.box [.t (.ptr (eCs L St Bt d p0 e0 v0 X Y Z lg) 0)]] 0) from rfl]
  unfold b0S eCs
  let t0 : Tp pr := .b (show (decide ((↑Z.length : Int) < (↑Z.length : Int))) = false by simp)
  exact .tp [t0] (by kernel_rfl)
variable (hY : Y.length ≤ 500) (hZ : Z.length ≤ 500) (i : Nat)
include hY hZ
theorem b0No1 (hi : i < Z.length) (a b : Int) (hl : Z[i]? = some [.int .i64 a, .int .i64 b]) (h : ¬ (0 ≤ a ∧ a < Y.length)) : b0S L St Bt d p0 e0 v0 X Y Z lg i (b0O L St Bt d p0 e0 v0 X Y Z lg false) := by
  have _hZ := hZ
  rw [show b0O L St Bt d p0 e0 v0 X Y Z lg false = .ret (at_ [(2, bl false)] [] 0) from rfl]
  have gw := within_ev a 0 ((Y.length : Int) - 1)
  rw [show (decide (a ≥ 0) && decide (a ≤ (Y.length : Int) - 1)) = false by simp; omega] at gw
  unfold b0S eCs
  let t0 : Tp pr := .b (show (decide ((↑i : Int) < (↑Z.length : Int))) = true by (simp; omega))
  let t1 : Tp pr := .g .row (show (lkp Z (↑i : Int)) = some ([T.int IntKind.i64 a, T.int IntKind.i64 b]) from hl)
  let t10 : Tp pr := .i (wrap_i64 (a := (↑Y.length : Int) - (1 : Int)) (by omega) (by omega))
  exact .tp [t0, t1, .mT, .mT, .mT, .mT, .mT, .mT, .i (rfl : ((↑Y.length : Int)) = _), .mT, t10, .mT, .a (gw), .mT, .mT, .mT, .bT, .mT, .mT, .mT, .mT, .mT, .mT, .mT, .bT] (by kernel_rfl)
theorem b0No2 (hi : i < Z.length) (a b : Int) (hl : Z[i]? = some [.int .i64 a, .int .i64 b]) (h : 0 ≤ a ∧ a < Y.length) (h2 : ¬ (-1 ≤ b ∧ b < i)) : b0S L St Bt d p0 e0 v0 X Y Z lg i (b0O L St Bt d p0 e0 v0 X Y Z lg false) := by
  rw [show b0O L St Bt d p0 e0 v0 X Y Z lg false = .ret (at_ [(2, bl false)] [] 0) from rfl]
  have gw := within_ev a 0 ((Y.length : Int) - 1)
  rw [show (decide (a ≥ 0) && decide (a ≤ (Y.length : Int) - 1)) = true by simp; omega] at gw
  have gw2 := within_ev b (-1) ((i : Int) - 1)
  rw [show (decide (b ≥ -1) && decide (b ≤ (i : Int) - 1)) = false by simp; omega] at gw2
  unfold b0S eCs
  let t0 : Tp pr := .b (show (decide ((↑i : Int) < (↑Z.length : Int))) = true by (simp; omega))
  let t1 : Tp pr := .g .row (show (lkp Z (↑i : Int)) = some ([T.int IntKind.i64 a, T.int IntKind.i64 b]) from hl)
  let t10 : Tp pr := .i (wrap_i64 (a := (↑Y.length : Int) - (1 : Int)) (by omega) (by omega))
  let t20 : Tp pr := .i (wrap_i64 (a := (↑i : Int) - (1 : Int)) (by omega) (by omega))
  exact .tp [t0, t1, .mT, .mT, .mT, .mT, .mT, .mT, .i (rfl : ((↑Y.length : Int)) = _), .mT, t10, .mT, .a (gw), .mT, .mT, .mT, .bF, .mT, .mT, .mT, t20, .mT, .a (gw2), .mT, .mT, .mT, .bT] (by kernel_rfl)
theorem b0Go (hi : i < Z.length) (a b : Int) (hl : Z[i]? = some [.int .i64 a, .int .i64 b]) (h : 0 ≤ a ∧ a < Y.length) (h2 : -1 ≤ b ∧ b < i) (o : Out) (g : b0S L St Bt d p0 e0 v0 X Y Z lg (i + 1) o) : b0S L St Bt d p0 e0 v0 X Y Z lg i o := by
  have gw := within_ev a 0 ((Y.length : Int) - 1)
  rw [show (decide (a ≥ 0) && decide (a ≤ (Y.length : Int) - 1)) = true by simp; omega] at gw
  have gw2 := within_ev b (-1) ((i : Int) - 1)
  rw [show (decide (b ≥ -1) && decide (b ≤ (i : Int) - 1)) = true by simp; omega] at gw2
  unfold b0S eCs at *
  let t0 : Tp pr := .b (show (decide ((↑i : Int) < (↑Z.length : Int))) = true by (simp; omega))
  let t1 : Tp pr := .g .row (show (lkp Z (↑i : Int)) = some ([T.int IntKind.i64 a, T.int IntKind.i64 b]) from hl)
  let t10 : Tp pr := .i (wrap_i64 (a := (↑Y.length : Int) - (1 : Int)) (by omega) (by omega))
  let t20 : Tp pr := .i (wrap_i64 (a := (↑i : Int) - (1 : Int)) (by omega) (by omega))
  let t27 : Tp pr := .i (wrap_i64 (a := (↑i : Int) + (1 : Int)) (by omega) (by omega))
  exact .tp [t0, t1, .mT, .mT, .mT, .mT, .mT, .mT, .i (rfl : ((↑Y.length : Int)) = _), .mT, t10, .mT, .a (gw), .mT, .mT, .mT, .bF, .mT, .mT, .mT, t20, .mT, .a (gw2), .mT, .mT, .mT, .bF, t27, .a (g)] (by kernel_rfl)
end
theorem b0Loop (L St Bt : List (List T)) (d : Bool) (p0 e0 v0 : Int) (X Y : List (List T)) (hY : Y.length ≤ 500) (bs : List Bd) (hb : bs.length ≤ 500) (lg : Bool) : ∀ (r a : List Bd), bs = a ++ r →
    b0S L St Bt d p0 e0 v0 X Y (bs.map Bd.ce) lg a.length (b0O L St Bt d p0 e0 v0 X Y (bs.map Bd.ce) lg (bdsB Y.length a.length r))
  | [], a, h => by
    have := b0End L St Bt d p0 e0 v0 X Y (bs.map Bd.ce) lg
    rw [h, List.length_map, List.append_nil] at this
    rw [h, List.append_nil]
    exact this
  | b :: r, a, h => by
    have hZ : (bs.map Bd.ce).length ≤ 500 := by simpa using hb
    have hi : a.length < (bs.map Bd.ce).length := by rw [h]; simp
    have hl : (bs.map Bd.ce)[a.length]? = some [.int .i64 b.val, .int .i64 b.up] := by rw [h]; simp [Bd.ce]
    unfold bdsB bdB
    by_cases h1 : 0 ≤ b.val ∧ b.val < Y.length
    · by_cases h2 : -1 ≤ b.up ∧ b.up < a.length
      · rw [decide_eq_true h1, decide_eq_true h2, Bool.true_and, Bool.true_and]
        have ih := b0Loop L St Bt d p0 e0 v0 X Y hY bs hb lg r (a ++ [b]) (by rw [h]; simp)
        rw [List.length_append, List.length_singleton] at ih
        exact b0Go _ _ _ _ _ _ _ _ _ _ _ hY hZ _ hi _ _ hl h1 h2 _ ih
      · rw [decide_eq_false h2, Bool.and_false, Bool.false_and]
        exact b0No2 _ _ _ _ _ _ _ _ _ _ _ hY hZ _ hi _ _ hl h1 h2
    · rw [decide_eq_false h1, Bool.false_and, Bool.false_and]
      exact b0No1 _ _ _ _ _ _ _ _ _ _ _ hY hZ _ hi _ _ hl h1
section
variable (L St Bt : List (List T)) (d : Bool) (p0 e0 v0 : Int) (X Y Z : List (List T)) (lg : Bool)
def b1S (n i : Nat) (o : Out) : Prop :=
  Ev pr (.loop (lq pr 56 1) (at_ [(1, .ptr 0 1 0 0), (3, .t (.ptr (eCs L St Bt d p0 e0 v0 X Y Z lg) 3)), (65, i64 n), (66, i64 i)] [.box [.t (.ptr (eCs L St Bt d p0 e0 v0 X Y Z lg) 0)]] 0)) o
def b1O (b : Bool) : Out := if b = true then .exit 2 (at_ [(1, .ptr 0 1 0 0), (3, .t (.ptr (eCs L St Bt d p0 e0 v0 X Y Z lg) 3))] [.box [.t (.ptr (eCs L St Bt d p0 e0 v0 X Y Z lg) 0)]] 0) else .ret (at_ [(2, bl false)] [] 0)
theorem b1End (n : Nat) (hn : n ≤ 500) : b1S L St Bt d p0 e0 v0 X Y Z lg n n (b1O L St Bt d p0 e0 v0 X Y Z lg true) := by
  rw [show b1O L St Bt d p0 e0 v0 X Y Z lg true = .exit 2 (at_ [(1, .ptr 0 1 0 0), (3, .t (.ptr (eCs L St Bt d p0 e0 v0 X Y Z lg) 3))] [.box [.t (.ptr (eCs L St Bt d p0 e0 v0 X Y Z lg) 0)]] 0) from rfl]
  unfold b1S eCs
  let t0 : Tp pr := .b (show (decide ((↑n : Int) < (↑n : Int))) = false by simp)
  exact .tp [t0] (by kernel_rfl)
theorem b1No (n i : Nat) (hn : n ≤ 500) (hi : i < n) (g : Ev pr (.call 109 [eTr L St Bt d p0 e0 v0 X Y Z lg, i64 i] []) (.val (bl false) [])) : b1S L St Bt d p0 e0 v0 X Y Z lg n i (b1O L St Bt d p0 e0 v0 X Y Z lg false) := by
  rw [show b1O L St Bt d p0 e0 v0 X Y Z lg false = .ret (at_ [(2, bl false)] [] 0) from rfl]
  unfold b1S eCs eTr at *
  let t0 : Tp pr := .b (show (decide ((↑i : Int) < (↑n : Int))) = true by (simp; omega))
  exact .tp [t0, .a (g), .bT] (by kernel_rfl)
theorem b1Go (n i : Nat) (hn : n ≤ 500) (hi : i < n) (g : Ev pr (.call 109 [eTr L St Bt d p0 e0 v0 X Y Z lg, i64 i] []) (.val (bl true) [])) (o : Out) (gl : b1S L St Bt d p0 e0 v0 X Y Z lg n (i + 1) o) : b1S L St Bt d p0 e0 v0 X Y Z lg n i o := by
  unfold b1S eCs eTr at *
  let t0 : Tp pr := .b (show (decide ((↑i : Int) < (↑n : Int))) = true by (simp; omega))
  let t3 : Tp pr := .i (wrap_i64 (a := (↑i : Int) + (1 : Int)) (by omega) (by omega))
  exact .tp [t0, .a (g), .bF, t3, .a (gl)] (by kernel_rfl)
end
theorem b1Loop (c : Cd) (hc : CdOk c) (m : Mc) (lg : Bool) (hd : Down m.bds) (hb : m.bds.length ≤ 500) (hv : m.vals.length ≤ 500) : ∀ (r a : List Vl), m.vals = a ++ r →
    b1S (c.cells.map Cell.ce) (c.sizes.map intt) (c.bounds.map intt) m.done m.pl m.env m.val (m.frs.reverse.map Frm.ce) (m.vals.map Vl.ce) (m.bds.map Bd.ce) lg m.vals.length a.length (b1O (c.cells.map Cell.ce) (c.sizes.map intt) (c.bounds.map intt) m.done m.pl m.env m.val (m.frs.reverse.map Frm.ce) (m.vals.map Vl.ce) (m.bds.map Bd.ce) lg (vlsB c m.bds a.length r))
  | [], a, h => by
    have := b1End (c.cells.map Cell.ce) (c.sizes.map intt) (c.bounds.map intt) m.done m.pl m.env m.val (m.frs.reverse.map Frm.ce) (m.vals.map Vl.ce) (m.bds.map Bd.ce) lg m.vals.length hv
    rw [List.append_nil] at h
    rw [← h]
    exact this
  | w :: r, a, h => by
    have hi : a.length < m.vals.length := by rw [h]; simp
    have g := value_ev c hc m lg hd hb a.length w (by rw [h]; simp)
    unfold vlsB
    cases hw : vlB c m.bds a.length w with
    | false =>
      rw [hw] at g
      rw [Bool.false_and]
      exact b1No _ _ _ _ _ _ _ _ _ _ _ _ _ hv hi g
    | true =>
      rw [hw] at g
      rw [Bool.true_and]
      have ih := b1Loop c hc m lg hd hb hv r (a ++ [w]) (by rw [h]; simp)
      rw [List.length_append, List.length_singleton] at ih
      exact b1Go _ _ _ _ _ _ _ _ _ _ _ _ _ hv hi g _ ih
section
variable (L St Bt : List (List T)) (d : Bool) (p0 e0 v0 : Int) (X Y Z : List (List T)) (lg : Bool)
theorem gdLong (hX0 : X.length ≤ 1048576) (hY0 : Y.length ≤ 1048576) (hZ0 : Z.length ≤ 1048576) (h : ¬ (Y.length ≤ 500 ∧ Z.length ≤ 500 ∧ X.length ≤ 500)) : Ev pr (.call 56 [eTr L St Bt d p0 e0 v0 X Y Z lg] []) (.val (bl false) []) := by
  unfold eTr
  by_cases h1 : Y.length ≤ 500
  · by_cases h2 : Z.length ≤ 500
    · have h3 : ¬ X.length ≤ 500 := by omega
      clear h
      let t1 : Tp pr := .b (show (decide ((↑Y.length : Int) > (500 : Int))) = false by (simp; omega))
      let t3 : Tp pr := .b (show (decide ((↑Z.length : Int) > (500 : Int))) = false by (simp; omega))
      let t5 : Tp pr := .b (show (decide ((↑X.length : Int) > (500 : Int))) = true by (simp; omega))
      exact .tp [.i (rfl : ((↑Y.length : Int)) = _), t1, .i (rfl : ((↑Z.length : Int)) = _), t3, .i (rfl : ((↑X.length : Int)) = _), t5] (by kernel_rfl)
    · clear h
      let t1 : Tp pr := .b (show (decide ((↑Y.length : Int) > (500 : Int))) = false by (simp; omega))
      let t3 : Tp pr := .b (show (decide ((↑Z.length : Int) > (500 : Int))) = true by (simp; omega))
      exact .tp [.i (rfl : ((↑Y.length : Int)) = _), t1, .i (rfl : ((↑Z.length : Int)) = _), t3, .bT] (by kernel_rfl)
  · clear h
    let t1 : Tp pr := .b (show (decide ((↑Y.length : Int) > (500 : Int))) = true by (simp; omega))
    exact .tp [.i (rfl : ((↑Y.length : Int)) = _), t1, .bT, .bT] (by kernel_rfl)
variable (hX : X.length ≤ 500) (hY : Y.length ≤ 500) (hZ : Z.length ≤ 500)
include hX hY hZ
theorem gdB (g : b0S L St Bt d p0 e0 v0 X Y Z lg 0 (b0O L St Bt d p0 e0 v0 X Y Z lg false)) : Ev pr (.call 56 [eTr L St Bt d p0 e0 v0 X Y Z lg] []) (.val (bl false) []) := by
  rw [show b0O L St Bt d p0 e0 v0 X Y Z lg false = .ret (at_ [(2, bl false)] [] 0) from rfl] at g
  unfold eTr b0S eCs at *
  let t1 : Tp pr := .b (show (decide ((↑Y.length : Int) > (500 : Int))) = false by (simp; omega))
  let t3 : Tp pr := .b (show (decide ((↑Z.length : Int) > (500 : Int))) = false by (simp; omega))
  let t5 : Tp pr := .b (show (decide ((↑X.length : Int) > (500 : Int))) = false by (simp; omega))
  exact .tp [.i (rfl : ((↑Y.length : Int)) = _), t1, .i (rfl : ((↑Z.length : Int)) = _), t3, .i (rfl : ((↑X.length : Int)) = _), t5, .i (rfl : ((↑Z.length : Int)) = _), .a (g)] (by kernel_rfl)
variable (g : b0S L St Bt d p0 e0 v0 X Y Z lg 0 (b0O L St Bt d p0 e0 v0 X Y Z lg true))
include g
theorem gdV (g1 : b1S L St Bt d p0 e0 v0 X Y Z lg Y.length 0 (b1O L St Bt d p0 e0 v0 X Y Z lg false)) : Ev pr (.call 56 [eTr L St Bt d p0 e0 v0 X Y Z lg] []) (.val (bl false) []) := by
  rw [show b0O L St Bt d p0 e0 v0 X Y Z lg true = .exit 0 (at_ [(1, .ptr 0 1 0 0), (3, .t (.ptr (eCs L St Bt d p0 e0 v0 X Y Z lg) 3))] [.box [.t (.ptr (eCs L St Bt d p0 e0 v0 X Y Z lg) 0)]] 0) from rfl] at g
  rw [show b1O L St Bt d p0 e0 v0 X Y Z lg false = .ret (at_ [(2, bl false)] [] 0) from rfl] at g1
  unfold eTr b0S b1S eCs at *
  let t1 : Tp pr := .b (show (decide ((↑Y.length : Int) > (500 : Int))) = false by (simp; omega))
  let t3 : Tp pr := .b (show (decide ((↑Z.length : Int) > (500 : Int))) = false by (simp; omega))
  let t5 : Tp pr := .b (show (decide ((↑X.length : Int) > (500 : Int))) = false by (simp; omega))
  exact .tp [.i (rfl : ((↑Y.length : Int)) = _), t1, .i (rfl : ((↑Z.length : Int)) = _), t3, .i (rfl : ((↑X.length : Int)) = _), t5, .i (rfl : ((↑Z.length : Int)) = _), .a (g), .i (rfl : ((↑Y.length : Int)) = _), .a (g1)] (by kernel_rfl)
variable (g1 : b1S L St Bt d p0 e0 v0 X Y Z lg Y.length 0 (b1O L St Bt d p0 e0 v0 X Y Z lg true))
include g1
theorem gdF (g2 : Ev pr (.call 110 [.t (.seq 4 X), .t (.clo 111 [.ptr [.ptr (eCs L St Bt d p0 e0 v0 X Y Z lg) 0] 0])] []) (.val (bl true) [])) : Ev pr (.call 56 [eTr L St Bt d p0 e0 v0 X Y Z lg] []) (.val (bl false) []) := by
  rw [show b0O L St Bt d p0 e0 v0 X Y Z lg true = .exit 0 (at_ [(1, .ptr 0 1 0 0), (3, .t (.ptr (eCs L St Bt d p0 e0 v0 X Y Z lg) 3))] [.box [.t (.ptr (eCs L St Bt d p0 e0 v0 X Y Z lg) 0)]] 0) from rfl] at g
  rw [show b1O L St Bt d p0 e0 v0 X Y Z lg true = .exit 2 (at_ [(1, .ptr 0 1 0 0), (3, .t (.ptr (eCs L St Bt d p0 e0 v0 X Y Z lg) 3))] [.box [.t (.ptr (eCs L St Bt d p0 e0 v0 X Y Z lg) 0)]] 0) from rfl] at g1
  unfold eTr b0S b1S eCs at *
  let t1 : Tp pr := .b (show (decide ((↑Y.length : Int) > (500 : Int))) = false by (simp; omega))
  let t3 : Tp pr := .b (show (decide ((↑Z.length : Int) > (500 : Int))) = false by (simp; omega))
  let t5 : Tp pr := .b (show (decide ((↑X.length : Int) > (500 : Int))) = false by (simp; omega))
  exact .tp [.i (rfl : ((↑Y.length : Int)) = _), t1, .i (rfl : ((↑Z.length : Int)) = _), t3, .i (rfl : ((↑X.length : Int)) = _), t5, .i (rfl : ((↑Z.length : Int)) = _), .a (g), .i (rfl : ((↑Y.length : Int)) = _), .a (g1), .a (g2), .mT, .bT] (by kernel_rfl)
variable (g2 : Ev pr (.call 110 [.t (.seq 4 X), .t (.clo 111 [.ptr [.ptr (eCs L St Bt d p0 e0 v0 X Y Z lg) 0] 0])] []) (.val (bl false) []))
include g2
theorem gdT (hd : d = false) (h : v0 = -1) (b : Bool) (g3 : Ev pr (.call 113 [eTr L St Bt d p0 e0 v0 X Y Z lg, i64 p0, i64 e0] []) (.val (bl b) [])) : Ev pr (.call 56 [eTr L St Bt d p0 e0 v0 X Y Z lg] []) (.val (bl b) []) := by
  subst hd h
  rw [show b0O L St Bt false p0 e0 (-1) X Y Z lg true = .exit 0 (at_ [(1, .ptr 0 1 0 0), (3, .t (.ptr (eCs L St Bt false p0 e0 (-1) X Y Z lg) 3))] [.box [.t (.ptr (eCs L St Bt false p0 e0 (-1) X Y Z lg) 0)]] 0) from rfl] at g
  rw [show b1O L St Bt false p0 e0 (-1) X Y Z lg true = .exit 2 (at_ [(1, .ptr 0 1 0 0), (3, .t (.ptr (eCs L St Bt false p0 e0 (-1) X Y Z lg) 3))] [.box [.t (.ptr (eCs L St Bt false p0 e0 (-1) X Y Z lg) 0)]] 0) from rfl] at g1
  unfold eTr b0S b1S eCs at *
  let t1 : Tp pr := .b (show (decide ((↑Y.length : Int) > (500 : Int))) = false by (simp; omega))
  let t3 : Tp pr := .b (show (decide ((↑Z.length : Int) > (500 : Int))) = false by (simp; omega))
  let t5 : Tp pr := .b (show (decide ((↑X.length : Int) > (500 : Int))) = false by (simp; omega))
  exact .tp [.i (rfl : ((↑Y.length : Int)) = _), t1, .i (rfl : ((↑Z.length : Int)) = _), t3, .i (rfl : ((↑X.length : Int)) = _), t5, .i (rfl : ((↑Z.length : Int)) = _), .a (g), .i (rfl : ((↑Y.length : Int)) = _), .a (g1), .a (g2), .mT, .bF, .bF, .mT, .mT, .mT, .mT, .mT, .mT, .bT, .mT, .mT, .mT, .mT, .mT, .mT, .mT, .mT, .mT, .a (g3), .mT, .mT, .mT] (by kernel_rfl)
theorem gdT2 (hd : d = false) (h : ¬ v0 = -1) : Ev pr (.call 56 [eTr L St Bt d p0 e0 v0 X Y Z lg] []) (.val (bl false) []) := by
  subst hd
  rw [show b0O L St Bt false p0 e0 v0 X Y Z lg true = .exit 0 (at_ [(1, .ptr 0 1 0 0), (3, .t (.ptr (eCs L St Bt false p0 e0 v0 X Y Z lg) 3))] [.box [.t (.ptr (eCs L St Bt false p0 e0 v0 X Y Z lg) 0)]] 0) from rfl] at g
  rw [show b1O L St Bt false p0 e0 v0 X Y Z lg true = .exit 2 (at_ [(1, .ptr 0 1 0 0), (3, .t (.ptr (eCs L St Bt false p0 e0 v0 X Y Z lg) 3))] [.box [.t (.ptr (eCs L St Bt false p0 e0 v0 X Y Z lg) 0)]] 0) from rfl] at g1
  unfold eTr b0S b1S eCs at *
  let t1 : Tp pr := .b (show (decide ((↑Y.length : Int) > (500 : Int))) = false by (simp; omega))
  let t3 : Tp pr := .b (show (decide ((↑Z.length : Int) > (500 : Int))) = false by (simp; omega))
  let t5 : Tp pr := .b (show (decide ((↑X.length : Int) > (500 : Int))) = false by (simp; omega))
  let t20 : Tp pr := .b (show (decide (v0 = (-1 : Int))) = false by (simp; omega))
  exact .tp [.i (rfl : ((↑Y.length : Int)) = _), t1, .i (rfl : ((↑Z.length : Int)) = _), t3, .i (rfl : ((↑X.length : Int)) = _), t5, .i (rfl : ((↑Z.length : Int)) = _), .a (g), .i (rfl : ((↑Y.length : Int)) = _), .a (g1), .a (g2), .mT, .bF, .bF, .mT, .mT, .mT, .mT, .mT, .mT, t20, .mT, .mT, .mT, .mT, .mT, .mT, .mT, .mT, .mT, .mT, .mT, .mT] (by kernel_rfl)
theorem gdD1 (hd : d = true) (h : ¬ p0 = -1) : Ev pr (.call 56 [eTr L St Bt d p0 e0 v0 X Y Z lg] []) (.val (bl false) []) := by
  subst hd
  rw [show b0O L St Bt true p0 e0 v0 X Y Z lg true = .exit 0 (at_ [(1, .ptr 0 1 0 0), (3, .t (.ptr (eCs L St Bt true p0 e0 v0 X Y Z lg) 3))] [.box [.t (.ptr (eCs L St Bt true p0 e0 v0 X Y Z lg) 0)]] 0) from rfl] at g
  rw [show b1O L St Bt true p0 e0 v0 X Y Z lg true = .exit 2 (at_ [(1, .ptr 0 1 0 0), (3, .t (.ptr (eCs L St Bt true p0 e0 v0 X Y Z lg) 3))] [.box [.t (.ptr (eCs L St Bt true p0 e0 v0 X Y Z lg) 0)]] 0) from rfl] at g1
  unfold eTr b0S b1S eCs at *
  let t1 : Tp pr := .b (show (decide ((↑Y.length : Int) > (500 : Int))) = false by (simp; omega))
  let t3 : Tp pr := .b (show (decide ((↑Z.length : Int) > (500 : Int))) = false by (simp; omega))
  let t5 : Tp pr := .b (show (decide ((↑X.length : Int) > (500 : Int))) = false by (simp; omega))
  let t20 : Tp pr := .b (show (decide (p0 = (-1 : Int))) = false by (simp; omega))
  exact .tp [.i (rfl : ((↑Y.length : Int)) = _), t1, .i (rfl : ((↑Z.length : Int)) = _), t3, .i (rfl : ((↑X.length : Int)) = _), t5, .i (rfl : ((↑Z.length : Int)) = _), .a (g), .i (rfl : ((↑Y.length : Int)) = _), .a (g1), .a (g2), .mT, .bF, .bT, .mT, .mT, .mT, .mT, .mT, .mT, t20, .mT, .mT, .mT, .mT, .mT, .mT, .mT, .bF, .mT, .mT, .mT, .mT, .mT, .mT, .mT, .mT, .mT, .mT, .mT, .mT, .mT] (by kernel_rfl)
theorem gdD2 (hd : d = true) (hp : p0 = -1) (h : ¬ e0 = -1) : Ev pr (.call 56 [eTr L St Bt d p0 e0 v0 X Y Z lg] []) (.val (bl false) []) := by
  subst hd hp
  rw [show b0O L St Bt true (-1) e0 v0 X Y Z lg true = .exit 0 (at_ [(1, .ptr 0 1 0 0), (3, .t (.ptr (eCs L St Bt true (-1) e0 v0 X Y Z lg) 3))] [.box [.t (.ptr (eCs L St Bt true (-1) e0 v0 X Y Z lg) 0)]] 0) from rfl] at g
  rw [show b1O L St Bt true (-1) e0 v0 X Y Z lg true = .exit 2 (at_ [(1, .ptr 0 1 0 0), (3, .t (.ptr (eCs L St Bt true (-1) e0 v0 X Y Z lg) 3))] [.box [.t (.ptr (eCs L St Bt true (-1) e0 v0 X Y Z lg) 0)]] 0) from rfl] at g1
  unfold eTr b0S b1S eCs at *
  let t1 : Tp pr := .b (show (decide ((↑Y.length : Int) > (500 : Int))) = false by (simp; omega))
  let t3 : Tp pr := .b (show (decide ((↑Z.length : Int) > (500 : Int))) = false by (simp; omega))
  let t5 : Tp pr := .b (show (decide ((↑X.length : Int) > (500 : Int))) = false by (simp; omega))
  let t28 : Tp pr := .b (show (decide (e0 = (-1 : Int))) = false by (simp; omega))
  exact .tp [.i (rfl : ((↑Y.length : Int)) = _), t1, .i (rfl : ((↑Z.length : Int)) = _), t3, .i (rfl : ((↑X.length : Int)) = _), t5, .i (rfl : ((↑Z.length : Int)) = _), .a (g), .i (rfl : ((↑Y.length : Int)) = _), .a (g1), .a (g2), .mT, .bF, .bT, .mT, .mT, .mT, .mT, .mT, .mT, .bT, .mT, .mT, .mT, .mT, .mT, .mT, .mT, t28, .mT, .mT, .mT, .mT, .mT, .mT, .mT, .mT, .mT, .mT, .mT, .mT, .mT] (by kernel_rfl)
theorem gdD3 (hd : d = true) (hp : p0 = -1) (he : e0 = -1) : Ev pr (.call 56 [eTr L St Bt d p0 e0 v0 X Y Z lg] []) (.val (bl (decide (v0 ≥ 0) && decide (v0 ≤ (Y.length : Int) - 1))) []) := by
  subst hd hp he
  have gw := within_ev v0 0 ((Y.length : Int) - 1)
  generalize (decide (v0 ≥ 0) && decide (v0 ≤ (Y.length : Int) - 1)) = bb at *
  rw [show b0O L St Bt true (-1) (-1) v0 X Y Z lg true = .exit 0 (at_ [(1, .ptr 0 1 0 0), (3, .t (.ptr (eCs L St Bt true (-1) (-1) v0 X Y Z lg) 3))] [.box [.t (.ptr (eCs L St Bt true (-1) (-1) v0 X Y Z lg) 0)]] 0) from rfl] at g
  rw [show b1O L St Bt true (-1) (-1) v0 X Y Z lg true = .exit 2 (at_ [(1, .ptr 0 1 0 0), (3, .t (.ptr (eCs L St Bt true (-1) (-1) v0 X Y Z lg) 3))] [.box [.t (.ptr (eCs L St Bt true (-1) (-1) v0 X Y Z lg) 0)]] 0) from rfl] at g1
  unfold eTr b0S b1S eCs at *
  let t1 : Tp pr := .b (show (decide ((↑Y.length : Int) > (500 : Int))) = false by (simp; omega))
  let t3 : Tp pr := .b (show (decide ((↑Z.length : Int) > (500 : Int))) = false by (simp; omega))
  let t5 : Tp pr := .b (show (decide ((↑X.length : Int) > (500 : Int))) = false by (simp; omega))
  let t39 : Tp pr := .i (wrap_i64 (a := (↑Y.length : Int) - (1 : Int)) (by omega) (by omega))
  exact .tp [.i (rfl : ((↑Y.length : Int)) = _), t1, .i (rfl : ((↑Z.length : Int)) = _), t3, .i (rfl : ((↑X.length : Int)) = _), t5, .i (rfl : ((↑Z.length : Int)) = _), .a (g), .i (rfl : ((↑Y.length : Int)) = _), .a (g1), .a (g2), .mT, .bF, .bT, .mT, .mT, .mT, .mT, .mT, .mT, .bT, .mT, .mT, .mT, .mT, .mT, .mT, .mT, .bT, .mT, .mT, .mT, .mT, .mT, .mT, .mT, .mT, .i (rfl : ((↑Y.length : Int)) = _), .mT, t39, .mT, .a (gw), .mT, .mT, .mT] (by kernel_rfl)
end
end Go.Ev

namespace Go.Ev
set_option linter.unusedVariables false
set_option linter.unusedSimpArgs false
open Go.Proofs
set_option maxRecDepth 100000
set_option maxHeartbeats 4000000
theorem good_ev (c : Cd) (hc : CdOk c) (m : Mc) (lg : Bool) (hF : m.frs.length ≤ 1048576) (hV : m.vals.length ≤ 1048576) (hB : m.bds.length ≤ 1048576) : Ev pr (.call 56 [eM c m lg] []) (.val (bl (goodB c m)) []) := by
  unfold goodB
  by_cases hl : m.vals.length ≤ 500 ∧ m.bds.length ≤ 500 ∧ m.frs.length ≤ 500
  · rw [decide_eq_true hl, Bool.true_and]
    obtain ⟨lv, lb, lf⟩ := hl
    have x1 : (m.frs.reverse.map Frm.ce).length ≤ 500 := by simpa using lf
    have x2 : (m.vals.map Vl.ce).length ≤ 500 := by simpa using lv
    have x3 : (m.bds.map Bd.ce).length ≤ 500 := by simpa using lb
    have g0 := b0Loop (c.cells.map Cell.ce) (c.sizes.map intt) (c.bounds.map intt) m.done m.pl m.env m.val (m.frs.reverse.map Frm.ce) (m.vals.map Vl.ce) x2 m.bds lb lg m.bds [] rfl
    rw [List.length_nil, List.length_map] at g0
    cases hbd : bdsB m.vals.length 0 m.bds with
    | false =>
      rw [hbd] at g0
      rw [Bool.false_and]
      exact gdB _ _ _ _ _ _ _ _ _ _ _ x1 x2 x3 g0
    | true =>
      rw [hbd] at g0
      rw [Bool.true_and]
      have hd := down_of hbd
      have g1 := b1Loop c hc m lg hd lb lv m.vals [] rfl
      rw [List.length_nil] at g1
      have hvl : m.vals.length = (m.vals.map Vl.ce).length := by simp
      cases hvs : vlsB c m.bds 0 m.vals with
      | false =>
        rw [hvs] at g1
        rw [Bool.false_and]
        exact gdV _ _ _ _ _ _ _ _ _ _ _ x1 x2 x3 g0 (by rw [← hvl]; exact g1)
      | true =>
        rw [hvs] at g1
        rw [Bool.true_and]
        have g1' := g1
        rw [hvl] at g1'
        obtain ⟨k, gx⟩ := ixLoop c hc m lg hd lb lv m.frs.reverse [] (by simpa using lf)
        have g2 := cont_ev _ _ x1 _ _ gx
        cases hfs : frsB c m.bds m.vals.length m.frs.reverse with
        | false =>
          rw [hfs] at g2
          rw [Bool.false_and]
          exact gdF _ _ _ _ _ _ _ _ _ _ _ x1 x2 x3 g0 g1' g2
        | true =>
          rw [hfs] at g2
          rw [Bool.true_and]
          unfold endB
          cases hdn : m.done with
          | false =>
            rw [if_neg (by simp)]
            by_cases hv1 : m.val = -1
            · rw [decide_eq_true hv1, Bool.true_and]
              have := gdT _ _ _ _ _ _ _ _ _ _ _ x1 x2 x3 g0 g1' g2 hdn hv1 _ (fits_ev c hc m lg hd lb m.pl m.env)
              exact this
            · rw [decide_eq_false hv1, Bool.false_and]
              exact gdT2 _ _ _ _ _ _ _ _ _ _ _ x1 x2 x3 g0 g1' g2 hdn hv1
          | true =>
            rw [if_pos rfl]
            by_cases hp1 : m.pl = -1
            · by_cases he1 : m.env = -1
              · rw [decide_eq_true hp1, decide_eq_true he1, Bool.true_and, Bool.true_and]
                have := gdD3 _ _ _ _ _ _ _ _ _ _ _ x1 x2 x3 g0 g1' g2 hdn hp1 he1
                rw [show (decide (m.val ≥ 0) && decide (m.val ≤ ((m.vals.map Vl.ce).length : Int) - 1)) = decide (0 ≤ m.val ∧ m.val < m.vals.length) by
                  rw [Bool.eq_iff_iff]; simp; omega] at this
                exact this
              · rw [decide_eq_false he1, Bool.false_and, Bool.and_false]
                exact gdD2 _ _ _ _ _ _ _ _ _ _ _ x1 x2 x3 g0 g1' g2 hdn hp1 he1
            · rw [decide_eq_false hp1, Bool.false_and]
              exact gdD1 _ _ _ _ _ _ _ _ _ _ _ x1 x2 x3 g0 g1' g2 hdn hp1
  · rw [decide_eq_false hl, Bool.false_and]
    exact gdLong _ _ _ _ _ _ _ _ _ _ _ (by simpa using hF) (by simpa using hV) (by simpa using hB) (by simpa using hl)
theorem gm_nil (L : List (List T)) (mv : V) (d : Bool) (p e v : Int) (X Y Z : List (List T)) (g : Ev pr (.call 46 [.t (.seq 2 L)] []) (.val (.t .nilp) [])) : Ev pr (.call 13 [.t (.seq 2 L), mF d p e v X Y Z] []) (.val (bl false) []) := by
  unfold mF
  exact .tp [.a (g), .bT] (by kernel_rfl)
theorem gm_ok (cells : List Cell) (S B : List Int) (hS : S.length = cells.length) (hB : B.length = cells.length) (d : Bool) (p e v : Int) (X Y Z : List (List T)) (g : Ev pr (.call 46 [.t (.seq 2 (cells.map Cell.ce))] []) (.val (.ptr 0 1 0 0) (mB cells S B)))
    (b : Bool) (g2 : Ev pr (.call 56 [eTr (cells.map Cell.ce) (List.take cells.length (S.map intt)) (List.take cells.length (B.map intt)) d p e v X Y Z false] []) (.val (bl b) [])) :
    Ev pr (.call 13 [.t (.seq 2 (cells.map Cell.ce)), mF d p e v X Y Z] []) (.val (bl b) []) := by
  unfold mF mB eTr at *
  rw [hS, hB] at g
  let t2 : Tp pr := .m (show (decide ((ints S).length = cells.length ∧ (0 : Nat) + cells.length ≤ cells.length)) = true by simp [*])
  let t3 : Tp pr := .n .rows (show (List.map (fun x => List.map C.fz x) (List.take cells.length (List.drop (0 : Nat) (ints S)))) = List.take cells.length (List.map intt S) by simp)
  let t4 : Tp pr := .m (show (decide ((ints B).length = cells.length ∧ (0 : Nat) + cells.length ≤ cells.length)) = true by simp [*])
  let t5 : Tp pr := .n .rows (show (List.map (fun x => List.map C.fz x) (List.take cells.length (List.drop (0 : Nat) (ints B)))) = List.take cells.length (List.map intt B) by simp)
  exact .tp [.a (g), .bF, t2, t3, t4, t5, .a (g2), .mT] (by kernel_rfl)
end Go.Ev

namespace Go.Ev
set_option linter.unusedVariables false
set_option linter.unusedSimpArgs false
open Go.Proofs
set_option maxRecDepth 100000
set_option maxHeartbeats 4000000
section
variable (L KT BT : List (List T)) (d : Bool) (p0 e0 v0 : Int) (X Y Z : List (List T))
def bxM : Ob := .box [bl d, i64 p0, i64 e0, i64 v0, .t (.seq 4 X), .t (.seq 4 Y), .t (.seq 2 Z)]
def sbS (i : Nat) (e : Int) (o : Out) : Prop := Ev pr (.loop (lq pr 173 0) (at_ [(1, i64 e), (2, .ptr 0 1 0 0), (5, i64 i)] [bxM d p0 e0 v0 X Y Z] 0)) o
theorem sbEnd (i : Nat) (e : Int) (h : e < 0) : sbS d p0 e0 v0 X Y Z i e (.exit 0 (at_ [(5, i64 i)] [] 0)) := by
  have h1 : ¬ (e ≥ 0) := by omega
  unfold sbS bxM
  let t0 : Tp pr := .b (show (decide (e ≥ (0 : Int))) = false by (simp; omega))
  exact .tp [t0] (by kernel_rfl)
theorem sbGo (i : Nat) (hi : i ≤ 1000) (e : Int) (h : 0 ≤ e) (h2 : e < Z.length) (a b : Int) (hl : lkp Z e = some [.int .i64 a, .int .i64 b]) (o : Out) (g : sbS d p0 e0 v0 X Y Z (i + 1) b o) : sbS d p0 e0 v0 X Y Z i e o := by
  unfold sbS bxM at *
  let t0 : Tp pr := .b (show (decide (e ≥ (0 : Int))) = true by (simp; omega))
  let t1 : Tp pr := .i (wrap_i64 (a := (↑i : Int) + (1 : Int)) (by omega) (by omega))
  let t2 : Tp pr := .g .row (show (lkp Z e) = some ([T.int IntKind.i64 a, T.int IntKind.i64 b]) from hl)
  exact .tp [t0, t1, t2, .a (g)] (by kernel_rfl)
theorem sbLoop (bs : List Bd) (hd : Down bs) : ∀ (n : Nat) (e : Int) (i : Nat), -1 ≤ e → e < bs.length → e < n → i + n ≤ 1000 →
    sbS d p0 e0 v0 X Y (bs.map Bd.ce) i e (.exit 0 (at_ [(5, i64 ((i + chainN bs n e : Nat) : Int))] [] 0))
  | 0, e, i, h0, h1, h2, h3 => by
    have := sbEnd d p0 e0 v0 X Y (bs.map Bd.ce) i e (by omega)
    simpa [chainN] using this
  | n + 1, e, i, h0, h1, h2, h3 => by
    unfold chainN
    by_cases he : e < 0
    · rw [if_pos he]
      exact sbEnd d p0 e0 v0 X Y (bs.map Bd.ce) i e he
    · rw [if_neg he]
      have hu := hd _ _ (bdAt_some (by omega) h1)
      have := sbLoop bs hd n (bdAt bs e).up (i + 1) hu.1 (by omega) (by omega) (by omega)
      rw [show i + (chainN bs n (bdAt bs e).up + 1) = i + 1 + chainN bs n (bdAt bs e).up by omega]
      exact sbGo d p0 e0 v0 X Y (bs.map Bd.ce) i (by omega) e (by omega) (by simpa using h1) _ _ (lkp_bd bs e (by omega) h1) _ this
theorem sBound (e : Int) (k : Nat) (g : sbS d p0 e0 v0 X Y Z 0 e (.exit 0 (at_ [(5, i64 k)] [] 0))) : Ev pr (.call 173 [mF d p0 e0 v0 X Y Z, i64 e] []) (.val (i64 k) []) := by
  unfold sbS bxM mF at *
  exact .tp [.a (g)] (by kernel_rfl)
theorem sEnv (hZ : Z.length ≤ 500) (e : Int) (b : Bool) (hb : (decide (e ≥ -1) && decide (e ≤ (Z.length : Int) - 1)) = b) : Ev pr (.call 172 [mF d p0 e0 v0 X Y Z, i64 e] []) (.val (bl b) []) := by
  have gw := l1In_ev e (-1) ((Z.length : Int) - 1)
  rw [hb] at gw
  unfold mF
  let t1 : Tp pr := .i (wrap_i64 (a := (↑Z.length : Int) - (1 : Int)) (by omega) (by omega))
  exact .tp [.i (rfl : ((↑Z.length : Int)) = _), t1, .a (gw)] (by kernel_rfl)
theorem sVal (hY : Y.length ≤ 500) (e : Int) : Ev pr (.call 125 [mF d p0 e0 v0 X Y Z, i64 e] []) (.val (bl (decide (e ≥ 0) && decide (e < Y.length))) []) := by
  unfold mF
  by_cases h : e ≥ 0
  · rw [decide_eq_true h, Bool.true_and]
    let t0 : Tp pr := .b (show (decide (e ≥ (0 : Int))) = true by (simp; omega))
    exact .tp [t0, .i (rfl : ((↑Y.length : Int)) = _)] (by kernel_rfl)
  · rw [decide_eq_false h, Bool.false_and]
    let t0 : Tp pr := .b (show (decide (e ≥ (0 : Int))) = false by (simp; omega))
    exact .tp [t0] (by kernel_rfl)
theorem sPart0 (hL : L.length ≤ 600) (p e : Int) (h : ¬ (0 ≤ p ∧ p < L.length)) : Ev pr (.call 126 [cT L KT BT, mF d p0 e0 v0 X Y Z, i64 p, i64 e] []) (.val (bl false) []) := by
  unfold cT mF
  by_cases h1 : p ≥ 0
  · have h2 : ¬ (p < L.length) := by omega
    clear h
    let t3 : Tp pr := .b (show (decide (p ≥ (0 : Int))) = true by (simp; omega))
    let t14 : Tp pr := .b (show (decide (p < (↑L.length : Int))) = false by (simp; omega))
    exact .tp [.mT, .mT, .mT, t3, .mT, .mT, .mT, .mT, .mT, .i (rfl : ((↑L.length : Int)) = _), .mT, .mT, .mT, .mT, t14, .mT, .mT, .mT, .mT, .mT, .bF, .mT, .mT, .mT, .mT, .mT, .mT, .mT, .mT, .mT, .mT, .mT, .mT, .mT] (by kernel_rfl)
  · clear h
    let t3 : Tp pr := .b (show (decide (p ≥ (0 : Int))) = false by (simp; omega))
    exact .tp [.mT, .mT, .mT, t3, .mT, .mT, .mT, .mT, .mT, .mT, .mT, .mT, .mT, .bF, .mT, .mT, .mT, .mT, .mT, .bF, .mT, .mT, .mT, .mT, .mT, .mT, .mT, .mT, .mT, .mT, .mT, .mT, .mT] (by kernel_rfl)
theorem sPart1 (hL : L.length ≤ 600) (hZ : Z.length ≤ 500) (p e : Int) (h : 0 ≤ p) (h2 : p < L.length) (he : ¬ (-1 ≤ e ∧ e < Z.length)) : Ev pr (.call 126 [cT L KT BT, mF d p0 e0 v0 X Y Z, i64 p, i64 e] []) (.val (bl false) []) := by
  have ge := sEnv d p0 e0 v0 X Y Z hZ e false (by simp; omega)
  clear he
  unfold cT mF at *
  let t3 : Tp pr := .b (show (decide (p ≥ (0 : Int))) = true by (simp; omega))
  let t14 : Tp pr := .b (show (decide (p < (↑L.length : Int))) = true by (simp; omega))
  exact .tp [.mT, .mT, .mT, t3, .mT, .mT, .mT, .mT, .mT, .i (rfl : ((↑L.length : Int)) = _), .mT, .mT, .mT, .mT, t14, .mT, .mT, .a (ge), .mT, .mT, .mT, .bF, .mT, .mT, .mT, .mT, .mT, .mT, .mT, .mT, .mT, .mT, .mT, .mT, .mT] (by kernel_rfl)
theorem sPart2 (hL : L.length ≤ 600) (hZ : Z.length ≤ 500) (p e : Int) (h : 0 ≤ p) (h2 : p < L.length) (he : -1 ≤ e ∧ e < Z.length) (k : Nat) (b : Int) (hB : BT.length = L.length) (hl : lkp BT p = some [.int .i64 b]) (g : Ev pr (.call 173 [mF d p0 e0 v0 X Y Z, i64 e] []) (.val (i64 k) [])) :
    Ev pr (.call 126 [cT L KT BT, mF d p0 e0 v0 X Y Z, i64 p, i64 e] []) (.val (bl (decide ((k : Int) = b))) []) := by
  have ge := sEnv d p0 e0 v0 X Y Z hZ e true (by simp; omega)
  clear he
  unfold cT mF at *
  let t3 : Tp pr := .b (show (decide (p ≥ (0 : Int))) = true by (simp; omega))
  let t14 : Tp pr := .b (show (decide (p < (↑L.length : Int))) = true by (simp; omega))
  let t31 : Tp pr := .g .row (show (lkp BT p) = some ([T.int IntKind.i64 b]) from hl)
  exact .tp [.mT, .mT, .mT, t3, .mT, .mT, .mT, .mT, .mT, .i (rfl : ((↑L.length : Int)) = _), .mT, .mT, .mT, .mT, t14, .mT, .mT, .a (ge), .mT, .mT, .mT, .bT, .mT, .mT, .a (g), .mT, .mT, .mT, .mT, .mT, .mT, t31, .mT, .mT, .mT, .mT, .mT] (by kernel_rfl)
def seS (k e : Int) (o : Out) : Prop := Ev pr (.loop (lq pr 127 0) (at_ [(1, i64 e), (2, i64 k), (3, .ptr 0 1 0 0)] [bxM d p0 e0 v0 X Y Z] 0)) o
def seO (b : Bool) : Out := if b = true then .exit 0 (at_ [] [] 0) else .ret (at_ [(6, bl false)] [] 0)
theorem seEnd (k e : Int) (h : e < 0) : seS d p0 e0 v0 X Y Z k e (seO true) := by
  have h1 : ¬ (e ≥ 0) := by omega
  rw [show seO true = .exit 0 (at_ [] [] 0) from rfl]
  unfold seS bxM
  let t0 : Tp pr := .b (show (decide (e ≥ (0 : Int))) = false by (simp; omega))
  exact .tp [t0] (by kernel_rfl)
theorem seNo (k e : Int) (h : 0 ≤ e) (h2 : e < Z.length) (a b : Int) (hl : lkp Z e = some [.int .i64 a, .int .i64 b]) (hk : a ≥ k) : seS d p0 e0 v0 X Y Z k e (seO false) := by
  rw [show seO false = .ret (at_ [(6, bl false)] [] 0) from rfl]
  unfold seS bxM at *
  let t0 : Tp pr := .b (show (decide (e ≥ (0 : Int))) = true by (simp; omega))
  let t1 : Tp pr := .g .row (show (lkp Z e) = some ([T.int IntKind.i64 a, T.int IntKind.i64 b]) from hl)
  let t2 : Tp pr := .b (show (decide (a ≥ k)) = true by (simp; omega))
  exact .tp [t0, t1, t2] (by kernel_rfl)
theorem seGo (k e : Int) (h : 0 ≤ e) (h2 : e < Z.length) (a b : Int) (hl : lkp Z e = some [.int .i64 a, .int .i64 b]) (hk : ¬ (a ≥ k)) (o : Out) (g : seS d p0 e0 v0 X Y Z k b o) : seS d p0 e0 v0 X Y Z k e o := by
  unfold seS bxM at *
  let t0 : Tp pr := .b (show (decide (e ≥ (0 : Int))) = true by (simp; omega))
  let t1 : Tp pr := .g .row (show (lkp Z e) = some ([T.int IntKind.i64 a, T.int IntKind.i64 b]) from hl)
  let t2 : Tp pr := .b (show (decide (a ≥ k)) = false by (simp; omega))
  exact .tp [t0, t1, t2, t1, .a (g)] (by kernel_rfl)
theorem seLoop (bs : List Bd) (hd : Down bs) (k : Int) : ∀ (n : Nat) (e : Int), -1 ≤ e → e < bs.length → e < n →
    seS d p0 e0 v0 X Y (bs.map Bd.ce) k e (seO (elderB bs k n e))
  | 0, e, h0, h1, h2 => seEnd _ _ _ _ _ _ _ k e (by omega)
  | n + 1, e, h0, h1, h2 => by
    unfold elderB
    by_cases he : e < 0
    · rw [if_pos he]
      exact seEnd _ _ _ _ _ _ _ k e he
    · rw [if_neg he]
      have hlk := lkp_bd bs e (by omega) h1
      have h1' : e < ((bs.map Bd.ce).length : Int) := by simpa using h1
      by_cases hv : k ≤ (bdAt bs e).val
      · rw [if_pos hv]
        exact seNo _ _ _ _ _ _ _ k e (by omega) h1' _ _ hlk hv
      · rw [if_neg hv]
        have hu := hd _ _ (bdAt_some (by omega) h1)
        exact seGo _ _ _ _ _ _ _ k e (by omega) h1' _ _ hlk hv _ (seLoop bs hd k n _ hu.1 (by omega) (by omega))
theorem sElder (k e : Int) (b : Bool) (g : seS d p0 e0 v0 X Y Z k e (seO b)) : Ev pr (.call 127 [mF d p0 e0 v0 X Y Z, i64 e, i64 k] []) (.val (bl b) []) := by
  cases b with
  | true =>
    rw [show seO true = .exit 0 (at_ [] [] 0) from rfl] at g
    unfold seS bxM mF at *
    exact .tp [.a (g)] (by kernel_rfl)
  | false =>
    rw [show seO false = .ret (at_ [(6, bl false)] [] 0) from rfl] at g
    unfold seS bxM mF at *
    exact .tp [.a (g)] (by kernel_rfl)
section
variable (k p e w : Int)
theorem sfF (g : Ev pr (.call 126 [cT L KT BT, mF d p0 e0 v0 X Y Z, i64 p, i64 e] []) (.val (bl false) [])) : Ev pr (.call 128 [cT L KT BT, mF d p0 e0 v0 X Y Z, .agg [i64 k, i64 p, i64 e, i64 w]] []) (.val (bl false) []) := by
  unfold cT mF at *
  exact .tp [.mT, .mT, .mT, .mT, .mT, .mT, .a (g), .mT, .mT, .mT, .bT, .mT, .mT, .mT, .mT, .mT, .mT, .mT, .mT, .mT, .mT, .mT, .mT, .mT, .bT] (by kernel_rfl)
variable (g : Ev pr (.call 126 [cT L KT BT, mF d p0 e0 v0 X Y Z, i64 p, i64 e] []) (.val (bl true) [])) (h0 : 0 ≤ p) (h1 : p < L.length) (a b : Int) (hL : lkp L p = some [.int .i64 a, .int .i64 b])
include g h0 h1 hL
theorem sfK (ha : ¬ a = k) : Ev pr (.call 128 [cT L KT BT, mF d p0 e0 v0 X Y Z, .agg [i64 k, i64 p, i64 e, i64 w]] []) (.val (bl false) []) := by
  have _h0 := h0
  have _h1 := h1
  unfold cT mF at *
  let t17 : Tp pr := .g .row (show (lkp L p) = some ([T.int IntKind.i64 a, T.int IntKind.i64 b]) from hL)
  let t25 : Tp pr := .b (show (a != k) = true by (simp; omega))
  exact .tp [.mT, .mT, .mT, .mT, .mT, .mT, .a (g), .mT, .mT, .mT, .bF, .mT, .mT, .mT, .mT, .mT, .mT, t17, .mT, .mT, .mT, .mT, .mT, .mT, .mT, t25] (by kernel_rfl)
theorem sfA (ha : a = k) (hk4 : ¬ k = 4) (hk5 : ¬ k = 5) (hk6 : ¬ k = 6) (hk7 : ¬ k = 7) : Ev pr (.call 128 [cT L KT BT, mF d p0 e0 v0 X Y Z, .agg [i64 k, i64 p, i64 e, i64 w]] []) (.val (bl false) []) := by
  have _h0 := h0
  have _h1 := h1
  subst ha
  unfold cT mF at *
  let t17 : Tp pr := .g .row (show (lkp L p) = some ([T.int IntKind.i64 a, T.int IntKind.i64 b]) from hL)
  let t26 : Tp pr := .b (show (decide (a = (4 : Int))) = false by (simp; omega))
  let t27 : Tp pr := .b (show (decide (a = (5 : Int))) = false by (simp; omega))
  let t28 : Tp pr := .b (show (decide (a = (6 : Int))) = false by (simp; omega))
  let t29 : Tp pr := .b (show (decide (a = (7 : Int))) = false by (simp; omega))
  exact .tp [.mT, .mT, .mT, .mT, .mT, .mT, .a (g), .mT, .mT, .mT, .bF, .mT, .mT, .mT, .mT, .mT, .mT, t17, .mT, .mT, .mT, .mT, .mT, .mT, .mT, .b (show (a != a) = false by simp), t26, t27, t28, t29] (by kernel_rfl)
theorem sfI (ha : a = k) (hk : k = 6 ∨ k = 7) : Ev pr (.call 128 [cT L KT BT, mF d p0 e0 v0 X Y Z, .agg [i64 k, i64 p, i64 e, i64 w]] []) (.val (bl (decide (w = -1))) []) := by
  have _h0 := h0
  have _h1 := h1
  subst ha
  unfold cT mF at *
  rcases hk with rfl | rfl
  · let t17 : Tp pr := .g .row (show (lkp L p) = some ([T.int IntKind.i64 (6 : Int), T.int IntKind.i64 b]) from hL)
    exact .tp [.mT, .mT, .mT, .mT, .mT, .mT, .a (g), .mT, .mT, .mT, .bF, .mT, .mT, .mT, .mT, .mT, .mT, t17, .mT, .mT, .mT, .mT, .mT, .mT, .mT, .bF, .bF, .bF, .bT, .bT] (by kernel_rfl)
  · let t17 : Tp pr := .g .row (show (lkp L p) = some ([T.int IntKind.i64 (7 : Int), T.int IntKind.i64 b]) from hL)
    exact .tp [.mT, .mT, .mT, .mT, .mT, .mT, .a (g), .mT, .mT, .mT, .bF, .mT, .mT, .mT, .mT, .mT, .mT, t17, .mT, .mT, .mT, .mT, .mT, .mT, .mT, .bF, .bF, .bF, .bF, .bT] (by kernel_rfl)
theorem sfV1 (ha : a = k) (hk : k = 4 ∨ k = 5) (hw : w = -1) : Ev pr (.call 128 [cT L KT BT, mF d p0 e0 v0 X Y Z, .agg [i64 k, i64 p, i64 e, i64 w]] []) (.val (bl true) []) := by
  have _h0 := h0
  have _h1 := h1
  subst ha hw
  unfold cT mF at *
  rcases hk with rfl | rfl
  · let t17 : Tp pr := .g .row (show (lkp L p) = some ([T.int IntKind.i64 (4 : Int), T.int IntKind.i64 b]) from hL)
    exact .tp [.mT, .mT, .mT, .mT, .mT, .mT, .a (g), .mT, .mT, .mT, .bF, .mT, .mT, .mT, .mT, .mT, .mT, t17, .mT, .mT, .mT, .mT, .mT, .mT, .mT, .bF, .bT, .bT, .bT] (by kernel_rfl)
  · let t17 : Tp pr := .g .row (show (lkp L p) = some ([T.int IntKind.i64 (5 : Int), T.int IntKind.i64 b]) from hL)
    exact .tp [.mT, .mT, .mT, .mT, .mT, .mT, .a (g), .mT, .mT, .mT, .bF, .mT, .mT, .mT, .mT, .mT, .mT, t17, .mT, .mT, .mT, .mT, .mT, .mT, .mT, .bF, .bF, .bT, .bT] (by kernel_rfl)
theorem sfV2 (ha : a = k) (hk : k = 4 ∨ k = 5) (hw : ¬ w = -1) (bb : Bool) (g2 : Ev pr (.call 125 [mF d p0 e0 v0 X Y Z, i64 w] []) (.val (bl bb) [])) : Ev pr (.call 128 [cT L KT BT, mF d p0 e0 v0 X Y Z, .agg [i64 k, i64 p, i64 e, i64 w]] []) (.val (bl bb) []) := by
  have _h0 := h0
  have _h1 := h1
  subst ha
  unfold cT mF at *
  rcases hk with rfl | rfl
  · let t17 : Tp pr := .g .row (show (lkp L p) = some ([T.int IntKind.i64 (4 : Int), T.int IntKind.i64 b]) from hL)
    let t28 : Tp pr := .b (show (decide (w = (-1 : Int))) = false by (simp; omega))
    exact .tp [.mT, .mT, .mT, .mT, .mT, .mT, .a (g), .mT, .mT, .mT, .bF, .mT, .mT, .mT, .mT, .mT, .mT, t17, .mT, .mT, .mT, .mT, .mT, .mT, .mT, .bF, .bT, .bT, t28, .a (g2)] (by kernel_rfl)
  · let t17 : Tp pr := .g .row (show (lkp L p) = some ([T.int IntKind.i64 (5 : Int), T.int IntKind.i64 b]) from hL)
    let t28 : Tp pr := .b (show (decide (w = (-1 : Int))) = false by (simp; omega))
    exact .tp [.mT, .mT, .mT, .mT, .mT, .mT, .a (g), .mT, .mT, .mT, .bF, .mT, .mT, .mT, .mT, .mT, .mT, t17, .mT, .mT, .mT, .mT, .mT, .mT, .mT, .bF, .bF, .bT, t28, .a (g2)] (by kernel_rfl)
end
end
end Go.Ev

namespace Go.Ev
set_option linter.unusedVariables false
set_option linter.unusedSimpArgs false
open Go.Proofs
set_option maxRecDepth 100000
set_option maxHeartbeats 4000000
section
variable (L KT BT : List (List T)) (d : Bool) (p0 e0 v0 : Int) (X Y Z : List (List T))
def sg0S (i : Nat) (o : Out) : Prop :=
  Ev pr (.loop (lq pr 63 0) (at_ [(0, cT L KT BT), (3, .ptr 0 1 0 0), (28, .t (.seq 2 Z)), (29, i64 Z.length), (30, i64 i)] [bxM d p0 e0 v0 X Y Z] 0)) o
def sg0O (b : Bool) : Out := if b = true then .exit 0 (at_ [(0, cT L KT BT), (3, .ptr 0 1 0 0)] [bxM d p0 e0 v0 X Y Z] 0) else .ret (at_ [(4, bl false)] [] 0)
theorem sg0End : sg0S L KT BT d p0 e0 v0 X Y Z Z.length (sg0O L KT BT d p0 e0 v0 X Y Z true) := by
  rw [show sg0O L KT BT d p0 e0 v0 X Y Z true = .exit 0 (at_ [(0, cT L KT BT), (3, .ptr 0 1 0 0)] [bxM d p0 e0 v0 X Y Z] 0) from rfl]
  unfold sg0S bxM cT
  let t0 : Tp pr := .b (show (decide ((↑Z.length : Int) < (↑Z.length : Int))) = false by simp)
  exact .tp [t0] (by kernel_rfl)
variable (hY : Y.length ≤ 500) (hZ : Z.length ≤ 500) (i : Nat)
include hY hZ
theorem sg0No1 (hi : i < Z.length) (a b : Int) (hl : Z[i]? = some [.int .i64 a, .int .i64 b]) (h : ¬ (0 ≤ a ∧ a < Y.length)) : sg0S L KT BT d p0 e0 v0 X Y Z i (sg0O L KT BT d p0 e0 v0 X Y Z false) := by
  have _hZ := hZ
  rw [show sg0O L KT BT d p0 e0 v0 X Y Z false = .ret (at_ [(4, bl false)] [] 0) from rfl]
  have gw := sVal d p0 e0 v0 X Y Z hY a
  rw [show (decide (a ≥ 0) && decide (a < (Y.length : Int))) = false by simp; omega] at gw
  clear h
  unfold sg0S bxM cT mF at *
  let t0 : Tp pr := .b (show (decide ((↑i : Int) < (↑Z.length : Int))) = true by (simp; omega))
  let t1 : Tp pr := .g .row (show (lkp Z (↑i : Int)) = some ([T.int IntKind.i64 a, T.int IntKind.i64 b]) from hl)
  exact .tp [t0, t1, .a (gw), .bT, .bT, .bT] (by kernel_rfl)
theorem sg0No2 (hi : i < Z.length) (a b : Int) (hl : Z[i]? = some [.int .i64 a, .int .i64 b]) (h : 0 ≤ a ∧ a < Y.length) (h2 : ¬ (-1 ≤ b ∧ b < i)) : sg0S L KT BT d p0 e0 v0 X Y Z i (sg0O L KT BT d p0 e0 v0 X Y Z false) := by
  have _hZ := hZ
  rw [show sg0O L KT BT d p0 e0 v0 X Y Z false = .ret (at_ [(4, bl false)] [] 0) from rfl]
  have gw := sVal d p0 e0 v0 X Y Z hY a
  rw [show (decide (a ≥ 0) && decide (a < (Y.length : Int))) = true by simp; omega] at gw
  unfold sg0S bxM cT mF at *
  by_cases h3 : b < -1
  · clear h h2
    let t0 : Tp pr := .b (show (decide ((↑i : Int) < (↑Z.length : Int))) = true by (simp; omega))
    let t1 : Tp pr := .g .row (show (lkp Z (↑i : Int)) = some ([T.int IntKind.i64 a, T.int IntKind.i64 b]) from hl)
    let t4 : Tp pr := .b (show (decide (b < (-1 : Int))) = true by (simp; omega))
    exact .tp [t0, t1, .a (gw), .bF, t4, .bT] (by kernel_rfl)
  · have h4 : b ≥ i := by omega
    clear h h2
    let t0 : Tp pr := .b (show (decide ((↑i : Int) < (↑Z.length : Int))) = true by (simp; omega))
    let t1 : Tp pr := .g .row (show (lkp Z (↑i : Int)) = some ([T.int IntKind.i64 a, T.int IntKind.i64 b]) from hl)
    let t4 : Tp pr := .b (show (decide (b < (-1 : Int))) = false by (simp; omega))
    let t5 : Tp pr := .b (show (decide (b ≥ (↑i : Int))) = true by (simp; omega))
    exact .tp [t0, t1, .a (gw), .bF, t4, t5] (by kernel_rfl)
theorem sg0Go (hi : i < Z.length) (a b : Int) (hl : Z[i]? = some [.int .i64 a, .int .i64 b]) (h : 0 ≤ a ∧ a < Y.length) (h2 : -1 ≤ b) (h3 : b < i) (o : Out) (g : sg0S L KT BT d p0 e0 v0 X Y Z (i + 1) o) : sg0S L KT BT d p0 e0 v0 X Y Z i o := by
  have gw := sVal d p0 e0 v0 X Y Z hY a
  rw [show (decide (a ≥ 0) && decide (a < (Y.length : Int))) = true by simp; omega] at gw
  clear h
  unfold sg0S bxM cT mF at *
  let t0 : Tp pr := .b (show (decide ((↑i : Int) < (↑Z.length : Int))) = true by (simp; omega))
  let t1 : Tp pr := .g .row (show (lkp Z (↑i : Int)) = some ([T.int IntKind.i64 a, T.int IntKind.i64 b]) from hl)
  let t4 : Tp pr := .b (show (decide (b < (-1 : Int))) = false by (simp; omega))
  let t5 : Tp pr := .b (show (decide (b ≥ (↑i : Int))) = false by (simp; omega))
  let t6 : Tp pr := .i (wrap_i64 (a := (↑i : Int) + (1 : Int)) (by omega) (by omega))
  exact .tp [t0, t1, .a (gw), .bF, t4, t5, t6, .a (g)] (by kernel_rfl)
end
theorem sg0Loop (L KT BT : List (List T)) (d : Bool) (p0 e0 v0 : Int) (X Y : List (List T)) (hY : Y.length ≤ 500) (bs : List Bd) (hb : bs.length ≤ 500) : ∀ (r a : List Bd), bs = a ++ r →
    sg0S L KT BT d p0 e0 v0 X Y (bs.map Bd.ce) a.length (sg0O L KT BT d p0 e0 v0 X Y (bs.map Bd.ce) (bdsB Y.length a.length r))
  | [], a, h => by
    have := sg0End L KT BT d p0 e0 v0 X Y (bs.map Bd.ce)
    rw [h, List.length_map, List.append_nil] at this
    rw [h, List.append_nil]
    exact this
  | b :: r, a, h => by
    have hZ : (bs.map Bd.ce).length ≤ 500 := by simpa using hb
    have hi : a.length < (bs.map Bd.ce).length := by rw [h]; simp
    have hl : (bs.map Bd.ce)[a.length]? = some [.int .i64 b.val, .int .i64 b.up] := by rw [h]; simp [Bd.ce]
    unfold bdsB bdB
    by_cases h1 : 0 ≤ b.val ∧ b.val < Y.length
    · by_cases h2 : -1 ≤ b.up ∧ b.up < a.length
      · rw [decide_eq_true h1, decide_eq_true h2, Bool.true_and, Bool.true_and]
        have ih := sg0Loop L KT BT d p0 e0 v0 X Y hY bs hb r (a ++ [b]) (by rw [h]; simp)
        rw [List.length_append, List.length_singleton] at ih
        exact sg0Go _ _ _ _ _ _ _ _ _ _ hY hZ _ hi _ _ hl h1 h2.1 h2.2 _ ih
      · rw [decide_eq_false h2, Bool.and_false, Bool.false_and]
        exact sg0No2 _ _ _ _ _ _ _ _ _ _ hY hZ _ hi _ _ hl h1 h2
    · rw [decide_eq_false h1, Bool.false_and, Bool.false_and]
      exact sg0No1 _ _ _ _ _ _ _ _ _ _ hY hZ _ hi _ _ hl h1
section
variable (L KT BT : List (List T)) (d : Bool) (p0 e0 v0 : Int) (X Y Z : List (List T))
def sg1S (i : Nat) (o : Out) : Prop :=
  Ev pr (.loop (lq pr 63 1) (at_ [(0, cT L KT BT), (3, .ptr 0 1 0 0), (53, .t (.seq 4 Y)), (54, i64 Y.length), (55, i64 i)] [bxM d p0 e0 v0 X Y Z] 0)) o
def sg1O (b : Bool) : Out := if b = true then .exit 2 (at_ [(0, cT L KT BT), (3, .ptr 0 1 0 0)] [bxM d p0 e0 v0 X Y Z] 0) else .ret (at_ [(4, bl false)] [] 0)
theorem sg1End : sg1S L KT BT d p0 e0 v0 X Y Z Y.length (sg1O L KT BT d p0 e0 v0 X Y Z true) := by
  rw [show sg1O L KT BT d p0 e0 v0 X Y Z true = .exit 2 (at_ [(0, cT L KT BT), (3, .ptr 0 1 0 0)] [bxM d p0 e0 v0 X Y Z] 0) from rfl]
  unfold sg1S bxM cT
  let t0 : Tp pr := .b (show (decide ((↑Y.length : Int) < (↑Y.length : Int))) = false by simp)
  exact .tp [t0] (by kernel_rfl)
variable (hY : Y.length ≤ 500) (i : Nat) (hi : i < Y.length) (n p e : Int)
include hY hi
section
variable (hl : Y[i]? = some [.bool false, .int .i64 n, .int .i64 p, .int .i64 e])
include hl
theorem sg1N1 (h : ¬ p = 0) : sg1S L KT BT d p0 e0 v0 X Y Z i (sg1O L KT BT d p0 e0 v0 X Y Z false) := by
  have _hY := hY
  rw [show sg1O L KT BT d p0 e0 v0 X Y Z false = .ret (at_ [(4, bl false)] [] 0) from rfl]
  unfold sg1S bxM cT
  let t0 : Tp pr := .b (show (decide ((↑i : Int) < (↑Y.length : Int))) = true by (simp; omega))
  let t1 : Tp pr := .g .row (show (lkp Y (↑i : Int)) = some ([T.bool false, T.int IntKind.i64 n, T.int IntKind.i64 p, T.int IntKind.i64 e]) from hl)
  let t42 : Tp pr := .b (show (p != (0 : Int)) = true by (simp; omega))
  exact .tp [t0, t1, .mT, .mT, .mT, .bF, .mT, .mT, .mT, .mT, .mT, .mT, .mT, .mT, .mT, .mT, .mT, .mT, .mT, .mT, .mT, .mT, .mT, .mT, .mT, .mT, .mT, .mT, .mT, .mT, .mT, .mT, .mT, .mT, .mT, .mT, .mT, .mT, .mT, .mT, .bF, .bT, t42, .bT, .bT] (by kernel_rfl)
theorem sg1N2 (hp : p = 0) (h : ¬ e = 0) : sg1S L KT BT d p0 e0 v0 X Y Z i (sg1O L KT BT d p0 e0 v0 X Y Z false) := by
  have _hY := hY
  subst hp
  rw [show sg1O L KT BT d p0 e0 v0 X Y Z false = .ret (at_ [(4, bl false)] [] 0) from rfl]
  unfold sg1S bxM cT
  let t0 : Tp pr := .b (show (decide ((↑i : Int) < (↑Y.length : Int))) = true by (simp; omega))
  let t1 : Tp pr := .g .row (show (lkp Y (↑i : Int)) = some ([T.bool false, T.int IntKind.i64 n, T.int IntKind.i64 (0 : Int), T.int IntKind.i64 e]) from hl)
  let t43 : Tp pr := .b (show (e != (0 : Int)) = true by (simp; omega))
  exact .tp [t0, t1, .mT, .mT, .mT, .bF, .mT, .mT, .mT, .mT, .mT, .mT, .mT, .mT, .mT, .mT, .mT, .mT, .mT, .mT, .mT, .mT, .mT, .mT, .mT, .mT, .mT, .mT, .mT, .mT, .mT, .mT, .mT, .mT, .mT, .mT, .mT, .mT, .mT, .mT, .bF, .bT, .bF, t43, .bT] (by kernel_rfl)
theorem sg1N3 (hp : p = 0) (he : e = 0) (h : ¬ (-1000000 ≤ n ∧ n ≤ 1000000)) : sg1S L KT BT d p0 e0 v0 X Y Z i (sg1O L KT BT d p0 e0 v0 X Y Z false) := by
  have _hY := hY
  subst hp he
  have gw := l1In_ev n (-1000000) 1000000
  rw [show (decide (n ≥ -1000000) && decide (n ≤ 1000000)) = false by simp; omega] at gw
  clear h
  rw [show sg1O L KT BT d p0 e0 v0 X Y Z false = .ret (at_ [(4, bl false)] [] 0) from rfl]
  unfold sg1S bxM cT
  let t0 : Tp pr := .b (show (decide ((↑i : Int) < (↑Y.length : Int))) = true by (simp; omega))
  let t1 : Tp pr := .g .row (show (lkp Y (↑i : Int)) = some ([T.bool false, T.int IntKind.i64 n, T.int IntKind.i64 (0 : Int), T.int IntKind.i64 (0 : Int)]) from hl)
  exact .tp [t0, t1, .mT, .mT, .mT, .bF, .mT, .mT, .mT, .mT, .mT, .mT, .mT, .mT, .mT, .mT, .mT, .mT, .mT, .mT, .mT, .mT, .mT, .mT, .mT, .mT, .mT, .mT, .mT, .mT, .mT, .mT, .mT, .mT, .mT, .mT, .mT, .mT, .mT, .mT, .bF, .bT, .bF, .bF, .a (gw), .bT] (by kernel_rfl)
theorem sg1N4 (hp : p = 0) (he : e = 0) (h : -1000000 ≤ n ∧ n ≤ 1000000) (o : Out) (g : sg1S L KT BT d p0 e0 v0 X Y Z (i + 1) o) : sg1S L KT BT d p0 e0 v0 X Y Z i o := by
  subst hp he
  have gw := l1In_ev n (-1000000) 1000000
  rw [show (decide (n ≥ -1000000) && decide (n ≤ 1000000)) = true by simp; omega] at gw
  clear h
  unfold sg1S bxM cT at *
  let t0 : Tp pr := .b (show (decide ((↑i : Int) < (↑Y.length : Int))) = true by (simp; omega))
  let t1 : Tp pr := .g .row (show (lkp Y (↑i : Int)) = some ([T.bool false, T.int IntKind.i64 n, T.int IntKind.i64 (0 : Int), T.int IntKind.i64 (0 : Int)]) from hl)
  let t46 : Tp pr := .i (wrap_i64 (a := (↑i : Int) + (1 : Int)) (by omega) (by omega))
  exact .tp [t0, t1, .mT, .mT, .mT, .bF, .mT, .mT, .mT, .mT, .mT, .mT, .mT, .mT, .mT, .mT, .mT, .mT, .mT, .mT, .mT, .mT, .mT, .mT, .mT, .mT, .mT, .mT, .mT, .mT, .mT, .mT, .mT, .mT, .mT, .mT, .mT, .mT, .mT, .mT, .bF, .bT, .bF, .bF, .a (gw), .bF, t46, .a (g)] (by kernel_rfl)
end
variable (hl : Y[i]? = some [.bool true, .int .i64 n, .int .i64 p, .int .i64 e])
include hl
theorem sg1F1 (h : ¬ n = 0) : sg1S L KT BT d p0 e0 v0 X Y Z i (sg1O L KT BT d p0 e0 v0 X Y Z false) := by
  have _hY := hY
  rw [show sg1O L KT BT d p0 e0 v0 X Y Z false = .ret (at_ [(4, bl false)] [] 0) from rfl]
  unfold sg1S bxM cT
  let t0 : Tp pr := .b (show (decide ((↑i : Int) < (↑Y.length : Int))) = true by (simp; omega))
  let t1 : Tp pr := .g .row (show (lkp Y (↑i : Int)) = some ([T.bool true, T.int IntKind.i64 n, T.int IntKind.i64 p, T.int IntKind.i64 e]) from hl)
  let t10 : Tp pr := .b (show (n != (0 : Int)) = true by (simp; omega))
  exact .tp [t0, t1, .mT, .mT, .mT, .bT, .mT, .mT, .mT, .mT, t10, .mT, .mT, .mT, .mT, .mT, .mT, .mT, .mT, .mT, .mT, .bT, .mT, .mT, .mT, .mT, .mT, .mT, .mT, .mT, .mT, .mT, .mT, .mT, .bT, .mT, .mT, .mT, .mT, .mT, .mT, .mT, .mT, .bT] (by kernel_rfl)
theorem sg1F2 (hn : n = 0) (g : Ev pr (.call 126 [cT L KT BT, mF d p0 e0 v0 X Y Z, i64 p, i64 e] []) (.val (bl false) [])) : sg1S L KT BT d p0 e0 v0 X Y Z i (sg1O L KT BT d p0 e0 v0 X Y Z false) := by
  have _hY := hY
  subst hn
  rw [show sg1O L KT BT d p0 e0 v0 X Y Z false = .ret (at_ [(4, bl false)] [] 0) from rfl]
  unfold sg1S bxM cT mF at *
  let t0 : Tp pr := .b (show (decide ((↑i : Int) < (↑Y.length : Int))) = true by (simp; omega))
  let t1 : Tp pr := .g .row (show (lkp Y (↑i : Int)) = some ([T.bool true, T.int IntKind.i64 (0 : Int), T.int IntKind.i64 p, T.int IntKind.i64 e]) from hl)
  exact .tp [t0, t1, .mT, .mT, .mT, .bT, .mT, .mT, .mT, .mT, .bF, .mT, .mT, .mT, .mT, .mT, .mT, .a (g), .mT, .mT, .mT, .mT, .bT, .mT, .mT, .mT, .mT, .mT, .mT, .mT, .mT, .mT, .mT, .mT, .mT, .bT, .mT, .mT, .mT, .mT, .mT, .mT, .mT, .mT, .bT] (by kernel_rfl)
variable (g : Ev pr (.call 126 [cT L KT BT, mF d p0 e0 v0 X Y Z, i64 p, i64 e] []) (.val (bl true) [])) (h0 : 0 ≤ p) (h1 : p < L.length) (a b : Int) (hL : lkp L p = some [.int .i64 a, .int .i64 b])
include g h0 h1 hL
theorem sg1F3 (hn : n = 0) (ha : ¬ a = 3) : sg1S L KT BT d p0 e0 v0 X Y Z i (sg1O L KT BT d p0 e0 v0 X Y Z false) := by
  have _hY := hY
  have _h0 := h0
  have _h1 := h1
  subst hn
  rw [show sg1O L KT BT d p0 e0 v0 X Y Z false = .ret (at_ [(4, bl false)] [] 0) from rfl]
  unfold sg1S bxM cT mF at *
  let t0 : Tp pr := .b (show (decide ((↑i : Int) < (↑Y.length : Int))) = true by (simp; omega))
  let t1 : Tp pr := .g .row (show (lkp Y (↑i : Int)) = some ([T.bool true, T.int IntKind.i64 (0 : Int), T.int IntKind.i64 p, T.int IntKind.i64 e]) from hl)
  let t29 : Tp pr := .g .row (show (lkp L p) = some ([T.int IntKind.i64 a, T.int IntKind.i64 b]) from hL)
  let t36 : Tp pr := .b (show (a != (3 : Int)) = true by (simp; omega))
  exact .tp [t0, t1, .mT, .mT, .mT, .bT, .mT, .mT, .mT, .mT, .bF, .mT, .mT, .mT, .mT, .mT, .mT, .a (g), .mT, .mT, .mT, .mT, .bF, .mT, .mT, .mT, .mT, .mT, .mT, t29, .mT, .mT, .mT, .mT, .mT, .mT, t36, .mT, .mT, .mT, .mT, .mT, .mT, .mT, .mT, .bT] (by kernel_rfl)
theorem sg1F4 (hn : n = 0) (ha : a = 3) (g2 : Ev pr (.call 127 [mF d p0 e0 v0 X Y Z, i64 e, i64 i] []) (.val (bl false) [])) : sg1S L KT BT d p0 e0 v0 X Y Z i (sg1O L KT BT d p0 e0 v0 X Y Z false) := by
  have _hY := hY
  have _h0 := h0
  have _h1 := h1
  subst hn ha
  rw [show sg1O L KT BT d p0 e0 v0 X Y Z false = .ret (at_ [(4, bl false)] [] 0) from rfl]
  unfold sg1S bxM cT mF at *
  let t0 : Tp pr := .b (show (decide ((↑i : Int) < (↑Y.length : Int))) = true by (simp; omega))
  let t1 : Tp pr := .g .row (show (lkp Y (↑i : Int)) = some ([T.bool true, T.int IntKind.i64 (0 : Int), T.int IntKind.i64 p, T.int IntKind.i64 e]) from hl)
  let t29 : Tp pr := .g .row (show (lkp L p) = some ([T.int IntKind.i64 (3 : Int), T.int IntKind.i64 b]) from hL)
  exact .tp [t0, t1, .mT, .mT, .mT, .bT, .mT, .mT, .mT, .mT, .bF, .mT, .mT, .mT, .mT, .mT, .mT, .a (g), .mT, .mT, .mT, .mT, .bF, .mT, .mT, .mT, .mT, .mT, .mT, t29, .mT, .mT, .mT, .mT, .mT, .mT, .bF, .mT, .mT, .mT, .mT, .a (g2), .mT, .mT, .mT, .mT, .bT] (by kernel_rfl)
theorem sg1F5 (hn : n = 0) (ha : a = 3) (g2 : Ev pr (.call 127 [mF d p0 e0 v0 X Y Z, i64 e, i64 i] []) (.val (bl true) [])) (o : Out) (gl : sg1S L KT BT d p0 e0 v0 X Y Z (i + 1) o) : sg1S L KT BT d p0 e0 v0 X Y Z i o := by
  have _h0 := h0
  have _h1 := h1
  subst hn ha
  unfold sg1S bxM cT mF at *
  let t0 : Tp pr := .b (show (decide ((↑i : Int) < (↑Y.length : Int))) = true by (simp; omega))
  let t1 : Tp pr := .g .row (show (lkp Y (↑i : Int)) = some ([T.bool true, T.int IntKind.i64 (0 : Int), T.int IntKind.i64 p, T.int IntKind.i64 e]) from hl)
  let t29 : Tp pr := .g .row (show (lkp L p) = some ([T.int IntKind.i64 (3 : Int), T.int IntKind.i64 b]) from hL)
  let t49 : Tp pr := .i (wrap_i64 (a := (↑i : Int) + (1 : Int)) (by omega) (by omega))
  exact .tp [t0, t1, .mT, .mT, .mT, .bT, .mT, .mT, .mT, .mT, .bF, .mT, .mT, .mT, .mT, .mT, .mT, .a (g), .mT, .mT, .mT, .mT, .bF, .mT, .mT, .mT, .mT, .mT, .mT, t29, .mT, .mT, .mT, .mT, .mT, .mT, .bF, .mT, .mT, .mT, .mT, .a (g2), .mT, .mT, .mT, .mT, .bF, .bF, .bF, t49, .a (gl)] (by kernel_rfl)
end
section
variable (L KT BT : List (List T)) (d : Bool) (p0 e0 v0 : Int) (X Y Z : List (List T))
def sg2S (i : Nat) (o : Out) : Prop :=
  Ev pr (.loop (lq pr 63 2) (at_ [(0, cT L KT BT), (3, .ptr 0 1 0 0), (118, .t (.seq 4 X)), (119, i64 X.length), (120, i64 i)] [bxM d p0 e0 v0 X Y Z] 0)) o
def sg2O (b : Bool) : Out := if b = true then .exit 4 (at_ [(0, cT L KT BT), (3, .ptr 0 1 0 0)] [bxM d p0 e0 v0 X Y Z] 0) else .ret (at_ [(4, bl false)] [] 0)
theorem sg2End : sg2S L KT BT d p0 e0 v0 X Y Z X.length (sg2O L KT BT d p0 e0 v0 X Y Z true) := by
  rw [show sg2O L KT BT d p0 e0 v0 X Y Z true = .exit 4 (at_ [(0, cT L KT BT), (3, .ptr 0 1 0 0)] [bxM d p0 e0 v0 X Y Z] 0) from rfl]
  unfold sg2S bxM cT
  let t0 : Tp pr := .b (show (decide ((↑X.length : Int) < (↑X.length : Int))) = false by simp)
  exact .tp [t0] (by kernel_rfl)
variable (hX : X.length ≤ 500) (i : Nat) (hi : i < X.length) (k p e w : Int) (hl : X[i]? = some [.int .i64 k, .int .i64 p, .int .i64 e, .int .i64 w])
include hX hi hl
theorem sg2No (g : Ev pr (.call 128 [cT L KT BT, mF d p0 e0 v0 X Y Z, .agg [i64 k, i64 p, i64 e, i64 w]] []) (.val (bl false) [])) : sg2S L KT BT d p0 e0 v0 X Y Z i (sg2O L KT BT d p0 e0 v0 X Y Z false) := by
  have _hX := hX
  rw [show sg2O L KT BT d p0 e0 v0 X Y Z false = .ret (at_ [(4, bl false)] [] 0) from rfl]
  unfold sg2S bxM cT mF at *
  let t0 : Tp pr := .b (show (decide ((↑i : Int) < (↑X.length : Int))) = true by (simp; omega))
  let t1 : Tp pr := .g .row (show (lkp X (↑i : Int)) = some ([T.int IntKind.i64 k, T.int IntKind.i64 p, T.int IntKind.i64 e, T.int IntKind.i64 w]) from hl)
  exact .tp [t0, t1, .a (g), .bT] (by kernel_rfl)
theorem sg2Go (g : Ev pr (.call 128 [cT L KT BT, mF d p0 e0 v0 X Y Z, .agg [i64 k, i64 p, i64 e, i64 w]] []) (.val (bl true) [])) (o : Out) (gl : sg2S L KT BT d p0 e0 v0 X Y Z (i + 1) o) : sg2S L KT BT d p0 e0 v0 X Y Z i o := by
  unfold sg2S bxM cT mF at *
  let t0 : Tp pr := .b (show (decide ((↑i : Int) < (↑X.length : Int))) = true by (simp; omega))
  let t1 : Tp pr := .g .row (show (lkp X (↑i : Int)) = some ([T.int IntKind.i64 k, T.int IntKind.i64 p, T.int IntKind.i64 e, T.int IntKind.i64 w]) from hl)
  let t4 : Tp pr := .i (wrap_i64 (a := (↑i : Int) + (1 : Int)) (by omega) (by omega))
  exact .tp [t0, t1, .a (g), .bF, t4, .a (gl)] (by kernel_rfl)
end
end Go.Ev

namespace Go.Ev
set_option linter.unusedVariables false
set_option linter.unusedSimpArgs false
open Go.Proofs
set_option maxRecDepth 100000
set_option maxHeartbeats 4000000
section
variable (L KT BT : List (List T)) (d : Bool) (p0 e0 v0 : Int) (X Y Z : List (List T))
theorem sgLong (hX0 : X.length ≤ 1048576) (hY0 : Y.length ≤ 1048576) (hZ0 : Z.length ≤ 1048576) (h : ¬ (Y.length ≤ 500 ∧ Z.length ≤ 500 ∧ X.length ≤ 500)) : Ev pr (.call 63 [cT L KT BT, mF d p0 e0 v0 X Y Z] []) (.val (bl false) []) := by
  unfold cT mF
  by_cases h1 : Y.length ≤ 500
  · by_cases h2 : Z.length ≤ 500
    · have h3 : ¬ X.length ≤ 500 := by omega
      clear h
      let t1 : Tp pr := .b (show (decide ((↑Y.length : Int) > (500 : Int))) = false by (simp; omega))
      let t3 : Tp pr := .b (show (decide ((↑Z.length : Int) > (500 : Int))) = false by (simp; omega))
      let t5 : Tp pr := .b (show (decide ((↑X.length : Int) > (500 : Int))) = true by (simp; omega))
      exact .tp [.i (rfl : ((↑Y.length : Int)) = _), t1, .i (rfl : ((↑Z.length : Int)) = _), t3, .i (rfl : ((↑X.length : Int)) = _), t5] (by kernel_rfl)
    · clear h
      let t1 : Tp pr := .b (show (decide ((↑Y.length : Int) > (500 : Int))) = false by (simp; omega))
      let t3 : Tp pr := .b (show (decide ((↑Z.length : Int) > (500 : Int))) = true by (simp; omega))
      exact .tp [.i (rfl : ((↑Y.length : Int)) = _), t1, .i (rfl : ((↑Z.length : Int)) = _), t3, .bT] (by kernel_rfl)
  · clear h
    let t1 : Tp pr := .b (show (decide ((↑Y.length : Int) > (500 : Int))) = true by (simp; omega))
    exact .tp [.i (rfl : ((↑Y.length : Int)) = _), t1, .bT, .bT] (by kernel_rfl)
variable (hX : X.length ≤ 500) (hY : Y.length ≤ 500) (hZ : Z.length ≤ 500)
include hX hY hZ
theorem sgB (g : sg0S L KT BT d p0 e0 v0 X Y Z 0 (sg0O L KT BT d p0 e0 v0 X Y Z false)) : Ev pr (.call 63 [cT L KT BT, mF d p0 e0 v0 X Y Z] []) (.val (bl false) []) := by
  rw [show sg0O L KT BT d p0 e0 v0 X Y Z false = .ret (at_ [(4, bl false)] [] 0) from rfl] at g
  unfold sg0S bxM cT mF at *
  let t1 : Tp pr := .b (show (decide ((↑Y.length : Int) > (500 : Int))) = false by (simp; omega))
  let t3 : Tp pr := .b (show (decide ((↑Z.length : Int) > (500 : Int))) = false by (simp; omega))
  let t5 : Tp pr := .b (show (decide ((↑X.length : Int) > (500 : Int))) = false by (simp; omega))
  exact .tp [.i (rfl : ((↑Y.length : Int)) = _), t1, .i (rfl : ((↑Z.length : Int)) = _), t3, .i (rfl : ((↑X.length : Int)) = _), t5, .i (rfl : ((↑Z.length : Int)) = _), .a (g)] (by kernel_rfl)
variable (g : sg0S L KT BT d p0 e0 v0 X Y Z 0 (sg0O L KT BT d p0 e0 v0 X Y Z true))
include g
theorem sgV (g1 : sg1S L KT BT d p0 e0 v0 X Y Z 0 (sg1O L KT BT d p0 e0 v0 X Y Z false)) : Ev pr (.call 63 [cT L KT BT, mF d p0 e0 v0 X Y Z] []) (.val (bl false) []) := by
  rw [show sg0O L KT BT d p0 e0 v0 X Y Z true = .exit 0 (at_ [(0, cT L KT BT), (3, .ptr 0 1 0 0)] [bxM d p0 e0 v0 X Y Z] 0) from rfl] at g
  rw [show sg1O L KT BT d p0 e0 v0 X Y Z false = .ret (at_ [(4, bl false)] [] 0) from rfl] at g1
  unfold sg0S sg1S bxM cT mF at *
  let t1 : Tp pr := .b (show (decide ((↑Y.length : Int) > (500 : Int))) = false by (simp; omega))
  let t3 : Tp pr := .b (show (decide ((↑Z.length : Int) > (500 : Int))) = false by (simp; omega))
  let t5 : Tp pr := .b (show (decide ((↑X.length : Int) > (500 : Int))) = false by (simp; omega))
  exact .tp [.i (rfl : ((↑Y.length : Int)) = _), t1, .i (rfl : ((↑Z.length : Int)) = _), t3, .i (rfl : ((↑X.length : Int)) = _), t5, .i (rfl : ((↑Z.length : Int)) = _), .a (g), .i (rfl : ((↑Y.length : Int)) = _), .a (g1)] (by kernel_rfl)
variable (g1 : sg1S L KT BT d p0 e0 v0 X Y Z 0 (sg1O L KT BT d p0 e0 v0 X Y Z true))
include g1
theorem sgF (g2 : sg2S L KT BT d p0 e0 v0 X Y Z 0 (sg2O L KT BT d p0 e0 v0 X Y Z false)) : Ev pr (.call 63 [cT L KT BT, mF d p0 e0 v0 X Y Z] []) (.val (bl false) []) := by
  rw [show sg0O L KT BT d p0 e0 v0 X Y Z true = .exit 0 (at_ [(0, cT L KT BT), (3, .ptr 0 1 0 0)] [bxM d p0 e0 v0 X Y Z] 0) from rfl] at g
  rw [show sg1O L KT BT d p0 e0 v0 X Y Z true = .exit 2 (at_ [(0, cT L KT BT), (3, .ptr 0 1 0 0)] [bxM d p0 e0 v0 X Y Z] 0) from rfl] at g1
  rw [show sg2O L KT BT d p0 e0 v0 X Y Z false = .ret (at_ [(4, bl false)] [] 0) from rfl] at g2
  unfold sg0S sg1S sg2S bxM cT mF at *
  let t1 : Tp pr := .b (show (decide ((↑Y.length : Int) > (500 : Int))) = false by (simp; omega))
  let t3 : Tp pr := .b (show (decide ((↑Z.length : Int) > (500 : Int))) = false by (simp; omega))
  let t5 : Tp pr := .b (show (decide ((↑X.length : Int) > (500 : Int))) = false by (simp; omega))
  exact .tp [.i (rfl : ((↑Y.length : Int)) = _), t1, .i (rfl : ((↑Z.length : Int)) = _), t3, .i (rfl : ((↑X.length : Int)) = _), t5, .i (rfl : ((↑Z.length : Int)) = _), .a (g), .i (rfl : ((↑Y.length : Int)) = _), .a (g1), .i (rfl : ((↑X.length : Int)) = _), .a (g2)] (by kernel_rfl)
variable (g2 : sg2S L KT BT d p0 e0 v0 X Y Z 0 (sg2O L KT BT d p0 e0 v0 X Y Z true))
include g2
theorem sgT (hd : d = false) (h : v0 = -1) (b : Bool) (g3 : Ev pr (.call 126 [cT L KT BT, mF d p0 e0 v0 X Y Z, i64 p0, i64 e0] []) (.val (bl b) [])) : Ev pr (.call 63 [cT L KT BT, mF d p0 e0 v0 X Y Z] []) (.val (bl b) []) := by
  subst hd h
  rw [show sg0O L KT BT false p0 e0 (-1) X Y Z true = .exit 0 (at_ [(0, cT L KT BT), (3, .ptr 0 1 0 0)] [bxM false p0 e0 (-1) X Y Z] 0) from rfl] at g
  rw [show sg1O L KT BT false p0 e0 (-1) X Y Z true = .exit 2 (at_ [(0, cT L KT BT), (3, .ptr 0 1 0 0)] [bxM false p0 e0 (-1) X Y Z] 0) from rfl] at g1
  rw [show sg2O L KT BT false p0 e0 (-1) X Y Z true = .exit 4 (at_ [(0, cT L KT BT), (3, .ptr 0 1 0 0)] [bxM false p0 e0 (-1) X Y Z] 0) from rfl] at g2
  unfold sg0S sg1S sg2S bxM cT mF at *
  let t1 : Tp pr := .b (show (decide ((↑Y.length : Int) > (500 : Int))) = false by (simp; omega))
  let t3 : Tp pr := .b (show (decide ((↑Z.length : Int) > (500 : Int))) = false by (simp; omega))
  let t5 : Tp pr := .b (show (decide ((↑X.length : Int) > (500 : Int))) = false by (simp; omega))
  exact .tp [.i (rfl : ((↑Y.length : Int)) = _), t1, .i (rfl : ((↑Z.length : Int)) = _), t3, .i (rfl : ((↑X.length : Int)) = _), t5, .i (rfl : ((↑Z.length : Int)) = _), .a (g), .i (rfl : ((↑Y.length : Int)) = _), .a (g1), .i (rfl : ((↑X.length : Int)) = _), .a (g2), .bF, .bT, .a (g3)] (by kernel_rfl)
theorem sgT2 (hd : d = false) (h : ¬ v0 = -1) : Ev pr (.call 63 [cT L KT BT, mF d p0 e0 v0 X Y Z] []) (.val (bl false) []) := by
  subst hd
  rw [show sg0O L KT BT false p0 e0 v0 X Y Z true = .exit 0 (at_ [(0, cT L KT BT), (3, .ptr 0 1 0 0)] [bxM false p0 e0 v0 X Y Z] 0) from rfl] at g
  rw [show sg1O L KT BT false p0 e0 v0 X Y Z true = .exit 2 (at_ [(0, cT L KT BT), (3, .ptr 0 1 0 0)] [bxM false p0 e0 v0 X Y Z] 0) from rfl] at g1
  rw [show sg2O L KT BT false p0 e0 v0 X Y Z true = .exit 4 (at_ [(0, cT L KT BT), (3, .ptr 0 1 0 0)] [bxM false p0 e0 v0 X Y Z] 0) from rfl] at g2
  unfold sg0S sg1S sg2S bxM cT mF at *
  let t1 : Tp pr := .b (show (decide ((↑Y.length : Int) > (500 : Int))) = false by (simp; omega))
  let t3 : Tp pr := .b (show (decide ((↑Z.length : Int) > (500 : Int))) = false by (simp; omega))
  let t5 : Tp pr := .b (show (decide ((↑X.length : Int) > (500 : Int))) = false by (simp; omega))
  let t13 : Tp pr := .b (show (decide (v0 = (-1 : Int))) = false by (simp; omega))
  exact .tp [.i (rfl : ((↑Y.length : Int)) = _), t1, .i (rfl : ((↑Z.length : Int)) = _), t3, .i (rfl : ((↑X.length : Int)) = _), t5, .i (rfl : ((↑Z.length : Int)) = _), .a (g), .i (rfl : ((↑Y.length : Int)) = _), .a (g1), .i (rfl : ((↑X.length : Int)) = _), .a (g2), .bF, t13] (by kernel_rfl)
theorem sgD1 (hd : d = true) (h : ¬ p0 = -1) : Ev pr (.call 63 [cT L KT BT, mF d p0 e0 v0 X Y Z] []) (.val (bl false) []) := by
  subst hd
  rw [show sg0O L KT BT true p0 e0 v0 X Y Z true = .exit 0 (at_ [(0, cT L KT BT), (3, .ptr 0 1 0 0)] [bxM true p0 e0 v0 X Y Z] 0) from rfl] at g
  rw [show sg1O L KT BT true p0 e0 v0 X Y Z true = .exit 2 (at_ [(0, cT L KT BT), (3, .ptr 0 1 0 0)] [bxM true p0 e0 v0 X Y Z] 0) from rfl] at g1
  rw [show sg2O L KT BT true p0 e0 v0 X Y Z true = .exit 4 (at_ [(0, cT L KT BT), (3, .ptr 0 1 0 0)] [bxM true p0 e0 v0 X Y Z] 0) from rfl] at g2
  unfold sg0S sg1S sg2S bxM cT mF at *
  let t1 : Tp pr := .b (show (decide ((↑Y.length : Int) > (500 : Int))) = false by (simp; omega))
  let t3 : Tp pr := .b (show (decide ((↑Z.length : Int) > (500 : Int))) = false by (simp; omega))
  let t5 : Tp pr := .b (show (decide ((↑X.length : Int) > (500 : Int))) = false by (simp; omega))
  let t13 : Tp pr := .b (show (decide (p0 = (-1 : Int))) = false by (simp; omega))
  exact .tp [.i (rfl : ((↑Y.length : Int)) = _), t1, .i (rfl : ((↑Z.length : Int)) = _), t3, .i (rfl : ((↑X.length : Int)) = _), t5, .i (rfl : ((↑Z.length : Int)) = _), .a (g), .i (rfl : ((↑Y.length : Int)) = _), .a (g1), .i (rfl : ((↑X.length : Int)) = _), .a (g2), .bT, t13, .bF] (by kernel_rfl)
theorem sgD2 (hd : d = true) (hp : p0 = -1) (h : ¬ e0 = -1) : Ev pr (.call 63 [cT L KT BT, mF d p0 e0 v0 X Y Z] []) (.val (bl false) []) := by
  subst hd hp
  rw [show sg0O L KT BT true (-1) e0 v0 X Y Z true = .exit 0 (at_ [(0, cT L KT BT), (3, .ptr 0 1 0 0)] [bxM true (-1) e0 v0 X Y Z] 0) from rfl] at g
  rw [show sg1O L KT BT true (-1) e0 v0 X Y Z true = .exit 2 (at_ [(0, cT L KT BT), (3, .ptr 0 1 0 0)] [bxM true (-1) e0 v0 X Y Z] 0) from rfl] at g1
  rw [show sg2O L KT BT true (-1) e0 v0 X Y Z true = .exit 4 (at_ [(0, cT L KT BT), (3, .ptr 0 1 0 0)] [bxM true (-1) e0 v0 X Y Z] 0) from rfl] at g2
  unfold sg0S sg1S sg2S bxM cT mF at *
  let t1 : Tp pr := .b (show (decide ((↑Y.length : Int) > (500 : Int))) = false by (simp; omega))
  let t3 : Tp pr := .b (show (decide ((↑Z.length : Int) > (500 : Int))) = false by (simp; omega))
  let t5 : Tp pr := .b (show (decide ((↑X.length : Int) > (500 : Int))) = false by (simp; omega))
  let t14 : Tp pr := .b (show (decide (e0 = (-1 : Int))) = false by (simp; omega))
  exact .tp [.i (rfl : ((↑Y.length : Int)) = _), t1, .i (rfl : ((↑Z.length : Int)) = _), t3, .i (rfl : ((↑X.length : Int)) = _), t5, .i (rfl : ((↑Z.length : Int)) = _), .a (g), .i (rfl : ((↑Y.length : Int)) = _), .a (g1), .i (rfl : ((↑X.length : Int)) = _), .a (g2), .bT, .bT, t14] (by kernel_rfl)
theorem sgD3 (hd : d = true) (hp : p0 = -1) (he : e0 = -1) (b : Bool) (g3 : Ev pr (.call 125 [mF d p0 e0 v0 X Y Z, i64 v0] []) (.val (bl b) [])) : Ev pr (.call 63 [cT L KT BT, mF d p0 e0 v0 X Y Z] []) (.val (bl b) []) := by
  subst hd hp he
  rw [show sg0O L KT BT true (-1) (-1) v0 X Y Z true = .exit 0 (at_ [(0, cT L KT BT), (3, .ptr 0 1 0 0)] [bxM true (-1) (-1) v0 X Y Z] 0) from rfl] at g
  rw [show sg1O L KT BT true (-1) (-1) v0 X Y Z true = .exit 2 (at_ [(0, cT L KT BT), (3, .ptr 0 1 0 0)] [bxM true (-1) (-1) v0 X Y Z] 0) from rfl] at g1
  rw [show sg2O L KT BT true (-1) (-1) v0 X Y Z true = .exit 4 (at_ [(0, cT L KT BT), (3, .ptr 0 1 0 0)] [bxM true (-1) (-1) v0 X Y Z] 0) from rfl] at g2
  unfold sg0S sg1S sg2S bxM cT mF at *
  let t1 : Tp pr := .b (show (decide ((↑Y.length : Int) > (500 : Int))) = false by (simp; omega))
  let t3 : Tp pr := .b (show (decide ((↑Z.length : Int) > (500 : Int))) = false by (simp; omega))
  let t5 : Tp pr := .b (show (decide ((↑X.length : Int) > (500 : Int))) = false by (simp; omega))
  exact .tp [.i (rfl : ((↑Y.length : Int)) = _), t1, .i (rfl : ((↑Z.length : Int)) = _), t3, .i (rfl : ((↑X.length : Int)) = _), t5, .i (rfl : ((↑Z.length : Int)) = _), .a (g), .i (rfl : ((↑Y.length : Int)) = _), .a (g1), .i (rfl : ((↑X.length : Int)) = _), .a (g2), .bT, .bT, .bT, .a (g3)] (by kernel_rfl)
end
def cV (c : Cd) : V := cT (c.cells.map Cell.ce) (c.kids.map kT) (c.bounds.map intt)
def mV0 (m : Mc) : V := mF m.done m.pl m.env m.val (m.frs.reverse.map Frm.ce) (m.vals.map Vl.ce) (m.bds.map Bd.ce)
theorem part_ev (c : Cd) (hc : CdOk c) (m : Mc) (hd : Down m.bds) (hb : m.bds.length ≤ 500) (p e : Int) : Ev pr (.call 126 [cV c, mV0 m, i64 p, i64 e] []) (.val (bl (fitsB c m.bds p e)) []) := by
  have hl := hc.len
  have hbl := hc.bounds
  have hbl2 : (c.bounds.map intt).length = (c.cells.map Cell.ce).length := by simpa using hbl
  have hl2 : (c.cells.map Cell.ce).length ≤ 600 := by simpa using hl
  have hb2 : (m.bds.map Bd.ce).length ≤ 500 := by simpa using hb
  unfold fitsB
  by_cases h1 : 0 ≤ p ∧ p < c.cells.length
  · rw [decide_eq_true h1, Bool.true_and]
    have h1' : p < ((c.cells.map Cell.ce).length : Int) := by simpa using h1.2
    have hlk := lkp_int c.bounds p h1.1 (by omega)
    by_cases h2 : -1 ≤ e ∧ e < m.bds.length
    · rw [decide_eq_true h2, Bool.true_and]
      have g := sbLoop m.done m.pl m.env m.val (m.frs.reverse.map Frm.ce) (m.vals.map Vl.ce) m.bds hd (e + 1).toNat e 0 h2.1 h2.2 (by omega) (by omega)
      rw [Nat.zero_add] at g
      have g2 := sBound _ _ _ _ _ _ _ e _ g
      exact sPart2 _ _ _ _ _ _ _ _ _ _ hl2 hb2 p e h1.1 h1' (by simpa using h2) _ _ hbl2 hlk g2
    · rw [decide_eq_false h2, Bool.false_and]
      exact sPart1 _ _ _ _ _ _ _ _ _ _ hl2 hb2 p e h1.1 h1' (by simpa using h2)
  · rw [decide_eq_false h1, Bool.false_and]
    exact sPart0 _ _ _ _ _ _ _ _ _ _ hl2 p e (by simpa using h1)
theorem sframe_ev (c : Cd) (hc : CdOk c) (m : Mc) (hd : Down m.bds) (hb : m.bds.length ≤ 500) (hv : m.vals.length ≤ 500) (f : Frm) : Ev pr (.call 128 [cV c, mV0 m, .agg [i64 f.kind, i64 f.pl, i64 f.env, i64 f.val]] []) (.val (bl (frmB c m.bds m.vals.length f)) []) := by
  have gf := part_ev c hc m hd hb f.pl f.env
  unfold frmB
  cases hfit : fitsB c m.bds f.pl f.env with
  | false =>
    rw [hfit] at gf
    rw [Bool.false_and]
    exact sfF _ _ _ _ _ _ _ _ _ _ _ _ _ _ gf
  | true =>
    rw [hfit] at gf
    rw [Bool.true_and]
    simp only [fitsB, Bool.and_eq_true, decide_eq_true_eq] at hfit
    have hce := lkp_ce c f.pl hfit.1.1 hfit.1.2
    have hp1 : f.pl < ((c.cells.map Cell.ce).length : Int) := by simpa using hfit.1.2
    by_cases hk : (c.at_ f.pl).kind = f.kind
    · rw [decide_eq_true hk, Bool.true_and]
      by_cases k1 : f.kind = 4 ∨ f.kind = 5
      · rw [if_pos k1]
        by_cases hw : f.val = -1
        · rw [decide_eq_true (by omega)]
          exact sfV1 _ _ _ _ _ _ _ _ _ _ _ _ _ f.val gf hfit.1.1 hp1 _ _ hce hk k1 hw
        · have gv := sVal m.done m.pl m.env m.val (m.frs.reverse.map Frm.ce) (m.vals.map Vl.ce) (m.bds.map Bd.ce) (by simpa using hv) f.val
          have := sfV2 _ _ _ _ _ _ _ _ _ _ _ _ _ f.val gf hfit.1.1 hp1 _ _ hce hk k1 hw _ gv
          rw [show (decide (f.val ≥ 0) && decide (f.val < ((m.vals.map Vl.ce).length : Int))) = decide (-1 ≤ f.val ∧ f.val < m.vals.length) by
            rw [Bool.eq_iff_iff]; simp; omega] at this
          exact this
      · rw [if_neg k1]
        by_cases k2 : f.kind = 6 ∨ f.kind = 7
        · rw [if_pos k2]
          exact sfI _ _ _ _ _ _ _ _ _ _ _ _ _ f.val gf hfit.1.1 hp1 _ _ hce hk k2
        · rw [if_neg k2]
          exact sfA _ _ _ _ _ _ _ _ _ _ _ _ _ f.val gf hfit.1.1 hp1 _ _ hce hk (by omega) (by omega) (by omega) (by omega)
    · rw [decide_eq_false hk, Bool.false_and]
      exact sfK _ _ _ _ _ _ _ _ _ _ _ _ _ f.val gf hfit.1.1 hp1 _ _ hce hk
theorem sg1Loop (c : Cd) (hc : CdOk c) (m : Mc) (hd : Down m.bds) (hb : m.bds.length ≤ 500) (hv : m.vals.length ≤ 500) : ∀ (r a : List Vl), m.vals = a ++ r →
    sg1S (c.cells.map Cell.ce) (c.kids.map kT) (c.bounds.map intt) m.done m.pl m.env m.val (m.frs.reverse.map Frm.ce) (m.vals.map Vl.ce) (m.bds.map Bd.ce) a.length (sg1O (c.cells.map Cell.ce) (c.kids.map kT) (c.bounds.map intt) m.done m.pl m.env m.val (m.frs.reverse.map Frm.ce) (m.vals.map Vl.ce) (m.bds.map Bd.ce) (vlsB c m.bds a.length r))
  | [], a, h => by
    have := sg1End (c.cells.map Cell.ce) (c.kids.map kT) (c.bounds.map intt) m.done m.pl m.env m.val (m.frs.reverse.map Frm.ce) (m.vals.map Vl.ce) (m.bds.map Bd.ce)
    have hl : a.length = (m.vals.map Vl.ce).length := by rw [h]; simp
    rw [hl]
    exact this
  | w :: r, a, h => by
    have hY : (m.vals.map Vl.ce).length ≤ 500 := by simpa using hv
    have hi : a.length < (m.vals.map Vl.ce).length := by rw [h]; simp
    have hl : (m.vals.map Vl.ce)[a.length]? = some [.bool w.fn, .int .i64 w.num, .int .i64 w.pl, .int .i64 w.env] := by rw [h]; simp [Vl.ce]
    have ih := sg1Loop c hc m hd hb hv r (a ++ [w]) (by rw [h]; simp)
    rw [List.length_append, List.length_singleton] at ih
    unfold vlsB vlB
    cases hf : w.fn with
    | false =>
      rw [hf] at hl
      rw [if_neg (by simp)]
      by_cases hp : w.pl = 0
      · by_cases he : w.env = 0
        · by_cases hn : -1000000 ≤ w.num ∧ w.num ≤ 1000000
          · rw [decide_eq_true hn, decide_eq_true hp, decide_eq_true he, Bool.true_and, Bool.true_and, Bool.true_and]
            exact sg1N4 _ _ _ _ _ _ _ _ _ _ hY _ hi _ _ _ hl hp he hn _ ih
          · rw [decide_eq_false hn, Bool.false_and, Bool.false_and]
            exact sg1N3 _ _ _ _ _ _ _ _ _ _ hY _ hi _ _ _ hl hp he hn
        · rw [decide_eq_false he, Bool.and_false, Bool.and_false, Bool.false_and]
          exact sg1N2 _ _ _ _ _ _ _ _ _ _ hY _ hi _ _ _ hl hp he
      · rw [decide_eq_false hp, Bool.false_and, Bool.and_false, Bool.false_and]
        exact sg1N1 _ _ _ _ _ _ _ _ _ _ hY _ hi _ _ _ hl hp
    | true =>
      rw [hf] at hl
      rw [if_pos rfl]
      by_cases hn : w.num = 0
      · rw [decide_eq_true hn, Bool.true_and]
        have gf := part_ev c hc m hd hb w.pl w.env
        cases hfit : fitsB c m.bds w.pl w.env with
        | false =>
          rw [hfit] at gf
          rw [Bool.false_and, Bool.false_and]
          exact sg1F2 _ _ _ _ _ _ _ _ _ _ hY _ hi _ _ _ hl hn gf
        | true =>
          rw [hfit] at gf
          rw [Bool.true_and]
          simp only [fitsB, Bool.and_eq_true, decide_eq_true_eq] at hfit
          have hce := lkp_ce c w.pl hfit.1.1 hfit.1.2
          have hp1 : w.pl < ((c.cells.map Cell.ce).length : Int) := by simpa using hfit.1.2
          by_cases hk3 : (c.at_ w.pl).kind = 3
          · rw [decide_eq_true hk3, Bool.true_and]
            have ge := sElder _ _ _ _ _ _ _ _ _ _ (seLoop m.done m.pl m.env m.val (m.frs.reverse.map Frm.ce) (m.vals.map Vl.ce) m.bds hd a.length (w.env + 1).toNat w.env hfit.2.1.1 hfit.2.1.2 (by omega))
            cases hel : elderB m.bds a.length (w.env + 1).toNat w.env with
            | false =>
              rw [hel] at ge
              rw [Bool.false_and]
              exact sg1F4 _ _ _ _ _ _ _ _ _ _ hY _ hi _ _ _ hl gf hfit.1.1 hp1 _ _ hce hn hk3 ge
            | true =>
              rw [hel] at ge
              rw [Bool.true_and]
              exact sg1F5 _ _ _ _ _ _ _ _ _ _ hY _ hi _ _ _ hl gf hfit.1.1 hp1 _ _ hce hn hk3 ge _ ih
          · rw [decide_eq_false hk3, Bool.false_and, Bool.false_and]
            exact sg1F3 _ _ _ _ _ _ _ _ _ _ hY _ hi _ _ _ hl gf hfit.1.1 hp1 _ _ hce hn hk3
      · rw [decide_eq_false hn, Bool.false_and, Bool.false_and]
        exact sg1F1 _ _ _ _ _ _ _ _ _ _ hY _ hi _ _ _ hl hn
theorem sg2Loop (c : Cd) (hc : CdOk c) (m : Mc) (hd : Down m.bds) (hb : m.bds.length ≤ 500) (hv : m.vals.length ≤ 500) (hf : m.frs.length ≤ 500) : ∀ (r a : List Frm), m.frs.reverse = a ++ r →
    sg2S (c.cells.map Cell.ce) (c.kids.map kT) (c.bounds.map intt) m.done m.pl m.env m.val (m.frs.reverse.map Frm.ce) (m.vals.map Vl.ce) (m.bds.map Bd.ce) a.length (sg2O (c.cells.map Cell.ce) (c.kids.map kT) (c.bounds.map intt) m.done m.pl m.env m.val (m.frs.reverse.map Frm.ce) (m.vals.map Vl.ce) (m.bds.map Bd.ce) (frsB c m.bds m.vals.length r))
  | [], a, h => by
    have := sg2End (c.cells.map Cell.ce) (c.kids.map kT) (c.bounds.map intt) m.done m.pl m.env m.val (m.frs.reverse.map Frm.ce) (m.vals.map Vl.ce) (m.bds.map Bd.ce)
    have hl : a.length = (m.frs.reverse.map Frm.ce).length := by rw [h]; simp
    rw [hl]
    exact this
  | w :: r, a, h => by
    have hX : (m.frs.reverse.map Frm.ce).length ≤ 500 := by simpa using hf
    have hi : a.length < (m.frs.reverse.map Frm.ce).length := by rw [h]; simp
    have hl : (m.frs.reverse.map Frm.ce)[a.length]? = some [.int .i64 w.kind, .int .i64 w.pl, .int .i64 w.env, .int .i64 w.val] := by rw [h]; simp [Frm.ce]
    have g := sframe_ev c hc m hd hb hv w
    unfold frsB
    cases hw : frmB c m.bds m.vals.length w with
    | false =>
      rw [hw] at g
      rw [Bool.false_and]
      exact sg2No _ _ _ _ _ _ _ _ _ _ hX _ hi _ _ _ _ hl g
    | true =>
      rw [hw] at g
      rw [Bool.true_and]
      have ih := sg2Loop c hc m hd hb hv hf r (a ++ [w]) (by rw [h]; simp)
      rw [List.length_append, List.length_singleton] at ih
      exact sg2Go _ _ _ _ _ _ _ _ _ _ hX _ hi _ _ _ _ hl g _ ih
theorem sgood_ev (c : Cd) (hc : CdOk c) (m : Mc) (hF : m.frs.length ≤ 1048576) (hV : m.vals.length ≤ 1048576) (hB : m.bds.length ≤ 1048576) : Ev pr (.call 63 [cV c, mV0 m] []) (.val (bl (goodB c m)) []) := by
  unfold goodB
  by_cases hl : m.vals.length ≤ 500 ∧ m.bds.length ≤ 500 ∧ m.frs.length ≤ 500
  · rw [decide_eq_true hl, Bool.true_and]
    obtain ⟨lv, lb, lf⟩ := hl
    have x1 : (m.frs.reverse.map Frm.ce).length ≤ 500 := by simpa using lf
    have x2 : (m.vals.map Vl.ce).length ≤ 500 := by simpa using lv
    have x3 : (m.bds.map Bd.ce).length ≤ 500 := by simpa using lb
    have g0 := sg0Loop (c.cells.map Cell.ce) (c.kids.map kT) (c.bounds.map intt) m.done m.pl m.env m.val (m.frs.reverse.map Frm.ce) (m.vals.map Vl.ce) x2 m.bds lb m.bds [] rfl
    rw [List.length_nil, List.length_map] at g0
    cases hbd : bdsB m.vals.length 0 m.bds with
    | false =>
      rw [hbd] at g0
      rw [Bool.false_and]
      exact sgB _ _ _ _ _ _ _ _ _ _ x1 x2 x3 g0
    | true =>
      rw [hbd] at g0
      rw [Bool.true_and]
      have hd := down_of hbd
      have g1 := sg1Loop c hc m hd lb lv m.vals [] rfl
      rw [List.length_nil] at g1
      cases hvs : vlsB c m.bds 0 m.vals with
      | false =>
        rw [hvs] at g1
        rw [Bool.false_and]
        exact sgV _ _ _ _ _ _ _ _ _ _ x1 x2 x3 g0 g1
      | true =>
        rw [hvs] at g1
        rw [Bool.true_and]
        have g2 := sg2Loop c hc m hd lb lv lf m.frs.reverse [] rfl
        rw [List.length_nil] at g2
        cases hfs : frsB c m.bds m.vals.length m.frs.reverse with
        | false =>
          rw [hfs] at g2
          rw [Bool.false_and]
          exact sgF _ _ _ _ _ _ _ _ _ _ x1 x2 x3 g0 g1 g2
        | true =>
          rw [hfs] at g2
          rw [Bool.true_and]
          unfold endB
          cases hdn : m.done with
          | false =>
            rw [if_neg (by simp)]
            by_cases hv1 : m.val = -1
            · rw [decide_eq_true hv1, Bool.true_and]
              exact sgT _ _ _ _ _ _ _ _ _ _ x1 x2 x3 g0 g1 g2 hdn hv1 _ (part_ev c hc m hd lb m.pl m.env)
            · rw [decide_eq_false hv1, Bool.false_and]
              exact sgT2 _ _ _ _ _ _ _ _ _ _ x1 x2 x3 g0 g1 g2 hdn hv1
          | true =>
            rw [if_pos rfl]
            by_cases hp1 : m.pl = -1
            · by_cases he1 : m.env = -1
              · rw [decide_eq_true hp1, decide_eq_true he1, Bool.true_and, Bool.true_and]
                have := sgD3 _ _ _ _ _ _ _ _ _ _ x1 x2 x3 g0 g1 g2 hdn hp1 he1 _ (sVal _ _ _ _ _ _ _ x2 _)
                rw [show (decide (m.val ≥ 0) && decide (m.val < ((m.vals.map Vl.ce).length : Int))) = decide (0 ≤ m.val ∧ m.val < m.vals.length) by
                  rw [Bool.eq_iff_iff]; simp] at this
                exact this
              · rw [decide_eq_false he1, Bool.false_and, Bool.and_false]
                exact sgD2 _ _ _ _ _ _ _ _ _ _ x1 x2 x3 g0 g1 g2 hdn hp1 he1
            · rw [decide_eq_false hp1, Bool.false_and]
              exact sgD1 _ _ _ _ _ _ _ _ _ _ x1 x2 x3 g0 g1 g2 hdn hp1
  · rw [decide_eq_false hl, Bool.false_and]
    exact sgLong _ _ _ _ _ _ _ _ _ _ (by simpa using hF) (by simpa using hV) (by simpa using hB) (by simpa using hl)
end Go.Ev

namespace Go.Ev
set_option linter.unusedVariables false
set_option linter.unusedSimpArgs false
open Go.Proofs
set_option maxRecDepth 100000
set_option maxHeartbeats 4000000
def stpM (l : List Cell) (m : Mc) : Option Mc :=
  match codeOf l with
  | none => none
  | some t => if goodB t.cd m = true then (match m.step t.cd with
    | .ok m' => some m'
    | _ => none) else none
def smIO (jk : List Frm) : Option Mc → Out
  | none => .val (.tup [mZ, bl false]) []
  | some m => .val (.tup [.agg [bl m.done, i64 m.pl, i64 m.env, i64 m.val, .vec 0 ((m.frs.reverse ++ jk).map Frm.cc).length 4 0 m.frs.length, .vec 1 (m.vals.map Vl.cc).length 4 0 (m.vals.map Vl.cc).length, .vec 2 (m.bds.map Bd.cc).length 2 0 (m.bds.map Bd.cc).length], bl true]) [.vec true 4 ((m.frs.reverse ++ jk).map Frm.cc), .vec true 4 (m.vals.map Vl.cc), .vec true 2 (m.bds.map Bd.cc)]
def smSO : Option Mc → Out
  | none => .val (.tup [mF false 0 0 0 [] [] [], bl false]) []
  | some m => .val (.tup [mF m.done m.pl m.env m.val (m.frs.reverse.map Frm.ce) (m.vals.map Vl.ce) (m.bds.map Bd.ce), bl true]) []
theorem sm_bad (L : List (List T)) (d : Bool) (p e v : Int) (X Y Z : List (List T)) (g : Ev pr (.call 13 [.t (.seq 2 L), mF d p e v X Y Z] []) (.val (bl false) [])) : Ev pr (.call 20 [.t (.seq 2 L), mF d p e v X Y Z] []) (.val (.tup [mZ, bl false]) []) := by
  unfold mF mZ at *
  exact .tp [.a (g), .bT] (by kernel_rfl)
section
variable (cells : List Cell) (S B : List Int) (hS : S.length = cells.length) (hB : B.length = cells.length) (d : Bool) (p e v : Int) (X Y Z : List (List T)) (hX : X.length ≤ 1000) (hY : Y.length ≤ 1000) (hZ : Z.length ≤ 1000)
  (g : Ev pr (.call 46 [.t (.seq 2 (cells.map Cell.ce))] []) (.val (.ptr 0 1 0 0) (mB cells S B)))
  (gg : Ev pr (.call 13 [.t (.seq 2 (cells.map Cell.ce)), mF d p e v X Y Z] []) (.val (bl true) []))
  (L2 : List (List T)) (n2 : Nat) (S2 B2 : List (List C)) (d2 : Bool) (p2 e2 v2 : Int) (lF2 : Nat) (F2 V2 D2 : List (List C)) (lg2 : Bool)
include hS hB hX hY hZ g gg
theorem sm_no (gs : Ev pr (.call 50 [.ptr 0 1 0 0] (eS (cells.map Cell.ce) cells.length (ints S) (ints B) d p e v X.length (X.map (List.map C.t)) (Y.map (List.map C.t)) (Z.map (List.map C.t)) false)) (.val (bl false) (eS L2 n2 S2 B2 d2 p2 e2 v2 lF2 F2 V2 D2 lg2))) :
    Ev pr (.call 20 [.t (.seq 2 (cells.map Cell.ce)), mF d p e v X Y Z] []) (.val (.tup [mZ, bl false]) []) := by
  have gc := cloneMachine_ev d p e v X Y Z hX hY hZ
  have e1 : (X.map (List.map C.t)).length = X.length := by simp
  have e2 : (Y.map (List.map C.t)).length = Y.length := by simp
  have e3 : (Z.map (List.map C.t)).length = Z.length := by simp
  unfold mF mZ mB eS at *
  rw [hS, hB] at g
  rw [e1, e2, e3] at gs
  generalize X.map (List.map C.t) = F at *
  generalize Y.map (List.map C.t) = W at *
  generalize Z.map (List.map C.t) = D at *
  exact .tp [.a (gg), .bF, .a (g), .a (gc), .a (gs), .bT] (by kernel_rfl)
theorem sm_yes (gs : Ev pr (.call 50 [.ptr 0 1 0 0] (eS (cells.map Cell.ce) cells.length (ints S) (ints B) d p e v X.length (X.map (List.map C.t)) (Y.map (List.map C.t)) (Z.map (List.map C.t)) false)) (.val (bl true) (eS L2 n2 S2 B2 d2 p2 e2 v2 lF2 F2 V2 D2 lg2))) :
    Ev pr (.call 20 [.t (.seq 2 (cells.map Cell.ce)), mF d p e v X Y Z] []) (.val (.tup [.agg [bl d2, i64 p2, i64 e2, i64 v2, .vec 0 F2.length 4 0 lF2, .vec 1 V2.length 4 0 V2.length, .vec 2 D2.length 2 0 D2.length], bl true]) [.vec true 4 F2, .vec true 4 V2, .vec true 2 D2]) := by
  have gc := cloneMachine_ev d p e v X Y Z hX hY hZ
  have e1 : (X.map (List.map C.t)).length = X.length := by simp
  have e2 : (Y.map (List.map C.t)).length = Y.length := by simp
  have e3 : (Z.map (List.map C.t)).length = Z.length := by simp
  unfold mF mB eS at *
  rw [hS, hB] at g
  rw [e1, e2, e3] at gs
  generalize X.map (List.map C.t) = F at *
  generalize Y.map (List.map C.t) = W at *
  generalize Z.map (List.map C.t) = D at *
  exact .tp [.a (gg), .bF, .a (g), .a (gc), .a (gs), .bF] (by kernel_rfl)
end
theorem StepMachineI_ev (l : List Cell) (m : Mc) (h2 : l.length ≤ 1048576) (hF : m.frs.length ≤ 1048576) (hV : m.vals.length ≤ 1048576) (hB : m.bds.length ≤ 1048576) :
    ∃ jk : List Frm, (∀ m', stpM l m = some m' → mSmall m' ∧ m'.frs.length + jk.length ≤ 500) ∧ Ev pr (.call 20 [.t (.seq 2 (l.map Cell.ce)), mV0 m] []) (smIO jk (stpM l m)) := by
  unfold stpM
  rcases newEngine_ev l h2 with ⟨e, g⟩ | ⟨t, e, hl, ho, hf, h6, g⟩
  · rw [e]
    exact ⟨[], fun m' h => (by cases h), sm_bad _ _ _ _ _ _ _ _ (gm_nil _ (.t .nilp) _ _ _ _ _ _ _ g)⟩
  · rw [e]
    dsimp only
    have hcd := cd_ok ho hf (by rw [← hl]; exact h6)
    have hS : t.sizes.length = l.length := by rw [sizes_len, ← hl]
    have hB2 : (t.bounds 0).length = l.length := by rw [bounds_len, ← hl]
    have hc : t.cd.cells = l := hl.symm
    have gg := good_ev t.cd hcd m false hF hV hB
    unfold eM at gg
    rw [hc] at gg
    have gm := gm_ok l t.sizes (t.bounds 0) hS hB2 m.done m.pl m.env m.val (m.frs.reverse.map Frm.ce) (m.vals.map Vl.ce) (m.bds.map Bd.ce) g (goodB t.cd m) (by
      rw [List.take_of_length_le (by simp [hS]), List.take_of_length_le (by simp [hB2])]
      exact gg)
    by_cases hg : goodB t.cd m = true
    · rw [if_pos hg]
      rw [hg] at gm
      have hG := good_of hcd hg
      have x1 : (m.frs.reverse.map Frm.ce).length ≤ 1000 := by have := hG.lf; simp; omega
      have x2 : (m.vals.map Vl.ce).length ≤ 1000 := by have := hG.lv; simp; omega
      have x3 : (m.bds.map Bd.ce).length ≤ 1000 := by have := hG.lb; simp; omega
      obtain ⟨jk, hj, hp⟩ := step_ev t.cd hcd m hG [] (by simpa using hG.lf) false
      have eq0 : eB t.cd m [] false = eS (l.map Cell.ce) l.length (ints t.sizes) (ints (t.bounds 0)) m.done m.pl m.env m.val (m.frs.reverse.map Frm.ce).length ((m.frs.reverse.map Frm.ce).map (List.map C.t)) ((m.vals.map Vl.ce).map (List.map C.t)) ((m.bds.map Bd.ce).map (List.map C.t)) false := by
        rw [frm_t, vl_t, bd_t, List.length_map, List.length_reverse]
        unfold eB
        rw [hc, List.append_nil]
        rfl
      rw [eq0] at hp
      cases hs : m.step t.cd with
      | ok m1 =>
        rw [hs] at hp hj
        have hG1 := step_good hcd hG hs
        refine ⟨jk, fun m' h => ?_, ?_⟩
        · obtain rfl := Option.some.inj h
          exact ⟨⟨hG1.lf, hG1.lv, hG1.lb⟩, hj⟩
        · exact sm_yes l _ _ hS hB2 _ _ _ _ _ _ _ x1 x2 x3 g gm _ _ _ _ _ _ _ _ _ _ _ _ _ hp
      | no =>
        rw [hs] at hp
        exact ⟨[], fun m' h => (by cases h), sm_no l _ _ hS hB2 _ _ _ _ _ _ _ x1 x2 x3 g gm _ _ _ _ _ _ _ _ _ _ _ _ _ hp⟩
      | full =>
        rw [hs] at hp
        exact ⟨[], fun m' h => (by cases h), sm_no l _ _ hS hB2 _ _ _ _ _ _ _ x1 x2 x3 g gm _ _ _ _ _ _ _ _ _ _ _ _ _ hp⟩
    · rw [if_neg hg]
      rw [show goodB t.cd m = false by simpa using hg] at gm
      exact ⟨[], fun m' h => (by cases h), sm_bad _ _ _ _ _ _ _ _ gm⟩
theorem st_nil (L : List (List T)) (d : Bool) (p e v : Int) (X Y Z : List (List T)) (g : Ev pr (.call 51 [.t (.seq 2 L)] []) (.val (.tup [.t .nilp, bl false]) [])) : Ev pr (.call 21 [.t (.seq 2 L), mF d p e v X Y Z] []) (smSO none) := by
  unfold smSO mF
  exact .tp [.a (g), .bT, .bT] (by kernel_rfl)
section
variable (L KT BT : List (List T)) (d : Bool) (p e v : Int) (X Y Z : List (List T)) (g : Ev pr (.call 51 [.t (.seq 2 L)] []) (.val (.tup [cT L KT BT, bl true]) []))
include g
theorem st_bad (gg : Ev pr (.call 63 [cT L KT BT, mF d p e v X Y Z] []) (.val (bl false) [])) : Ev pr (.call 21 [.t (.seq 2 L), mF d p e v X Y Z] []) (smSO none) := by
  unfold smSO mF cT at *
  exact .tp [.a (g), .bF, .a (gg), .bT] (by kernel_rfl)
variable (gg : Ev pr (.call 63 [cT L KT BT, mF d p e v X Y Z] []) (.val (bl true) [])) (hX : X.length ≤ 1000) (hY : Y.length ≤ 1000) (hZ : Z.length ≤ 1000) (d2 : Bool) (p2 e2 v2 : Int) (X2 Y2 Z2 : List (List T))
include gg hX hY hZ
theorem st_no (b b2 : Bool) (hb : (b && b2) = false) (gs : Ev pr (.call 64 [cT L KT BT, mA d p e v X.length (X.map (List.map C.t)) (Y.map (List.map C.t)) (Z.map (List.map C.t))] (mM (X.map (List.map C.t)) (Y.map (List.map C.t)) (Z.map (List.map C.t)))) (.val (.tup [mF d2 p2 e2 v2 X2 Y2 Z2, bl b, bl b2]) [.dead, .dead, .dead])) :
    Ev pr (.call 21 [.t (.seq 2 L), mF d p e v X Y Z] []) (smSO none) := by
  have g1 := l6OwnG_ev d p e v X Y Z hX hY hZ
  unfold smSO mF mA mM cT at *
  generalize X.map (List.map C.t) = F at *
  generalize Y.map (List.map C.t) = W at *
  generalize Z.map (List.map C.t) = D at *
  cases b with
  | false => exact .tp [.a (g), .bF, .a (gg), .bF, .a (g1), .a (gs), .bT, .bT] (by kernel_rfl)
  | true =>
    cases b2 with
    | false => exact .tp [.a (g), .bF, .a (gg), .bF, .a (g1), .a (gs), .bF, .bT] (by kernel_rfl)
    | true => simp at hb
theorem st_yes (hX2 : X2.length ≤ 1000) (hY2 : Y2.length ≤ 1000) (hZ2 : Z2.length ≤ 1000) (gs : Ev pr (.call 64 [cT L KT BT, mA d p e v X.length (X.map (List.map C.t)) (Y.map (List.map C.t)) (Z.map (List.map C.t))] (mM (X.map (List.map C.t)) (Y.map (List.map C.t)) (Z.map (List.map C.t)))) (.val (.tup [mF d2 p2 e2 v2 X2 Y2 Z2, bl true, bl true]) [.dead, .dead, .dead])) :
    Ev pr (.call 21 [.t (.seq 2 L), mF d p e v X Y Z] []) (.val (.tup [mF d2 p2 e2 v2 X2 Y2 Z2, bl true]) []) := by
  have g1 := l6OwnG_ev d p e v X Y Z hX hY hZ
  have go := l6OwnG_ev d2 p2 e2 v2 X2 Y2 Z2 hX2 hY2 hZ2
  have eX : (X2.map (List.map C.t)).map (List.map C.fz) = X2 := map_tc_fz2 X2
  have eY : (Y2.map (List.map C.t)).map (List.map C.fz) = Y2 := map_tc_fz2 Y2
  have eZ : (Z2.map (List.map C.t)).map (List.map C.fz) = Z2 := map_tc_fz2 Z2
  have lX : (X2.map (List.map C.t)).length = X2.length := by simp
  have lY : (Y2.map (List.map C.t)).length = Y2.length := by simp
  have lZ : (Z2.map (List.map C.t)).length = Z2.length := by simp
  have tX : List.take X2.length X2 = X2 := List.take_length
  have tY : List.take Y2.length Y2 = Y2 := List.take_length
  have tZ : List.take Z2.length Z2 = Z2 := List.take_length
  unfold mF mA mM cT at *
  rw [lX, lY, lZ] at go
  rw [← eX] at tX
  rw [← eY] at tY
  rw [← eZ] at tZ
  simp only [List.length_map] at tX tY tZ
  generalize X.map (List.map C.t) = F at *
  generalize Y.map (List.map C.t) = W at *
  generalize Z.map (List.map C.t) = D at *
  let t9 : Tp pr := .m (show (decide ((List.map (List.map C.t) X2).length = X2.length ∧ (0 : Nat) + X2.length ≤ X2.length)) = true by simp)
  let t10 : Tp pr := .n .rows (show (List.map (fun x => List.map C.fz x) (List.take X2.length (List.drop (0 : Nat) (List.map (List.map C.t) X2)))) = List.map ((fun x => List.map C.fz x) ∘ List.map C.t) X2 by simp)
  let t11 : Tp pr := .m (show (decide ((List.map (List.map C.t) Y2).length = Y2.length ∧ (0 : Nat) + Y2.length ≤ Y2.length)) = true by simp)
  let t12 : Tp pr := .n .rows (show (List.map (fun x => List.map C.fz x) (List.take Y2.length (List.drop (0 : Nat) (List.map (List.map C.t) Y2)))) = List.map ((fun x => List.map C.fz x) ∘ List.map C.t) Y2 by simp)
  let t13 : Tp pr := .m (show (decide ((List.map (List.map C.t) Z2).length = Z2.length ∧ (0 : Nat) + Z2.length ≤ Z2.length)) = true by simp)
  let t14 : Tp pr := .n .rows (show (List.map (fun x => List.map C.fz x) (List.take Z2.length (List.drop (0 : Nat) (List.map (List.map C.t) Z2)))) = List.map ((fun x => List.map C.fz x) ∘ List.map C.t) Z2 by simp)
  exact .tpe [.a (g), .bF, .a (gg), .bF, .a (g1), .a (gs), .bF, .bF, .a (go), t9, t10, t11, t12, t13, t14] (Out.val (V.tup [V.agg [V.t (T.bool d2), V.t (T.int IntKind.i64 p2), V.t (T.int IntKind.i64 e2), V.t (T.int IntKind.i64 v2), V.t (T.seq (4 : Nat) (List.map ((fun x => List.map C.fz x) ∘ List.map C.t) X2)), V.t (T.seq (4 : Nat) (List.map ((fun x => List.map C.fz x) ∘ List.map C.t) Y2)), V.t (T.seq (2 : Nat) (List.map ((fun x => List.map C.fz x) ∘ List.map C.t) Z2))], V.t (T.bool true)]) []) (by kernel_rfl) (((congrArg (fun x => Out.val (V.tup [V.agg [V.t (T.bool d2), V.t (T.int IntKind.i64 p2), V.t (T.int IntKind.i64 e2), V.t (T.int IntKind.i64 v2), V.t (T.seq (4 : Nat) x), V.t (T.seq (4 : Nat) (List.map ((fun x => List.map C.fz x) ∘ List.map C.t) Y2)), V.t (T.seq (2 : Nat) (List.map ((fun x => List.map C.fz x) ∘ List.map C.t) Z2))], V.t (T.bool true)]) []) (show (List.map ((fun x => List.map C.fz x) ∘ List.map C.t) X2) = (X2) by (simp at *; omega))).trans (congrArg (fun x => Out.val (V.tup [V.agg [V.t (T.bool d2), V.t (T.int IntKind.i64 p2), V.t (T.int IntKind.i64 e2), V.t (T.int IntKind.i64 v2), V.t (T.seq (4 : Nat) X2), V.t (T.seq (4 : Nat) x), V.t (T.seq (2 : Nat) (List.map ((fun x => List.map C.fz x) ∘ List.map C.t) Z2))], V.t (T.bool true)]) []) (show (List.map ((fun x => List.map C.fz x) ∘ List.map C.t) Y2) = (Y2) by (simp at *; omega)))).trans (congrArg (fun x => Out.val (V.tup [V.agg [V.t (T.bool d2), V.t (T.int IntKind.i64 p2), V.t (T.int IntKind.i64 e2), V.t (T.int IntKind.i64 v2), V.t (T.seq (4 : Nat) X2), V.t (T.seq (4 : Nat) Y2), V.t (T.seq (2 : Nat) x)], V.t (T.bool true)]) []) (show (List.map ((fun x => List.map C.fz x) ∘ List.map C.t) Z2) = (Z2) by (simp at *; omega))))
end
theorem StepMachineS_ev (l : List Cell) (m : Mc) (h2 : l.length ≤ 1048576) (hF : m.frs.length ≤ 1048576) (hV : m.vals.length ≤ 1048576) (hB : m.bds.length ≤ 1048576) : Ev pr (.call 21 [.t (.seq 2 (l.map Cell.ce)), mV0 m] []) (smSO (stpM l m)) := by
  unfold stpM
  rcases l6Of_ev l h2 with ⟨e, g⟩ | ⟨t, e, hl, ho, hf, h6, g⟩
  · rw [e]
    exact st_nil _ _ _ _ _ _ _ _ g
  · rw [e]
    dsimp only
    have hcd := cd_ok ho hf (by rw [← hl]; exact h6)
    have hcells : t.cd.cells = l := hl.symm
    have ht : V.t t.cd.tp = cT (l.map Cell.ce) (t.cd.kids.map kT) (t.cd.bounds.map intt) := by rw [hl]; rfl
    rw [ht] at g
    have gg := sgood_ev t.cd hcd m hF hV hB
    unfold cV at gg
    rw [hcells] at gg
    by_cases hg : goodB t.cd m = true
    · rw [if_pos hg]
      rw [hg] at gg
      have hG := good_of hcd hg
      have x1 : (m.frs.reverse.map Frm.ce).length ≤ 1000 := by have := hG.lf; simp; omega
      have x2 : (m.vals.map Vl.ce).length ≤ 1000 := by have := hG.lv; simp; omega
      have x3 : (m.bds.map Bd.ce).length ≤ 1000 := by have := hG.lb; simp; omega
      have st := l6Step_spec t.cd hcd m hG
      cases hs : m.step t.cd with
      | ok m' =>
        rw [hs] at st
        obtain ⟨d2, p2, e2, v2, X2, Y2, Z2, q1, q2, q3, hm, hgs⟩ := st
        rw [stA_eq, stM_eq, hcells] at hgs
        obtain ⟨rfl, rfl, rfl, rfl, rfl, rfl, rfl⟩ := hm
        exact st_yes _ _ _ _ _ _ _ _ _ _ g gg x1 x2 x3 _ _ _ _ _ _ _ (by omega) (by omega) (by omega) hgs
      | no =>
        rw [hs] at st
        obtain ⟨d2, p2, e2, v2, X2, Y2, Z2, q1, q2, q3, hm, hgs⟩ := st
        rw [stA_eq, stM_eq, hcells] at hgs
        exact st_no _ _ _ _ _ _ _ _ _ _ g gg x1 x2 x3 _ _ _ _ _ _ _ _ _ rfl hgs
      | full =>
        rw [hs] at st
        obtain ⟨d2, p2, e2, v2, X2, Y2, Z2, q1, q2, q3, hm, hgs⟩ := st
        rw [stA_eq, stM_eq, hcells] at hgs
        exact st_no _ _ _ _ _ _ _ _ _ _ g gg x1 x2 x3 _ _ _ _ _ _ _ _ _ rfl hgs
    · rw [if_neg hg]
      rw [show goodB t.cd m = false by simpa using hg] at gg
      exact st_bad _ _ _ _ _ _ _ _ _ _ g gg
end Go.Ev

namespace Go.Ev
set_option linter.unusedVariables false
set_option linter.unusedSimpArgs false
open Go.Proofs
set_option maxRecDepth 100000
set_option maxHeartbeats 4000000
def szFrm (l : List Frm) (n : Int) : Int := if n - l.length < 0 then -1 else n - l.length
theorem szFrmS_ev (l : List Frm) (n : Int) (h0 : 0 ≤ n) (h1 : n ≤ 1048576) (hl : l.length ≤ 9223372036854775807) : Ev pr (.call 73 [.t (.seq 4 (l.map Frm.ce)), i64 n] []) (.val (i64 (szFrm l n)) []) := by
  unfold szFrm
  by_cases h : n - l.length < 0
  · rw [if_pos h]
    let t0 : Tp pr := .i (show ((↑(List.map Frm.ce l).length : Int) : Int) = (↑l.length : Int) by simp)
    let t1 : Tp pr := .i (wrap_i64 (a := n - (↑l.length : Int)) (by omega) (by omega))
    let t2 : Tp pr := .b (show (decide (n - (↑l.length : Int) < (0 : Int))) = true by (simp; omega))
    exact .tp [t0, t1, t2] (by kernel_rfl)
  · rw [if_neg h]
    let t0 : Tp pr := .i (show ((↑(List.map Frm.ce l).length : Int) : Int) = (↑l.length : Int) by simp)
    let t1 : Tp pr := .i (wrap_i64 (a := n - (↑l.length : Int)) (by omega) (by omega))
    let t2 : Tp pr := .b (show (decide (n - (↑l.length : Int) < (0 : Int))) = false by (simp; omega))
    exact .tp [t0, t1, t2] (by kernel_rfl)
theorem toFrm_ev (x : Frm) : Ev pr (.call 140 [.agg (x.ce.map V.t)] []) (.val (.agg (x.ce.map V.t)) []) := by
  obtain ⟨a0, a1, a2, a3⟩ := x
  exact .tp [] (by kernel_rfl)
theorem toFrmL_ev : ∀ (rest m : List Frm), m.length + rest.length ≤ 1048576 → Ev pr (.loop (lq pr 77 0) (at_ [(0, .t (.seq 4 ((m ++ rest).map Frm.ce))), (3, .vec 0 (m.length + rest.length) 4 0 (m.length + rest.length)), (4, i64 m.length)] [.vec true 4 ((m ++ List.replicate rest.length (⟨0, 0, 0, 0⟩ : Frm)).map Frm.cc)] 0))
    (.exit 0 (at_ [(3, .vec 0 (m.length + rest.length) 4 0 (m.length + rest.length))] [.vec true 4 ((m ++ rest).map Frm.cc)] 0))
  | [], m, h => by
    simp only [List.length_nil, List.replicate_zero, Nat.add_zero] at h ⊢
    let t0 : Tp pr := .i (show ((↑(List.map Frm.ce (m ++ [])).length : Int) : Int) = (↑m.length : Int) by simp)
    let t1 : Tp pr := .b (show (decide ((↑m.length : Int) < (↑m.length : Int))) = false by simp)
    exact .tp [t0, t1] (by kernel_rfl)
  | x :: rest, m, h => by
    simp only [List.length_cons] at h
    have ih := toFrmL_ev rest (m ++ [x]) (by simp; omega)
    simp only [List.length_append, List.length_singleton, List.append_assoc, List.singleton_append] at ih
    have hx := toFrm_ev x
    have hg := Frm_get_mid m (⟨0, 0, 0, 0⟩ : Frm) (List.replicate rest.length (⟨0, 0, 0, 0⟩ : Frm))
    have hs : ((m ++ (⟨0, 0, 0, 0⟩ : Frm) :: List.replicate rest.length (⟨0, 0, 0, 0⟩ : Frm)).map Frm.cc).set m.length x.cc = (m ++ x :: List.replicate rest.length (⟨0, 0, 0, 0⟩ : Frm)).map Frm.cc := by simp
    rw [show List.replicate (x :: rest).length ((⟨0, 0, 0, 0⟩ : Frm)) = (⟨0, 0, 0, 0⟩ : Frm) :: List.replicate rest.length (⟨0, 0, 0, 0⟩ : Frm) from rfl]
    have hl : m.length + (x :: rest).length = m.length + 1 + rest.length := by simp; omega
    rw [hl]
    let t0 : Tp pr := .i (show ((↑(List.map Frm.ce (m ++ x :: rest)).length : Int) : Int) = (↑m.length : Int) + ((↑rest.length : Int) + (1 : Int)) by simp)
    let t1 : Tp pr := .b (show (decide ((↑m.length : Int) < (↑m.length : Int) + ((↑rest.length : Int) + (1 : Int)))) = true by (simp; omega))
    let t2 : Tp pr := .g .row (show (lkp (List.map Frm.ce (m ++ x :: rest)) (↑m.length : Int)) = some (x.ce) by simp)
    let t4 : Tp pr := .m (show (decide ((0 : Int) ≤ (↑m.length : Int) ∧ (↑m.length : Int).toNat < m.length + (1 : Nat) + rest.length)) = true by (simp; omega))
    let t5 : Tp pr := .c (show ((0 : Nat) + (↑m.length : Int).toNat : Nat) = m.length by omega)
    let t6 : Tp pr := .m (show (decide ((List.map Frm.cc (m ++ Frm.mk (0 : Int) (0 : Int) (0 : Int) (0 : Int) :: List.replicate rest.length (Frm.mk (0 : Int) (0 : Int) (0 : Int) (0 : Int)))).length = m.length + (1 : Nat) + rest.length)) = true by (simp; omega))
    let t7 : Tp pr := .g .crow (show ((List.map Frm.cc (m ++ Frm.mk (0 : Int) (0 : Int) (0 : Int) (0 : Int) :: List.replicate rest.length (Frm.mk (0 : Int) (0 : Int) (0 : Int) (0 : Int))))[m.length]?) = some ([C.t (T.int IntKind.i64 (Frm.mk (0 : Int) (0 : Int) (0 : Int) (0 : Int)).kind), C.t (T.int IntKind.i64 (Frm.mk (0 : Int) (0 : Int) (0 : Int) (0 : Int)).pl), C.t (T.int IntKind.i64 (Frm.mk (0 : Int) (0 : Int) (0 : Int) (0 : Int)).env), C.t (T.int IntKind.i64 (Frm.mk (0 : Int) (0 : Int) (0 : Int) (0 : Int)).val)]) from hg)
    let t8 : Tp pr := .n .crows (show ((List.map Frm.cc (m ++ Frm.mk (0 : Int) (0 : Int) (0 : Int) (0 : Int) :: List.replicate rest.length (Frm.mk (0 : Int) (0 : Int) (0 : Int) (0 : Int)))).set m.length [C.t (T.int IntKind.i64 x.kind), C.t (T.int IntKind.i64 x.pl), C.t (T.int IntKind.i64 x.env), C.t (T.int IntKind.i64 x.val)]) = List.map Frm.cc m ++ [C.t (T.int IntKind.i64 x.kind), C.t (T.int IntKind.i64 x.pl), C.t (T.int IntKind.i64 x.env), C.t (T.int IntKind.i64 x.val)] :: List.replicate rest.length (Frm.mk (0 : Int) (0 : Int) (0 : Int) (0 : Int)).cc by simp)
    let t9 : Tp pr := .i (wrap_i64 (a := (↑m.length : Int) + (1 : Int)) (by omega) (by omega))
    let t10 : Tp pr := .a (Ev.castq (congrArg (fun x_1 => Q.loop (lq pr (77 : FuncId) (0 : Nat)) (at_ [((0 : Nat), V.t (T.seq (4 : Nat) (List.map Frm.ce (m ++ x :: rest)))), ((3 : Nat), V.vec (0 : Nat) (m.length + (1 : Nat) + rest.length) (4 : Nat) (0 : Nat) (m.length + (1 : Nat) + rest.length)), ((4 : Nat), i64 (↑(m.length + (1 : Nat)) : Int))] [Ob.vec true (4 : Nat) x_1] (0 : Nat))) (show (List.map Frm.cc (m ++ x :: List.replicate rest.length (Frm.mk (0 : Int) (0 : Int) (0 : Int) (0 : Int)))) = ((List.map Frm.cc m).append ([C.t (T.int IntKind.i64 x.kind), C.t (T.int IntKind.i64 x.pl), C.t (T.int IntKind.i64 x.env), C.t (T.int IntKind.i64 x.val)] :: List.replicate rest.length [C.t (T.int IntKind.i64 (0 : Int)), C.t (T.int IntKind.i64 (0 : Int)), C.t (T.int IntKind.i64 (0 : Int)), C.t (T.int IntKind.i64 (0 : Int))])) by simp [Frm.cc, Frm.ce])) (ih))
    exact .tp [t0, t1, t2, .a (hx), t4, t5, t6, t7, t8, t9, t10] (by kernel_rfl)
theorem toFrmS_ev (l : List Frm) (hl : l.length ≤ 1048576) : Ev pr (.call 77 [.t (.seq 4 (l.map Frm.ce))] []) (.val (.vec 0 l.length 4 0 l.length) [.vec true 4 (l.map Frm.cc)]) := by
  have := toFrmL_ev l [] (by simpa using hl)
  simp only [List.length_nil, Nat.zero_add, List.nil_append, List.map_replicate, Frm.cc] at this
  let t0 : Tp pr := .i (show ((↑(List.map Frm.ce l).length : Int) : Int) = (↑l.length : Int) by simp)
  let t1 : Tp pr := .m (show (decide ((0 : Int) ≤ (↑l.length : Int) ∧ (↑l.length : Int) ≤ (↑l.length : Int) ∧ (↑l.length : Int) ≤ (4294967296 : Int))) = true by (simp; omega))
  let t2 : Tp pr := .c (show ((↑l.length : Int).toNat : Nat) = l.length by omega)
  let t3 : Tp pr := .n .crows (rfl : (List.replicate l.length [C.t (T.int IntKind.i64 (0 : Int)), C.t (T.int IntKind.i64 (0 : Int)), C.t (T.int IntKind.i64 (0 : Int)), C.t (T.int IntKind.i64 (0 : Int))]) = _)
  exact .tp [t0, t1, t2, t3, .a (this)] (by kernel_rfl)
def szVl (l : List Vl) (n : Int) : Int := if n - l.length < 0 then -1 else n - l.length
theorem szVlS_ev (l : List Vl) (n : Int) (h0 : 0 ≤ n) (h1 : n ≤ 1048576) (hl : l.length ≤ 9223372036854775807) : Ev pr (.call 74 [.t (.seq 4 (l.map Vl.ce)), i64 n] []) (.val (i64 (szVl l n)) []) := by
  unfold szVl
  by_cases h : n - l.length < 0
  · rw [if_pos h]
    let t0 : Tp pr := .i (show ((↑(List.map Vl.ce l).length : Int) : Int) = (↑l.length : Int) by simp)
    let t1 : Tp pr := .i (wrap_i64 (a := n - (↑l.length : Int)) (by omega) (by omega))
    let t2 : Tp pr := .b (show (decide (n - (↑l.length : Int) < (0 : Int))) = true by (simp; omega))
    exact .tp [t0, t1, t2] (by kernel_rfl)
  · rw [if_neg h]
    let t0 : Tp pr := .i (show ((↑(List.map Vl.ce l).length : Int) : Int) = (↑l.length : Int) by simp)
    let t1 : Tp pr := .i (wrap_i64 (a := n - (↑l.length : Int)) (by omega) (by omega))
    let t2 : Tp pr := .b (show (decide (n - (↑l.length : Int) < (0 : Int))) = false by (simp; omega))
    exact .tp [t0, t1, t2] (by kernel_rfl)
theorem toVl_ev (x : Vl) : Ev pr (.call 141 [.agg (x.ce.map V.t)] []) (.val (.agg (x.ce.map V.t)) []) := by
  obtain ⟨a0, a1, a2, a3⟩ := x
  exact .tp [] (by kernel_rfl)
theorem toVlL_ev : ∀ (rest m : List Vl), m.length + rest.length ≤ 1048576 → Ev pr (.loop (lq pr 78 0) (at_ [(0, .t (.seq 4 ((m ++ rest).map Vl.ce))), (3, .vec 0 (m.length + rest.length) 4 0 (m.length + rest.length)), (4, i64 m.length)] [.vec true 4 ((m ++ List.replicate rest.length (⟨false, 0, 0, 0⟩ : Vl)).map Vl.cc)] 0))
    (.exit 0 (at_ [(3, .vec 0 (m.length + rest.length) 4 0 (m.length + rest.length))] [.vec true 4 ((m ++ rest).map Vl.cc)] 0))
  | [], m, h => by
    simp only [List.length_nil, List.replicate_zero, Nat.add_zero] at h ⊢
    let t0 : Tp pr := .i (show ((↑(List.map Vl.ce (m ++ [])).length : Int) : Int) = (↑m.length : Int) by simp)
    let t1 : Tp pr := .b (show (decide ((↑m.length : Int) < (↑m.length : Int))) = false by simp)
    exact .tp [t0, t1] (by kernel_rfl)
  | x :: rest, m, h => by
    simp only [List.length_cons] at h
    have ih := toVlL_ev rest (m ++ [x]) (by simp; omega)
    simp only [List.length_append, List.length_singleton, List.append_assoc, List.singleton_append] at ih
    have hx := toVl_ev x
    have hg := Vl_get_mid m (⟨false, 0, 0, 0⟩ : Vl) (List.replicate rest.length (⟨false, 0, 0, 0⟩ : Vl))
    have hs : ((m ++ (⟨false, 0, 0, 0⟩ : Vl) :: List.replicate rest.length (⟨false, 0, 0, 0⟩ : Vl)).map Vl.cc).set m.length x.cc = (m ++ x :: List.replicate rest.length (⟨false, 0, 0, 0⟩ : Vl)).map Vl.cc := by simp
    rw [show List.replicate (x :: rest).length ((⟨false, 0, 0, 0⟩ : Vl)) = (⟨false, 0, 0, 0⟩ : Vl) :: List.replicate rest.length (⟨false, 0, 0, 0⟩ : Vl) from rfl]
    have hl : m.length + (x :: rest).length = m.length + 1 + rest.length := by simp; omega
    rw [hl]
    let t0 : Tp pr := .i (show ((↑(List.map Vl.ce (m ++ x :: rest)).length : Int) : Int) = (↑m.length : Int) + ((↑rest.length : Int) + (1 : Int)) by simp)
    let t1 : Tp pr := .b (show (decide ((↑m.length : Int) < (↑m.length : Int) + ((↑rest.length : Int) + (1 : Int)))) = true by (simp; omega))
    let t2 : Tp pr := .g .row (show (lkp (List.map Vl.ce (m ++ x :: rest)) (↑m.length : Int)) = some (x.ce) by simp)
    let t4 : Tp pr := .m (show (decide ((0 : Int) ≤ (↑m.length : Int) ∧ (↑m.length : Int).toNat < m.length + (1 : Nat) + rest.length)) = true by (simp; omega))
    let t5 : Tp pr := .c (show ((0 : Nat) + (↑m.length : Int).toNat : Nat) = m.length by omega)
    let t6 : Tp pr := .m (show (decide ((List.map Vl.cc (m ++ Vl.mk false (0 : Int) (0 : Int) (0 : Int) :: List.replicate rest.length (Vl.mk false (0 : Int) (0 : Int) (0 : Int)))).length = m.length + (1 : Nat) + rest.length)) = true by (simp; omega))
    let t7 : Tp pr := .g .crow (show ((List.map Vl.cc (m ++ Vl.mk false (0 : Int) (0 : Int) (0 : Int) :: List.replicate rest.length (Vl.mk false (0 : Int) (0 : Int) (0 : Int))))[m.length]?) = some ([C.t (T.bool (Vl.mk false (0 : Int) (0 : Int) (0 : Int)).fn), C.t (T.int IntKind.i64 (Vl.mk false (0 : Int) (0 : Int) (0 : Int)).num), C.t (T.int IntKind.i64 (Vl.mk false (0 : Int) (0 : Int) (0 : Int)).pl), C.t (T.int IntKind.i64 (Vl.mk false (0 : Int) (0 : Int) (0 : Int)).env)]) from hg)
    let t8 : Tp pr := .n .crows (show ((List.map Vl.cc (m ++ Vl.mk false (0 : Int) (0 : Int) (0 : Int) :: List.replicate rest.length (Vl.mk false (0 : Int) (0 : Int) (0 : Int)))).set m.length [C.t (T.bool x.fn), C.t (T.int IntKind.i64 x.num), C.t (T.int IntKind.i64 x.pl), C.t (T.int IntKind.i64 x.env)]) = List.map Vl.cc m ++ [C.t (T.bool x.fn), C.t (T.int IntKind.i64 x.num), C.t (T.int IntKind.i64 x.pl), C.t (T.int IntKind.i64 x.env)] :: List.replicate rest.length (Vl.mk false (0 : Int) (0 : Int) (0 : Int)).cc by simp)
    let t9 : Tp pr := .i (wrap_i64 (a := (↑m.length : Int) + (1 : Int)) (by omega) (by omega))
    let t10 : Tp pr := .a (Ev.castq (congrArg (fun x_1 => Q.loop (lq pr (78 : FuncId) (0 : Nat)) (at_ [((0 : Nat), V.t (T.seq (4 : Nat) (List.map Vl.ce (m ++ x :: rest)))), ((3 : Nat), V.vec (0 : Nat) (m.length + (1 : Nat) + rest.length) (4 : Nat) (0 : Nat) (m.length + (1 : Nat) + rest.length)), ((4 : Nat), i64 (↑(m.length + (1 : Nat)) : Int))] [Ob.vec true (4 : Nat) x_1] (0 : Nat))) (show (List.map Vl.cc (m ++ x :: List.replicate rest.length (Vl.mk false (0 : Int) (0 : Int) (0 : Int)))) = ((List.map Vl.cc m).append ([C.t (T.bool x.fn), C.t (T.int IntKind.i64 x.num), C.t (T.int IntKind.i64 x.pl), C.t (T.int IntKind.i64 x.env)] :: List.replicate rest.length [C.t (T.bool false), C.t (T.int IntKind.i64 (0 : Int)), C.t (T.int IntKind.i64 (0 : Int)), C.t (T.int IntKind.i64 (0 : Int))])) by simp [Vl.cc, Vl.ce])) (ih))
    exact .tp [t0, t1, t2, .a (hx), t4, t5, t6, t7, t8, t9, t10] (by kernel_rfl)
theorem toVlS_ev (l : List Vl) (hl : l.length ≤ 1048576) : Ev pr (.call 78 [.t (.seq 4 (l.map Vl.ce))] []) (.val (.vec 0 l.length 4 0 l.length) [.vec true 4 (l.map Vl.cc)]) := by
  have := toVlL_ev l [] (by simpa using hl)
  simp only [List.length_nil, Nat.zero_add, List.nil_append, List.map_replicate, Vl.cc] at this
  let t0 : Tp pr := .i (show ((↑(List.map Vl.ce l).length : Int) : Int) = (↑l.length : Int) by simp)
  let t1 : Tp pr := .m (show (decide ((0 : Int) ≤ (↑l.length : Int) ∧ (↑l.length : Int) ≤ (↑l.length : Int) ∧ (↑l.length : Int) ≤ (4294967296 : Int))) = true by (simp; omega))
  let t2 : Tp pr := .c (show ((↑l.length : Int).toNat : Nat) = l.length by omega)
  let t3 : Tp pr := .n .crows (rfl : (List.replicate l.length [C.t (T.bool false), C.t (T.int IntKind.i64 (0 : Int)), C.t (T.int IntKind.i64 (0 : Int)), C.t (T.int IntKind.i64 (0 : Int))]) = _)
  exact .tp [t0, t1, t2, t3, .a (this)] (by kernel_rfl)
def szBd (l : List Bd) (n : Int) : Int := if n - l.length < 0 then -1 else n - l.length
theorem szBdS_ev (l : List Bd) (n : Int) (h0 : 0 ≤ n) (h1 : n ≤ 1048576) (hl : l.length ≤ 9223372036854775807) : Ev pr (.call 75 [.t (.seq 2 (l.map Bd.ce)), i64 n] []) (.val (i64 (szBd l n)) []) := by
  unfold szBd
  by_cases h : n - l.length < 0
  · rw [if_pos h]
    let t0 : Tp pr := .i (show ((↑(List.map Bd.ce l).length : Int) : Int) = (↑l.length : Int) by simp)
    let t1 : Tp pr := .i (wrap_i64 (a := n - (↑l.length : Int)) (by omega) (by omega))
    let t2 : Tp pr := .b (show (decide (n - (↑l.length : Int) < (0 : Int))) = true by (simp; omega))
    exact .tp [t0, t1, t2] (by kernel_rfl)
  · rw [if_neg h]
    let t0 : Tp pr := .i (show ((↑(List.map Bd.ce l).length : Int) : Int) = (↑l.length : Int) by simp)
    let t1 : Tp pr := .i (wrap_i64 (a := n - (↑l.length : Int)) (by omega) (by omega))
    let t2 : Tp pr := .b (show (decide (n - (↑l.length : Int) < (0 : Int))) = false by (simp; omega))
    exact .tp [t0, t1, t2] (by kernel_rfl)
theorem toBd_ev (x : Bd) : Ev pr (.call 142 [.agg (x.ce.map V.t)] []) (.val (.agg (x.ce.map V.t)) []) := by
  obtain ⟨a0, a1⟩ := x
  exact .tp [] (by kernel_rfl)
theorem toBdL_ev : ∀ (rest m : List Bd), m.length + rest.length ≤ 1048576 → Ev pr (.loop (lq pr 79 0) (at_ [(0, .t (.seq 2 ((m ++ rest).map Bd.ce))), (3, .vec 0 (m.length + rest.length) 2 0 (m.length + rest.length)), (4, i64 m.length)] [.vec true 2 ((m ++ List.replicate rest.length (⟨0, 0⟩ : Bd)).map Bd.cc)] 0))
    (.exit 0 (at_ [(3, .vec 0 (m.length + rest.length) 2 0 (m.length + rest.length))] [.vec true 2 ((m ++ rest).map Bd.cc)] 0))
  | [], m, h => by
    simp only [List.length_nil, List.replicate_zero, Nat.add_zero] at h ⊢
    let t0 : Tp pr := .i (show ((↑(List.map Bd.ce (m ++ [])).length : Int) : Int) = (↑m.length : Int) by simp)
    let t1 : Tp pr := .b (show (decide ((↑m.length : Int) < (↑m.length : Int))) = false by simp)
    exact .tp [t0, t1] (by kernel_rfl)
  | x :: rest, m, h => by
    simp only [List.length_cons] at h
    have ih := toBdL_ev rest (m ++ [x]) (by simp; omega)
    simp only [List.length_append, List.length_singleton, List.append_assoc, List.singleton_append] at ih
    have hx := toBd_ev x
    have hg := Bd_get_mid m (⟨0, 0⟩ : Bd) (List.replicate rest.length (⟨0, 0⟩ : Bd))
    have hs : ((m ++ (⟨0, 0⟩ : Bd) :: List.replicate rest.length (⟨0, 0⟩ : Bd)).map Bd.cc).set m.length x.cc = (m ++ x :: List.replicate rest.length (⟨0, 0⟩ : Bd)).map Bd.cc := by simp
    rw [show List.replicate (x :: rest).length ((⟨0, 0⟩ : Bd)) = (⟨0, 0⟩ : Bd) :: List.replicate rest.length (⟨0, 0⟩ : Bd) from rfl]
    have hl : m.length + (x :: rest).length = m.length + 1 + rest.length := by simp; omega
    rw [hl]
    let t0 : Tp pr := .i (show ((↑(List.map Bd.ce (m ++ x :: rest)).length : Int) : Int) = (↑m.length : Int) + ((↑rest.length : Int) + (1 : Int)) by simp)
    let t1 : Tp pr := .b (show (decide ((↑m.length : Int) < (↑m.length : Int) + ((↑rest.length : Int) + (1 : Int)))) = true by (simp; omega))
    let t2 : Tp pr := .g .row (show (lkp (List.map Bd.ce (m ++ x :: rest)) (↑m.length : Int)) = some (x.ce) by simp)
    let t4 : Tp pr := .m (show (decide ((0 : Int) ≤ (↑m.length : Int) ∧ (↑m.length : Int).toNat < m.length + (1 : Nat) + rest.length)) = true by (simp; omega))
    let t5 : Tp pr := .c (show ((0 : Nat) + (↑m.length : Int).toNat : Nat) = m.length by omega)
    let t6 : Tp pr := .m (show (decide ((List.map Bd.cc (m ++ Bd.mk (0 : Int) (0 : Int) :: List.replicate rest.length (Bd.mk (0 : Int) (0 : Int)))).length = m.length + (1 : Nat) + rest.length)) = true by (simp; omega))
    let t7 : Tp pr := .g .crow (show ((List.map Bd.cc (m ++ Bd.mk (0 : Int) (0 : Int) :: List.replicate rest.length (Bd.mk (0 : Int) (0 : Int))))[m.length]?) = some ([C.t (T.int IntKind.i64 (Bd.mk (0 : Int) (0 : Int)).val), C.t (T.int IntKind.i64 (Bd.mk (0 : Int) (0 : Int)).up)]) from hg)
    let t8 : Tp pr := .n .crows (show ((List.map Bd.cc (m ++ Bd.mk (0 : Int) (0 : Int) :: List.replicate rest.length (Bd.mk (0 : Int) (0 : Int)))).set m.length [C.t (T.int IntKind.i64 x.val), C.t (T.int IntKind.i64 x.up)]) = List.map Bd.cc m ++ [C.t (T.int IntKind.i64 x.val), C.t (T.int IntKind.i64 x.up)] :: List.replicate rest.length (Bd.mk (0 : Int) (0 : Int)).cc by simp)
    let t9 : Tp pr := .i (wrap_i64 (a := (↑m.length : Int) + (1 : Int)) (by omega) (by omega))
    let t10 : Tp pr := .a (Ev.castq (congrArg (fun x_1 => Q.loop (lq pr (79 : FuncId) (0 : Nat)) (at_ [((0 : Nat), V.t (T.seq (2 : Nat) (List.map Bd.ce (m ++ x :: rest)))), ((3 : Nat), V.vec (0 : Nat) (m.length + (1 : Nat) + rest.length) (2 : Nat) (0 : Nat) (m.length + (1 : Nat) + rest.length)), ((4 : Nat), i64 (↑(m.length + (1 : Nat)) : Int))] [Ob.vec true (2 : Nat) x_1] (0 : Nat))) (show (List.map Bd.cc (m ++ x :: List.replicate rest.length (Bd.mk (0 : Int) (0 : Int)))) = ((List.map Bd.cc m).append ([C.t (T.int IntKind.i64 x.val), C.t (T.int IntKind.i64 x.up)] :: List.replicate rest.length [C.t (T.int IntKind.i64 (0 : Int)), C.t (T.int IntKind.i64 (0 : Int))])) by simp [Bd.cc, Bd.ce])) (ih))
    exact .tp [t0, t1, t2, .a (hx), t4, t5, t6, t7, t8, t9, t10] (by kernel_rfl)
theorem toBdS_ev (l : List Bd) (hl : l.length ≤ 1048576) : Ev pr (.call 79 [.t (.seq 2 (l.map Bd.ce))] []) (.val (.vec 0 l.length 2 0 l.length) [.vec true 2 (l.map Bd.cc)]) := by
  have := toBdL_ev l [] (by simpa using hl)
  simp only [List.length_nil, Nat.zero_add, List.nil_append, List.map_replicate, Bd.cc] at this
  let t0 : Tp pr := .i (show ((↑(List.map Bd.ce l).length : Int) : Int) = (↑l.length : Int) by simp)
  let t1 : Tp pr := .m (show (decide ((0 : Int) ≤ (↑l.length : Int) ∧ (↑l.length : Int) ≤ (↑l.length : Int) ∧ (↑l.length : Int) ≤ (4294967296 : Int))) = true by (simp; omega))
  let t2 : Tp pr := .c (show ((↑l.length : Int).toNat : Nat) = l.length by omega)
  let t3 : Tp pr := .n .crows (rfl : (List.replicate l.length [C.t (T.int IntKind.i64 (0 : Int)), C.t (T.int IntKind.i64 (0 : Int))]) = _)
  exact .tp [t0, t1, t2, t3, .a (this)] (by kernel_rfl)
end Go.Ev

namespace Go.Ev
set_option linter.unusedVariables false
set_option linter.unusedSimpArgs false
open Go.Proofs
set_option maxRecDepth 100000
set_option maxHeartbeats 4000000
def Cell.wf (x : Cell) : Prop := (Lit.int .i64 x.kind).wf = true ∧ (Lit.int .i64 x.n).wf = true
def Frm.wf (x : Frm) : Prop := (Lit.int .i64 x.kind).wf = true ∧ (Lit.int .i64 x.pl).wf = true ∧ (Lit.int .i64 x.env).wf = true ∧ (Lit.int .i64 x.val).wf = true
def Vl.wf (x : Vl) : Prop := True ∧ (Lit.int .i64 x.num).wf = true ∧ (Lit.int .i64 x.pl).wf = true ∧ (Lit.int .i64 x.env).wf = true
def Bd.wf (x : Bd) : Prop := (Lit.int .i64 x.val).wf = true ∧ (Lit.int .i64 x.up).wf = true
structure Mch where
  done : Bool
  pl : Int
  env : Int
  val : Int
  frs : List Frm
  vals : List Vl
  bds : List Bd
def Mch.ce (m : Mch) : List T := [.bool m.done, .int .i64 m.pl, .int .i64 m.env, .int .i64 m.val, .seq 4 (m.frs.map Frm.ce), .seq 4 (m.vals.map Vl.ce), .seq 2 (m.bds.map Bd.ce)]
def Mch.wf (m : Mch) : Prop := True ∧ (Lit.int .i64 m.pl).wf = true ∧ (Lit.int .i64 m.env).wf = true ∧ (Lit.int .i64 m.val).wf = true ∧ (m.frs.length ≤ 9223372036854775807 ∧ ∀ x ∈ m.frs, x.wf) ∧ (m.vals.length ≤ 9223372036854775807 ∧ ∀ x ∈ m.vals, x.wf) ∧ (m.bds.length ≤ 9223372036854775807 ∧ ∀ x ∈ m.bds, x.wf)
theorem prim_none : PrimOk pr := prim_all
theorem toMachine_ev (d : Bool) (p e v : Int) (X Y Z : List (List T)) (F W D : List (List C)) (g1 : Ev pr (.call 77 [.t (.seq 4 X)] []) (.val (.vec 0 F.length 4 0 F.length) [.vec true 4 F])) (g2 : Ev pr (.call 78 [.t (.seq 4 Y)] []) (.val (.vec 0 W.length 4 0 W.length) [.vec true 4 W])) (g3 : Ev pr (.call 79 [.t (.seq 2 Z)] []) (.val (.vec 0 D.length 2 0 D.length) [.vec true 2 D])) :
    Ev pr (.call 32 [mF d p e v X Y Z] []) (.val (mV d p e v F.length F W D) [.vec true 4 F, .vec true 4 W, .vec true 2 D]) := by
  unfold mF mV
  exact .tp [.a (g1), .a (g2), .a (g3)] (by kernel_rfl)
theorem szM_ev (d : Bool) (p e v : Int) (X Y Z : List (List T)) (n a b c : Int) (g1 : Ev pr (.call 73 [.t (.seq 4 X), i64 n] []) (.val (i64 a) [])) (ha : 0 ≤ a) (g2 : Ev pr (.call 74 [.t (.seq 4 Y), i64 a] []) (.val (i64 b) [])) (hb : 0 ≤ b) (g3 : Ev pr (.call 75 [.t (.seq 2 Z), i64 b] []) (.val (i64 c) [])) (hc : 0 ≤ c) :
    Ev pr (.call 30 [mF d p e v X Y Z, i64 n] []) (.val (i64 c) []) := by
  unfold mF
  let t1 : Tp pr := .b (show (decide (a < (0 : Int))) = false by (simp; omega))
  let t3 : Tp pr := .b (show (decide (b < (0 : Int))) = false by (simp; omega))
  let t5 : Tp pr := .b (show (decide (c < (0 : Int))) = false by (simp; omega))
  exact .tp [.a (g1), t1, .a (g2), t3, .a (g3), t5] (by kernel_rfl)
theorem szM1_ev (d : Bool) (p e v : Int) (X Y Z : List (List T)) (n : Int) (g1 : Ev pr (.call 73 [.t (.seq 4 X), i64 n] []) (.val (i64 (-1)) [])) : Ev pr (.call 30 [mF d p e v X Y Z, i64 n] []) (.val (i64 (-1)) []) := by
  unfold mF
  exact .tp [.a (g1), .bT] (by kernel_rfl)
theorem szM2_ev (d : Bool) (p e v : Int) (X Y Z : List (List T)) (n a : Int) (g1 : Ev pr (.call 73 [.t (.seq 4 X), i64 n] []) (.val (i64 a) [])) (ha : 0 ≤ a) (g2 : Ev pr (.call 74 [.t (.seq 4 Y), i64 a] []) (.val (i64 (-1)) [])) : Ev pr (.call 30 [mF d p e v X Y Z, i64 n] []) (.val (i64 (-1)) []) := by
  unfold mF
  let t1 : Tp pr := .b (show (decide (a < (0 : Int))) = false by (simp; omega))
  exact .tp [.a (g1), t1, .a (g2), .bT] (by kernel_rfl)
theorem szM3_ev (d : Bool) (p e v : Int) (X Y Z : List (List T)) (n a b : Int) (g1 : Ev pr (.call 73 [.t (.seq 4 X), i64 n] []) (.val (i64 a) [])) (ha : 0 ≤ a) (g2 : Ev pr (.call 74 [.t (.seq 4 Y), i64 a] []) (.val (i64 b) [])) (hb : 0 ≤ b) (g3 : Ev pr (.call 75 [.t (.seq 2 Z), i64 b] []) (.val (i64 (-1)) [])) :
    Ev pr (.call 30 [mF d p e v X Y Z, i64 n] []) (.val (i64 (-1)) []) := by
  unfold mF
  let t1 : Tp pr := .b (show (decide (a < (0 : Int))) = false by (simp; omega))
  let t3 : Tp pr := .b (show (decide (b < (0 : Int))) = false by (simp; omega))
  exact .tp [.a (g1), t1, .a (g2), t3, .a (g3), .bT] (by kernel_rfl)
theorem lawZ1 (L : List (List T)) (mv : V) (d : Bool) (p e v : Int) (X Y Z : List (List T)) (h : Ev pr (.call 29 [.t (.seq 2 L), i64 1048576] []) (.val (i64 (-1)) [])) : Ev pr (.call 5 [.t (.seq 2 L), mF d p e v X Y Z] []) (.val (bl true) []) := by
  unfold mF
  exact .tp [.a (h), .bT] (by kernel_rfl)
theorem lawZ2 (L : List (List T)) (d : Bool) (p e v : Int) (X Y Z : List (List T)) (n : Int) (hn : 0 ≤ n) (h : Ev pr (.call 29 [.t (.seq 2 L), i64 1048576] []) (.val (i64 n) [])) (h2 : Ev pr (.call 30 [mF d p e v X Y Z, i64 n] []) (.val (i64 (-1)) [])) : Ev pr (.call 5 [.t (.seq 2 L), mF d p e v X Y Z] []) (.val (bl true) []) := by
  unfold mF at *
  let t1 : Tp pr := .b (show (decide (n < (0 : Int))) = false by (simp; omega))
  exact .tp [.a (h), t1, .a (h2), .bT] (by kernel_rfl)
theorem lawN (l : List Cell) (h1 : l.length ≤ 1048576) (h0 : Ev pr (.call 29 [.t (.seq 2 (l.map Cell.ce)), i64 1048576] []) (.val (i64 (1048576 - l.length)) []))
    (d : Bool) (p e v : Int) (X Y Z : List (List T)) (F W D F2 W2 D2 : List (List C)) (c : Int) (hc : 0 ≤ c) (gz : Ev pr (.call 30 [mF d p e v X Y Z, i64 (1048576 - l.length)] []) (.val (i64 c) []))
    (gt : Ev pr (.call 32 [mF d p e v X Y Z] []) (.val (mV d p e v F.length F W D) [.vec true 4 F, .vec true 4 W, .vec true 2 D]))
    (fX : F.map (List.map C.fz) = X) (fY : W.map (List.map C.fz) = Y) (fZ : D.map (List.map C.fz) = Z)
    (hW : List.take W.length W = W) (hD : List.take D.length D = D) (hF : List.take F.length F = F)
    (gq : Ev pr (.call 33 [mF d p e v X Y Z, mF d p e v X Y Z] []) (.val (bl true) []))
    (k1 : Int) (hk1 : 0 ≤ k1) (gm : Ev pr (.call 36 [mV d p e v F.length F W D, i64 (1 + 2 * l.length)] [.vec true 4 F, .vec true 4 W, .vec true 2 D]) (.val (i64 k1) [.vec true 4 F2, .vec true 4 W2, .vec true 2 D2]))
    (g2 : Ev pr (.call 21 [.t (.seq 2 (l.map Cell.ce)), mF d p e v X Y Z] []) (smSO none)) (g3 : Ev pr (.call 20 [.t (.seq 2 (l.map Cell.ce)), mF d p e v X Y Z] []) (.val (.tup [mZ, bl false]) [])) :
    Ev pr (.call 5 [.t (.seq 2 (l.map Cell.ce)), mF d p e v X Y Z] []) (.val (bl true) []) := by
  have g1 := toCellS_ev l h1
  have g4 := eqCellS_ev l h1
  have g5 := eqMachineN_ev
  have g6 := markCellS_ev l 1 (by omega) (by omega) h1
  have g7 := markMachineN_ev 1
  have g8 := heldMachineN_ev 1 (by omega)
  have hf : (l.map Cell.cc).map (List.map C.fz) = l.map Cell.ce := by simp [Cell.cc, Cell.ce, C.fz, Function.comp_def]
  have ht : List.take l.length (l.map Cell.cc) = l.map Cell.cc := List.take_of_length_le (by simp)
  have hl : (l.map Cell.cc).length = l.length := by simp
  have hl2 : (l.map Cell.ce).length = l.length := by simp
  unfold smSO mZ mF mV at *
  let t1 : Tp pr := .b (show (decide ((1048576 : Int) - (↑l.length : Int) < (0 : Int))) = false by (simp; omega))
  let t3 : Tp pr := .b (show (decide (c < (0 : Int))) = false by (simp; omega))
  let t10 : Tp pr := .m (show (decide ((List.map Cell.cc l).length = l.length ∧ (0 : Nat) + l.length ≤ l.length)) = true by simp)
  let t11 : Tp pr := .n .rows (show (List.map (fun x => List.map C.fz x) (List.take l.length (List.drop (0 : Nat) (List.map Cell.cc l)))) = List.map ((fun x => List.map C.fz x) ∘ Cell.cc) l by simp)
  let t12 : Tp pr := .m (show (decide (F.length = F.length ∧ (0 : Nat) + F.length ≤ F.length)) = true by simp)
  let t13 : Tp pr := .n .rows (show (List.map (fun x => List.map C.fz x) (List.take F.length (List.drop (0 : Nat) F))) = List.map (fun x => List.map C.fz x) F by simp)
  let t14 : Tp pr := .m (show (decide (W.length = W.length ∧ (0 : Nat) + W.length ≤ W.length)) = true by simp)
  let t15 : Tp pr := .n .rows (show (List.map (fun x => List.map C.fz x) (List.take W.length (List.drop (0 : Nat) W))) = List.map (fun x => List.map C.fz x) W by simp)
  let t16 : Tp pr := .m (show (decide (D.length = D.length ∧ (0 : Nat) + D.length ≤ D.length)) = true by simp)
  let t17 : Tp pr := .n .rows (show (List.map (fun x => List.map C.fz x) (List.take D.length (List.drop (0 : Nat) D))) = List.map (fun x => List.map C.fz x) D by simp)
  let t18 : Tp pr := .a (Ev.castq (((congrArg (fun x => Q.call (21 : FuncId) [V.t (T.seq (2 : Nat) (List.map Cell.ce l)), V.agg [bl d, i64 p, i64 e, i64 v, V.t (T.seq (4 : Nat) x), V.t (T.seq (4 : Nat) Y), V.t (T.seq (2 : Nat) Z)]] []) (show (X) = (List.map (fun x => List.map C.fz x) F) by simp [*])).trans (congrArg (fun x => Q.call (21 : FuncId) [V.t (T.seq (2 : Nat) (List.map Cell.ce l)), V.agg [bl d, i64 p, i64 e, i64 v, V.t (T.seq (4 : Nat) (List.map (fun x => List.map C.fz x) F)), V.t (T.seq (4 : Nat) x), V.t (T.seq (2 : Nat) Z)]] []) (show (Y) = (List.map (fun x => List.map C.fz x) W) by simp [*]))).trans (congrArg (fun x => Q.call (21 : FuncId) [V.t (T.seq (2 : Nat) (List.map Cell.ce l)), V.agg [bl d, i64 p, i64 e, i64 v, V.t (T.seq (4 : Nat) (List.map (fun x => List.map C.fz x) F)), V.t (T.seq (4 : Nat) (List.map (fun x => List.map C.fz x) W)), V.t (T.seq (2 : Nat) x)]] []) (show (Z) = (List.map (fun x => List.map C.fz x) D) by simp [*]))) (g2))
  let t36 : Tp pr := .a (Ev.castq (((congrArg (fun x => Q.call (20 : FuncId) [V.t (T.seq (2 : Nat) (List.map Cell.ce l)), V.agg [bl d, i64 p, i64 e, i64 v, V.t (T.seq (4 : Nat) x), V.t (T.seq (4 : Nat) Y), V.t (T.seq (2 : Nat) Z)]] []) (show (X) = (List.map (fun x => List.map C.fz x) F) by simp [*])).trans (congrArg (fun x => Q.call (20 : FuncId) [V.t (T.seq (2 : Nat) (List.map Cell.ce l)), V.agg [bl d, i64 p, i64 e, i64 v, V.t (T.seq (4 : Nat) (List.map (fun x => List.map C.fz x) F)), V.t (T.seq (4 : Nat) x), V.t (T.seq (2 : Nat) Z)]] []) (show (Y) = (List.map (fun x => List.map C.fz x) W) by simp [*]))).trans (congrArg (fun x => Q.call (20 : FuncId) [V.t (T.seq (2 : Nat) (List.map Cell.ce l)), V.agg [bl d, i64 p, i64 e, i64 v, V.t (T.seq (4 : Nat) (List.map (fun x => List.map C.fz x) F)), V.t (T.seq (4 : Nat) (List.map (fun x => List.map C.fz x) W)), V.t (T.seq (2 : Nat) x)]] []) (show (Z) = (List.map (fun x => List.map C.fz x) D) by simp [*]))) (g3))
  let t65 : Tp pr := .a (Ev.castq (((congrArg (fun x => Q.call (33 : FuncId) [V.agg [bl d, i64 p, i64 e, i64 v, V.t (T.seq (4 : Nat) x), V.t (T.seq (4 : Nat) Y), V.t (T.seq (2 : Nat) Z)], V.agg [bl d, i64 p, i64 e, i64 v, V.t (T.seq (4 : Nat) x), V.t (T.seq (4 : Nat) Y), V.t (T.seq (2 : Nat) Z)]] []) (show (X) = (List.map (fun x => List.map C.fz x) F) by simp [*])).trans (congrArg (fun x => Q.call (33 : FuncId) [V.agg [bl d, i64 p, i64 e, i64 v, V.t (T.seq (4 : Nat) (List.map (fun x => List.map C.fz x) F)), V.t (T.seq (4 : Nat) x), V.t (T.seq (2 : Nat) Z)], V.agg [bl d, i64 p, i64 e, i64 v, V.t (T.seq (4 : Nat) (List.map (fun x => List.map C.fz x) F)), V.t (T.seq (4 : Nat) x), V.t (T.seq (2 : Nat) Z)]] []) (show (Y) = (List.map (fun x => List.map C.fz x) W) by simp [*]))).trans (congrArg (fun x => Q.call (33 : FuncId) [V.agg [bl d, i64 p, i64 e, i64 v, V.t (T.seq (4 : Nat) (List.map (fun x => List.map C.fz x) F)), V.t (T.seq (4 : Nat) (List.map (fun x => List.map C.fz x) W)), V.t (T.seq (2 : Nat) x)], V.agg [bl d, i64 p, i64 e, i64 v, V.t (T.seq (4 : Nat) (List.map (fun x => List.map C.fz x) F)), V.t (T.seq (4 : Nat) (List.map (fun x => List.map C.fz x) W)), V.t (T.seq (2 : Nat) x)]] []) (show (Z) = (List.map (fun x => List.map C.fz x) D) by simp [*]))) (gq))
  let t72 : Tp pr := .b (show (decide (k1 < (0 : Int))) = false by (simp; omega))
  exact .tp [.a (h0), t1, .a (gz), t3, .mT, .a (g1), .mT, .mT, .a (gt), .mT, t10, t11, t12, t13, t14, t15, t16, t17, t18, .mT, .mT, .mT, .mT, .mT, .mT, .mT, .a (g1), .a (gt), t10, t11, t12, t13, t14, t15, t16, t17, t36, .mT, .a (g5), .bF, .bF, .a (g1), t10, t11, t10, t11, .a (g4), .mT, .bF, .mT, .mT, .a (gt), .mT, t12, t13, t14, t15, t16, t17, t12, t13, t14, t15, t16, t17, t65, .mT, .mT, .mT, .bF, .a (g6), .a (gm), t72, .a (g5), .bF, .bF, .a (g7), .a (g8), .bF, .bF, .mT, .a (g1), .mT, .mT, .a (gt), .mT, t10, t11, t12, t13, t14, t15, t16, t17, t36, .mT, .mT, .mT, .mT, .mT, .mT, .mT, .mT, .a (g5), .bF, .bF, .a (g8), .bF, .bF] (by kernel_rfl)
end Go.Ev

namespace Go.Ev
set_option linter.unusedVariables false
set_option linter.unusedSimpArgs false
open Go.Proofs
set_option maxRecDepth 100000
set_option maxHeartbeats 4000000
theorem lawS (l : List Cell) (h1 : l.length ≤ 1048576) (h0 : Ev pr (.call 29 [.t (.seq 2 (l.map Cell.ce)), i64 1048576] []) (.val (i64 (1048576 - l.length)) []))
    (d : Bool) (p e v : Int) (X Y Z : List (List T)) (F W D F2 W2 D2 : List (List C)) (c : Int) (hc : 0 ≤ c) (gz : Ev pr (.call 30 [mF d p e v X Y Z, i64 (1048576 - l.length)] []) (.val (i64 c) []))
    (gt : Ev pr (.call 32 [mF d p e v X Y Z] []) (.val (mV d p e v F.length F W D) [.vec true 4 F, .vec true 4 W, .vec true 2 D]))
    (fX : F.map (List.map C.fz) = X) (fY : W.map (List.map C.fz) = Y) (fZ : D.map (List.map C.fz) = Z)
    (hW : List.take W.length W = W) (hD : List.take D.length D = D) (hF : List.take F.length F = F)
    (gq : Ev pr (.call 33 [mF d p e v X Y Z, mF d p e v X Y Z] []) (.val (bl true) []))
    (k0 : Int) (hk0 : 0 ≤ k0) (gm : Ev pr (.call 36 [mV d p e v F.length F W D, i64 (1 + 2 * l.length)] [.vec true 4 F, .vec true 4 W, .vec true 2 D]) (.val (i64 k0) [.vec true 4 F2, .vec true 4 W2, .vec true 2 D2]))
    (rd : Bool) (rp re rv : Int) (lF : Nat) (RF RW RD RF2 RW2 RD2 : List (List C)) (hlF : lF ≤ RF.length) (hF2 : RF2.length = RF.length) (hW2 : RW2.length = RW.length) (hD2 : RD2.length = RD.length) (k1 k2 k3 : Int) (p1 : 0 ≤ k1) (p2 : 0 ≤ k2) (p3 : 0 ≤ k3)
    (hRW : List.take RW.length RW = RW) (hRD : List.take RD.length RD = RD) (hfl : (true && [Ob.vec true 4 RF, Ob.vec true 4 RW, Ob.vec true 2 RD].all Ob.flat) = true)
    (Q : List (List T)) (hX : Q = (List.take lF RF).map (List.map C.fz)) (g2 : Ev pr (.call 21 [.t (.seq 2 (l.map Cell.ce)), mF d p e v X Y Z] []) (.val (.tup [mF rd rp re rv Q (RW.map (List.map C.fz)) (RD.map (List.map C.fz)), bl true]) []))
    (g3 : Ev pr (.call 20 [.t (.seq 2 (l.map Cell.ce)), mF d p e v X Y Z] []) (.val (.tup [mV rd rp re rv lF RF RW RD, bl true]) [.vec true 4 RF, .vec true 4 RW, .vec true 2 RD]))
    (q1 : Ev pr (.call 80 [.t (.seq 4 ((List.take lF RF).map (List.map C.fz))), .t (.seq 4 ((List.take lF RF).map (List.map C.fz)))] []) (.val (bl true) [])) (q2 : Ev pr (.call 81 [.t (.seq 4 (RW.map (List.map C.fz))), .t (.seq 4 (RW.map (List.map C.fz)))] []) (.val (bl true) [])) (q3 : Ev pr (.call 82 [.t (.seq 2 (RD.map (List.map C.fz))), .t (.seq 2 (RD.map (List.map C.fz)))] []) (.val (bl true) []))
    (m1 : Ev pr (.call 84 [.vec 0 RF.length 4 0 lF, i64 1] [.vec true 4 RF]) (.val (i64 k1) [.vec true 4 RF2])) (m2 : Ev pr (.call 85 [.vec 0 RW.length 4 0 RW.length, i64 k1] [.vec true 4 RW]) (.val (i64 k2) [.vec true 4 RW2])) (m3 : Ev pr (.call 86 [.vec 0 RD.length 2 0 RD.length, i64 k2] [.vec true 2 RD]) (.val (i64 k3) [.vec true 2 RD2]))
    (r1 : Ev pr (.call 87 [.t (.seq 4 ((List.take lF RF2).map (List.map C.fz))), i64 1] []) (.val (i64 k1) [])) (r2 : Ev pr (.call 88 [.t (.seq 4 ((List.take RW.length RW2).map (List.map C.fz))), i64 k1] []) (.val (i64 k2) [])) (r3 : Ev pr (.call 89 [.t (.seq 2 ((List.take RD.length RD2).map (List.map C.fz))), i64 k2] []) (.val (i64 k3) [])) :
    Ev pr (.call 5 [.t (.seq 2 (l.map Cell.ce)), mF d p e v X Y Z] []) (.val (bl true) []) := by
  have g1 := toCellS_ev l h1
  have g4 := eqCellS_ev l h1
  have g5 : Ev pr (.call 33 [mF rd rp re rv ((List.take lF RF).map (List.map C.fz)) (RW.map (List.map C.fz)) (RD.map (List.map C.fz)), mF rd rp re rv Q (RW.map (List.map C.fz)) (RD.map (List.map C.fz))] []) (.val (bl true) []) := by
    rw [hX]
    exact eqMachine_ev rd rp re rv _ _ _ q1 q2 q3
  clear hX
  have g6 := markCellS_ev l 1 (by omega) (by omega) h1
  have g7 := markMachine_ev rd rp re rv lF RF RW RD RF2 RW2 RD2 hF2 hW2 hD2 1 k1 k2 k3 m1 m2 m3
  have g8 := heldMachine_ev rd rp re rv _ _ _ 1 k1 k2 k3 p1 p2 p3 r1 r2 r3
  clear q1 q2 q3 m1 m2 m3 r1 r2 r3
  have hf : (l.map Cell.cc).map (List.map C.fz) = l.map Cell.ce := by simp [Cell.cc, Cell.ce, C.fz, Function.comp_def]
  have ht : List.take l.length (l.map Cell.cc) = l.map Cell.cc := List.take_of_length_le (by simp)
  have hl : (l.map Cell.cc).length = l.length := by simp
  have hl2 : (l.map Cell.ce).length = l.length := by simp
  unfold mV mF at *
  let t1 : Tp pr := .b (show (decide ((1048576 : Int) - (↑l.length : Int) < (0 : Int))) = false by (simp; omega))
  let t3 : Tp pr := .b (show (decide (c < (0 : Int))) = false by (simp; omega))
  let t10 : Tp pr := .m (show (decide ((List.map Cell.cc l).length = l.length ∧ (0 : Nat) + l.length ≤ l.length)) = true by simp)
  let t11 : Tp pr := .n .rows (show (List.map (fun x => List.map C.fz x) (List.take l.length (List.drop (0 : Nat) (List.map Cell.cc l)))) = List.map ((fun x => List.map C.fz x) ∘ Cell.cc) l by simp)
  let t12 : Tp pr := .m (show (decide (F.length = F.length ∧ (0 : Nat) + F.length ≤ F.length)) = true by simp)
  let t13 : Tp pr := .n .rows (show (List.map (fun x => List.map C.fz x) (List.take F.length (List.drop (0 : Nat) F))) = List.map (fun x => List.map C.fz x) F by simp)
  let t14 : Tp pr := .m (show (decide (W.length = W.length ∧ (0 : Nat) + W.length ≤ W.length)) = true by simp)
  let t15 : Tp pr := .n .rows (show (List.map (fun x => List.map C.fz x) (List.take W.length (List.drop (0 : Nat) W))) = List.map (fun x => List.map C.fz x) W by simp)
  let t16 : Tp pr := .m (show (decide (D.length = D.length ∧ (0 : Nat) + D.length ≤ D.length)) = true by simp)
  let t17 : Tp pr := .n .rows (show (List.map (fun x => List.map C.fz x) (List.take D.length (List.drop (0 : Nat) D))) = List.map (fun x => List.map C.fz x) D by simp)
  let t18 : Tp pr := .a (Ev.castq (((congrArg (fun x => Ev.Q.call (21 : FuncId) [V.t (T.seq (2 : Nat) (List.map Cell.ce l)), V.agg [bl d, i64 p, i64 e, i64 v, V.t (T.seq (4 : Nat) x), V.t (T.seq (4 : Nat) Y), V.t (T.seq (2 : Nat) Z)]] []) (show (X) = (List.map (fun x => List.map C.fz x) F) by simp [*])).trans (congrArg (fun x => Ev.Q.call (21 : FuncId) [V.t (T.seq (2 : Nat) (List.map Cell.ce l)), V.agg [bl d, i64 p, i64 e, i64 v, V.t (T.seq (4 : Nat) (List.map (fun x => List.map C.fz x) F)), V.t (T.seq (4 : Nat) x), V.t (T.seq (2 : Nat) Z)]] []) (show (Y) = (List.map (fun x => List.map C.fz x) W) by simp [*]))).trans (congrArg (fun x => Ev.Q.call (21 : FuncId) [V.t (T.seq (2 : Nat) (List.map Cell.ce l)), V.agg [bl d, i64 p, i64 e, i64 v, V.t (T.seq (4 : Nat) (List.map (fun x => List.map C.fz x) F)), V.t (T.seq (4 : Nat) (List.map (fun x => List.map C.fz x) W)), V.t (T.seq (2 : Nat) x)]] []) (show (Z) = (List.map (fun x => List.map C.fz x) D) by simp [*]))) (g2))
  let t36 : Tp pr := .a (Ev.castq (((congrArg (fun x => Ev.Q.call (20 : FuncId) [V.t (T.seq (2 : Nat) (List.map Cell.ce l)), V.agg [bl d, i64 p, i64 e, i64 v, V.t (T.seq (4 : Nat) x), V.t (T.seq (4 : Nat) Y), V.t (T.seq (2 : Nat) Z)]] []) (show (X) = (List.map (fun x => List.map C.fz x) F) by simp [*])).trans (congrArg (fun x => Ev.Q.call (20 : FuncId) [V.t (T.seq (2 : Nat) (List.map Cell.ce l)), V.agg [bl d, i64 p, i64 e, i64 v, V.t (T.seq (4 : Nat) (List.map (fun x => List.map C.fz x) F)), V.t (T.seq (4 : Nat) x), V.t (T.seq (2 : Nat) Z)]] []) (show (Y) = (List.map (fun x => List.map C.fz x) W) by simp [*]))).trans (congrArg (fun x => Ev.Q.call (20 : FuncId) [V.t (T.seq (2 : Nat) (List.map Cell.ce l)), V.agg [bl d, i64 p, i64 e, i64 v, V.t (T.seq (4 : Nat) (List.map (fun x => List.map C.fz x) F)), V.t (T.seq (4 : Nat) (List.map (fun x => List.map C.fz x) W)), V.t (T.seq (2 : Nat) x)]] []) (show (Z) = (List.map (fun x => List.map C.fz x) D) by simp [*]))) (g3))
  let t37 : Tp pr := .m (show (true && [Ob.vec true (4 : Nat) RF, Ob.vec true (4 : Nat) RW, Ob.vec true (2 : Nat) RD].all Ob.flat) = true by assumption)
  let t38 : Tp pr := .m (show (decide (RF.length = RF.length ∧ (0 : Nat) + lF ≤ RF.length)) = true by simp [*])
  let t39 : Tp pr := .n .rows (show (List.map (fun x => List.map C.fz x) (List.take lF (List.drop (0 : Nat) RF))) = List.take lF (List.map (fun x => List.map C.fz x) RF) by simp)
  let t40 : Tp pr := .m (show (decide (RW.length = RW.length ∧ (0 : Nat) + RW.length ≤ RW.length)) = true by simp)
  let t41 : Tp pr := .n .rows (show (List.map (fun x => List.map C.fz x) (List.take RW.length (List.drop (0 : Nat) RW))) = List.map (fun x => List.map C.fz x) RW by simp)
  let t42 : Tp pr := .m (show (decide (RD.length = RD.length ∧ (0 : Nat) + RD.length ≤ RD.length)) = true by simp)
  let t43 : Tp pr := .n .rows (show (List.map (fun x => List.map C.fz x) (List.take RD.length (List.drop (0 : Nat) RD))) = List.map (fun x => List.map C.fz x) RD by simp)
  let t44 : Tp pr := .a (Ev.castq (congrArg (fun x => Ev.Q.call (33 : FuncId) [V.agg [bl rd, i64 rp, i64 re, i64 rv, V.t (T.seq (4 : Nat) x), V.t (T.seq (4 : Nat) (List.map (List.map C.fz) RW)), V.t (T.seq (2 : Nat) (List.map (List.map C.fz) RD))], V.agg [bl rd, i64 rp, i64 re, i64 rv, V.t (T.seq (4 : Nat) Q), V.t (T.seq (4 : Nat) (List.map (List.map C.fz) RW)), V.t (T.seq (2 : Nat) (List.map (List.map C.fz) RD))]] []) (show (List.map (List.map C.fz) (List.take lF RF)) = (List.take lF (List.map (fun x => List.map C.fz x) RF)) by simp)) (g5))
  let t72 : Tp pr := .a (Ev.castq (((congrArg (fun x => Ev.Q.call (33 : FuncId) [V.agg [bl d, i64 p, i64 e, i64 v, V.t (T.seq (4 : Nat) x), V.t (T.seq (4 : Nat) Y), V.t (T.seq (2 : Nat) Z)], V.agg [bl d, i64 p, i64 e, i64 v, V.t (T.seq (4 : Nat) x), V.t (T.seq (4 : Nat) Y), V.t (T.seq (2 : Nat) Z)]] []) (show (X) = (List.map (fun x => List.map C.fz x) F) by simp [*])).trans (congrArg (fun x => Ev.Q.call (33 : FuncId) [V.agg [bl d, i64 p, i64 e, i64 v, V.t (T.seq (4 : Nat) (List.map (fun x => List.map C.fz x) F)), V.t (T.seq (4 : Nat) x), V.t (T.seq (2 : Nat) Z)], V.agg [bl d, i64 p, i64 e, i64 v, V.t (T.seq (4 : Nat) (List.map (fun x => List.map C.fz x) F)), V.t (T.seq (4 : Nat) x), V.t (T.seq (2 : Nat) Z)]] []) (show (Y) = (List.map (fun x => List.map C.fz x) W) by simp [*]))).trans (congrArg (fun x => Ev.Q.call (33 : FuncId) [V.agg [bl d, i64 p, i64 e, i64 v, V.t (T.seq (4 : Nat) (List.map (fun x => List.map C.fz x) F)), V.t (T.seq (4 : Nat) (List.map (fun x => List.map C.fz x) W)), V.t (T.seq (2 : Nat) x)], V.agg [bl d, i64 p, i64 e, i64 v, V.t (T.seq (4 : Nat) (List.map (fun x => List.map C.fz x) F)), V.t (T.seq (4 : Nat) (List.map (fun x => List.map C.fz x) W)), V.t (T.seq (2 : Nat) x)]] []) (show (Z) = (List.map (fun x => List.map C.fz x) D) by simp [*]))) (gq))
  let t79 : Tp pr := .b (show (decide (k0 < (0 : Int))) = false by (simp; omega))
  let t91 : Tp pr := .m (show (decide (RF2.length = RF.length ∧ (0 : Nat) + lF ≤ RF.length)) = true by simp [*])
  let t92 : Tp pr := .n .rows (show (List.map (fun x => List.map C.fz x) (List.take lF (List.drop (0 : Nat) RF2))) = List.take lF (List.map (fun x => List.map C.fz x) RF2) by simp)
  let t93 : Tp pr := .m (show (decide (RW2.length = RW.length ∧ (0 : Nat) + RW.length ≤ RW.length)) = true by simp [*])
  let t94 : Tp pr := .n .rows (show (List.map (fun x => List.map C.fz x) (List.take RW.length (List.drop (0 : Nat) RW2))) = List.take RW.length (List.map (fun x => List.map C.fz x) RW2) by simp)
  let t95 : Tp pr := .m (show (decide (RD2.length = RD.length ∧ (0 : Nat) + RD.length ≤ RD.length)) = true by simp [*])
  let t96 : Tp pr := .n .rows (show (List.map (fun x => List.map C.fz x) (List.take RD.length (List.drop (0 : Nat) RD2))) = List.take RD.length (List.map (fun x => List.map C.fz x) RD2) by simp)
  let t97 : Tp pr := .a (Ev.castq (((congrArg (fun x => Ev.Q.call (37 : FuncId) [V.agg [bl rd, i64 rp, i64 re, i64 rv, V.t (T.seq (4 : Nat) x), V.t (T.seq (4 : Nat) (List.map (List.map C.fz) (List.take RW.length RW2))), V.t (T.seq (2 : Nat) (List.map (List.map C.fz) (List.take RD.length RD2)))], i64 (1 : Int)] []) (show (List.map (List.map C.fz) (List.take lF RF2)) = (List.take lF (List.map (fun x => List.map C.fz x) RF2)) by simp)).trans (congrArg (fun x => Ev.Q.call (37 : FuncId) [V.agg [bl rd, i64 rp, i64 re, i64 rv, V.t (T.seq (4 : Nat) (List.take lF (List.map (fun x => List.map C.fz x) RF2))), V.t (T.seq (4 : Nat) x), V.t (T.seq (2 : Nat) (List.map (List.map C.fz) (List.take RD.length RD2)))], i64 (1 : Int)] []) (show (List.map (List.map C.fz) (List.take RW.length RW2)) = (List.take RW.length (List.map (fun x => List.map C.fz x) RW2)) by simp))).trans (congrArg (fun x => Ev.Q.call (37 : FuncId) [V.agg [bl rd, i64 rp, i64 re, i64 rv, V.t (T.seq (4 : Nat) (List.take lF (List.map (fun x => List.map C.fz x) RF2))), V.t (T.seq (4 : Nat) (List.take RW.length (List.map (fun x => List.map C.fz x) RW2))), V.t (T.seq (2 : Nat) x)], i64 (1 : Int)] []) (show (List.map (List.map C.fz) (List.take RD.length RD2)) = (List.take RD.length (List.map (fun x => List.map C.fz x) RD2)) by simp))) (g8))
  let t99 : Tp pr := .b (show (decide (k3 < (0 : Int))) = false by (simp; omega))
  exact .tp [.a (h0), t1, .a (gz), t3, .mT, .a (g1), .mT, .mT, .a (gt), .mT, t10, t11, t12, t13, t14, t15, t16, t17, t18, .mT, .mT, .mT, .mT, .mT, .mT, .mT, .a (g1), .a (gt), t10, t11, t12, t13, t14, t15, t16, t17, t36, t37, t38, t39, t40, t41, t42, t43, t44, .mT, .bF, .bF, .a (g1), t10, t11, t10, t11, .a (g4), .mT, .bF, .mT, .mT, .a (gt), .mT, t12, t13, t14, t15, t16, t17, t12, t13, t14, t15, t16, t17, t72, .mT, .mT, .mT, .bF, .a (g6), .a (gm), t79, t38, t39, t40, t41, t42, t43, t44, .mT, .bF, .bF, .a (g7), t91, t92, t93, t94, t95, t96, t97, .mT, t99, .b (show (k3 != k3) = false by simp), .mT, .a (g1), .mT, .mT, .a (gt), .mT, t10, t11, t12, t13, t14, t15, t16, t17, t36, t37, .mT, .mT, .mT, .mT, .mT, .mT, .mT, t38, t39, t40, t41, t42, t43, t44, .mT, .bF, .bF, t91, t92, t93, t94, t95, t96, t97, .mT, t99, .b (show (k3 != k3) = false by simp)] (by kernel_rfl)
theorem frm_take (l J : List Frm) : List.take l.length ((l ++ J).map Frm.cc) = l.map Frm.cc := by
  rw [List.map_append]
  exact List.take_left' (by simp)
def Mch.mc (m : Mch) : Mc := ⟨m.done, m.pl, m.env, m.val, m.frs.reverse, m.vals, m.bds⟩
theorem law0_ev (l : List Cell) (a : Mch) (hl : l.length ≤ 9223372036854775807) (w1 : a.frs.length ≤ 9223372036854775807) (w2 : a.vals.length ≤ 9223372036854775807) (w3 : a.bds.length ≤ 9223372036854775807) :
    Ev pr (.call 5 [.t (.seq 2 (l.map Cell.ce)), mF a.done a.pl a.env a.val (a.frs.map Frm.ce) (a.vals.map Vl.ce) (a.bds.map Bd.ce)] []) (.val (bl true) []) := by
  have h0 := szCellS_ev l 1048576 (by omega) (by omega) hl
  unfold szCell at h0
  by_cases hz : (1048576 : Int) - l.length < 0
  · rw [if_pos hz] at h0
    exact lawZ1 _ (.t .nilp) _ _ _ _ _ _ _ h0
  · rw [if_neg hz] at h0
    have h1 : l.length ≤ 1048576 := by omega
    have s1 := szFrmS_ev a.frs (1048576 - l.length) (by omega) (by omega) w1
    unfold szFrm at s1
    by_cases z1 : (1048576 : Int) - l.length - a.frs.length < 0
    · rw [if_pos z1] at s1
      exact lawZ2 _ _ _ _ _ _ _ _ _ (by omega) h0 (szM1_ev _ _ _ _ _ _ _ _ s1)
    · rw [if_neg z1] at s1
      have s2 := szVlS_ev a.vals (1048576 - l.length - a.frs.length) (by omega) (by omega) w2
      unfold szVl at s2
      by_cases z2 : (1048576 : Int) - l.length - a.frs.length - a.vals.length < 0
      · rw [if_pos z2] at s2
        exact lawZ2 _ _ _ _ _ _ _ _ _ (by omega) h0 (szM2_ev _ _ _ _ _ _ _ _ _ s1 (by omega) s2)
      · rw [if_neg z2] at s2
        have s3 := szBdS_ev a.bds (1048576 - l.length - a.frs.length - a.vals.length) (by omega) (by omega) w3
        unfold szBd at s3
        by_cases z3 : (1048576 : Int) - l.length - a.frs.length - a.vals.length - a.bds.length < 0
        · rw [if_pos z3] at s3
          exact lawZ2 _ _ _ _ _ _ _ _ _ (by omega) h0 (szM3_ev _ _ _ _ _ _ _ _ _ _ s1 (by omega) s2 (by omega) s3)
        · rw [if_neg z3] at s3
          have gz := szM_ev a.done a.pl a.env a.val _ _ _ _ _ _ _ s1 (by omega) s2 (by omega) s3 (by omega)
          have t1 := toFrmS_ev a.frs (by omega)
          have t2 := toVlS_ev a.vals (by omega)
          have t3 := toBdS_ev a.bds (by omega)
          have n1 : (a.frs.map Frm.cc).length = a.frs.length := by simp
          have n2 : (a.vals.map Vl.cc).length = a.vals.length := by simp
          have n3 : (a.bds.map Bd.cc).length = a.bds.length := by simp
          have gt := toMachine_ev a.done a.pl a.env a.val _ _ _ _ _ _ (by rw [n1]; exact t1) (by rw [n2]; exact t2) (by rw [n3]; exact t3)
          have gq := eqMachine_ev a.done a.pl a.env a.val _ _ _ (eqFrmS_ev a.frs (by omega)) (eqVlS_ev a.vals (by omega)) (eqBdS_ev a.bds (by omega))
          have y1 := markFrmS_ev a.frs (1 + 2 * l.length) (by omega) (by omega) (by omega)
          have y2 := markVlS_ev a.vals (1 + 2 * l.length + 4 * a.frs.length) (by omega) (by omega) (by omega)
          have y3 := markBdS_ev a.bds (1 + 2 * l.length + 4 * a.frs.length + 4 * a.vals.length) (by omega) (by omega) (by omega)
          have gm := markMachine_ev a.done a.pl a.env a.val (a.frs.map Frm.cc).length (a.frs.map Frm.cc) (a.vals.map Vl.cc) (a.bds.map Bd.cc) ((mkFrm (1 + 2 * l.length) a.frs.length).map Frm.cc) ((mkVl (1 + 2 * l.length + 4 * a.frs.length) a.vals.length).map Vl.cc) ((mkBd (1 + 2 * l.length + 4 * a.frs.length + 4 * a.vals.length) a.bds.length).map Bd.cc)
            (by simp [mkFrm_len]) (by simp [mkVl_len]) (by simp [mkBd_len]) (1 + 2 * l.length) _ _ _ (by rw [n1]; exact y1) (by rw [n2]; exact y2) (by rw [n3]; exact y3)
          have g2 := StepMachineS_ev l a.mc h1 (by simp [Mch.mc]; omega) (by simp [Mch.mc]; omega) (by simp [Mch.mc]; omega)
          obtain ⟨jk, hs, g3⟩ := StepMachineI_ev l a.mc h1 (by simp [Mch.mc]; omega) (by simp [Mch.mc]; omega) (by simp [Mch.mc]; omega)
          have em : mV0 a.mc = mF a.done a.pl a.env a.val (a.frs.map Frm.ce) (a.vals.map Vl.ce) (a.bds.map Bd.ce) := by simp [mV0, Mch.mc]
          rw [em] at g2 g3
          cases hp : stpM l a.mc with
          | none =>
            rw [hp] at g2 g3
            exact lawN l h1 h0 _ _ _ _ _ _ _ _ _ _ _ _ _ _ (by omega) gz gt (frm_fz _) (vl_fz _) (bd_fz _) (take_all _) (take_all _) (take_all _) gq _ (by omega) gm g2 g3
          | some m =>
            obtain ⟨⟨s1', s2', s3'⟩, s4⟩ := hs m hp
            rw [hp] at g2 g3
            clear hs hp em
            have s5 : m.frs.length = m.frs.reverse.length := by simp
            unfold smIO at g3
            unfold smSO at g2
            dsimp only at g2 g3
            rw [s5] at g3 s1' s4
            clear s5
            generalize m.frs.reverse = L at *
            have a1 := markFrmJ_ev (jk.map Frm.cc) L 1 (by omega) (by omega) (by omega)
            have a2 := markVlS_ev m.vals (1 + 4 * L.length) (by omega) (by omega) (by omega)
            have a3 := markBdS_ev m.bds (1 + 4 * L.length + 4 * m.vals.length) (by omega) (by omega) (by omega)
            have b1 := heldFrmS_ev L.length 1 (by omega) (by omega) (by omega)
            have b2 := heldVlS_ev m.vals.length (1 + 4 * L.length) (by omega) (by omega) (by omega)
            have b3 := heldBdS_ev m.bds.length (1 + 4 * L.length + 4 * m.vals.length) (by omega) (by omega) (by omega)
            have c1 := eqFrmS_ev L (by omega)
            have c2 := eqVlS_ev m.vals (by omega)
            have c3 := eqBdS_ev m.bds (by omega)
            have l1 : (m.vals.map Vl.cc).length = m.vals.length := by simp
            have l2 : (m.bds.map Bd.cc).length = m.bds.length := by simp
            have k1 := mkFrm_len 1 L.length
            have k2 := mkVl_len (1 + 4 * L.length) m.vals.length
            have k3 := mkBd_len (1 + 4 * L.length + 4 * m.vals.length) m.bds.length
            have F2 : List.take L.length ((mkFrm 1 L.length).map Frm.cc ++ jk.map Frm.cc) = (mkFrm 1 L.length).map Frm.cc := List.take_left' (by simp [k1])
            refine lawS l h1 h0 _ _ _ _ _ _ _ _ _ _ _ _ _ _ (by omega) gz gt (frm_fz _) (vl_fz _) (bd_fz _) (take_all _) (take_all _) (take_all _) gq _ (by omega) gm m.done m.pl m.env m.val L.length ((L ++ jk).map Frm.cc) (m.vals.map Vl.cc) (m.bds.map Bd.cc) ((mkFrm 1 L.length).map Frm.cc ++ jk.map Frm.cc) ((mkVl (1 + 4 * L.length) m.vals.length).map Vl.cc) ((mkBd (1 + 4 * L.length + 4 * m.vals.length) m.bds.length).map Bd.cc)
              (by simp) (by simp [k1]) (by simp [k2]) (by simp [k3]) (1 + 4 * L.length) (1 + 4 * L.length + 4 * m.vals.length) (1 + 4 * L.length + 4 * m.vals.length + 2 * m.bds.length) (by omega) (by omega) (by omega) (take_all _) (take_all _) ?_ (L.map Frm.ce) ?_ ?_ ?_ ?_ ?_ ?_ ?_ ?_ ?_ ?_ ?_ ?_
            · simp [Ob.flat, Frm.cc, Vl.cc, Bd.cc, C.flat, T.flat]
            · rw [frm_take, frm_fz]
            · rw [vl_fz, bd_fz]
              exact g2
            · exact g3
            · rw [frm_take, frm_fz]
              exact c1
            · rw [vl_fz]
              exact c2
            · rw [bd_fz]
              exact c3
            · rw [List.map_append]
              simp only [List.length_append, List.length_map] at a1 ⊢
              exact a1
            · rw [l1]
              exact a2
            · rw [l2]
              exact a3
            · rw [F2, frm_fz]
              exact b1
            · rw [l1, List.take_of_length_le (by simp [k2]), vl_fz]
              exact b2
            · rw [l2, List.take_of_length_le (by simp [k3]), bd_fz]
              exact b3
theorem law_ev (l : List Cell) (h : l.length ≤ 9223372036854775807 ∧ ∀ x ∈ l, x.wf) (a : Mch) (h3 : a.wf) : Ev pr (.call 5 [.t (.seq 2 (l.map Cell.ce)), vs a.ce] []) (.val (.t (.bool true)) []) :=
  law0_ev l a h.1 h3.2.2.2.2.1.1 h3.2.2.2.2.2.1.1 h3.2.2.2.2.2.2.1
end Go.Ev
