import Derived.Test.YtipolnpffmfmmabKFnSpill4
/- Good spans. -/
namespace Go.Ev
set_option linter.unusedVariables false
set_option linter.unusedSimpArgs false
open Go.Proofs
set_option maxRecDepth 100000
set_option linter.unusedVariables false
set_option linter.unusedSimpArgs false
set_option maxHeartbeats 2000000
/-! Good spans. -/
theorem bad1_ev (s : Span) : Ev pr (.call 65 [vs s.ce] []) (.val (bl (!good1 s)) []) := by
  unfold good1
  by_cases h1 : s.from_ < 0
  · let t0 : Tp pr := .b (show (decide (s.from_ < (0 : Int))) = true by (simp; omega))
    exact .tpe [t0, .b (rfl : true = true)] (Out.val (V.t (T.bool true)) []) (by kernel_rfl) (congrArg (fun x => Out.val (V.t (T.bool x)) []) (show (true) = (!!(decide (s.from_ < (0 : Int)) || decide (s.from_ ≥ s.to_) || decide (s.to_ > (1000 : Int)))) by simp [h1]))
  · by_cases h2 : s.from_ ≥ s.to_
    · let t0 : Tp pr := .b (show (decide (s.from_ < (0 : Int))) = false by (simp; omega))
      let t1 : Tp pr := .b (show (decide (s.from_ ≥ s.to_)) = true by (simp; omega))
      exact .tpe [t0, t1] (Out.val (V.t (T.bool true)) []) (by kernel_rfl) (congrArg (fun x => Out.val (V.t (T.bool x)) []) (show (true) = (!!(decide (s.from_ < (0 : Int)) || decide (s.from_ ≥ s.to_) || decide (s.to_ > (1000 : Int)))) by simp [h1, h2]))
    · let t0 : Tp pr := .b (show (decide (s.from_ < (0 : Int))) = false by (simp; omega))
      let t1 : Tp pr := .b (show (decide (s.from_ ≥ s.to_)) = false by (simp; omega))
      exact .tpe [t0, t1] (Out.val (V.t (T.bool (decide (s.to_ > (1000 : Int))))) []) (by kernel_rfl) (congrArg (fun x => Out.val (V.t (T.bool x)) []) (show (decide (s.to_ > (1000 : Int))) = (!!(decide (s.from_ < (0 : Int)) || decide (s.from_ ≥ s.to_) || decide (s.to_ > (1000 : Int)))) by simp [h1, h2]))
def ixB : List Span → Int → Int
  | [], _ => -1
  | s :: l, i => if good1 s then ixB l (i + 1) else i
theorem ixB_pos : ∀ (l : List Span) (i : Int), 0 ≤ i → (ixB l i ≥ 0 ↔ l.all good1 = false)
  | [], i, h => by simp [ixB]
  | s :: l, i, h => by
    unfold ixB
    by_cases c : good1 s = true
    · rw [if_pos c, ixB_pos l (i + 1) (by omega), List.all_cons, c, Bool.true_and]
    · rw [if_neg c]
      have c2 : good1 s = false := by simpa using c
      rw [List.all_cons, c2]
      simp [h]
theorem ixL_ev (l : List Span) (hl : l.length ≤ 1048576) : ∀ (rest m : List Span), l = m ++ rest →
    Ev pr (.loop (lq pr 100 0) (at_ [(0, spq l), (1, .t (.clo 65 [])), (7, i64 l.length), (8, i64 m.length)] [] 0))
      (if ixB rest m.length = -1 then .exit 0 (at_ [] [] 0) else .ret (at_ [(4, i64 (ixB rest m.length))] [] 0))
  | [], m, he => by
    have hll : (l.length : Int) = m.length := by simp [he]
    rw [if_pos (show ixB [] (m.length : Int) = -1 from rfl)]
    let t0 : Tp pr := .b (show (decide ((↑m.length : Int) < (↑l.length : Int))) = false by (simp; omega))
    exact .tp [t0] (by kernel_rfl)
  | x :: rest, m, he => by
    have hll : (l.length : Int) = m.length + 1 + rest.length := by simp [he]; omega
    have hg : lkp (l.map Span.ce) (m.length : Int) = some x.ce := by subst he; simp
    have ht := bad1_ev x
    have ih := ixL_ev l hl rest (m ++ [x]) (by simp [he])
    rw [show (((m ++ [x]).length : Nat) : Int) = (m.length : Int) + 1 by simp] at ih
    unfold ixB
    by_cases c : good1 x = true
    · rw [if_pos c]
      rw [c] at ht
      by_cases d : ixB rest ((m.length : Int) + 1) = -1
      · rw [if_pos d] at ih ⊢
        let t0 : Tp pr := .b (show (decide ((↑m.length : Int) < (↑l.length : Int))) = true by (simp; omega))
        let t1 : Tp pr := .g .row (show (lkp (List.map Span.ce l) (↑m.length : Int)) = some (x.ce) from hg)
        let t4 : Tp pr := .i (wrap_i64 (a := (↑m.length : Int) + (1 : Int)) (by omega) (by omega))
        exact .tp [t0, t1, .a (ht), .b (rfl : false = false), t4, .a (ih)] (by kernel_rfl)
      · rw [if_neg d] at ih ⊢
        let t0 : Tp pr := .b (show (decide ((↑m.length : Int) < (↑l.length : Int))) = true by (simp; omega))
        let t1 : Tp pr := .g .row (show (lkp (List.map Span.ce l) (↑m.length : Int)) = some (x.ce) from hg)
        let t4 : Tp pr := .i (wrap_i64 (a := (↑m.length : Int) + (1 : Int)) (by omega) (by omega))
        exact .tp [t0, t1, .a (ht), .b (rfl : false = false), t4, .a (ih)] (by kernel_rfl)
    · rw [if_neg c, if_neg (by omega)]
      have c2 : good1 x = false := by simpa using c
      rw [c2] at ht
      let t0 : Tp pr := .b (show (decide ((↑m.length : Int) < (↑l.length : Int))) = true by (simp; omega))
      let t1 : Tp pr := .g .row (show (lkp (List.map Span.ce l) (↑m.length : Int)) = some (x.ce) from hg)
      exact .tp [t0, t1, .a (ht), .b (rfl : true = true)] (by kernel_rfl)
theorem ixF_ev (l : List Span) (hl : l.length ≤ 1048576) : Ev pr (.call 100 [spq l, .t (.clo 65 [])] []) (.val (i64 (ixB l 0)) []) := by
  have g := ixL_ev l hl l [] rfl
  rw [show ((([] : List Span).length : Nat) : Int) = 0 from rfl] at g
  by_cases d : ixB l 0 = -1
  · rw [if_pos d] at g
    rw [d]
    let t0 : Tp pr := .i (show ((↑(List.map Span.ce l).length : Int) : Int) = (↑l.length : Int) by simp)
    exact .tp [t0, .a (g)] (by kernel_rfl)
  · rw [if_neg d] at g
    let t0 : Tp pr := .i (show ((↑(List.map Span.ce l).length : Int) : Int) = (↑l.length : Int) by simp)
    exact .tp [t0, .a (g)] (by kernel_rfl)
theorem conF_ev (l : List Span) (hl : l.length ≤ 1048576) : Ev pr (.call 64 [spq l, .t (.clo 65 [])] []) (.val (bl (!l.all good1)) []) := by
  have g := ixF_ev l hl
  have c := ixB_pos l 0 (by omega)
  cases h : l.all good1
  · have c2 := c.2 h
    exact .tpe [.a (g)] (Out.val (V.t (T.bool (decide (ixB l (0 : Int) ≥ (0 : Int))))) []) (by kernel_rfl) (congrArg (fun x => Out.val (V.t (T.bool x)) []) (show (decide (ixB l (0 : Int) ≥ (0 : Int))) = (true) by simp [*]))
  · have c2 : ¬ ixB l 0 ≥ 0 := fun g => by have := c.1 g; rw [h] at this; cases this
    exact .tpe [.a (g)] (Out.val (V.t (T.bool (decide (ixB l (0 : Int) ≥ (0 : Int))))) []) (by kernel_rfl) (congrArg (fun x => Out.val (V.t (T.bool x)) []) (show (decide (ixB l (0 : Int) ≥ (0 : Int))) = (false) by simp [*]))
theorem GoodSpansI_ev (l : List Span) (hl : l.length ≤ 1048576) : Ev pr (.call 20 [spq l] []) (.val (bl (goodSp l)) []) := by
  have g := conF_ev l hl
  unfold goodSp
  by_cases h : l.length ≤ 30
  · cases h2 : l.all good1
    · rw [h2] at g
      let t0 : Tp pr := .i (show ((↑(List.map Span.ce l).length : Int) : Int) = (↑l.length : Int) by simp)
      let t1 : Tp pr := .b (show (decide ((↑l.length : Int) > (30 : Int))) = false by (simp; omega))
      exact .tpe [t0, t1, .a (g)] (Out.val (V.t (T.bool false)) []) (by kernel_rfl) (congrArg (fun x => Out.val (V.t (T.bool x)) []) (show (false) = (decide (l.length ≤ (30 : Nat)) && false) by simp [h]))
    · rw [h2] at g
      let t0 : Tp pr := .i (show ((↑(List.map Span.ce l).length : Int) : Int) = (↑l.length : Int) by simp)
      let t1 : Tp pr := .b (show (decide ((↑l.length : Int) > (30 : Int))) = false by (simp; omega))
      exact .tpe [t0, t1, .a (g)] (Out.val (V.t (T.bool true)) []) (by kernel_rfl) (congrArg (fun x => Out.val (V.t (T.bool x)) []) (show (true) = (decide (l.length ≤ (30 : Nat)) && true) by simp [h]))
  · let t0 : Tp pr := .i (show ((↑(List.map Span.ce l).length : Int) : Int) = (↑l.length : Int) by simp)
    let t1 : Tp pr := .b (show (decide ((↑l.length : Int) > (30 : Int))) = true by (simp; omega))
    exact .tpe [t0, t1] (Out.val (V.t (T.bool false)) []) (by kernel_rfl) (congrArg (fun x => Out.val (V.t (T.bool x)) []) (show (false) = (decide (l.length ≤ (30 : Nat)) && l.all good1) by simp [h]))
theorem goodSL_ev (l : List Span) (hl : l.length ≤ 1048576) : ∀ (rest m : List Span), l = m ++ rest →
    Ev pr (.loop (lq pr 56 0) (at_ [(0, spq l), (5, spq l), (6, i64 l.length), (7, i64 m.length)] [] 0))
      (if rest.all good1 = true then .exit 0 (at_ [(0, spq l)] [] 0) else .ret (at_ [(2, bl false)] [] 0))
  | [], m, he => by
    have hll : (l.length : Int) = m.length := by simp [he]
    rw [if_pos (show List.all [] good1 = true from rfl)]
    let t0 : Tp pr := .b (show (decide ((↑m.length : Int) < (↑l.length : Int))) = false by (simp; omega))
    exact .tp [t0] (by kernel_rfl)
  | x :: rest, m, he => by
    have hll : (l.length : Int) = m.length + 1 + rest.length := by simp [he]; omega
    have hg : lkp (l.map Span.ce) (m.length : Int) = some x.ce := by subst he; simp
    have ih := goodSL_ev l hl rest (m ++ [x]) (by simp [he])
    rw [List.all_cons]
    by_cases h1 : x.from_ < 0
    · rw [show good1 x = false by simp [good1, h1], Bool.false_and, if_neg (by simp)]
      let t0 : Tp pr := .b (show (decide ((↑m.length : Int) < (↑l.length : Int))) = true by (simp; omega))
      let t1 : Tp pr := .g .row (show (lkp (List.map Span.ce l) (↑m.length : Int)) = some (x.ce) from hg)
      let t2 : Tp pr := .b (show (decide (x.from_ < (0 : Int))) = true by (simp; omega))
      exact .tp [t0, t1, t2, .b (rfl : true = true), .b (rfl : true = true)] (by kernel_rfl)
    · by_cases h2 : x.from_ ≥ x.to_
      · rw [show good1 x = false by simp [good1, h2], Bool.false_and, if_neg (by simp)]
        let t0 : Tp pr := .b (show (decide ((↑m.length : Int) < (↑l.length : Int))) = true by (simp; omega))
        let t1 : Tp pr := .g .row (show (lkp (List.map Span.ce l) (↑m.length : Int)) = some (x.ce) from hg)
        let t2 : Tp pr := .b (show (decide (x.from_ < (0 : Int))) = false by (simp; omega))
        let t3 : Tp pr := .b (show (decide (x.from_ ≥ x.to_)) = true by (simp; omega))
        exact .tp [t0, t1, t2, t3, .b (rfl : true = true)] (by kernel_rfl)
      · by_cases h3 : x.to_ > 1000
        · rw [show good1 x = false by simp [good1, h3], Bool.false_and, if_neg (by simp)]
          let t0 : Tp pr := .b (show (decide ((↑m.length : Int) < (↑l.length : Int))) = true by (simp; omega))
          let t1 : Tp pr := .g .row (show (lkp (List.map Span.ce l) (↑m.length : Int)) = some (x.ce) from hg)
          let t2 : Tp pr := .b (show (decide (x.from_ < (0 : Int))) = false by (simp; omega))
          let t3 : Tp pr := .b (show (decide (x.from_ ≥ x.to_)) = false by (simp; omega))
          let t4 : Tp pr := .b (show (decide (x.to_ > (1000 : Int))) = true by (simp; omega))
          exact .tp [t0, t1, t2, t3, t4] (by kernel_rfl)
        · rw [show good1 x = true by simp [good1]; omega, Bool.true_and]
          by_cases d : rest.all good1 = true
          · rw [if_pos d] at ih ⊢
            let t0 : Tp pr := .b (show (decide ((↑m.length : Int) < (↑l.length : Int))) = true by (simp; omega))
            let t1 : Tp pr := .g .row (show (lkp (List.map Span.ce l) (↑m.length : Int)) = some (x.ce) from hg)
            let t2 : Tp pr := .b (show (decide (x.from_ < (0 : Int))) = false by (simp; omega))
            let t3 : Tp pr := .b (show (decide (x.from_ ≥ x.to_)) = false by (simp; omega))
            let t4 : Tp pr := .b (show (decide (x.to_ > (1000 : Int))) = false by (simp; omega))
            let t5 : Tp pr := .i (wrap_i64 (a := (↑m.length : Int) + (1 : Int)) (by omega) (by omega))
            let t6 : Tp pr := .a (Ev.castq (congrArg (fun x => Q.loop (lq pr (56 : FuncId) (0 : Nat)) (at_ [((0 : Nat), spq l), ((5 : Nat), spq l), ((6 : Nat), i64 (↑l.length : Int)), ((7 : Nat), i64 x)] [] (0 : Nat))) (show ((↑(m ++ [x]).length : Int)) = ((↑m.length : Int) + (1 : Int)) by simp)) (ih))
            exact .tp [t0, t1, t2, t3, t4, t5, t6] (by kernel_rfl)
          · rw [if_neg d] at ih ⊢
            let t0 : Tp pr := .b (show (decide ((↑m.length : Int) < (↑l.length : Int))) = true by (simp; omega))
            let t1 : Tp pr := .g .row (show (lkp (List.map Span.ce l) (↑m.length : Int)) = some (x.ce) from hg)
            let t2 : Tp pr := .b (show (decide (x.from_ < (0 : Int))) = false by (simp; omega))
            let t3 : Tp pr := .b (show (decide (x.from_ ≥ x.to_)) = false by (simp; omega))
            let t4 : Tp pr := .b (show (decide (x.to_ > (1000 : Int))) = false by (simp; omega))
            let t5 : Tp pr := .i (wrap_i64 (a := (↑m.length : Int) + (1 : Int)) (by omega) (by omega))
            let t6 : Tp pr := .a (Ev.castq (congrArg (fun x => Q.loop (lq pr (56 : FuncId) (0 : Nat)) (at_ [((0 : Nat), spq l), ((5 : Nat), spq l), ((6 : Nat), i64 (↑l.length : Int)), ((7 : Nat), i64 x)] [] (0 : Nat))) (show ((↑(m ++ [x]).length : Int)) = ((↑m.length : Int) + (1 : Int)) by simp)) (ih))
            exact .tp [t0, t1, t2, t3, t4, t5, t6] (by kernel_rfl)
theorem GoodSpansS_ev (l : List Span) (hl : l.length ≤ 1048576) : Ev pr (.call 56 [spq l] []) (.val (bl (goodSp l)) []) := by
  have g := goodSL_ev l hl l [] rfl
  unfold goodSp
  cases h2 : l.all good1
  · rw [if_neg (by simp [h2])] at g
    let t0 : Tp pr := .i (show ((↑(List.map Span.ce l).length : Int) : Int) = (↑l.length : Int) by simp)
    exact .tpe [t0, .a (g)] (Out.val (V.t (T.bool false)) []) (by kernel_rfl) (congrArg (fun x => Out.val (V.t (T.bool x)) []) (show (false) = (decide (l.length ≤ (30 : Nat)) && false) by simp [h2]))
  · rw [if_pos h2] at g
    by_cases h : l.length ≤ 30
    · let t0 : Tp pr := .i (show ((↑(List.map Span.ce l).length : Int) : Int) = (↑l.length : Int) by simp)
      let t2 : Tp pr := .i (show ((↑(List.map Span.ce l).length : Int) : Int) = (↑l.length : Int) by simp)
      exact .tpe [t0, .a (g), t2] (Out.val (V.t (T.bool (decide ((↑l.length : Int) ≤ (30 : Int))))) []) (by kernel_rfl) (congrArg (fun x => Out.val (V.t (T.bool x)) []) (show (decide ((↑l.length : Int) ≤ (30 : Int))) = (decide (l.length ≤ (30 : Nat)) && true) by (simp; omega)))
    · let t0 : Tp pr := .i (show ((↑(List.map Span.ce l).length : Int) : Int) = (↑l.length : Int) by simp)
      let t2 : Tp pr := .i (show ((↑(List.map Span.ce l).length : Int) : Int) = (↑l.length : Int) by simp)
      exact .tpe [t0, .a (g), t2] (Out.val (V.t (T.bool (decide ((↑l.length : Int) ≤ (30 : Int))))) []) (by kernel_rfl) (congrArg (fun x => Out.val (V.t (T.bool x)) []) (show (decide ((↑l.length : Int) ≤ (30 : Int))) = (decide (l.length ≤ (30 : Nat)) && true) by (simp; omega)))
end Go.Ev

/- Spans: the least number that is free. -/
namespace Go.Ev
set_option linter.unusedVariables false
set_option linter.unusedSimpArgs false
open Go.Proofs
set_option maxRecDepth 100000
set_option linter.unusedVariables false
set_option linter.unusedSimpArgs false
set_option maxHeartbeats 2000000
theorem held_ev (s : Span) (tt : Int) : Ev pr (.call 55 [vs s.ce, i64 tt] []) (.val (bl (heldS s tt)) []) := by
  unfold heldS
  by_cases h1 : s.from_ ≤ tt
  · by_cases h2 : tt < s.to_
    · let t0 : Tp pr := .b (show (decide (s.from_ ≤ tt)) = true by (simp; omega))
      exact .tpe [t0] (Out.val (V.t (T.bool (decide (tt < s.to_)))) []) (by kernel_rfl) (congrArg (fun x => Out.val (V.t (T.bool x)) []) (show (decide (tt < s.to_)) = (decide (s.from_ ≤ tt) && decide (tt < s.to_)) by simp [h1, h2]))
    · let t0 : Tp pr := .b (show (decide (s.from_ ≤ tt)) = true by (simp; omega))
      exact .tpe [t0] (Out.val (V.t (T.bool (decide (tt < s.to_)))) []) (by kernel_rfl) (congrArg (fun x => Out.val (V.t (T.bool x)) []) (show (decide (tt < s.to_)) = (decide (s.from_ ≤ tt) && decide (tt < s.to_)) by simp [h1, h2]))
  · let t0 : Tp pr := .b (show (decide (s.from_ ≤ tt)) = false by (simp; omega))
    exact .tpe [t0] (Out.val (V.t (T.bool false)) []) (by kernel_rfl) (congrArg (fun x => Out.val (V.t (T.bool x)) []) (show (false) = (decide (s.from_ ≤ tt) && decide (tt < s.to_)) by simp [h1]))
theorem takenL_ev (l : List Span) (p : List Int) (hl : l.length ≤ 1000) (hp : p.length = l.length) (tt n : Int) : ∀ (rest m : List Span) (rp mp : List Int) (b : Bool), l = m ++ rest → p = mp ++ rp → mp.length = m.length →
    Ev pr (.loop (lq pr 54 1) (at_ [(0, spq l), (1, isq p), (2, i64 tt), (7, i64 n), (8, bl b), (13, spq l), (14, i64 l.length), (15, i64 m.length)] [] 0))
      (.exit 2 (at_ [(0, spq l), (1, isq p), (2, i64 tt), (7, i64 n), (8, bl (b || heldN rest rp tt n))] [] 0))
  | [], m, rp, mp, b, he, hq, hm => by
    have hll : (l.length : Int) = m.length := by simp [he]
    rw [show heldN [] rp tt n = false by simp [heldN], Bool.or_false]
    let t0 : Tp pr := .b (show (decide ((↑m.length : Int) < (↑l.length : Int))) = false by (simp; omega))
    exact .tp [t0] (by kernel_rfl)
  | x :: rest, m, [], mp, b, he, hq, hm => by
    rw [he, hq] at hp
    simp at hp
    omega
  | x :: rest, m, q :: rp, mp, b, he, hq, hm => by
    have hll : (l.length : Int) = m.length + 1 + rest.length := by simp [he]; omega
    have hg : lkp (l.map Span.ce) (m.length : Int) = some x.ce := by subst he; simp
    have hg2 : lkp (p.map intt) (m.length : Int) = some [T.int .i64 q] := by subst hq; rw [← hm]; simp [intt]
    have ht := held_ev x tt
    have ih0 := fun b => takenL_ev l p hl hp tt n rest (m ++ [x]) rp (mp ++ [q]) b (by simp [he]) (by simp [hq]) (by simp [hm])
    unfold heldN
    cases b
    · by_cases e : q = n
      · subst e
        cases hh : heldS x tt
        · rw [hh] at ht
          have ih := ih0 false
          let t0 : Tp pr := .b (show (decide ((↑m.length : Int) < (↑l.length : Int))) = true by (simp; omega))
          let t1 : Tp pr := .g .row (show (lkp (List.map Span.ce l) (↑m.length : Int)) = some (x.ce) from hg)
          let t3 : Tp pr := .g .row (show (lkp (List.map intt p) (↑m.length : Int)) = some ([T.int IntKind.i64 q]) from hg2)
          let t4 : Tp pr := .b (show (decide (q = q)) = true by simp)
          let t6 : Tp pr := .i (wrap_i64 (a := (↑m.length : Int) + (1 : Int)) (by omega) (by omega))
          let t7 : Tp pr := .a (Ev.castq (congrArg (fun x => Q.loop (lq pr (54 : FuncId) (1 : Nat)) (at_ [((0 : Nat), spq l), ((1 : Nat), isq p), ((2 : Nat), i64 tt), ((7 : Nat), i64 q), ((8 : Nat), bl false), ((13 : Nat), spq l), ((14 : Nat), i64 (↑l.length : Int)), ((15 : Nat), i64 x)] [] (0 : Nat))) (show ((↑(m ++ [x]).length : Int)) = ((↑m.length : Int) + (1 : Int)) by simp)) (ih0 (false)))
          exact .tpe [t0, t1, .b (rfl : false = false), t3, t4, .a (ht), t6, t7] (Out.exit (2 : Nat) (at_ [((0 : Nat), V.t (T.seq (2 : Nat) (List.map Span.ce l))), ((1 : Nat), V.t (T.seq (1 : Nat) (List.map intt p))), ((2 : Nat), V.t (T.int IntKind.i64 tt)), ((7 : Nat), V.t (T.int IntKind.i64 q)), ((8 : Nat), V.t (T.bool (false || heldN rest rp tt q)))] [] (0 : Nat))) (by kernel_rfl) (congrArg (fun x => Out.exit (2 : Nat) (at_ [((0 : Nat), V.t (T.seq (2 : Nat) (List.map Span.ce l))), ((1 : Nat), V.t (T.seq (1 : Nat) (List.map intt p))), ((2 : Nat), V.t (T.int IntKind.i64 tt)), ((7 : Nat), V.t (T.int IntKind.i64 q)), ((8 : Nat), V.t (T.bool x))] [] (0 : Nat))) (show (false || heldN rest rp tt q) = (false || (decide (q = q) && false || heldN rest rp tt q)) by simp))
        · rw [hh] at ht
          have ih := ih0 true
          let t0 : Tp pr := .b (show (decide ((↑m.length : Int) < (↑l.length : Int))) = true by (simp; omega))
          let t1 : Tp pr := .g .row (show (lkp (List.map Span.ce l) (↑m.length : Int)) = some (x.ce) from hg)
          let t3 : Tp pr := .g .row (show (lkp (List.map intt p) (↑m.length : Int)) = some ([T.int IntKind.i64 q]) from hg2)
          let t4 : Tp pr := .b (show (decide (q = q)) = true by simp)
          let t6 : Tp pr := .i (wrap_i64 (a := (↑m.length : Int) + (1 : Int)) (by omega) (by omega))
          let t7 : Tp pr := .a (Ev.castq (congrArg (fun x => Q.loop (lq pr (54 : FuncId) (1 : Nat)) (at_ [((0 : Nat), spq l), ((1 : Nat), isq p), ((2 : Nat), i64 tt), ((7 : Nat), i64 q), ((8 : Nat), bl true), ((13 : Nat), spq l), ((14 : Nat), i64 (↑l.length : Int)), ((15 : Nat), i64 x)] [] (0 : Nat))) (show ((↑(m ++ [x]).length : Int)) = ((↑m.length : Int) + (1 : Int)) by simp)) (ih0 (true)))
          exact .tpe [t0, t1, .b (rfl : false = false), t3, t4, .a (ht), t6, t7] (Out.exit (2 : Nat) (at_ [((0 : Nat), V.t (T.seq (2 : Nat) (List.map Span.ce l))), ((1 : Nat), V.t (T.seq (1 : Nat) (List.map intt p))), ((2 : Nat), V.t (T.int IntKind.i64 tt)), ((7 : Nat), V.t (T.int IntKind.i64 q)), ((8 : Nat), V.t (T.bool true))] [] (0 : Nat))) (by kernel_rfl) (congrArg (fun x => Out.exit (2 : Nat) (at_ [((0 : Nat), V.t (T.seq (2 : Nat) (List.map Span.ce l))), ((1 : Nat), V.t (T.seq (1 : Nat) (List.map intt p))), ((2 : Nat), V.t (T.int IntKind.i64 tt)), ((7 : Nat), V.t (T.int IntKind.i64 q)), ((8 : Nat), V.t (T.bool x))] [] (0 : Nat))) (show (true) = (false || (decide (q = q) && true || heldN rest rp tt q)) by simp))
      · have e2 : (q == n) = false := by simp [e]
        rw [e2]
        have ih := ih0 false
        let t0 : Tp pr := .b (show (decide ((↑m.length : Int) < (↑l.length : Int))) = true by (simp; omega))
        let t1 : Tp pr := .g .row (show (lkp (List.map Span.ce l) (↑m.length : Int)) = some (x.ce) from hg)
        let t3 : Tp pr := .g .row (show (lkp (List.map intt p) (↑m.length : Int)) = some ([T.int IntKind.i64 q]) from hg2)
        let t4 : Tp pr := .b (show (decide (q = n)) = false by assumption)
        let t5 : Tp pr := .i (wrap_i64 (a := (↑m.length : Int) + (1 : Int)) (by omega) (by omega))
        let t6 : Tp pr := .a (Ev.castq (congrArg (fun x => Q.loop (lq pr (54 : FuncId) (1 : Nat)) (at_ [((0 : Nat), spq l), ((1 : Nat), isq p), ((2 : Nat), i64 tt), ((7 : Nat), i64 n), ((8 : Nat), bl false), ((13 : Nat), spq l), ((14 : Nat), i64 (↑l.length : Int)), ((15 : Nat), i64 x)] [] (0 : Nat))) (show ((↑(m ++ [x]).length : Int)) = ((↑m.length : Int) + (1 : Int)) by simp)) (ih0 (false)))
        exact .tp [t0, t1, .b (rfl : false = false), t3, t4, t5, t6] (by kernel_rfl)
    · have ih := ih0 true
      let t0 : Tp pr := .b (show (decide ((↑m.length : Int) < (↑l.length : Int))) = true by (simp; omega))
      let t1 : Tp pr := .g .row (show (lkp (List.map Span.ce l) (↑m.length : Int)) = some (x.ce) from hg)
      let t3 : Tp pr := .i (wrap_i64 (a := (↑m.length : Int) + (1 : Int)) (by omega) (by omega))
      let t4 : Tp pr := .a (Ev.castq (congrArg (fun x => Q.loop (lq pr (54 : FuncId) (1 : Nat)) (at_ [((0 : Nat), spq l), ((1 : Nat), isq p), ((2 : Nat), i64 tt), ((7 : Nat), i64 n), ((8 : Nat), bl true), ((13 : Nat), spq l), ((14 : Nat), i64 (↑l.length : Int)), ((15 : Nat), i64 x)] [] (0 : Nat))) (show ((↑(m ++ [x]).length : Int)) = ((↑m.length : Int) + (1 : Int)) by simp)) (ih0 (true)))
      exact .tp [t0, t1, .b (rfl : true = true), t3, t4] (by kernel_rfl)
theorem leastL_ev (l : List Span) (p : List Int) (hl : l.length ≤ 1000) (hp : p.length = l.length) (tt m : Int) (H : Least l p tt m) : ∀ (d : Nat) (n : Int), 0 ≤ n → n + d = m →
    Ev pr (.loop (lq pr 54 0) (at_ [(0, spq l), (1, isq p), (2, i64 tt), (7, i64 n)] [] 0)) (.ret (at_ [(6, i64 m)] [] 0))
  | 0, n, h0, hd => by
    have e : n = m := by omega
    subst e
    have g := takenL_ev l p hl hp tt n l [] p [] false rfl rfl rfl
    rw [H.no] at g
    let t0 : Tp pr := .i (show ((↑(List.map Span.ce l).length : Int) : Int) = (↑l.length : Int) by simp)
    exact .tp [t0, .a (g), .b (rfl : true = true)] (by kernel_rfl)
  | d + 1, n, h0, hd => by
    have g := takenL_ev l p hl hp tt n l [] p [] false rfl rfl rfl
    rw [H.all n h0 (by omega)] at g
    have ih := leastL_ev l p hl hp tt m H d (n + 1) (by omega) (by omega)
    have hb := H.h1
    let t0 : Tp pr := .i (show ((↑(List.map Span.ce l).length : Int) : Int) = (↑l.length : Int) by simp)
    let t3 : Tp pr := .i (wrap_i64 (a := n + (1 : Int)) (by omega) (by omega))
    exact .tp [t0, .a (g), .b (rfl : false = false), t3, .a (ih)] (by kernel_rfl)
theorem least_ev (l : List Span) (p : List Int) (hl : l.length ≤ 1000) (hp : p.length = l.length) (tt : Int) : Ev pr (.call 54 [spq l, isq p, i64 tt] []) (.val (i64 (leastN l p tt)) []) := by
  have H := leastN_least l p tt
  have hb := H.h0
  have g := leastL_ev l p hl hp tt _ H (leastN l p tt).toNat 0 (Int.le_refl _) (by omega)
  exact .tp [.a (g)] (by kernel_rfl)
theorem courseE_ev (l : List Span) (p : List Int) (hl : l.length ≤ 1000) (hp : p.length = l.length) (tt : Int) : ∀ (rest m : List Span) (rp mp : List Int) (n : Int) (b : Bool), 0 ≤ n → n + rest.length ≤ 2000 → l = m ++ rest → p = mp ++ rp → mp.length = m.length →
    Ev pr (.loop (lq pr 60 1) (at_ [(0, spq l), (1, isq p), (2, i64 tt), (7, i64 n), (8, bl b), (12, spq l), (13, i64 l.length), (14, i64 m.length)] [] 0))
      (.exit 2 (at_ [(0, spq l), (1, isq p), (2, i64 tt), (7, i64 (courseL rest rp tt n b).1), (8, bl (courseL rest rp tt n b).2)] [] 0))
  | [], m, rp, mp, n, b, h0, h1, he, hq, hm => by
    have hll : (l.length : Int) = m.length := by simp [he]
    rw [show courseL [] rp tt n b = (n, b) by simp [courseL]]
    let t0 : Tp pr := .b (show (decide ((↑m.length : Int) < (↑l.length : Int))) = false by (simp; omega))
    exact .tp [t0] (by kernel_rfl)
  | x :: rest, m, [], mp, n, b, h0, h1, he, hq, hm => by
    rw [he, hq] at hp
    simp at hp
    omega
  | x :: rest, m, q :: rp, mp, n, b, h0, h1, he, hq, hm => by
    have hll : (l.length : Int) = m.length + 1 + rest.length := by simp [he]; omega
    have hg : lkp (l.map Span.ce) (m.length : Int) = some x.ce := by subst he; simp
    have hg2 : lkp (p.map intt) (m.length : Int) = some [T.int .i64 q] := by subst hq; rw [← hm]; simp [intt]
    simp only [List.length_cons] at h1
    have ih0 := fun n b h0 h1 => courseE_ev l p hl hp tt rest (m ++ [x]) rp (mp ++ [q]) n b h0 h1 (by simp [he]) (by simp [hq]) (by simp [hm])
    by_cases e : q = n
    · by_cases c1 : x.from_ ≤ tt
      · by_cases c2 : tt < x.to_
        · rw [courseL, if_pos (by simp [e, heldS, c1, c2])]
          have ih := ih0 (n + 1) true (by omega) (by omega)
          let t0 : Tp pr := .b (show (decide ((↑m.length : Int) < (↑l.length : Int))) = true by (simp; omega))
          let t1 : Tp pr := .g .row (show (lkp (List.map Span.ce l) (↑m.length : Int)) = some (x.ce) from hg)
          let t2 : Tp pr := .g .row (show (lkp (List.map intt p) (↑m.length : Int)) = some ([T.int IntKind.i64 q]) from hg2)
          let t3 : Tp pr := .b (show (decide (q = n)) = true by (simp; omega))
          let t4 : Tp pr := .b (show (decide (x.from_ ≤ tt)) = true by (simp; omega))
          let t5 : Tp pr := .b (show (decide (tt < x.to_)) = true by (simp; omega))
          let t6 : Tp pr := .i (wrap_i64 (a := n + (1 : Int)) (by omega) (by omega))
          let t7 : Tp pr := .i (wrap_i64 (a := (↑m.length : Int) + (1 : Int)) (by omega) (by omega))
          let t8 : Tp pr := .a (Ev.castq (congrArg (fun x => Q.loop (lq pr (60 : FuncId) (1 : Nat)) (at_ [((0 : Nat), spq l), ((1 : Nat), isq p), ((2 : Nat), i64 tt), ((7 : Nat), i64 (n + (1 : Int))), ((8 : Nat), bl true), ((12 : Nat), spq l), ((13 : Nat), i64 (↑l.length : Int)), ((14 : Nat), i64 x)] [] (0 : Nat))) (show ((↑(m ++ [x]).length : Int)) = ((↑m.length : Int) + (1 : Int)) by simp)) (ih0 (n + (1 : Int)) (true) (by omega) (by omega)))
          exact .tp [t0, t1, t2, t3, t4, t5, t6, t7, t8] (by kernel_rfl)
        · rw [courseL, if_neg (by simp [heldS, c2])]
          have ih := ih0 n b h0 (by omega)
          let t0 : Tp pr := .b (show (decide ((↑m.length : Int) < (↑l.length : Int))) = true by (simp; omega))
          let t1 : Tp pr := .g .row (show (lkp (List.map Span.ce l) (↑m.length : Int)) = some (x.ce) from hg)
          let t2 : Tp pr := .g .row (show (lkp (List.map intt p) (↑m.length : Int)) = some ([T.int IntKind.i64 q]) from hg2)
          let t3 : Tp pr := .b (show (decide (q = n)) = true by (simp; omega))
          let t4 : Tp pr := .b (show (decide (x.from_ ≤ tt)) = true by (simp; omega))
          let t5 : Tp pr := .b (show (decide (tt < x.to_)) = false by (simp; omega))
          let t6 : Tp pr := .i (wrap_i64 (a := (↑m.length : Int) + (1 : Int)) (by omega) (by omega))
          let t7 : Tp pr := .a (Ev.castq (congrArg (fun x => Q.loop (lq pr (60 : FuncId) (1 : Nat)) (at_ [((0 : Nat), spq l), ((1 : Nat), isq p), ((2 : Nat), i64 tt), ((7 : Nat), i64 n), ((8 : Nat), bl b), ((12 : Nat), spq l), ((13 : Nat), i64 (↑l.length : Int)), ((14 : Nat), i64 x)] [] (0 : Nat))) (show ((↑(m ++ [x]).length : Int)) = ((↑m.length : Int) + (1 : Int)) by simp)) (ih0 (n) (b) (by assumption) (by omega)))
          exact .tp [t0, t1, t2, t3, t4, t5, t6, t7] (by kernel_rfl)
      · rw [courseL, if_neg (by simp [heldS, c1])]
        have ih := ih0 n b h0 (by omega)
        let t0 : Tp pr := .b (show (decide ((↑m.length : Int) < (↑l.length : Int))) = true by (simp; omega))
        let t1 : Tp pr := .g .row (show (lkp (List.map Span.ce l) (↑m.length : Int)) = some (x.ce) from hg)
        let t2 : Tp pr := .g .row (show (lkp (List.map intt p) (↑m.length : Int)) = some ([T.int IntKind.i64 q]) from hg2)
        let t3 : Tp pr := .b (show (decide (q = n)) = true by (simp; omega))
        let t4 : Tp pr := .b (show (decide (x.from_ ≤ tt)) = false by (simp; omega))
        let t6 : Tp pr := .i (wrap_i64 (a := (↑m.length : Int) + (1 : Int)) (by omega) (by omega))
        let t7 : Tp pr := .a (Ev.castq (congrArg (fun x => Q.loop (lq pr (60 : FuncId) (1 : Nat)) (at_ [((0 : Nat), spq l), ((1 : Nat), isq p), ((2 : Nat), i64 tt), ((7 : Nat), i64 n), ((8 : Nat), bl b), ((12 : Nat), spq l), ((13 : Nat), i64 (↑l.length : Int)), ((14 : Nat), i64 x)] [] (0 : Nat))) (show ((↑(m ++ [x]).length : Int)) = ((↑m.length : Int) + (1 : Int)) by simp)) (ih0 (n) (b) (by assumption) (by omega)))
        exact .tp [t0, t1, t2, t3, t4, .b (rfl : false = false), t6, t7] (by kernel_rfl)
    · rw [courseL, if_neg (by simp [e])]
      have ih := ih0 n b h0 (by omega)
      let t0 : Tp pr := .b (show (decide ((↑m.length : Int) < (↑l.length : Int))) = true by (simp; omega))
      let t1 : Tp pr := .g .row (show (lkp (List.map Span.ce l) (↑m.length : Int)) = some (x.ce) from hg)
      let t2 : Tp pr := .g .row (show (lkp (List.map intt p) (↑m.length : Int)) = some ([T.int IntKind.i64 q]) from hg2)
      let t3 : Tp pr := .b (show (decide (q = n)) = false by (simp; omega))
      let t6 : Tp pr := .i (wrap_i64 (a := (↑m.length : Int) + (1 : Int)) (by omega) (by omega))
      let t7 : Tp pr := .a (Ev.castq (congrArg (fun x => Q.loop (lq pr (60 : FuncId) (1 : Nat)) (at_ [((0 : Nat), spq l), ((1 : Nat), isq p), ((2 : Nat), i64 tt), ((7 : Nat), i64 n), ((8 : Nat), bl b), ((12 : Nat), spq l), ((13 : Nat), i64 (↑l.length : Int)), ((14 : Nat), i64 x)] [] (0 : Nat))) (show ((↑(m ++ [x]).length : Int)) = ((↑m.length : Int) + (1 : Int)) by simp)) (ih0 (n) (b) (by assumption) (by omega)))
      exact .tp [t0, t1, t2, t3, .b (rfl : false = false), .b (rfl : false = false), t6, t7] (by kernel_rfl)
theorem leastSE_ev (l : List Span) (p : List Int) (tt n : Int) : Ev pr (.loop (lq pr 60 0) (at_ [(0, spq l), (1, isq p), (2, i64 tt), (7, i64 n), (8, bl false)] [] 0)) (.exit 0 (at_ [(7, i64 n)] [] 0)) := by
  exact .tp [.b (rfl : false = false)] (by kernel_rfl)
theorem leastSL_ev (l : List Span) (p : List Int) (hl : l.length ≤ 1000) (hp : p.length = l.length) (tt m : Int) (H : Least l p tt m) : ∀ (d : Nat) (n : Int), 0 ≤ n → n ≤ m → m - n ≤ d →
    Ev pr (.loop (lq pr 60 0) (at_ [(0, spq l), (1, isq p), (2, i64 tt), (7, i64 n), (8, bl true)] [] 0)) (.exit 0 (at_ [(7, i64 m)] [] 0))
  | d, n, h0, h1, hd => by
    have hb := H.h1
    have g := courseE_ev l p hl hp tt l [] p [] n false h0 (by omega) rfl rfl rfl
    have c := courseL_le l p tt n m false (fun k _ g e => by subst e; rw [H.no] at g; cases g) h1
    obtain ⟨c1, c2, c3, c4⟩ := c
    cases hr : (courseL l p tt n false).2
    · obtain ⟨_, d1, d2⟩ := c3 hr
      have e : n = m := by
        rcases Int.lt_or_le n m with h | h
        · have := H.all n h0 h; rw [d2] at this; cases this
        · omega
      have g2 := leastSE_ev l p tt m
      rw [hr, d1, e] at g
      subst e
      let t1 : Tp pr := .i (show ((↑(List.map Span.ce l).length : Int) : Int) = (↑l.length : Int) by simp)
      exact .tp [.b (rfl : true = true), t1, .a (g), .a (g2)] (by kernel_rfl)
    · have c5 := c4 hr
      simp at c5
      rw [hr] at g
      generalize (courseL l p tt n false).1 = n' at *
      cases d with
      | zero => omega
      | succ d =>
        have ih := leastSL_ev l p hl hp tt m H d n' (by omega) c2 (by omega)
        let t1 : Tp pr := .i (show ((↑(List.map Span.ce l).length : Int) : Int) = (↑l.length : Int) by simp)
        exact .tp [.b (rfl : true = true), t1, .a (g), .a (ih)] (by kernel_rfl)
theorem leastS_ev (l : List Span) (p : List Int) (hl : l.length ≤ 1000) (hp : p.length = l.length) (tt : Int) : Ev pr (.call 60 [spq l, isq p, i64 tt] []) (.val (i64 (leastN l p tt)) []) := by
  have H := leastN_least l p tt
  have hb := H.h0
  have g := leastSL_ev l p hl hp tt _ H (leastN l p tt).toNat 0 (Int.le_refl _) hb (by omega)
  exact .tp [.a (g)] (by kernel_rfl)
end Go.Ev

/- Spans: none placed yet; in turn. -/
namespace Go.Ev
set_option linter.unusedVariables false
set_option linter.unusedSimpArgs false
open Go.Proofs
set_option maxRecDepth 100000
set_option linter.unusedVariables false
set_option linter.unusedSimpArgs false
set_option maxHeartbeats 2000000
@[local simp] theorem ints_flatK (fl : Bool) (n : Nat) (l : List Int) : Ob.flat (.vec fl n (ints l)) = true := by simp [Ob.flat, ints, intc, C.flat, T.flat]
@[local simp] theorem rep_flatK (fl : Bool) (n m : Nat) (k : Int) : Ob.flat (.vec fl n (List.replicate m [C.t (.int .i64 k)])) = true := by simp [Ob.flat, C.flat, T.flat]
theorem noP_ev (n : Nat) (h : n ≤ 40) : Ev pr (.call 52 [i64 n] []) (.val (.vec 0 n 1 0 n) [.vec true 1 (ints (List.replicate n (-1)))]) := by
  have g := repeat_ev n h
  let t1 : Tp pr := .n .rows (show (List.map (fun x => List.map C.fz x) (List.take (1 : Nat) (List.drop (0 : Nat) [[C.t (T.int IntKind.i64 (-1 : Int))]]))) = [[(C.t (T.int IntKind.i64 (-1 : Int))).fz]] by simp)
  let t3 : Tp pr := .m (show (true && [Ob.vec true (1 : Nat) (ints (List.replicate n (-1 : Int)))].all Ob.flat) = true by simp)
  exact .tp [.m (rfl : true = true), t1, .a (g), t3] (by kernel_rfl)
theorem intsM (l : List Int) : ints l ++ [[C.t (.int .i64 (-1))]] = ints (l ++ [-1]) := by simp [ints, intc]
theorem rep1 (k : Nat) : List.replicate k (-1 : Int) ++ [-1] = List.replicate (k + 1) (-1) := List.replicate_succ'.symm
theorem noneL_ev : ∀ (n k : Nat), n + k ≤ 1000 → Ev pr (.loop (lq pr 58 0) (at_ [(0, i64 n), (3, .vec 0 k 1 0 k)] [.vec true 1 (ints (List.replicate k (-1)))] 0)) (.exit 0 (at_ [(3, .vec 0 (k + n) 1 0 (k + n))] [.vec true 1 (ints (List.replicate (k + n) (-1)))] 0))
  | 0, k, h => by
    exact .tp [.b (rfl : false = false)] (by kernel_rfl)
  | n + 1, k, h => by
    have ih := noneL_ev n (k + 1) (by omega)
    rw [← rep1, ← intsM, show k + 1 + n = k + (n + 1) by omega] at ih
    let t0 : Tp pr := .b (show (decide ((↑(n + (1 : Nat)) : Int) > (0 : Int))) = true by simp)
    let t2 : Tp pr := .m (show (decide ((ints (List.replicate k (-1 : Int))).length = k ∧ (0 : Nat) + k ≤ k ∧ k + (1 : Nat) ≤ (4294967296 : Nat))) = true by (simp; omega))
    let t3 : Tp pr := .b (show (decide (k + (1 : Nat) ≤ k)) = false by simp)
    let t5 : Tp pr := .n .crows (show ((List.take k (ints (List.replicate k (-1 : Int)))).append (List.take (1 : Nat) (List.drop (0 : Nat) [[C.t (T.int IntKind.i64 (-1 : Int))]]))) = List.replicate k [C.t (T.int IntKind.i64 (-1 : Int))] ++ [[C.t (T.int IntKind.i64 (-1 : Int))]] by simp)
    let t6 : Tp pr := .i (wrap_i64 (a := (↑(n + (1 : Nat)) : Int) - (1 : Int)) (by omega) (by omega))
    let t7 : Tp pr := .a (Ev.castq ((congrArg (fun x => Q.loop (lq pr (58 : FuncId) (0 : Nat)) (at_ [((0 : Nat), i64 x), ((3 : Nat), V.vec (0 : Nat) (k + (1 : Nat)) (1 : Nat) (0 : Nat) (k + (1 : Nat)))] [Ob.vec true (1 : Nat) (ints (List.replicate k (-1 : Int)) ++ [[C.t (T.int IntKind.i64 (-1 : Int))]])] (0 : Nat))) (show ((↑n : Int)) = ((↑(n + (1 : Nat)) : Int) - (1 : Int)) by simp)).trans (congrArg (fun x => Q.loop (lq pr (58 : FuncId) (0 : Nat)) (at_ [((0 : Nat), i64 ((↑(n + (1 : Nat)) : Int) - (1 : Int))), ((3 : Nat), V.vec (0 : Nat) (k + (1 : Nat)) (1 : Nat) (0 : Nat) (k + (1 : Nat)))] [Ob.vec true (1 : Nat) x] (0 : Nat))) (show (ints (List.replicate k (-1 : Int)) ++ [[C.t (T.int IntKind.i64 (-1 : Int))]]) = ((List.replicate k [C.t (T.int IntKind.i64 (-1 : Int))]).append [[C.t (T.int IntKind.i64 (-1 : Int))]]) by simp))) (ih))
    exact .tp [t0, .m (rfl : true = true), t2, t3, .c (rfl : (k + (1 : Nat)) = _), t5, t6, t7] (by kernel_rfl)
theorem noneS_ev (n : Nat) (h : n ≤ 1000) : Ev pr (.call 58 [i64 n] []) (.val (.vec 0 n 1 0 n) [.vec true 1 (ints (List.replicate n (-1)))]) := by
  have g := noneL_ev n 0 (by omega)
  rw [Nat.zero_add] at g
  exact .tp [.a (g)] (by kernel_rfl)
theorem upL_ev (l : List Span) (hl : l.length ≤ 1000) : ∀ (n k : Nat), k + n = l.length →
    Ev pr (.loop (lq pr 53 0) (at_ [(1, .ptr 0 1 0 0), (3, .vec 1 l.length 1 0 l.length), (9, i64 l.length), (10, i64 k)] [.box [spq l], .vec true 1 (ints (upN k ++ List.replicate n 0))] 0))
      (.exit 0 (at_ [(1, .ptr 0 1 0 0), (3, .vec 1 l.length 1 0 l.length)] [.box [spq l], .vec true 1 (ints (upN l.length))] 0))
  | 0, k, h => by
    have e : k = l.length := by omega
    subst e
    rw [show List.replicate 0 (0 : Int) = [] from rfl, List.append_nil]
    let t0 : Tp pr := .b (show (decide ((↑l.length : Int) < (↑l.length : Int))) = false by simp)
    exact .tp [t0] (by kernel_rfl)
  | n + 1, k, h => by
    have ih := upL_ev l hl n (k + 1) (by omega)
    rw [upN_succ] at ih
    have e1 : (upN k ++ List.replicate (n + 1) 0).set k (k : Int) = upN k ++ [(k : Int)] ++ List.replicate n 0 := by
      rw [show List.replicate (n + 1) (0 : Int) = 0 :: List.replicate n 0 from rfl, List.append_assoc]
      have := set_at (upN k) (List.replicate n 0) 0 k
      rw [upN_len] at this
      exact this
    have e2 : (ints (upN k ++ List.replicate (n + 1) 0))[k]? = some [C.t (.int .i64 0)] := by
      rw [show List.replicate (n + 1) (0 : Int) = 0 :: List.replicate n 0 from rfl]
      have := ints_get_mid (upN k) 0 (List.replicate n 0)
      rw [upN_len] at this
      exact this
    have hlen : (upN k ++ List.replicate (n + 1) 0).length = l.length := by simp [upN_len]; omega
    generalize upN k ++ List.replicate (n + 1) 0 = D at *
    generalize upN k ++ [(k : Int)] ++ List.replicate n 0 = D2 at *
    let t0 : Tp pr := .b (show (decide ((↑k : Int) < (↑l.length : Int))) = true by (simp; omega))
    let t1 : Tp pr := .m (show (decide ((0 : Int) ≤ (↑k : Int) ∧ (↑k : Int).toNat < l.length)) = true by (simp; omega))
    let t2 : Tp pr := .c (show ((0 : Nat) + (↑k : Int).toNat : Nat) = k by omega)
    let t3 : Tp pr := .m (show (decide ((ints D).length = l.length)) = true by simp [*])
    let t4 : Tp pr := .g .crow (show ((ints D)[k]?) = some ([C.t (T.int IntKind.i64 (0 : Int))]) from e2)
    let t5 : Tp pr := .n .crows (show ((ints D).set k [C.t (T.int IntKind.i64 (↑k : Int))]) = ints (D.set k (↑k : Int)) by simp)
    let t6 : Tp pr := .i (wrap_i64 (a := (↑k : Int) + (1 : Int)) (by omega) (by omega))
    let t7 : Tp pr := .a (Ev.castq (congrArg (fun x => Q.loop (lq pr (53 : FuncId) (0 : Nat)) (at_ [((1 : Nat), V.ptr (0 : Nat) (1 : Nat) (0 : Nat) (0 : Nat)), ((3 : Nat), V.vec (1 : Nat) l.length (1 : Nat) (0 : Nat) l.length), ((9 : Nat), i64 (↑l.length : Int)), ((10 : Nat), i64 (↑(k + (1 : Nat)) : Int))] [Ob.box [spq l], Ob.vec true (1 : Nat) x] (0 : Nat))) (show (ints D2) = (ints (D.set k (↑k : Int))) by simp [e1])) (ih))
    exact .tp [t0, t1, t2, t3, t4, t5, t6, t7] (by kernel_rfl)
theorem turn0_ev (l : List Span) (hl : l.length ≤ 30) : Ev pr (.call 53 [spq l] []) (.val (isq (orderS l)) []) := by
  have g := upL_ev l (by omega) l.length 0 (by omega)
  rw [show ints (upN 0 ++ List.replicate l.length 0) = List.replicate l.length [C.t (.int .i64 0)] by simp [upN, ints, intc]] at g
  have s := sortF_ev l hl l.length (by omega) (upN l.length) (upN_len _) (fun x hx => upN_mem.1 hx) (upN_lt _)
  have e : (isort (keyW l) (upN l.length)).length = l.length := orderS_len l
  unfold orderS
  generalize isort (keyW l) (upN l.length) = D at *
  have t : List.take l.length (D.map intt) = D.map intt := List.take_of_length_le (by simp [e])
  let t0 : Tp pr := .i (show ((↑(List.map Span.ce l).length : Int) : Int) = (↑l.length : Int) by simp)
  let t1 : Tp pr := .m (show (decide ((0 : Int) ≤ (↑l.length : Int) ∧ (↑l.length : Int) ≤ (↑l.length : Int) ∧ (↑l.length : Int) ≤ (4294967296 : Int))) = true by (simp; omega))
  let t2 : Tp pr := .c (show ((↑l.length : Int).toNat : Nat) = l.length by omega)
  let t3 : Tp pr := .n .crows (rfl : (List.replicate l.length [C.t (T.int IntKind.i64 (0 : Int))]) = _)
  let t7 : Tp pr := .m (show (true && [Ob.vec true (1 : Nat) (ints D)].all Ob.flat) = true by simp)
  let t8 : Tp pr := .m (show (decide ((ints D).length = l.length ∧ (0 : Nat) + l.length ≤ l.length)) = true by simp [*])
  let t9 : Tp pr := .n .rows (show (List.map (fun x => List.map C.fz x) (List.take l.length (List.drop (0 : Nat) (ints D)))) = List.take l.length (List.map intt D) by simp)
  exact .tpe [t0, t1, t2, t3, .i (rfl : ((↑l.length : Int)) = _), .a (g), .a (s), t7, t8, t9] (Out.val (V.t (T.seq (1 : Nat) (List.take l.length (List.map intt D)))) []) (by kernel_rfl) (congrArg (fun x => Out.val (V.t (T.seq (1 : Nat) x)) []) (show (List.take l.length (List.map intt D)) = (List.map intt D) by simp [t]))
def leF (l : List Span) (k : Int) (y : Int) : Bool := decide ((spAt l y).from_ ≤ (spAt l k).from_)
theorem ins_leF (l : List Span) (hl : l.length ≤ 30) (k : Int) (hk : k < l.length) : ∀ out : List Int, (∀ y ∈ out, 0 ≤ y ∧ y < k) → ins (keyW l) k out = out.takeWhile (leF l k) ++ k :: out.dropWhile (leF l k)
  | [], h => rfl
  | y :: out, h => by
    have hy := h y (by simp)
    have c := keyW_cmp (l := l) hy.1 hy.2 (by omega)
    rw [cmpI_neg] at c
    unfold ins
    rw [List.takeWhile_cons, List.dropWhile_cons]
    by_cases d : (spAt l y).from_ ≤ (spAt l k).from_
    · rw [if_neg (by omega), if_pos (by simp [leF, d]), if_pos (by simp [leF, d]), ins_leF l hl k hk out fun z hz => h z (by simp [hz])]
      rfl
    · rw [if_pos (by omega), if_neg (by simp [leF, d]), if_neg (by simp [leF, d])]
      rfl
theorem ordI_ev (l : List Span) (hl : l.length ≤ 30) (k : Nat) (hk : k < l.length) (out : List Int) (ho : out.length ≤ 30) : ∀ (rest m : List Int), out = m ++ rest → (∀ y ∈ rest, 0 ≤ y ∧ y < k) →
  Ev pr (.loop (lq pr 59 1) (at_ [(0, spq l), (3, .vec 0 out.length 1 0 out.length), (4, i64 k), (5, .ptr 1 1 0 0), (6, i64 m.length), (8, spq l), (9, i64 l.length), (10, i64 k)] [.vec true 1 (ints out), .box [i64 (spAt l k).from_, i64 (spAt l k).to_]] 0))
    (.exit 2 (at_ [(0, spq l), (3, .vec 0 out.length 1 0 out.length), (4, i64 k), (6, i64 (m.length + (rest.takeWhile (leF l k)).length)), (8, spq l), (9, i64 l.length), (10, i64 k)] [.vec true 1 (ints out)] 0))
  | [], m, he, hy => by
    have hll : (out.length : Int) = m.length := by simp [he]
    rw [show ([] : List Int).takeWhile (leF l k) = [] from rfl]
    let t6 : Tp pr := .b (show (decide ((↑m.length : Int) < (↑out.length : Int))) = false by (simp; omega))
    exact .tp [.m (rfl : true = true), .m (rfl : true = true), .i (rfl : ((↑out.length : Int)) = _), .m (rfl : true = true), .m (rfl : true = true), .m (rfl : true = true), t6, .m (rfl : true = true), .m (rfl : true = true), .m (rfl : true = true), .m (rfl : true = true), .m (rfl : true = true), .m (rfl : true = true), .m (rfl : true = true), .m (rfl : true = true), .m (rfl : true = true), .m (rfl : true = true), .m (rfl : true = true), .m (rfl : true = true), .b (rfl : false = false)] (by kernel_rfl)
  | y :: rest, m, he, hb => by
    have hll : (out.length : Int) = m.length + 1 + rest.length := by simp [he]; omega
    have hll2 : out.length = m.length + 1 + rest.length := by omega
    have hg : (ints out)[m.length]? = some [C.t (.int .i64 y)] := by subst he; simp
    have hyb := hb y (by simp)
    have hg2 := spAt_lkp (l := l) (k := y) hyb.1 (by omega)
    have ih := ordI_ev l hl k hk out ho rest (m ++ [y]) (by simp [he]) fun z hz => hb z (by simp [hz])
    rw [List.takeWhile_cons]
    by_cases d : (spAt l y).from_ ≤ (spAt l k).from_
    · rw [if_pos (by simp [leF, d])]
      generalize spAt l y = sy at *
      let t6 : Tp pr := .b (show (decide ((↑m.length : Int) < (↑out.length : Int))) = true by (simp; omega))
      let t10 : Tp pr := .m (show (decide ((0 : Int) ≤ (↑m.length : Int) ∧ (↑m.length : Int).toNat < out.length)) = true by simp [*])
      let t11 : Tp pr := .c (show ((0 : Nat) + (↑m.length : Int).toNat : Nat) = m.length by omega)
      let t13 : Tp pr := .m (show (decide ((ints out).length = out.length)) = true by simp)
      let t14 : Tp pr := .g .crow (show ((ints out)[m.length]?) = some ([C.t (T.int IntKind.i64 y)]) from hg)
      let t16 : Tp pr := .g .row (show (lkp (List.map Span.ce l) y) = some (sy.ce) from hg2)
      let t24 : Tp pr := .b (show (decide (sy.from_ ≤ (spAt l (↑k : Int)).from_)) = true by (simp; omega))
      let t25 : Tp pr := .i (wrap_i64 (a := (↑m.length : Int) + (1 : Int)) (by omega) (by omega))
      let t26 : Tp pr := .a (Ev.castq (congrArg (fun x => Q.loop (lq pr (59 : FuncId) (1 : Nat)) (at_ [((0 : Nat), spq l), ((3 : Nat), V.vec (0 : Nat) out.length (1 : Nat) (0 : Nat) out.length), ((4 : Nat), i64 (↑k : Int)), ((5 : Nat), V.ptr (1 : Nat) (1 : Nat) (0 : Nat) (0 : Nat)), ((6 : Nat), i64 x), ((8 : Nat), spq l), ((9 : Nat), i64 (↑l.length : Int)), ((10 : Nat), i64 (↑k : Int))] [Ob.vec true (1 : Nat) (ints out), Ob.box [i64 (spAt l (↑k : Int)).from_, i64 (spAt l (↑k : Int)).to_]] (0 : Nat))) (show ((↑(m ++ [y]).length : Int)) = ((↑m.length : Int) + (1 : Int)) by (simp <;> omega))) (ih))
      exact .tpe [.m (rfl : true = true), .m (rfl : true = true), .i (rfl : ((↑out.length : Int)) = _), .m (rfl : true = true), .m (rfl : true = true), .m (rfl : true = true), t6, .m (rfl : true = true), .m (rfl : true = true), .m (rfl : true = true), t10, t11, .m (rfl : true = true), t13, t14, .m (rfl : true = true), t16, .m (rfl : true = true), .m (rfl : true = true), .m (rfl : true = true), .m (rfl : true = true), .m (rfl : true = true), .m (rfl : true = true), .m (rfl : true = true), t24, t25, t26] (Out.exit (2 : Nat) (at_ [((0 : Nat), V.t (T.seq (2 : Nat) (List.map Span.ce l))), ((3 : Nat), V.vec (0 : Nat) out.length (1 : Nat) (0 : Nat) out.length), ((4 : Nat), V.t (T.int IntKind.i64 (↑k : Int))), ((6 : Nat), V.t (T.int IntKind.i64 ((↑(m ++ [y]).length : Int) + (↑(List.takeWhile (leF l (↑k : Int)) rest).length : Int)))), ((8 : Nat), V.t (T.seq (2 : Nat) (List.map Span.ce l))), ((9 : Nat), V.t (T.int IntKind.i64 (↑l.length : Int))), ((10 : Nat), V.t (T.int IntKind.i64 (↑k : Int)))] [Ob.vec true (1 : Nat) (ints out)] (0 : Nat))) (by kernel_rfl) (congrArg (fun x => Out.exit (2 : Nat) (at_ [((0 : Nat), V.t (T.seq (2 : Nat) (List.map Span.ce l))), ((3 : Nat), V.vec (0 : Nat) out.length (1 : Nat) (0 : Nat) out.length), ((4 : Nat), V.t (T.int IntKind.i64 (↑k : Int))), ((6 : Nat), V.t (T.int IntKind.i64 x)), ((8 : Nat), V.t (T.seq (2 : Nat) (List.map Span.ce l))), ((9 : Nat), V.t (T.int IntKind.i64 (↑l.length : Int))), ((10 : Nat), V.t (T.int IntKind.i64 (↑k : Int)))] [Ob.vec true (1 : Nat) (ints out)] (0 : Nat))) (show ((↑(m ++ [y]).length : Int) + (↑(List.takeWhile (leF l (↑k : Int)) rest).length : Int)) = ((↑m.length : Int) + (↑(y :: List.takeWhile (leF l (↑k : Int)) rest).length : Int)) by (simp <;> omega)))
    · rw [if_neg (by simp [leF, d])]
      generalize spAt l y = sy at *
      let t6 : Tp pr := .b (show (decide ((↑m.length : Int) < (↑out.length : Int))) = true by (simp; omega))
      let t10 : Tp pr := .m (show (decide ((0 : Int) ≤ (↑m.length : Int) ∧ (↑m.length : Int).toNat < out.length)) = true by simp [*])
      let t11 : Tp pr := .c (show ((0 : Nat) + (↑m.length : Int).toNat : Nat) = m.length by omega)
      let t13 : Tp pr := .m (show (decide ((ints out).length = out.length)) = true by simp)
      let t14 : Tp pr := .g .crow (show ((ints out)[m.length]?) = some ([C.t (T.int IntKind.i64 y)]) from hg)
      let t16 : Tp pr := .g .row (show (lkp (List.map Span.ce l) y) = some (sy.ce) from hg2)
      let t24 : Tp pr := .b (show (decide (sy.from_ ≤ (spAt l (↑k : Int)).from_)) = false by (simp; omega))
      exact .tp [.m (rfl : true = true), .m (rfl : true = true), .i (rfl : ((↑out.length : Int)) = _), .m (rfl : true = true), .m (rfl : true = true), .m (rfl : true = true), t6, .m (rfl : true = true), .m (rfl : true = true), .m (rfl : true = true), t10, t11, .m (rfl : true = true), t13, t14, .m (rfl : true = true), t16, .m (rfl : true = true), .m (rfl : true = true), .m (rfl : true = true), .m (rfl : true = true), .m (rfl : true = true), .m (rfl : true = true), .m (rfl : true = true), t24] (by kernel_rfl)
attribute [local simp] toNatS
@[local simp] theorem kt1 (a b : List Int) : List.take a.length (ints (a ++ b)) = ints a := by rw [ints_app]; exact List.take_left' (by simp)
@[local simp] theorem kd1 (a b : List Int) : List.drop a.length (ints (a ++ b)) = ints b := by rw [ints_app]; exact List.drop_left' (by simp)
@[local simp] theorem kt0 (a : List Int) : List.take a.length (ints a) = ints a := List.take_of_length_le (by simp)
@[local simp] theorem kt2 (a : List Int) (z : List C) : List.take (a.length + 1) (ints a ++ [z]) = ints a ++ [z] := List.take_of_length_le (by simp)
@[local simp] theorem kd2 (a : List Int) (z : List C) (n : Nat) : List.drop (a.length + 1 + n) (ints a ++ [z]) = [] := List.drop_of_length_le (by simp)
theorem intsK (a b : List Int) (k : Int) : ints (a ++ k :: b) = ints a ++ [C.t (.int .i64 k)] :: ints b := by simp [ints, intc]
theorem ordS_ev (l : List Span) (hl : l.length ≤ 30) (k : Nat) (hk : k < l.length) (out Z : List Int) (ho : out.length = k) (hb : ∀ y ∈ out, 0 ≤ y ∧ y < k)
    (ih : Ev pr (.loop (lq pr 59 0) (at_ [(0, spq l), (3, .vec 0 (ins (keyW l) k out).length 1 0 (ins (keyW l) k out).length), (8, spq l), (9, i64 l.length), (10, i64 ((k + 1 : Nat) : Int))] [.vec true 1 (ints (ins (keyW l) k out))] 0))
      (.exit 0 (at_ [(3, .vec 0 l.length 1 0 l.length)] [.vec true 1 (ints Z)] 0))) :
    Ev pr (.loop (lq pr 59 0) (at_ [(0, spq l), (3, .vec 0 out.length 1 0 out.length), (8, spq l), (9, i64 l.length), (10, i64 k)] [.vec true 1 (ints out)] 0))
      (.exit 0 (at_ [(3, .vec 0 l.length 1 0 l.length)] [.vec true 1 (ints Z)] 0)) := by
  have g := ordI_ev l hl k hk out (by omega) out [] rfl hb
  have hins := ins_leF l hl k (by omega) out hb
  rw [hins] at ih
  have hsp : out = out.takeWhile (leF l k) ++ out.dropWhile (leF l k) := List.takeWhile_append_dropWhile.symm
  have hgs := spAt_lkp (l := l) (k := k) (by omega) (by omega)
  generalize out.takeWhile (leF l k) = a at *
  generalize out.dropWhile (leF l k) = b at *
  clear hins
  subst hsp
  simp only [List.length_append] at ho
  by_cases h0 : b = []
  · subst h0
    rw [intsK, show (a ++ [(k : Int)]).length = a.length + 1 by simp, ints_nil] at ih
    rw [List.append_nil]
    rw [List.append_nil] at g
    let t0 : Tp pr := .b (show (decide ((↑k : Int) < (↑l.length : Int))) = true by (simp; omega))
    let t1 : Tp pr := .g .row (show (lkp (List.map Span.ce l) (↑k : Int)) = some ((spAt l (↑k : Int)).ce) from hgs)
    let t3 : Tp pr := .m (show (decide ((0 : Int) ≤ (0 : Int) ∧ (0 : Int) ≤ (0 : Int) + (↑a.length : Int) ∧ (0 : Nat) + ((0 : Int) + (↑a.length : Int)).toNat ≤ a.length)) = true by simp)
    let t5 : Tp pr := .c (show (((0 : Int) + (↑a.length : Int)).toNat - (0 : Nat) : Nat) = a.length by omega)
    let t6 : Tp pr := .m (show (decide ((ints a).length = a.length ∧ (0 : Nat) + a.length ≤ a.length)) = true by simp)
    let t7 : Tp pr := .m (show (decide ((List.take a.length (List.drop (0 : Nat) (ints a))).length ≤ (4294967296 : Nat))) = true by (simp; omega))
    let t8 : Tp pr := .c (show ((List.take a.length (List.drop (0 : Nat) (ints a))).length : Nat) = a.length by simp)
    let t9 : Tp pr := .n .crows (show (List.take a.length (List.drop (0 : Nat) (ints a))) = ints a by simp)
    let t11 : Tp pr := .m (show (decide ((ints a).length = a.length ∧ (0 : Nat) + a.length ≤ a.length ∧ a.length + (1 : Nat) ≤ (4294967296 : Nat))) = true by (simp; omega))
    let t12 : Tp pr := .b (show (decide (a.length + (1 : Nat) ≤ a.length)) = false by simp)
    let t14 : Tp pr := .n .crows (show ((List.take a.length (ints a)).append (List.take (1 : Nat) (List.drop (0 : Nat) [[C.t (T.int IntKind.i64 (↑k : Int))]]))) = ints a ++ [[C.t (T.int IntKind.i64 (↑k : Int))]] by simp)
    let t15 : Tp pr := .m (show (decide ((0 : Int) ≤ (0 : Int) + (↑a.length : Int) ∧ (0 : Int) + (↑a.length : Int) ≤ (↑a.length : Int) ∧ (0 : Nat) + (↑a.length : Int).toNat ≤ a.length)) = true by simp)
    let t16 : Tp pr := .c (show ((0 : Nat) + ((0 : Int) + (↑a.length : Int)).toNat : Nat) = a.length by omega)
    let t17 : Tp pr := .c (show ((↑a.length : Int).toNat - ((0 : Int) + (↑a.length : Int)).toNat : Nat) = (0 : Nat) by omega)
    let t18 : Tp pr := .m (show (decide ((ints a).length = a.length ∧ a.length + (0 : Nat) ≤ a.length)) = true by simp)
    let t19 : Tp pr := .m (show (decide (((ints a).append [[C.t (T.int IntKind.i64 (↑k : Int))]]).length = a.length + (1 : Nat) ∧ (0 : Nat) + (a.length + (1 : Nat)) ≤ a.length + (1 : Nat) ∧ a.length + (1 : Nat) + (0 : Nat) ≤ (4294967296 : Nat))) = true by (simp; omega))
    let t20 : Tp pr := .b (show (decide (a.length + (1 : Nat) + (0 : Nat) ≤ a.length + (1 : Nat))) = true by simp)
    let t21 : Tp pr := .c (show (a.length + (1 : Nat) + (0 : Nat) : Nat) = a.length + (1 : Nat) by omega)
    let t22 : Tp pr := .n .crows (show (((List.take (a.length + (1 : Nat)) ((ints a).append [[C.t (T.int IntKind.i64 (↑k : Int))]])).append []).append (List.drop (a.length + (1 : Nat) + (0 : Nat)) ((ints a).append [[C.t (T.int IntKind.i64 (↑k : Int))]]))) = ints a ++ [C.t (T.int IntKind.i64 (↑k : Int))] :: List.drop (a.length + (1 : Nat)) (ints a ++ [[C.t (T.int IntKind.i64 (↑k : Int))]]) by simp)
    let t23 : Tp pr := .i (wrap_i64 (a := (↑k : Int) + (1 : Int)) (by omega) (by omega))
    let t24 : Tp pr := .a (Ev.castq (congrArg (fun x => Q.loop (lq pr (59 : FuncId) (0 : Nat)) (at_ [((0 : Nat), spq l), ((3 : Nat), V.vec (0 : Nat) (a.length + (1 : Nat)) (1 : Nat) (0 : Nat) (a.length + (1 : Nat))), ((8 : Nat), spq l), ((9 : Nat), i64 (↑l.length : Int)), ((10 : Nat), i64 (↑(k + (1 : Nat)) : Int))] [Ob.vec true (1 : Nat) x] (0 : Nat))) (show (ints a ++ [[C.t (T.int IntKind.i64 (↑k : Int))]]) = ((ints a).append ([C.t (T.int IntKind.i64 (↑k : Int))] :: List.drop (a.length + (1 : Nat)) ((ints a).append [[C.t (T.int IntKind.i64 (↑k : Int))]]))) by simp)) (ih))
    exact .tp [t0, t1, .a (g), t3, .c (rfl : ((0 : Nat)) = _), t5, t6, t7, t8, t9, .m (rfl : true = true), t11, t12, .c (rfl : (a.length + (1 : Nat)) = _), t14, t15, t16, t17, t18, t19, t20, t21, t22, t23, t24] (by kernel_rfl)
  · have hb1 : 1 ≤ b.length := by
      cases b with
      | nil => exact absurd rfl h0
      | cons y b => simp
    rw [intsK, show (a ++ (k : Int) :: b).length = a.length + 1 + b.length by simp; omega] at ih
    have hno : ¬ a.length + 1 + b.length ≤ a.length + 1 := by omega
    let t0 : Tp pr := .b (show (decide ((↑k : Int) < (↑l.length : Int))) = true by (simp; omega))
    let t1 : Tp pr := .g .row (show (lkp (List.map Span.ce l) (↑k : Int)) = some ((spAt l (↑k : Int)).ce) from hgs)
    let t3 : Tp pr := .m (show (decide ((0 : Int) ≤ (0 : Int) ∧ (0 : Int) ≤ (0 : Int) + (↑a.length : Int) ∧ (0 : Nat) + ((0 : Int) + (↑a.length : Int)).toNat ≤ (a ++ b).length)) = true by simp)
    let t5 : Tp pr := .c (show (((0 : Int) + (↑a.length : Int)).toNat - (0 : Nat) : Nat) = a.length by omega)
    let t6 : Tp pr := .m (show (decide ((ints (a ++ b)).length = (a ++ b).length ∧ (0 : Nat) + a.length ≤ (a ++ b).length)) = true by simp)
    let t7 : Tp pr := .m (show (decide ((List.take a.length (List.drop (0 : Nat) (ints (a ++ b)))).length ≤ (4294967296 : Nat))) = true by (simp; omega))
    let t8 : Tp pr := .c (show ((List.take a.length (List.drop (0 : Nat) (ints (a ++ b)))).length : Nat) = a.length by simp)
    let t9 : Tp pr := .n .crows (show (List.take a.length (List.drop (0 : Nat) (ints (a ++ b)))) = ints a by simp)
    let t11 : Tp pr := .m (show (decide ((ints a).length = a.length ∧ (0 : Nat) + a.length ≤ a.length ∧ a.length + (1 : Nat) ≤ (4294967296 : Nat))) = true by (simp; omega))
    let t12 : Tp pr := .b (show (decide (a.length + (1 : Nat) ≤ a.length)) = false by simp)
    let t14 : Tp pr := .n .crows (show ((List.take a.length (ints a)).append (List.take (1 : Nat) (List.drop (0 : Nat) [[C.t (T.int IntKind.i64 (↑k : Int))]]))) = ints a ++ [[C.t (T.int IntKind.i64 (↑k : Int))]] by simp)
    let t15 : Tp pr := .m (show (decide ((0 : Int) ≤ (0 : Int) + (↑a.length : Int) ∧ (0 : Int) + (↑a.length : Int) ≤ (↑(a ++ b).length : Int) ∧ (0 : Nat) + (↑(a ++ b).length : Int).toNat ≤ (a ++ b).length)) = true by (simp; omega))
    let t16 : Tp pr := .c (show ((0 : Nat) + ((0 : Int) + (↑a.length : Int)).toNat : Nat) = a.length by omega)
    let t17 : Tp pr := .c (show ((↑(a ++ b).length : Int).toNat - ((0 : Int) + (↑a.length : Int)).toNat : Nat) = b.length by simp)
    let t18 : Tp pr := .m (show (decide ((ints (a ++ b)).length = (a ++ b).length ∧ a.length + b.length ≤ (a ++ b).length)) = true by simp)
    let t19 : Tp pr := .m (show (decide (((ints a).append [[C.t (T.int IntKind.i64 (↑k : Int))]]).length = a.length + (1 : Nat) ∧ (0 : Nat) + (a.length + (1 : Nat)) ≤ a.length + (1 : Nat) ∧ a.length + (1 : Nat) + (List.take b.length (List.drop a.length (ints (a ++ b)))).length ≤ (4294967296 : Nat))) = true by (simp; omega))
    let t20 : Tp pr := .b (show (decide (a.length + (1 : Nat) + (List.take b.length (List.drop a.length (ints (a ++ b)))).length ≤ a.length + (1 : Nat))) = false by (simp; omega))
    let t21 : Tp pr := .c (show (a.length + (1 : Nat) + (List.take b.length (List.drop a.length (ints (a ++ b)))).length : Nat) = a.length + (1 : Nat) + b.length by simp)
    let t22 : Tp pr := .n .crows (show ((List.take (a.length + (1 : Nat)) ((ints a).append [[C.t (T.int IntKind.i64 (↑k : Int))]])).append (List.take b.length (List.drop a.length (ints (a ++ b))))) = ints a ++ [C.t (T.int IntKind.i64 (↑k : Int))] :: ints b by simp)
    let t23 : Tp pr := .i (wrap_i64 (a := (↑k : Int) + (1 : Int)) (by omega) (by omega))
    exact .tp [t0, t1, .a (g), t3, .c (rfl : ((0 : Nat)) = _), t5, t6, t7, t8, t9, .m (rfl : true = true), t11, t12, .c (rfl : (a.length + (1 : Nat)) = _), t14, t15, t16, t17, t18, t19, t20, t21, t22, t23, .a (ih)] (by kernel_rfl)
theorem ordE_ev (l : List Span) (hl : l.length ≤ 30) (out : List Int) (ho : out.length = l.length) :
    Ev pr (.loop (lq pr 59 0) (at_ [(0, spq l), (3, .vec 0 out.length 1 0 out.length), (8, spq l), (9, i64 l.length), (10, i64 l.length)] [.vec true 1 (ints out)] 0))
      (.exit 0 (at_ [(3, .vec 0 l.length 1 0 l.length)] [.vec true 1 (ints out)] 0)) := by
  let t0 : Tp pr := .b (show (decide ((↑l.length : Int) < (↑l.length : Int))) = false by simp)
  exact .tpe [t0] (Out.exit (0 : Nat) (at_ [((3 : Nat), V.vec (0 : Nat) out.length (1 : Nat) (0 : Nat) out.length)] [Ob.vec true (1 : Nat) (ints out)] (0 : Nat))) (by kernel_rfl) ((congrArg (fun x => Out.exit (0 : Nat) (at_ [((3 : Nat), V.vec (0 : Nat) x (1 : Nat) (0 : Nat) out.length)] [Ob.vec true (1 : Nat) (ints out)] (0 : Nat))) (show (out.length) = (l.length) by assumption)).trans (congrArg (fun x => Out.exit (0 : Nat) (at_ [((3 : Nat), V.vec (0 : Nat) l.length (1 : Nat) (0 : Nat) x)] [Ob.vec true (1 : Nat) (ints out)] (0 : Nat))) (show (out.length) = (l.length) by assumption)))
theorem upF_step (W : Int → Int) (k n : Nat) (out : List Int) : ((List.range' k (n + 1)).map fun (i : Nat) => (i : Int)).foldl (fun P x => ins W x P) out = ((List.range' (k + 1) n).map fun (i : Nat) => (i : Int)).foldl (fun P x => ins W x P) (ins W k out) := by
  rw [List.range'_succ, List.map_cons, List.foldl_cons]
theorem ordO_ev (l : List Span) (hl : l.length ≤ 30) (n : Nat) : ∀ (k : Nat) (out : List Int), k + n = l.length → out.length = k → (∀ y ∈ out, 0 ≤ y ∧ y < k) →
    Ev pr (.loop (lq pr 59 0) (at_ [(0, spq l), (3, .vec 0 out.length 1 0 out.length), (8, spq l), (9, i64 l.length), (10, i64 k)] [.vec true 1 (ints out)] 0))
      (.exit 0 (at_ [(3, .vec 0 l.length 1 0 l.length)] [.vec true 1 (ints (((List.range' k n).map fun (i : Nat) => (i : Int)).foldl (fun P x => ins (keyW l) x P) out))] 0)) := by
  induction n with
  | zero =>
    intro k out h ho hb
    have e : k = l.length := by omega
    rw [show ((List.range' k 0).map fun (i : Nat) => (i : Int)).foldl (fun P x => ins (keyW l) x P) out = out from rfl, e]
    exact ordE_ev l hl out (by omega)
  | succ n ih =>
    intro k out h ho hb
    rw [upF_step]
    refine ordS_ev l hl k (by omega) out _ ho hb (ih (k + 1) _ (by omega) (by rw [ins_len]; omega) fun y hy => ?_)
    rcases List.mem_cons.1 ((ins_perm (k : Int) out).mem_iff.1 hy) with rfl | hy
    · omega
    · have := hb y hy; omega
theorem orderSE_ev (l : List Span) (hl : l.length ≤ 30) : Ev pr (.call 59 [spq l] []) (.val (isq (orderS l)) []) := by
  have g := ordO_ev l hl l.length 0 [] (by omega) rfl (by simp)
  have e : ((List.range' 0 l.length).map fun (i : Nat) => (i : Int)).foldl (fun P x => ins (keyW l) x P) [] = orderS l := by
    rw [← List.range_eq_range']; rfl
  rw [e] at g
  have e2 := orderS_len l
  have t : List.take l.length ((orderS l).map intt) = (orderS l).map intt := List.take_of_length_le (by simp [e2])
  generalize orderS l = D at *
  let t0 : Tp pr := .i (show ((↑(List.map Span.ce l).length : Int) : Int) = (↑l.length : Int) by simp)
  let t2 : Tp pr := .m (show (decide ((ints D).length = l.length ∧ (0 : Nat) + l.length ≤ l.length)) = true by simp [*])
  let t3 : Tp pr := .n .rows (show (List.map (fun x => List.map C.fz x) (List.take l.length (List.drop (0 : Nat) (ints D)))) = List.take l.length (List.map intt D) by simp)
  exact .tpe [t0, .a (g), t2, t3] (Out.val (V.t (T.seq (1 : Nat) (List.take l.length (List.map intt D)))) []) (by kernel_rfl) (congrArg (fun x => Out.val (V.t (T.seq (1 : Nat) x)) []) (show (List.take l.length (List.map intt D)) = (List.map intt D) by simp [t]))
end Go.Ev

/- Spans: places for them, by both. -/
namespace Go.Ev
set_option linter.unusedVariables false
set_option linter.unusedSimpArgs false
open Go.Proofs
set_option maxRecDepth 100000
set_option linter.unusedVariables false
set_option linter.unusedSimpArgs false
set_option maxHeartbeats 2000000
theorem scanIL_ev (l : List Span) (hl : l.length ≤ 30) (O : List Int) (hO : O.length ≤ 30) (hb : ∀ x ∈ O, 0 ≤ x ∧ x < l.length) : ∀ (rest m : List Int) (p : List Int) (many : Int), O = m ++ rest → p.length = l.length → 0 ≤ many → many ≤ l.length + 1 →
    Ev pr (.loop (lq pr 17 0) (at_ [(0, spq l), (5, .vec 0 l.length 1 0 l.length), (6, i64 many), (16, isq O), (17, i64 O.length), (18, i64 m.length)] [.vec true 1 (ints p)] 0))
      (.exit 0 (at_ [(5, .vec 0 l.length 1 0 l.length), (6, i64 (scanGo l rest p many).2)] [.vec true 1 (ints (scanGo l rest p many).1)] 0))
  | [], m, p, many, he, hp, h0, h1 => by
    have hll : (O.length : Int) = m.length := by simp [he]
    unfold scanGo
    let t0 : Tp pr := .b (show (decide ((↑m.length : Int) < (↑O.length : Int))) = false by (simp; omega))
    exact .tp [t0] (by kernel_rfl)
  | x :: rest, m, p, many, he, hp, h0, h1 => by
    have hll : (O.length : Int) = m.length + 1 + rest.length := by simp [he]; omega
    have hg : lkp (O.map intt) (m.length : Int) = some [T.int .i64 x] := by subst he; simp [intt]
    have hx := hb x (by simp [he])
    have hg2 := spAt_lkp (l := l) (k := x) hx.1 hx.2
    have g := least_ev l p (by omega) hp (spAt l x).from_
    have H := leastN_least l p (spAt l x).from_
    have H0 := H.h0
    have H1 := H.h1
    have ih := scanIL_ev l hl O hO hb rest (m ++ [x]) (p.set x.toNat (leastN l p (spAt l x).from_)) (if leastN l p (spAt l x).from_ + 1 > many then leastN l p (spAt l x).from_ + 1 else many) (by simp [he]) (by simp [hp]) (by split <;> omega) (by split <;> omega)
    unfold scanGo
    generalize (scanGo l rest (p.set x.toNat (leastN l p (spAt l x).from_)) (if leastN l p (spAt l x).from_ + 1 > many then leastN l p (spAt l x).from_ + 1 else many)) = Z at *
    generalize leastN l p (spAt l x).from_ = n at *
    have ht : List.take l.length (p.map intt) = p.map intt := List.take_of_length_le (by simp [hp])
    have hgx : (ints p)[x.toNat]? = some [C.t (.int .i64 (p.getD x.toNat 0))] := by
      rw [ints, List.getElem?_map, List.getElem?_eq_getElem (by omega)]
      simp [intc, List.getD_eq_getElem?_getD, List.getElem?_eq_getElem (show x.toNat < p.length by omega)]
    have hgx2 : (ints (p.set x.toNat n))[x.toNat]? = some [C.t (.int .i64 n)] := by
      rw [ints, List.getElem?_map, List.getElem?_set_self (by omega)]
      rfl
    generalize spAt l x = sx at *
    by_cases hm : n + 1 > many
    · rw [if_pos hm] at ih
      let t0 : Tp pr := .b (show (decide ((↑m.length : Int) < (↑O.length : Int))) = true by (simp; omega))
      let t1 : Tp pr := .g .row (show (lkp (List.map intt O) (↑m.length : Int)) = some ([T.int IntKind.i64 x]) from hg)
      let t2 : Tp pr := .g .row (show (lkp (List.map Span.ce l) x) = some (sx.ce) from hg2)
      let t3 : Tp pr := .m (show (decide ((ints p).length = l.length ∧ (0 : Nat) + l.length ≤ l.length)) = true by simp [*])
      let t4 : Tp pr := .n .rows (show (List.map (fun x => List.map C.fz x) (List.take l.length (List.drop (0 : Nat) (ints p)))) = List.take l.length (List.map intt p) by simp)
      let t5 : Tp pr := .a (Ev.castq (congrArg (fun x => Q.call (54 : FuncId) [V.t (T.seq (2 : Nat) (List.map Span.ce l)), V.t (T.seq (1 : Nat) x), V.t (T.int IntKind.i64 sx.from_)] []) (show (List.map intt p) = (List.take l.length (List.map intt p)) by simp [*])) (g))
      let t7 : Tp pr := .m (show (decide ((0 : Int) ≤ x ∧ x.toNat < l.length)) = true by simp [*])
      let t8 : Tp pr := .c (show ((0 : Nat) + x.toNat : Nat) = x.toNat by omega)
      let t9 : Tp pr := .m (show (decide ((ints p).length = l.length)) = true by simp [*])
      let t10 : Tp pr := .g .crow (show ((ints p)[x.toNat]?) = some ([C.t (T.int IntKind.i64 (p.getD x.toNat (0 : Int)))]) from hgx)
      let t11 : Tp pr := .n .crows (show ((ints p).set x.toNat [C.t (T.int IntKind.i64 n)]) = ints (p.set x.toNat n) by simp)
      let t12 : Tp pr := .m (show (decide ((0 : Int) ≤ x ∧ x.toNat < l.length)) = true by simp [*])
      let t13 : Tp pr := .c (show ((0 : Nat) + x.toNat : Nat) = x.toNat by omega)
      let t14 : Tp pr := .m (show (decide ((ints (p.set x.toNat n)).length = l.length)) = true by simp [*])
      let t15 : Tp pr := .g .crow (show ((ints (p.set x.toNat n))[x.toNat]?) = some ([C.t (T.int IntKind.i64 n)]) from hgx2)
      let t16 : Tp pr := .i (wrap_i64 (a := n + (1 : Int)) (by omega) (by omega))
      let t17 : Tp pr := .i (show (if n + (1 : Int) > many then n + (1 : Int) else many : Int) = if many < n + (1 : Int) then n + (1 : Int) else many by omega)
      let t18 : Tp pr := .i (wrap_i64 (a := (↑m.length : Int) + (1 : Int)) (by omega) (by omega))
      let t19 : Tp pr := .a (Ev.castq ((congrArg (fun x_1 => Q.loop (lq pr (17 : FuncId) (0 : Nat)) (at_ [((0 : Nat), spq l), ((5 : Nat), V.vec (0 : Nat) l.length (1 : Nat) (0 : Nat) l.length), ((6 : Nat), i64 x_1), ((16 : Nat), isq O), ((17 : Nat), i64 (↑O.length : Int)), ((18 : Nat), i64 (↑(m ++ [x]).length : Int))] [Ob.vec true (1 : Nat) (ints (p.set x.toNat n))] (0 : Nat))) (show (n + (1 : Int)) = (if many < n + (1 : Int) then n + (1 : Int) else many) by omega)).trans (congrArg (fun x_1 => Q.loop (lq pr (17 : FuncId) (0 : Nat)) (at_ [((0 : Nat), spq l), ((5 : Nat), V.vec (0 : Nat) l.length (1 : Nat) (0 : Nat) l.length), ((6 : Nat), i64 (if many < n + (1 : Int) then n + (1 : Int) else many)), ((16 : Nat), isq O), ((17 : Nat), i64 (↑O.length : Int)), ((18 : Nat), i64 x_1)] [Ob.vec true (1 : Nat) (ints (p.set x.toNat n))] (0 : Nat))) (show ((↑(m ++ [x]).length : Int)) = ((↑m.length : Int) + (1 : Int)) by simp))) (ih))
      exact .tp [t0, t1, t2, t3, t4, t5, .m (rfl : true = true), t7, t8, t9, t10, t11, t12, t13, t14, t15, t16, t17, t18, t19] (by kernel_rfl)
    · rw [if_neg hm] at ih
      let t0 : Tp pr := .b (show (decide ((↑m.length : Int) < (↑O.length : Int))) = true by (simp; omega))
      let t1 : Tp pr := .g .row (show (lkp (List.map intt O) (↑m.length : Int)) = some ([T.int IntKind.i64 x]) from hg)
      let t2 : Tp pr := .g .row (show (lkp (List.map Span.ce l) x) = some (sx.ce) from hg2)
      let t3 : Tp pr := .m (show (decide ((ints p).length = l.length ∧ (0 : Nat) + l.length ≤ l.length)) = true by simp [*])
      let t4 : Tp pr := .n .rows (show (List.map (fun x => List.map C.fz x) (List.take l.length (List.drop (0 : Nat) (ints p)))) = List.take l.length (List.map intt p) by simp)
      let t5 : Tp pr := .a (Ev.castq (congrArg (fun x => Q.call (54 : FuncId) [V.t (T.seq (2 : Nat) (List.map Span.ce l)), V.t (T.seq (1 : Nat) x), V.t (T.int IntKind.i64 sx.from_)] []) (show (List.map intt p) = (List.take l.length (List.map intt p)) by simp [*])) (g))
      let t7 : Tp pr := .m (show (decide ((0 : Int) ≤ x ∧ x.toNat < l.length)) = true by simp [*])
      let t8 : Tp pr := .c (show ((0 : Nat) + x.toNat : Nat) = x.toNat by omega)
      let t9 : Tp pr := .m (show (decide ((ints p).length = l.length)) = true by simp [*])
      let t10 : Tp pr := .g .crow (show ((ints p)[x.toNat]?) = some ([C.t (T.int IntKind.i64 (p.getD x.toNat (0 : Int)))]) from hgx)
      let t11 : Tp pr := .n .crows (show ((ints p).set x.toNat [C.t (T.int IntKind.i64 n)]) = ints (p.set x.toNat n) by simp)
      let t12 : Tp pr := .m (show (decide ((0 : Int) ≤ x ∧ x.toNat < l.length)) = true by simp [*])
      let t13 : Tp pr := .c (show ((0 : Nat) + x.toNat : Nat) = x.toNat by omega)
      let t14 : Tp pr := .m (show (decide ((ints (p.set x.toNat n)).length = l.length)) = true by simp [*])
      let t15 : Tp pr := .g .crow (show ((ints (p.set x.toNat n))[x.toNat]?) = some ([C.t (T.int IntKind.i64 n)]) from hgx2)
      let t16 : Tp pr := .i (wrap_i64 (a := n + (1 : Int)) (by omega) (by omega))
      let t17 : Tp pr := .i (show (if n + (1 : Int) > many then n + (1 : Int) else many : Int) = if many < n + (1 : Int) then n + (1 : Int) else many by omega)
      let t18 : Tp pr := .i (wrap_i64 (a := (↑m.length : Int) + (1 : Int)) (by omega) (by omega))
      let t19 : Tp pr := .a (Ev.castq ((congrArg (fun x_1 => Q.loop (lq pr (17 : FuncId) (0 : Nat)) (at_ [((0 : Nat), spq l), ((5 : Nat), V.vec (0 : Nat) l.length (1 : Nat) (0 : Nat) l.length), ((6 : Nat), i64 x_1), ((16 : Nat), isq O), ((17 : Nat), i64 (↑O.length : Int)), ((18 : Nat), i64 (↑(m ++ [x]).length : Int))] [Ob.vec true (1 : Nat) (ints (p.set x.toNat n))] (0 : Nat))) (show (many) = (if many < n + (1 : Int) then n + (1 : Int) else many) by omega)).trans (congrArg (fun x_1 => Q.loop (lq pr (17 : FuncId) (0 : Nat)) (at_ [((0 : Nat), spq l), ((5 : Nat), V.vec (0 : Nat) l.length (1 : Nat) (0 : Nat) l.length), ((6 : Nat), i64 (if many < n + (1 : Int) then n + (1 : Int) else many)), ((16 : Nat), isq O), ((17 : Nat), i64 (↑O.length : Int)), ((18 : Nat), i64 x_1)] [Ob.vec true (1 : Nat) (ints (p.set x.toNat n))] (0 : Nat))) (show ((↑(m ++ [x]).length : Int)) = ((↑m.length : Int) + (1 : Int)) by simp))) (ih))
      exact .tp [t0, t1, t2, t3, t4, t5, .m (rfl : true = true), t7, t8, t9, t10, t11, t12, t13, t14, t15, t16, t17, t18, t19] (by kernel_rfl)
theorem scanSL_ev (l : List Span) (hl : l.length ≤ 30) (O : List Int) (hO : O.length ≤ 30) (hb : ∀ x ∈ O, 0 ≤ x ∧ x < l.length) : ∀ (rest m : List Int) (p : List Int) (many : Int), O = m ++ rest → p.length = l.length → 0 ≤ many → many ≤ l.length + 1 →
    Ev pr (.loop (lq pr 18 0) (at_ [(0, spq l), (5, .vec 0 l.length 1 0 l.length), (6, i64 many), (17, isq O), (18, i64 O.length), (19, i64 m.length)] [.vec true 1 (ints p)] 0))
      (.exit 0 (at_ [(5, .vec 0 l.length 1 0 l.length), (6, i64 (scanGo l rest p many).2)] [.vec true 1 (ints (scanGo l rest p many).1)] 0))
  | [], m, p, many, he, hp, h0, h1 => by
    have hll : (O.length : Int) = m.length := by simp [he]
    unfold scanGo
    let t0 : Tp pr := .b (show (decide ((↑m.length : Int) < (↑O.length : Int))) = false by (simp; omega))
    exact .tp [t0] (by kernel_rfl)
  | x :: rest, m, p, many, he, hp, h0, h1 => by
    have hll : (O.length : Int) = m.length + 1 + rest.length := by simp [he]; omega
    have hg : lkp (O.map intt) (m.length : Int) = some [T.int .i64 x] := by subst he; simp [intt]
    have hx := hb x (by simp [he])
    have hg2 := spAt_lkp (l := l) (k := x) hx.1 hx.2
    have g := leastS_ev l p (by omega) hp (spAt l x).from_
    have H := leastN_least l p (spAt l x).from_
    have H0 := H.h0
    have H1 := H.h1
    have ih := scanSL_ev l hl O hO hb rest (m ++ [x]) (p.set x.toNat (leastN l p (spAt l x).from_)) (if leastN l p (spAt l x).from_ + 1 > many then leastN l p (spAt l x).from_ + 1 else many) (by simp [he]) (by simp [hp]) (by split <;> omega) (by split <;> omega)
    unfold scanGo
    generalize (scanGo l rest (p.set x.toNat (leastN l p (spAt l x).from_)) (if leastN l p (spAt l x).from_ + 1 > many then leastN l p (spAt l x).from_ + 1 else many)) = Z at *
    generalize leastN l p (spAt l x).from_ = n at *
    have ht : List.take l.length (p.map intt) = p.map intt := List.take_of_length_le (by simp [hp])
    have hgx : (ints p)[x.toNat]? = some [C.t (.int .i64 (p.getD x.toNat 0))] := by
      rw [ints, List.getElem?_map, List.getElem?_eq_getElem (by omega)]
      simp [intc, List.getD_eq_getElem?_getD, List.getElem?_eq_getElem (show x.toNat < p.length by omega)]
    have hgx2 : (ints (p.set x.toNat n))[x.toNat]? = some [C.t (.int .i64 n)] := by
      rw [ints, List.getElem?_map, List.getElem?_set_self (by omega)]
      rfl
    generalize spAt l x = sx at *
    by_cases hm : n + 1 > many
    · rw [if_pos hm] at ih
      let t0 : Tp pr := .b (show (decide ((↑m.length : Int) < (↑O.length : Int))) = true by (simp; omega))
      let t1 : Tp pr := .g .row (show (lkp (List.map intt O) (↑m.length : Int)) = some ([T.int IntKind.i64 x]) from hg)
      let t2 : Tp pr := .g .row (show (lkp (List.map Span.ce l) x) = some (sx.ce) from hg2)
      let t3 : Tp pr := .m (show (decide ((ints p).length = l.length ∧ (0 : Nat) + l.length ≤ l.length)) = true by simp [*])
      let t4 : Tp pr := .n .rows (show (List.map (fun x => List.map C.fz x) (List.take l.length (List.drop (0 : Nat) (ints p)))) = List.take l.length (List.map intt p) by simp)
      let t5 : Tp pr := .a (Ev.castq (congrArg (fun x => Q.call (60 : FuncId) [V.t (T.seq (2 : Nat) (List.map Span.ce l)), V.t (T.seq (1 : Nat) x), V.t (T.int IntKind.i64 sx.from_)] []) (show (List.map intt p) = (List.take l.length (List.map intt p)) by simp [*])) (g))
      let t7 : Tp pr := .m (show (decide ((0 : Int) ≤ x ∧ x.toNat < l.length)) = true by simp [*])
      let t8 : Tp pr := .c (show ((0 : Nat) + x.toNat : Nat) = x.toNat by omega)
      let t9 : Tp pr := .m (show (decide ((ints p).length = l.length)) = true by simp [*])
      let t10 : Tp pr := .g .crow (show ((ints p)[x.toNat]?) = some ([C.t (T.int IntKind.i64 (p.getD x.toNat (0 : Int)))]) from hgx)
      let t11 : Tp pr := .n .crows (show ((ints p).set x.toNat [C.t (T.int IntKind.i64 n)]) = ints (p.set x.toNat n) by simp)
      let t12 : Tp pr := .i (wrap_i64 (a := n + (1 : Int)) (by omega) (by omega))
      let t13 : Tp pr := .b (show (decide (n + (1 : Int) > many)) = true by (simp; omega))
      let t14 : Tp pr := .i (wrap_i64 (a := n + (1 : Int)) (by omega) (by omega))
      let t15 : Tp pr := .i (wrap_i64 (a := (↑m.length : Int) + (1 : Int)) (by omega) (by omega))
      let t16 : Tp pr := .a (Ev.castq (congrArg (fun x_1 => Q.loop (lq pr (18 : FuncId) (0 : Nat)) (at_ [((0 : Nat), spq l), ((5 : Nat), V.vec (0 : Nat) l.length (1 : Nat) (0 : Nat) l.length), ((6 : Nat), i64 (n + (1 : Int))), ((17 : Nat), isq O), ((18 : Nat), i64 (↑O.length : Int)), ((19 : Nat), i64 x_1)] [Ob.vec true (1 : Nat) (ints (p.set x.toNat n))] (0 : Nat))) (show ((↑(m ++ [x]).length : Int)) = ((↑m.length : Int) + (1 : Int)) by simp)) (ih))
      exact .tp [t0, t1, t2, t3, t4, t5, .m (rfl : true = true), t7, t8, t9, t10, t11, t12, t13, t14, t15, t16] (by kernel_rfl)
    · rw [if_neg hm] at ih
      let t0 : Tp pr := .b (show (decide ((↑m.length : Int) < (↑O.length : Int))) = true by (simp; omega))
      let t1 : Tp pr := .g .row (show (lkp (List.map intt O) (↑m.length : Int)) = some ([T.int IntKind.i64 x]) from hg)
      let t2 : Tp pr := .g .row (show (lkp (List.map Span.ce l) x) = some (sx.ce) from hg2)
      let t3 : Tp pr := .m (show (decide ((ints p).length = l.length ∧ (0 : Nat) + l.length ≤ l.length)) = true by simp [*])
      let t4 : Tp pr := .n .rows (show (List.map (fun x => List.map C.fz x) (List.take l.length (List.drop (0 : Nat) (ints p)))) = List.take l.length (List.map intt p) by simp)
      let t5 : Tp pr := .a (Ev.castq (congrArg (fun x => Q.call (60 : FuncId) [V.t (T.seq (2 : Nat) (List.map Span.ce l)), V.t (T.seq (1 : Nat) x), V.t (T.int IntKind.i64 sx.from_)] []) (show (List.map intt p) = (List.take l.length (List.map intt p)) by simp [*])) (g))
      let t7 : Tp pr := .m (show (decide ((0 : Int) ≤ x ∧ x.toNat < l.length)) = true by simp [*])
      let t8 : Tp pr := .c (show ((0 : Nat) + x.toNat : Nat) = x.toNat by omega)
      let t9 : Tp pr := .m (show (decide ((ints p).length = l.length)) = true by simp [*])
      let t10 : Tp pr := .g .crow (show ((ints p)[x.toNat]?) = some ([C.t (T.int IntKind.i64 (p.getD x.toNat (0 : Int)))]) from hgx)
      let t11 : Tp pr := .n .crows (show ((ints p).set x.toNat [C.t (T.int IntKind.i64 n)]) = ints (p.set x.toNat n) by simp)
      let t12 : Tp pr := .i (wrap_i64 (a := n + (1 : Int)) (by omega) (by omega))
      let t13 : Tp pr := .b (show (decide (n + (1 : Int) > many)) = false by (simp; omega))
      let t14 : Tp pr := .i (wrap_i64 (a := (↑m.length : Int) + (1 : Int)) (by omega) (by omega))
      let t15 : Tp pr := .a (Ev.castq (congrArg (fun x_1 => Q.loop (lq pr (18 : FuncId) (0 : Nat)) (at_ [((0 : Nat), spq l), ((5 : Nat), V.vec (0 : Nat) l.length (1 : Nat) (0 : Nat) l.length), ((6 : Nat), i64 many), ((17 : Nat), isq O), ((18 : Nat), i64 (↑O.length : Int)), ((19 : Nat), i64 x_1)] [Ob.vec true (1 : Nat) (ints (p.set x.toNat n))] (0 : Nat))) (show ((↑(m ++ [x]).length : Int)) = ((↑m.length : Int) + (1 : Int)) by simp)) (ih))
      exact .tp [t0, t1, t2, t3, t4, t5, .m (rfl : true = true), t7, t8, t9, t10, t11, t12, t13, t14, t15] (by kernel_rfl)
theorem ScanI0_ev (l : List Span) (hl : l.length ≤ 1048576) (h : goodSp l = true) : Ev pr (.call 17 [spq l] []) (.val (.tup [.vec 0 l.length 1 0 l.length, i64 (scanS l).2, bl true]) [.vec true 1 (ints (scanS l).1)]) := by
  have h30 : l.length ≤ 30 := by simp [goodSp] at h; exact h.1
  have g := GoodSpansI_ev l hl
  rw [h] at g
  have a := noP_ev l.length (by omega)
  have b := turn0_ev l h30
  have c := scanIL_ev l h30 (orderS l) (by rw [orderS_len]; exact h30) (fun x hx => orderS_mem.1 hx) (orderS l) [] (List.replicate l.length (-1)) 0 rfl (by simp) (by omega) (by omega)
  rw [show scanGo l (orderS l) (List.replicate l.length (-1)) 0 = scanS l from rfl] at c
  generalize scanS l = Z at *
  let t2 : Tp pr := .i (show ((↑(List.map Span.ce l).length : Int) : Int) = (↑l.length : Int) by simp)
  let t5 : Tp pr := .i (show ((↑(List.map intt (orderS l)).length : Int) : Int) = (↑(orderS l).length : Int) by simp)
  exact .tp [.a (g), .b (rfl : false = false), t2, .a (a), .a (b), t5, .a (c)] (by kernel_rfl)
theorem ScanS0_ev (l : List Span) (hl : l.length ≤ 1048576) (h : goodSp l = true) : Ev pr (.call 18 [spq l] []) (.val (.tup [isq (scanS l).1, i64 (scanS l).2, bl true]) []) := by
  have h30 : l.length ≤ 30 := by simp [goodSp] at h; exact h.1
  have g := GoodSpansS_ev l hl
  rw [h] at g
  have a := noneS_ev l.length (by omega)
  have b := orderSE_ev l h30
  have c := scanSL_ev l h30 (orderS l) (by rw [orderS_len]; exact h30) (fun x hx => orderS_mem.1 hx) (orderS l) [] (List.replicate l.length (-1)) 0 rfl (by simp) (by omega) (by omega)
  rw [show scanGo l (orderS l) (List.replicate l.length (-1)) 0 = scanS l from rfl] at c
  have e : (scanS l).1.length = l.length := by rw [scanS, scanGo_len]; simp
  generalize scanS l = Z at *
  have ht : List.take l.length (Z.1.map intt) = Z.1.map intt := List.take_of_length_le (by simp [e])
  let t2 : Tp pr := .i (show ((↑(List.map Span.ce l).length : Int) : Int) = (↑l.length : Int) by simp)
  let t5 : Tp pr := .i (show ((↑(List.map intt (orderS l)).length : Int) : Int) = (↑(orderS l).length : Int) by simp)
  let t7 : Tp pr := .m (show (decide ((ints Z.fst).length = l.length ∧ (0 : Nat) + l.length ≤ l.length)) = true by simp [*])
  let t8 : Tp pr := .n .rows (show (List.map (fun x => List.map C.fz x) (List.take l.length (List.drop (0 : Nat) (ints Z.fst)))) = List.take l.length (List.map intt Z.fst) by simp)
  exact .tpe [.a (g), .b (rfl : false = false), t2, .a (a), .a (b), t5, .a (c), t7, t8] (Out.val (V.tup [V.t (T.seq (1 : Nat) (List.take l.length (List.map intt Z.fst))), V.t (T.int IntKind.i64 Z.snd), V.t (T.bool true)]) []) (by kernel_rfl) (congrArg (fun x => Out.val (V.tup [V.t (T.seq (1 : Nat) x), V.t (T.int IntKind.i64 Z.snd), V.t (T.bool true)]) []) (show (List.take l.length (List.map intt Z.fst)) = (List.map intt Z.fst) by simp [ht]))
theorem ScanIn_ev (l : List Span) (hl : l.length ≤ 1048576) (h : goodSp l = false) : Ev pr (.call 17 [spq l] []) (.val (.tup [.t .nils, i64 0, bl false]) []) := by
  have g := GoodSpansI_ev l hl
  rw [h] at g
  exact .tp [.a (g), .b (rfl : true = true)] (by kernel_rfl)
theorem ScanSn_ev (l : List Span) (hl : l.length ≤ 1048576) (h : goodSp l = false) : Ev pr (.call 18 [spq l] []) (.val (.tup [isq [], i64 0, bl false]) []) := by
  have g := GoodSpansS_ev l hl
  rw [h] at g
  exact .tp [.a (g), .b (rfl : true = true)] (by kernel_rfl)
end Go.Ev

/- A number put into its place, by the reference. -/
namespace Go.Ev
set_option linter.unusedVariables false
set_option linter.unusedSimpArgs false
open Go.Proofs
set_option maxRecDepth 100000
set_option linter.unusedVariables false
set_option maxHeartbeats 2000000
def lowN (l : List Int) (n : Int) : List Int := l.takeWhile fun x => decide (x < n)
def hiN (l : List Int) (n : Int) : List Int := l.dropWhile fun x => decide (x < n)
theorem low_hi (l : List Int) (n : Int) : lowN l n ++ hiN l n = l := List.takeWhile_append_dropWhile
theorem insL_low : ∀ (l : List Int) (n : Int), insL l n = match hiN l n with
    | [] => lowN l n ++ [n]
    | x :: r => if x = n then l else lowN l n ++ n :: x :: r
  | [], n => rfl
  | y :: l, n => by
    by_cases h : y < n
    · have e1 : hiN (y :: l) n = hiN l n := by simp [hiN, List.dropWhile_cons, h]
      have e2 : lowN (y :: l) n = y :: lowN l n := by simp [lowN, List.takeWhile_cons, h]
      have ih := insL_low l n
      rw [e1, e2]
      simp only [insL]
      rw [if_pos h, ih]
      split
      · rfl
      · split <;> rfl
    · have e1 : hiN (y :: l) n = y :: l := by simp [hiN, List.dropWhile_cons, h]
      have e2 : lowN (y :: l) n = [] := by simp [lowN, List.takeWhile_cons, h]
      rw [e1, e2]
      simp only [insL]
      rw [if_neg h]
      rfl
theorem putL_ev (l : List Int) (n : Int) (hl : l.length ≤ 1000) : ∀ (rest dn : List Int), l = dn ++ rest →
    Ev pr (.loop (lq pr 61 0) (at_ [(0, isq l), (1, i64 n), (5, i64 dn.length)] [] 0)) (.exit 0 (at_ [(0, isq l), (1, i64 n), (5, i64 (dn.length + (lowN rest n).length))] [] 0))
  | [], dn, he => by
    have hll : (l.length : Int) = dn.length := by simp [he]
    rw [show lowN [] n = [] from rfl]
    let t0 : Tp pr := .i (show ((↑(List.map intt l).length : Int) : Int) = (↑l.length : Int) by simp)
    let t1 : Tp pr := .b (show (decide ((↑dn.length : Int) < (↑l.length : Int))) = false by (simp; omega))
    exact .tp [t0, t1, .b (rfl : false = false)] (by kernel_rfl)
  | x :: rest, dn, he => by
    have hll : (l.length : Int) = dn.length + 1 + rest.length := by simp [he]; omega
    have hg : lkp (l.map intt) (dn.length : Int) = some [T.int .i64 x] := by subst he; simp [intt]
    have ih := putL_ev l n hl rest (dn ++ [x]) (by simp [he])
    by_cases hx : x < n
    · rw [show lowN (x :: rest) n = x :: lowN rest n by simp [lowN, List.takeWhile_cons, hx]]
      let t0 : Tp pr := .i (show ((↑(List.map intt l).length : Int) : Int) = (↑l.length : Int) by simp)
      let t1 : Tp pr := .b (show (decide ((↑dn.length : Int) < (↑l.length : Int))) = true by (simp; omega))
      let t2 : Tp pr := .g .row (show (lkp (List.map intt l) (↑dn.length : Int)) = some ([T.int IntKind.i64 x]) from hg)
      let t3 : Tp pr := .b (show (decide (x < n)) = true by (simp; omega))
      let t4 : Tp pr := .i (wrap_i64 (a := (↑dn.length : Int) + (1 : Int)) (by omega) (by omega))
      let t5 : Tp pr := .a (Ev.castq (congrArg (fun x => Q.loop (lq pr (61 : FuncId) (0 : Nat)) (at_ [((0 : Nat), isq l), ((1 : Nat), i64 n), ((5 : Nat), i64 x)] [] (0 : Nat))) (show ((↑(dn ++ [x]).length : Int)) = ((↑dn.length : Int) + (1 : Int)) by (simp <;> omega))) (ih))
      exact .tpe [t0, t1, t2, t3, t4, t5] (Out.exit (0 : Nat) (at_ [((0 : Nat), V.t (T.seq (1 : Nat) (List.map intt l))), ((1 : Nat), V.t (T.int IntKind.i64 n)), ((5 : Nat), V.t (T.int IntKind.i64 ((↑(dn ++ [x]).length : Int) + (↑(lowN rest n).length : Int))))] [] (0 : Nat))) (by kernel_rfl) (congrArg (fun x => Out.exit (0 : Nat) (at_ [((0 : Nat), V.t (T.seq (1 : Nat) (List.map intt l))), ((1 : Nat), V.t (T.int IntKind.i64 n)), ((5 : Nat), V.t (T.int IntKind.i64 x))] [] (0 : Nat))) (show ((↑(dn ++ [x]).length : Int) + (↑(lowN rest n).length : Int)) = ((↑dn.length : Int) + (↑(x :: lowN rest n).length : Int)) by (simp <;> omega)))
    · rw [show lowN (x :: rest) n = [] by simp [lowN, List.takeWhile_cons, hx]]
      let t0 : Tp pr := .i (show ((↑(List.map intt l).length : Int) : Int) = (↑l.length : Int) by simp)
      let t1 : Tp pr := .b (show (decide ((↑dn.length : Int) < (↑l.length : Int))) = true by (simp; omega))
      let t2 : Tp pr := .g .row (show (lkp (List.map intt l) (↑dn.length : Int)) = some ([T.int IntKind.i64 x]) from hg)
      let t3 : Tp pr := .b (show (decide (x < n)) = false by (simp; omega))
      exact .tp [t0, t1, t2, t3] (by kernel_rfl)
@[local simp] theorem take_mapL {α β : Type} (f : α → β) (a : List α) (c : List β) : List.take a.length (a.map f ++ c) = a.map f := List.take_left' (by simp)
@[local simp] theorem drop_mapL {α β : Type} (f : α → β) (a : List α) (c : List β) : List.drop a.length (a.map f ++ c) = c := List.drop_left' (by simp)
@[local simp] theorem ints_of (l : List Int) : List.map ((fun x => List.map C.t x) ∘ intt) l = ints l := by simp [ints, Function.comp_def, intc, intt]
@[local simp] theorem ints_of2 (l : List Int) : List.map (fun x => List.map C.t x) (List.map intt l) = ints l := by simp
@[local simp] theorem intt_take2 (a r : List Int) (y z : List T) : List.take (a.length + 1 + (r.length + 1)) (a.map intt ++ y :: z :: r.map intt) = a.map intt ++ y :: z :: r.map intt := List.take_of_length_le (by simp; omega)
@[local simp] theorem ints_takeA (l : List Int) (c : List (List C)) : List.take l.length (ints l ++ c) = ints l := List.take_left' (by simp)
@[local simp] theorem ints_take1 (l : List Int) (z : List C) : List.take (l.length + 1) (ints l ++ [z]) = ints l ++ [z] := List.take_of_length_le (by simp)
@[local simp] theorem ints_drop1 (l : List Int) (z : List C) : List.drop (l.length + 1) (ints l ++ [z]) = [] := List.drop_of_length_le (by simp)
@[local simp] theorem intt_drop1 (l : List Int) (z : List T) : List.drop (l.length + 1) (l.map intt ++ [z]) = [] := List.drop_of_length_le (by simp)
@[local simp] theorem intt_take1 (l : List Int) (z : List T) : List.take (l.length + 1) (l.map intt ++ [z]) = l.map intt ++ [z] := List.take_of_length_le (by simp)
@[local simp] theorem tn3 (a b : Nat) : ((a : Int) + ((b : Int) + 1)).toNat = a + (b + 1) := by omega
@[local simp] theorem tn4 (a b : Nat) : a + (b + 1) - a = b + 1 := by omega
@[local simp] theorem cons_take (b : List Int) (z : List C) : List.take (b.length + 1) (z :: ints b) = z :: ints b := List.take_of_length_le (by simp)
def insAB (a b : List Int) (n : Int) : List Int :=
  match b with
  | [] => a ++ [n]
  | x :: r => if x = n then a ++ b else a ++ n :: x :: r
theorem putAB_ev (a b : List Int) (n : Int) (hl : (a ++ b).length ≤ 1000) (h : Ev pr (.loop (lq pr 61 0) (at_ [(0, isq (a ++ b)), (1, i64 n), (5, i64 0)] [] 0)) (.exit 0 (at_ [(0, isq (a ++ b)), (1, i64 n), (5, i64 a.length)] [] 0))) :
    Ev pr (.call 61 [isq (a ++ b), i64 n] []) (.val (isq (insAB a b n)) []) := by
  cases b with
  | nil =>
    have hl2 : a.length ≤ 1000 := by simp at hl; exact hl
    have t1 : List.take (a.length + 1) (ints a ++ [[C.t (T.int .i64 n)]]) = ints a ++ [[C.t (T.int .i64 n)]] := List.take_of_length_le (by simp)
    rw [show insAB a [] n = a ++ [n] from rfl]
    let t1 : Tp pr := .i (show ((↑(List.map intt (a ++ [])).length : Int) : Int) = (↑a.length : Int) by simp)
    let t2 : Tp pr := .b (show (decide ((↑a.length : Int) < (↑a.length : Int))) = false by simp)
    let t4 : Tp pr := .m (show (decide ((0 : Int) ≤ (0 : Int) ∧ (0 : Int) ≤ (↑a.length : Int) ∧ (↑a.length : Int) ≤ (↑(List.map intt (a ++ [])).length : Int))) = true by simp)
    let t5 : Tp pr := .n .rows (show (List.take ((↑a.length : Int).toNat - (0 : Nat)) (List.drop (0 : Nat) (List.map intt (a ++ [])))) = List.map intt a by simp)
    let t6 : Tp pr := .m (show (decide ((List.map (fun x => List.map C.t x) (List.map intt a)).length ≤ (4294967296 : Nat))) = true by (simp; omega))
    let t7 : Tp pr := .c (show ((List.map (fun x => List.map C.t x) (List.map intt a)).length : Nat) = a.length by simp)
    let t8 : Tp pr := .n .crows (show (List.map (fun x => List.map C.t x) (List.map intt a)) = ints a by simp)
    let t10 : Tp pr := .m (show (decide ((ints a).length = a.length ∧ (0 : Nat) + a.length ≤ a.length ∧ a.length + (1 : Nat) ≤ (4294967296 : Nat))) = true by (simp; omega))
    let t11 : Tp pr := .b (show (decide (a.length + (1 : Nat) ≤ a.length)) = false by simp)
    let t13 : Tp pr := .n .crows (show ((List.take a.length (ints a)).append (List.take (1 : Nat) (List.drop (0 : Nat) [[C.t (T.int IntKind.i64 n)]]))) = List.take a.length (ints a) ++ [[C.t (T.int IntKind.i64 n)]] by simp)
    let t14 : Tp pr := .m (show (decide ((0 : Int) ≤ (↑a.length : Int) ∧ (↑a.length : Int) ≤ (↑(List.map intt (a ++ [])).length : Int) ∧ (↑(List.map intt (a ++ [])).length : Int) ≤ (↑(List.map intt (a ++ [])).length : Int))) = true by simp)
    let t15 : Tp pr := .n .rows (show (List.take ((↑(List.map intt (a ++ [])).length : Int).toNat - (↑a.length : Int).toNat) (List.drop (↑a.length : Int).toNat (List.map intt (a ++ [])))) = [] by simp)
    let t16 : Tp pr := .m (show (decide (((List.take a.length (ints a)).append [[C.t (T.int IntKind.i64 n)]]).length = a.length + (1 : Nat) ∧ (0 : Nat) + (a.length + (1 : Nat)) ≤ a.length + (1 : Nat) ∧ a.length + (1 : Nat) + (0 : Nat) ≤ (4294967296 : Nat))) = true by (simp; omega))
    let t17 : Tp pr := .b (show (decide (a.length + (1 : Nat) + (0 : Nat) ≤ a.length + (1 : Nat))) = true by simp)
    let t18 : Tp pr := .c (show (a.length + (1 : Nat) + (0 : Nat) : Nat) = a.length + (1 : Nat) by omega)
    let t19 : Tp pr := .n .crows (show (((List.take (a.length + (1 : Nat)) ((List.take a.length (ints a)).append [[C.t (T.int IntKind.i64 n)]])).append []).append (List.drop (a.length + (1 : Nat) + (0 : Nat)) ((List.take a.length (ints a)).append [[C.t (T.int IntKind.i64 n)]]))) = List.take a.length (ints a) ++ [[C.t (T.int IntKind.i64 n)]] by simp)
    let t20 : Tp pr := .m (show (decide (((List.take a.length (ints a)).append [[C.t (T.int IntKind.i64 n)]]).length = a.length + (1 : Nat) ∧ (0 : Nat) + (a.length + (1 : Nat)) ≤ a.length + (1 : Nat))) = true by simp)
    let t21 : Tp pr := .n .rows (show (List.map (fun x => List.map C.fz x) (List.take (a.length + (1 : Nat)) (List.drop (0 : Nat) ((List.take a.length (ints a)).append [[C.t (T.int IntKind.i64 n)]])))) = List.map intt a ++ [[(C.t (T.int IntKind.i64 n)).fz]] by simp)
    exact .tpe [.a (h), t1, t2, .b (rfl : false = false), t4, t5, t6, t7, t8, .m (rfl : true = true), t10, t11, .c (rfl : (a.length + (1 : Nat)) = _), t13, t14, t15, t16, t17, t18, t19, t20, t21] (Out.val (V.t (T.seq (1 : Nat) ((List.map intt a).append [[T.int IntKind.i64 n]]))) []) (by kernel_rfl) (congrArg (fun x => Out.val (V.t (T.seq (1 : Nat) x)) []) (show ((List.map intt a).append [[T.int IntKind.i64 n]]) = (List.map intt (a ++ [n])) by simp [ints, intc, intt, C.fz, Function.comp_def]))
  | cons x r =>
    have hl2 : a.length + r.length + 1 ≤ 1000 := by simp at hl; omega
    have hg : lkp ((a ++ x :: r).map intt) (a.length : Int) = some [T.int .i64 x] := by simp [intt]
    unfold insAB
    dsimp only
    by_cases hx : x = n
    · rw [if_pos hx]; (
      let t1 : Tp pr := .i (show ((↑(List.map intt (a ++ x :: r)).length : Int) : Int) = (↑a.length : Int) + ((↑r.length : Int) + (1 : Int)) by simp)
      let t2 : Tp pr := .b (show (decide ((↑a.length : Int) < (↑a.length : Int) + ((↑r.length : Int) + (1 : Int)))) = true by (simp; omega))
      let t3 : Tp pr := .g .row (show (lkp (List.map intt (a ++ x :: r)) (↑a.length : Int)) = some ([T.int IntKind.i64 x]) from hg)
      let t4 : Tp pr := .b (show (decide (x = n)) = true by (simp; omega))
      exact .tp [.a (h), t1, t2, t3, t4] (by kernel_rfl))
    · rw [if_neg hx]; (
      let t1 : Tp pr := .i (show ((↑(List.map intt (a ++ x :: r)).length : Int) : Int) = (↑a.length : Int) + ((↑r.length : Int) + (1 : Int)) by simp)
      let t2 : Tp pr := .b (show (decide ((↑a.length : Int) < (↑a.length : Int) + ((↑r.length : Int) + (1 : Int)))) = true by (simp; omega))
      let t3 : Tp pr := .g .row (show (lkp (List.map intt (a ++ x :: r)) (↑a.length : Int)) = some ([T.int IntKind.i64 x]) from hg)
      let t4 : Tp pr := .b (show (decide (x = n)) = false by (simp; omega))
      let t5 : Tp pr := .m (show (decide ((0 : Int) ≤ (0 : Int) ∧ (0 : Int) ≤ (↑a.length : Int) ∧ (↑a.length : Int) ≤ (↑(List.map intt (a ++ x :: r)).length : Int))) = true by (simp; omega))
      let t6 : Tp pr := .n .rows (show (List.take ((↑a.length : Int).toNat - (0 : Nat)) (List.drop (0 : Nat) (List.map intt (a ++ x :: r)))) = List.map intt a by simp)
      let t7 : Tp pr := .m (show (decide ((List.map (fun x => List.map C.t x) (List.map intt a)).length ≤ (4294967296 : Nat))) = true by (simp; omega))
      let t8 : Tp pr := .c (show ((List.map (fun x => List.map C.t x) (List.map intt a)).length : Nat) = a.length by simp)
      let t9 : Tp pr := .n .crows (show (List.map (fun x => List.map C.t x) (List.map intt a)) = ints a by simp)
      let t11 : Tp pr := .m (show (decide ((ints a).length = a.length ∧ (0 : Nat) + a.length ≤ a.length ∧ a.length + (1 : Nat) ≤ (4294967296 : Nat))) = true by (simp; omega))
      let t12 : Tp pr := .b (show (decide (a.length + (1 : Nat) ≤ a.length)) = false by simp)
      let t14 : Tp pr := .n .crows (show ((List.take a.length (ints a)).append (List.take (1 : Nat) (List.drop (0 : Nat) [[C.t (T.int IntKind.i64 n)]]))) = List.take a.length (ints a) ++ [[C.t (T.int IntKind.i64 n)]] by simp)
      let t15 : Tp pr := .m (show (decide ((0 : Int) ≤ (↑a.length : Int) ∧ (↑a.length : Int) ≤ (↑(List.map intt (a ++ x :: r)).length : Int) ∧ (↑(List.map intt (a ++ x :: r)).length : Int) ≤ (↑(List.map intt (a ++ x :: r)).length : Int))) = true by (simp; omega))
      let t16 : Tp pr := .n .rows (show (List.take ((↑(List.map intt (a ++ x :: r)).length : Int).toNat - (↑a.length : Int).toNat) (List.drop (↑a.length : Int).toNat (List.map intt (a ++ x :: r)))) = intt x :: List.map intt r by simp)
      let t17 : Tp pr := .m (show (decide (((List.take a.length (ints a)).append [[C.t (T.int IntKind.i64 n)]]).length = a.length + (1 : Nat) ∧ (0 : Nat) + (a.length + (1 : Nat)) ≤ a.length + (1 : Nat) ∧ a.length + (1 : Nat) + (List.map (fun x => List.map C.t x) ([T.int IntKind.i64 x] :: List.map intt r)).length ≤ (4294967296 : Nat))) = true by (simp; omega))
      let t18 : Tp pr := .b (show (decide (a.length + (1 : Nat) + (List.map (fun x => List.map C.t x) ([T.int IntKind.i64 x] :: List.map intt r)).length ≤ a.length + (1 : Nat))) = false by simp)
      let t19 : Tp pr := .c (show (a.length + (1 : Nat) + (List.map (fun x => List.map C.t x) ([T.int IntKind.i64 x] :: List.map intt r)).length : Nat) = a.length + (1 : Nat) + (r.length + (1 : Nat)) by simp)
      let t20 : Tp pr := .n .crows (show ((List.take (a.length + (1 : Nat)) ((List.take a.length (ints a)).append [[C.t (T.int IntKind.i64 n)]])).append (List.map (fun x => List.map C.t x) ([T.int IntKind.i64 x] :: List.map intt r))) = List.take (a.length + (1 : Nat)) (List.take a.length (ints a) ++ [[C.t (T.int IntKind.i64 n)]]) ++ [C.t (T.int IntKind.i64 x)] :: ints r by simp)
      let t21 : Tp pr := .m (show (decide (((List.take (a.length + (1 : Nat)) ((List.take a.length (ints a)).append [[C.t (T.int IntKind.i64 n)]])).append ([C.t (T.int IntKind.i64 x)] :: ints r)).length = a.length + (1 : Nat) + (r.length + (1 : Nat)) ∧ (0 : Nat) + (a.length + (1 : Nat) + (r.length + (1 : Nat))) ≤ a.length + (1 : Nat) + (r.length + (1 : Nat)))) = true by simp)
      let t22 : Tp pr := .n .rows (show (List.map (fun x => List.map C.fz x) (List.take (a.length + (1 : Nat) + (r.length + (1 : Nat))) (List.drop (0 : Nat) ((List.take (a.length + (1 : Nat)) ((List.take a.length (ints a)).append [[C.t (T.int IntKind.i64 n)]])).append ([C.t (T.int IntKind.i64 x)] :: ints r))))) = List.map intt a ++ [(C.t (T.int IntKind.i64 n)).fz] :: [(C.t (T.int IntKind.i64 x)).fz] :: List.map intt r by simp)
      exact .tpe [.a (h), t1, t2, t3, t4, t5, t6, t7, t8, t9, .m (rfl : true = true), t11, t12, .c (rfl : (a.length + (1 : Nat)) = _), t14, t15, t16, t17, t18, t19, t20, t21, t22] (Out.val (V.t (T.seq (1 : Nat) ((List.map intt a).append ([T.int IntKind.i64 n] :: [T.int IntKind.i64 x] :: List.map intt r)))) []) (by kernel_rfl) (congrArg (fun x => Out.val (V.t (T.seq (1 : Nat) x)) []) (show ((List.map intt a).append ([T.int IntKind.i64 n] :: [T.int IntKind.i64 x] :: List.map intt r)) = (List.map intt (a ++ n :: x :: r)) by simp [ints, intc, intt])))
theorem l1Put_ev (l : List Int) (n : Int) (hl : l.length ≤ 1000) : Ev pr (.call 61 [isq l, i64 n] []) (.val (isq (insL l n)) []) := by
  have h := putL_ev l n hl l [] rfl
  have e := low_hi l n
  have hk : ((([] : List Int).length : Int) + ((lowN l n).length : Int)) = (lowN l n).length := by simp
  rw [hk] at h
  have hp := putAB_ev (lowN l n) (hiN l n) n (by rw [e]; exact hl) (by rw [e]; exact h)
  rw [e] at hp
  have hi : insAB (lowN l n) (hiN l n) n = insL l n := by
    rw [insL_low]
    unfold insAB
    rw [e]
  rw [hi] at hp
  exact hp
theorem l1PutN_ev (n : Int) : Ev pr (.call 61 [.t .nils, i64 n] []) (.val (isq [n]) []) := by
  have h : Ev pr (.loop (lq pr 61 0) (at_ [(0, .t .nils), (1, i64 n), (5, i64 0)] [] 0)) (.exit 0 (at_ [(0, .t .nils), (1, i64 n), (5, i64 0)] [] 0)) := by
    let t0 : Tp pr := .i (rfl : ((0 : Int) : Int) = (0 : Int))
    exact .tp [t0, .b (rfl : false = false), .b (rfl : false = false)] (by kernel_rfl)
  let t1 : Tp pr := .i (rfl : ((0 : Int) : Int) = (0 : Int))
  let t12 : Tp pr := .n .crows (show ([].append (List.take (1 : Nat) (List.drop (0 : Nat) [[C.t (T.int IntKind.i64 n)]]))) = [[C.t (T.int IntKind.i64 n)]] by simp)
  let t17 : Tp pr := .n .crows (show (((List.take (1 : Nat) [[C.t (T.int IntKind.i64 n)]]).append []).append []) = [[C.t (T.int IntKind.i64 n)]] by simp)
  let t19 : Tp pr := .n .rows (show (List.map (fun x => List.map C.fz x) (List.take (1 : Nat) (List.drop (0 : Nat) [[C.t (T.int IntKind.i64 n)]]))) = [[(C.t (T.int IntKind.i64 n)).fz]] by simp)
  exact .tp [.a (h), t1, .b (rfl : false = false), .b (rfl : false = false), .m (rfl : true = true), .m (rfl : true = true), .c (rfl : ((0 : Nat)) = _), .n .crows (rfl : ([]) = _), .m (rfl : true = true), .m (rfl : true = true), .b (rfl : false = false), .c (rfl : ((1 : Nat)) = _), t12, .m (rfl : true = true), .m (rfl : true = true), .b (rfl : true = true), .c (rfl : ((1 : Nat)) = _), t17, .m (rfl : true = true), t19] (by kernel_rfl)
theorem insL_len (out : List Int) (x : Int) : (insL out x).length ≤ out.length + 1 := by
  rw [insL_low]
  have e := congrArg List.length (low_hi out x)
  split <;> rename_i hh <;> rw [hh] at e <;> simp at e
  · simp; omega
  · split
    · omega
    · simp; omega
/-- What is left out so far, az a value. -/
def goneT (g : List Int) : T := if g = [] then .nils else .seq 1 (g.map intt)
theorem putT_ev (g : List Int) (n : Int) (hl : g.length ≤ 1000) : Ev pr (.call 61 [.t (goneT g), i64 n] []) (.val (.t (goneT (insL g n))) []) := by
  unfold goneT
  rw [if_neg (insL_ne g n)]
  by_cases h : g = []
  · subst h
    rw [if_pos rfl]
    exact l1PutN_ev n
  · rw [if_neg h]
    exact l1Put_ev g n hl
end Go.Ev

/- Spans: what is left out, by the program. -/
namespace Go.Ev
set_option linter.unusedVariables false
set_option linter.unusedSimpArgs false
open Go.Proofs
set_option maxRecDepth 100000
set_option linter.unusedVariables false
set_option linter.unusedSimpArgs false
set_option maxHeartbeats 2000000
theorem within_ev (x lo hi : Int) : Ev pr (.call 51 [i64 x, i64 lo, i64 hi] []) (.val (bl (decide (x >= lo) && decide (x <= hi))) []) := by
  cases h : decide (x >= lo) <;> exact .tp [.b h] (by kernel_rfl)
theorem l1In_ev (x lo hi : Int) : Ev pr (.call 57 [i64 x, i64 lo, i64 hi] []) (.val (bl (decide (lo ≤ x) && decide (x ≤ hi))) []) := by
  cases h : decide (lo ≤ x) <;> exact .tp [.b h] (by kernel_rfl)
theorem ints_getD (p : List Int) (i : Nat) (h : i < p.length) : (ints p)[i]? = some [C.t (.int .i64 (p.getD i 0))] := by
  rw [ints, List.getElem?_map, List.getElem?_eq_getElem h]
  simp [intc, List.getD_eq_getElem?_getD, List.getElem?_eq_getElem h]
theorem worstIL_ev (l : List Span) (most : Int) (hl : l.length ≤ 30) (O p : List Int) (mm x : Int) (hp : p.length = l.length) (hx : 0 ≤ x ∧ x < l.length) : ∀ (rest m : List Span) (w : Int), l = m ++ rest → 0 ≤ w ∧ w < l.length →
    Ev pr (.loop (lq pr 10 1) (at_ [(0, spq l), (1, i64 most), (7, .vec 0 l.length 1 0 l.length), (9, i64 x), (11, i64 w), (29, isq O), (30, i64 O.length), (31, i64 mm), (51, spq l), (52, i64 l.length), (53, i64 m.length)] [.vec true 1 (ints p)] 0))
      (.exit 2 (at_ [(0, spq l), (1, i64 most), (7, .vec 0 l.length 1 0 l.length), (9, i64 x), (11, i64 (worstGo l p (spAt l x).from_ rest m.length w)), (29, isq O), (30, i64 O.length), (31, i64 mm)] [.vec true 1 (ints p)] 0))
  | [], m, w, he, hw => by
    have hll : (l.length : Int) = m.length := by simp [he]
    rw [worstGo]
    let t0 : Tp pr := .b (show (decide ((↑m.length : Int) < (↑l.length : Int))) = false by (simp; omega))
    exact .tp [t0] (by kernel_rfl)
  | s :: rest, m, w, he, hw => by
    have hll : (l.length : Int) = m.length + 1 + rest.length := by simp [he]; omega
    have hll2 : l.length = m.length + 1 + rest.length := by omega
    have hg : lkp (l.map Span.ce) (m.length : Int) = some s.ce := by subst he; simp
    have hgp := ints_getD p m.length (by omega)
    have hgx := spAt_lkp (l := l) (k := x) hx.1 hx.2
    have hgw := spAt_lkp (l := l) (k := w) hw.1 hw.2
    have hh := held_ev s (spAt l x).from_
    have ih0 := fun w hw => worstIL_ev l most hl O p mm x hp hx rest (m ++ [s]) w (by simp [he]) hw
    rw [show (m ++ [s]).length = m.length + 1 by simp] at ih0
    rw [worstGo]
    by_cases c1 : 0 ≤ p.getD m.length 0
    · cases c2 : heldS s (spAt l x).from_
      · rw [c2] at hh
        rw [if_neg (by simp)]
        have ih := ih0 w hw
        generalize p.getD m.length 0 = q at *
        generalize spAt l x = sx at *
        generalize spAt l w = sw at *
        let t0 : Tp pr := .b (show (decide ((↑m.length : Int) < (↑l.length : Int))) = true by (simp; omega))
        let t1 : Tp pr := .g .row (show (lkp (List.map Span.ce l) (↑m.length : Int)) = some (s.ce) from hg)
        let t4 : Tp pr := .m (show (decide ((0 : Int) ≤ (↑m.length : Int) ∧ (↑m.length : Int).toNat < l.length)) = true by simp [*])
        let t5 : Tp pr := .c (show ((0 : Nat) + (↑m.length : Int).toNat : Nat) = m.length by omega)
        let t7 : Tp pr := .m (show (decide ((ints p).length = l.length)) = true by simp [*])
        let t8 : Tp pr := .g .crow (show ((ints p)[m.length]?) = some ([C.t (T.int IntKind.i64 q)]) from hgp)
        let t12 : Tp pr := .b (show (decide (q ≥ (0 : Int))) = true by (simp; omega))
        let t16 : Tp pr := .g .row (show (lkp (List.map Span.ce l) x) = some (sx.ce) from hgx)
        let t35 : Tp pr := .i (wrap_i64 (a := (↑m.length : Int) + (1 : Int)) (by omega) (by omega))
        exact .tp [t0, t1, .m (rfl : true = true), .m (rfl : true = true), t4, t5, .m (rfl : true = true), t7, t8, .m (rfl : true = true), .m (rfl : true = true), .m (rfl : true = true), t12, .m (rfl : true = true), .m (rfl : true = true), .m (rfl : true = true), t16, .m (rfl : true = true), .m (rfl : true = true), .m (rfl : true = true), .a (hh), .m (rfl : true = true), .m (rfl : true = true), .m (rfl : true = true), .b (rfl : false = false), .m (rfl : true = true), .m (rfl : true = true), .m (rfl : true = true), .m (rfl : true = true), .m (rfl : true = true), .m (rfl : true = true), .m (rfl : true = true), .m (rfl : true = true), .m (rfl : true = true), .b (rfl : false = false), t35, .a (ih0 (w) (by assumption))] (by kernel_rfl)
      · rw [c2] at hh
        by_cases c3 : s.to_ > (spAt l w).to_
        · rw [if_pos ⟨c1, rfl, c3⟩]
          have ih := ih0 m.length (by omega)
          generalize p.getD m.length 0 = q at *
          generalize spAt l x = sx at *
          generalize spAt l w = sw at *
          let t0 : Tp pr := .b (show (decide ((↑m.length : Int) < (↑l.length : Int))) = true by (simp; omega))
          let t1 : Tp pr := .g .row (show (lkp (List.map Span.ce l) (↑m.length : Int)) = some (s.ce) from hg)
          let t4 : Tp pr := .m (show (decide ((0 : Int) ≤ (↑m.length : Int) ∧ (↑m.length : Int).toNat < l.length)) = true by simp [*])
          let t5 : Tp pr := .c (show ((0 : Nat) + (↑m.length : Int).toNat : Nat) = m.length by omega)
          let t7 : Tp pr := .m (show (decide ((ints p).length = l.length)) = true by simp [*])
          let t8 : Tp pr := .g .crow (show ((ints p)[m.length]?) = some ([C.t (T.int IntKind.i64 q)]) from hgp)
          let t12 : Tp pr := .b (show (decide (q ≥ (0 : Int))) = true by (simp; omega))
          let t16 : Tp pr := .g .row (show (lkp (List.map Span.ce l) x) = some (sx.ce) from hgx)
          let t29 : Tp pr := .g .row (show (lkp (List.map Span.ce l) w) = some (sw.ce) from hgw)
          let t35 : Tp pr := .b (show (decide (s.to_ > sw.to_)) = true by (simp; omega))
          let t36 : Tp pr := .i (wrap_i64 (a := (↑m.length : Int) + (1 : Int)) (by omega) (by omega))
          exact .tp [t0, t1, .m (rfl : true = true), .m (rfl : true = true), t4, t5, .m (rfl : true = true), t7, t8, .m (rfl : true = true), .m (rfl : true = true), .m (rfl : true = true), t12, .m (rfl : true = true), .m (rfl : true = true), .m (rfl : true = true), t16, .m (rfl : true = true), .m (rfl : true = true), .m (rfl : true = true), .a (hh), .m (rfl : true = true), .m (rfl : true = true), .m (rfl : true = true), .b (rfl : true = true), .m (rfl : true = true), .m (rfl : true = true), .m (rfl : true = true), .m (rfl : true = true), t29, .m (rfl : true = true), .m (rfl : true = true), .m (rfl : true = true), .m (rfl : true = true), .m (rfl : true = true), t35, t36, .a (ih0 ((↑m.length : Int)) (by omega))] (by kernel_rfl)
        · rw [if_neg (fun h => c3 h.2.2)]
          have ih := ih0 w hw
          generalize p.getD m.length 0 = q at *
          generalize spAt l x = sx at *
          generalize spAt l w = sw at *
          let t0 : Tp pr := .b (show (decide ((↑m.length : Int) < (↑l.length : Int))) = true by (simp; omega))
          let t1 : Tp pr := .g .row (show (lkp (List.map Span.ce l) (↑m.length : Int)) = some (s.ce) from hg)
          let t4 : Tp pr := .m (show (decide ((0 : Int) ≤ (↑m.length : Int) ∧ (↑m.length : Int).toNat < l.length)) = true by simp [*])
          let t5 : Tp pr := .c (show ((0 : Nat) + (↑m.length : Int).toNat : Nat) = m.length by omega)
          let t7 : Tp pr := .m (show (decide ((ints p).length = l.length)) = true by simp [*])
          let t8 : Tp pr := .g .crow (show ((ints p)[m.length]?) = some ([C.t (T.int IntKind.i64 q)]) from hgp)
          let t12 : Tp pr := .b (show (decide (q ≥ (0 : Int))) = true by (simp; omega))
          let t16 : Tp pr := .g .row (show (lkp (List.map Span.ce l) x) = some (sx.ce) from hgx)
          let t29 : Tp pr := .g .row (show (lkp (List.map Span.ce l) w) = some (sw.ce) from hgw)
          let t35 : Tp pr := .b (show (decide (s.to_ > sw.to_)) = false by (simp; omega))
          let t36 : Tp pr := .i (wrap_i64 (a := (↑m.length : Int) + (1 : Int)) (by omega) (by omega))
          exact .tp [t0, t1, .m (rfl : true = true), .m (rfl : true = true), t4, t5, .m (rfl : true = true), t7, t8, .m (rfl : true = true), .m (rfl : true = true), .m (rfl : true = true), t12, .m (rfl : true = true), .m (rfl : true = true), .m (rfl : true = true), t16, .m (rfl : true = true), .m (rfl : true = true), .m (rfl : true = true), .a (hh), .m (rfl : true = true), .m (rfl : true = true), .m (rfl : true = true), .b (rfl : true = true), .m (rfl : true = true), .m (rfl : true = true), .m (rfl : true = true), .m (rfl : true = true), t29, .m (rfl : true = true), .m (rfl : true = true), .m (rfl : true = true), .m (rfl : true = true), .m (rfl : true = true), t35, t36, .a (ih0 (w) (by assumption))] (by kernel_rfl)
    · rw [if_neg (fun h => c1 h.1)]
      have ih := ih0 w hw
      generalize p.getD m.length 0 = q at *
      generalize spAt l x = sx at *
      let t0 : Tp pr := .b (show (decide ((↑m.length : Int) < (↑l.length : Int))) = true by (simp; omega))
      let t1 : Tp pr := .g .row (show (lkp (List.map Span.ce l) (↑m.length : Int)) = some (s.ce) from hg)
      let t4 : Tp pr := .m (show (decide ((0 : Int) ≤ (↑m.length : Int) ∧ (↑m.length : Int).toNat < l.length)) = true by simp [*])
      let t5 : Tp pr := .c (show ((0 : Nat) + (↑m.length : Int).toNat : Nat) = m.length by omega)
      let t7 : Tp pr := .m (show (decide ((ints p).length = l.length)) = true by simp [*])
      let t8 : Tp pr := .g .crow (show ((ints p)[m.length]?) = some ([C.t (T.int IntKind.i64 q)]) from hgp)
      let t12 : Tp pr := .b (show (decide (q ≥ (0 : Int))) = false by (simp; omega))
      let t33 : Tp pr := .i (wrap_i64 (a := (↑m.length : Int) + (1 : Int)) (by omega) (by omega))
      exact .tp [t0, t1, .m (rfl : true = true), .m (rfl : true = true), t4, t5, .m (rfl : true = true), t7, t8, .m (rfl : true = true), .m (rfl : true = true), .m (rfl : true = true), t12, .m (rfl : true = true), .m (rfl : true = true), .m (rfl : true = true), .m (rfl : true = true), .m (rfl : true = true), .m (rfl : true = true), .m (rfl : true = true), .m (rfl : true = true), .m (rfl : true = true), .b (rfl : false = false), .m (rfl : true = true), .m (rfl : true = true), .m (rfl : true = true), .m (rfl : true = true), .m (rfl : true = true), .m (rfl : true = true), .m (rfl : true = true), .m (rfl : true = true), .m (rfl : true = true), .b (rfl : false = false), t33, .a (ih0 (w) (by assumption))] (by kernel_rfl)
theorem spillIL_ev (l : List Span) (most : Int) (hl : l.length ≤ 30) (O : List Int) (hO : O.length ≤ 30) (hb : ∀ x ∈ O, 0 ≤ x ∧ x < l.length) : ∀ (rest m : List Int) (p : List Int), O = m ++ rest → p.length = l.length →
    Ev pr (.loop (lq pr 10 0) (at_ [(0, spq l), (1, i64 most), (7, .vec 0 l.length 1 0 l.length), (29, isq O), (30, i64 O.length), (31, i64 m.length)] [.vec true 1 (ints p)] 0))
      (.exit 0 (at_ [(7, .vec 0 l.length 1 0 l.length)] [.vec true 1 (ints (spillGo l most rest p))] 0))
  | [], m, p, he, hp => by
    have hll : (O.length : Int) = m.length := by simp [he]
    rw [show spillGo l most [] p = p from rfl]
    let t0 : Tp pr := .b (show (decide ((↑m.length : Int) < (↑O.length : Int))) = false by (simp; omega))
    exact .tp [t0] (by kernel_rfl)
  | x :: rest, m, p, he, hp => by
    have hll : (O.length : Int) = m.length + 1 + rest.length := by simp [he]; omega
    have hg : lkp (O.map intt) (m.length : Int) = some [T.int .i64 x] := by subst he; simp [intt]
    have hx := hb x (by simp [he])
    have hg2 := spAt_lkp (l := l) (k := x) hx.1 hx.2
    have g := least_ev l p (by omega) hp (spAt l x).from_
    have ht : List.take l.length (p.map intt) = p.map intt := List.take_of_length_le (by simp [hp])
    have ih := spillIL_ev l most hl O hO hb rest (m ++ [x]) (spill1 l most p x) (by simp [he]) (by rw [spill1_len, hp])
    have W := worstIL_ev l most hl O p m.length x hp hx l [] x rfl hx
    have hw0 := worstN_ok l p x
    have hgx := ints_getD p x.toNat (by omega)
    rw [show spillGo l most (x :: rest) p = spillGo l most rest (spill1 l most p x) from rfl]
    rw [show worstGo l p (spAt l x).from_ l ([] : List Span).length x = worstN l p x from rfl] at W
    generalize spillGo l most rest (spill1 l most p x) = Z at *
    unfold spill1 at ih
    generalize leastN l p (spAt l x).from_ = n at *
    generalize worstN l p x = w at *
    by_cases c : n < most
    · rw [if_pos c] at ih
      generalize p.getD x.toNat 0 = q at *
      generalize spAt l x = sx at *
      let t0 : Tp pr := .b (show (decide ((↑m.length : Int) < (↑O.length : Int))) = true by (simp; omega))
      let t1 : Tp pr := .g .row (show (lkp (List.map intt O) (↑m.length : Int)) = some ([T.int IntKind.i64 x]) from hg)
      let t2 : Tp pr := .g .row (show (lkp (List.map Span.ce l) x) = some (sx.ce) from hg2)
      let t3 : Tp pr := .m (show (decide ((ints p).length = l.length ∧ (0 : Nat) + l.length ≤ l.length)) = true by simp [*])
      let t4 : Tp pr := .n .rows (show (List.map (fun x => List.map C.fz x) (List.take l.length (List.drop (0 : Nat) (ints p)))) = List.take l.length (List.map intt p) by simp)
      let t5 : Tp pr := .a (Ev.castq (congrArg (fun x => Q.call (54 : FuncId) [V.t (T.seq (2 : Nat) (List.map Span.ce l)), V.t (T.seq (1 : Nat) x), V.t (T.int IntKind.i64 sx.from_)] []) (show (List.map intt p) = (List.take l.length (List.map intt p)) by simp [*])) (g))
      let t7 : Tp pr := .b (show (decide (n < most)) = true by (simp; omega))
      let t8 : Tp pr := .m (show (decide ((0 : Int) ≤ x ∧ x.toNat < l.length)) = true by simp [*])
      let t9 : Tp pr := .c (show ((0 : Nat) + x.toNat : Nat) = x.toNat by omega)
      let t10 : Tp pr := .m (show (decide ((ints p).length = l.length)) = true by simp [*])
      let t11 : Tp pr := .g .crow (show ((ints p)[x.toNat]?) = some ([C.t (T.int IntKind.i64 q)]) from hgx)
      let t12 : Tp pr := .n .crows (show ((ints p).set x.toNat [C.t (T.int IntKind.i64 n)]) = ints (p.set x.toNat n) by simp)
      let t13 : Tp pr := .i (wrap_i64 (a := (↑m.length : Int) + (1 : Int)) (by omega) (by omega))
      let t14 : Tp pr := .a (Ev.castq (congrArg (fun x_1 => Q.loop (lq pr (10 : FuncId) (0 : Nat)) (at_ [((0 : Nat), spq l), ((1 : Nat), i64 most), ((7 : Nat), V.vec (0 : Nat) l.length (1 : Nat) (0 : Nat) l.length), ((29 : Nat), isq O), ((30 : Nat), i64 (↑O.length : Int)), ((31 : Nat), i64 x_1)] [Ob.vec true (1 : Nat) (ints (p.set x.toNat n))] (0 : Nat))) (show ((↑(m ++ [x]).length : Int)) = ((↑m.length : Int) + (1 : Int)) by simp)) (ih))
      exact .tp [t0, t1, t2, t3, t4, t5, .m (rfl : true = true), t7, t8, t9, t10, t11, t12, t13, t14] (by kernel_rfl)
    · rw [if_neg c] at ih
      by_cases cw : w = x
      · rw [if_pos cw] at ih
        subst cw
        generalize spAt l w = sx at *
        let t0 : Tp pr := .b (show (decide ((↑m.length : Int) < (↑O.length : Int))) = true by (simp; omega))
        let t1 : Tp pr := .g .row (show (lkp (List.map intt O) (↑m.length : Int)) = some ([T.int IntKind.i64 w]) from hg)
        let t2 : Tp pr := .g .row (show (lkp (List.map Span.ce l) w) = some (sx.ce) from hg2)
        let t3 : Tp pr := .m (show (decide ((ints p).length = l.length ∧ (0 : Nat) + l.length ≤ l.length)) = true by simp [*])
        let t4 : Tp pr := .n .rows (show (List.map (fun x => List.map C.fz x) (List.take l.length (List.drop (0 : Nat) (ints p)))) = List.take l.length (List.map intt p) by simp)
        let t5 : Tp pr := .a (Ev.castq (congrArg (fun x => Q.call (54 : FuncId) [V.t (T.seq (2 : Nat) (List.map Span.ce l)), V.t (T.seq (1 : Nat) x), V.t (T.int IntKind.i64 sx.from_)] []) (show (List.map intt p) = (List.take l.length (List.map intt p)) by simp [*])) (g))
        let t7 : Tp pr := .b (show (decide (n < most)) = false by (simp; omega))
        let t8 : Tp pr := .i (show ((↑(List.map Span.ce l).length : Int) : Int) = (↑l.length : Int) by simp)
        let t11 : Tp pr := .i (wrap_i64 (a := (↑m.length : Int) + (1 : Int)) (by omega) (by omega))
        let t12 : Tp pr := .a (Ev.castq (congrArg (fun x => Q.loop (lq pr (10 : FuncId) (0 : Nat)) (at_ [((0 : Nat), spq l), ((1 : Nat), i64 most), ((7 : Nat), V.vec (0 : Nat) l.length (1 : Nat) (0 : Nat) l.length), ((29 : Nat), isq O), ((30 : Nat), i64 (↑O.length : Int)), ((31 : Nat), i64 x)] [Ob.vec true (1 : Nat) (ints p)] (0 : Nat))) (show ((↑(m ++ [w]).length : Int)) = ((↑m.length : Int) + (1 : Int)) by simp)) (ih))
        exact .tp [t0, t1, t2, t3, t4, t5, .m (rfl : true = true), t7, t8, .a (W), .b (show (w != w) = false by simp), t11, t12] (by kernel_rfl)
      · rw [if_neg cw] at ih
        rcases hw0 with hw0 | ⟨w0, w1, w2⟩
        · exact absurd hw0 cw
        have hgw := ints_getD p w.toNat (by omega)
        generalize p.getD w.toNat 0 = qw at *
        have hgw2 := ints_getD (p.set x.toNat qw) w.toNat (by rw [List.length_set]; omega)
        generalize (p.set x.toNat qw).getD w.toNat 0 = qw2 at *
        generalize p.getD x.toNat 0 = q at *
        generalize spAt l x = sx at *
        let t0 : Tp pr := .b (show (decide ((↑m.length : Int) < (↑O.length : Int))) = true by (simp; omega))
        let t1 : Tp pr := .g .row (show (lkp (List.map intt O) (↑m.length : Int)) = some ([T.int IntKind.i64 x]) from hg)
        let t2 : Tp pr := .g .row (show (lkp (List.map Span.ce l) x) = some (sx.ce) from hg2)
        let t3 : Tp pr := .m (show (decide ((ints p).length = l.length ∧ (0 : Nat) + l.length ≤ l.length)) = true by simp [*])
        let t4 : Tp pr := .n .rows (show (List.map (fun x => List.map C.fz x) (List.take l.length (List.drop (0 : Nat) (ints p)))) = List.take l.length (List.map intt p) by simp)
        let t5 : Tp pr := .a (Ev.castq (congrArg (fun x => Q.call (54 : FuncId) [V.t (T.seq (2 : Nat) (List.map Span.ce l)), V.t (T.seq (1 : Nat) x), V.t (T.int IntKind.i64 sx.from_)] []) (show (List.map intt p) = (List.take l.length (List.map intt p)) by simp [*])) (g))
        let t7 : Tp pr := .b (show (decide (n < most)) = false by (simp; omega))
        let t8 : Tp pr := .i (show ((↑(List.map Span.ce l).length : Int) : Int) = (↑l.length : Int) by simp)
        let t10 : Tp pr := .b (show (w != x) = true by (simp; omega))
        let t11 : Tp pr := .m (show (decide ((0 : Int) ≤ w ∧ w.toNat < l.length)) = true by simp [*])
        let t12 : Tp pr := .c (show ((0 : Nat) + w.toNat : Nat) = w.toNat by omega)
        let t13 : Tp pr := .m (show (decide ((ints p).length = l.length)) = true by simp [*])
        let t14 : Tp pr := .g .crow (show ((ints p)[w.toNat]?) = some ([C.t (T.int IntKind.i64 qw)]) from hgw)
        let t15 : Tp pr := .m (show (decide ((0 : Int) ≤ x ∧ x.toNat < l.length)) = true by simp [*])
        let t16 : Tp pr := .c (show ((0 : Nat) + x.toNat : Nat) = x.toNat by omega)
        let t17 : Tp pr := .m (show (decide ((ints p).length = l.length)) = true by simp [*])
        let t18 : Tp pr := .g .crow (show ((ints p)[x.toNat]?) = some ([C.t (T.int IntKind.i64 q)]) from hgx)
        let t19 : Tp pr := .n .crows (show ((ints p).set x.toNat [C.t (T.int IntKind.i64 qw)]) = ints (p.set x.toNat qw) by simp)
        let t20 : Tp pr := .m (show (decide ((0 : Int) ≤ w ∧ w.toNat < l.length)) = true by simp [*])
        let t21 : Tp pr := .c (show ((0 : Nat) + w.toNat : Nat) = w.toNat by omega)
        let t22 : Tp pr := .m (show (decide ((ints (p.set x.toNat qw)).length = l.length)) = true by simp [*])
        let t23 : Tp pr := .g .crow (show ((ints (p.set x.toNat qw))[w.toNat]?) = some ([C.t (T.int IntKind.i64 qw2)]) from hgw2)
        let t24 : Tp pr := .n .crows (show ((ints (p.set x.toNat qw)).set w.toNat [C.t (T.int IntKind.i64 (-1 : Int))]) = ints ((p.set x.toNat qw).set w.toNat (-1 : Int)) by simp)
        let t25 : Tp pr := .i (wrap_i64 (a := (↑m.length : Int) + (1 : Int)) (by omega) (by omega))
        let t26 : Tp pr := .a (Ev.castq (congrArg (fun x_1 => Q.loop (lq pr (10 : FuncId) (0 : Nat)) (at_ [((0 : Nat), spq l), ((1 : Nat), i64 most), ((7 : Nat), V.vec (0 : Nat) l.length (1 : Nat) (0 : Nat) l.length), ((29 : Nat), isq O), ((30 : Nat), i64 (↑O.length : Int)), ((31 : Nat), i64 x_1)] [Ob.vec true (1 : Nat) (ints ((p.set x.toNat qw).set w.toNat (-1 : Int)))] (0 : Nat))) (show ((↑(m ++ [x]).length : Int)) = ((↑m.length : Int) + (1 : Int)) by simp)) (ih))
        exact .tp [t0, t1, t2, t3, t4, t5, .m (rfl : true = true), t7, t8, .a (W), t10, t11, t12, t13, t14, t15, t16, t17, t18, t19, t20, t21, t22, t23, t24, t25, t26] (by kernel_rfl)
end Go.Ev

/- Spans: what is left out, by the reference. -/
namespace Go.Ev
set_option linter.unusedVariables false
set_option linter.unusedSimpArgs false
open Go.Proofs
set_option maxRecDepth 100000
set_option linter.unusedVariables false
set_option linter.unusedSimpArgs false
set_option maxHeartbeats 2000000
theorem worstSL_ev (l : List Span) (most : Int) (hl : l.length ≤ 30) (O p g : List Int) (mm x : Int) (hp : p.length = l.length) (hx : 0 ≤ x ∧ x < l.length) : ∀ (rest m : List Span) (w : Int), l = m ++ rest → 0 ≤ w ∧ w < l.length →
    Ev pr (.loop (lq pr 11 1) (at_ [(0, spq l), (1, i64 most), (7, .vec 0 l.length 1 0 l.length), (8, .t (goneT g)), (10, i64 x), (12, i64 w), (27, isq O), (28, i64 O.length), (29, i64 mm), (49, spq l), (50, i64 l.length), (51, i64 m.length)] [.vec true 1 (ints p)] 0))
      (.exit 2 (at_ [(0, spq l), (1, i64 most), (7, .vec 0 l.length 1 0 l.length), (8, .t (goneT g)), (10, i64 x), (12, i64 (worstGo l p (spAt l x).from_ rest m.length w)), (27, isq O), (28, i64 O.length), (29, i64 mm)] [.vec true 1 (ints p)] 0))
  | [], m, w, he, hw => by
    have hll : (l.length : Int) = m.length := by simp [he]
    rw [worstGo]
    let t0 : Tp pr := .b (show (decide ((↑m.length : Int) < (↑l.length : Int))) = false by (simp; omega))
    exact .tp [t0] (by kernel_rfl)
  | s :: rest, m, w, he, hw => by
    have hll : (l.length : Int) = m.length + 1 + rest.length := by simp [he]; omega
    have hll2 : l.length = m.length + 1 + rest.length := by omega
    have hg : lkp (l.map Span.ce) (m.length : Int) = some s.ce := by subst he; simp
    have hgp := ints_getD p m.length (by omega)
    have hgx := spAt_lkp (l := l) (k := x) hx.1 hx.2
    have hgw := spAt_lkp (l := l) (k := w) hw.1 hw.2
    have ih0 := fun w hw => worstSL_ev l most hl O p g mm x hp hx rest (m ++ [s]) w (by simp [he]) hw
    rw [show (m ++ [s]).length = m.length + 1 by simp] at ih0
    rw [worstGo]
    generalize goneT g = gt at *
    by_cases c1 : 0 ≤ p.getD m.length 0
    · by_cases c2 : s.from_ ≤ (spAt l x).from_
      · by_cases c4 : (spAt l x).from_ < s.to_
        · by_cases c3 : s.to_ > (spAt l w).to_
          · rw [if_pos ⟨c1, by simp [heldS, c2, c4], c3⟩]
            have ih := ih0 m.length (by omega)
            generalize p.getD m.length 0 = q at *
            generalize spAt l x = sx at *
            generalize spAt l w = sw at *
            let t0 : Tp pr := .b (show (decide ((↑m.length : Int) < (↑l.length : Int))) = true by (simp; omega))
            let t1 : Tp pr := .g .row (show (lkp (List.map Span.ce l) (↑m.length : Int)) = some (s.ce) from hg)
            let t4 : Tp pr := .m (show (decide ((0 : Int) ≤ (↑m.length : Int) ∧ (↑m.length : Int).toNat < l.length)) = true by simp [*])
            let t5 : Tp pr := .c (show ((0 : Nat) + (↑m.length : Int).toNat : Nat) = m.length by omega)
            let t7 : Tp pr := .m (show (decide ((ints p).length = l.length)) = true by simp [*])
            let t8 : Tp pr := .g .crow (show ((ints p)[m.length]?) = some ([C.t (T.int IntKind.i64 q)]) from hgp)
            let t12 : Tp pr := .b (show (decide (q ≥ (0 : Int))) = true by (simp; omega))
            let t17 : Tp pr := .g .row (show (lkp (List.map Span.ce l) x) = some (sx.ce) from hgx)
            let t24 : Tp pr := .b (show (decide (s.from_ ≤ sx.from_)) = true by (simp; omega))
            let t27 : Tp pr := .g .row (show (lkp (List.map Span.ce l) x) = some (sx.ce) from hgx)
            let t36 : Tp pr := .b (show (decide (sx.from_ < s.to_)) = true by (simp; omega))
            let t41 : Tp pr := .g .row (show (lkp (List.map Span.ce l) w) = some (sw.ce) from hgw)
            let t47 : Tp pr := .b (show (decide (s.to_ > sw.to_)) = true by (simp; omega))
            let t48 : Tp pr := .i (wrap_i64 (a := (↑m.length : Int) + (1 : Int)) (by omega) (by omega))
            exact .tp [t0, t1, .m (rfl : true = true), .m (rfl : true = true), t4, t5, .m (rfl : true = true), t7, t8, .m (rfl : true = true), .m (rfl : true = true), .m (rfl : true = true), t12, .m (rfl : true = true), .m (rfl : true = true), .m (rfl : true = true), .m (rfl : true = true), t17, .m (rfl : true = true), .m (rfl : true = true), .m (rfl : true = true), .m (rfl : true = true), .m (rfl : true = true), .m (rfl : true = true), t24, .m (rfl : true = true), .m (rfl : true = true), t27, .m (rfl : true = true), .m (rfl : true = true), .m (rfl : true = true), .m (rfl : true = true), .m (rfl : true = true), .m (rfl : true = true), .m (rfl : true = true), .m (rfl : true = true), t36, .m (rfl : true = true), .m (rfl : true = true), .m (rfl : true = true), .m (rfl : true = true), t41, .m (rfl : true = true), .m (rfl : true = true), .m (rfl : true = true), .m (rfl : true = true), .m (rfl : true = true), t47, t48, .a (ih0 ((↑m.length : Int)) (by omega))] (by kernel_rfl)
          · rw [if_neg (fun h => c3 h.2.2)]
            have ih := ih0 w hw
            generalize p.getD m.length 0 = q at *
            generalize spAt l x = sx at *
            generalize spAt l w = sw at *
            let t0 : Tp pr := .b (show (decide ((↑m.length : Int) < (↑l.length : Int))) = true by (simp; omega))
            let t1 : Tp pr := .g .row (show (lkp (List.map Span.ce l) (↑m.length : Int)) = some (s.ce) from hg)
            let t4 : Tp pr := .m (show (decide ((0 : Int) ≤ (↑m.length : Int) ∧ (↑m.length : Int).toNat < l.length)) = true by simp [*])
            let t5 : Tp pr := .c (show ((0 : Nat) + (↑m.length : Int).toNat : Nat) = m.length by omega)
            let t7 : Tp pr := .m (show (decide ((ints p).length = l.length)) = true by simp [*])
            let t8 : Tp pr := .g .crow (show ((ints p)[m.length]?) = some ([C.t (T.int IntKind.i64 q)]) from hgp)
            let t12 : Tp pr := .b (show (decide (q ≥ (0 : Int))) = true by (simp; omega))
            let t17 : Tp pr := .g .row (show (lkp (List.map Span.ce l) x) = some (sx.ce) from hgx)
            let t24 : Tp pr := .b (show (decide (s.from_ ≤ sx.from_)) = true by (simp; omega))
            let t27 : Tp pr := .g .row (show (lkp (List.map Span.ce l) x) = some (sx.ce) from hgx)
            let t36 : Tp pr := .b (show (decide (sx.from_ < s.to_)) = true by (simp; omega))
            let t41 : Tp pr := .g .row (show (lkp (List.map Span.ce l) w) = some (sw.ce) from hgw)
            let t47 : Tp pr := .b (show (decide (s.to_ > sw.to_)) = false by (simp; omega))
            let t48 : Tp pr := .i (wrap_i64 (a := (↑m.length : Int) + (1 : Int)) (by omega) (by omega))
            exact .tp [t0, t1, .m (rfl : true = true), .m (rfl : true = true), t4, t5, .m (rfl : true = true), t7, t8, .m (rfl : true = true), .m (rfl : true = true), .m (rfl : true = true), t12, .m (rfl : true = true), .m (rfl : true = true), .m (rfl : true = true), .m (rfl : true = true), t17, .m (rfl : true = true), .m (rfl : true = true), .m (rfl : true = true), .m (rfl : true = true), .m (rfl : true = true), .m (rfl : true = true), t24, .m (rfl : true = true), .m (rfl : true = true), t27, .m (rfl : true = true), .m (rfl : true = true), .m (rfl : true = true), .m (rfl : true = true), .m (rfl : true = true), .m (rfl : true = true), .m (rfl : true = true), .m (rfl : true = true), t36, .m (rfl : true = true), .m (rfl : true = true), .m (rfl : true = true), .m (rfl : true = true), t41, .m (rfl : true = true), .m (rfl : true = true), .m (rfl : true = true), .m (rfl : true = true), .m (rfl : true = true), t47, t48, .a (ih0 (w) (by assumption))] (by kernel_rfl)
        · rw [if_neg (by simp [heldS, c4])]
          have ih := ih0 w hw
          generalize p.getD m.length 0 = q at *
          generalize spAt l x = sx at *
          generalize spAt l w = sw at *
          let t0 : Tp pr := .b (show (decide ((↑m.length : Int) < (↑l.length : Int))) = true by (simp; omega))
          let t1 : Tp pr := .g .row (show (lkp (List.map Span.ce l) (↑m.length : Int)) = some (s.ce) from hg)
          let t4 : Tp pr := .m (show (decide ((0 : Int) ≤ (↑m.length : Int) ∧ (↑m.length : Int).toNat < l.length)) = true by simp [*])
          let t5 : Tp pr := .c (show ((0 : Nat) + (↑m.length : Int).toNat : Nat) = m.length by omega)
          let t7 : Tp pr := .m (show (decide ((ints p).length = l.length)) = true by simp [*])
          let t8 : Tp pr := .g .crow (show ((ints p)[m.length]?) = some ([C.t (T.int IntKind.i64 q)]) from hgp)
          let t12 : Tp pr := .b (show (decide (q ≥ (0 : Int))) = true by (simp; omega))
          let t17 : Tp pr := .g .row (show (lkp (List.map Span.ce l) x) = some (sx.ce) from hgx)
          let t24 : Tp pr := .b (show (decide (s.from_ ≤ sx.from_)) = true by (simp; omega))
          let t27 : Tp pr := .g .row (show (lkp (List.map Span.ce l) x) = some (sx.ce) from hgx)
          let t36 : Tp pr := .b (show (decide (sx.from_ < s.to_)) = false by (simp; omega))
          let t47 : Tp pr := .i (wrap_i64 (a := (↑m.length : Int) + (1 : Int)) (by omega) (by omega))
          exact .tp [t0, t1, .m (rfl : true = true), .m (rfl : true = true), t4, t5, .m (rfl : true = true), t7, t8, .m (rfl : true = true), .m (rfl : true = true), .m (rfl : true = true), t12, .m (rfl : true = true), .m (rfl : true = true), .m (rfl : true = true), .m (rfl : true = true), t17, .m (rfl : true = true), .m (rfl : true = true), .m (rfl : true = true), .m (rfl : true = true), .m (rfl : true = true), .m (rfl : true = true), t24, .m (rfl : true = true), .m (rfl : true = true), t27, .m (rfl : true = true), .m (rfl : true = true), .m (rfl : true = true), .m (rfl : true = true), .m (rfl : true = true), .m (rfl : true = true), .m (rfl : true = true), .m (rfl : true = true), t36, .m (rfl : true = true), .m (rfl : true = true), .m (rfl : true = true), .m (rfl : true = true), .m (rfl : true = true), .m (rfl : true = true), .m (rfl : true = true), .m (rfl : true = true), .m (rfl : true = true), .b (rfl : false = false), t47, .a (ih0 (w) (by assumption))] (by kernel_rfl)
      · rw [if_neg (by simp [heldS, c2])]
        have ih := ih0 w hw
        generalize p.getD m.length 0 = q at *
        generalize spAt l x = sx at *
        generalize spAt l w = sw at *
        let t0 : Tp pr := .b (show (decide ((↑m.length : Int) < (↑l.length : Int))) = true by (simp; omega))
        let t1 : Tp pr := .g .row (show (lkp (List.map Span.ce l) (↑m.length : Int)) = some (s.ce) from hg)
        let t4 : Tp pr := .m (show (decide ((0 : Int) ≤ (↑m.length : Int) ∧ (↑m.length : Int).toNat < l.length)) = true by simp [*])
        let t5 : Tp pr := .c (show ((0 : Nat) + (↑m.length : Int).toNat : Nat) = m.length by omega)
        let t7 : Tp pr := .m (show (decide ((ints p).length = l.length)) = true by simp [*])
        let t8 : Tp pr := .g .crow (show ((ints p)[m.length]?) = some ([C.t (T.int IntKind.i64 q)]) from hgp)
        let t12 : Tp pr := .b (show (decide (q ≥ (0 : Int))) = true by (simp; omega))
        let t17 : Tp pr := .g .row (show (lkp (List.map Span.ce l) x) = some (sx.ce) from hgx)
        let t24 : Tp pr := .b (show (decide (s.from_ ≤ sx.from_)) = false by (simp; omega))
        let t46 : Tp pr := .i (wrap_i64 (a := (↑m.length : Int) + (1 : Int)) (by omega) (by omega))
        exact .tp [t0, t1, .m (rfl : true = true), .m (rfl : true = true), t4, t5, .m (rfl : true = true), t7, t8, .m (rfl : true = true), .m (rfl : true = true), .m (rfl : true = true), t12, .m (rfl : true = true), .m (rfl : true = true), .m (rfl : true = true), .m (rfl : true = true), t17, .m (rfl : true = true), .m (rfl : true = true), .m (rfl : true = true), .m (rfl : true = true), .m (rfl : true = true), .m (rfl : true = true), t24, .m (rfl : true = true), .m (rfl : true = true), .m (rfl : true = true), .m (rfl : true = true), .m (rfl : true = true), .m (rfl : true = true), .m (rfl : true = true), .m (rfl : true = true), .m (rfl : true = true), .m (rfl : true = true), .b (rfl : false = false), .m (rfl : true = true), .m (rfl : true = true), .m (rfl : true = true), .m (rfl : true = true), .m (rfl : true = true), .m (rfl : true = true), .m (rfl : true = true), .m (rfl : true = true), .m (rfl : true = true), .b (rfl : false = false), t46, .a (ih0 (w) (by assumption))] (by kernel_rfl)
    · rw [if_neg (fun h => c1 h.1)]
      have ih := ih0 w hw
      generalize p.getD m.length 0 = q at *
      generalize spAt l x = sx at *
      let t0 : Tp pr := .b (show (decide ((↑m.length : Int) < (↑l.length : Int))) = true by (simp; omega))
      let t1 : Tp pr := .g .row (show (lkp (List.map Span.ce l) (↑m.length : Int)) = some (s.ce) from hg)
      let t4 : Tp pr := .m (show (decide ((0 : Int) ≤ (↑m.length : Int) ∧ (↑m.length : Int).toNat < l.length)) = true by simp [*])
      let t5 : Tp pr := .c (show ((0 : Nat) + (↑m.length : Int).toNat : Nat) = m.length by omega)
      let t7 : Tp pr := .m (show (decide ((ints p).length = l.length)) = true by simp [*])
      let t8 : Tp pr := .g .crow (show ((ints p)[m.length]?) = some ([C.t (T.int IntKind.i64 q)]) from hgp)
      let t12 : Tp pr := .b (show (decide (q ≥ (0 : Int))) = false by (simp; omega))
      let t45 : Tp pr := .i (wrap_i64 (a := (↑m.length : Int) + (1 : Int)) (by omega) (by omega))
      exact .tp [t0, t1, .m (rfl : true = true), .m (rfl : true = true), t4, t5, .m (rfl : true = true), t7, t8, .m (rfl : true = true), .m (rfl : true = true), .m (rfl : true = true), t12, .m (rfl : true = true), .m (rfl : true = true), .m (rfl : true = true), .m (rfl : true = true), .m (rfl : true = true), .m (rfl : true = true), .m (rfl : true = true), .m (rfl : true = true), .m (rfl : true = true), .m (rfl : true = true), .b (rfl : false = false), .m (rfl : true = true), .m (rfl : true = true), .m (rfl : true = true), .m (rfl : true = true), .m (rfl : true = true), .m (rfl : true = true), .m (rfl : true = true), .m (rfl : true = true), .m (rfl : true = true), .m (rfl : true = true), .b (rfl : false = false), .m (rfl : true = true), .m (rfl : true = true), .m (rfl : true = true), .m (rfl : true = true), .m (rfl : true = true), .m (rfl : true = true), .m (rfl : true = true), .m (rfl : true = true), .m (rfl : true = true), .b (rfl : false = false), t45, .a (ih0 (w) (by assumption))] (by kernel_rfl)
theorem spillSL_ev (l : List Span) (most : Int) (hl : l.length ≤ 30) (O : List Int) (hO : O.length ≤ 30) (hb : ∀ x ∈ O, 0 ≤ x ∧ x < l.length) : ∀ (rest m : List Int) (p gn : List Int), O = m ++ rest → p.length = l.length → gn.length ≤ m.length →
    Ev pr (.loop (lq pr 11 0) (at_ [(0, spq l), (1, i64 most), (7, .vec 0 l.length 1 0 l.length), (8, .t (goneT gn)), (27, isq O), (28, i64 O.length), (29, i64 m.length)] [.vec true 1 (ints p)] 0))
      (.exit 0 (at_ [(7, .vec 0 l.length 1 0 l.length), (8, .t (goneT (spill2 l most rest p gn).2))] [.vec true 1 (ints (spill2 l most rest p gn).1)] 0))
  | [], m, p, gn, he, hp, hgn => by
    have hll : (O.length : Int) = m.length := by simp [he]
    rw [show spill2 l most [] p gn = (p, gn) from rfl]
    generalize goneT gn = gt at *
    let t0 : Tp pr := .b (show (decide ((↑m.length : Int) < (↑O.length : Int))) = false by (simp; omega))
    exact .tp [t0] (by kernel_rfl)
  | x :: rest, m, p, gn, he, hp, hgn => by
    have hll : (O.length : Int) = m.length + 1 + rest.length := by simp [he]; omega
    have hg : lkp (O.map intt) (m.length : Int) = some [T.int .i64 x] := by subst he; simp [intt]
    have hx := hb x (by simp [he])
    have hg2 := spAt_lkp (l := l) (k := x) hx.1 hx.2
    have g := leastS_ev l p (by omega) hp (spAt l x).from_
    have ht : List.take l.length (p.map intt) = p.map intt := List.take_of_length_le (by simp [hp])
    have hgl := insL_len gn (worstN l p x)
    have ih := spillSL_ev l most hl O hO hb rest (m ++ [x]) (spill1 l most p x) (goneAfter l most p gn x) (by simp [he]) (by rw [spill1_len, hp]) (by unfold goneAfter; split <;> simp <;> omega)
    have W := worstSL_ev l most hl O p gn m.length x hp hx l [] x rfl hx
    have hw0 := worstN_ok l p x
    have hgx := ints_getD p x.toNat (by omega)
    rw [show spill2 l most (x :: rest) p gn = spill2 l most rest (spill1 l most p x) (goneAfter l most p gn x) from rfl]
    rw [show worstGo l p (spAt l x).from_ l ([] : List Span).length x = worstN l p x from rfl] at W
    have hml : m.length ≤ 30 := by omega
    have P := putT_ev gn (worstN l p x) (by omega)
    generalize spill2 l most rest (spill1 l most p x) (goneAfter l most p gn x) = Z at *
    unfold spill1 goneAfter at ih
    generalize leastN l p (spAt l x).from_ = n at *
    generalize worstN l p x = w at *
    generalize goneT Z.2 = Zt at *
    by_cases c : n < most
    · rw [if_pos c, if_pos c] at ih
      generalize goneT gn = gt at *
      generalize p.getD x.toNat 0 = q at *
      generalize spAt l x = sx at *
      let t0 : Tp pr := .b (show (decide ((↑m.length : Int) < (↑O.length : Int))) = true by (simp; omega))
      let t1 : Tp pr := .g .row (show (lkp (List.map intt O) (↑m.length : Int)) = some ([T.int IntKind.i64 x]) from hg)
      let t2 : Tp pr := .g .row (show (lkp (List.map Span.ce l) x) = some (sx.ce) from hg2)
      let t3 : Tp pr := .m (show (decide ((ints p).length = l.length ∧ (0 : Nat) + l.length ≤ l.length)) = true by simp [*])
      let t4 : Tp pr := .n .rows (show (List.map (fun x => List.map C.fz x) (List.take l.length (List.drop (0 : Nat) (ints p)))) = List.take l.length (List.map intt p) by simp)
      let t5 : Tp pr := .a (Ev.castq (congrArg (fun x => Q.call (60 : FuncId) [V.t (T.seq (2 : Nat) (List.map Span.ce l)), V.t (T.seq (1 : Nat) x), V.t (T.int IntKind.i64 sx.from_)] []) (show (List.map intt p) = (List.take l.length (List.map intt p)) by simp [*])) (g))
      let t7 : Tp pr := .b (show (decide (n < most)) = true by (simp; omega))
      let t8 : Tp pr := .m (show (decide ((0 : Int) ≤ x ∧ x.toNat < l.length)) = true by simp [*])
      let t9 : Tp pr := .c (show ((0 : Nat) + x.toNat : Nat) = x.toNat by omega)
      let t10 : Tp pr := .m (show (decide ((ints p).length = l.length)) = true by simp [*])
      let t11 : Tp pr := .g .crow (show ((ints p)[x.toNat]?) = some ([C.t (T.int IntKind.i64 q)]) from hgx)
      let t12 : Tp pr := .n .crows (show ((ints p).set x.toNat [C.t (T.int IntKind.i64 n)]) = ints (p.set x.toNat n) by simp)
      let t13 : Tp pr := .i (wrap_i64 (a := (↑m.length : Int) + (1 : Int)) (by omega) (by omega))
      let t14 : Tp pr := .a (Ev.castq (congrArg (fun x_1 => Q.loop (lq pr (11 : FuncId) (0 : Nat)) (at_ [((0 : Nat), spq l), ((1 : Nat), i64 most), ((7 : Nat), V.vec (0 : Nat) l.length (1 : Nat) (0 : Nat) l.length), ((8 : Nat), V.t gt), ((27 : Nat), isq O), ((28 : Nat), i64 (↑O.length : Int)), ((29 : Nat), i64 x_1)] [Ob.vec true (1 : Nat) (ints (p.set x.toNat n))] (0 : Nat))) (show ((↑(m ++ [x]).length : Int)) = ((↑m.length : Int) + (1 : Int)) by simp)) (ih))
      exact .tp [t0, t1, t2, t3, t4, t5, .m (rfl : true = true), t7, t8, t9, t10, t11, t12, t13, t14] (by kernel_rfl)
    · rw [if_neg c, if_neg c] at ih
      generalize goneT (insL gn w) = gt2 at *
      generalize goneT gn = gt at *
      by_cases cw : w = x
      · rw [if_pos cw] at ih
        subst cw
        generalize spAt l w = sx at *
        let t0 : Tp pr := .b (show (decide ((↑m.length : Int) < (↑O.length : Int))) = true by (simp; omega))
        let t1 : Tp pr := .g .row (show (lkp (List.map intt O) (↑m.length : Int)) = some ([T.int IntKind.i64 w]) from hg)
        let t2 : Tp pr := .g .row (show (lkp (List.map Span.ce l) w) = some (sx.ce) from hg2)
        let t3 : Tp pr := .m (show (decide ((ints p).length = l.length ∧ (0 : Nat) + l.length ≤ l.length)) = true by simp [*])
        let t4 : Tp pr := .n .rows (show (List.map (fun x => List.map C.fz x) (List.take l.length (List.drop (0 : Nat) (ints p)))) = List.take l.length (List.map intt p) by simp)
        let t5 : Tp pr := .a (Ev.castq (congrArg (fun x => Q.call (60 : FuncId) [V.t (T.seq (2 : Nat) (List.map Span.ce l)), V.t (T.seq (1 : Nat) x), V.t (T.int IntKind.i64 sx.from_)] []) (show (List.map intt p) = (List.take l.length (List.map intt p)) by simp [*])) (g))
        let t7 : Tp pr := .b (show (decide (n < most)) = false by (simp; omega))
        let t8 : Tp pr := .i (show ((↑(List.map Span.ce l).length : Int) : Int) = (↑l.length : Int) by simp)
        let t12 : Tp pr := .i (wrap_i64 (a := (↑m.length : Int) + (1 : Int)) (by omega) (by omega))
        let t13 : Tp pr := .a (Ev.castq (congrArg (fun x => Q.loop (lq pr (11 : FuncId) (0 : Nat)) (at_ [((0 : Nat), spq l), ((1 : Nat), i64 most), ((7 : Nat), V.vec (0 : Nat) l.length (1 : Nat) (0 : Nat) l.length), ((8 : Nat), V.t gt2), ((27 : Nat), isq O), ((28 : Nat), i64 (↑O.length : Int)), ((29 : Nat), i64 x)] [Ob.vec true (1 : Nat) (ints p)] (0 : Nat))) (show ((↑(m ++ [w]).length : Int)) = ((↑m.length : Int) + (1 : Int)) by simp)) (ih))
        exact .tp [t0, t1, t2, t3, t4, t5, .m (rfl : true = true), t7, t8, .a (W), .b (show (w != w) = false by simp), .a (P), t12, t13] (by kernel_rfl)
      · rw [if_neg cw] at ih
        rcases hw0 with hw0 | ⟨w0, w1, w2⟩
        · exact absurd hw0 cw
        have hgw := ints_getD p w.toNat (by omega)
        generalize p.getD w.toNat 0 = qw at *
        have hgw2 := ints_getD (p.set x.toNat qw) w.toNat (by rw [List.length_set]; omega)
        generalize (p.set x.toNat qw).getD w.toNat 0 = qw2 at *
        generalize p.getD x.toNat 0 = q at *
        generalize spAt l x = sx at *
        let t0 : Tp pr := .b (show (decide ((↑m.length : Int) < (↑O.length : Int))) = true by (simp; omega))
        let t1 : Tp pr := .g .row (show (lkp (List.map intt O) (↑m.length : Int)) = some ([T.int IntKind.i64 x]) from hg)
        let t2 : Tp pr := .g .row (show (lkp (List.map Span.ce l) x) = some (sx.ce) from hg2)
        let t3 : Tp pr := .m (show (decide ((ints p).length = l.length ∧ (0 : Nat) + l.length ≤ l.length)) = true by simp [*])
        let t4 : Tp pr := .n .rows (show (List.map (fun x => List.map C.fz x) (List.take l.length (List.drop (0 : Nat) (ints p)))) = List.take l.length (List.map intt p) by simp)
        let t5 : Tp pr := .a (Ev.castq (congrArg (fun x => Q.call (60 : FuncId) [V.t (T.seq (2 : Nat) (List.map Span.ce l)), V.t (T.seq (1 : Nat) x), V.t (T.int IntKind.i64 sx.from_)] []) (show (List.map intt p) = (List.take l.length (List.map intt p)) by simp [*])) (g))
        let t7 : Tp pr := .b (show (decide (n < most)) = false by (simp; omega))
        let t8 : Tp pr := .i (show ((↑(List.map Span.ce l).length : Int) : Int) = (↑l.length : Int) by simp)
        let t10 : Tp pr := .b (show (w != x) = true by (simp; omega))
        let t11 : Tp pr := .m (show (decide ((0 : Int) ≤ w ∧ w.toNat < l.length)) = true by simp [*])
        let t12 : Tp pr := .c (show ((0 : Nat) + w.toNat : Nat) = w.toNat by omega)
        let t13 : Tp pr := .m (show (decide ((ints p).length = l.length)) = true by simp [*])
        let t14 : Tp pr := .g .crow (show ((ints p)[w.toNat]?) = some ([C.t (T.int IntKind.i64 qw)]) from hgw)
        let t15 : Tp pr := .m (show (decide ((0 : Int) ≤ x ∧ x.toNat < l.length)) = true by simp [*])
        let t16 : Tp pr := .c (show ((0 : Nat) + x.toNat : Nat) = x.toNat by omega)
        let t17 : Tp pr := .m (show (decide ((ints p).length = l.length)) = true by simp [*])
        let t18 : Tp pr := .g .crow (show ((ints p)[x.toNat]?) = some ([C.t (T.int IntKind.i64 q)]) from hgx)
        let t19 : Tp pr := .n .crows (show ((ints p).set x.toNat [C.t (T.int IntKind.i64 qw)]) = ints (p.set x.toNat qw) by simp)
        let t20 : Tp pr := .m (show (decide ((0 : Int) ≤ w ∧ w.toNat < l.length)) = true by simp [*])
        let t21 : Tp pr := .c (show ((0 : Nat) + w.toNat : Nat) = w.toNat by omega)
        let t22 : Tp pr := .m (show (decide ((ints (p.set x.toNat qw)).length = l.length)) = true by simp [*])
        let t23 : Tp pr := .g .crow (show ((ints (p.set x.toNat qw))[w.toNat]?) = some ([C.t (T.int IntKind.i64 qw2)]) from hgw2)
        let t24 : Tp pr := .n .crows (show ((ints (p.set x.toNat qw)).set w.toNat [C.t (T.int IntKind.i64 (-1 : Int))]) = ints ((p.set x.toNat qw).set w.toNat (-1 : Int)) by simp)
        let t26 : Tp pr := .i (wrap_i64 (a := (↑m.length : Int) + (1 : Int)) (by omega) (by omega))
        let t27 : Tp pr := .a (Ev.castq (congrArg (fun x_1 => Q.loop (lq pr (11 : FuncId) (0 : Nat)) (at_ [((0 : Nat), spq l), ((1 : Nat), i64 most), ((7 : Nat), V.vec (0 : Nat) l.length (1 : Nat) (0 : Nat) l.length), ((8 : Nat), V.t gt2), ((27 : Nat), isq O), ((28 : Nat), i64 (↑O.length : Int)), ((29 : Nat), i64 x_1)] [Ob.vec true (1 : Nat) (ints ((p.set x.toNat qw).set w.toNat (-1 : Int)))] (0 : Nat))) (show ((↑(m ++ [x]).length : Int)) = ((↑m.length : Int) + (1 : Int)) by simp)) (ih))
        exact .tp [t0, t1, t2, t3, t4, t5, .m (rfl : true = true), t7, t8, .a (W), t10, t11, t12, t13, t14, t15, t16, t17, t18, t19, t20, t21, t22, t23, t24, .a (P), t26, t27] (by kernel_rfl)
end Go.Ev

/- Spans: what is left out, both. -/
namespace Go.Ev
set_option linter.unusedVariables false
set_option linter.unusedSimpArgs false
open Go.Proofs
set_option maxRecDepth 100000
set_option linter.unusedVariables false
set_option linter.unusedSimpArgs false
set_option maxHeartbeats 2000000
attribute [local simp] kt0
def mostOk (most : Int) : Bool := decide (1 ≤ most) && decide (most ≤ 30)
theorem intsZ9 (l : List Int) (z : Int) : ints l ++ [[C.t (.int .i64 z)]] = ints (l ++ [z]) := by simp [ints, intc]
theorem leftL_ev (B : Ob) (p : List Int) (hp : p.length ≤ 1000) : ∀ (rest m out : List Int), p = m ++ rest → out.length ≤ m.length →
    Ev pr (.loop (lq pr 10 2) (at_ [(7, .vec 0 p.length 1 0 p.length), (14, .vec 1 out.length 1 0 out.length), (99, .vec 0 p.length 1 0 p.length), (100, i64 p.length), (101, i64 m.length)] [.vec true 1 (ints p), .vec true 1 (ints out)] 0))
      (.exit 4 (at_ [(7, .vec 0 p.length 1 0 p.length), (14, .vec 1 (out ++ negsG rest m.length).length 1 0 (out ++ negsG rest m.length).length)] [.vec true 1 (ints p), .vec true 1 (ints (out ++ negsG rest m.length))] 0))
  | [], m, out, he, ho => by
    have hll : (p.length : Int) = m.length := by simp [he]
    rw [show negsG [] m.length = [] from rfl, List.append_nil]
    let t0 : Tp pr := .b (show (decide ((↑m.length : Int) < (↑p.length : Int))) = false by (simp; omega))
    exact .tp [t0] (by kernel_rfl)
  | q :: rest, m, out, he, ho => by
    have hll : (p.length : Int) = m.length + 1 + rest.length := by simp [he]; omega
    have hg : (ints p)[m.length]? = some [C.t (.int .i64 q)] := by subst he; simp
    have hml : m.length ≤ 1000 := by omega
    rw [show negsG (q :: rest) m.length = if q < 0 then (m.length : Int) :: negsG rest (m.length + 1) else negsG rest (m.length + 1) from rfl]
    by_cases c : q < 0
    · have ih := leftL_ev B p hp rest (m ++ [q]) (out ++ [(m.length : Int)]) (by simp [he]) (by simp [ho])
      rw [show (m ++ [q]).length = m.length + 1 by simp, ← intsZ9, show (out ++ [(m.length : Int)]).length = out.length + 1 by simp, List.append_assoc, List.singleton_append] at ih
      rw [if_pos c]
      generalize out ++ (m.length : Int) :: negsG rest (m.length + 1) = Z at *
      let t0 : Tp pr := .b (show (decide ((↑m.length : Int) < (↑p.length : Int))) = true by (simp; omega))
      let t1 : Tp pr := .m (show (decide ((0 : Int) ≤ (↑m.length : Int) ∧ (↑m.length : Int).toNat < p.length)) = true by simp [*])
      let t2 : Tp pr := .c (show ((0 : Nat) + (↑m.length : Int).toNat : Nat) = m.length by omega)
      let t3 : Tp pr := .m (show (decide ((ints p).length = p.length)) = true by simp)
      let t4 : Tp pr := .g .crow (show ((ints p)[m.length]?) = some ([C.t (T.int IntKind.i64 q)]) from hg)
      let t5 : Tp pr := .b (show (decide (q < (0 : Int))) = true by (simp; omega))
      let t7 : Tp pr := .m (show (decide ((ints out).length = out.length ∧ (0 : Nat) + out.length ≤ out.length ∧ out.length + (1 : Nat) ≤ (4294967296 : Nat))) = true by (simp; omega))
      let t8 : Tp pr := .b (show (decide (out.length + (1 : Nat) ≤ out.length)) = false by simp)
      let t10 : Tp pr := .n .crows (show ((List.take out.length (ints out)).append (List.take (1 : Nat) (List.drop (0 : Nat) [[C.t (T.int IntKind.i64 (↑m.length : Int))]]))) = ints out ++ [[C.t (T.int IntKind.i64 (↑m.length : Int))]] by simp)
      let t11 : Tp pr := .i (wrap_i64 (a := (↑m.length : Int) + (1 : Int)) (by omega) (by omega))
      exact .tp [t0, t1, t2, t3, t4, t5, .m (rfl : true = true), t7, t8, .c (rfl : (out.length + (1 : Nat)) = _), t10, t11, .a (ih)] (by kernel_rfl)
    · have ih := leftL_ev B p hp rest (m ++ [q]) out (by simp [he]) (by simp; omega)
      rw [show (m ++ [q]).length = m.length + 1 by simp] at ih
      rw [if_neg c]
      generalize out ++ negsG rest (m.length + 1) = Z at *
      let t0 : Tp pr := .b (show (decide ((↑m.length : Int) < (↑p.length : Int))) = true by (simp; omega))
      let t1 : Tp pr := .m (show (decide ((0 : Int) ≤ (↑m.length : Int) ∧ (↑m.length : Int).toNat < p.length)) = true by simp [*])
      let t2 : Tp pr := .c (show ((0 : Nat) + (↑m.length : Int).toNat : Nat) = m.length by omega)
      let t3 : Tp pr := .m (show (decide ((ints p).length = p.length)) = true by simp)
      let t4 : Tp pr := .g .crow (show ((ints p)[m.length]?) = some ([C.t (T.int IntKind.i64 q)]) from hg)
      let t5 : Tp pr := .b (show (decide (q < (0 : Int))) = false by (simp; omega))
      let t6 : Tp pr := .i (wrap_i64 (a := (↑m.length : Int) + (1 : Int)) (by omega) (by omega))
      exact .tp [t0, t1, t2, t3, t4, t5, t6, .a (ih)] (by kernel_rfl)
theorem SpillI0_ev (l : List Span) (most : Int) (hl : l.length ≤ 1048576) (h : goodSp l = true) (hm : mostOk most = true) : Ev pr (.call 10 [spq l, i64 most] [])
    (.val (.tup [.vec 0 (spillS l most).length 1 0 (spillS l most).length, .vec 1 (negsG (spillS l most) 0).length 1 0 (negsG (spillS l most) 0).length, bl true]) [.vec true 1 (ints (spillS l most)), .vec true 1 (ints (negsG (spillS l most) 0))]) := by
  have h30 : l.length ≤ 30 := by simp [goodSp] at h; exact h.1
  have g := GoodSpansI_ev l hl
  rw [h] at g
  simp only [mostOk, Bool.and_eq_true, decide_eq_true_eq] at hm
  have w := within_ev most 1 30
  rw [decide_eq_true (show most ≥ 1 from hm.1), decide_eq_true hm.2] at w
  have a := noP_ev l.length (by omega)
  have b := turn0_ev l h30
  have c := spillIL_ev l most h30 (orderS l) (by rw [orderS_len]; exact h30) (fun x hx => orderS_mem.1 hx) (orderS l) [] (List.replicate l.length (-1)) rfl (by simp)
  rw [show spillGo l most (orderS l) (List.replicate l.length (-1)) = spillS l most from rfl] at c
  have e := spillS_len l most
  generalize spillS l most = Z at *
  have d := leftL_ev (.box []) Z (by omega) Z [] [] rfl (by simp)
  rw [List.nil_append] at d
  rw [e] at d ⊢
  generalize orderS l = O at *
  generalize negsG Z ([] : List Int).length = Y at *
  let t4 : Tp pr := .i (show ((↑(List.map Span.ce l).length : Int) : Int) = (↑l.length : Int) by simp)
  let t7 : Tp pr := .i (show ((↑(List.map intt O).length : Int) : Int) = (↑O.length : Int) by simp)
  exact .tp [.a (g), .b (rfl : false = false), .a (w), .b (rfl : false = false), t4, .a (a), .a (b), t7, .a (c), .i (rfl : ((↑l.length : Int)) = _), .a (d)] (by kernel_rfl)
theorem SpillI1_ev (l : List Span) (most : Int) (hl : l.length ≤ 1048576) (h : goodSp l = false) : Ev pr (.call 10 [spq l, i64 most] []) (.val (.tup [.t .nils, .t .nils, bl false]) []) := by
  have g := GoodSpansI_ev l hl
  rw [h] at g
  exact .tp [.a (g), .b (rfl : true = true), .b (rfl : true = true)] (by kernel_rfl)
theorem SpillI2_ev (l : List Span) (most : Int) (hl : l.length ≤ 1048576) (h : goodSp l = true) (hm : mostOk most = false) : Ev pr (.call 10 [spq l, i64 most] []) (.val (.tup [.t .nils, .t .nils, bl false]) []) := by
  have g := GoodSpansI_ev l hl
  rw [h] at g
  have w := within_ev most 1 30
  rw [show (decide (most ≥ 1) && decide (most ≤ 30)) = false from hm] at w
  exact .tp [.a (g), .b (rfl : false = false), .a (w), .b (rfl : true = true)] (by kernel_rfl)
theorem SpillS0_ev (l : List Span) (most : Int) (hl : l.length ≤ 1048576) (h : goodSp l = true) (hm : mostOk most = true) : Ev pr (.call 11 [spq l, i64 most] []) (.val (.tup [isq (spillS l most), isq (negsG (spillS l most) 0), bl true]) []) := by
  have h30 : l.length ≤ 30 := by simp [goodSp] at h; exact h.1
  have g := GoodSpansS_ev l hl
  rw [h] at g
  have w := l1In_ev most 1 30
  rw [show (decide (1 ≤ most) && decide (most ≤ 30)) = true from hm] at w
  have a := noneS_ev l.length (by omega)
  have b := orderSE_ev l h30
  have c := spillSL_ev l most h30 (orderS l) (by rw [orderS_len]; exact h30) (fun x hx => orderS_mem.1 hx) (orderS l) [] (List.replicate l.length (-1)) [] rfl (by simp) (by simp)
  rw [spill2_gone, spill2_fst, show spillGo l most (orderS l) (List.replicate l.length (-1)) = spillS l most from rfl, show goneT [] = .nils from rfl] at c
  have e := spillS_len l most
  generalize spillS l most = Z at *
  rw [← e] at a
  generalize orderS l = O at *
  have ht : List.take l.length (Z.map intt) = Z.map intt := List.take_of_length_le (by simp [e])
  cases hN : negsG Z 0 with
  | nil =>
    rw [hN, show goneT [] = .nils from rfl] at c
    let t4 : Tp pr := .i (show ((↑(List.map Span.ce l).length : Int) : Int) = (↑l.length : Int) by simp)
    let t5 : Tp pr := .a (Ev.castq (congrArg (fun x => Q.call (58 : FuncId) [i64 x] []) (show ((↑Z.length : Int)) = ((↑l.length : Int)) by omega)) (a))
    let t7 : Tp pr := .i (show ((↑(List.map intt O).length : Int) : Int) = (↑O.length : Int) by simp)
    let t8 : Tp pr := .a (Ev.castq ((congrArg (fun x => Q.loop (lq pr (11 : Nat) (0 : Nat)) (at_ [((0 : Nat), V.t (T.seq (2 : Nat) (List.map Span.ce l))), ((1 : Nat), V.t (T.int IntKind.i64 most)), ((7 : Nat), V.vec (0 : Nat) l.length (1 : Nat) (0 : Nat) l.length), ((8 : Nat), V.t T.nils), ((27 : Nat), V.t (T.seq (1 : Nat) (List.map intt O))), ((28 : Nat), V.t (T.int IntKind.i64 (↑O.length : Int))), ((29 : Nat), V.t (T.int IntKind.i64 (0 : Int)))] [Ob.vec true (1 : Nat) (ints (List.replicate l.length (-1 : Int)))] (0 : Nat))) (show (ints (List.replicate l.length (-1 : Int))) = (ints (List.replicate Z.length (-1 : Int))) by simp [*])).trans (congrArg (fun x => Q.loop (lq pr (11 : Nat) (0 : Nat)) (at_ [((0 : Nat), V.t (T.seq (2 : Nat) (List.map Span.ce l))), ((1 : Nat), V.t (T.int IntKind.i64 most)), ((7 : Nat), V.vec (0 : Nat) x (1 : Nat) (0 : Nat) x), ((8 : Nat), V.t T.nils), ((27 : Nat), V.t (T.seq (1 : Nat) (List.map intt O))), ((28 : Nat), V.t (T.int IntKind.i64 (↑O.length : Int))), ((29 : Nat), V.t (T.int IntKind.i64 (0 : Int)))] [Ob.vec true (1 : Nat) (ints (List.replicate x (-1 : Int)))] (0 : Nat))) (show (l.length) = (Z.length) by omega))) (c))
    let t9 : Tp pr := .m (show (decide ((ints Z).length = l.length ∧ (0 : Nat) + l.length ≤ l.length)) = true by simp [*])
    let t10 : Tp pr := .n .rows (show (List.map (fun x => List.map C.fz x) (List.take l.length (List.drop (0 : Nat) (ints Z)))) = List.take l.length (List.map intt Z) by simp)
    exact .tpe [.a (g), .b (rfl : false = false), .a (w), .b (rfl : false = false), t4, t5, .a (b), t7, t8, t9, t10] (Out.val (V.tup [V.t (T.seq (1 : Nat) (List.take l.length (List.map intt Z))), V.t (T.seq (1 : Nat) []), V.t (T.bool true)]) []) (by kernel_rfl) (congrArg (fun x => Out.val (V.tup [V.t (T.seq (1 : Nat) x), V.t (T.seq (1 : Nat) []), V.t (T.bool true)]) []) (show (List.take l.length (List.map intt Z)) = (List.map intt Z) by simp [ht]))
  | cons y r =>
    rw [hN, show goneT (y :: r) = .seq 1 ((y :: r).map intt) from rfl] at c
    let t4 : Tp pr := .i (show ((↑(List.map Span.ce l).length : Int) : Int) = (↑l.length : Int) by simp)
    let t5 : Tp pr := .a (Ev.castq (congrArg (fun x => Q.call (58 : FuncId) [i64 x] []) (show ((↑Z.length : Int)) = ((↑l.length : Int)) by omega)) (a))
    let t7 : Tp pr := .i (show ((↑(List.map intt O).length : Int) : Int) = (↑O.length : Int) by simp)
    let t8 : Tp pr := .a (Ev.castq ((congrArg (fun x => Q.loop (lq pr (11 : Nat) (0 : Nat)) (at_ [((0 : Nat), V.t (T.seq (2 : Nat) (List.map Span.ce l))), ((1 : Nat), V.t (T.int IntKind.i64 most)), ((7 : Nat), V.vec (0 : Nat) l.length (1 : Nat) (0 : Nat) l.length), ((8 : Nat), V.t T.nils), ((27 : Nat), V.t (T.seq (1 : Nat) (List.map intt O))), ((28 : Nat), V.t (T.int IntKind.i64 (↑O.length : Int))), ((29 : Nat), V.t (T.int IntKind.i64 (0 : Int)))] [Ob.vec true (1 : Nat) (ints (List.replicate l.length (-1 : Int)))] (0 : Nat))) (show (ints (List.replicate l.length (-1 : Int))) = (ints (List.replicate Z.length (-1 : Int))) by simp [*])).trans (congrArg (fun x => Q.loop (lq pr (11 : Nat) (0 : Nat)) (at_ [((0 : Nat), V.t (T.seq (2 : Nat) (List.map Span.ce l))), ((1 : Nat), V.t (T.int IntKind.i64 most)), ((7 : Nat), V.vec (0 : Nat) x (1 : Nat) (0 : Nat) x), ((8 : Nat), V.t T.nils), ((27 : Nat), V.t (T.seq (1 : Nat) (List.map intt O))), ((28 : Nat), V.t (T.int IntKind.i64 (↑O.length : Int))), ((29 : Nat), V.t (T.int IntKind.i64 (0 : Int)))] [Ob.vec true (1 : Nat) (ints (List.replicate x (-1 : Int)))] (0 : Nat))) (show (l.length) = (Z.length) by omega))) (c))
    let t9 : Tp pr := .m (show (decide ((ints Z).length = l.length ∧ (0 : Nat) + l.length ≤ l.length)) = true by simp [*])
    let t10 : Tp pr := .n .rows (show (List.map (fun x => List.map C.fz x) (List.take l.length (List.drop (0 : Nat) (ints Z)))) = List.take l.length (List.map intt Z) by simp)
    exact .tpe [.a (g), .b (rfl : false = false), .a (w), .b (rfl : false = false), t4, t5, .a (b), t7, t8, t9, t10] (Out.val (V.tup [V.t (T.seq (1 : Nat) (List.take l.length (List.map intt Z))), V.t (T.seq (1 : Nat) (List.map intt (y :: r))), V.t (T.bool true)]) []) (by kernel_rfl) (congrArg (fun x => Out.val (V.tup [V.t (T.seq (1 : Nat) x), V.t (T.seq (1 : Nat) (List.map intt (y :: r))), V.t (T.bool true)]) []) (show (List.take l.length (List.map intt Z)) = (List.map intt Z) by simp [ht]))
theorem SpillS1_ev (l : List Span) (most : Int) (hl : l.length ≤ 1048576) (h : goodSp l = false) : Ev pr (.call 11 [spq l, i64 most] []) (.val (.tup [isq [], isq [], bl false]) []) := by
  have g := GoodSpansS_ev l hl
  rw [h] at g
  exact .tp [.a (g), .b (rfl : true = true), .b (rfl : true = true)] (by kernel_rfl)
theorem SpillS2_ev (l : List Span) (most : Int) (hl : l.length ≤ 1048576) (h : goodSp l = true) (hm : mostOk most = false) : Ev pr (.call 11 [spq l, i64 most] []) (.val (.tup [isq [], isq [], bl false]) []) := by
  have g := GoodSpansS_ev l hl
  rw [h] at g
  have w := l1In_ev most 1 30
  rw [show (decide (1 ≤ most) && decide (most ≤ 30)) = false from hm] at w
  exact .tp [.a (g), .b (rfl : false = false), .a (w), .b (rfl : true = true)] (by kernel_rfl)
end Go.Ev

/- What is drawn from bytes: next, pick, one, among. -/
namespace Go.Ev
set_option linter.unusedVariables false
set_option linter.unusedSimpArgs false
open Go.Proofs
set_option maxRecDepth 100000
set_option linter.unusedVariables false
set_option maxHeartbeats 2000000
attribute [local simp] vA_simp
theorem nextA_ev (A B : List Int) (b s : Int) (hb : 0 ≤ b ∧ b ≤ 255) (ha : A.length ≤ 50000000) (hlb : (A ++ b :: B).length ≤ 9223372036854775807) :
    Ev pr (.call 115 [.ptr 0 1 0 0] [cuB (A ++ b :: B) A.length s]) (.val (i64 b) [cuB (A ++ b :: B) (A.length + 1) (sdN s b)]) := by
  have hg : lkp ((A ++ b :: B).map u8t) (A.length : Int) = some [T.int .u8 b] := by simp [u8t]
  have hl : ((A ++ b :: B).length : Int) = A.length + 1 + B.length := by simp; omega
  have hl2 : (A ++ b :: B).length = A.length + 1 + B.length := by simp; omega
  have w := wrap_i64 (a := b) (by omega) (by omega)
  unfold cuB sdN
  let t8 : Tp pr := .i (show ((↑(List.map u8t (A ++ b :: B)).length : Int) : Int) = (↑A.length : Int) + ((↑B.length : Int) + (1 : Int)) by simp)
  let t11 : Tp pr := .b (show (decide ((↑A.length : Int) < (↑A.length : Int) + ((↑B.length : Int) + (1 : Int)))) = true by (simp; omega))
  let t20 : Tp pr := .g .row (show (lkp (List.map u8t (A ++ b :: B)) (↑A.length : Int)) = some ([T.int IntKind.u8 b]) from hg)
  let t23 : Tp pr := .i (wrap_i64 (a := b) (by omega) (by omega))
  let t26 : Tp pr := .i (wrap_i64 (a := (↑A.length : Int) + (1 : Int)) (by omega) (by omega))
  let t27 : Tp pr := .i (rfl : (IntKind.u64.wrap (s * (6364136223846793005 : Int))) = _)
  let t28 : Tp pr := .i (wrap_u64 (a := b) (by omega) (by omega))
  let t29 : Tp pr := .i (rfl : (IntKind.u64.wrap (IntKind.u64.wrap (s * (6364136223846793005 : Int)) + b)) = _)
  let t30 : Tp pr := .i (rfl : (IntKind.u64.wrap (IntKind.u64.wrap (IntKind.u64.wrap (s * (6364136223846793005 : Int)) + b) + (1442695040888963407 : Int))) = _)
  let t39 : Tp pr := .i (show ((↑(List.map u8t (A ++ b :: B)).length : Int) : Int) = (↑A.length : Int) + ((↑B.length : Int) + (1 : Int)) by simp)
  let t42 : Tp pr := .b (show (decide ((↑A.length : Int) + (1 : Int) ≤ (↑A.length : Int) + ((↑B.length : Int) + (1 : Int)))) = true by (simp; omega))
  exact .tp [.m (rfl : true = true), .m (rfl : true = true), .m (rfl : true = true), .m (rfl : true = true), .m (rfl : true = true), .m (rfl : true = true), .m (rfl : true = true), .m (rfl : true = true), t8, .m (rfl : true = true), .m (rfl : true = true), t11, .m (rfl : true = true), .m (rfl : true = true), .m (rfl : true = true), .m (rfl : true = true), .m (rfl : true = true), .m (rfl : true = true), .m (rfl : true = true), .m (rfl : true = true), t20, .m (rfl : true = true), .m (rfl : true = true), t23, .m (rfl : true = true), .m (rfl : true = true), t26, t27, t28, t29, t30, .m (rfl : true = true), .m (rfl : true = true), .m (rfl : true = true), .m (rfl : true = true), .m (rfl : true = true), .m (rfl : true = true), .m (rfl : true = true), .m (rfl : true = true), t39, .m (rfl : true = true), .m (rfl : true = true), t42] (by kernel_rfl)
theorem nextB_ev (bs : List Int) (a s : Int) (h0 : (bs.length : Int) ≤ a) (ha : a ≤ 100000000) :
    Ev pr (.call 115 [.ptr 0 1 0 0] [cuB bs a s]) (.val (i64 (vvN (sdN s 0))) [cuB bs (a + 1) (sdN s 0)]) := by
  have hv := vvN_bd (sdN s 0)
  unfold cuB
  unfold vvN at *
  unfold sdN at *
  rw [Int.add_zero] at hv ⊢
  let t8 : Tp pr := .i (show ((↑(List.map u8t bs).length : Int) : Int) = (↑bs.length : Int) by simp)
  let t11 : Tp pr := .b (show (decide (a < (↑bs.length : Int))) = false by (simp; omega))
  let t12 : Tp pr := .i (wrap_i64 (a := a + (1 : Int)) (by omega) (by omega))
  let t13 : Tp pr := .i (rfl : (IntKind.u64.wrap (s * (6364136223846793005 : Int))) = _)
  let t14 : Tp pr := .i (rfl : ((0 : Int) : Int) = (0 : Int))
  let t15 : Tp pr := .i (rfl : (IntKind.u64.wrap (IntKind.u64.wrap (s * (6364136223846793005 : Int)) + (0 : Int))) = _)
  let t16 : Tp pr := .i (rfl : (IntKind.u64.wrap (IntKind.u64.wrap (IntKind.u64.wrap (s * (6364136223846793005 : Int)) + (0 : Int)) + (1442695040888963407 : Int))) = _)
  let t25 : Tp pr := .i (show ((↑(List.map u8t bs).length : Int) : Int) = (↑bs.length : Int) by simp)
  let t28 : Tp pr := .b (show (decide (a + (1 : Int) ≤ (↑bs.length : Int))) = false by (simp; omega))
  let t30 : Tp pr := .i (show ((IntKind.u64.wrap (IntKind.u64.wrap (IntKind.u64.wrap (s * (6364136223846793005 : Int)) + (0 : Int)) + (1442695040888963407 : Int))).fdiv (1099511627776 : Int) : Int) = (IntKind.u64.wrap (IntKind.u64.wrap (IntKind.u64.wrap (s * (6364136223846793005 : Int))) + (1442695040888963407 : Int))).fdiv (1099511627776 : Int) by simp)
  let t31 : Tp pr := .i (show (have x := BitVec.ofInt IntKind.u64.bits ((IntKind.u64.wrap (IntKind.u64.wrap (IntKind.u64.wrap (s * (6364136223846793005 : Int))) + (1442695040888963407 : Int))).fdiv (1099511627776 : Int));
  have y := BitVec.ofInt IntKind.u64.bits (255 : Int);
  match BinOp.and with
  | BinOp.and => IntKind.u64.wrap (↑(x &&& y).toNat : Int)
  | BinOp.or => IntKind.u64.wrap (↑(x ||| y).toNat : Int)
  | BinOp.xor => IntKind.u64.wrap (↑(x ^^^ y).toNat : Int)
  | x_1 => IntKind.u64.wrap (↑(x &&& ~~~y).toNat : Int) : Int) = vA ((IntKind.u64.wrap (IntKind.u64.wrap (IntKind.u64.wrap (s * (6364136223846793005 : Int))) + (1442695040888963407 : Int))).fdiv (1099511627776 : Int)) by simp)
  let t32 : Tp pr := .i (wrap_i64 (a := vA ((IntKind.u64.wrap (IntKind.u64.wrap (IntKind.u64.wrap (s * (6364136223846793005 : Int))) + (1442695040888963407 : Int))).fdiv (1099511627776 : Int))) (by omega) (by omega))
  exact .tpe [.m (rfl : true = true), .m (rfl : true = true), .m (rfl : true = true), .m (rfl : true = true), .m (rfl : true = true), .m (rfl : true = true), .m (rfl : true = true), .m (rfl : true = true), t8, .m (rfl : true = true), .m (rfl : true = true), t11, t12, t13, t14, t15, t16, .m (rfl : true = true), .m (rfl : true = true), .m (rfl : true = true), .m (rfl : true = true), .m (rfl : true = true), .m (rfl : true = true), .m (rfl : true = true), .m (rfl : true = true), t25, .m (rfl : true = true), .m (rfl : true = true), t28, .m (rfl : true = true), t30, t31, t32] (Out.val (V.t (T.int IntKind.i64 (vA ((IntKind.u64.wrap (IntKind.u64.wrap (IntKind.u64.wrap (s * (6364136223846793005 : Int))) + (1442695040888963407 : Int))).fdiv (1099511627776 : Int))))) [Ob.box [V.t (T.seq (1 : Nat) (List.map u8t bs)), V.t (T.int IntKind.i64 (a + (1 : Int))), V.t (T.int IntKind.u64 (IntKind.u64.wrap (IntKind.u64.wrap (IntKind.u64.wrap (s * (6364136223846793005 : Int)) + (0 : Int)) + (1442695040888963407 : Int))))]]) (by kernel_rfl) (congrArg (fun x => Out.val (V.t (T.int IntKind.i64 (vA ((IntKind.u64.wrap (IntKind.u64.wrap (IntKind.u64.wrap (s * (6364136223846793005 : Int))) + (1442695040888963407 : Int))).fdiv (1099511627776 : Int))))) [Ob.box [V.t (T.seq (1 : Nat) (List.map u8t bs)), V.t (T.int IntKind.i64 (a + (1 : Int))), V.t (T.int IntKind.u64 x)]]) (show (IntKind.u64.wrap (IntKind.u64.wrap (IntKind.u64.wrap (s * (6364136223846793005 : Int)) + (0 : Int)) + (1442695040888963407 : Int))) = (IntKind.u64.wrap (IntKind.u64.wrap (IntKind.u64.wrap (s * (6364136223846793005 : Int))) + (1442695040888963407 : Int))) by simp))
end Go.Ev

/- What is drawn from bytes: that it ends, and in which bounds. -/
namespace Go.Ev
set_option linter.unusedVariables false
set_option linter.unusedSimpArgs false
open Go.Proofs
set_option maxRecDepth 100000
set_option linter.unusedVariables false
set_option maxHeartbeats 2000000
def okB (bs : List Int) : Prop := bs.length ≤ 9223372036854775807 ∧ ∀ b ∈ bs, 0 ≤ b ∧ b ≤ 255
theorem next_ex (bs : List Int) (hb : okB bs) (a s : Int) (h0 : 0 ≤ a) (ha : a ≤ 50000000) :
    ∃ v s' : Int, (0 ≤ v ∧ v ≤ 255) ∧ Ev pr (.call 115 [.ptr 0 1 0 0] [cuB bs a s]) (.val (i64 v) [cuB bs (a + 1) s']) := by
  by_cases h : a < bs.length
  · have hn : a.toNat < bs.length := by omega
    have e : bs = bs.take a.toNat ++ bs[a.toNat] :: bs.drop (a.toNat + 1) := by
      rw [← List.drop_eq_getElem_cons hn, List.take_append_drop]
    have hl : (bs.take a.toNat).length = a.toNat := by simp; omega
    have hm := hb.2 _ (List.getElem_mem hn)
    generalize bs[a.toNat] = b at e hm
    have hlen := hb.1
    generalize bs.take a.toNat = A at e hl
    generalize bs.drop (a.toNat + 1) = B at e
    have hA : a = A.length := by omega
    subst e
    rw [hA]
    exact ⟨b, sdN s b, hm, nextA_ev A B b s hm (by omega) hlen⟩
  · exact ⟨vvN (sdN s 0), sdN s 0, vvN_bd _, nextB_ev bs a s (by omega) (by omega)⟩
theorem pick_ex (bs : List Int) (hb : okB bs) (a s : Int) (h0 : 0 ≤ a) (ha : a ≤ 50000000) (n : Int) (hn : n ≤ 200) :
    ∃ v a' s' : Int, (0 ≤ v ∧ (v < n ∨ v = 0)) ∧ (a ≤ a' ∧ a' ≤ a + 1) ∧ Ev pr (.call 95 [.ptr 0 1 0 0, i64 n] [cuB bs a s]) (.val (i64 v) [cuB bs a' s']) := by
  by_cases h : n ≤ 1
  · refine ⟨0, a, s, by omega, by omega, ?_⟩
    unfold cuB
    let t0 : Tp pr := .b (show (decide (n ≤ (1 : Int))) = true by (simp; omega))
    exact .tp [t0] (by kernel_rfl)
  · obtain ⟨v, s', hv, e⟩ := next_ex bs hb a s h0 ha
    have hm : v.tmod n = v % n := Int.tmod_eq_emod_of_nonneg hv.1
    have h1 := Int.emod_nonneg v (show n ≠ 0 by omega)
    have h2 := Int.emod_lt_of_pos v (show 0 < n by omega)
    refine ⟨v % n, a + 1, s', by omega, by omega, ?_⟩
    unfold cuB at *
    have h3 : ¬ n > 200 := by omega
    rw [← hm] at h1 h2 ⊢
    let t0 : Tp pr := .b (show (decide (n ≤ (1 : Int))) = false by (simp; omega))
    let t2 : Tp pr := .b (show (decide (n > (200 : Int))) = false by (simp; omega))
    let t3 : Tp pr := .m (show (decide (n ≠ (0 : Int))) = true by (simp; omega))
    exact .tp [t0, .a (e), t2, t3, .i (rfl : (v.tmod n) = _)] (by kernel_rfl)
theorem one_ex (bs : List Int) (hb : okB bs) (a s : Int) (h0 : 0 ≤ a) (ha : a ≤ 50000000) (n : Int) (hn : n ≤ 200) :
    ∃ (v : Bool) (a' s' : Int), (a ≤ a' ∧ a' ≤ a + 1) ∧ Ev pr (.call 79 [.ptr 0 1 0 0, i64 n] [cuB bs a s]) (.val (bl v) [cuB bs a' s']) := by
  obtain ⟨v, a', s', hv, h1, e⟩ := pick_ex bs hb a s h0 ha n hn
  by_cases hz : v = 0
  · refine ⟨true, a', s', h1, ?_⟩
    subst hz
    unfold cuB at *
    exact .tp [.a (e)] (by kernel_rfl)
  · refine ⟨false, a', s', h1, ?_⟩
    unfold cuB at *
    exact .tpe [.a (e)] (Out.val (V.t (T.bool (decide (v = (0 : Int))))) [Ob.box [V.t (T.seq (1 : Nat) (List.map u8t bs)), V.t (T.int IntKind.i64 a'), V.t (T.int IntKind.u64 s')]]) (by kernel_rfl) (congrArg (fun x => Out.val (V.t (T.bool x)) [Ob.box [V.t (T.seq (1 : Nat) (List.map u8t bs)), V.t (T.int IntKind.i64 a'), V.t (T.int IntKind.u64 s')]]) (show (decide (v = (0 : Int))) = (false) by simp [*]))
theorem among_ex (bs : List Int) (hb : okB bs) (a s : Int) (h0 : 0 ≤ a) (ha : a ≤ 50000000) (l : List Int) (hl : 0 < l.length) (hl2 : l.length ≤ 100) :
    ∃ (v : Int) (a' s' : Int), v ∈ l ∧ (a ≤ a' ∧ a' ≤ a + 1) ∧ Ev pr (.call 50 [.ptr 0 1 0 0, isq l] [cuB bs a s]) (.val (i64 v) [cuB bs a' s']) := by
  obtain ⟨v, a', s', hv, h1, e⟩ := pick_ex bs hb a s h0 ha l.length (by omega)
  have hlt : v.toNat < l.length := by omega
  have hg : lkp (l.map intt) v = some [T.int .i64 l[v.toNat]] := by simp [lkp, intt, hv.1, hlt]
  refine ⟨l[v.toNat], a', s', List.getElem_mem hlt, h1, ?_⟩
  generalize l[v.toNat] = x at hg ⊢
  unfold cuB at *
  let t0 : Tp pr := .i (show ((↑(List.map intt l).length : Int) : Int) = (↑l.length : Int) by simp)
  let t2 : Tp pr := .g .row (show (lkp (List.map intt l) v) = some ([T.int IntKind.i64 x]) from hg)
  exact .tp [t0, .a (e), t2] (by kernel_rfl)
end Go.Ev

/- slices.Clone: what it makes, by the machine itself and by its contract. -/
namespace Go.Ev
set_option linter.unusedVariables false
set_option linter.unusedSimpArgs false
open Go.Proofs
set_option maxRecDepth 100000
set_option linter.unusedVariables false
set_option maxHeartbeats 1000000
theorem cloneN_ev : Ev pr0 (.call 87 [.t (.sn true)] []) (.val (.t .nils) []) := by
  exact .tp [.b (rfl : true = true)] (by kernel_rfl)
theorem cloneE_ev : Ev pr0 (.call 87 [.t (.sn false)] []) (.val (.vec 0 0 1 0 0) [.vec true 1 []]) := by
  exact .tp [.b (rfl : false = false), .m (rfl : true = true), .b (rfl : true = true), .c (rfl : ((0 : Nat)) = _), .n .crows (rfl : ([]) = _)] (by kernel_rfl)
theorem cloneL_ev (e : List T) (es : List (List T)) (h : es.length + 1 ≤ 1048576) : Ev pr0 (.call 87 [.t (.seq 1 (e :: es))] []) (.val (.vec 0 (es.length + 1) 1 0 (es.length + 1)) [.vec true 1 ((e :: es).map (List.map C.t))]) := by
  let t2 : Tp pr0 := .m (show (decide ((0 : Nat) = (0 : Nat) ∧ (0 : Nat) ≤ (0 : Nat) ∧ (0 : Nat) + (List.map (fun x => List.map C.t x) (e :: es)).length ≤ (4294967296 : Nat))) = true by (simp; omega))
  let t4 : Tp pr0 := .c (show ((0 : Nat) + (List.map (fun x => List.map C.t x) (e :: es)).length : Nat) = es.length + (1 : Nat) by simp)
  let t5 : Tp pr0 := .n .crows (show ([].append (List.map (fun x => List.map C.t x) (e :: es))) = List.map C.t e :: List.map (fun x => List.map C.t x) es by simp)
  exact .tp [.m (rfl : true = true), .b (rfl : false = false), t2, .b (rfl : false = false), t4, t5] (by kernel_rfl)
theorem follows_ok : pr0.P.follows .mixedOrders = true := by kernel_rfl
theorem prim_none : PrimOk pr := by
  intro f p hf
  have hf' : (if f = 87 then some clonePrim else none) = some p := hf
  split at hf'
  · rename_i e
    subst e
    obtain rfl := Option.some.inj hf'
    exact clone_ok (pr0 := pr0) follows_ok (fun _ _ h => by cases h) cloneN_ev cloneE_ev cloneL_ev
  · cases hf'
theorem clone_ev (l : List Int) (h : l.length ≤ 1048576) : Ev pr (.call 87 [isq l] []) (.val (.vec 0 l.length 1 0 l.length) [.vec true 1 (ints l)]) := by
  have h2 : clonePrim [isq l] [] = some (.vec 0 l.length 1 0 l.length, [.vec true 1 (ints l)]) := by
    simp only [clonePrim]
    rw [if_pos (by simpa using h)]
    simp [ints, intt, intc, Function.comp_def]
  exact Ev.prim (p := clonePrim) (by kernel_rfl) rfl h2
end Go.Ev

/- Spans: how many are held at most, by both. -/
namespace Go.Ev
set_option linter.unusedVariables false
set_option linter.unusedSimpArgs false
open Go.Proofs
set_option maxRecDepth 100000
set_option linter.unusedVariables false
set_option linter.unusedSimpArgs false
set_option maxHeartbeats 2000000
theorem cntIL_ev (l : List Span) (hl : l.length ≤ 1000) (m w tt : Int) : ∀ (rest pre : List Span) (c : Int), l = pre ++ rest → 0 ≤ c → c + rest.length ≤ 2000 →
    Ev pr (.loop (lq pr 15 1) (at_ [(0, spq l), (5, i64 m), (6, i64 w), (7, i64 tt), (8, i64 c), (14, i64 tt), (17, spq l), (18, i64 l.length), (19, i64 pre.length)] [] 0))
      (.exit 2 (at_ [(0, spq l), (5, i64 m), (6, i64 w), (7, i64 tt), (8, i64 (c + loadN rest tt)), (14, i64 tt)] [] 0))
  | [], pre, c, he, h0, h1 => by
    have hll : (l.length : Int) = pre.length := by simp [he]
    rw [show loadN [] tt = 0 from rfl, Int.add_zero]
    let t0 : Tp pr := .b (show (decide ((↑pre.length : Int) < (↑l.length : Int))) = false by (simp; omega))
    exact .tp [t0] (by kernel_rfl)
  | x :: rest, pre, c, he, h0, h1 => by
    have hll : (l.length : Int) = pre.length + 1 + rest.length := by simp [he]; omega
    have hg : lkp (l.map Span.ce) (pre.length : Int) = some x.ce := by subst he; simp
    have ht := held_ev x tt
    simp only [List.length_cons] at h1
    rw [loadN_cons]
    cases hh : heldS x tt
    · rw [hh] at ht
      have ih := cntIL_ev l hl m w tt rest (pre ++ [x]) c (by simp [he]) h0 (by omega)
      rw [if_neg (by simp), Int.zero_add]
      let t0 : Tp pr := .b (show (decide ((↑pre.length : Int) < (↑l.length : Int))) = true by (simp; omega))
      let t1 : Tp pr := .g .row (show (lkp (List.map Span.ce l) (↑pre.length : Int)) = some (x.ce) from hg)
      let t4 : Tp pr := .i (wrap_i64 (a := (↑pre.length : Int) + (1 : Int)) (by omega) (by omega))
      let t5 : Tp pr := .a (Ev.castq (congrArg (fun x => Q.loop (lq pr (15 : FuncId) (1 : Nat)) (at_ [((0 : Nat), spq l), ((5 : Nat), i64 m), ((6 : Nat), i64 w), ((7 : Nat), i64 tt), ((8 : Nat), i64 c), ((14 : Nat), i64 tt), ((17 : Nat), spq l), ((18 : Nat), i64 (↑l.length : Int)), ((19 : Nat), i64 x)] [] (0 : Nat))) (show ((↑(pre ++ [x]).length : Int)) = ((↑pre.length : Int) + (1 : Int)) by simp)) (ih))
      exact .tp [t0, t1, .a (ht), .b (rfl : false = false), t4, t5] (by kernel_rfl)
    · rw [hh] at ht
      have ih := cntIL_ev l hl m w tt rest (pre ++ [x]) (c + 1) (by simp [he]) (by omega) (by omega)
      rw [if_pos rfl]
      let t0 : Tp pr := .b (show (decide ((↑pre.length : Int) < (↑l.length : Int))) = true by (simp; omega))
      let t1 : Tp pr := .g .row (show (lkp (List.map Span.ce l) (↑pre.length : Int)) = some (x.ce) from hg)
      let t4 : Tp pr := .i (wrap_i64 (a := c + (1 : Int)) (by omega) (by omega))
      let t5 : Tp pr := .i (wrap_i64 (a := (↑pre.length : Int) + (1 : Int)) (by omega) (by omega))
      let t6 : Tp pr := .a (Ev.castq (congrArg (fun x => Q.loop (lq pr (15 : FuncId) (1 : Nat)) (at_ [((0 : Nat), spq l), ((5 : Nat), i64 m), ((6 : Nat), i64 w), ((7 : Nat), i64 tt), ((8 : Nat), i64 (c + (1 : Int))), ((14 : Nat), i64 tt), ((17 : Nat), spq l), ((18 : Nat), i64 (↑l.length : Int)), ((19 : Nat), i64 x)] [] (0 : Nat))) (show ((↑(pre ++ [x]).length : Int)) = ((↑pre.length : Int) + (1 : Int)) by (simp <;> omega))) (ih))
      exact .tpe [t0, t1, .a (ht), .b (rfl : true = true), t4, t5, t6] (Out.exit (2 : Nat) (at_ [((0 : Nat), V.t (T.seq (2 : Nat) (List.map Span.ce l))), ((5 : Nat), V.t (T.int IntKind.i64 m)), ((6 : Nat), V.t (T.int IntKind.i64 w)), ((7 : Nat), V.t (T.int IntKind.i64 tt)), ((8 : Nat), V.t (T.int IntKind.i64 (c + (1 : Int) + loadN rest tt))), ((14 : Nat), V.t (T.int IntKind.i64 tt))] [] (0 : Nat))) (by kernel_rfl) (congrArg (fun x => Out.exit (2 : Nat) (at_ [((0 : Nat), V.t (T.seq (2 : Nat) (List.map Span.ce l))), ((5 : Nat), V.t (T.int IntKind.i64 m)), ((6 : Nat), V.t (T.int IntKind.i64 w)), ((7 : Nat), V.t (T.int IntKind.i64 tt)), ((8 : Nat), V.t (T.int IntKind.i64 x)), ((14 : Nat), V.t (T.int IntKind.i64 tt))] [] (0 : Nat))) (show (c + (1 : Int) + loadN rest tt) = (c + ((1 : Int) + loadN rest tt)) by omega))
theorem mostIL_ev (l : List Span) (hl : l.length ≤ 1000) : ∀ (n : Nat) (tt m w : Int), 0 ≤ tt → tt + n = 1000 → 0 ≤ m → m ≤ 1000 →
    Ev pr (.loop (lq pr 15 0) (at_ [(0, spq l), (5, i64 m), (6, i64 w), (14, i64 tt)] [] 0)) (.exit 0 (at_ [(5, i64 (mostGo l n tt m w).1), (6, i64 (mostGo l n tt m w).2)] [] 0))
  | 0, tt, m, w, h0, h1, h2, h3 => by
    unfold mostGo
    let t0 : Tp pr := .b (show (decide (tt < (1000 : Int))) = false by (simp; omega))
    exact .tp [t0] (by kernel_rfl)
  | n + 1, tt, m, w, h0, h1, h2, h3 => by
    have g := cntIL_ev l hl m w tt l [] 0 rfl (by omega) (by omega)
    have b0 := loadN_nonneg l tt
    have b1 := loadN_le l tt
    rw [Int.zero_add] at g
    unfold mostGo
    by_cases c : loadN l tt > m
    · rw [if_pos c]
      have ih := mostIL_ev l hl n (tt + 1) (loadN l tt) tt (by omega) (by omega) b0 (by omega)
      generalize loadN l tt = q at *
      let t0 : Tp pr := .b (show (decide (tt < (1000 : Int))) = true by (simp; omega))
      let t1 : Tp pr := .i (show ((↑(List.map Span.ce l).length : Int) : Int) = (↑l.length : Int) by simp)
      let t3 : Tp pr := .b (show (decide (q > m)) = true by (simp; omega))
      let t4 : Tp pr := .i (wrap_i64 (a := tt + (1 : Int)) (by omega) (by omega))
      exact .tp [t0, t1, .a (g), t3, t4, .a (ih)] (by kernel_rfl)
    · rw [if_neg c]
      have ih := mostIL_ev l hl n (tt + 1) m w (by omega) (by omega) h2 h3
      generalize loadN l tt = q at *
      let t0 : Tp pr := .b (show (decide (tt < (1000 : Int))) = true by (simp; omega))
      let t1 : Tp pr := .i (show ((↑(List.map Span.ce l).length : Int) : Int) = (↑l.length : Int) by simp)
      let t3 : Tp pr := .b (show (decide (q > m)) = false by (simp; omega))
      let t4 : Tp pr := .i (wrap_i64 (a := tt + (1 : Int)) (by omega) (by omega))
      exact .tp [t0, t1, .a (g), t3, t4, .a (ih)] (by kernel_rfl)
theorem MostI_ev (l : List Span) (hl : l.length ≤ 1048576) (h : goodSp l = true) : Ev pr (.call 15 [spq l] []) (.val (.tup [i64 (mostP l).1, i64 (mostP l).2, bl true]) []) := by
  have h30 : l.length ≤ 30 := (good_of h).1
  have g := GoodSpansI_ev l hl
  rw [h] at g
  have a := mostIL_ev l (by omega) 1000 0 0 0 (by omega) (by omega) (by omega) (by omega)
  rw [show mostGo l 1000 0 0 0 = mostP l from rfl] at a
  generalize mostP l = Z at *
  exact .tp [.a (g), .b (rfl : false = false), .a (a)] (by kernel_rfl)
theorem MostIn_ev (l : List Span) (hl : l.length ≤ 1048576) (h : goodSp l = false) : Ev pr (.call 15 [spq l] []) (.val (.tup [i64 0, i64 0, bl false]) []) := by
  have g := GoodSpansI_ev l hl
  rw [h] at g
  exact .tp [.a (g), .b (rfl : true = true)] (by kernel_rfl)
end Go.Ev

/- Spans: how many are held at most, by the reference. -/
namespace Go.Ev
set_option linter.unusedVariables false
set_option linter.unusedSimpArgs false
open Go.Proofs
set_option maxRecDepth 100000
set_option linter.unusedVariables false
set_option linter.unusedSimpArgs false
set_option maxHeartbeats 2000000
theorem cntSL_ev (l : List Span) (hl : l.length ≤ 1000) (m w tt : Int) : ∀ (rest pre : List Span) (c : Int), l = pre ++ rest → 0 ≤ c → c + rest.length ≤ 2000 →
    Ev pr (.loop (lq pr 19 1) (at_ [(0, spq l), (5, i64 m), (6, i64 w), (7, i64 tt), (8, i64 c), (18, spq l), (19, i64 l.length), (20, i64 pre.length)] [] 0))
      (.exit 2 (at_ [(0, spq l), (5, i64 m), (6, i64 w), (7, i64 tt), (8, i64 (c + loadN rest tt))] [] 0))
  | [], pre, c, he, h0, h1 => by
    have hll : (l.length : Int) = pre.length := by simp [he]
    rw [show loadN [] tt = 0 from rfl, Int.add_zero]
    let t0 : Tp pr := .b (show (decide ((↑pre.length : Int) < (↑l.length : Int))) = false by (simp; omega))
    exact .tp [t0] (by kernel_rfl)
  | x :: rest, pre, c, he, h0, h1 => by
    have hll : (l.length : Int) = pre.length + 1 + rest.length := by simp [he]; omega
    have hg : lkp (l.map Span.ce) (pre.length : Int) = some x.ce := by subst he; simp
    simp only [List.length_cons] at h1
    rw [loadN_cons]
    by_cases c1 : x.from_ ≤ tt
    · by_cases c2 : tt < x.to_
      · have ih := cntSL_ev l hl m w tt rest (pre ++ [x]) (c + 1) (by simp [he]) (by omega) (by omega)
        rw [if_pos (by simp [heldS, c1, c2])]
        let t0 : Tp pr := .b (show (decide ((↑pre.length : Int) < (↑l.length : Int))) = true by (simp; omega))
        let t1 : Tp pr := .g .row (show (lkp (List.map Span.ce l) (↑pre.length : Int)) = some (x.ce) from hg)
        let t2 : Tp pr := .b (show (decide (x.from_ ≤ tt)) = true by (simp; omega))
        let t3 : Tp pr := .b (show (decide (tt < x.to_)) = true by (simp; omega))
        let t4 : Tp pr := .i (wrap_i64 (a := c + (1 : Int)) (by omega) (by omega))
        let t5 : Tp pr := .i (wrap_i64 (a := (↑pre.length : Int) + (1 : Int)) (by omega) (by omega))
        let t6 : Tp pr := .a (Ev.castq (congrArg (fun x => Q.loop (lq pr (19 : FuncId) (1 : Nat)) (at_ [((0 : Nat), spq l), ((5 : Nat), i64 m), ((6 : Nat), i64 w), ((7 : Nat), i64 tt), ((8 : Nat), i64 (c + (1 : Int))), ((18 : Nat), spq l), ((19 : Nat), i64 (↑l.length : Int)), ((20 : Nat), i64 x)] [] (0 : Nat))) (show ((↑(pre ++ [x]).length : Int)) = ((↑pre.length : Int) + (1 : Int)) by (simp <;> omega))) (ih))
        exact .tpe [t0, t1, t2, t3, t4, t5, t6] (Out.exit (2 : Nat) (at_ [((0 : Nat), V.t (T.seq (2 : Nat) (List.map Span.ce l))), ((5 : Nat), V.t (T.int IntKind.i64 m)), ((6 : Nat), V.t (T.int IntKind.i64 w)), ((7 : Nat), V.t (T.int IntKind.i64 tt)), ((8 : Nat), V.t (T.int IntKind.i64 (c + (1 : Int) + loadN rest tt)))] [] (0 : Nat))) (by kernel_rfl) (congrArg (fun x => Out.exit (2 : Nat) (at_ [((0 : Nat), V.t (T.seq (2 : Nat) (List.map Span.ce l))), ((5 : Nat), V.t (T.int IntKind.i64 m)), ((6 : Nat), V.t (T.int IntKind.i64 w)), ((7 : Nat), V.t (T.int IntKind.i64 tt)), ((8 : Nat), V.t (T.int IntKind.i64 x))] [] (0 : Nat))) (show (c + (1 : Int) + loadN rest tt) = (c + ((1 : Int) + loadN rest tt)) by omega))
      · have ih := cntSL_ev l hl m w tt rest (pre ++ [x]) c (by simp [he]) h0 (by omega)
        rw [if_neg (by simp [heldS, c2]), Int.zero_add]
        let t0 : Tp pr := .b (show (decide ((↑pre.length : Int) < (↑l.length : Int))) = true by (simp; omega))
        let t1 : Tp pr := .g .row (show (lkp (List.map Span.ce l) (↑pre.length : Int)) = some (x.ce) from hg)
        let t2 : Tp pr := .b (show (decide (x.from_ ≤ tt)) = true by (simp; omega))
        let t3 : Tp pr := .b (show (decide (tt < x.to_)) = false by (simp; omega))
        let t4 : Tp pr := .i (wrap_i64 (a := (↑pre.length : Int) + (1 : Int)) (by omega) (by omega))
        let t5 : Tp pr := .a (Ev.castq (congrArg (fun x => Q.loop (lq pr (19 : FuncId) (1 : Nat)) (at_ [((0 : Nat), spq l), ((5 : Nat), i64 m), ((6 : Nat), i64 w), ((7 : Nat), i64 tt), ((8 : Nat), i64 c), ((18 : Nat), spq l), ((19 : Nat), i64 (↑l.length : Int)), ((20 : Nat), i64 x)] [] (0 : Nat))) (show ((↑(pre ++ [x]).length : Int)) = ((↑pre.length : Int) + (1 : Int)) by simp)) (ih))
        exact .tp [t0, t1, t2, t3, t4, t5] (by kernel_rfl)
    · have ih := cntSL_ev l hl m w tt rest (pre ++ [x]) c (by simp [he]) h0 (by omega)
      rw [if_neg (by simp [heldS, c1]), Int.zero_add]
      let t0 : Tp pr := .b (show (decide ((↑pre.length : Int) < (↑l.length : Int))) = true by (simp; omega))
      let t1 : Tp pr := .g .row (show (lkp (List.map Span.ce l) (↑pre.length : Int)) = some (x.ce) from hg)
      let t2 : Tp pr := .b (show (decide (x.from_ ≤ tt)) = false by (simp; omega))
      let t4 : Tp pr := .i (wrap_i64 (a := (↑pre.length : Int) + (1 : Int)) (by omega) (by omega))
      let t5 : Tp pr := .a (Ev.castq (congrArg (fun x => Q.loop (lq pr (19 : FuncId) (1 : Nat)) (at_ [((0 : Nat), spq l), ((5 : Nat), i64 m), ((6 : Nat), i64 w), ((7 : Nat), i64 tt), ((8 : Nat), i64 c), ((18 : Nat), spq l), ((19 : Nat), i64 (↑l.length : Int)), ((20 : Nat), i64 x)] [] (0 : Nat))) (show ((↑(pre ++ [x]).length : Int)) = ((↑pre.length : Int) + (1 : Int)) by simp)) (ih))
      exact .tp [t0, t1, t2, .b (rfl : false = false), t4, t5] (by kernel_rfl)
theorem mostSL_ev (l : List Span) (hl : l.length ≤ 1000) : ∀ (n : Nat) (tt m w : Int), 0 ≤ tt → tt + n = 1000 → 0 ≤ m → m ≤ 1000 →
    Ev pr (.loop (lq pr 19 0) (at_ [(0, spq l), (5, i64 m), (6, i64 w), (7, i64 tt)] [] 0)) (.exit 0 (at_ [(5, i64 (mostGo l n tt m w).1), (6, i64 (mostGo l n tt m w).2)] [] 0))
  | 0, tt, m, w, h0, h1, h2, h3 => by
    unfold mostGo
    let t0 : Tp pr := .b (show (decide (tt < (1000 : Int))) = false by (simp; omega))
    exact .tp [t0] (by kernel_rfl)
  | n + 1, tt, m, w, h0, h1, h2, h3 => by
    have g := cntSL_ev l hl m w tt l [] 0 rfl (by omega) (by omega)
    have b0 := loadN_nonneg l tt
    have b1 := loadN_le l tt
    rw [Int.zero_add] at g
    unfold mostGo
    by_cases c : loadN l tt > m
    · rw [if_pos c]
      have ih := mostSL_ev l hl n (tt + 1) (loadN l tt) tt (by omega) (by omega) b0 (by omega)
      generalize loadN l tt = q at *
      let t0 : Tp pr := .b (show (decide (tt < (1000 : Int))) = true by (simp; omega))
      let t1 : Tp pr := .i (show ((↑(List.map Span.ce l).length : Int) : Int) = (↑l.length : Int) by simp)
      let t3 : Tp pr := .b (show (decide (q > m)) = true by (simp; omega))
      let t4 : Tp pr := .i (wrap_i64 (a := tt + (1 : Int)) (by omega) (by omega))
      exact .tp [t0, t1, .a (g), t3, t4, .a (ih)] (by kernel_rfl)
    · rw [if_neg c]
      have ih := mostSL_ev l hl n (tt + 1) m w (by omega) (by omega) h2 h3
      generalize loadN l tt = q at *
      let t0 : Tp pr := .b (show (decide (tt < (1000 : Int))) = true by (simp; omega))
      let t1 : Tp pr := .i (show ((↑(List.map Span.ce l).length : Int) : Int) = (↑l.length : Int) by simp)
      let t3 : Tp pr := .b (show (decide (q > m)) = false by (simp; omega))
      let t4 : Tp pr := .i (wrap_i64 (a := tt + (1 : Int)) (by omega) (by omega))
      exact .tp [t0, t1, .a (g), t3, t4, .a (ih)] (by kernel_rfl)
theorem MostS_ev (l : List Span) (hl : l.length ≤ 1048576) (h : goodSp l = true) : Ev pr (.call 19 [spq l] []) (.val (.tup [i64 (mostP l).1, i64 (mostP l).2, bl true]) []) := by
  have h30 : l.length ≤ 30 := (good_of h).1
  have g := GoodSpansS_ev l hl
  rw [h] at g
  have a := mostSL_ev l (by omega) 1000 0 0 0 (by omega) (by omega) (by omega) (by omega)
  rw [show mostGo l 1000 0 0 0 = mostP l from rfl] at a
  generalize mostP l = Z at *
  exact .tp [.a (g), .b (rfl : false = false), .a (a)] (by kernel_rfl)
theorem MostSn_ev (l : List Span) (hl : l.length ≤ 1048576) (h : goodSp l = false) : Ev pr (.call 19 [spq l] []) (.val (.tup [i64 0, i64 0, bl false]) []) := by
  have g := GoodSpansS_ev l hl
  rw [h] at g
  exact .tp [.a (g), .b (rfl : true = true)] (by kernel_rfl)
end Go.Ev

/- Spans: whether they are placed, by both. -/
namespace Go.Ev
set_option linter.unusedVariables false
set_option linter.unusedSimpArgs false
open Go.Proofs
set_option maxRecDepth 100000
set_option linter.unusedVariables false
set_option linter.unusedSimpArgs false
set_option maxHeartbeats 2000000
theorem clIL_ev (l : List Span) (p : List Int) (hl : l.length ≤ 1000) (L R : List Span) (P Q : List Int) (x : Span) (q : Int) (e1 : l = L ++ x :: R) (e2 : p = P ++ q :: Q) (e3 : P.length = L.length) :
    ∀ (r d : List Span) (rp dp : List Int), L = d ++ r → P = dp ++ rp → dp.length = d.length →
    Ev pr (.loop (lq pr 62 1) (at_ [(0, spq l), (1, isq p), (5, i64 L.length), (6, .ptr 0 1 0 0), (9, spq l), (10, i64 l.length), (11, i64 L.length), (23, spq L), (24, i64 L.length), (25, i64 d.length)] [.box [i64 x.from_, i64 x.to_]] 0))
      (if clash (r.zip rp) (x, q) = true then .ret (at_ [(4, bl false)] [] 0) else .exit 2 (at_ [(0, spq l), (1, isq p), (9, spq l), (10, i64 l.length), (11, i64 L.length)] [] 0))
  | [], d, rp, dp, h1, h2, h3 => by
    have hll : (L.length : Int) = d.length := by simp [h1]
    rw [show clash (([] : List Span).zip rp) (x, q) = false from rfl, if_neg (by simp)]
    let t0 : Tp pr := .b (show (decide ((↑d.length : Int) < (↑L.length : Int))) = false by (simp; omega))
    exact .tp [t0] (by kernel_rfl)
  | y :: r, d, [], dp, h1, h2, h3 => by
    rw [h1, h2] at e3
    simp at e3
    omega
  | y :: r, d, z :: rp, dp, h1, h2, h3 => by
    have hll : (L.length : Int) = d.length + 1 + r.length := by simp [h1]; omega
    have hl2 : (l.length : Int) = L.length + 1 + R.length := by simp [e1]; omega
    have g1 : lkp (L.map Span.ce) (d.length : Int) = some y.ce := by rw [h1]; simp
    have g2 : lkp (p.map intt) (d.length : Int) = some [T.int .i64 z] := by rw [e2, h2, ← h3]; simp [intt]
    have g3 : lkp (p.map intt) (L.length : Int) = some [T.int .i64 q] := by rw [e2, ← e3]; simp [intt]
    have ih := clIL_ev l p hl L R P Q x q e1 e2 e3 r (d ++ [y]) rp (dp ++ [z]) (by simp [h1]) (by simp [h2]) (by simp [h3])
    rw [List.zip_cons_cons, clash]
    by_cases c1 : z = q
    · by_cases c2 : x.from_ < y.to_
      · by_cases c3 : y.from_ < x.to_
        · rw [show (z == q && meetB x y) = true by simp [c1, meetB, c2, c3], Bool.true_or, if_pos rfl]
          let t0 : Tp pr := .b (show (decide ((↑d.length : Int) < (↑L.length : Int))) = true by (simp; omega))
          let t1 : Tp pr := .g .row (show (lkp (List.map Span.ce L) (↑d.length : Int)) = some (y.ce) from g1)
          let t4 : Tp pr := .g .row (show (lkp (List.map intt p) (↑d.length : Int)) = some ([T.int IntKind.i64 z]) from g2)
          let t9 : Tp pr := .g .row (show (lkp (List.map intt p) (↑L.length : Int)) = some ([T.int IntKind.i64 q]) from g3)
          let t14 : Tp pr := .b (show (decide (z = q)) = true by (simp; omega))
          let t22 : Tp pr := .b (show (decide (x.from_ < y.to_)) = true by (simp; omega))
          let t29 : Tp pr := .b (show (decide (y.from_ < x.to_)) = true by (simp; omega))
          exact .tp [t0, t1, .m (rfl : true = true), .m (rfl : true = true), t4, .m (rfl : true = true), .m (rfl : true = true), .m (rfl : true = true), .m (rfl : true = true), t9, .m (rfl : true = true), .m (rfl : true = true), .m (rfl : true = true), .m (rfl : true = true), t14, .m (rfl : true = true), .m (rfl : true = true), .m (rfl : true = true), .m (rfl : true = true), .m (rfl : true = true), .m (rfl : true = true), .m (rfl : true = true), t22, .m (rfl : true = true), .m (rfl : true = true), .m (rfl : true = true), .m (rfl : true = true), .m (rfl : true = true), .m (rfl : true = true), t29] (by kernel_rfl)
        · rw [show (z == q && meetB x y) = false by simp [meetB, c3], Bool.false_or]
          cases hc : clash (r.zip rp) (x, q)
          · rw [hc, if_neg (by simp)] at ih
            rw [if_neg (by simp)]
            let t0 : Tp pr := .b (show (decide ((↑d.length : Int) < (↑L.length : Int))) = true by (simp; omega))
            let t1 : Tp pr := .g .row (show (lkp (List.map Span.ce L) (↑d.length : Int)) = some (y.ce) from g1)
            let t4 : Tp pr := .g .row (show (lkp (List.map intt p) (↑d.length : Int)) = some ([T.int IntKind.i64 z]) from g2)
            let t9 : Tp pr := .g .row (show (lkp (List.map intt p) (↑L.length : Int)) = some ([T.int IntKind.i64 q]) from g3)
            let t14 : Tp pr := .b (show (decide (z = q)) = true by (simp; omega))
            let t22 : Tp pr := .b (show (decide (x.from_ < y.to_)) = true by (simp; omega))
            let t29 : Tp pr := .b (show (decide (y.from_ < x.to_)) = false by (simp; omega))
            let t30 : Tp pr := .i (wrap_i64 (a := (↑d.length : Int) + (1 : Int)) (by omega) (by omega))
            let t31 : Tp pr := .a (Ev.castq (congrArg (fun x_1 => Ev.Q.loop (lq pr (62 : FuncId) (1 : Nat)) (at_ [((0 : Nat), spq l), ((1 : Nat), isq p), ((5 : Nat), i64 (↑L.length : Int)), ((6 : Nat), V.ptr (0 : Nat) (1 : Nat) (0 : Nat) (0 : Nat)), ((9 : Nat), spq l), ((10 : Nat), i64 (↑l.length : Int)), ((11 : Nat), i64 (↑L.length : Int)), ((23 : Nat), spq L), ((24 : Nat), i64 (↑L.length : Int)), ((25 : Nat), i64 x_1)] [Ob.box [i64 x.from_, i64 x.to_]] (0 : Nat))) (show ((↑(d ++ [y]).length : Int)) = ((↑d.length : Int) + (1 : Int)) by simp)) (ih))
            exact .tp [t0, t1, .m (rfl : true = true), .m (rfl : true = true), t4, .m (rfl : true = true), .m (rfl : true = true), .m (rfl : true = true), .m (rfl : true = true), t9, .m (rfl : true = true), .m (rfl : true = true), .m (rfl : true = true), .m (rfl : true = true), t14, .m (rfl : true = true), .m (rfl : true = true), .m (rfl : true = true), .m (rfl : true = true), .m (rfl : true = true), .m (rfl : true = true), .m (rfl : true = true), t22, .m (rfl : true = true), .m (rfl : true = true), .m (rfl : true = true), .m (rfl : true = true), .m (rfl : true = true), .m (rfl : true = true), t29, t30, t31] (by kernel_rfl)
          · rw [hc, if_pos rfl] at ih
            rw [if_pos rfl]
            let t0 : Tp pr := .b (show (decide ((↑d.length : Int) < (↑L.length : Int))) = true by (simp; omega))
            let t1 : Tp pr := .g .row (show (lkp (List.map Span.ce L) (↑d.length : Int)) = some (y.ce) from g1)
            let t4 : Tp pr := .g .row (show (lkp (List.map intt p) (↑d.length : Int)) = some ([T.int IntKind.i64 z]) from g2)
            let t9 : Tp pr := .g .row (show (lkp (List.map intt p) (↑L.length : Int)) = some ([T.int IntKind.i64 q]) from g3)
            let t14 : Tp pr := .b (show (decide (z = q)) = true by (simp; omega))
            let t22 : Tp pr := .b (show (decide (x.from_ < y.to_)) = true by (simp; omega))
            let t29 : Tp pr := .b (show (decide (y.from_ < x.to_)) = false by (simp; omega))
            let t30 : Tp pr := .i (wrap_i64 (a := (↑d.length : Int) + (1 : Int)) (by omega) (by omega))
            let t31 : Tp pr := .a (Ev.castq (congrArg (fun x_1 => Ev.Q.loop (lq pr (62 : FuncId) (1 : Nat)) (at_ [((0 : Nat), spq l), ((1 : Nat), isq p), ((5 : Nat), i64 (↑L.length : Int)), ((6 : Nat), V.ptr (0 : Nat) (1 : Nat) (0 : Nat) (0 : Nat)), ((9 : Nat), spq l), ((10 : Nat), i64 (↑l.length : Int)), ((11 : Nat), i64 (↑L.length : Int)), ((23 : Nat), spq L), ((24 : Nat), i64 (↑L.length : Int)), ((25 : Nat), i64 x_1)] [Ob.box [i64 x.from_, i64 x.to_]] (0 : Nat))) (show ((↑(d ++ [y]).length : Int)) = ((↑d.length : Int) + (1 : Int)) by simp)) (ih))
            exact .tp [t0, t1, .m (rfl : true = true), .m (rfl : true = true), t4, .m (rfl : true = true), .m (rfl : true = true), .m (rfl : true = true), .m (rfl : true = true), t9, .m (rfl : true = true), .m (rfl : true = true), .m (rfl : true = true), .m (rfl : true = true), t14, .m (rfl : true = true), .m (rfl : true = true), .m (rfl : true = true), .m (rfl : true = true), .m (rfl : true = true), .m (rfl : true = true), .m (rfl : true = true), t22, .m (rfl : true = true), .m (rfl : true = true), .m (rfl : true = true), .m (rfl : true = true), .m (rfl : true = true), .m (rfl : true = true), t29, t30, t31] (by kernel_rfl)
      · rw [show (z == q && meetB x y) = false by simp [meetB, c2], Bool.false_or]
        cases hc : clash (r.zip rp) (x, q)
        · rw [hc, if_neg (by simp)] at ih
          rw [if_neg (by simp)]
          let t0 : Tp pr := .b (show (decide ((↑d.length : Int) < (↑L.length : Int))) = true by (simp; omega))
          let t1 : Tp pr := .g .row (show (lkp (List.map Span.ce L) (↑d.length : Int)) = some (y.ce) from g1)
          let t4 : Tp pr := .g .row (show (lkp (List.map intt p) (↑d.length : Int)) = some ([T.int IntKind.i64 z]) from g2)
          let t9 : Tp pr := .g .row (show (lkp (List.map intt p) (↑L.length : Int)) = some ([T.int IntKind.i64 q]) from g3)
          let t14 : Tp pr := .b (show (decide (z = q)) = true by (simp; omega))
          let t22 : Tp pr := .b (show (decide (x.from_ < y.to_)) = false by (simp; omega))
          let t30 : Tp pr := .i (wrap_i64 (a := (↑d.length : Int) + (1 : Int)) (by omega) (by omega))
          let t31 : Tp pr := .a (Ev.castq (congrArg (fun x_1 => Ev.Q.loop (lq pr (62 : FuncId) (1 : Nat)) (at_ [((0 : Nat), spq l), ((1 : Nat), isq p), ((5 : Nat), i64 (↑L.length : Int)), ((6 : Nat), V.ptr (0 : Nat) (1 : Nat) (0 : Nat) (0 : Nat)), ((9 : Nat), spq l), ((10 : Nat), i64 (↑l.length : Int)), ((11 : Nat), i64 (↑L.length : Int)), ((23 : Nat), spq L), ((24 : Nat), i64 (↑L.length : Int)), ((25 : Nat), i64 x_1)] [Ob.box [i64 x.from_, i64 x.to_]] (0 : Nat))) (show ((↑(d ++ [y]).length : Int)) = ((↑d.length : Int) + (1 : Int)) by simp)) (ih))
          exact .tp [t0, t1, .m (rfl : true = true), .m (rfl : true = true), t4, .m (rfl : true = true), .m (rfl : true = true), .m (rfl : true = true), .m (rfl : true = true), t9, .m (rfl : true = true), .m (rfl : true = true), .m (rfl : true = true), .m (rfl : true = true), t14, .m (rfl : true = true), .m (rfl : true = true), .m (rfl : true = true), .m (rfl : true = true), .m (rfl : true = true), .m (rfl : true = true), .m (rfl : true = true), t22, .m (rfl : true = true), .m (rfl : true = true), .m (rfl : true = true), .m (rfl : true = true), .m (rfl : true = true), .m (rfl : true = true), .b (rfl : false = false), t30, t31] (by kernel_rfl)
        · rw [hc, if_pos rfl] at ih
          rw [if_pos rfl]
          let t0 : Tp pr := .b (show (decide ((↑d.length : Int) < (↑L.length : Int))) = true by (simp; omega))
          let t1 : Tp pr := .g .row (show (lkp (List.map Span.ce L) (↑d.length : Int)) = some (y.ce) from g1)
          let t4 : Tp pr := .g .row (show (lkp (List.map intt p) (↑d.length : Int)) = some ([T.int IntKind.i64 z]) from g2)
          let t9 : Tp pr := .g .row (show (lkp (List.map intt p) (↑L.length : Int)) = some ([T.int IntKind.i64 q]) from g3)
          let t14 : Tp pr := .b (show (decide (z = q)) = true by (simp; omega))
          let t22 : Tp pr := .b (show (decide (x.from_ < y.to_)) = false by (simp; omega))
          let t30 : Tp pr := .i (wrap_i64 (a := (↑d.length : Int) + (1 : Int)) (by omega) (by omega))
          let t31 : Tp pr := .a (Ev.castq (congrArg (fun x_1 => Ev.Q.loop (lq pr (62 : FuncId) (1 : Nat)) (at_ [((0 : Nat), spq l), ((1 : Nat), isq p), ((5 : Nat), i64 (↑L.length : Int)), ((6 : Nat), V.ptr (0 : Nat) (1 : Nat) (0 : Nat) (0 : Nat)), ((9 : Nat), spq l), ((10 : Nat), i64 (↑l.length : Int)), ((11 : Nat), i64 (↑L.length : Int)), ((23 : Nat), spq L), ((24 : Nat), i64 (↑L.length : Int)), ((25 : Nat), i64 x_1)] [Ob.box [i64 x.from_, i64 x.to_]] (0 : Nat))) (show ((↑(d ++ [y]).length : Int)) = ((↑d.length : Int) + (1 : Int)) by simp)) (ih))
          exact .tp [t0, t1, .m (rfl : true = true), .m (rfl : true = true), t4, .m (rfl : true = true), .m (rfl : true = true), .m (rfl : true = true), .m (rfl : true = true), t9, .m (rfl : true = true), .m (rfl : true = true), .m (rfl : true = true), .m (rfl : true = true), t14, .m (rfl : true = true), .m (rfl : true = true), .m (rfl : true = true), .m (rfl : true = true), .m (rfl : true = true), .m (rfl : true = true), .m (rfl : true = true), t22, .m (rfl : true = true), .m (rfl : true = true), .m (rfl : true = true), .m (rfl : true = true), .m (rfl : true = true), .m (rfl : true = true), .b (rfl : false = false), t30, t31] (by kernel_rfl)
    · rw [show (z == q && meetB x y) = false by simp [c1], Bool.false_or]
      cases hc : clash (r.zip rp) (x, q)
      · rw [hc, if_neg (by simp)] at ih
        rw [if_neg (by simp)]
        let t0 : Tp pr := .b (show (decide ((↑d.length : Int) < (↑L.length : Int))) = true by (simp; omega))
        let t1 : Tp pr := .g .row (show (lkp (List.map Span.ce L) (↑d.length : Int)) = some (y.ce) from g1)
        let t4 : Tp pr := .g .row (show (lkp (List.map intt p) (↑d.length : Int)) = some ([T.int IntKind.i64 z]) from g2)
        let t9 : Tp pr := .g .row (show (lkp (List.map intt p) (↑L.length : Int)) = some ([T.int IntKind.i64 q]) from g3)
        let t14 : Tp pr := .b (show (decide (z = q)) = false by (simp; omega))
        let t30 : Tp pr := .i (wrap_i64 (a := (↑d.length : Int) + (1 : Int)) (by omega) (by omega))
        let t31 : Tp pr := .a (Ev.castq (congrArg (fun x_1 => Ev.Q.loop (lq pr (62 : FuncId) (1 : Nat)) (at_ [((0 : Nat), spq l), ((1 : Nat), isq p), ((5 : Nat), i64 (↑L.length : Int)), ((6 : Nat), V.ptr (0 : Nat) (1 : Nat) (0 : Nat) (0 : Nat)), ((9 : Nat), spq l), ((10 : Nat), i64 (↑l.length : Int)), ((11 : Nat), i64 (↑L.length : Int)), ((23 : Nat), spq L), ((24 : Nat), i64 (↑L.length : Int)), ((25 : Nat), i64 x_1)] [Ob.box [i64 x.from_, i64 x.to_]] (0 : Nat))) (show ((↑(d ++ [y]).length : Int)) = ((↑d.length : Int) + (1 : Int)) by simp)) (ih))
        exact .tp [t0, t1, .m (rfl : true = true), .m (rfl : true = true), t4, .m (rfl : true = true), .m (rfl : true = true), .m (rfl : true = true), .m (rfl : true = true), t9, .m (rfl : true = true), .m (rfl : true = true), .m (rfl : true = true), .m (rfl : true = true), t14, .m (rfl : true = true), .m (rfl : true = true), .m (rfl : true = true), .m (rfl : true = true), .m (rfl : true = true), .m (rfl : true = true), .m (rfl : true = true), .b (rfl : false = false), .m (rfl : true = true), .m (rfl : true = true), .m (rfl : true = true), .m (rfl : true = true), .m (rfl : true = true), .m (rfl : true = true), .b (rfl : false = false), t30, t31] (by kernel_rfl)
      · rw [hc, if_pos rfl] at ih
        rw [if_pos rfl]
        let t0 : Tp pr := .b (show (decide ((↑d.length : Int) < (↑L.length : Int))) = true by (simp; omega))
        let t1 : Tp pr := .g .row (show (lkp (List.map Span.ce L) (↑d.length : Int)) = some (y.ce) from g1)
        let t4 : Tp pr := .g .row (show (lkp (List.map intt p) (↑d.length : Int)) = some ([T.int IntKind.i64 z]) from g2)
        let t9 : Tp pr := .g .row (show (lkp (List.map intt p) (↑L.length : Int)) = some ([T.int IntKind.i64 q]) from g3)
        let t14 : Tp pr := .b (show (decide (z = q)) = false by (simp; omega))
        let t30 : Tp pr := .i (wrap_i64 (a := (↑d.length : Int) + (1 : Int)) (by omega) (by omega))
        let t31 : Tp pr := .a (Ev.castq (congrArg (fun x_1 => Ev.Q.loop (lq pr (62 : FuncId) (1 : Nat)) (at_ [((0 : Nat), spq l), ((1 : Nat), isq p), ((5 : Nat), i64 (↑L.length : Int)), ((6 : Nat), V.ptr (0 : Nat) (1 : Nat) (0 : Nat) (0 : Nat)), ((9 : Nat), spq l), ((10 : Nat), i64 (↑l.length : Int)), ((11 : Nat), i64 (↑L.length : Int)), ((23 : Nat), spq L), ((24 : Nat), i64 (↑L.length : Int)), ((25 : Nat), i64 x_1)] [Ob.box [i64 x.from_, i64 x.to_]] (0 : Nat))) (show ((↑(d ++ [y]).length : Int)) = ((↑d.length : Int) + (1 : Int)) by simp)) (ih))
        exact .tp [t0, t1, .m (rfl : true = true), .m (rfl : true = true), t4, .m (rfl : true = true), .m (rfl : true = true), .m (rfl : true = true), .m (rfl : true = true), t9, .m (rfl : true = true), .m (rfl : true = true), .m (rfl : true = true), .m (rfl : true = true), t14, .m (rfl : true = true), .m (rfl : true = true), .m (rfl : true = true), .m (rfl : true = true), .m (rfl : true = true), .m (rfl : true = true), .m (rfl : true = true), .b (rfl : false = false), .m (rfl : true = true), .m (rfl : true = true), .m (rfl : true = true), .m (rfl : true = true), .m (rfl : true = true), .m (rfl : true = true), .b (rfl : false = false), t30, t31] (by kernel_rfl)
def plO : Bool → Out
  | true => .exit 0 (at_ [] [] 0)
  | false => .ret (at_ [(4, bl false)] [] 0)
def clO (l : List Span) (p : List Int) (k : Int) : Bool → Out
  | true => .ret (at_ [(4, bl false)] [] 0)
  | false => .exit 2 (at_ [(0, spq l), (1, isq p), (9, spq l), (10, i64 l.length), (11, i64 k)] [] 0)
theorem plI_step (l : List Span) (p : List Int) (hl : l.length ≤ 1000) (y : Span) (r d : List Span) (z : Int) (rp dp : List Int) (h1 : l = d ++ y :: r) (h2 : p = dp ++ z :: rp) (h3 : dp.length = d.length) (C B : Bool) (k : Int) (hk : k = d.length)
    (ih : Ev pr (.loop (lq pr 62 0) (at_ [(0, spq l), (1, isq p), (9, spq l), (10, i64 l.length), (11, i64 (k + 1))] [] 0)) (plO B))
    (g : Ev pr (.loop (lq pr 62 1) (at_ [(0, spq l), (1, isq p), (5, i64 k), (6, .ptr 0 1 0 0), (9, spq l), (10, i64 l.length), (11, i64 k), (23, spq d), (24, i64 d.length), (25, i64 0)] [.box [i64 y.from_, i64 y.to_]] 0)) (clO l p k C)) :
    Ev pr (.loop (lq pr 62 0) (at_ [(0, spq l), (1, isq p), (9, spq l), (10, i64 l.length), (11, i64 k)] [] 0))
      (plO (if z < 0 then false else if C = true then false else B)) := by
  have hll0 : (l.length : Int) = d.length + 1 + r.length := by simp [h1]; omega
  have hll : (l.length : Int) = k + 1 + r.length := by omega
  have hk0 : 0 ≤ k := by omega
  have g1 : lkp (l.map Span.ce) (d.length : Int) = some y.ce := by rw [h1]; simp
  rw [← hk] at g1
  have g2 : lkp (p.map intt) (d.length : Int) = some [T.int .i64 z] := by rw [h2, ← h3]; simp [intt]
  rw [← hk] at g2
  have ht : List.take k.toNat (l.map Span.ce) = d.map Span.ce := by rw [h1, hk]; simp
  by_cases c : z < 0
  · rw [if_pos c]
    unfold plO
    let t0 : Tp pr := .b (show (decide (k < (↑l.length : Int))) = true by (simp; omega))
    let t1 : Tp pr := .g .row (show (lkp (List.map Span.ce l) k) = some (y.ce) from g1)
    let t2 : Tp pr := .g .row (show (lkp (List.map intt p) k) = some ([T.int IntKind.i64 z]) from g2)
    let t3 : Tp pr := .b (show (decide (z < (0 : Int))) = true by (simp; omega))
    exact .tp [t0, t1, t2, t3] (by kernel_rfl)
  · rw [if_neg c]
    cases C
    · rw [if_neg (by simp)]
      cases B
      · unfold plO clO at *
        let t0 : Tp pr := .b (show (decide (k < (↑l.length : Int))) = true by (simp; omega))
        let t1 : Tp pr := .g .row (show (lkp (List.map Span.ce l) k) = some (y.ce) from g1)
        let t2 : Tp pr := .g .row (show (lkp (List.map intt p) k) = some ([T.int IntKind.i64 z]) from g2)
        let t3 : Tp pr := .b (show (decide (z < (0 : Int))) = false by (simp; omega))
        let t4 : Tp pr := .m (show (decide ((0 : Int) ≤ (0 : Int) ∧ (0 : Int) ≤ k ∧ k ≤ (↑(List.map Span.ce l).length : Int))) = true by (simp; omega))
        let t5 : Tp pr := .n .rows (show (List.take (k.toNat - (0 : Nat)) (List.drop (0 : Nat) (List.map Span.ce l))) = List.take k.toNat (List.map Span.ce l) by simp)
        let t6 : Tp pr := .i (show ((↑(List.take k.toNat (List.map Span.ce l)).length : Int) : Int) = (↑(min k.toNat l.length) : Int) by simp)
        let t7 : Tp pr := .a (Ev.castq ((congrArg (fun x => Q.loop (lq pr (62 : FuncId) (1 : Nat)) (at_ [((0 : Nat), V.t (T.seq (2 : Nat) (List.map Span.ce l))), ((1 : Nat), V.t (T.seq (1 : Nat) (List.map intt p))), ((5 : Nat), V.t (T.int IntKind.i64 k)), ((6 : Nat), V.ptr (0 : Nat) (1 : Nat) (0 : Nat) (0 : Nat)), ((9 : Nat), V.t (T.seq (2 : Nat) (List.map Span.ce l))), ((10 : Nat), V.t (T.int IntKind.i64 (↑l.length : Int))), ((11 : Nat), V.t (T.int IntKind.i64 k)), ((23 : Nat), V.t (T.seq (2 : Nat) x)), ((24 : Nat), V.t (T.int IntKind.i64 (↑d.length : Int))), ((25 : Nat), V.t (T.int IntKind.i64 (0 : Int)))] [Ob.box [V.t (T.int IntKind.i64 y.from_), V.t (T.int IntKind.i64 y.to_)]] (0 : Nat))) (show (List.map Span.ce d) = (List.take k.toNat (List.map Span.ce l)) by simp [*])).trans (congrArg (fun x => Q.loop (lq pr (62 : FuncId) (1 : Nat)) (at_ [((0 : Nat), V.t (T.seq (2 : Nat) (List.map Span.ce l))), ((1 : Nat), V.t (T.seq (1 : Nat) (List.map intt p))), ((5 : Nat), V.t (T.int IntKind.i64 k)), ((6 : Nat), V.ptr (0 : Nat) (1 : Nat) (0 : Nat) (0 : Nat)), ((9 : Nat), V.t (T.seq (2 : Nat) (List.map Span.ce l))), ((10 : Nat), V.t (T.int IntKind.i64 (↑l.length : Int))), ((11 : Nat), V.t (T.int IntKind.i64 k)), ((23 : Nat), V.t (T.seq (2 : Nat) (List.take k.toNat (List.map Span.ce l)))), ((24 : Nat), V.t (T.int IntKind.i64 x)), ((25 : Nat), V.t (T.int IntKind.i64 (0 : Int)))] [Ob.box [V.t (T.int IntKind.i64 y.from_), V.t (T.int IntKind.i64 y.to_)]] (0 : Nat))) (show ((↑d.length : Int)) = ((↑(if k.toNat ≤ l.length then k.toNat else l.length) : Int)) by simp [*]))) (g))
        let t8 : Tp pr := .i (wrap_i64 (a := k + (1 : Int)) (by omega) (by omega))
        exact .tp [t0, t1, t2, t3, t4, t5, t6, t7, t8, .a (ih)] (by kernel_rfl)
      · unfold plO clO at *
        let t0 : Tp pr := .b (show (decide (k < (↑l.length : Int))) = true by (simp; omega))
        let t1 : Tp pr := .g .row (show (lkp (List.map Span.ce l) k) = some (y.ce) from g1)
        let t2 : Tp pr := .g .row (show (lkp (List.map intt p) k) = some ([T.int IntKind.i64 z]) from g2)
        let t3 : Tp pr := .b (show (decide (z < (0 : Int))) = false by (simp; omega))
        let t4 : Tp pr := .m (show (decide ((0 : Int) ≤ (0 : Int) ∧ (0 : Int) ≤ k ∧ k ≤ (↑(List.map Span.ce l).length : Int))) = true by (simp; omega))
        let t5 : Tp pr := .n .rows (show (List.take (k.toNat - (0 : Nat)) (List.drop (0 : Nat) (List.map Span.ce l))) = List.take k.toNat (List.map Span.ce l) by simp)
        let t6 : Tp pr := .i (show ((↑(List.take k.toNat (List.map Span.ce l)).length : Int) : Int) = (↑(min k.toNat l.length) : Int) by simp)
        let t7 : Tp pr := .a (Ev.castq ((congrArg (fun x => Q.loop (lq pr (62 : FuncId) (1 : Nat)) (at_ [((0 : Nat), V.t (T.seq (2 : Nat) (List.map Span.ce l))), ((1 : Nat), V.t (T.seq (1 : Nat) (List.map intt p))), ((5 : Nat), V.t (T.int IntKind.i64 k)), ((6 : Nat), V.ptr (0 : Nat) (1 : Nat) (0 : Nat) (0 : Nat)), ((9 : Nat), V.t (T.seq (2 : Nat) (List.map Span.ce l))), ((10 : Nat), V.t (T.int IntKind.i64 (↑l.length : Int))), ((11 : Nat), V.t (T.int IntKind.i64 k)), ((23 : Nat), V.t (T.seq (2 : Nat) x)), ((24 : Nat), V.t (T.int IntKind.i64 (↑d.length : Int))), ((25 : Nat), V.t (T.int IntKind.i64 (0 : Int)))] [Ob.box [V.t (T.int IntKind.i64 y.from_), V.t (T.int IntKind.i64 y.to_)]] (0 : Nat))) (show (List.map Span.ce d) = (List.take k.toNat (List.map Span.ce l)) by simp [*])).trans (congrArg (fun x => Q.loop (lq pr (62 : FuncId) (1 : Nat)) (at_ [((0 : Nat), V.t (T.seq (2 : Nat) (List.map Span.ce l))), ((1 : Nat), V.t (T.seq (1 : Nat) (List.map intt p))), ((5 : Nat), V.t (T.int IntKind.i64 k)), ((6 : Nat), V.ptr (0 : Nat) (1 : Nat) (0 : Nat) (0 : Nat)), ((9 : Nat), V.t (T.seq (2 : Nat) (List.map Span.ce l))), ((10 : Nat), V.t (T.int IntKind.i64 (↑l.length : Int))), ((11 : Nat), V.t (T.int IntKind.i64 k)), ((23 : Nat), V.t (T.seq (2 : Nat) (List.take k.toNat (List.map Span.ce l)))), ((24 : Nat), V.t (T.int IntKind.i64 x)), ((25 : Nat), V.t (T.int IntKind.i64 (0 : Int)))] [Ob.box [V.t (T.int IntKind.i64 y.from_), V.t (T.int IntKind.i64 y.to_)]] (0 : Nat))) (show ((↑d.length : Int)) = ((↑(if k.toNat ≤ l.length then k.toNat else l.length) : Int)) by simp [*]))) (g))
        let t8 : Tp pr := .i (wrap_i64 (a := k + (1 : Int)) (by omega) (by omega))
        exact .tp [t0, t1, t2, t3, t4, t5, t6, t7, t8, .a (ih)] (by kernel_rfl)
    · rw [if_pos rfl]
      unfold plO clO at *
      let t0 : Tp pr := .b (show (decide (k < (↑l.length : Int))) = true by (simp; omega))
      let t1 : Tp pr := .g .row (show (lkp (List.map Span.ce l) k) = some (y.ce) from g1)
      let t2 : Tp pr := .g .row (show (lkp (List.map intt p) k) = some ([T.int IntKind.i64 z]) from g2)
      let t3 : Tp pr := .b (show (decide (z < (0 : Int))) = false by (simp; omega))
      let t4 : Tp pr := .m (show (decide ((0 : Int) ≤ (0 : Int) ∧ (0 : Int) ≤ k ∧ k ≤ (↑(List.map Span.ce l).length : Int))) = true by (simp; omega))
      let t5 : Tp pr := .n .rows (show (List.take (k.toNat - (0 : Nat)) (List.drop (0 : Nat) (List.map Span.ce l))) = List.take k.toNat (List.map Span.ce l) by simp)
      let t6 : Tp pr := .i (show ((↑(List.take k.toNat (List.map Span.ce l)).length : Int) : Int) = (↑(min k.toNat l.length) : Int) by simp)
      let t7 : Tp pr := .a (Ev.castq ((congrArg (fun x => Q.loop (lq pr (62 : FuncId) (1 : Nat)) (at_ [((0 : Nat), V.t (T.seq (2 : Nat) (List.map Span.ce l))), ((1 : Nat), V.t (T.seq (1 : Nat) (List.map intt p))), ((5 : Nat), V.t (T.int IntKind.i64 k)), ((6 : Nat), V.ptr (0 : Nat) (1 : Nat) (0 : Nat) (0 : Nat)), ((9 : Nat), V.t (T.seq (2 : Nat) (List.map Span.ce l))), ((10 : Nat), V.t (T.int IntKind.i64 (↑l.length : Int))), ((11 : Nat), V.t (T.int IntKind.i64 k)), ((23 : Nat), V.t (T.seq (2 : Nat) x)), ((24 : Nat), V.t (T.int IntKind.i64 (↑d.length : Int))), ((25 : Nat), V.t (T.int IntKind.i64 (0 : Int)))] [Ob.box [V.t (T.int IntKind.i64 y.from_), V.t (T.int IntKind.i64 y.to_)]] (0 : Nat))) (show (List.map Span.ce d) = (List.take k.toNat (List.map Span.ce l)) by simp [*])).trans (congrArg (fun x => Q.loop (lq pr (62 : FuncId) (1 : Nat)) (at_ [((0 : Nat), V.t (T.seq (2 : Nat) (List.map Span.ce l))), ((1 : Nat), V.t (T.seq (1 : Nat) (List.map intt p))), ((5 : Nat), V.t (T.int IntKind.i64 k)), ((6 : Nat), V.ptr (0 : Nat) (1 : Nat) (0 : Nat) (0 : Nat)), ((9 : Nat), V.t (T.seq (2 : Nat) (List.map Span.ce l))), ((10 : Nat), V.t (T.int IntKind.i64 (↑l.length : Int))), ((11 : Nat), V.t (T.int IntKind.i64 k)), ((23 : Nat), V.t (T.seq (2 : Nat) (List.take k.toNat (List.map Span.ce l)))), ((24 : Nat), V.t (T.int IntKind.i64 x)), ((25 : Nat), V.t (T.int IntKind.i64 (0 : Int)))] [Ob.box [V.t (T.int IntKind.i64 y.from_), V.t (T.int IntKind.i64 y.to_)]] (0 : Nat))) (show ((↑d.length : Int)) = ((↑(if k.toNat ≤ l.length then k.toNat else l.length) : Int)) by simp [*]))) (g))
      exact .tp [t0, t1, t2, t3, t4, t5, t6, t7] (by kernel_rfl)
theorem plIL_ev (l : List Span) (p : List Int) (hl : l.length ≤ 1000) (hp : p.length = l.length) : ∀ (r d : List Span) (rp dp : List Int), l = d ++ r → p = dp ++ rp → dp.length = d.length →
    Ev pr (.loop (lq pr 62 0) (at_ [(0, spq l), (1, isq p), (9, spq l), (10, i64 l.length), (11, i64 d.length)] [] 0)) (plO (placedGo (d.zip dp) (r.zip rp)))
  | [], d, rp, dp, h1, h2, h3 => by
    have hll : (l.length : Int) = d.length := by simp [h1]
    rw [show placedGo (d.zip dp) (([] : List Span).zip rp) = true from rfl]
    unfold plO
    let t0 : Tp pr := .b (show (decide ((↑d.length : Int) < (↑l.length : Int))) = false by (simp; omega))
    exact .tp [t0] (by kernel_rfl)
  | y :: r, d, [], dp, h1, h2, h3 => by
    rw [h1, h2] at hp
    simp at hp
    omega
  | y :: r, d, z :: rp, dp, h1, h2, h3 => by
    have ih := plIL_ev l p hl hp r (d ++ [y]) rp (dp ++ [z]) (by simp [h1]) (by simp [h2]) (by simp [h3])
    have g := clIL_ev l p hl d r dp rp y z h1 h2 h3 d [] dp [] rfl rfl rfl
    rw [List.zip_append h3.symm, show (((d ++ [y]).length : Nat) : Int) = (d.length : Int) + 1 by simp] at ih
    have e : placedGo (d.zip dp) ((y :: r).zip (z :: rp)) = (if z < 0 then false else if clash (d.zip dp) (y, z) = true then false else placedGo (d.zip dp ++ [y].zip [z]) (r.zip rp)) := by
      rw [List.zip_cons_cons, placedGo]
      rfl
    rw [e]
    refine plI_step l p hl y r d z rp dp h1 h2 h3 _ _ _ rfl ih ?_
    rw [show clO l p d.length (clash (d.zip dp) (y, z)) = (if clash (d.zip dp) (y, z) = true then .ret (at_ [(4, bl false)] [] 0) else .exit 2 (at_ [(0, spq l), (1, isq p), (9, spq l), (10, i64 l.length), (11, i64 d.length)] [] 0)) by
      cases clash (d.zip dp) (y, z) <;> rfl]
    exact g
theorem placedI_ev (l : List Span) (p : List Int) (hl : l.length ≤ 1000) (hp : p.length = l.length) : Ev pr (.call 62 [spq l, isq p] []) (.val (bl (placedB l p)) []) := by
  have g := plIL_ev l p hl hp l [] p [] rfl rfl rfl
  unfold placedB
  rw [show ([] : List Span).zip ([] : List Int) = [] from rfl] at g
  generalize placedGo [] (l.zip p) = B at *
  cases B
  · unfold plO at g
    let t0 : Tp pr := .i (show ((↑(List.map Span.ce l).length : Int) : Int) = (↑l.length : Int) by simp)
    exact .tp [t0, .a (g)] (by kernel_rfl)
  · unfold plO at g
    let t0 : Tp pr := .i (show ((↑(List.map Span.ce l).length : Int) : Int) = (↑l.length : Int) by simp)
    exact .tp [t0, .a (g)] (by kernel_rfl)
theorem IsPlI_ev (l : List Span) (p : List Int) (hl : l.length ≤ 1048576) (h : goodSp l = true) (hp : p.length = l.length) : Ev pr (.call 14 [spq l, isq p] []) (.val (.tup [bl (placedB l p), bl true]) []) := by
  have h30 : l.length ≤ 30 := (good_of h).1
  have g := GoodSpansI_ev l hl
  rw [h] at g
  have a := placedI_ev l p (by omega) hp
  let t2 : Tp pr := .i (show ((↑(List.map intt p).length : Int) : Int) = (↑p.length : Int) by simp)
  let t3 : Tp pr := .i (show ((↑(List.map Span.ce l).length : Int) : Int) = (↑l.length : Int) by simp)
  let t4 : Tp pr := .b (show ((↑p.length : Int) != (↑l.length : Int)) = false by (simp; omega))
  exact .tp [.a (g), .b (rfl : false = false), t2, t3, t4, .a (a)] (by kernel_rfl)
theorem IsPlIn_ev (l : List Span) (p : List Int) (hl : l.length ≤ 1048576) (hl2 : p.length ≤ 1048576) (h : ¬ (goodSp l = true ∧ p.length = l.length)) : Ev pr (.call 14 [spq l, isq p] []) (.val (.tup [bl false, bl false]) []) := by
  have g := GoodSpansI_ev l hl
  cases hg : goodSp l
  · rw [hg] at g
    exact .tp [.a (g), .b (rfl : true = true), .b (rfl : true = true)] (by kernel_rfl)
  · rw [hg] at g
    have hne : (p.length : Int) ≠ l.length := fun e => h ⟨hg, by omega⟩
    let t2 : Tp pr := .i (show ((↑(List.map intt p).length : Int) : Int) = (↑p.length : Int) by simp)
    let t3 : Tp pr := .i (show ((↑(List.map Span.ce l).length : Int) : Int) = (↑l.length : Int) by simp)
    let t4 : Tp pr := .b (show ((↑p.length : Int) != (↑l.length : Int)) = true by (simp; omega))
    exact .tp [.a (g), .b (rfl : false = false), t2, t3, t4] (by kernel_rfl)
end Go.Ev

/- Spans: whether they are placed, by the reference; what is free. -/
namespace Go.Ev
set_option linter.unusedVariables false
set_option linter.unusedSimpArgs false
open Go.Proofs
set_option maxRecDepth 100000
set_option linter.unusedVariables false
set_option linter.unusedSimpArgs false
set_option maxHeartbeats 2000000
theorem meetS_ev (a b : Span) : Ev pr (.call 67 [vs a.ce, vs b.ce] []) (.val (bl (meetB a b)) []) := by
  unfold meetB
  by_cases c1 : a.from_ < b.to_
  · by_cases c2 : b.from_ < a.to_
    · let t0 : Tp pr := .b (show (decide (a.from_ < b.to_)) = true by (simp; omega))
      exact .tpe [t0] (Out.val (V.t (T.bool (decide (b.from_ < a.to_)))) []) (by kernel_rfl) (congrArg (fun x => Out.val (V.t (T.bool x)) []) (show (decide (b.from_ < a.to_)) = (decide (a.from_ < b.to_) && decide (b.from_ < a.to_)) by simp [c1, c2]))
    · let t0 : Tp pr := .b (show (decide (a.from_ < b.to_)) = true by (simp; omega))
      exact .tpe [t0] (Out.val (V.t (T.bool (decide (b.from_ < a.to_)))) []) (by kernel_rfl) (congrArg (fun x => Out.val (V.t (T.bool x)) []) (show (decide (b.from_ < a.to_)) = (decide (a.from_ < b.to_) && decide (b.from_ < a.to_)) by simp [c1, c2]))
  · let t0 : Tp pr := .b (show (decide (a.from_ < b.to_)) = false by (simp; omega))
    exact .tpe [t0] (Out.val (V.t (T.bool false)) []) (by kernel_rfl) (congrArg (fun x => Out.val (V.t (T.bool x)) []) (show (false) = (decide (a.from_ < b.to_) && decide (b.from_ < a.to_)) by simp [c1]))
theorem clSL_ev (l : List Span) (p : List Int) (hl : l.length ≤ 1000) (L R : List Span) (P Q : List Int) (x : Span) (q : Int) (e1 : l = L ++ x :: R) (e2 : p = P ++ q :: Q) (e3 : P.length = L.length) :
    ∀ (r d : List Span) (rp dp : List Int), L = d ++ r → P = dp ++ rp → dp.length = d.length →
    Ev pr (.loop (lq pr 22 1) (at_ [(0, spq l), (1, isq p), (6, i64 L.length), (7, .ptr 0 1 0 0), (20, spq l), (21, i64 l.length), (22, i64 L.length), (34, spq L), (35, i64 L.length), (36, i64 d.length)] [.box [i64 x.from_, i64 x.to_]] 0))
      (if clash (r.zip rp) (x, q) = true then .ret (at_ [(4, bl false), (5, bl true)] [] 0) else .exit 2 (at_ [(0, spq l), (1, isq p), (20, spq l), (21, i64 l.length), (22, i64 L.length)] [] 0))
  | [], d, rp, dp, h1, h2, h3 => by
    have hll : (L.length : Int) = d.length := by simp [h1]
    rw [show clash (([] : List Span).zip rp) (x, q) = false from rfl, if_neg (by simp)]
    let t0 : Tp pr := .b (show (decide ((↑d.length : Int) < (↑L.length : Int))) = false by (simp; omega))
    exact .tp [t0] (by kernel_rfl)
  | y :: r, d, [], dp, h1, h2, h3 => by
    rw [h1, h2] at e3
    simp at e3
    omega
  | y :: r, d, z :: rp, dp, h1, h2, h3 => by
    have hll : (L.length : Int) = d.length + 1 + r.length := by simp [h1]; omega
    have hl2 : (l.length : Int) = L.length + 1 + R.length := by simp [e1]; omega
    have g1 : lkp (L.map Span.ce) (d.length : Int) = some y.ce := by rw [h1]; simp
    have g2 : lkp (p.map intt) (d.length : Int) = some [T.int .i64 z] := by rw [e2, h2, ← h3]; simp [intt]
    have g3 : lkp (p.map intt) (L.length : Int) = some [T.int .i64 q] := by rw [e2, ← e3]; simp [intt]
    have hm := meetS_ev x y
    have ih := clSL_ev l p hl L R P Q x q e1 e2 e3 r (d ++ [y]) rp (dp ++ [z]) (by simp [h1]) (by simp [h2]) (by simp [h3])
    rw [List.zip_cons_cons, clash]
    by_cases c1 : z = q
    · cases c2 : meetB x y
      · rw [c2] at hm
        rw [show (z == q && false) = false by simp, Bool.false_or]
        cases hc : clash (r.zip rp) (x, q)
        · rw [hc, if_neg (by simp)] at ih
          rw [if_neg (by simp)]
          let t0 : Tp pr := .b (show (decide ((↑d.length : Int) < (↑L.length : Int))) = true by (simp; omega))
          let t1 : Tp pr := .g .row (show (lkp (List.map Span.ce L) (↑d.length : Int)) = some (y.ce) from g1)
          let t4 : Tp pr := .g .row (show (lkp (List.map intt p) (↑L.length : Int)) = some ([T.int IntKind.i64 q]) from g3)
          let t9 : Tp pr := .g .row (show (lkp (List.map intt p) (↑d.length : Int)) = some ([T.int IntKind.i64 z]) from g2)
          let t14 : Tp pr := .b (show (decide (q = z)) = true by (simp; omega))
          let t21 : Tp pr := .i (wrap_i64 (a := (↑d.length : Int) + (1 : Int)) (by omega) (by omega))
          let t22 : Tp pr := .a (Ev.castq (congrArg (fun x_1 => Ev.Q.loop (lq pr (22 : FuncId) (1 : Nat)) (at_ [((0 : Nat), spq l), ((1 : Nat), isq p), ((6 : Nat), i64 (↑L.length : Int)), ((7 : Nat), V.ptr (0 : Nat) (1 : Nat) (0 : Nat) (0 : Nat)), ((20 : Nat), spq l), ((21 : Nat), i64 (↑l.length : Int)), ((22 : Nat), i64 (↑L.length : Int)), ((34 : Nat), spq L), ((35 : Nat), i64 (↑L.length : Int)), ((36 : Nat), i64 x_1)] [Ob.box [i64 x.from_, i64 x.to_]] (0 : Nat))) (show ((↑(d ++ [y]).length : Int)) = ((↑d.length : Int) + (1 : Int)) by simp)) (ih))
          exact .tp [t0, t1, .m (rfl : true = true), .m (rfl : true = true), t4, .m (rfl : true = true), .m (rfl : true = true), .m (rfl : true = true), .m (rfl : true = true), t9, .m (rfl : true = true), .m (rfl : true = true), .m (rfl : true = true), .m (rfl : true = true), t14, .m (rfl : true = true), .m (rfl : true = true), .a (hm), .m (rfl : true = true), .m (rfl : true = true), .b (rfl : false = false), t21, t22] (by kernel_rfl)
        · rw [hc, if_pos rfl] at ih
          rw [if_pos rfl]
          let t0 : Tp pr := .b (show (decide ((↑d.length : Int) < (↑L.length : Int))) = true by (simp; omega))
          let t1 : Tp pr := .g .row (show (lkp (List.map Span.ce L) (↑d.length : Int)) = some (y.ce) from g1)
          let t4 : Tp pr := .g .row (show (lkp (List.map intt p) (↑L.length : Int)) = some ([T.int IntKind.i64 q]) from g3)
          let t9 : Tp pr := .g .row (show (lkp (List.map intt p) (↑d.length : Int)) = some ([T.int IntKind.i64 z]) from g2)
          let t14 : Tp pr := .b (show (decide (q = z)) = true by (simp; omega))
          let t21 : Tp pr := .i (wrap_i64 (a := (↑d.length : Int) + (1 : Int)) (by omega) (by omega))
          let t22 : Tp pr := .a (Ev.castq (congrArg (fun x_1 => Ev.Q.loop (lq pr (22 : FuncId) (1 : Nat)) (at_ [((0 : Nat), spq l), ((1 : Nat), isq p), ((6 : Nat), i64 (↑L.length : Int)), ((7 : Nat), V.ptr (0 : Nat) (1 : Nat) (0 : Nat) (0 : Nat)), ((20 : Nat), spq l), ((21 : Nat), i64 (↑l.length : Int)), ((22 : Nat), i64 (↑L.length : Int)), ((34 : Nat), spq L), ((35 : Nat), i64 (↑L.length : Int)), ((36 : Nat), i64 x_1)] [Ob.box [i64 x.from_, i64 x.to_]] (0 : Nat))) (show ((↑(d ++ [y]).length : Int)) = ((↑d.length : Int) + (1 : Int)) by simp)) (ih))
          exact .tp [t0, t1, .m (rfl : true = true), .m (rfl : true = true), t4, .m (rfl : true = true), .m (rfl : true = true), .m (rfl : true = true), .m (rfl : true = true), t9, .m (rfl : true = true), .m (rfl : true = true), .m (rfl : true = true), .m (rfl : true = true), t14, .m (rfl : true = true), .m (rfl : true = true), .a (hm), .m (rfl : true = true), .m (rfl : true = true), .b (rfl : false = false), t21, t22] (by kernel_rfl)
      · rw [c2] at hm
        rw [show (z == q && true) = true by simp [c1], Bool.true_or, if_pos rfl]
        let t0 : Tp pr := .b (show (decide ((↑d.length : Int) < (↑L.length : Int))) = true by (simp; omega))
        let t1 : Tp pr := .g .row (show (lkp (List.map Span.ce L) (↑d.length : Int)) = some (y.ce) from g1)
        let t4 : Tp pr := .g .row (show (lkp (List.map intt p) (↑L.length : Int)) = some ([T.int IntKind.i64 q]) from g3)
        let t9 : Tp pr := .g .row (show (lkp (List.map intt p) (↑d.length : Int)) = some ([T.int IntKind.i64 z]) from g2)
        let t14 : Tp pr := .b (show (decide (q = z)) = true by (simp; omega))
        exact .tp [t0, t1, .m (rfl : true = true), .m (rfl : true = true), t4, .m (rfl : true = true), .m (rfl : true = true), .m (rfl : true = true), .m (rfl : true = true), t9, .m (rfl : true = true), .m (rfl : true = true), .m (rfl : true = true), .m (rfl : true = true), t14, .m (rfl : true = true), .m (rfl : true = true), .a (hm), .m (rfl : true = true), .m (rfl : true = true), .b (rfl : true = true)] (by kernel_rfl)
    · rw [show (z == q && meetB x y) = false by simp [c1], Bool.false_or]
      cases hc : clash (r.zip rp) (x, q)
      · rw [hc, if_neg (by simp)] at ih
        rw [if_neg (by simp)]
        let t0 : Tp pr := .b (show (decide ((↑d.length : Int) < (↑L.length : Int))) = true by (simp; omega))
        let t1 : Tp pr := .g .row (show (lkp (List.map Span.ce L) (↑d.length : Int)) = some (y.ce) from g1)
        let t4 : Tp pr := .g .row (show (lkp (List.map intt p) (↑L.length : Int)) = some ([T.int IntKind.i64 q]) from g3)
        let t9 : Tp pr := .g .row (show (lkp (List.map intt p) (↑d.length : Int)) = some ([T.int IntKind.i64 z]) from g2)
        let t14 : Tp pr := .b (show (decide (q = z)) = false by (simp; omega))
        let t20 : Tp pr := .i (wrap_i64 (a := (↑d.length : Int) + (1 : Int)) (by omega) (by omega))
        let t21 : Tp pr := .a (Ev.castq (congrArg (fun x_1 => Ev.Q.loop (lq pr (22 : FuncId) (1 : Nat)) (at_ [((0 : Nat), spq l), ((1 : Nat), isq p), ((6 : Nat), i64 (↑L.length : Int)), ((7 : Nat), V.ptr (0 : Nat) (1 : Nat) (0 : Nat) (0 : Nat)), ((20 : Nat), spq l), ((21 : Nat), i64 (↑l.length : Int)), ((22 : Nat), i64 (↑L.length : Int)), ((34 : Nat), spq L), ((35 : Nat), i64 (↑L.length : Int)), ((36 : Nat), i64 x_1)] [Ob.box [i64 x.from_, i64 x.to_]] (0 : Nat))) (show ((↑(d ++ [y]).length : Int)) = ((↑d.length : Int) + (1 : Int)) by simp)) (ih))
        exact .tp [t0, t1, .m (rfl : true = true), .m (rfl : true = true), t4, .m (rfl : true = true), .m (rfl : true = true), .m (rfl : true = true), .m (rfl : true = true), t9, .m (rfl : true = true), .m (rfl : true = true), .m (rfl : true = true), .m (rfl : true = true), t14, .m (rfl : true = true), .m (rfl : true = true), .m (rfl : true = true), .m (rfl : true = true), .b (rfl : false = false), t20, t21] (by kernel_rfl)
      · rw [hc, if_pos rfl] at ih
        rw [if_pos rfl]
        let t0 : Tp pr := .b (show (decide ((↑d.length : Int) < (↑L.length : Int))) = true by (simp; omega))
        let t1 : Tp pr := .g .row (show (lkp (List.map Span.ce L) (↑d.length : Int)) = some (y.ce) from g1)
        let t4 : Tp pr := .g .row (show (lkp (List.map intt p) (↑L.length : Int)) = some ([T.int IntKind.i64 q]) from g3)
        let t9 : Tp pr := .g .row (show (lkp (List.map intt p) (↑d.length : Int)) = some ([T.int IntKind.i64 z]) from g2)
        let t14 : Tp pr := .b (show (decide (q = z)) = false by (simp; omega))
        let t20 : Tp pr := .i (wrap_i64 (a := (↑d.length : Int) + (1 : Int)) (by omega) (by omega))
        let t21 : Tp pr := .a (Ev.castq (congrArg (fun x_1 => Ev.Q.loop (lq pr (22 : FuncId) (1 : Nat)) (at_ [((0 : Nat), spq l), ((1 : Nat), isq p), ((6 : Nat), i64 (↑L.length : Int)), ((7 : Nat), V.ptr (0 : Nat) (1 : Nat) (0 : Nat) (0 : Nat)), ((20 : Nat), spq l), ((21 : Nat), i64 (↑l.length : Int)), ((22 : Nat), i64 (↑L.length : Int)), ((34 : Nat), spq L), ((35 : Nat), i64 (↑L.length : Int)), ((36 : Nat), i64 x_1)] [Ob.box [i64 x.from_, i64 x.to_]] (0 : Nat))) (show ((↑(d ++ [y]).length : Int)) = ((↑d.length : Int) + (1 : Int)) by simp)) (ih))
        exact .tp [t0, t1, .m (rfl : true = true), .m (rfl : true = true), t4, .m (rfl : true = true), .m (rfl : true = true), .m (rfl : true = true), .m (rfl : true = true), t9, .m (rfl : true = true), .m (rfl : true = true), .m (rfl : true = true), .m (rfl : true = true), t14, .m (rfl : true = true), .m (rfl : true = true), .m (rfl : true = true), .m (rfl : true = true), .b (rfl : false = false), t20, t21] (by kernel_rfl)
def plP : Bool → Out
  | true => .exit 0 (at_ [] [] 0)
  | false => .ret (at_ [(4, bl false), (5, bl true)] [] 0)
def clP (l : List Span) (p : List Int) (k : Int) : Bool → Out
  | true => .ret (at_ [(4, bl false), (5, bl true)] [] 0)
  | false => .exit 2 (at_ [(0, spq l), (1, isq p), (20, spq l), (21, i64 l.length), (22, i64 k)] [] 0)
theorem plS_step (l : List Span) (p : List Int) (hl : l.length ≤ 1000) (y : Span) (r d : List Span) (z : Int) (rp dp : List Int) (h1 : l = d ++ y :: r) (h2 : p = dp ++ z :: rp) (h3 : dp.length = d.length) (C B : Bool) (k : Int) (hk : k = d.length)
    (ih : Ev pr (.loop (lq pr 22 0) (at_ [(0, spq l), (1, isq p), (20, spq l), (21, i64 l.length), (22, i64 (k + 1))] [] 0)) (plP B))
    (g : Ev pr (.loop (lq pr 22 1) (at_ [(0, spq l), (1, isq p), (6, i64 k), (7, .ptr 0 1 0 0), (20, spq l), (21, i64 l.length), (22, i64 k), (34, spq d), (35, i64 d.length), (36, i64 0)] [.box [i64 y.from_, i64 y.to_]] 0)) (clP l p k C)) :
    Ev pr (.loop (lq pr 22 0) (at_ [(0, spq l), (1, isq p), (20, spq l), (21, i64 l.length), (22, i64 k)] [] 0))
      (plP (if z < 0 then false else if C = true then false else B)) := by
  have hll0 : (l.length : Int) = d.length + 1 + r.length := by simp [h1]; omega
  have hll : (l.length : Int) = k + 1 + r.length := by omega
  have hk0 : 0 ≤ k := by omega
  have g1 : lkp (l.map Span.ce) (d.length : Int) = some y.ce := by rw [h1]; simp
  rw [← hk] at g1
  have g2 : lkp (p.map intt) (d.length : Int) = some [T.int .i64 z] := by rw [h2, ← h3]; simp [intt]
  rw [← hk] at g2
  have ht : List.take k.toNat (l.map Span.ce) = d.map Span.ce := by rw [h1, hk]; simp
  by_cases c : z < 0
  · rw [if_pos c]
    unfold plP
    let t0 : Tp pr := .b (show (decide (k < (↑l.length : Int))) = true by (simp; omega))
    let t1 : Tp pr := .g .row (show (lkp (List.map Span.ce l) k) = some (y.ce) from g1)
    let t2 : Tp pr := .g .row (show (lkp (List.map intt p) k) = some ([T.int IntKind.i64 z]) from g2)
    let t3 : Tp pr := .b (show (decide (z < (0 : Int))) = true by (simp; omega))
    exact .tp [t0, t1, t2, t3] (by kernel_rfl)
  · rw [if_neg c]
    cases C
    · rw [if_neg (by simp)]
      cases B
      · unfold plP clP at *
        let t0 : Tp pr := .b (show (decide (k < (↑l.length : Int))) = true by (simp; omega))
        let t1 : Tp pr := .g .row (show (lkp (List.map Span.ce l) k) = some (y.ce) from g1)
        let t2 : Tp pr := .g .row (show (lkp (List.map intt p) k) = some ([T.int IntKind.i64 z]) from g2)
        let t3 : Tp pr := .b (show (decide (z < (0 : Int))) = false by (simp; omega))
        let t4 : Tp pr := .m (show (decide ((0 : Int) ≤ (0 : Int) ∧ (0 : Int) ≤ k ∧ k ≤ (↑(List.map Span.ce l).length : Int))) = true by (simp; omega))
        let t5 : Tp pr := .n .rows (show (List.take (k.toNat - (0 : Nat)) (List.drop (0 : Nat) (List.map Span.ce l))) = List.take k.toNat (List.map Span.ce l) by simp)
        let t6 : Tp pr := .i (show ((↑(List.take k.toNat (List.map Span.ce l)).length : Int) : Int) = (↑(min k.toNat l.length) : Int) by simp)
        let t7 : Tp pr := .a (Ev.castq ((congrArg (fun x => Q.loop (lq pr (22 : FuncId) (1 : Nat)) (at_ [((0 : Nat), V.t (T.seq (2 : Nat) (List.map Span.ce l))), ((1 : Nat), V.t (T.seq (1 : Nat) (List.map intt p))), ((6 : Nat), V.t (T.int IntKind.i64 k)), ((7 : Nat), V.ptr (0 : Nat) (1 : Nat) (0 : Nat) (0 : Nat)), ((20 : Nat), V.t (T.seq (2 : Nat) (List.map Span.ce l))), ((21 : Nat), V.t (T.int IntKind.i64 (↑l.length : Int))), ((22 : Nat), V.t (T.int IntKind.i64 k)), ((34 : Nat), V.t (T.seq (2 : Nat) x)), ((35 : Nat), V.t (T.int IntKind.i64 (↑d.length : Int))), ((36 : Nat), V.t (T.int IntKind.i64 (0 : Int)))] [Ob.box [V.t (T.int IntKind.i64 y.from_), V.t (T.int IntKind.i64 y.to_)]] (0 : Nat))) (show (List.map Span.ce d) = (List.take k.toNat (List.map Span.ce l)) by simp [*])).trans (congrArg (fun x => Q.loop (lq pr (22 : FuncId) (1 : Nat)) (at_ [((0 : Nat), V.t (T.seq (2 : Nat) (List.map Span.ce l))), ((1 : Nat), V.t (T.seq (1 : Nat) (List.map intt p))), ((6 : Nat), V.t (T.int IntKind.i64 k)), ((7 : Nat), V.ptr (0 : Nat) (1 : Nat) (0 : Nat) (0 : Nat)), ((20 : Nat), V.t (T.seq (2 : Nat) (List.map Span.ce l))), ((21 : Nat), V.t (T.int IntKind.i64 (↑l.length : Int))), ((22 : Nat), V.t (T.int IntKind.i64 k)), ((34 : Nat), V.t (T.seq (2 : Nat) (List.take k.toNat (List.map Span.ce l)))), ((35 : Nat), V.t (T.int IntKind.i64 x)), ((36 : Nat), V.t (T.int IntKind.i64 (0 : Int)))] [Ob.box [V.t (T.int IntKind.i64 y.from_), V.t (T.int IntKind.i64 y.to_)]] (0 : Nat))) (show ((↑d.length : Int)) = ((↑(if k.toNat ≤ l.length then k.toNat else l.length) : Int)) by simp [*]))) (g))
        let t8 : Tp pr := .i (wrap_i64 (a := k + (1 : Int)) (by omega) (by omega))
        exact .tp [t0, t1, t2, t3, t4, t5, t6, t7, t8, .a (ih)] (by kernel_rfl)
      · unfold plP clP at *
        let t0 : Tp pr := .b (show (decide (k < (↑l.length : Int))) = true by (simp; omega))
        let t1 : Tp pr := .g .row (show (lkp (List.map Span.ce l) k) = some (y.ce) from g1)
        let t2 : Tp pr := .g .row (show (lkp (List.map intt p) k) = some ([T.int IntKind.i64 z]) from g2)
        let t3 : Tp pr := .b (show (decide (z < (0 : Int))) = false by (simp; omega))
        let t4 : Tp pr := .m (show (decide ((0 : Int) ≤ (0 : Int) ∧ (0 : Int) ≤ k ∧ k ≤ (↑(List.map Span.ce l).length : Int))) = true by (simp; omega))
        let t5 : Tp pr := .n .rows (show (List.take (k.toNat - (0 : Nat)) (List.drop (0 : Nat) (List.map Span.ce l))) = List.take k.toNat (List.map Span.ce l) by simp)
        let t6 : Tp pr := .i (show ((↑(List.take k.toNat (List.map Span.ce l)).length : Int) : Int) = (↑(min k.toNat l.length) : Int) by simp)
        let t7 : Tp pr := .a (Ev.castq ((congrArg (fun x => Q.loop (lq pr (22 : FuncId) (1 : Nat)) (at_ [((0 : Nat), V.t (T.seq (2 : Nat) (List.map Span.ce l))), ((1 : Nat), V.t (T.seq (1 : Nat) (List.map intt p))), ((6 : Nat), V.t (T.int IntKind.i64 k)), ((7 : Nat), V.ptr (0 : Nat) (1 : Nat) (0 : Nat) (0 : Nat)), ((20 : Nat), V.t (T.seq (2 : Nat) (List.map Span.ce l))), ((21 : Nat), V.t (T.int IntKind.i64 (↑l.length : Int))), ((22 : Nat), V.t (T.int IntKind.i64 k)), ((34 : Nat), V.t (T.seq (2 : Nat) x)), ((35 : Nat), V.t (T.int IntKind.i64 (↑d.length : Int))), ((36 : Nat), V.t (T.int IntKind.i64 (0 : Int)))] [Ob.box [V.t (T.int IntKind.i64 y.from_), V.t (T.int IntKind.i64 y.to_)]] (0 : Nat))) (show (List.map Span.ce d) = (List.take k.toNat (List.map Span.ce l)) by simp [*])).trans (congrArg (fun x => Q.loop (lq pr (22 : FuncId) (1 : Nat)) (at_ [((0 : Nat), V.t (T.seq (2 : Nat) (List.map Span.ce l))), ((1 : Nat), V.t (T.seq (1 : Nat) (List.map intt p))), ((6 : Nat), V.t (T.int IntKind.i64 k)), ((7 : Nat), V.ptr (0 : Nat) (1 : Nat) (0 : Nat) (0 : Nat)), ((20 : Nat), V.t (T.seq (2 : Nat) (List.map Span.ce l))), ((21 : Nat), V.t (T.int IntKind.i64 (↑l.length : Int))), ((22 : Nat), V.t (T.int IntKind.i64 k)), ((34 : Nat), V.t (T.seq (2 : Nat) (List.take k.toNat (List.map Span.ce l)))), ((35 : Nat), V.t (T.int IntKind.i64 x)), ((36 : Nat), V.t (T.int IntKind.i64 (0 : Int)))] [Ob.box [V.t (T.int IntKind.i64 y.from_), V.t (T.int IntKind.i64 y.to_)]] (0 : Nat))) (show ((↑d.length : Int)) = ((↑(if k.toNat ≤ l.length then k.toNat else l.length) : Int)) by simp [*]))) (g))
        let t8 : Tp pr := .i (wrap_i64 (a := k + (1 : Int)) (by omega) (by omega))
        exact .tp [t0, t1, t2, t3, t4, t5, t6, t7, t8, .a (ih)] (by kernel_rfl)
    · rw [if_pos rfl]
      unfold plP clP at *
      let t0 : Tp pr := .b (show (decide (k < (↑l.length : Int))) = true by (simp; omega))
      let t1 : Tp pr := .g .row (show (lkp (List.map Span.ce l) k) = some (y.ce) from g1)
      let t2 : Tp pr := .g .row (show (lkp (List.map intt p) k) = some ([T.int IntKind.i64 z]) from g2)
      let t3 : Tp pr := .b (show (decide (z < (0 : Int))) = false by (simp; omega))
      let t4 : Tp pr := .m (show (decide ((0 : Int) ≤ (0 : Int) ∧ (0 : Int) ≤ k ∧ k ≤ (↑(List.map Span.ce l).length : Int))) = true by (simp; omega))
      let t5 : Tp pr := .n .rows (show (List.take (k.toNat - (0 : Nat)) (List.drop (0 : Nat) (List.map Span.ce l))) = List.take k.toNat (List.map Span.ce l) by simp)
      let t6 : Tp pr := .i (show ((↑(List.take k.toNat (List.map Span.ce l)).length : Int) : Int) = (↑(min k.toNat l.length) : Int) by simp)
      let t7 : Tp pr := .a (Ev.castq ((congrArg (fun x => Q.loop (lq pr (22 : FuncId) (1 : Nat)) (at_ [((0 : Nat), V.t (T.seq (2 : Nat) (List.map Span.ce l))), ((1 : Nat), V.t (T.seq (1 : Nat) (List.map intt p))), ((6 : Nat), V.t (T.int IntKind.i64 k)), ((7 : Nat), V.ptr (0 : Nat) (1 : Nat) (0 : Nat) (0 : Nat)), ((20 : Nat), V.t (T.seq (2 : Nat) (List.map Span.ce l))), ((21 : Nat), V.t (T.int IntKind.i64 (↑l.length : Int))), ((22 : Nat), V.t (T.int IntKind.i64 k)), ((34 : Nat), V.t (T.seq (2 : Nat) x)), ((35 : Nat), V.t (T.int IntKind.i64 (↑d.length : Int))), ((36 : Nat), V.t (T.int IntKind.i64 (0 : Int)))] [Ob.box [V.t (T.int IntKind.i64 y.from_), V.t (T.int IntKind.i64 y.to_)]] (0 : Nat))) (show (List.map Span.ce d) = (List.take k.toNat (List.map Span.ce l)) by simp [*])).trans (congrArg (fun x => Q.loop (lq pr (22 : FuncId) (1 : Nat)) (at_ [((0 : Nat), V.t (T.seq (2 : Nat) (List.map Span.ce l))), ((1 : Nat), V.t (T.seq (1 : Nat) (List.map intt p))), ((6 : Nat), V.t (T.int IntKind.i64 k)), ((7 : Nat), V.ptr (0 : Nat) (1 : Nat) (0 : Nat) (0 : Nat)), ((20 : Nat), V.t (T.seq (2 : Nat) (List.map Span.ce l))), ((21 : Nat), V.t (T.int IntKind.i64 (↑l.length : Int))), ((22 : Nat), V.t (T.int IntKind.i64 k)), ((34 : Nat), V.t (T.seq (2 : Nat) (List.take k.toNat (List.map Span.ce l)))), ((35 : Nat), V.t (T.int IntKind.i64 x)), ((36 : Nat), V.t (T.int IntKind.i64 (0 : Int)))] [Ob.box [V.t (T.int IntKind.i64 y.from_), V.t (T.int IntKind.i64 y.to_)]] (0 : Nat))) (show ((↑d.length : Int)) = ((↑(if k.toNat ≤ l.length then k.toNat else l.length) : Int)) by simp [*]))) (g))
      exact .tp [t0, t1, t2, t3, t4, t5, t6, t7] (by kernel_rfl)
theorem plSL_ev (l : List Span) (p : List Int) (hl : l.length ≤ 1000) (hp : p.length = l.length) : ∀ (r d : List Span) (rp dp : List Int), l = d ++ r → p = dp ++ rp → dp.length = d.length →
    Ev pr (.loop (lq pr 22 0) (at_ [(0, spq l), (1, isq p), (20, spq l), (21, i64 l.length), (22, i64 d.length)] [] 0)) (plP (placedGo (d.zip dp) (r.zip rp)))
  | [], d, rp, dp, h1, h2, h3 => by
    have hll : (l.length : Int) = d.length := by simp [h1]
    rw [show placedGo (d.zip dp) (([] : List Span).zip rp) = true from rfl]
    unfold plP
    let t0 : Tp pr := .b (show (decide ((↑d.length : Int) < (↑l.length : Int))) = false by (simp; omega))
    exact .tp [t0] (by kernel_rfl)
  | y :: r, d, [], dp, h1, h2, h3 => by
    rw [h1, h2] at hp
    simp at hp
    omega
  | y :: r, d, z :: rp, dp, h1, h2, h3 => by
    have ih := plSL_ev l p hl hp r (d ++ [y]) rp (dp ++ [z]) (by simp [h1]) (by simp [h2]) (by simp [h3])
    have g := clSL_ev l p hl d r dp rp y z h1 h2 h3 d [] dp [] rfl rfl rfl
    rw [List.zip_append h3.symm, show (((d ++ [y]).length : Nat) : Int) = (d.length : Int) + 1 by simp] at ih
    have e : placedGo (d.zip dp) ((y :: r).zip (z :: rp)) = (if z < 0 then false else if clash (d.zip dp) (y, z) = true then false else placedGo (d.zip dp ++ [y].zip [z]) (r.zip rp)) := by
      rw [List.zip_cons_cons, placedGo]
      rfl
    rw [e]
    refine plS_step l p hl y r d z rp dp h1 h2 h3 _ _ _ rfl ih ?_
    rw [show clP l p d.length (clash (d.zip dp) (y, z)) = (if clash (d.zip dp) (y, z) = true then .ret (at_ [(4, bl false), (5, bl true)] [] 0) else .exit 2 (at_ [(0, spq l), (1, isq p), (20, spq l), (21, i64 l.length), (22, i64 d.length)] [] 0)) by
      cases clash (d.zip dp) (y, z) <;> rfl]
    exact g
theorem IsPlS_ev (l : List Span) (p : List Int) (hl : l.length ≤ 1048576) (h : goodSp l = true) (hp : p.length = l.length) : Ev pr (.call 22 [spq l, isq p] []) (.val (.tup [bl (placedB l p), bl true]) []) := by
  have h30 : l.length ≤ 30 := (good_of h).1
  have q := GoodSpansS_ev l hl
  rw [h] at q
  have g := plSL_ev l p (by omega) hp l [] p [] rfl rfl rfl
  unfold placedB
  rw [show ([] : List Span).zip ([] : List Int) = [] from rfl] at g
  generalize placedGo [] (l.zip p) = B at *
  cases B
  · unfold plP at g
    let t2 : Tp pr := .i (show ((↑(List.map intt p).length : Int) : Int) = (↑p.length : Int) by simp)
    let t3 : Tp pr := .i (show ((↑(List.map Span.ce l).length : Int) : Int) = (↑l.length : Int) by simp)
    let t4 : Tp pr := .b (show ((↑p.length : Int) != (↑l.length : Int)) = false by (simp; omega))
    let t5 : Tp pr := .i (show ((↑(List.map Span.ce l).length : Int) : Int) = (↑l.length : Int) by simp)
    exact .tp [.a (q), .b (rfl : false = false), t2, t3, t4, t5, .a (g)] (by kernel_rfl)
  · unfold plP at g
    let t2 : Tp pr := .i (show ((↑(List.map intt p).length : Int) : Int) = (↑p.length : Int) by simp)
    let t3 : Tp pr := .i (show ((↑(List.map Span.ce l).length : Int) : Int) = (↑l.length : Int) by simp)
    let t4 : Tp pr := .b (show ((↑p.length : Int) != (↑l.length : Int)) = false by (simp; omega))
    let t5 : Tp pr := .i (show ((↑(List.map Span.ce l).length : Int) : Int) = (↑l.length : Int) by simp)
    exact .tp [.a (q), .b (rfl : false = false), t2, t3, t4, t5, .a (g)] (by kernel_rfl)
theorem IsPlSn_ev (l : List Span) (p : List Int) (hl : l.length ≤ 1048576) (hl2 : p.length ≤ 1048576) (h : ¬ (goodSp l = true ∧ p.length = l.length)) : Ev pr (.call 22 [spq l, isq p] []) (.val (.tup [bl false, bl false]) []) := by
  have g := GoodSpansS_ev l hl
  cases hg : goodSp l
  · rw [hg] at g
    exact .tp [.a (g), .b (rfl : true = true), .b (rfl : true = true)] (by kernel_rfl)
  · rw [hg] at g
    have hne : (p.length : Int) ≠ l.length := fun e => h ⟨hg, by omega⟩
    let t2 : Tp pr := .i (show ((↑(List.map intt p).length : Int) : Int) = (↑p.length : Int) by simp)
    let t3 : Tp pr := .i (show ((↑(List.map Span.ce l).length : Int) : Int) = (↑l.length : Int) by simp)
    let t4 : Tp pr := .b (show ((↑p.length : Int) != (↑l.length : Int)) = true by (simp; omega))
    exact .tp [.a (g), .b (rfl : false = false), t2, t3, t4] (by kernel_rfl)
theorem withinB_ev (x lo hi : Int) : Ev pr (.call 51 [i64 x, i64 lo, i64 hi] []) (.val (bl (decide (lo ≤ x) && decide (x ≤ hi))) []) := by
  by_cases c1 : lo ≤ x
  · by_cases c2 : x ≤ hi
    · let t0 : Tp pr := .b (show (decide (x ≥ lo)) = true by (simp; omega))
      exact .tpe [t0] (Out.val (V.t (T.bool (decide (x ≤ hi)))) []) (by kernel_rfl) (congrArg (fun x => Out.val (V.t (T.bool x)) []) (show (decide (x ≤ hi)) = (decide (lo ≤ x) && decide (x ≤ hi)) by simp [c1, c2]))
    · let t0 : Tp pr := .b (show (decide (x ≥ lo)) = true by (simp; omega))
      exact .tpe [t0] (Out.val (V.t (T.bool (decide (x ≤ hi)))) []) (by kernel_rfl) (congrArg (fun x => Out.val (V.t (T.bool x)) []) (show (decide (x ≤ hi)) = (decide (lo ≤ x) && decide (x ≤ hi)) by simp [c1, c2]))
  · let t0 : Tp pr := .b (show (decide (x ≥ lo)) = false by (simp; omega))
    exact .tpe [t0] (Out.val (V.t (T.bool false)) []) (by kernel_rfl) (congrArg (fun x => Out.val (V.t (T.bool x)) []) (show (false) = (decide (lo ≤ x) && decide (x ≤ hi)) by simp [c1]))
theorem inB_ev (x lo hi : Int) : Ev pr (.call 57 [i64 x, i64 lo, i64 hi] []) (.val (bl (decide (lo ≤ x) && decide (x ≤ hi))) []) := by
  by_cases c1 : lo ≤ x
  · by_cases c2 : x ≤ hi
    · let t0 : Tp pr := .b (show (decide (x ≥ lo)) = true by (simp; omega))
      exact .tpe [t0] (Out.val (V.t (T.bool (decide (x ≤ hi)))) []) (by kernel_rfl) (congrArg (fun x => Out.val (V.t (T.bool x)) []) (show (decide (x ≤ hi)) = (decide (lo ≤ x) && decide (x ≤ hi)) by simp [c1, c2]))
    · let t0 : Tp pr := .b (show (decide (x ≥ lo)) = true by (simp; omega))
      exact .tpe [t0] (Out.val (V.t (T.bool (decide (x ≤ hi)))) []) (by kernel_rfl) (congrArg (fun x => Out.val (V.t (T.bool x)) []) (show (decide (x ≤ hi)) = (decide (lo ≤ x) && decide (x ≤ hi)) by simp [c1, c2]))
  · let t0 : Tp pr := .b (show (decide (x ≥ lo)) = false by (simp; omega))
    exact .tpe [t0] (Out.val (V.t (T.bool false)) []) (by kernel_rfl) (congrArg (fun x => Out.val (V.t (T.bool x)) []) (show (false) = (decide (lo ≤ x) && decide (x ≤ hi)) by simp [c1]))
def freeN (l : List Span) (p : List Int) (w : Int) : Int × Bool :=
  if goodSp l = true ∧ p.length = l.length then
    if placedB l p && (decide (0 ≤ w) && decide (w ≤ 1000)) then (leastN l p w, true) else (0, false)
  else (0, false)
theorem FreeI_ev (l : List Span) (p : List Int) (w : Int) (hl : l.length ≤ 1048576) (hl2 : p.length ≤ 1048576) : Ev pr (.call 24 [spq l, isq p, i64 w] []) (.val (.tup [i64 (freeN l p w).1, bl (freeN l p w).2]) []) := by
  unfold freeN
  by_cases c : goodSp l = true ∧ p.length = l.length
  · rw [if_pos c]
    have h30 : l.length ≤ 30 := (good_of c.1).1
    have g := IsPlI_ev l p hl c.1 c.2
    have a := withinB_ev w 0 1000
    have b := least_ev l p (by omega) c.2 w
    generalize leastN l p w = n at *
    generalize placedB l p = B at *
    generalize (decide (0 ≤ w) && decide (w ≤ 1000)) = D at *
    cases B
    · exact .tp [.a (g), .b (rfl : true = true), .b (rfl : true = true), .b (rfl : true = true)] (by kernel_rfl)
    · cases D
      · exact .tp [.a (g), .b (rfl : false = false), .b (rfl : false = false), .a (a), .b (rfl : true = true)] (by kernel_rfl)
      · exact .tp [.a (g), .b (rfl : false = false), .b (rfl : false = false), .a (a), .b (rfl : false = false), .a (b)] (by kernel_rfl)
  · rw [if_neg c]
    have g := IsPlIn_ev l p hl hl2 c
    exact .tp [.a (g), .b (rfl : true = true), .b (rfl : true = true), .b (rfl : true = true)] (by kernel_rfl)
theorem FreeS_ev (l : List Span) (p : List Int) (w : Int) (hl : l.length ≤ 1048576) (hl2 : p.length ≤ 1048576) : Ev pr (.call 25 [spq l, isq p, i64 w] []) (.val (.tup [i64 (freeN l p w).1, bl (freeN l p w).2]) []) := by
  unfold freeN
  by_cases c : goodSp l = true ∧ p.length = l.length
  · rw [if_pos c]
    have h30 : l.length ≤ 30 := (good_of c.1).1
    have g := IsPlS_ev l p hl c.1 c.2
    have a := inB_ev w 0 1000
    have b := leastS_ev l p (by omega) c.2 w
    generalize leastN l p w = n at *
    generalize placedB l p = B at *
    generalize (decide (0 ≤ w) && decide (w ≤ 1000)) = D at *
    cases B
    · exact .tp [.a (g), .b (rfl : true = true), .b (rfl : true = true), .b (rfl : true = true)] (by kernel_rfl)
    · cases D
      · exact .tp [.a (g), .b (rfl : false = false), .b (rfl : false = false), .a (a), .b (rfl : true = true)] (by kernel_rfl)
      · exact .tp [.a (g), .b (rfl : false = false), .b (rfl : false = false), .a (a), .b (rfl : false = false), .a (b)] (by kernel_rfl)
  · rw [if_neg c]
    have g := IsPlSn_ev l p hl hl2 c
    exact .tp [.a (g), .b (rfl : true = true), .b (rfl : true = true), .b (rfl : true = true)] (by kernel_rfl)
end Go.Ev

/- Spans that are drawn. -/
namespace Go.Ev
set_option linter.unusedVariables false
set_option linter.unusedSimpArgs false
open Go.Proofs
set_option maxRecDepth 100000
set_option linter.unusedVariables false
set_option linter.unusedSimpArgs false
set_option maxHeartbeats 2000000
theorem spc_snoc (l : List Span) (a b : Int) : spc (l ++ [⟨a, b⟩]) = (spc l).append [[C.t (.int .i64 a), C.t (.int .i64 b)]] := by simp [spc, Span.cc]
theorem ints_snocE (l : List Int) (x : Int) : ints (l ++ [x]) = (ints l).append [[C.t (.int .i64 x)]] := by simp [ints, intc]
theorem spL_ex (bs : List Int) (hb : okB bs) : ∀ (k : Nat) (l : List Span) (a s : Int), 0 ≤ a → a + 2 * k ≤ 40000000 → l.length + k ≤ 100 →
    ∃ (l' : List Span) (a' s' : Int), l'.length = l.length + k ∧ (a ≤ a' ∧ a' ≤ a + 2 * k) ∧
    Ev pr (.loop (lq pr 49 0) (at_ [(0, .ptr 0 1 0 0), (3, .vec 1 l.length 2 0 l.length), (4, i64 k)] [cuB bs a s, .vec true 2 (spc l)] 1))
      (.exit 0 (at_ [(0, .ptr 0 1 0 0), (3, .vec 1 l'.length 2 0 l'.length)] [cuB bs a' s', .vec true 2 (spc l')] 1))
  | 0, l, a, s, h0, h1, h2 => by
    refine ⟨l, a, s, by omega, by omega, ?_⟩
    unfold cuB
    exact .tp [.b (rfl : false = false)] (by kernel_rfl)
  | k + 1, l, a, s, h0, h1, h2 => by
    obtain ⟨v, a1, s1, hv, ha1, e1⟩ := pick_ex bs hb a s h0 (by omega) 20 (by omega)
    obtain ⟨w, a2, s2, hw, ha2, e2⟩ := pick_ex bs hb a1 s1 (by omega) (by omega) 9 (by omega)
    obtain ⟨l', a', s', hl, ha, ih⟩ := spL_ex bs hb k (l ++ [⟨v, v + 1 + w⟩]) a2 s2 (by omega) (by omega) (by simp; omega)
    refine ⟨l', a', s', by simp at hl; omega, by omega, ?_⟩
    rw [spc_snoc, List.length_append, List.length_singleton] at ih
    unfold cuB at *
    let t0 : Tp pr := .b (show (decide ((↑(k + (1 : Nat)) : Int) > (0 : Int))) = true by simp)
    let t2 : Tp pr := .i (wrap_i64 (a := v + (1 : Int)) (by omega) (by omega))
    let t4 : Tp pr := .i (wrap_i64 (a := v + (1 : Int) + w) (by omega) (by omega))
    let t6 : Tp pr := .m (show (decide ((spc l).length = l.length ∧ (0 : Nat) + l.length ≤ l.length ∧ l.length + (1 : Nat) ≤ (4294967296 : Nat))) = true by (simp; omega))
    let t7 : Tp pr := .b (show (decide (l.length + (1 : Nat) ≤ l.length)) = false by simp)
    let t9 : Tp pr := .n .crows (show ((List.take l.length (spc l)).append (List.take (1 : Nat) (List.drop (0 : Nat) [[C.t (T.int IntKind.i64 v), C.t (T.int IntKind.i64 (v + (1 : Int) + w))]]))) = spc l ++ [[C.t (T.int IntKind.i64 v), C.t (T.int IntKind.i64 (v + (1 : Int) + w))]] by simp)
    let t10 : Tp pr := .i (wrap_i64 (a := (↑(k + (1 : Nat)) : Int) - (1 : Int)) (by omega) (by omega))
    let t11 : Tp pr := .a (Ev.castq (congrArg (fun x => Q.loop (lq pr (49 : FuncId) (0 : Nat)) (at_ [((0 : Nat), V.ptr (0 : Nat) (1 : Nat) (0 : Nat) (0 : Nat)), ((3 : Nat), V.vec (1 : Nat) (l.length + (1 : Nat)) (2 : Nat) (0 : Nat) (l.length + (1 : Nat))), ((4 : Nat), i64 x)] [Ob.box [V.t (T.seq (1 : Nat) (List.map u8t bs)), V.t (T.int IntKind.i64 a2), V.t (T.int IntKind.u64 s2)], Ob.vec true (2 : Nat) ((spc l).append [[C.t (T.int IntKind.i64 v), C.t (T.int IntKind.i64 (v + (1 : Int) + w))]])] (1 : Nat))) (show ((↑k : Int)) = ((↑(k + (1 : Nat)) : Int) - (1 : Int)) by simp)) (ih))
    exact .tp [t0, .a (e1), t2, .a (e2), t4, .m (rfl : true = true), t6, t7, .c (rfl : (l.length + (1 : Nat)) = _), t9, t10, t11] (by kernel_rfl)
theorem spansN_ex (bs : List Int) (hb : okB bs) (a s : Int) (h0 : 0 ≤ a) (h1 : a ≤ 1000000) : ∃ (n : Nat) (a' s' : Int) (one : Bool) (a1 s1 a2 s2 u v : Int), n ≤ 31 ∧ (a ≤ a' ∧ a' ≤ a + 3) ∧ (0 ≤ u ∧ u ≤ 9) ∧ (0 ≤ v ∧ v ≤ 1) ∧ (a ≤ a1 ∧ a1 ≤ a2 ∧ a2 ≤ a') ∧
    Ev pr (.call 95 [.ptr 0 1 0 0, i64 9] [cuB bs a s]) (.val (i64 u) [cuB bs a1 s1]) ∧ Ev pr (.call 79 [.ptr 0 1 0 0, i64 20] [cuB bs a1 s1]) (.val (bl one) [cuB bs a2 s2]) ∧
    ((one = true ∧ (n : Int) = 30 + v ∧ 0 ≤ v ∧ Ev pr (.call 95 [.ptr 0 1 0 0, i64 2] [cuB bs a2 s2]) (.val (i64 v) [cuB bs a' s'])) ∨ (one = false ∧ (n : Int) = u ∧ a' = a2 ∧ s' = s2)) := by
  obtain ⟨u, a1, s1, hu, ha1, e1⟩ := pick_ex bs hb a s h0 (by omega) 9 (by omega)
  obtain ⟨one, a2, s2, ha2, e2⟩ := one_ex bs hb a1 s1 (by omega) (by omega) 20 (by omega)
  cases one
  · exact ⟨u.toNat, a2, s2, false, a1, s1, a2, s2, u, 0, by omega, by omega, by omega, by omega, by omega, e1, e2, .inr ⟨rfl, by omega, rfl, rfl⟩⟩
  · obtain ⟨v, a3, s3, hv, ha3, e3⟩ := pick_ex bs hb a2 s2 (by omega) (by omega) 2 (by omega)
    exact ⟨(30 + v).toNat, a3, s3, true, a1, s1, a2, s2, u, v, by omega, by omega, by omega, by omega, by omega, e1, e2, .inl ⟨rfl, by omega, hv.1, e3⟩⟩
theorem spans_ex (bs : List Int) (hb : okB bs) (a s : Int) (h0 : 0 ≤ a) (h1 : a ≤ 1000000) :
    ∃ (l : List Span) (a' s' : Int), l.length ≤ 31 ∧ (a ≤ a' ∧ a' ≤ a + 100) ∧ Ev pr (.call 49 [.ptr 0 1 0 0] [cuB bs a s]) (.val (spq l) [cuB bs a' s']) := by
  obtain ⟨n, a3, s3, one, a1, s1, a2, s2, u, v, hn, ha3, hu, hv, ha12, e1, e2, hc⟩ := spansN_ex bs hb a s h0 h1
  obtain ⟨l, a4, s4, hl, ha4, e4⟩ := spL_ex bs hb n [] a3 s3 (by omega) (by omega) (by simp; omega)
  simp only [List.length_nil, Nat.zero_add] at hl
  rw [show spc [] = [] from rfl, show (([] : List Span).length) = 0 from rfl] at e4
  cases l with
  | nil =>
    refine ⟨[], a4, s4, by simp, by omega, ?_⟩
    rw [show spc [] = [] from rfl, show (([] : List Span).length) = 0 from rfl] at e4
    unfold cuB at *
    rcases hc with ⟨rfl, hn2, hv0, e3⟩ | ⟨rfl, hn2, rfl, rfl⟩
    · exfalso
      simp at hl
      omega
    · rw [hn2] at e4
      let t4 : Tp pr := .i (rfl : ((0 : Int) : Int) = (0 : Int))
      exact .tp [.a (e1), .a (e2), .b (rfl : false = false), .a (e4), t4, .b (rfl : false = false), .b (rfl : false = false), .m (rfl : true = true), .n .rows (rfl : ([]) = _)] (by kernel_rfl)
  | cons x r =>
    simp only [List.length_cons] at hl
    obtain ⟨b, a5, s5, ha5, e5⟩ := one_ex bs hb a4 s4 (by omega) (by omega) 30 (by omega)
    cases b
    · refine ⟨x :: r, a5, s5, by simp; omega, by omega, ?_⟩
      unfold cuB at *
      rcases hc with ⟨rfl, hn2, hv0, e3⟩ | ⟨rfl, hn2, rfl, rfl⟩
      · rw [hn2] at e4
        let t4 : Tp pr := .i (wrap_i64 (a := (30 : Int) + v) (by omega) (by omega))
        let t6 : Tp pr := .i (show ((↑(x :: r).length : Int) : Int) = (↑r.length : Int) + (1 : Int) by simp)
        let t7 : Tp pr := .b (show (decide ((↑r.length : Int) + (1 : Int) > (0 : Int))) = true by simp)
        let t10 : Tp pr := .m (show (decide ((spc (x :: r)).length = (x :: r).length ∧ (0 : Nat) + (x :: r).length ≤ (x :: r).length)) = true by simp)
        let t11 : Tp pr := .n .rows (show (List.map (fun x => List.map C.fz x) (List.take (x :: r).length (List.drop (0 : Nat) (spc (x :: r))))) = x.ce :: List.map Span.ce r by simp)
        exact .tp [.a (e1), .a (e2), .b (rfl : true = true), .a (e3), t4, .a (e4), t6, t7, .a (e5), .b (rfl : false = false), t10, t11] (by kernel_rfl)
      · rw [hn2] at e4
        let t4 : Tp pr := .i (show ((↑(x :: r).length : Int) : Int) = (↑r.length : Int) + (1 : Int) by simp)
        let t5 : Tp pr := .b (show (decide ((↑r.length : Int) + (1 : Int) > (0 : Int))) = true by simp)
        let t8 : Tp pr := .m (show (decide ((spc (x :: r)).length = (x :: r).length ∧ (0 : Nat) + (x :: r).length ≤ (x :: r).length)) = true by simp)
        let t9 : Tp pr := .n .rows (show (List.map (fun x => List.map C.fz x) (List.take (x :: r).length (List.drop (0 : Nat) (spc (x :: r))))) = x.ce :: List.map Span.ce r by simp)
        exact .tp [.a (e1), .a (e2), .b (rfl : false = false), .a (e4), t4, t5, .a (e5), .b (rfl : false = false), t8, t9] (by kernel_rfl)
    · obtain ⟨f, a6, s6, hf, ha6, e6⟩ := among_ex bs hb a5 s5 (by omega) (by omega) [-1, 5, 999] (by simp) (by simp)
      obtain ⟨g, a7, s7, hg, ha7, e7⟩ := among_ex bs hb a6 s6 (by omega) (by omega) [5, 1000, 1001] (by simp) (by simp)
      have hset : (spc (x :: r)).set 0 [C.t (.int .i64 f), C.t (.int .i64 g)] = spc (⟨f, g⟩ :: r) := by simp [spc, Span.cc]
      have hget : (spc (x :: r))[0]? = some [C.t (.int .i64 x.from_), C.t (.int .i64 x.to_)] := by simp [spc, Span.cc]
      refine ⟨⟨f, g⟩ :: r, a7, s7, by simp; omega, by omega, ?_⟩
      unfold cuB at *
      rcases hc with ⟨rfl, hn2, hv0, e3⟩ | ⟨rfl, hn2, rfl, rfl⟩
      · rw [hn2] at e4
        let t4 : Tp pr := .i (wrap_i64 (a := (30 : Int) + v) (by omega) (by omega))
        let t6 : Tp pr := .i (show ((↑(x :: r).length : Int) : Int) = (↑r.length : Int) + (1 : Int) by simp)
        let t7 : Tp pr := .b (show (decide ((↑r.length : Int) + (1 : Int) > (0 : Int))) = true by simp)
        let t11 : Tp pr := .n .rows (show (List.map (fun x => List.map C.fz x) (List.take (3 : Nat) (List.drop (0 : Nat) [[C.t (T.int IntKind.i64 (-1 : Int))], [C.t (T.int IntKind.i64 (5 : Int))], [C.t (T.int IntKind.i64 (999 : Int))]]))) = [[(C.t (T.int IntKind.i64 (-1 : Int))).fz], [(C.t (T.int IntKind.i64 (5 : Int))).fz], [(C.t (T.int IntKind.i64 (999 : Int))).fz]] by simp)
        let t14 : Tp pr := .n .rows (show (List.map (fun x => List.map C.fz x) (List.take (3 : Nat) (List.drop (0 : Nat) [[C.t (T.int IntKind.i64 (5 : Int))], [C.t (T.int IntKind.i64 (1000 : Int))], [C.t (T.int IntKind.i64 (1001 : Int))]]))) = [[(C.t (T.int IntKind.i64 (5 : Int))).fz], [(C.t (T.int IntKind.i64 (1000 : Int))).fz], [(C.t (T.int IntKind.i64 (1001 : Int))).fz]] by simp)
        let t18 : Tp pr := .m (show (decide ((spc (x :: r)).length = (x :: r).length)) = true by simp)
        let t19 : Tp pr := .g .crow (show (some [C.t (T.int IntKind.i64 x.from_), C.t (T.int IntKind.i64 x.to_)]) = some ([C.t (T.int IntKind.i64 x.from_), C.t (T.int IntKind.i64 x.to_)]) from hget)
        let t20 : Tp pr := .n .crows (rfl : ((spc (x :: r)).set (0 : Nat) [C.t (T.int IntKind.i64 f), C.t (T.int IntKind.i64 g)]) = _)
        let t21 : Tp pr := .m (show (decide (((spc (x :: r)).set (0 : Nat) [C.t (T.int IntKind.i64 f), C.t (T.int IntKind.i64 g)]).length = (x :: r).length ∧ (0 : Nat) + (x :: r).length ≤ (x :: r).length)) = true by simp)
        let t22 : Tp pr := .n .rows (show (List.map (fun x => List.map C.fz x) (List.take (x :: r).length (List.drop (0 : Nat) ((spc (x :: r)).set (0 : Nat) [C.t (T.int IntKind.i64 f), C.t (T.int IntKind.i64 g)])))) = [(C.t (T.int IntKind.i64 f)).fz, (C.t (T.int IntKind.i64 g)).fz] :: List.map Span.ce r by simp)
        exact .tp [.a (e1), .a (e2), .b (rfl : true = true), .a (e3), t4, .a (e4), t6, t7, .a (e5), .b (rfl : true = true), .m (rfl : true = true), t11, .a (e6), .m (rfl : true = true), t14, .a (e7), .m (rfl : true = true), .c (rfl : ((0 : Nat)) = _), t18, t19, t20, t21, t22] (by kernel_rfl)
      · rw [hn2] at e4
        let t4 : Tp pr := .i (show ((↑(x :: r).length : Int) : Int) = (↑r.length : Int) + (1 : Int) by simp)
        let t5 : Tp pr := .b (show (decide ((↑r.length : Int) + (1 : Int) > (0 : Int))) = true by simp)
        let t9 : Tp pr := .n .rows (show (List.map (fun x => List.map C.fz x) (List.take (3 : Nat) (List.drop (0 : Nat) [[C.t (T.int IntKind.i64 (-1 : Int))], [C.t (T.int IntKind.i64 (5 : Int))], [C.t (T.int IntKind.i64 (999 : Int))]]))) = [[(C.t (T.int IntKind.i64 (-1 : Int))).fz], [(C.t (T.int IntKind.i64 (5 : Int))).fz], [(C.t (T.int IntKind.i64 (999 : Int))).fz]] by simp)
        let t12 : Tp pr := .n .rows (show (List.map (fun x => List.map C.fz x) (List.take (3 : Nat) (List.drop (0 : Nat) [[C.t (T.int IntKind.i64 (5 : Int))], [C.t (T.int IntKind.i64 (1000 : Int))], [C.t (T.int IntKind.i64 (1001 : Int))]]))) = [[(C.t (T.int IntKind.i64 (5 : Int))).fz], [(C.t (T.int IntKind.i64 (1000 : Int))).fz], [(C.t (T.int IntKind.i64 (1001 : Int))).fz]] by simp)
        let t16 : Tp pr := .m (show (decide ((spc (x :: r)).length = (x :: r).length)) = true by simp)
        let t17 : Tp pr := .g .crow (show (some [C.t (T.int IntKind.i64 x.from_), C.t (T.int IntKind.i64 x.to_)]) = some ([C.t (T.int IntKind.i64 x.from_), C.t (T.int IntKind.i64 x.to_)]) from hget)
        let t18 : Tp pr := .n .crows (rfl : ((spc (x :: r)).set (0 : Nat) [C.t (T.int IntKind.i64 f), C.t (T.int IntKind.i64 g)]) = _)
        let t19 : Tp pr := .m (show (decide (((spc (x :: r)).set (0 : Nat) [C.t (T.int IntKind.i64 f), C.t (T.int IntKind.i64 g)]).length = (x :: r).length ∧ (0 : Nat) + (x :: r).length ≤ (x :: r).length)) = true by simp)
        let t20 : Tp pr := .n .rows (show (List.map (fun x => List.map C.fz x) (List.take (x :: r).length (List.drop (0 : Nat) ((spc (x :: r)).set (0 : Nat) [C.t (T.int IntKind.i64 f), C.t (T.int IntKind.i64 g)])))) = [(C.t (T.int IntKind.i64 f)).fz, (C.t (T.int IntKind.i64 g)).fz] :: List.map Span.ce r by simp)
        exact .tp [.a (e1), .a (e2), .b (rfl : false = false), .a (e4), t4, t5, .a (e5), .b (rfl : true = true), .m (rfl : true = true), t9, .a (e6), .m (rfl : true = true), t12, .a (e7), .m (rfl : true = true), .c (rfl : ((0 : Nat)) = _), t16, t17, t18, t19, t20] (by kernel_rfl)
end Go.Ev
