import Derived.Test.YtoinanmhigafgabDoorKFnExactParseExpr3
/- Bytes and how many of a kind stand ahead. -/
namespace Go.Ev
set_option linter.unusedVariables false
set_option linter.unusedSimpArgs false
open Go.Proofs
set_option maxRecDepth 100000
set_option linter.unusedVariables false
set_option linter.unusedSimpArgs false
set_option maxHeartbeats 2000000
theorem isLetter_ev (b : UInt8) : Ev pr (.call 35 [.t (.int .u8 b.toNat)] []) (.val (bl (letter b)) []) := by
  unfold letter
  generalize (b.toNat : Int) = x
  by_cases c1 : 97 ≤ x
  · by_cases c2 : x ≤ 122
    · let t0 : Tp pr := .b (show (decide (x ≥ (97 : Int))) = true by (simp; omega))
      exact .tpe [t0] (Out.val (V.t (T.bool (decide (x ≤ (122 : Int))))) []) (by kernel_rfl) (congrArg (fun x => Out.val (V.t (T.bool x)) []) (show (decide (x ≤ (122 : Int))) = (decide ((97 : Int) ≤ x) && decide (x ≤ (122 : Int))) by simp [c1, c2]))
    · let t0 : Tp pr := .b (show (decide (x ≥ (97 : Int))) = true by (simp; omega))
      exact .tpe [t0] (Out.val (V.t (T.bool (decide (x ≤ (122 : Int))))) []) (by kernel_rfl) (congrArg (fun x => Out.val (V.t (T.bool x)) []) (show (decide (x ≤ (122 : Int))) = (decide ((97 : Int) ≤ x) && decide (x ≤ (122 : Int))) by simp [c1, c2]))
  · let t0 : Tp pr := .b (show (decide (x ≥ (97 : Int))) = false by (simp; omega))
    exact .tpe [t0] (Out.val (V.t (T.bool false)) []) (by kernel_rfl) (congrArg (fun x => Out.val (V.t (T.bool x)) []) (show (false) = (decide ((97 : Int) ≤ x) && decide (x ≤ (122 : Int))) by simp [c1]))
theorem isDigit_ev (b : UInt8) : Ev pr (.call 33 [.t (.int .u8 b.toNat)] []) (.val (bl (dgt b)) []) := by
  unfold dgt
  generalize (b.toNat : Int) = x
  by_cases c1 : 48 ≤ x
  · by_cases c2 : x ≤ 57
    · let t0 : Tp pr := .b (show (decide (x ≥ (48 : Int))) = true by (simp; omega))
      exact .tpe [t0] (Out.val (V.t (T.bool (decide (x ≤ (57 : Int))))) []) (by kernel_rfl) (congrArg (fun x => Out.val (V.t (T.bool x)) []) (show (decide (x ≤ (57 : Int))) = (decide ((48 : Int) ≤ x) && decide (x ≤ (57 : Int))) by simp [c1, c2]))
    · let t0 : Tp pr := .b (show (decide (x ≥ (48 : Int))) = true by (simp; omega))
      exact .tpe [t0] (Out.val (V.t (T.bool (decide (x ≤ (57 : Int))))) []) (by kernel_rfl) (congrArg (fun x => Out.val (V.t (T.bool x)) []) (show (decide (x ≤ (57 : Int))) = (decide ((48 : Int) ≤ x) && decide (x ≤ (57 : Int))) by simp [c1, c2]))
  · let t0 : Tp pr := .b (show (decide (x ≥ (48 : Int))) = false by (simp; omega))
    exact .tpe [t0] (Out.val (V.t (T.bool false)) []) (by kernel_rfl) (congrArg (fun x => Out.val (V.t (T.bool x)) []) (show (false) = (decide ((48 : Int) ≤ x) && decide (x ≤ (57 : Int))) by simp [c1]))
theorem l1Letter_ev (b : UInt8) : Ev pr (.call 29 [.t (.int .u8 b.toNat)] []) (.val (bl (letter b)) []) := by
  unfold letter
  generalize (b.toNat : Int) = x
  by_cases c1 : 97 ≤ x
  · by_cases c2 : x ≤ 122
    · let t0 : Tp pr := .b (show (decide (x ≥ (97 : Int))) = true by (simp; omega))
      exact .tpe [t0] (Out.val (V.t (T.bool (decide (x ≤ (122 : Int))))) []) (by kernel_rfl) (congrArg (fun x => Out.val (V.t (T.bool x)) []) (show (decide (x ≤ (122 : Int))) = (decide ((97 : Int) ≤ x) && decide (x ≤ (122 : Int))) by simp [c1, c2]))
    · let t0 : Tp pr := .b (show (decide (x ≥ (97 : Int))) = true by (simp; omega))
      exact .tpe [t0] (Out.val (V.t (T.bool (decide (x ≤ (122 : Int))))) []) (by kernel_rfl) (congrArg (fun x => Out.val (V.t (T.bool x)) []) (show (decide (x ≤ (122 : Int))) = (decide ((97 : Int) ≤ x) && decide (x ≤ (122 : Int))) by simp [c1, c2]))
  · let t0 : Tp pr := .b (show (decide (x ≥ (97 : Int))) = false by (simp; omega))
    exact .tpe [t0] (Out.val (V.t (T.bool false)) []) (by kernel_rfl) (congrArg (fun x => Out.val (V.t (T.bool x)) []) (show (false) = (decide ((97 : Int) ≤ x) && decide (x ≤ (122 : Int))) by simp [c1]))
theorem l1Digit_ev (b : UInt8) : Ev pr (.call 28 [.t (.int .u8 b.toNat)] []) (.val (bl (dgt b)) []) := by
  unfold dgt
  generalize (b.toNat : Int) = x
  by_cases c1 : 48 ≤ x
  · by_cases c2 : x ≤ 57
    · let t0 : Tp pr := .b (show (decide (x ≥ (48 : Int))) = true by (simp; omega))
      exact .tpe [t0] (Out.val (V.t (T.bool (decide (x ≤ (57 : Int))))) []) (by kernel_rfl) (congrArg (fun x => Out.val (V.t (T.bool x)) []) (show (decide (x ≤ (57 : Int))) = (decide ((48 : Int) ≤ x) && decide (x ≤ (57 : Int))) by simp [c1, c2]))
    · let t0 : Tp pr := .b (show (decide (x ≥ (48 : Int))) = true by (simp; omega))
      exact .tpe [t0] (Out.val (V.t (T.bool (decide (x ≤ (57 : Int))))) []) (by kernel_rfl) (congrArg (fun x => Out.val (V.t (T.bool x)) []) (show (decide (x ≤ (57 : Int))) = (decide ((48 : Int) ≤ x) && decide (x ≤ (57 : Int))) by simp [c1, c2]))
  · let t0 : Tp pr := .b (show (decide (x ≥ (48 : Int))) = false by (simp; omega))
    exact .tpe [t0] (Out.val (V.t (T.bool false)) []) (by kernel_rfl) (congrArg (fun x => Out.val (V.t (T.bool x)) []) (show (false) = (decide ((48 : Int) ≤ x) && decide (x ≤ (57 : Int))) by simp [c1]))
theorem runDL_ev (l : List UInt8) (hl : l.length ≤ 1000) : ∀ (rest done : List UInt8), l = done ++ rest →
    Ev pr (.loop (lq pr 32 0) (at_ [(0, .t (.str (bsOf l))), (1, .t (.clo 33 [])), (5, i64 done.length)] [] 0)) (.exit 0 (at_ [(5, i64 (done.length + pre dgt rest))] [] 0))
  | [], done, he => by
    have hll : (l.length : Int) = done.length := by simp [he]
    rw [show pre dgt [] = 0 from rfl]
    let t0 : Tp pr := .i (show ((↑(bsOf l).size : Int) : Int) = (↑l.length : Int) by simp)
    let t1 : Tp pr := .b (show (decide ((↑done.length : Int) < (↑l.length : Int))) = false by (simp; omega))
    exact .tp [t0, t1, .b (rfl : false = false)] (by kernel_rfl)
  | b :: rest, done, he => by
    have hll : (l.length : Int) = done.length + 1 + rest.length := by simp [he]; omega
    have hb : lkpS (bsOf l) (done.length : Int) = some b := lkpS_mid (done := done) (rest := rest) (by rw [bsOf_toList]; exact he) rfl
    have ih := runDL_ev l hl rest (done ++ [b]) (by simp [he])
    have hx := isDigit_ev b
    rw [pre_cons]
    cases hP : dgt b
    · rw [hP] at hx
      rw [if_neg (by simp)]
      let t0 : Tp pr := .i (show ((↑(bsOf l).size : Int) : Int) = (↑l.length : Int) by simp)
      let t1 : Tp pr := .b (show (decide ((↑done.length : Int) < (↑l.length : Int))) = true by (simp; omega))
      let t2 : Tp pr := .g .u8 (show (lkpS (bsOf l) (↑done.length : Int)) = some (b) from hb)
      exact .tp [t0, t1, t2, .a (hx), .b (rfl : false = false)] (by kernel_rfl)
    · rw [hP] at hx
      rw [if_pos rfl]
      let t0 : Tp pr := .i (show ((↑(bsOf l).size : Int) : Int) = (↑l.length : Int) by simp)
      let t1 : Tp pr := .b (show (decide ((↑done.length : Int) < (↑l.length : Int))) = true by (simp; omega))
      let t2 : Tp pr := .g .u8 (show (lkpS (bsOf l) (↑done.length : Int)) = some (b) from hb)
      let t5 : Tp pr := .i (wrap_i64 (a := (↑done.length : Int) + (1 : Int)) (by omega) (by omega))
      let t6 : Tp pr := .a (Ev.castq (congrArg (fun x => Q.loop (lq pr (32 : FuncId) (0 : Nat)) (at_ [((0 : Nat), V.t (T.str (bsOf l))), ((1 : Nat), V.t (T.clo (33 : Nat) [])), ((5 : Nat), i64 x)] [] (0 : Nat))) (show ((↑(done ++ [b]).length : Int)) = ((↑done.length : Int) + (1 : Int)) by (simp <;> omega))) (ih))
      exact .tpe [t0, t1, t2, .a (hx), .b (rfl : true = true), t5, t6] (Out.exit (0 : Nat) (at_ [((5 : Nat), V.t (T.int IntKind.i64 ((↑(done ++ [b]).length : Int) + (↑(pre dgt rest) : Int))))] [] (0 : Nat))) (by kernel_rfl) (congrArg (fun x => Out.exit (0 : Nat) (at_ [((5 : Nat), V.t (T.int IntKind.i64 x))] [] (0 : Nat))) (show ((↑(done ++ [b]).length : Int) + (↑(pre dgt rest) : Int)) = ((↑done.length : Int) + (↑(pre dgt rest + (1 : Nat)) : Int)) by (simp <;> omega)))
theorem runD_ev (l : List UInt8) (hl : l.length ≤ 1000) : Ev pr (.call 32 [.t (.str (bsOf l)), .t (.clo 33 [])] []) (.val (i64 (pre dgt l)) []) := by
  have h := runDL_ev l hl l [] rfl
  exact .tpe [.a (h)] (Out.val (V.t (T.int IntKind.i64 ((0 : Int) + (↑(pre dgt l) : Int)))) []) (by kernel_rfl) (congrArg (fun x => Out.val (V.t (T.int IntKind.i64 x)) []) (show ((0 : Int) + (↑(pre dgt l) : Int)) = ((↑(pre dgt l) : Int)) by simp))
theorem runAL_ev (l : List UInt8) (hl : l.length ≤ 1000) : ∀ (rest done : List UInt8), l = done ++ rest →
    Ev pr (.loop (lq pr 32 0) (at_ [(0, .t (.str (bsOf l))), (1, .t (.clo 35 [])), (5, i64 done.length)] [] 0)) (.exit 0 (at_ [(5, i64 (done.length + pre letter rest))] [] 0))
  | [], done, he => by
    have hll : (l.length : Int) = done.length := by simp [he]
    rw [show pre letter [] = 0 from rfl]
    let t0 : Tp pr := .i (show ((↑(bsOf l).size : Int) : Int) = (↑l.length : Int) by simp)
    let t1 : Tp pr := .b (show (decide ((↑done.length : Int) < (↑l.length : Int))) = false by (simp; omega))
    exact .tp [t0, t1, .b (rfl : false = false)] (by kernel_rfl)
  | b :: rest, done, he => by
    have hll : (l.length : Int) = done.length + 1 + rest.length := by simp [he]; omega
    have hb : lkpS (bsOf l) (done.length : Int) = some b := lkpS_mid (done := done) (rest := rest) (by rw [bsOf_toList]; exact he) rfl
    have ih := runAL_ev l hl rest (done ++ [b]) (by simp [he])
    have hx := isLetter_ev b
    rw [pre_cons]
    cases hP : letter b
    · rw [hP] at hx
      rw [if_neg (by simp)]
      let t0 : Tp pr := .i (show ((↑(bsOf l).size : Int) : Int) = (↑l.length : Int) by simp)
      let t1 : Tp pr := .b (show (decide ((↑done.length : Int) < (↑l.length : Int))) = true by (simp; omega))
      let t2 : Tp pr := .g .u8 (show (lkpS (bsOf l) (↑done.length : Int)) = some (b) from hb)
      exact .tp [t0, t1, t2, .a (hx), .b (rfl : false = false)] (by kernel_rfl)
    · rw [hP] at hx
      rw [if_pos rfl]
      let t0 : Tp pr := .i (show ((↑(bsOf l).size : Int) : Int) = (↑l.length : Int) by simp)
      let t1 : Tp pr := .b (show (decide ((↑done.length : Int) < (↑l.length : Int))) = true by (simp; omega))
      let t2 : Tp pr := .g .u8 (show (lkpS (bsOf l) (↑done.length : Int)) = some (b) from hb)
      let t5 : Tp pr := .i (wrap_i64 (a := (↑done.length : Int) + (1 : Int)) (by omega) (by omega))
      let t6 : Tp pr := .a (Ev.castq (congrArg (fun x => Q.loop (lq pr (32 : FuncId) (0 : Nat)) (at_ [((0 : Nat), V.t (T.str (bsOf l))), ((1 : Nat), V.t (T.clo (35 : Nat) [])), ((5 : Nat), i64 x)] [] (0 : Nat))) (show ((↑(done ++ [b]).length : Int)) = ((↑done.length : Int) + (1 : Int)) by (simp <;> omega))) (ih))
      exact .tpe [t0, t1, t2, .a (hx), .b (rfl : true = true), t5, t6] (Out.exit (0 : Nat) (at_ [((5 : Nat), V.t (T.int IntKind.i64 ((↑(done ++ [b]).length : Int) + (↑(pre letter rest) : Int))))] [] (0 : Nat))) (by kernel_rfl) (congrArg (fun x => Out.exit (0 : Nat) (at_ [((5 : Nat), V.t (T.int IntKind.i64 x))] [] (0 : Nat))) (show ((↑(done ++ [b]).length : Int) + (↑(pre letter rest) : Int)) = ((↑done.length : Int) + (↑(pre letter rest + (1 : Nat)) : Int)) by (simp <;> omega)))
theorem runA_ev (l : List UInt8) (hl : l.length ≤ 1000) : Ev pr (.call 32 [.t (.str (bsOf l)), .t (.clo 35 [])] []) (.val (i64 (pre letter l)) []) := by
  have h := runAL_ev l hl l [] rfl
  exact .tpe [.a (h)] (Out.val (V.t (T.int IntKind.i64 ((0 : Int) + (↑(pre letter l) : Int)))) []) (by kernel_rfl) (congrArg (fun x => Out.val (V.t (T.int IntKind.i64 x)) []) (show ((0 : Int) + (↑(pre letter l) : Int)) = ((↑(pre letter l) : Int)) by simp))
theorem StrengthOf_ev (s : ByteArray) : Ev pr (.call 27 [.t (.str s)] []) (.val (.tup [i64 (strength s.toList), bl (strength s.toList == 7), bl (strength s.toList > 0)]) []) := by
  by_cases hc0 : s.toList = [(124 : UInt8), (124 : UInt8)]
  · let t0 : Tp pr := .b (show (s.toList == [(124 : UInt8), (124 : UInt8)]) = true by simpa using hc0)
    exact .tpe [t0] (Out.val (V.tup [V.t (T.int IntKind.i64 (1 : Int)), V.t (T.bool false), V.t (T.bool true)]) []) (by kernel_rfl) (((congrArg (fun x => Out.val (V.tup [V.t (T.int IntKind.i64 x), V.t (T.bool false), V.t (T.bool true)]) []) (show ((1 : Int)) = (strength s.toList) by simp [strength, *])).trans (congrArg (fun x => Out.val (V.tup [V.t (T.int IntKind.i64 (strength s.toList)), V.t (T.bool x), V.t (T.bool true)]) []) (show (false) = (decide (strength s.toList = (7 : Int))) by simp [strength, *]))).trans (congrArg (fun x => Out.val (V.tup [V.t (T.int IntKind.i64 (strength s.toList)), V.t (T.bool (decide (strength s.toList = (7 : Int)))), V.t (T.bool x)]) []) (show (true) = (decide (strength s.toList > (0 : Int))) by simp [strength, *])))
  · let t0 : Tp pr := .b (show (s.toList == [(124 : UInt8), (124 : UInt8)]) = false by simpa using hc0)
    by_cases hc1 : s.toList = [(38 : UInt8), (38 : UInt8)]
    · let t1 : Tp pr := .b (show (s.toList == [(38 : UInt8), (38 : UInt8)]) = true by simpa using hc1)
      exact .tpe [t0, t1] (Out.val (V.tup [V.t (T.int IntKind.i64 (2 : Int)), V.t (T.bool false), V.t (T.bool true)]) []) (by kernel_rfl) (((congrArg (fun x => Out.val (V.tup [V.t (T.int IntKind.i64 x), V.t (T.bool false), V.t (T.bool true)]) []) (show ((2 : Int)) = (strength s.toList) by simp [strength, *])).trans (congrArg (fun x => Out.val (V.tup [V.t (T.int IntKind.i64 (strength s.toList)), V.t (T.bool x), V.t (T.bool true)]) []) (show (false) = (decide (strength s.toList = (7 : Int))) by simp [strength, *]))).trans (congrArg (fun x => Out.val (V.tup [V.t (T.int IntKind.i64 (strength s.toList)), V.t (T.bool (decide (strength s.toList = (7 : Int)))), V.t (T.bool x)]) []) (show (true) = (decide (strength s.toList > (0 : Int))) by simp [strength, *])))
    · let t1 : Tp pr := .b (show (s.toList == [(38 : UInt8), (38 : UInt8)]) = false by simpa using hc1)
      by_cases hc2 : s.toList = [(61 : UInt8), (61 : UInt8)]
      · let t2 : Tp pr := .b (show (s.toList == [(61 : UInt8), (61 : UInt8)]) = true by simpa using hc2)
        let t3 : Tp pr := .b (show (s.toList == [(61 : UInt8), (61 : UInt8)]) = true by (simp; omega))
        exact .tpe [t0, t1, t2, t3] (Out.val (V.tup [V.t (T.int IntKind.i64 (3 : Int)), V.t (T.bool false), V.t (T.bool true)]) []) (by kernel_rfl) (((congrArg (fun x => Out.val (V.tup [V.t (T.int IntKind.i64 x), V.t (T.bool false), V.t (T.bool true)]) []) (show ((3 : Int)) = (strength s.toList) by simp [strength, *])).trans (congrArg (fun x => Out.val (V.tup [V.t (T.int IntKind.i64 (strength s.toList)), V.t (T.bool x), V.t (T.bool true)]) []) (show (false) = (decide (strength s.toList = (7 : Int))) by simp [strength, *]))).trans (congrArg (fun x => Out.val (V.tup [V.t (T.int IntKind.i64 (strength s.toList)), V.t (T.bool (decide (strength s.toList = (7 : Int)))), V.t (T.bool x)]) []) (show (true) = (decide (strength s.toList > (0 : Int))) by simp [strength, *])))
      · let t2 : Tp pr := .b (show (s.toList == [(61 : UInt8), (61 : UInt8)]) = false by simpa using hc2)
        by_cases hc3 : s.toList = [(33 : UInt8), (61 : UInt8)]
        · let t3 : Tp pr := .b (show (s.toList == [(33 : UInt8), (61 : UInt8)]) = true by simpa using hc3)
          exact .tpe [t0, t1, t2, t3] (Out.val (V.tup [V.t (T.int IntKind.i64 (3 : Int)), V.t (T.bool false), V.t (T.bool true)]) []) (by kernel_rfl) (((congrArg (fun x => Out.val (V.tup [V.t (T.int IntKind.i64 x), V.t (T.bool false), V.t (T.bool true)]) []) (show ((3 : Int)) = (strength s.toList) by simp [strength, *])).trans (congrArg (fun x => Out.val (V.tup [V.t (T.int IntKind.i64 (strength s.toList)), V.t (T.bool x), V.t (T.bool true)]) []) (show (false) = (decide (strength s.toList = (7 : Int))) by simp [strength, *]))).trans (congrArg (fun x => Out.val (V.tup [V.t (T.int IntKind.i64 (strength s.toList)), V.t (T.bool (decide (strength s.toList = (7 : Int)))), V.t (T.bool x)]) []) (show (true) = (decide (strength s.toList > (0 : Int))) by simp [strength, *])))
        · let t3 : Tp pr := .b (show (s.toList == [(33 : UInt8), (61 : UInt8)]) = false by simpa using hc3)
          by_cases hc4 : s.toList = [(60 : UInt8)]
          · let t4 : Tp pr := .b (show (s.toList == [(60 : UInt8)]) = true by simpa using hc4)
            let t5 : Tp pr := .b (show (s.toList == [(60 : UInt8)]) = true by (simp; omega))
            exact .tpe [t0, t1, t2, t3, t4, t5] (Out.val (V.tup [V.t (T.int IntKind.i64 (4 : Int)), V.t (T.bool false), V.t (T.bool true)]) []) (by kernel_rfl) (((congrArg (fun x => Out.val (V.tup [V.t (T.int IntKind.i64 x), V.t (T.bool false), V.t (T.bool true)]) []) (show ((4 : Int)) = (strength s.toList) by simp [strength, *])).trans (congrArg (fun x => Out.val (V.tup [V.t (T.int IntKind.i64 (strength s.toList)), V.t (T.bool x), V.t (T.bool true)]) []) (show (false) = (decide (strength s.toList = (7 : Int))) by simp [strength, *]))).trans (congrArg (fun x => Out.val (V.tup [V.t (T.int IntKind.i64 (strength s.toList)), V.t (T.bool (decide (strength s.toList = (7 : Int)))), V.t (T.bool x)]) []) (show (true) = (decide (strength s.toList > (0 : Int))) by simp [strength, *])))
          · let t4 : Tp pr := .b (show (s.toList == [(60 : UInt8)]) = false by simpa using hc4)
            by_cases hc5 : s.toList = [(60 : UInt8), (61 : UInt8)]
            · let t5 : Tp pr := .b (show (s.toList == [(60 : UInt8), (61 : UInt8)]) = true by simpa using hc5)
              exact .tpe [t0, t1, t2, t3, t4, t5] (Out.val (V.tup [V.t (T.int IntKind.i64 (4 : Int)), V.t (T.bool false), V.t (T.bool true)]) []) (by kernel_rfl) (((congrArg (fun x => Out.val (V.tup [V.t (T.int IntKind.i64 x), V.t (T.bool false), V.t (T.bool true)]) []) (show ((4 : Int)) = (strength s.toList) by simp [strength, *])).trans (congrArg (fun x => Out.val (V.tup [V.t (T.int IntKind.i64 (strength s.toList)), V.t (T.bool x), V.t (T.bool true)]) []) (show (false) = (decide (strength s.toList = (7 : Int))) by simp [strength, *]))).trans (congrArg (fun x => Out.val (V.tup [V.t (T.int IntKind.i64 (strength s.toList)), V.t (T.bool (decide (strength s.toList = (7 : Int)))), V.t (T.bool x)]) []) (show (true) = (decide (strength s.toList > (0 : Int))) by simp [strength, *])))
            · let t5 : Tp pr := .b (show (s.toList == [(60 : UInt8), (61 : UInt8)]) = false by simpa using hc5)
              by_cases hc6 : s.toList = [(43 : UInt8)]
              · let t6 : Tp pr := .b (show (s.toList == [(43 : UInt8)]) = true by simpa using hc6)
                let t7 : Tp pr := .b (show (s.toList == [(43 : UInt8)]) = true by (simp; omega))
                exact .tpe [t0, t1, t2, t3, t4, t5, t6, t7] (Out.val (V.tup [V.t (T.int IntKind.i64 (5 : Int)), V.t (T.bool false), V.t (T.bool true)]) []) (by kernel_rfl) (((congrArg (fun x => Out.val (V.tup [V.t (T.int IntKind.i64 x), V.t (T.bool false), V.t (T.bool true)]) []) (show ((5 : Int)) = (strength s.toList) by simp [strength, *])).trans (congrArg (fun x => Out.val (V.tup [V.t (T.int IntKind.i64 (strength s.toList)), V.t (T.bool x), V.t (T.bool true)]) []) (show (false) = (decide (strength s.toList = (7 : Int))) by simp [strength, *]))).trans (congrArg (fun x => Out.val (V.tup [V.t (T.int IntKind.i64 (strength s.toList)), V.t (T.bool (decide (strength s.toList = (7 : Int)))), V.t (T.bool x)]) []) (show (true) = (decide (strength s.toList > (0 : Int))) by simp [strength, *])))
              · let t6 : Tp pr := .b (show (s.toList == [(43 : UInt8)]) = false by simpa using hc6)
                by_cases hc7 : s.toList = [(45 : UInt8)]
                · let t7 : Tp pr := .b (show (s.toList == [(45 : UInt8)]) = true by simpa using hc7)
                  exact .tpe [t0, t1, t2, t3, t4, t5, t6, t7] (Out.val (V.tup [V.t (T.int IntKind.i64 (5 : Int)), V.t (T.bool false), V.t (T.bool true)]) []) (by kernel_rfl) (((congrArg (fun x => Out.val (V.tup [V.t (T.int IntKind.i64 x), V.t (T.bool false), V.t (T.bool true)]) []) (show ((5 : Int)) = (strength s.toList) by simp [strength, *])).trans (congrArg (fun x => Out.val (V.tup [V.t (T.int IntKind.i64 (strength s.toList)), V.t (T.bool x), V.t (T.bool true)]) []) (show (false) = (decide (strength s.toList = (7 : Int))) by simp [strength, *]))).trans (congrArg (fun x => Out.val (V.tup [V.t (T.int IntKind.i64 (strength s.toList)), V.t (T.bool (decide (strength s.toList = (7 : Int)))), V.t (T.bool x)]) []) (show (true) = (decide (strength s.toList > (0 : Int))) by simp [strength, *])))
                · let t7 : Tp pr := .b (show (s.toList == [(45 : UInt8)]) = false by simpa using hc7)
                  by_cases hc8 : s.toList = [(42 : UInt8)]
                  · let t8 : Tp pr := .b (show (s.toList == [(42 : UInt8)]) = true by simpa using hc8)
                    let t9 : Tp pr := .b (show (s.toList == [(42 : UInt8)]) = true by (simp; omega))
                    exact .tpe [t0, t1, t2, t3, t4, t5, t6, t7, t8, t9] (Out.val (V.tup [V.t (T.int IntKind.i64 (6 : Int)), V.t (T.bool false), V.t (T.bool true)]) []) (by kernel_rfl) (((congrArg (fun x => Out.val (V.tup [V.t (T.int IntKind.i64 x), V.t (T.bool false), V.t (T.bool true)]) []) (show ((6 : Int)) = (strength s.toList) by simp [strength, *])).trans (congrArg (fun x => Out.val (V.tup [V.t (T.int IntKind.i64 (strength s.toList)), V.t (T.bool x), V.t (T.bool true)]) []) (show (false) = (decide (strength s.toList = (7 : Int))) by simp [strength, *]))).trans (congrArg (fun x => Out.val (V.tup [V.t (T.int IntKind.i64 (strength s.toList)), V.t (T.bool (decide (strength s.toList = (7 : Int)))), V.t (T.bool x)]) []) (show (true) = (decide (strength s.toList > (0 : Int))) by simp [strength, *])))
                  · let t8 : Tp pr := .b (show (s.toList == [(42 : UInt8)]) = false by simpa using hc8)
                    by_cases hc9 : s.toList = [(47 : UInt8)]
                    · let t9 : Tp pr := .b (show (s.toList == [(47 : UInt8)]) = true by simpa using hc9)
                      let t10 : Tp pr := .b (show (s.toList == [(47 : UInt8)]) = true by (simp; omega))
                      exact .tpe [t0, t1, t2, t3, t4, t5, t6, t7, t8, t9, t10] (Out.val (V.tup [V.t (T.int IntKind.i64 (6 : Int)), V.t (T.bool false), V.t (T.bool true)]) []) (by kernel_rfl) (((congrArg (fun x => Out.val (V.tup [V.t (T.int IntKind.i64 x), V.t (T.bool false), V.t (T.bool true)]) []) (show ((6 : Int)) = (strength s.toList) by simp [strength, *])).trans (congrArg (fun x => Out.val (V.tup [V.t (T.int IntKind.i64 (strength s.toList)), V.t (T.bool x), V.t (T.bool true)]) []) (show (false) = (decide (strength s.toList = (7 : Int))) by simp [strength, *]))).trans (congrArg (fun x => Out.val (V.tup [V.t (T.int IntKind.i64 (strength s.toList)), V.t (T.bool (decide (strength s.toList = (7 : Int)))), V.t (T.bool x)]) []) (show (true) = (decide (strength s.toList > (0 : Int))) by simp [strength, *])))
                    · let t9 : Tp pr := .b (show (s.toList == [(47 : UInt8)]) = false by simpa using hc9)
                      by_cases hc10 : s.toList = [(37 : UInt8)]
                      · let t10 : Tp pr := .b (show (s.toList == [(37 : UInt8)]) = true by simpa using hc10)
                        exact .tpe [t0, t1, t2, t3, t4, t5, t6, t7, t8, t9, t10] (Out.val (V.tup [V.t (T.int IntKind.i64 (6 : Int)), V.t (T.bool false), V.t (T.bool true)]) []) (by kernel_rfl) (((congrArg (fun x => Out.val (V.tup [V.t (T.int IntKind.i64 x), V.t (T.bool false), V.t (T.bool true)]) []) (show ((6 : Int)) = (strength s.toList) by simp [strength, *])).trans (congrArg (fun x => Out.val (V.tup [V.t (T.int IntKind.i64 (strength s.toList)), V.t (T.bool x), V.t (T.bool true)]) []) (show (false) = (decide (strength s.toList = (7 : Int))) by simp [strength, *]))).trans (congrArg (fun x => Out.val (V.tup [V.t (T.int IntKind.i64 (strength s.toList)), V.t (T.bool (decide (strength s.toList = (7 : Int)))), V.t (T.bool x)]) []) (show (true) = (decide (strength s.toList > (0 : Int))) by simp [strength, *])))
                      · let t10 : Tp pr := .b (show (s.toList == [(37 : UInt8)]) = false by simpa using hc10)
                        by_cases hc11 : s.toList = [(60 : UInt8), (60 : UInt8)]
                        · let t11 : Tp pr := .b (show (s.toList == [(60 : UInt8), (60 : UInt8)]) = true by simpa using hc11)
                          exact .tpe [t0, t1, t2, t3, t4, t5, t6, t7, t8, t9, t10, t11] (Out.val (V.tup [V.t (T.int IntKind.i64 (7 : Int)), V.t (T.bool true), V.t (T.bool true)]) []) (by kernel_rfl) (((congrArg (fun x => Out.val (V.tup [V.t (T.int IntKind.i64 x), V.t (T.bool true), V.t (T.bool true)]) []) (show ((7 : Int)) = (strength s.toList) by simp [strength, *])).trans (congrArg (fun x => Out.val (V.tup [V.t (T.int IntKind.i64 (strength s.toList)), V.t (T.bool x), V.t (T.bool true)]) []) (show (true) = (decide (strength s.toList = (7 : Int))) by simp [strength, *]))).trans (congrArg (fun x => Out.val (V.tup [V.t (T.int IntKind.i64 (strength s.toList)), V.t (T.bool (decide (strength s.toList = (7 : Int)))), V.t (T.bool x)]) []) (show (true) = (decide (strength s.toList > (0 : Int))) by simp [strength, *])))
                        · let t11 : Tp pr := .b (show (s.toList == [(60 : UInt8), (60 : UInt8)]) = false by simpa using hc11)
                          exact .tpe [t0, t1, t2, t3, t4, t5, t6, t7, t8, t9, t10, t11] (Out.val (V.tup [V.t (T.int IntKind.i64 (0 : Int)), V.t (T.bool false), V.t (T.bool false)]) []) (by kernel_rfl) (((congrArg (fun x => Out.val (V.tup [V.t (T.int IntKind.i64 x), V.t (T.bool false), V.t (T.bool false)]) []) (show ((0 : Int)) = (strength s.toList) by simp [strength, *])).trans (congrArg (fun x => Out.val (V.tup [V.t (T.int IntKind.i64 (strength s.toList)), V.t (T.bool x), V.t (T.bool false)]) []) (show (false) = (decide (strength s.toList = (7 : Int))) by simp [strength, *]))).trans (congrArg (fun x => Out.val (V.tup [V.t (T.int IntKind.i64 (strength s.toList)), V.t (T.bool (decide (strength s.toList = (7 : Int)))), V.t (T.bool x)]) []) (show (false) = (decide (strength s.toList > (0 : Int))) by simp [strength, *])))
theorem l2Strength_ev (s : ByteArray) : Ev pr (.call 23 [.t (.str s)] []) (.val (i64 (strength s.toList)) []) := by
  by_cases hc0 : s.toList = [(124 : UInt8), (124 : UInt8)]
  · let t0 : Tp pr := .b (show (s.toList == [(124 : UInt8), (124 : UInt8)]) = true by simpa using hc0)
    exact .tpe [t0] (Out.val (V.t (T.int IntKind.i64 (1 : Int))) []) (by kernel_rfl) (congrArg (fun x => Out.val (V.t (T.int IntKind.i64 x)) []) (show ((1 : Int)) = (strength s.toList) by simp [strength, *]))
  · let t0 : Tp pr := .b (show (s.toList == [(124 : UInt8), (124 : UInt8)]) = false by simpa using hc0)
    by_cases hc1 : s.toList = [(38 : UInt8), (38 : UInt8)]
    · let t1 : Tp pr := .b (show (s.toList == [(38 : UInt8), (38 : UInt8)]) = true by simpa using hc1)
      exact .tpe [t0, t1] (Out.val (V.t (T.int IntKind.i64 (2 : Int))) []) (by kernel_rfl) (congrArg (fun x => Out.val (V.t (T.int IntKind.i64 x)) []) (show ((2 : Int)) = (strength s.toList) by simp [strength, *]))
    · let t1 : Tp pr := .b (show (s.toList == [(38 : UInt8), (38 : UInt8)]) = false by simpa using hc1)
      by_cases hc2 : s.toList = [(61 : UInt8), (61 : UInt8)]
      · let t2 : Tp pr := .b (show (s.toList == [(61 : UInt8), (61 : UInt8)]) = true by simpa using hc2)
        let t3 : Tp pr := .b (show (s.toList == [(61 : UInt8), (61 : UInt8)]) = true by (simp; omega))
        exact .tpe [t0, t1, t2, t3] (Out.val (V.t (T.int IntKind.i64 (3 : Int))) []) (by kernel_rfl) (congrArg (fun x => Out.val (V.t (T.int IntKind.i64 x)) []) (show ((3 : Int)) = (strength s.toList) by simp [strength, *]))
      · let t2 : Tp pr := .b (show (s.toList == [(61 : UInt8), (61 : UInt8)]) = false by simpa using hc2)
        by_cases hc3 : s.toList = [(33 : UInt8), (61 : UInt8)]
        · let t3 : Tp pr := .b (show (s.toList == [(33 : UInt8), (61 : UInt8)]) = true by simpa using hc3)
          exact .tpe [t0, t1, t2, t3] (Out.val (V.t (T.int IntKind.i64 (3 : Int))) []) (by kernel_rfl) (congrArg (fun x => Out.val (V.t (T.int IntKind.i64 x)) []) (show ((3 : Int)) = (strength s.toList) by simp [strength, *]))
        · let t3 : Tp pr := .b (show (s.toList == [(33 : UInt8), (61 : UInt8)]) = false by simpa using hc3)
          by_cases hc4 : s.toList = [(60 : UInt8)]
          · let t4 : Tp pr := .b (show (s.toList == [(60 : UInt8)]) = true by simpa using hc4)
            let t5 : Tp pr := .b (show (s.toList == [(60 : UInt8)]) = true by (simp; omega))
            exact .tpe [t0, t1, t2, t3, t4, t5] (Out.val (V.t (T.int IntKind.i64 (4 : Int))) []) (by kernel_rfl) (congrArg (fun x => Out.val (V.t (T.int IntKind.i64 x)) []) (show ((4 : Int)) = (strength s.toList) by simp [strength, *]))
          · let t4 : Tp pr := .b (show (s.toList == [(60 : UInt8)]) = false by simpa using hc4)
            by_cases hc5 : s.toList = [(60 : UInt8), (61 : UInt8)]
            · let t5 : Tp pr := .b (show (s.toList == [(60 : UInt8), (61 : UInt8)]) = true by simpa using hc5)
              exact .tpe [t0, t1, t2, t3, t4, t5] (Out.val (V.t (T.int IntKind.i64 (4 : Int))) []) (by kernel_rfl) (congrArg (fun x => Out.val (V.t (T.int IntKind.i64 x)) []) (show ((4 : Int)) = (strength s.toList) by simp [strength, *]))
            · let t5 : Tp pr := .b (show (s.toList == [(60 : UInt8), (61 : UInt8)]) = false by simpa using hc5)
              by_cases hc6 : s.toList = [(43 : UInt8)]
              · let t6 : Tp pr := .b (show (s.toList == [(43 : UInt8)]) = true by simpa using hc6)
                let t7 : Tp pr := .b (show (s.toList == [(43 : UInt8)]) = true by (simp; omega))
                exact .tpe [t0, t1, t2, t3, t4, t5, t6, t7] (Out.val (V.t (T.int IntKind.i64 (5 : Int))) []) (by kernel_rfl) (congrArg (fun x => Out.val (V.t (T.int IntKind.i64 x)) []) (show ((5 : Int)) = (strength s.toList) by simp [strength, *]))
              · let t6 : Tp pr := .b (show (s.toList == [(43 : UInt8)]) = false by simpa using hc6)
                by_cases hc7 : s.toList = [(45 : UInt8)]
                · let t7 : Tp pr := .b (show (s.toList == [(45 : UInt8)]) = true by simpa using hc7)
                  exact .tpe [t0, t1, t2, t3, t4, t5, t6, t7] (Out.val (V.t (T.int IntKind.i64 (5 : Int))) []) (by kernel_rfl) (congrArg (fun x => Out.val (V.t (T.int IntKind.i64 x)) []) (show ((5 : Int)) = (strength s.toList) by simp [strength, *]))
                · let t7 : Tp pr := .b (show (s.toList == [(45 : UInt8)]) = false by simpa using hc7)
                  by_cases hc8 : s.toList = [(42 : UInt8)]
                  · let t8 : Tp pr := .b (show (s.toList == [(42 : UInt8)]) = true by simpa using hc8)
                    let t9 : Tp pr := .b (show (s.toList == [(42 : UInt8)]) = true by (simp; omega))
                    exact .tpe [t0, t1, t2, t3, t4, t5, t6, t7, t8, t9] (Out.val (V.t (T.int IntKind.i64 (6 : Int))) []) (by kernel_rfl) (congrArg (fun x => Out.val (V.t (T.int IntKind.i64 x)) []) (show ((6 : Int)) = (strength s.toList) by simp [strength, *]))
                  · let t8 : Tp pr := .b (show (s.toList == [(42 : UInt8)]) = false by simpa using hc8)
                    by_cases hc9 : s.toList = [(47 : UInt8)]
                    · let t9 : Tp pr := .b (show (s.toList == [(47 : UInt8)]) = true by simpa using hc9)
                      let t10 : Tp pr := .b (show (s.toList == [(47 : UInt8)]) = true by (simp; omega))
                      exact .tpe [t0, t1, t2, t3, t4, t5, t6, t7, t8, t9, t10] (Out.val (V.t (T.int IntKind.i64 (6 : Int))) []) (by kernel_rfl) (congrArg (fun x => Out.val (V.t (T.int IntKind.i64 x)) []) (show ((6 : Int)) = (strength s.toList) by simp [strength, *]))
                    · let t9 : Tp pr := .b (show (s.toList == [(47 : UInt8)]) = false by simpa using hc9)
                      by_cases hc10 : s.toList = [(37 : UInt8)]
                      · let t10 : Tp pr := .b (show (s.toList == [(37 : UInt8)]) = true by simpa using hc10)
                        exact .tpe [t0, t1, t2, t3, t4, t5, t6, t7, t8, t9, t10] (Out.val (V.t (T.int IntKind.i64 (6 : Int))) []) (by kernel_rfl) (congrArg (fun x => Out.val (V.t (T.int IntKind.i64 x)) []) (show ((6 : Int)) = (strength s.toList) by simp [strength, *]))
                      · let t10 : Tp pr := .b (show (s.toList == [(37 : UInt8)]) = false by simpa using hc10)
                        by_cases hc11 : s.toList = [(60 : UInt8), (60 : UInt8)]
                        · let t11 : Tp pr := .b (show (s.toList == [(60 : UInt8), (60 : UInt8)]) = true by simpa using hc11)
                          exact .tpe [t0, t1, t2, t3, t4, t5, t6, t7, t8, t9, t10, t11] (Out.val (V.t (T.int IntKind.i64 (7 : Int))) []) (by kernel_rfl) (congrArg (fun x => Out.val (V.t (T.int IntKind.i64 x)) []) (show ((7 : Int)) = (strength s.toList) by simp [strength, *]))
                        · let t11 : Tp pr := .b (show (s.toList == [(60 : UInt8), (60 : UInt8)]) = false by simpa using hc11)
                          exact .tpe [t0, t1, t2, t3, t4, t5, t6, t7, t8, t9, t10, t11] (Out.val (V.t (T.int IntKind.i64 (0 : Int))) []) (by kernel_rfl) (congrArg (fun x => Out.val (V.t (T.int IntKind.i64 x)) []) (show ((0 : Int)) = (strength s.toList) by simp [strength, *]))
end Go.Ev

/- Numbers out of digits. -/
namespace Go.Ev
set_option linter.unusedVariables false
set_option linter.unusedSimpArgs false
open Go.Proofs
set_option maxRecDepth 100000
set_option linter.unusedVariables false
set_option linter.unusedSimpArgs false
set_option maxHeartbeats 2000000
theorem dig_bd {b : UInt8} (h : dgt b = true) : 48 ≤ (b.toNat : Int) ∧ (b.toNat : Int) ≤ 57 := by simpa [dgt] using h
theorem atoiL_ev (l : List UInt8) (hl : l.length ≤ 9) (hd : ∀ b ∈ l, dgt b = true) : ∀ (rest done : List UInt8) (n : Int), l = done ++ rest → 0 ≤ n → n < 10 ^ done.length →
    Ev pr (.loop (lq pr 39 0) (at_ [(5, .t (.str (bsOf l))), (6, i64 n), (47, .t (.seq 1 (l.map fun b => [T.int .u8 b.toNat]))), (48, i64 l.length), (49, i64 done.length)] [] 0))
      (.exit 0 (at_ [(5, .t (.str (bsOf l))), (6, i64 (rest.foldl (fun n b => 10 * n + dig b) n))] [] 0))
  | [], done, n, he, h0, h1 => by
    have hll : (l.length : Int) = done.length := by simp [he]
    let t0 : Tp pr := .b (show (decide ((↑done.length : Int) < (↑l.length : Int))) = false by (simp; omega))
    exact .tp [t0] (by kernel_rfl)
  | b :: rest, done, n, he, h0, h1 => by
    have hll : (l.length : Int) = done.length + 1 + rest.length := by simp [he]; omega
    have hg : lkp (l.map fun b => [T.int .u8 (b.toNat : Int)]) (done.length : Int) = some [T.int .u8 b.toNat] := by rw [he]; simp
    have hb := hd b (by simp [he])
    have hbd := dig_bd hb
    have hdg : 0 ≤ dig b ∧ dig b ≤ 9 := by unfold dig; omega
    have hp : (10 : Int) ^ done.length ≤ 10 ^ 9 := by
      have hle : done.length ≤ 9 := by omega
      exact_mod_cast Nat.pow_le_pow_right (by omega) hle
    have ih := atoiL_ev l hl hd rest (done ++ [b]) (10 * n + dig b) (by simp [he]) (by omega) (by
      rw [List.length_append, List.length_singleton, Int.pow_succ]
      omega)
    rw [List.foldl_cons]
    have ec : n * 10 + dig b = 10 * n + dig b := by omega
    have h9 : (10 : Int) ^ 9 = 1000000000 := by decide
    rw [h9] at hp
    rw [← ec] at ih ⊢
    generalize rest.foldl (fun n b => 10 * n + dig b) (n * 10 + dig b) = z at *
    rw [show dig b = (b.toNat : Int) - 48 from rfl] at ih
    let t0 : Tp pr := .b (show (decide ((↑done.length : Int) < (↑l.length : Int))) = true by (simp; omega))
    let t1 : Tp pr := .g .row (show (lkp (List.map (fun b => [T.int IntKind.u8 (↑b.toNat : Int)]) l) (↑done.length : Int)) = some ([T.int IntKind.u8 (↑b.toNat : Int)]) from hg)
    let t2 : Tp pr := .i (wrap_u8 (a := (↑b.toNat : Int) - (48 : Int)) (by omega) (by omega))
    let t3 : Tp pr := .b (show (decide ((↑b.toNat : Int) - (48 : Int) > (9 : Int))) = false by (simp; omega))
    let t4 : Tp pr := .i (wrap_i64 (a := n * (10 : Int)) (by omega) (by omega))
    let t5 : Tp pr := .i (wrap_i64 (a := (↑b.toNat : Int) - (48 : Int)) (by omega) (by omega))
    let t6 : Tp pr := .i (wrap_i64 (a := n * (10 : Int) + ((↑b.toNat : Int) - (48 : Int))) (by omega) (by omega))
    let t7 : Tp pr := .i (wrap_i64 (a := (↑done.length : Int) + (1 : Int)) (by omega) (by omega))
    let t8 : Tp pr := .a (Ev.castq (congrArg (fun x => Q.loop (lq pr (39 : FuncId) (0 : Nat)) (at_ [((5 : Nat), V.t (T.str (bsOf l))), ((6 : Nat), i64 (n * (10 : Int) + ((↑b.toNat : Int) - (48 : Int)))), ((47 : Nat), V.t (T.seq (1 : Nat) (List.map (fun b => [T.int IntKind.u8 (↑b.toNat : Int)]) l))), ((48 : Nat), i64 (↑l.length : Int)), ((49 : Nat), i64 x)] [] (0 : Nat))) (show ((↑(done ++ [b]).length : Int)) = ((↑done.length : Int) + (1 : Int)) by simp)) (ih))
    exact .tp [t0, t1, t2, t3, t4, t5, t6, t7, t8] (by kernel_rfl)
theorem iAtoi_ev (l : List UInt8) (h1 : 1 ≤ l.length) (hl : l.length ≤ 9) (hd : ∀ b ∈ l, dgt b = true) : Ev pr (.call 39 [.t (.str (bsOf l))] []) (.val (.tup [i64 (numL l), .t .nili]) []) := by
  cases l with
  | nil => simp at h1
  | cons b r =>
    have g := atoiL_ev (b :: r) hl hd (b :: r) [] 0 rfl (by omega) (by simp)
    rw [show (b :: r).foldl (fun n b => 10 * n + dig b) 0 = numL (b :: r) from rfl] at g
    have hb := dig_bd (hd b (by simp))
    have h0 : lkpS (bsOf (b :: r)) 0 = some b := lkpS_mid (done := []) (rest := r) (by simp) rfl
    have hlen : (bsOf (b :: r)).size = (b :: r).length := bsOf_size _
    have hlen2 : (b :: r).length = r.length + 1 := by simp
    have hda : (bsOf (b :: r)).data.toList = b :: r := bsOf_data _
    generalize numL (b :: r) = z at *
    let t0 : Tp pr := .i (show ((↑(bsOf (b :: r)).size : Int) : Int) = (↑r.length : Int) + (1 : Int) by omega)
    let t4 : Tp pr := .b (show (decide ((0 : Int) < (↑r.length : Int) + (1 : Int))) = true by simp)
    let t5 : Tp pr := .b (show (decide ((↑r.length : Int) + (1 : Int) < (19 : Int))) = true by (simp; omega))
    let t6 : Tp pr := .g .u8 (show (lkpS (bsOf (b :: r)) (0 : Int)) = some (b) from h0)
    let t7 : Tp pr := .b (show (decide ((↑b.toNat : Int) = (45 : Int))) = false by (simp; omega))
    let t8 : Tp pr := .g .u8 (show (lkpS (bsOf (b :: r)) (0 : Int)) = some (b) from h0)
    let t9 : Tp pr := .b (show (decide ((↑b.toNat : Int) = (43 : Int))) = false by (simp; omega))
    let t10 : Tp pr := .i (show ((↑(List.map (fun b => [T.int IntKind.u8 (↑b.toNat : Int)]) (b :: r)).length : Int) : Int) = (↑r.length : Int) + (1 : Int) by simp)
    let t12 : Tp pr := .g .u8 (show (lkpS (bsOf (b :: r)) (0 : Int)) = some (b) from h0)
    let t13 : Tp pr := .b (show (decide ((↑b.toNat : Int) = (45 : Int))) = false by (simp; omega))
    exact .tp [t0, .b (rfl : false = false), .b (rfl : false = false), .b (rfl : true = true), t4, t5, t6, t7, t8, t9, t10, .a (g), t12, t13] (by kernel_rfl)
end Go.Ev

/- Signs. -/
namespace Go.Ev
set_option linter.unusedVariables false
set_option linter.unusedSimpArgs false
open Go.Proofs
set_option maxRecDepth 100000
set_option linter.unusedVariables false
set_option linter.unusedSimpArgs false
set_option maxHeartbeats 2000000
def sgr (x : List UInt8) : List T := [T.str (bsOf x)]
abbrev sgs : V := .t (.seq 1 (signL.map sgr))
theorem Atoi_ev (l : List UInt8) (h1 : 1 ≤ l.length) (hl : l.length ≤ 9) (hd : ∀ b ∈ l, dgt b = true) : Ev pr (.call 34 [.t (.str (bsOf l))] []) (.val (.tup [i64 (numL l), .t .nili]) []) := by
  have g := iAtoi_ev l h1 hl hd
  generalize numL l = z at *
  exact .tp [.a (g), .b (rfl : false = false)] (by kernel_rfl)
theorem SignsI_ev : Ev pr (.call 36 [] []) (.val sgs []) := by
  exact .tp [.m (rfl : true = true), .n .rows (rfl : signL.map sgr = signL.map sgr)] (by kernel_rfl)
theorem SignsS_ev : Ev pr (.call 38 [] []) (.val sgs []) := by
  exact .tp [.m (rfl : true = true), .n .rows (rfl : signL.map sgr = signL.map sgr)] (by kernel_rfl)
theorem pfx_iff (x r : List UInt8) : x.isPrefixOf r = (decide (x.length ≤ r.length) && (r.take x.length == x)) := by
  rw [Bool.eq_iff_iff, List.isPrefixOf_iff_prefix, Bool.and_eq_true, decide_eq_true_eq, beq_iff_eq]
  constructor
  · rintro ⟨t, rfl⟩
    simp
  · rintro ⟨_, h⟩
    rw [← h]
    exact List.take_prefix _ _
theorem hasPfx2_ev (r x : List UInt8) (hr : r.length ≤ 1000) (hx : x.length ≤ 1000) : Ev pr (.call 41 [.t (.str (bsOf r)), .t (.str (bsOf x))] []) (.val (bl (x.isPrefixOf r)) []) := by
  rw [pfx_iff]
  have he : (bsOf r).extract 0 x.length = bsOf (r.take x.length) := by rw [bsOf_extract, List.drop_zero]
  by_cases c : x.length ≤ r.length
  · cases c2 : (r.take x.length == x)
    · let t0 : Tp pr := .i (show ((↑(bsOf r).size : Int) : Int) = (↑r.length : Int) by simp)
      let t1 : Tp pr := .i (show ((↑(bsOf x).size : Int) : Int) = (↑x.length : Int) by simp)
      let t2 : Tp pr := .b (show (decide ((↑r.length : Int) ≥ (↑x.length : Int))) = true by (simp; omega))
      let t3 : Tp pr := .i (show ((↑(bsOf x).size : Int) : Int) = (↑x.length : Int) by simp)
      let t4 : Tp pr := .m (show (decide ((0 : Int) ≤ (0 : Int) ∧ (0 : Int) ≤ (↑x.length : Int) ∧ (↑x.length : Int) ≤ (↑(bsOf r).size : Int))) = true by simp [*])
      let t5 : Tp pr := .n .str (show ((bsOf r).extract (0 : Nat) (↑x.length : Int).toNat) = (bsOf r).extract (0 : Nat) x.length by simp)
      exact .tpe [t0, t1, t2, t3, t4, t5] (Out.val (V.t (T.bool (((bsOf r).extract (0 : Nat) x.length).toList == (bsOf x).toList))) []) (by kernel_rfl) (congrArg (fun x => Out.val (V.t (T.bool x)) []) (show (((bsOf r).extract (0 : Nat) x.length).toList == (bsOf x).toList) = (decide (x.length ≤ r.length) && false) by simp [*]))
    · let t0 : Tp pr := .i (show ((↑(bsOf r).size : Int) : Int) = (↑r.length : Int) by simp)
      let t1 : Tp pr := .i (show ((↑(bsOf x).size : Int) : Int) = (↑x.length : Int) by simp)
      let t2 : Tp pr := .b (show (decide ((↑r.length : Int) ≥ (↑x.length : Int))) = true by (simp; omega))
      let t3 : Tp pr := .i (show ((↑(bsOf x).size : Int) : Int) = (↑x.length : Int) by simp)
      let t4 : Tp pr := .m (show (decide ((0 : Int) ≤ (0 : Int) ∧ (0 : Int) ≤ (↑x.length : Int) ∧ (↑x.length : Int) ≤ (↑(bsOf r).size : Int))) = true by simp [*])
      let t5 : Tp pr := .n .str (show ((bsOf r).extract (0 : Nat) (↑x.length : Int).toNat) = (bsOf r).extract (0 : Nat) x.length by simp)
      exact .tpe [t0, t1, t2, t3, t4, t5] (Out.val (V.t (T.bool (((bsOf r).extract (0 : Nat) x.length).toList == (bsOf x).toList))) []) (by kernel_rfl) (congrArg (fun x => Out.val (V.t (T.bool x)) []) (show (((bsOf r).extract (0 : Nat) x.length).toList == (bsOf x).toList) = (decide (x.length ≤ r.length) && true) by simp [*]))
  · let t0 : Tp pr := .i (show ((↑(bsOf r).size : Int) : Int) = (↑r.length : Int) by simp)
    let t1 : Tp pr := .i (show ((↑(bsOf x).size : Int) : Int) = (↑x.length : Int) by simp)
    let t2 : Tp pr := .b (show (decide ((↑r.length : Int) ≥ (↑x.length : Int))) = false by (simp; omega))
    exact .tpe [t0, t1, t2] (Out.val (V.t (T.bool false)) []) (by kernel_rfl) (congrArg (fun x => Out.val (V.t (T.bool x)) []) (show (false) = (decide (x.length ≤ r.length) && List.take x.length r == x) by simp [c]))
theorem hasPfx_ev (r x : List UInt8) (hr : r.length ≤ 1000) (hx : x.length ≤ 1000) : Ev pr (.call 37 [.t (.str (bsOf r)), .t (.str (bsOf x))] []) (.val (bl (x.isPrefixOf r)) []) := by
  have g := hasPfx2_ev r x hr hx
  exact .tp [.a (g)] (by kernel_rfl)
theorem sg_bd : ∀ x ∈ signL, x.length ≤ 2 := by decide
end Go.Ev

/- The longest sign. -/
namespace Go.Ev
set_option linter.unusedVariables false
set_option linter.unusedSimpArgs false
open Go.Proofs
set_option maxRecDepth 100000
set_option linter.unusedVariables false
set_option linter.unusedSimpArgs false
set_option maxHeartbeats 2000000
def tok0 : List V := [i64 0, i64 0, .t (.str e0), i64 0]
theorem sgL_get (done rest : List (List UInt8)) (x : List UInt8) (h : signL = done ++ x :: rest) : lkp (signL.map sgr) (done.length : Int) = some [T.str (bsOf x)] := by rw [h]; simp [sgr]
theorem sgI_ev (r : List UInt8) (hr : r.length ≤ 1000) : ∀ (rest done : List (List UInt8)) (best : List UInt8), signL = done ++ rest → best.length ≤ 1000 →
    Ev pr (.loop (lq pr 24 0) (at_ [(0, .t (.str (bsOf r))), (2, .ptr 0 1 0 0), (8, .t (.str (bsOf best))), (49, sgs), (50, i64 19), (51, i64 done.length)] [.box tok0] 0))
      (.exit 0 (at_ [(2, .ptr 0 1 0 0), (8, .t (.str (bsOf (rest.foldl (better r) best))))] [.box tok0] 0))
  | [], done, best, h, hb => by
    have hl : done.length = 19 := by
      have := congrArg List.length h
      simpa [signL] using this.symm
    have hl2 : (done.length : Int) = 19 := by omega
    unfold tok0
    rw [hl2]
    exact .tp [.b (rfl : false = false)] (by kernel_rfl)
  | x :: rest, done, best, h, hb => by
    have hl : (done.length : Int) + 1 + rest.length = 19 := by
      have := congrArg List.length h
      simp [signL] at this
      omega
    have hx := sg_bd x (by rw [h]; simp)
    have hg := sgL_get done rest x h
    have hp := hasPfx_ev r x hr (by omega)
    have ih := sgI_ev r hr rest (done ++ [x]) (better r best x) (by simp [h]) (by unfold better; split <;> omega)
    rw [List.foldl_cons]
    generalize rest.foldl (better r) (better r best x) = z at *
    unfold better at ih
    unfold tok0 at *
    generalize signL.map sgr = sg at *
    by_cases c1 : x.length > best.length
    · cases c2 : x.isPrefixOf r
      · rw [c2] at hp
        rw [c2, if_neg (by simp)] at ih
        let t0 : Tp pr := .b (show (decide ((↑done.length : Int) < (19 : Int))) = true by (simp; omega))
        let t1 : Tp pr := .g .row (show (lkp (List.map sgr signL) (↑done.length : Int)) = some (sgr x) by simp [*])
        let t2 : Tp pr := .i (show ((↑(bsOf x).size : Int) : Int) = (↑x.length : Int) by simp)
        let t3 : Tp pr := .i (show ((↑(bsOf best).size : Int) : Int) = (↑best.length : Int) by simp)
        let t4 : Tp pr := .b (show (decide ((↑x.length : Int) > (↑best.length : Int))) = true by (simp; omega))
        let t7 : Tp pr := .i (wrap_i64 (a := (↑done.length : Int) + (1 : Int)) (by omega) (by omega))
        let t8 : Tp pr := .a (Ev.castq (congrArg (fun x => Q.loop (lq pr (24 : FuncId) (0 : Nat)) (at_ [((0 : Nat), V.t (T.str (bsOf r))), ((2 : Nat), V.ptr (0 : Nat) (1 : Nat) (0 : Nat) (0 : Nat)), ((8 : Nat), V.t (T.str (bsOf best))), ((49 : Nat), sgs), ((50 : Nat), i64 (19 : Int)), ((51 : Nat), i64 x)] [Ob.box [i64 (0 : Int), i64 (0 : Int), V.t (T.str e0), i64 (0 : Int)]] (0 : Nat))) (show ((↑(done ++ [x]).length : Int)) = ((↑done.length : Int) + (1 : Int)) by simp)) (ih))
        exact .tp [t0, t1, t2, t3, t4, .a (hp), .b (rfl : false = false), t7, t8] (by kernel_rfl)
      · rw [c2] at hp
        rw [c2, if_pos ⟨c1, rfl⟩] at ih
        let t0 : Tp pr := .b (show (decide ((↑done.length : Int) < (19 : Int))) = true by (simp; omega))
        let t1 : Tp pr := .g .row (show (lkp (List.map sgr signL) (↑done.length : Int)) = some (sgr x) by simp [*])
        let t2 : Tp pr := .i (show ((↑(bsOf x).size : Int) : Int) = (↑x.length : Int) by simp)
        let t3 : Tp pr := .i (show ((↑(bsOf best).size : Int) : Int) = (↑best.length : Int) by simp)
        let t4 : Tp pr := .b (show (decide ((↑x.length : Int) > (↑best.length : Int))) = true by (simp; omega))
        let t7 : Tp pr := .i (wrap_i64 (a := (↑done.length : Int) + (1 : Int)) (by omega) (by omega))
        let t8 : Tp pr := .a (Ev.castq (congrArg (fun x_1 => Q.loop (lq pr (24 : FuncId) (0 : Nat)) (at_ [((0 : Nat), V.t (T.str (bsOf r))), ((2 : Nat), V.ptr (0 : Nat) (1 : Nat) (0 : Nat) (0 : Nat)), ((8 : Nat), V.t (T.str (bsOf x))), ((49 : Nat), sgs), ((50 : Nat), i64 (19 : Int)), ((51 : Nat), i64 x_1)] [Ob.box [i64 (0 : Int), i64 (0 : Int), V.t (T.str e0), i64 (0 : Int)]] (0 : Nat))) (show ((↑(done ++ [x]).length : Int)) = ((↑done.length : Int) + (1 : Int)) by simp)) (ih))
        exact .tp [t0, t1, t2, t3, t4, .a (hp), .b (rfl : true = true), t7, t8] (by kernel_rfl)
    · rw [if_neg (by omega)] at ih
      let t0 : Tp pr := .b (show (decide ((↑done.length : Int) < (19 : Int))) = true by (simp; omega))
      let t1 : Tp pr := .g .row (show (lkp (List.map sgr signL) (↑done.length : Int)) = some (sgr x) by simp [*])
      let t2 : Tp pr := .i (show ((↑(bsOf x).size : Int) : Int) = (↑x.length : Int) by simp)
      let t3 : Tp pr := .i (show ((↑(bsOf best).size : Int) : Int) = (↑best.length : Int) by simp)
      let t4 : Tp pr := .b (show (decide ((↑x.length : Int) > (↑best.length : Int))) = false by (simp; omega))
      let t6 : Tp pr := .i (wrap_i64 (a := (↑done.length : Int) + (1 : Int)) (by omega) (by omega))
      let t7 : Tp pr := .a (Ev.castq (congrArg (fun x => Q.loop (lq pr (24 : FuncId) (0 : Nat)) (at_ [((0 : Nat), V.t (T.str (bsOf r))), ((2 : Nat), V.ptr (0 : Nat) (1 : Nat) (0 : Nat) (0 : Nat)), ((8 : Nat), V.t (T.str (bsOf best))), ((49 : Nat), sgs), ((50 : Nat), i64 (19 : Int)), ((51 : Nat), i64 x)] [Ob.box [i64 (0 : Int), i64 (0 : Int), V.t (T.str e0), i64 (0 : Int)]] (0 : Nat))) (show ((↑(done ++ [x]).length : Int)) = ((↑done.length : Int) + (1 : Int)) by simp)) (ih))
      exact .tp [t0, t1, t2, t3, t4, .b (rfl : false = false), t6, t7] (by kernel_rfl)
theorem ext_mid (p r : List UInt8) (n : Nat) : (bsOf (p ++ r)).extract p.length (p.length + n) = bsOf (r.take n) := by
  rw [bsOf_extract, List.take_length_add_append, List.drop_left]
theorem sgS_ev (p r : List UInt8) (hr : (p ++ r).length ≤ 1000) : ∀ (rest done : List (List UInt8)) (best : List UInt8), signL = done ++ rest → best.length ≤ 1000 →
    Ev pr (.loop (lq pr 30 0) (at_ [(0, .t (.str (bsOf (p ++ r)))), (1, i64 p.length), (5, .t (.str (bsOf best))), (8, sgs), (9, i64 19), (10, i64 done.length)] [] 0))
      (.exit 0 (at_ [(5, .t (.str (bsOf (rest.foldl (better r) best))))] [] 0))
  | [], done, best, h, hb => by
    have hl : done.length = 19 := by
      have := congrArg List.length h
      simpa [signL] using this.symm
    have hl2 : (done.length : Int) = 19 := by omega
    rw [hl2]
    exact .tp [.b (rfl : false = false)] (by kernel_rfl)
  | x :: rest, done, best, h, hb => by
    have hl : (done.length : Int) + 1 + rest.length = 19 := by
      have := congrArg List.length h
      simp [signL] at this
      omega
    have hx := sg_bd x (by rw [h]; simp)
    have hg := sgL_get done rest x h
    have ih := sgS_ev p r hr rest (done ++ [x]) (better r best x) (by simp [h]) (by unfold better; split <;> omega)
    have he : (bsOf (p ++ r)).extract p.length ((p.length : Int) + (x.length : Int)).toNat = bsOf (r.take x.length) := by
      rw [show ((p.length : Int) + (x.length : Int)).toNat = p.length + x.length by omega, ext_mid]
    have hlen : (bsOf (p ++ r)).size = p.length + r.length := by simp
    rw [List.length_append] at hr
    rw [List.foldl_cons]
    generalize rest.foldl (better r) (better r best x) = z at *
    unfold better at ih
    rw [pfx_iff] at ih
    generalize signL.map sgr = sg at *
    by_cases c1 : x.length > best.length
    · by_cases c2 : x.length ≤ r.length
      · cases c3 : (r.take x.length == x)
        · rw [c3, if_neg (by simp)] at ih
          let t0 : Tp pr := .b (show (decide ((↑done.length : Int) < (19 : Int))) = true by (simp; omega))
          let t1 : Tp pr := .g .row (show (lkp (List.map sgr signL) (↑done.length : Int)) = some (sgr x) by simp [*])
          let t2 : Tp pr := .i (show ((↑(bsOf x).size : Int) : Int) = (↑x.length : Int) by simp)
          let t3 : Tp pr := .i (show ((↑(bsOf best).size : Int) : Int) = (↑best.length : Int) by simp)
          let t4 : Tp pr := .b (show (decide ((↑x.length : Int) > (↑best.length : Int))) = true by (simp; omega))
          let t5 : Tp pr := .i (show ((↑(bsOf x).size : Int) : Int) = (↑x.length : Int) by simp)
          let t6 : Tp pr := .i (wrap_i64 (a := (↑p.length : Int) + (↑x.length : Int)) (by omega) (by omega))
          let t7 : Tp pr := .i (show ((↑(bsOf (p ++ r)).size : Int) : Int) = (↑p.length : Int) + (↑r.length : Int) by omega)
          let t8 : Tp pr := .b (show (decide ((↑p.length : Int) + (↑x.length : Int) ≤ (↑p.length : Int) + (↑r.length : Int))) = true by (simp; omega))
          let t9 : Tp pr := .i (show ((↑(bsOf x).size : Int) : Int) = (↑x.length : Int) by simp)
          let t10 : Tp pr := .i (wrap_i64 (a := (↑p.length : Int) + (↑x.length : Int)) (by omega) (by omega))
          let t11 : Tp pr := .m (show (decide ((0 : Int) ≤ (↑p.length : Int) ∧ (↑p.length : Int) ≤ (↑p.length : Int) + (↑x.length : Int) ∧ (↑p.length : Int) + (↑x.length : Int) ≤ (↑(bsOf (p ++ r)).size : Int))) = true by (simp; omega))
          let t12 : Tp pr := .n .str (show ((bsOf (p ++ r)).extract (↑p.length : Int).toNat ((↑p.length : Int) + (↑x.length : Int)).toNat) = (bsOf (p ++ r)).extract p.length ((↑p.length : Int) + (↑x.length : Int)).toNat by simp)
          let t13 : Tp pr := .b (show (((bsOf (p ++ r)).extract p.length ((↑p.length : Int) + (↑x.length : Int)).toNat).toList == (bsOf x).toList) = false by simp [*])
          let t14 : Tp pr := .i (wrap_i64 (a := (↑done.length : Int) + (1 : Int)) (by omega) (by omega))
          let t15 : Tp pr := .a (Ev.castq (congrArg (fun x => Q.loop (lq pr (30 : FuncId) (0 : Nat)) (at_ [((0 : Nat), V.t (T.str (bsOf (p ++ r)))), ((1 : Nat), i64 (↑p.length : Int)), ((5 : Nat), V.t (T.str (bsOf best))), ((8 : Nat), sgs), ((9 : Nat), i64 (19 : Int)), ((10 : Nat), i64 x)] [] (0 : Nat))) (show ((↑(done ++ [x]).length : Int)) = ((↑done.length : Int) + (1 : Int)) by simp)) (ih))
          exact .tp [t0, t1, t2, t3, t4, t5, t6, t7, t8, t9, t10, t11, t12, t13, t14, t15] (by kernel_rfl)
        · rw [c3, if_pos ⟨c1, by simp [c2]⟩] at ih
          let t0 : Tp pr := .b (show (decide ((↑done.length : Int) < (19 : Int))) = true by (simp; omega))
          let t1 : Tp pr := .g .row (show (lkp (List.map sgr signL) (↑done.length : Int)) = some (sgr x) by simp [*])
          let t2 : Tp pr := .i (show ((↑(bsOf x).size : Int) : Int) = (↑x.length : Int) by simp)
          let t3 : Tp pr := .i (show ((↑(bsOf best).size : Int) : Int) = (↑best.length : Int) by simp)
          let t4 : Tp pr := .b (show (decide ((↑x.length : Int) > (↑best.length : Int))) = true by (simp; omega))
          let t5 : Tp pr := .i (show ((↑(bsOf x).size : Int) : Int) = (↑x.length : Int) by simp)
          let t6 : Tp pr := .i (wrap_i64 (a := (↑p.length : Int) + (↑x.length : Int)) (by omega) (by omega))
          let t7 : Tp pr := .i (show ((↑(bsOf (p ++ r)).size : Int) : Int) = (↑p.length : Int) + (↑r.length : Int) by omega)
          let t8 : Tp pr := .b (show (decide ((↑p.length : Int) + (↑x.length : Int) ≤ (↑p.length : Int) + (↑r.length : Int))) = true by (simp; omega))
          let t9 : Tp pr := .i (show ((↑(bsOf x).size : Int) : Int) = (↑x.length : Int) by simp)
          let t10 : Tp pr := .i (wrap_i64 (a := (↑p.length : Int) + (↑x.length : Int)) (by omega) (by omega))
          let t11 : Tp pr := .m (show (decide ((0 : Int) ≤ (↑p.length : Int) ∧ (↑p.length : Int) ≤ (↑p.length : Int) + (↑x.length : Int) ∧ (↑p.length : Int) + (↑x.length : Int) ≤ (↑(bsOf (p ++ r)).size : Int))) = true by (simp; omega))
          let t12 : Tp pr := .n .str (show ((bsOf (p ++ r)).extract (↑p.length : Int).toNat ((↑p.length : Int) + (↑x.length : Int)).toNat) = (bsOf (p ++ r)).extract p.length ((↑p.length : Int) + (↑x.length : Int)).toNat by simp)
          let t13 : Tp pr := .b (show (((bsOf (p ++ r)).extract p.length ((↑p.length : Int) + (↑x.length : Int)).toNat).toList == (bsOf x).toList) = true by simp [*])
          let t14 : Tp pr := .i (wrap_i64 (a := (↑done.length : Int) + (1 : Int)) (by omega) (by omega))
          let t15 : Tp pr := .a (Ev.castq (congrArg (fun x_1 => Q.loop (lq pr (30 : FuncId) (0 : Nat)) (at_ [((0 : Nat), V.t (T.str (bsOf (p ++ r)))), ((1 : Nat), i64 (↑p.length : Int)), ((5 : Nat), V.t (T.str (bsOf x))), ((8 : Nat), sgs), ((9 : Nat), i64 (19 : Int)), ((10 : Nat), i64 x_1)] [] (0 : Nat))) (show ((↑(done ++ [x]).length : Int)) = ((↑done.length : Int) + (1 : Int)) by simp)) (ih))
          exact .tp [t0, t1, t2, t3, t4, t5, t6, t7, t8, t9, t10, t11, t12, t13, t14, t15] (by kernel_rfl)
      · rw [if_neg (by simp [c2])] at ih
        let t0 : Tp pr := .b (show (decide ((↑done.length : Int) < (19 : Int))) = true by (simp; omega))
        let t1 : Tp pr := .g .row (show (lkp (List.map sgr signL) (↑done.length : Int)) = some (sgr x) by simp [*])
        let t2 : Tp pr := .i (show ((↑(bsOf x).size : Int) : Int) = (↑x.length : Int) by simp)
        let t3 : Tp pr := .i (show ((↑(bsOf best).size : Int) : Int) = (↑best.length : Int) by simp)
        let t4 : Tp pr := .b (show (decide ((↑x.length : Int) > (↑best.length : Int))) = true by (simp; omega))
        let t5 : Tp pr := .i (show ((↑(bsOf x).size : Int) : Int) = (↑x.length : Int) by simp)
        let t6 : Tp pr := .i (wrap_i64 (a := (↑p.length : Int) + (↑x.length : Int)) (by omega) (by omega))
        let t7 : Tp pr := .i (show ((↑(bsOf (p ++ r)).size : Int) : Int) = (↑p.length : Int) + (↑r.length : Int) by omega)
        let t8 : Tp pr := .b (show (decide ((↑p.length : Int) + (↑x.length : Int) ≤ (↑p.length : Int) + (↑r.length : Int))) = false by (simp; omega))
        let t10 : Tp pr := .i (wrap_i64 (a := (↑done.length : Int) + (1 : Int)) (by omega) (by omega))
        let t11 : Tp pr := .a (Ev.castq (congrArg (fun x => Q.loop (lq pr (30 : FuncId) (0 : Nat)) (at_ [((0 : Nat), V.t (T.str (bsOf (p ++ r)))), ((1 : Nat), i64 (↑p.length : Int)), ((5 : Nat), V.t (T.str (bsOf best))), ((8 : Nat), sgs), ((9 : Nat), i64 (19 : Int)), ((10 : Nat), i64 x)] [] (0 : Nat))) (show ((↑(done ++ [x]).length : Int)) = ((↑done.length : Int) + (1 : Int)) by simp)) (ih))
        exact .tp [t0, t1, t2, t3, t4, t5, t6, t7, t8, .b (rfl : false = false), t10, t11] (by kernel_rfl)
    · rw [if_neg (fun h => c1 h.1)] at ih
      let t0 : Tp pr := .b (show (decide ((↑done.length : Int) < (19 : Int))) = true by (simp; omega))
      let t1 : Tp pr := .g .row (show (lkp (List.map sgr signL) (↑done.length : Int)) = some (sgr x) by simp [*])
      let t2 : Tp pr := .i (show ((↑(bsOf x).size : Int) : Int) = (↑x.length : Int) by simp)
      let t3 : Tp pr := .i (show ((↑(bsOf best).size : Int) : Int) = (↑best.length : Int) by simp)
      let t4 : Tp pr := .b (show (decide ((↑x.length : Int) > (↑best.length : Int))) = false by (simp; omega))
      let t7 : Tp pr := .i (wrap_i64 (a := (↑done.length : Int) + (1 : Int)) (by omega) (by omega))
      let t8 : Tp pr := .a (Ev.castq (congrArg (fun x => Q.loop (lq pr (30 : FuncId) (0 : Nat)) (at_ [((0 : Nat), V.t (T.str (bsOf (p ++ r)))), ((1 : Nat), i64 (↑p.length : Int)), ((5 : Nat), V.t (T.str (bsOf best))), ((8 : Nat), sgs), ((9 : Nat), i64 (19 : Int)), ((10 : Nat), i64 x)] [] (0 : Nat))) (show ((↑(done ++ [x]).length : Int)) = ((↑done.length : Int) + (1 : Int)) by simp)) (ih))
      exact .tp [t0, t1, t2, t3, t4, .b (rfl : false = false), .b (rfl : false = false), t7, t8] (by kernel_rfl)
end Go.Ev

/- A word at the beginning of a text, by the program. -/
namespace Go.Ev
set_option linter.unusedVariables false
set_option linter.unusedSimpArgs false
open Go.Proofs
set_option maxRecDepth 100000
set_option linter.unusedVariables false
set_option linter.unusedSimpArgs false
set_option maxHeartbeats 4000000
attribute [local simp] e0
theorem u8_48 (b : UInt8) : b = 48 ↔ (b.toNat : Int) = 48 := by
  constructor
  · rintro rfl; rfl
  · intro h
    have h2 : b.toNat = 48 := by omega
    exact UInt8.toNat_inj.1 (by rw [h2]; rfl)
theorem take_pre_all (P : UInt8 → Bool) (l : List UInt8) : ∀ b ∈ l.take (pre P l), P b = true := fun b hb => by
  have e : l.take (pre P l) = l.takeWhile P := by
    unfold pre
    rw [← List.prefix_iff_eq_take.1 (List.takeWhile_prefix P)]
  rw [e] at hb
  exact List.all_eq_true.1 List.all_takeWhile b hb
theorem ext_take (r : List UInt8) (n : Nat) : (bsOf r).extract 0 n = bsOf (r.take n) := by rw [bsOf_extract, List.drop_zero]
def noTok (k : Int) : V := .tup [vs [.int .i64 k, .int .i64 0, .str e0, .int .i64 0], i64 0]
def wdTok (t : Wd) : V := .tup [vs [.int .i64 t.kind, .int .i64 t.num, .str (bsOf t.text), .int .i64 0], i64 t.len]
theorem tokenAt_ev (r : List UInt8) (hr : r.length ≤ 1000) : (∃ t, wordOf r = some t ∧ Ev pr (.call 24 [.t (.str (bsOf r))] []) (.val (wdTok t) [])) ∨ (wordOf r = none ∧ ∃ k, Ev pr (.call 24 [.t (.str (bsOf r))] []) (.val (noTok k) [])) := by
  have hD := runD_ev r hr
  have hA := runA_ev r hr
  have hlD := pre_le dgt r
  have hlA := pre_le letter r
  unfold wordOf
  by_cases c : 0 < pre dgt r
  · rw [if_pos c]
    have hne : ∃ b, r.head? = some b ∧ lkpS (bsOf r) 0 = some b := by
      cases r with
      | nil => simp at hlD; omega
      | cons b q => exact ⟨b, rfl, lkpS_mid (done := []) (rest := q) (by simp) rfl⟩
    obtain ⟨b, hb1, hb2⟩ := hne
    rw [hb1]
    have hat := fun h => Atoi_ev (r.take (pre dgt r)) (by simp; omega) h (take_pre_all dgt r)
    have hex := ext_take r (pre dgt r)
    have htl : (r.take (pre dgt r)).length = pre dgt r := by simp; omega
    rw [htl] at hat
    generalize pre dgt r = n at *
    by_cases c1 : n > 9
    · rw [if_pos (.inl c1)]
      refine .inr ⟨rfl, 0, ?_⟩
      unfold noTok
      let t1 : Tp pr := .b (show (decide ((↑n : Int) > (0 : Int))) = true by (simp; omega))
      let t2 : Tp pr := .b (show (decide ((↑n : Int) > (9 : Int))) = true by (simp; omega))
      exact .tp [.a (hD), t1, t2, .b (rfl : true = true)] (by kernel_rfl)
    · have hat2 := hat (by omega)
      by_cases c2 : n > 1
      · by_cases c3 : (b.toNat : Int) = 48
        · rw [if_pos (.inr ⟨c2, by rw [(u8_48 b).2 c3]⟩)]
          refine .inr ⟨rfl, 0, ?_⟩
          unfold noTok
          let t1 : Tp pr := .b (show (decide ((↑n : Int) > (0 : Int))) = true by (simp; omega))
          let t2 : Tp pr := .b (show (decide ((↑n : Int) > (9 : Int))) = false by (simp; omega))
          let t3 : Tp pr := .b (show (decide ((↑n : Int) > (1 : Int))) = true by (simp; omega))
          let t4 : Tp pr := .g .u8 (show (lkpS (bsOf r) (0 : Int)) = some (b) from hb2)
          let t5 : Tp pr := .b (show (decide ((↑b.toNat : Int) = (48 : Int))) = true by (simp; omega))
          exact .tp [.a (hD), t1, t2, t3, t4, t5] (by kernel_rfl)
        · rw [if_neg (by rintro (h | ⟨_, h⟩); exact c1 h; exact c3 ((u8_48 b).1 (Option.some.inj h)))]
          refine .inl ⟨_, rfl, ?_⟩
          unfold wdTok
          generalize numL (r.take n) = z at *
          let t1 : Tp pr := .b (show (decide ((↑n : Int) > (0 : Int))) = true by (simp; omega))
          let t2 : Tp pr := .b (show (decide ((↑n : Int) > (9 : Int))) = false by (simp; omega))
          let t3 : Tp pr := .b (show (decide ((↑n : Int) > (1 : Int))) = true by (simp; omega))
          let t4 : Tp pr := .g .u8 (show (lkpS (bsOf r) (0 : Int)) = some (b) from hb2)
          let t5 : Tp pr := .b (show (decide ((↑b.toNat : Int) = (48 : Int))) = false by (simp; omega))
          let t6 : Tp pr := .m (show (decide ((0 : Int) ≤ (0 : Int) ∧ (0 : Int) ≤ (↑n : Int) ∧ (↑n : Int) ≤ (↑(bsOf r).size : Int))) = true by simp [*])
          let t7 : Tp pr := .n .str (show ((bsOf r).extract (0 : Nat) (↑n : Int).toNat) = (bsOf r).extract (0 : Nat) n by simp)
          let t8 : Tp pr := .a (Ev.castq (congrArg (fun x => Q.call (34 : FuncId) [V.t (T.str x)] []) (show (bsOf (List.take n r)) = ((bsOf r).extract (0 : Nat) n) by simp [*])) (hat (by omega)))
          exact .tp [.a (hD), t1, t2, t3, t4, t5, t6, t7, t8] (by kernel_rfl)
      · rw [if_neg (by rintro (h | ⟨h, _⟩); exact c1 h; exact c2 h)]
        refine .inl ⟨_, rfl, ?_⟩
        unfold wdTok
        generalize numL (r.take n) = z at *
        let t1 : Tp pr := .b (show (decide ((↑n : Int) > (0 : Int))) = true by (simp; omega))
        let t2 : Tp pr := .b (show (decide ((↑n : Int) > (9 : Int))) = false by (simp; omega))
        let t3 : Tp pr := .b (show (decide ((↑n : Int) > (1 : Int))) = false by (simp; omega))
        let t5 : Tp pr := .m (show (decide ((0 : Int) ≤ (0 : Int) ∧ (0 : Int) ≤ (↑n : Int) ∧ (↑n : Int) ≤ (↑(bsOf r).size : Int))) = true by simp [*])
        let t6 : Tp pr := .n .str (show ((bsOf r).extract (0 : Nat) (↑n : Int).toNat) = (bsOf r).extract (0 : Nat) n by simp)
        let t7 : Tp pr := .a (Ev.castq (congrArg (fun x => Q.call (34 : FuncId) [V.t (T.str x)] []) (show (bsOf (List.take n r)) = ((bsOf r).extract (0 : Nat) n) by simp [*])) (hat (by omega)))
        exact .tp [.a (hD), t1, t2, t3, .b (rfl : false = false), t5, t6, t7] (by kernel_rfl)
  · rw [if_neg c]
    have e1 : pre dgt r = 0 := by omega
    rw [e1] at hD
    by_cases c2 : 0 < pre letter r
    · rw [if_pos c2]
      have hex := ext_take r (pre letter r)
      generalize pre letter r = n at *
      by_cases c1 : n > 8
      · rw [if_pos c1]
        refine .inr ⟨rfl, 0, ?_⟩
        unfold noTok
        let t3 : Tp pr := .b (show (decide ((↑n : Int) > (0 : Int))) = true by (simp; omega))
        let t4 : Tp pr := .b (show (decide ((↑n : Int) > (8 : Int))) = true by (simp; omega))
        exact .tp [.a (hD), .b (rfl : false = false), .a (hA), t3, t4] (by kernel_rfl)
      · rw [if_neg c1]
        refine .inl ⟨_, rfl, ?_⟩
        unfold wdTok
        let t3 : Tp pr := .b (show (decide ((↑n : Int) > (0 : Int))) = true by (simp; omega))
        let t4 : Tp pr := .b (show (decide ((↑n : Int) > (8 : Int))) = false by (simp; omega))
        let t5 : Tp pr := .m (show (decide ((0 : Int) ≤ (0 : Int) ∧ (0 : Int) ≤ (↑n : Int) ∧ (↑n : Int) ≤ (↑(bsOf r).size : Int))) = true by simp [*])
        let t6 : Tp pr := .n .str (show ((bsOf r).extract (0 : Nat) (↑n : Int).toNat) = (bsOf r).extract (0 : Nat) n by simp)
        exact .tpe [.a (hD), .b (rfl : false = false), .a (hA), t3, t4, t5, t6] (Out.val (V.tup [V.agg [V.t (T.int IntKind.i64 (2 : Int)), V.t (T.int IntKind.i64 (0 : Int)), V.t (T.str ((bsOf r).extract (0 : Nat) n)), V.t (T.int IntKind.i64 (0 : Int))], V.t (T.int IntKind.i64 (↑n : Int))]) []) (by kernel_rfl) (congrArg (fun x => Out.val (V.tup [V.agg [V.t (T.int IntKind.i64 (2 : Int)), V.t (T.int IntKind.i64 (0 : Int)), V.t (T.str x), V.t (T.int IntKind.i64 (0 : Int))], V.t (T.int IntKind.i64 (↑n : Int))]) []) (show ((bsOf r).extract (0 : Nat) n) = (bsOf (List.take n r)) by assumption))
    · rw [if_neg c2]
      have e2 : pre letter r = 0 := by omega
      rw [e2] at hA
      have hs := sgI_ev r hr signL [] [] rfl (by simp)
      have sg := SignsI_ev
      have hle := best_le r
      rw [show signL.foldl (better r) [] = bestSign r from rfl] at hs
      unfold tok0 at hs
      rw [show bsOf [] = e0 from rfl] at hs
      generalize bestSign r = q at *
      by_cases c3 : q = []
      · rw [if_pos c3]
        refine .inr ⟨rfl, 3, ?_⟩
        subst c3
        unfold noTok
        let t5 : Tp pr := .i (rfl : ((19 : Int) : Int) = (19 : Int))
        let t7 : Tp pr := .i (rfl : ((0 : Int) : Int) = (0 : Int))
        exact .tp [.a (hD), .b (rfl : false = false), .a (hA), .b (rfl : false = false), .a (sg), t5, .a (hs), t7] (by kernel_rfl)
      · rw [if_neg c3]
        refine .inl ⟨_, rfl, ?_⟩
        unfold wdTok
        let t5 : Tp pr := .i (rfl : ((19 : Int) : Int) = (19 : Int))
        let t7 : Tp pr := .i (show ((↑(bsOf q).size : Int) : Int) = (↑q.length : Int) by simp)
        exact .tp [.a (hD), .b (rfl : false = false), .a (hA), .b (rfl : false = false), .a (sg), t5, .a (hs), t7] (by kernel_rfl)
end Go.Ev

/- A word at a place, by the reference. -/
namespace Go.Ev
set_option linter.unusedVariables false
set_option linter.unusedSimpArgs false
open Go.Proofs
set_option maxRecDepth 100000
set_option linter.unusedVariables false
set_option linter.unusedSimpArgs false
set_option maxHeartbeats 4000000
attribute [local simp] e0
def badD (k : Nat) (h0 : UInt8) : Prop := k > 9 ∨ (k > 1 ∧ (h0.toNat : Int) = 48)
instance (k : Nat) (h0 : UInt8) : Decidable (badD k h0) := by unfold badD; infer_instance
theorem lkpS_at {p q : List UInt8} {b : UInt8} {i : Int} (h : i = p.length) : lkpS (bsOf (p ++ b :: q)) i = some b := lkpS_mid (done := p) (rest := q) (by simp) h
theorem dgS_ev (p : List UInt8) (h0 : UInt8) (q : List UInt8) (hl : (p ++ h0 :: q).length ≤ 1000) : ∀ (rest dn : List UInt8) (n : Int), h0 :: q = dn ++ rest → (dn.length ≤ 9 ∧ (dn.length > 1 → ¬ (h0.toNat : Int) = 48)) → 0 ≤ n → n < 10 ^ dn.length →
    Ev pr (.loop (lq pr 21 0) (at_ [(0, .t (.str (bsOf (p ++ h0 :: q)))), (1, i64 p.length), (4, .ptr 0 1 0 0), (6, i64 (p.length + dn.length)), (8, i64 n)] [.box tok0] 0))
      (if badD (dn.length + pre dgt rest) h0 then .ret (at_ [(4, .ptr 0 1 0 0), (5, i64 0)] [.box tok0] 0)
        else .exit 1 (at_ [(1, i64 p.length), (4, .ptr 0 1 0 0), (6, i64 (p.length + dn.length + pre dgt rest)), (8, i64 ((rest.take (pre dgt rest)).foldl (fun n b => 10 * n + dig b) n))] [.box tok0] 0))
  | [], dn, n, he, hb, hn0, hn1 => by
    have hll : (p ++ h0 :: q).length = p.length + dn.length := by rw [he]; simp
    have hsz : (bsOf (p ++ h0 :: q)).size = p.length + dn.length := by rw [bsOf_size, hll]
    rw [show pre dgt [] = 0 from rfl, if_neg (by unfold badD; rintro (h | ⟨h, k⟩); omega; exact hb.2 h k)]
    unfold tok0
    generalize bsOf (p ++ h0 :: q) = S at *
    let t1 : Tp pr := .b (show (decide ((↑p.length : Int) + (↑dn.length : Int) < (↑S.size : Int))) = false by (simp; omega))
    exact .tp [.i (rfl : ((↑S.size : Int)) = _), t1, .b (rfl : false = false)] (by kernel_rfl)
  | c :: rest, dn, n, he, hb, hn0, hn1 => by
    have hll : (p ++ h0 :: q).length = p.length + dn.length + 1 + rest.length := by rw [he]; simp; omega
    have hsz : (bsOf (p ++ h0 :: q)).size = p.length + dn.length + 1 + rest.length := by rw [bsOf_size, hll]
    have g1 : lkpS (bsOf (p ++ h0 :: q)) (p.length : Int) = some h0 := lkpS_at rfl
    have g2 : lkpS (bsOf (p ++ h0 :: q)) ((p.length : Int) + dn.length) = some c := by
      rw [he, ← List.append_assoc]
      exact lkpS_at (by simp)
    have hc := l1Digit_ev c
    have ih0 := fun n => dgS_ev p h0 q hl rest (dn ++ [c]) n (by simp [he])
    rw [List.length_append, List.length_singleton] at ih0
    rw [show ((dn.length + 1 : Nat) : Int) = (dn.length : Int) + 1 by omega] at ih0
    have hp : (10 : Int) ^ dn.length ≤ 10 ^ 9 := by exact_mod_cast Nat.pow_le_pow_right (by omega) hb.1
    have h9 : (10 : Int) ^ 9 = 1000000000 := by decide
    rw [h9] at hp
    generalize bsOf (p ++ h0 :: q) = S at *
    unfold tok0 at *
    cases hd : dgt c
    · rw [hd] at hc
      have ep : pre dgt (c :: rest) = 0 := by rw [pre_cons, hd]; rfl
      rw [ep, if_neg (by unfold badD; rintro (h | ⟨h, k⟩); omega; exact hb.2 h k)]
      let t1 : Tp pr := .b (show (decide ((↑p.length : Int) + (↑dn.length : Int) < (↑S.size : Int))) = true by (simp; omega))
      let t2 : Tp pr := .g .u8 (show (lkpS S ((↑p.length : Int) + (↑dn.length : Int))) = some (c) from g2)
      exact .tp [.i (rfl : ((↑S.size : Int)) = _), t1, t2, .a (hc), .b (rfl : false = false)] (by kernel_rfl)
    · rw [hd] at hc
      have hbd := dig_bd hd
      have ep : pre dgt (c :: rest) = pre dgt rest + 1 := by rw [pre_cons, hd]; rfl
      rw [ep]
      by_cases c1 : dn.length ≥ 9
      · rw [if_pos (.inl (by omega))]
        let t1 : Tp pr := .b (show (decide ((↑p.length : Int) + (↑dn.length : Int) < (↑S.size : Int))) = true by (simp; omega))
        let t2 : Tp pr := .g .u8 (show (lkpS S ((↑p.length : Int) + (↑dn.length : Int))) = some (c) from g2)
        let t5 : Tp pr := .i (wrap_i64 (a := (↑p.length : Int) + (↑dn.length : Int) - (↑p.length : Int)) (by omega) (by omega))
        let t6 : Tp pr := .b (show (decide ((↑p.length : Int) + (↑dn.length : Int) - (↑p.length : Int) ≥ (9 : Int))) = true by (simp; omega))
        exact .tp [.i (rfl : ((↑S.size : Int)) = _), t1, t2, .a (hc), .b (rfl : true = true), t5, t6, .b (rfl : true = true)] (by kernel_rfl)
      · by_cases c2 : dn.length > 0 ∧ (h0.toNat : Int) = 48
        · rw [if_pos (.inr ⟨by omega, c2.2⟩)]
          have c21 := c2.1
          have c22 := c2.2
          let t1 : Tp pr := .b (show (decide ((↑p.length : Int) + (↑dn.length : Int) < (↑S.size : Int))) = true by (simp; omega))
          let t2 : Tp pr := .g .u8 (show (lkpS S ((↑p.length : Int) + (↑dn.length : Int))) = some (c) from g2)
          let t5 : Tp pr := .i (wrap_i64 (a := (↑p.length : Int) + (↑dn.length : Int) - (↑p.length : Int)) (by omega) (by omega))
          let t6 : Tp pr := .b (show (decide ((↑p.length : Int) + (↑dn.length : Int) - (↑p.length : Int) ≥ (9 : Int))) = false by (simp; omega))
          let t7 : Tp pr := .b (show (decide ((↑p.length : Int) + (↑dn.length : Int) > (↑p.length : Int))) = true by (simp; omega))
          let t8 : Tp pr := .g .u8 (show (lkpS S (↑p.length : Int)) = some (h0) from g1)
          let t9 : Tp pr := .b (show (decide ((↑h0.toNat : Int) = (48 : Int))) = true by (simp; omega))
          exact .tp [.i (rfl : ((↑S.size : Int)) = _), t1, t2, .a (hc), .b (rfl : true = true), t5, t6, t7, t8, t9] (by kernel_rfl)
        · have ih := ih0 (10 * n + ((c.toNat : Int) - 48)) ⟨by omega, fun h k => c2 ⟨by omega, k⟩⟩ (by omega) (by
            rw [Int.pow_succ]
            omega)
          clear ih0
          rw [List.take_succ_cons, List.foldl_cons, show dig c = (c.toNat : Int) - 48 from rfl]
          rw [show dn.length + 1 + pre dgt rest = dn.length + (pre dgt rest + 1) by omega] at ih
          by_cases c3 : badD (dn.length + (pre dgt rest + 1)) h0
          · rw [if_pos c3] at ih ⊢
            by_cases c4 : dn.length > 0
            · have c5 : ¬ (h0.toNat : Int) = 48 := fun k => c2 ⟨c4, k⟩
              let t1 : Tp pr := .b (show (decide ((↑p.length : Int) + (↑dn.length : Int) < (↑S.size : Int))) = true by (simp; omega))
              let t2 : Tp pr := .g .u8 (show (lkpS S ((↑p.length : Int) + (↑dn.length : Int))) = some (c) from g2)
              let t5 : Tp pr := .i (wrap_i64 (a := (↑p.length : Int) + (↑dn.length : Int) - (↑p.length : Int)) (by omega) (by omega))
              let t6 : Tp pr := .b (show (decide ((↑p.length : Int) + (↑dn.length : Int) - (↑p.length : Int) ≥ (9 : Int))) = false by (simp; omega))
              let t7 : Tp pr := .b (show (decide ((↑p.length : Int) + (↑dn.length : Int) > (↑p.length : Int))) = true by (simp; omega))
              let t8 : Tp pr := .g .u8 (show (lkpS S (↑p.length : Int)) = some (h0) from g1)
              let t9 : Tp pr := .b (show (decide ((↑h0.toNat : Int) = (48 : Int))) = false by (simp; omega))
              let t10 : Tp pr := .i (wrap_i64 (a := (10 : Int) * n) (by omega) (by omega))
              let t11 : Tp pr := .g .u8 (show (lkpS S ((↑p.length : Int) + (↑dn.length : Int))) = some (c) from g2)
              let t12 : Tp pr := .i (wrap_u8 (a := (↑c.toNat : Int) - (48 : Int)) (by omega) (by omega))
              let t13 : Tp pr := .i (wrap_i64 (a := (↑c.toNat : Int) - (48 : Int)) (by omega) (by omega))
              let t14 : Tp pr := .i (wrap_i64 (a := (10 : Int) * n + ((↑c.toNat : Int) - (48 : Int))) (by omega) (by omega))
              let t15 : Tp pr := .i (wrap_i64 (a := (↑p.length : Int) + (↑dn.length : Int) + (1 : Int)) (by omega) (by omega))
              exact .tp [.i (rfl : ((↑S.size : Int)) = _), t1, t2, .a (hc), .b (rfl : true = true), t5, t6, t7, t8, t9, t10, t11, t12, t13, t14, t15, .a (ih)] (by kernel_rfl)
            · let t1 : Tp pr := .b (show (decide ((↑p.length : Int) + (↑dn.length : Int) < (↑S.size : Int))) = true by (simp; omega))
              let t2 : Tp pr := .g .u8 (show (lkpS S ((↑p.length : Int) + (↑dn.length : Int))) = some (c) from g2)
              let t5 : Tp pr := .i (wrap_i64 (a := (↑p.length : Int) + (↑dn.length : Int) - (↑p.length : Int)) (by omega) (by omega))
              let t6 : Tp pr := .b (show (decide ((↑p.length : Int) + (↑dn.length : Int) - (↑p.length : Int) ≥ (9 : Int))) = false by (simp; omega))
              let t7 : Tp pr := .b (show (decide ((↑p.length : Int) + (↑dn.length : Int) > (↑p.length : Int))) = false by (simp; omega))
              let t9 : Tp pr := .i (wrap_i64 (a := (10 : Int) * n) (by omega) (by omega))
              let t10 : Tp pr := .g .u8 (show (lkpS S ((↑p.length : Int) + (↑dn.length : Int))) = some (c) from g2)
              let t11 : Tp pr := .i (wrap_u8 (a := (↑c.toNat : Int) - (48 : Int)) (by omega) (by omega))
              let t12 : Tp pr := .i (wrap_i64 (a := (↑c.toNat : Int) - (48 : Int)) (by omega) (by omega))
              let t13 : Tp pr := .i (wrap_i64 (a := (10 : Int) * n + ((↑c.toNat : Int) - (48 : Int))) (by omega) (by omega))
              let t14 : Tp pr := .i (wrap_i64 (a := (↑p.length : Int) + (↑dn.length : Int) + (1 : Int)) (by omega) (by omega))
              exact .tp [.i (rfl : ((↑S.size : Int)) = _), t1, t2, .a (hc), .b (rfl : true = true), t5, t6, t7, .b (rfl : false = false), t9, t10, t11, t12, t13, t14, .a (ih)] (by kernel_rfl)
          · rw [if_neg c3] at ih ⊢
            generalize (rest.take (pre dgt rest)).foldl (fun n b => 10 * n + dig b) (10 * n + ((c.toNat : Int) - 48)) = z at *
            by_cases c4 : dn.length > 0
            · have c5 : ¬ (h0.toNat : Int) = 48 := fun k => c2 ⟨c4, k⟩
              let t1 : Tp pr := .b (show (decide ((↑p.length : Int) + (↑dn.length : Int) < (↑S.size : Int))) = true by (simp; omega))
              let t2 : Tp pr := .g .u8 (show (lkpS S ((↑p.length : Int) + (↑dn.length : Int))) = some (c) from g2)
              let t5 : Tp pr := .i (wrap_i64 (a := (↑p.length : Int) + (↑dn.length : Int) - (↑p.length : Int)) (by omega) (by omega))
              let t6 : Tp pr := .b (show (decide ((↑p.length : Int) + (↑dn.length : Int) - (↑p.length : Int) ≥ (9 : Int))) = false by (simp; omega))
              let t7 : Tp pr := .b (show (decide ((↑p.length : Int) + (↑dn.length : Int) > (↑p.length : Int))) = true by (simp; omega))
              let t8 : Tp pr := .g .u8 (show (lkpS S (↑p.length : Int)) = some (h0) from g1)
              let t9 : Tp pr := .b (show (decide ((↑h0.toNat : Int) = (48 : Int))) = false by (simp; omega))
              let t10 : Tp pr := .i (wrap_i64 (a := (10 : Int) * n) (by omega) (by omega))
              let t11 : Tp pr := .g .u8 (show (lkpS S ((↑p.length : Int) + (↑dn.length : Int))) = some (c) from g2)
              let t12 : Tp pr := .i (wrap_u8 (a := (↑c.toNat : Int) - (48 : Int)) (by omega) (by omega))
              let t13 : Tp pr := .i (wrap_i64 (a := (↑c.toNat : Int) - (48 : Int)) (by omega) (by omega))
              let t14 : Tp pr := .i (wrap_i64 (a := (10 : Int) * n + ((↑c.toNat : Int) - (48 : Int))) (by omega) (by omega))
              let t15 : Tp pr := .i (wrap_i64 (a := (↑p.length : Int) + (↑dn.length : Int) + (1 : Int)) (by omega) (by omega))
              exact .tpe [.i (rfl : ((↑S.size : Int)) = _), t1, t2, .a (hc), .b (rfl : true = true), t5, t6, t7, t8, t9, t10, t11, t12, t13, t14, t15, .a (ih)] (Out.exit (1 : Nat) (at_ [((1 : Nat), V.t (T.int IntKind.i64 (↑p.length : Int))), ((4 : Nat), V.ptr (0 : Nat) (1 : Nat) (0 : Nat) (0 : Nat)), ((6 : Nat), V.t (T.int IntKind.i64 ((↑p.length : Int) + ((↑dn.length : Int) + (1 : Int)) + (↑(pre dgt rest) : Int)))), ((8 : Nat), V.t (T.int IntKind.i64 z))] [Ob.box [V.t (T.int IntKind.i64 (0 : Int)), V.t (T.int IntKind.i64 (0 : Int)), V.t (T.str (ByteArray.mk #[])), V.t (T.int IntKind.i64 (0 : Int))]] (0 : Nat))) (by kernel_rfl) (congrArg (fun x => Out.exit (1 : Nat) (at_ [((1 : Nat), V.t (T.int IntKind.i64 (↑p.length : Int))), ((4 : Nat), V.ptr (0 : Nat) (1 : Nat) (0 : Nat) (0 : Nat)), ((6 : Nat), V.t (T.int IntKind.i64 x)), ((8 : Nat), V.t (T.int IntKind.i64 z))] [Ob.box [V.t (T.int IntKind.i64 (0 : Int)), V.t (T.int IntKind.i64 (0 : Int)), V.t (T.str (ByteArray.mk #[])), V.t (T.int IntKind.i64 (0 : Int))]] (0 : Nat))) (show ((↑p.length : Int) + ((↑dn.length : Int) + (1 : Int)) + (↑(pre dgt rest) : Int)) = ((↑p.length : Int) + (↑dn.length : Int) + (↑(pre dgt rest + (1 : Nat)) : Int)) by (simp <;> omega)))
            · let t1 : Tp pr := .b (show (decide ((↑p.length : Int) + (↑dn.length : Int) < (↑S.size : Int))) = true by (simp; omega))
              let t2 : Tp pr := .g .u8 (show (lkpS S ((↑p.length : Int) + (↑dn.length : Int))) = some (c) from g2)
              let t5 : Tp pr := .i (wrap_i64 (a := (↑p.length : Int) + (↑dn.length : Int) - (↑p.length : Int)) (by omega) (by omega))
              let t6 : Tp pr := .b (show (decide ((↑p.length : Int) + (↑dn.length : Int) - (↑p.length : Int) ≥ (9 : Int))) = false by (simp; omega))
              let t7 : Tp pr := .b (show (decide ((↑p.length : Int) + (↑dn.length : Int) > (↑p.length : Int))) = false by (simp; omega))
              let t9 : Tp pr := .i (wrap_i64 (a := (10 : Int) * n) (by omega) (by omega))
              let t10 : Tp pr := .g .u8 (show (lkpS S ((↑p.length : Int) + (↑dn.length : Int))) = some (c) from g2)
              let t11 : Tp pr := .i (wrap_u8 (a := (↑c.toNat : Int) - (48 : Int)) (by omega) (by omega))
              let t12 : Tp pr := .i (wrap_i64 (a := (↑c.toNat : Int) - (48 : Int)) (by omega) (by omega))
              let t13 : Tp pr := .i (wrap_i64 (a := (10 : Int) * n + ((↑c.toNat : Int) - (48 : Int))) (by omega) (by omega))
              let t14 : Tp pr := .i (wrap_i64 (a := (↑p.length : Int) + (↑dn.length : Int) + (1 : Int)) (by omega) (by omega))
              exact .tpe [.i (rfl : ((↑S.size : Int)) = _), t1, t2, .a (hc), .b (rfl : true = true), t5, t6, t7, .b (rfl : false = false), t9, t10, t11, t12, t13, t14, .a (ih)] (Out.exit (1 : Nat) (at_ [((1 : Nat), V.t (T.int IntKind.i64 (↑p.length : Int))), ((4 : Nat), V.ptr (0 : Nat) (1 : Nat) (0 : Nat) (0 : Nat)), ((6 : Nat), V.t (T.int IntKind.i64 ((↑p.length : Int) + ((↑dn.length : Int) + (1 : Int)) + (↑(pre dgt rest) : Int)))), ((8 : Nat), V.t (T.int IntKind.i64 z))] [Ob.box [V.t (T.int IntKind.i64 (0 : Int)), V.t (T.int IntKind.i64 (0 : Int)), V.t (T.str (ByteArray.mk #[])), V.t (T.int IntKind.i64 (0 : Int))]] (0 : Nat))) (by kernel_rfl) (congrArg (fun x => Out.exit (1 : Nat) (at_ [((1 : Nat), V.t (T.int IntKind.i64 (↑p.length : Int))), ((4 : Nat), V.ptr (0 : Nat) (1 : Nat) (0 : Nat) (0 : Nat)), ((6 : Nat), V.t (T.int IntKind.i64 x)), ((8 : Nat), V.t (T.int IntKind.i64 z))] [Ob.box [V.t (T.int IntKind.i64 (0 : Int)), V.t (T.int IntKind.i64 (0 : Int)), V.t (T.str (ByteArray.mk #[])), V.t (T.int IntKind.i64 (0 : Int))]] (0 : Nat))) (show ((↑p.length : Int) + ((↑dn.length : Int) + (1 : Int)) + (↑(pre dgt rest) : Int)) = ((↑p.length : Int) + (↑dn.length : Int) + (↑(pre dgt rest + (1 : Nat)) : Int)) by (simp <;> omega)))
theorem ltS_ev (p : List UInt8) (s : List UInt8) (hl : (p ++ s).length ≤ 1000) : ∀ (rest dn : List UInt8), s = dn ++ rest →
    Ev pr (.loop (lq pr 21 1) (at_ [(0, .t (.str (bsOf (p ++ s)))), (1, i64 p.length), (4, .ptr 0 1 0 0), (6, i64 (p.length + dn.length))] [.box tok0] 0))
      (.exit 3 (at_ [(0, .t (.str (bsOf (p ++ s)))), (1, i64 p.length), (4, .ptr 0 1 0 0), (6, i64 (p.length + dn.length + pre letter rest))] [.box tok0] 0))
  | [], dn, he => by
    have hsz : (bsOf (p ++ s)).size = p.length + dn.length := by rw [bsOf_size, he]; simp
    rw [List.length_append] at hl
    have hle : s.length = dn.length := by rw [he]; simp
    rw [show pre letter [] = 0 from rfl]
    unfold tok0
    generalize bsOf (p ++ s) = S at *
    let t1 : Tp pr := .b (show (decide ((↑p.length : Int) + (↑dn.length : Int) < (↑S.size : Int))) = false by (simp; omega))
    exact .tp [.i (rfl : ((↑S.size : Int)) = _), t1, .b (rfl : false = false)] (by kernel_rfl)
  | c :: rest, dn, he => by
    have hle : s.length = dn.length + 1 + rest.length := by rw [he]; simp; omega
    have hsz : (bsOf (p ++ s)).size = p.length + dn.length + 1 + rest.length := by rw [bsOf_size, List.length_append, hle]; omega
    have g2 : lkpS (bsOf (p ++ s)) ((p.length : Int) + dn.length) = some c := by
      rw [he, ← List.append_assoc]
      exact lkpS_at (by simp)
    have hc := l1Letter_ev c
    have ih := ltS_ev p s hl rest (dn ++ [c]) (by simp [he])
    rw [List.length_append] at hl
    rw [List.length_append, List.length_singleton, show ((dn.length + 1 : Nat) : Int) = (dn.length : Int) + 1 by omega] at ih
    generalize bsOf (p ++ s) = S at *
    unfold tok0 at *
    cases hd : letter c
    · rw [hd] at hc
      have ep : pre letter (c :: rest) = 0 := by rw [pre_cons, hd]; rfl
      rw [ep]
      let t1 : Tp pr := .b (show (decide ((↑p.length : Int) + (↑dn.length : Int) < (↑S.size : Int))) = true by (simp; omega))
      let t2 : Tp pr := .g .u8 (show (lkpS S ((↑p.length : Int) + (↑dn.length : Int))) = some (c) from g2)
      exact .tp [.i (rfl : ((↑S.size : Int)) = _), t1, t2, .a (hc), .b (rfl : false = false)] (by kernel_rfl)
    · rw [hd] at hc
      have ep : pre letter (c :: rest) = pre letter rest + 1 := by rw [pre_cons, hd]; rfl
      rw [ep]
      let t1 : Tp pr := .b (show (decide ((↑p.length : Int) + (↑dn.length : Int) < (↑S.size : Int))) = true by (simp; omega))
      let t2 : Tp pr := .g .u8 (show (lkpS S ((↑p.length : Int) + (↑dn.length : Int))) = some (c) from g2)
      let t5 : Tp pr := .i (wrap_i64 (a := (↑p.length : Int) + (↑dn.length : Int) + (1 : Int)) (by omega) (by omega))
      exact .tpe [.i (rfl : ((↑S.size : Int)) = _), t1, t2, .a (hc), .b (rfl : true = true), t5, .a (ih)] (Out.exit (3 : Nat) (at_ [((0 : Nat), V.t (T.str S)), ((1 : Nat), V.t (T.int IntKind.i64 (↑p.length : Int))), ((4 : Nat), V.ptr (0 : Nat) (1 : Nat) (0 : Nat) (0 : Nat)), ((6 : Nat), V.t (T.int IntKind.i64 ((↑p.length : Int) + ((↑dn.length : Int) + (1 : Int)) + (↑(pre letter rest) : Int))))] [Ob.box [V.t (T.int IntKind.i64 (0 : Int)), V.t (T.int IntKind.i64 (0 : Int)), V.t (T.str (ByteArray.mk #[])), V.t (T.int IntKind.i64 (0 : Int))]] (0 : Nat))) (by kernel_rfl) (congrArg (fun x => Out.exit (3 : Nat) (at_ [((0 : Nat), V.t (T.str S)), ((1 : Nat), V.t (T.int IntKind.i64 (↑p.length : Int))), ((4 : Nat), V.ptr (0 : Nat) (1 : Nat) (0 : Nat) (0 : Nat)), ((6 : Nat), V.t (T.int IntKind.i64 x))] [Ob.box [V.t (T.int IntKind.i64 (0 : Int)), V.t (T.int IntKind.i64 (0 : Int)), V.t (T.str (ByteArray.mk #[])), V.t (T.int IntKind.i64 (0 : Int))]] (0 : Nat))) (show ((↑p.length : Int) + ((↑dn.length : Int) + (1 : Int)) + (↑(pre letter rest) : Int)) = ((↑p.length : Int) + (↑dn.length : Int) + (↑(pre letter rest + (1 : Nat)) : Int)) by (simp <;> omega)))
end Go.Ev

/- A word at a place, by the reference: the whole. -/
namespace Go.Ev
set_option linter.unusedVariables false
set_option linter.unusedSimpArgs false
open Go.Proofs
set_option maxRecDepth 100000
set_option linter.unusedVariables false
set_option linter.unusedSimpArgs false
set_option maxHeartbeats 4000000
attribute [local simp] e0
theorem l1Sign_ev (p r : List UInt8) (hl : (p ++ r).length ≤ 1000) : Ev pr (.call 30 [.t (.str (bsOf (p ++ r))), i64 p.length] []) (.val (.t (.str (bsOf (bestSign r)))) []) := by
  have hs := sgS_ev p r hl signL [] [] rfl (by simp)
  have sg := SignsS_ev
  rw [show signL.foldl (better r) [] = bestSign r from rfl, show bsOf [] = e0 from rfl] at hs
  rw [List.length_append] at hl
  generalize bestSign r = q at *
  generalize bsOf (p ++ r) = S at *
  let t1 : Tp pr := .i (rfl : ((19 : Int) : Int) = (19 : Int))
  exact .tp [.a (sg), t1, .a (hs)] (by kernel_rfl)
def wdAt (a : Int) (t : Wd) : V := .tup [vs [.int .i64 t.kind, .int .i64 t.num, .str (bsOf t.text), .int .i64 a], i64 (a + t.len)]
theorem badD_iff (k : Nat) (b : UInt8) (q : List UInt8) : badD k b ↔ (k > 9 ∨ (k > 1 ∧ (b :: q).head? = some 48)) := by
  unfold badD
  rw [← u8_48]
  simp
theorem l1Token_ev (p : List UInt8) (b : UInt8) (q : List UInt8) (hl : (p ++ b :: q).length ≤ 1000) :
    (∃ t, wordOf (b :: q) = some t ∧ Ev pr (.call 21 [.t (.str (bsOf (p ++ b :: q))), i64 p.length] []) (.val (wdAt p.length t) [])) ∨
    (wordOf (b :: q) = none ∧ Ev pr (.call 21 [.t (.str (bsOf (p ++ b :: q))), i64 p.length] []) (.val (noTok 0) [])) := by
  have g1 : lkpS (bsOf (p ++ b :: q)) (p.length : Int) = some b := lkpS_at rfl
  have d1 := l1Digit_ev b
  have d2 := l1Letter_ev b
  have hD := dgS_ev p b q hl (b :: q) [] 0 rfl (by simp) (by omega) (by simp)
  have hA := ltS_ev p (b :: q) hl (b :: q) [] rfl
  have hS := l1Sign_ev p (b :: q) hl
  have hlD := pre_le dgt (b :: q)
  have hlA := pre_le letter (b :: q)
  have hle := best_le (b :: q)
  have hex := ext_mid p (b :: q) (pre letter (b :: q))
  have hsz : (bsOf (p ++ b :: q)).size = p.length + (b :: q).length := by rw [bsOf_size, List.length_append]
  rw [show (([] : List UInt8).length : Int) = 0 from rfl, Int.add_zero] at hD hA
  rw [show ([] : List UInt8).length = 0 from rfl, Nat.zero_add] at hD
  rw [List.length_append] at hl
  unfold tok0 at hD hA
  unfold wordOf
  generalize bsOf (p ++ b :: q) = S at *
  cases hd : dgt b
  · have e1 : pre dgt (b :: q) = 0 := by rw [pre_cons, hd]; rfl
    rw [hd] at d1
    rw [if_neg (by omega)]
    clear hD
    cases he : letter b
    · have e2 : pre letter (b :: q) = 0 := by rw [pre_cons, he]; rfl
      rw [he] at d2
      rw [if_neg (by omega)]
      clear hA hex
      generalize bestSign (b :: q) = z at *
      by_cases c3 : z = []
      · rw [if_pos c3]
        refine .inr ⟨rfl, ?_⟩
        subst c3
        unfold noTok
        let t0 : Tp pr := .g .u8 (show (lkpS S (↑p.length : Int)) = some (b) from g1)
        exact .tp [t0, .a (d1), .b (rfl : false = false), .a (d2), .b (rfl : false = false), .a (hS), .b (rfl : true = true)] (by kernel_rfl)
      · rw [if_neg c3]
        refine .inl ⟨_, rfl, ?_⟩
        unfold wdAt
        let t0 : Tp pr := .g .u8 (show (lkpS S (↑p.length : Int)) = some (b) from g1)
        let t6 : Tp pr := .b (show ((bsOf z).toList == []) = false by (simp; omega))
        let t7 : Tp pr := .i (show ((↑(bsOf z).size : Int) : Int) = (↑z.length : Int) by simp)
        let t8 : Tp pr := .i (wrap_i64 (a := (↑p.length : Int) + (↑z.length : Int)) (by omega) (by omega))
        exact .tp [t0, .a (d1), .b (rfl : false = false), .a (d2), .b (rfl : false = false), .a (hS), t6, t7, t8] (by kernel_rfl)
    · have e2 : 0 < pre letter (b :: q) := by rw [pre_cons, he]; simp
      rw [he] at d2
      rw [if_pos e2]
      generalize pre letter (b :: q) = n at *
      by_cases c1 : n > 8
      · rw [if_pos c1]
        refine .inr ⟨rfl, ?_⟩
        unfold noTok
        let t0 : Tp pr := .g .u8 (show (lkpS S (↑p.length : Int)) = some (b) from g1)
        let t6 : Tp pr := .i (wrap_i64 (a := (↑p.length : Int) + (↑n : Int) - (↑p.length : Int)) (by omega) (by omega))
        let t7 : Tp pr := .b (show (decide ((↑p.length : Int) + (↑n : Int) - (↑p.length : Int) > (8 : Int))) = true by (simp; omega))
        exact .tp [t0, .a (d1), .b (rfl : false = false), .a (d2), .b (rfl : true = true), .a (hA), t6, t7] (by kernel_rfl)
      · rw [if_neg c1]
        refine .inl ⟨_, rfl, ?_⟩
        unfold wdAt
        have hex2 : S.extract p.length ((p.length : Int) + n).toNat = bsOf (List.take n (b :: q)) := by rw [← hex, show ((p.length : Int) + n).toNat = p.length + n by omega]
        let t0 : Tp pr := .g .u8 (show (lkpS S (↑p.length : Int)) = some (b) from g1)
        let t6 : Tp pr := .i (wrap_i64 (a := (↑p.length : Int) + (↑n : Int) - (↑p.length : Int)) (by omega) (by omega))
        let t7 : Tp pr := .b (show (decide ((↑p.length : Int) + (↑n : Int) - (↑p.length : Int) > (8 : Int))) = false by (simp; omega))
        let t8 : Tp pr := .m (show (decide ((0 : Int) ≤ (↑p.length : Int) ∧ (↑p.length : Int) ≤ (↑p.length : Int) + (↑n : Int) ∧ (↑p.length : Int) + (↑n : Int) ≤ (↑S.size : Int))) = true by (simp; omega))
        let t9 : Tp pr := .n .str (show (S.extract (↑p.length : Int).toNat ((↑p.length : Int) + (↑n : Int)).toNat) = S.extract p.length ((↑p.length : Int) + (↑n : Int)).toNat by simp)
        exact .tpe [t0, .a (d1), .b (rfl : false = false), .a (d2), .b (rfl : true = true), .a (hA), t6, t7, t8, t9] (Out.val (V.tup [V.agg [V.t (T.int IntKind.i64 (2 : Int)), V.t (T.int IntKind.i64 (0 : Int)), V.t (T.str (S.extract p.length ((↑p.length : Int) + (↑n : Int)).toNat)), V.t (T.int IntKind.i64 (↑p.length : Int))], V.t (T.int IntKind.i64 ((↑p.length : Int) + (↑n : Int)))]) []) (by kernel_rfl) (congrArg (fun x => Out.val (V.tup [V.agg [V.t (T.int IntKind.i64 (2 : Int)), V.t (T.int IntKind.i64 (0 : Int)), V.t (T.str x), V.t (T.int IntKind.i64 (↑p.length : Int))], V.t (T.int IntKind.i64 ((↑p.length : Int) + (↑n : Int)))]) []) (show (S.extract p.length ((↑p.length : Int) + (↑n : Int)).toNat) = (bsOf (List.take n (b :: q))) by assumption))
  · have e1 : 0 < pre dgt (b :: q) := by rw [pre_cons, hd]; simp
    rw [hd] at d1
    rw [if_pos e1]
    clear hA hex
    by_cases c : badD (pre dgt (b :: q)) b
    · rw [if_pos c] at hD
      rw [if_pos ((badD_iff _ b q).1 c)]
      refine .inr ⟨rfl, ?_⟩
      unfold noTok
      let t0 : Tp pr := .g .u8 (show (lkpS S (↑p.length : Int)) = some (b) from g1)
      exact .tp [t0, .a (d1), .b (rfl : true = true), .a (hD)] (by kernel_rfl)
    · rw [if_neg c] at hD
      rw [if_neg (fun h => c ((badD_iff _ b q).2 h))]
      refine .inl ⟨_, rfl, ?_⟩
      rw [show (List.take (pre dgt (b :: q)) (b :: q)).foldl (fun n b => 10 * n + dig b) 0 = numL ((b :: q).take (pre dgt (b :: q))) from rfl] at hD
      unfold wdAt
      generalize numL ((b :: q).take (pre dgt (b :: q))) = z at *
      generalize pre dgt (b :: q) = n at *
      let t0 : Tp pr := .g .u8 (show (lkpS S (↑p.length : Int)) = some (b) from g1)
      exact .tp [t0, .a (d1), .b (rfl : true = true), .a (hD)] (by kernel_rfl)
end Go.Ev

/- The words of a text, by the program. -/
namespace Go.Ev
set_option linter.unusedVariables false
set_option linter.unusedSimpArgs false
open Go.Proofs
set_option maxRecDepth 100000
set_option linter.unusedVariables false
set_option linter.unusedSimpArgs false
set_option maxHeartbeats 4000000
attribute [local simp] e0
theorem u8_32 (b : UInt8) : b = 32 ↔ (b.toNat : Int) = 32 := by
  constructor
  · rintro rfl; rfl
  · intro h
    have h2 : b.toNat = 32 := by omega
    exact UInt8.toNat_inj.1 (by rw [h2]; rfl)
theorem u8_10 (b : UInt8) : b = 10 ↔ (b.toNat : Int) = 10 := by
  constructor
  · rintro rfl; rfl
  · intro h
    have h2 : b.toNat = 10 := by omega
    exact UInt8.toNat_inj.1 (by rw [h2]; rfl)
def Tk.cc (t : Tk) : List C := [C.t (.int .i64 t.kind), C.t (.int .i64 t.num), C.t (.str (bsOf t.text)), C.t (.int .i64 t.place)]
def tkc (l : List Tk) : List (List C) := l.map Tk.cc
@[simp] theorem tkc_len (l : List Tk) : (tkc l).length = l.length := by simp [tkc]
@[simp] theorem tkc_take (l : List Tk) : List.take l.length (tkc l) = tkc l := List.take_of_length_le (by simp)
@[simp] theorem tkc_fz (l : List Tk) : List.map (fun x => List.map C.fz x) (tkc l) = l.map Tk.ce := by
  rw [tkc, List.map_map]
  congr 1
theorem tkc_snoc (l : List Tk) (k n : Int) (t : List UInt8) (p : Int) : tkc (l ++ [⟨k, n, t, p⟩]) = (tkc l).append [[C.t (.int .i64 k), C.t (.int .i64 n), C.t (.str (bsOf t)), C.t (.int .i64 p)]] := by simp [tkc, Tk.cc]
def lxI (Z : Lx) : Out := if Z.ok = true then .exit 0 (at_ [(5, .vec 0 Z.out.length 4 0 Z.out.length)] [.vec true 4 (tkc Z.out)] 0)
  else .ret (at_ [(2, .vec 0 Z.out.length 4 0 Z.out.length), (3, i64 Z.place), (4, bl false)] [.vec true 4 (tkc Z.out)] 0)
theorem lxI_end (s : ByteArray) (n : Nat) (hn : s.size = n) (hn2 : n ≤ 1000) (out : List Tk) : Ev pr (.loop (lq pr 13 0) (at_ [(0, .t (.str s)), (5, .vec 0 out.length 4 0 out.length), (6, i64 n)] [.vec true 4 (tkc out)] 0)) (lxI ⟨out, 0, true⟩) := by
  unfold lxI
  rw [if_pos rfl]
  let t1 : Tp pr := .b (show (decide ((↑n : Int) < (↑s.size : Int))) = false by (simp; omega))
  exact .tp [.i (rfl : ((↑s.size : Int)) = _), t1] (by kernel_rfl)
theorem lxI_skip (s : ByteArray) (n : Nat) (hn : n < s.size) (hn2 : s.size ≤ 1000) (out : List Tk) (c : UInt8) (hc : lkpS s n = some c) (h : (c.toNat : Int) = 32 ∨ (c.toNat : Int) = 10) (Z : Out)
    (ih : Ev pr (.loop (lq pr 13 0) (at_ [(0, .t (.str s)), (5, .vec 0 out.length 4 0 out.length), (6, i64 (n + 1))] [.vec true 4 (tkc out)] 0)) Z) :
    Ev pr (.loop (lq pr 13 0) (at_ [(0, .t (.str s)), (5, .vec 0 out.length 4 0 out.length), (6, i64 n)] [.vec true 4 (tkc out)] 0)) Z := by
  by_cases h1 : (c.toNat : Int) = 32
  · let t1 : Tp pr := .b (show (decide ((↑n : Int) < (↑s.size : Int))) = true by (simp; omega))
    let t2 : Tp pr := .g .u8 (show (lkpS s (↑n : Int)) = some (c) from hc)
    let t3 : Tp pr := .b (show (decide ((↑c.toNat : Int) = (32 : Int))) = true by (simp; omega))
    let t5 : Tp pr := .i (wrap_i64 (a := (↑n : Int) + (1 : Int)) (by omega) (by omega))
    exact .tp [.i (rfl : ((↑s.size : Int)) = _), t1, t2, t3, .b (rfl : true = true), t5, .a (ih)] (by kernel_rfl)
  · have h2 := h.resolve_left h1
    let t1 : Tp pr := .b (show (decide ((↑n : Int) < (↑s.size : Int))) = true by (simp; omega))
    let t2 : Tp pr := .g .u8 (show (lkpS s (↑n : Int)) = some (c) from hc)
    let t3 : Tp pr := .b (show (decide ((↑c.toNat : Int) = (32 : Int))) = false by (simp; omega))
    let t4 : Tp pr := .g .u8 (show (lkpS s (↑n : Int)) = some (c) from hc)
    let t5 : Tp pr := .b (show (decide ((↑c.toNat : Int) = (10 : Int))) = true by (simp; omega))
    let t6 : Tp pr := .i (wrap_i64 (a := (↑n : Int) + (1 : Int)) (by omega) (by omega))
    exact .tp [.i (rfl : ((↑s.size : Int)) = _), t1, t2, t3, t4, t5, t6, .a (ih)] (by kernel_rfl)
theorem lxI_bad (s r : ByteArray) (n : Nat) (hn : n < s.size) (hn2 : s.size ≤ 1000) (out : List Tk) (c : UInt8) (hc : lkpS s n = some c) (h1 : ¬ (c.toNat : Int) = 32) (h2 : ¬ (c.toNat : Int) = 10) (k : Int)
    (hex : s.extract n s.size = r) (g : Ev pr (.call 24 [.t (.str r)] []) (.val (noTok k) [])) :
    Ev pr (.loop (lq pr 13 0) (at_ [(0, .t (.str s)), (5, .vec 0 out.length 4 0 out.length), (6, i64 n)] [.vec true 4 (tkc out)] 0)) (lxI ⟨out, n, false⟩) := by
  unfold lxI
  rw [if_neg (by simp)]
  unfold noTok at g
  let t1 : Tp pr := .b (show (decide ((↑n : Int) < (↑s.size : Int))) = true by (simp; omega))
  let t2 : Tp pr := .g .u8 (show (lkpS s (↑n : Int)) = some (c) from hc)
  let t3 : Tp pr := .b (show (decide ((↑c.toNat : Int) = (32 : Int))) = false by (simp; omega))
  let t4 : Tp pr := .g .u8 (show (lkpS s (↑n : Int)) = some (c) from hc)
  let t5 : Tp pr := .b (show (decide ((↑c.toNat : Int) = (10 : Int))) = false by (simp; omega))
  let t6 : Tp pr := .m (show (decide ((0 : Int) ≤ (↑n : Int) ∧ (↑n : Int) ≤ (↑s.size : Int) ∧ (↑s.size : Int) ≤ (↑s.size : Int))) = true by (simp; omega))
  let t7 : Tp pr := .n .str (show (s.extract (↑n : Int).toNat (↑s.size : Int).toNat) = s.extract n s.size by simp)
  let t8 : Tp pr := .a (Ev.castq (congrArg (fun x => Q.call (24 : FuncId) [V.t (T.str x)] []) (show (r) = (s.extract n s.size) by simp [*])) (g))
  exact .tp [.i (rfl : ((↑s.size : Int)) = _), t1, t2, t3, t4, t5, t6, t7, t8, .b (rfl : true = true), .b (rfl : true = true)] (by kernel_rfl)
theorem lxI_full (s r : ByteArray) (n : Nat) (hn : n < s.size) (hn2 : s.size ≤ 1000) (out : List Tk) (ho : out.length = 120) (c : UInt8) (hc : lkpS s n = some c) (h1 : ¬ (c.toNat : Int) = 32) (h2 : ¬ (c.toNat : Int) = 10) (t : Wd) (hl : 1 ≤ t.len)
    (hex : s.extract n s.size = r) (g : Ev pr (.call 24 [.t (.str r)] []) (.val (wdTok t) [])) :
    Ev pr (.loop (lq pr 13 0) (at_ [(0, .t (.str s)), (5, .vec 0 out.length 4 0 out.length), (6, i64 n)] [.vec true 4 (tkc out)] 0)) (lxI ⟨out, n, false⟩) := by
  unfold lxI
  rw [if_neg (by simp)]
  unfold wdTok at g
  let t1 : Tp pr := .b (show (decide ((↑n : Int) < (↑s.size : Int))) = true by (simp; omega))
  let t2 : Tp pr := .g .u8 (show (lkpS s (↑n : Int)) = some (c) from hc)
  let t3 : Tp pr := .b (show (decide ((↑c.toNat : Int) = (32 : Int))) = false by (simp; omega))
  let t4 : Tp pr := .g .u8 (show (lkpS s (↑n : Int)) = some (c) from hc)
  let t5 : Tp pr := .b (show (decide ((↑c.toNat : Int) = (10 : Int))) = false by (simp; omega))
  let t6 : Tp pr := .m (show (decide ((0 : Int) ≤ (↑n : Int) ∧ (↑n : Int) ≤ (↑s.size : Int) ∧ (↑s.size : Int) ≤ (↑s.size : Int))) = true by (simp; omega))
  let t7 : Tp pr := .n .str (show (s.extract (↑n : Int).toNat (↑s.size : Int).toNat) = s.extract n s.size by simp)
  let t8 : Tp pr := .a (Ev.castq (congrArg (fun x => Q.call (24 : FuncId) [V.t (T.str x)] []) (show (r) = (s.extract n s.size) by simp [*])) (g))
  let t9 : Tp pr := .b (show (decide ((↑t.len : Int) = (0 : Int))) = false by (simp; omega))
  let t11 : Tp pr := .b (show (decide ((↑out.length : Int) = (120 : Int))) = true by (simp; omega))
  exact .tp [.i (rfl : ((↑s.size : Int)) = _), t1, t2, t3, t4, t5, t6, t7, t8, t9, .i (rfl : ((↑out.length : Int)) = _), t11] (by kernel_rfl)
theorem lxI_go (s r : ByteArray) (n : Nat) (hn : n < s.size) (hn2 : s.size ≤ 1000) (out : List Tk) (ho : out.length < 120) (c : UInt8) (hc : lkpS s n = some c) (h1 : ¬ (c.toNat : Int) = 32) (h2 : ¬ (c.toNat : Int) = 10) (t : Wd) (hl : 1 ≤ t.len ∧ n + t.len ≤ s.size)
    (hex : s.extract n s.size = r) (g : Ev pr (.call 24 [.t (.str r)] []) (.val (wdTok t) [])) (Z : Out)
    (ih : Ev pr (.loop (lq pr 13 0) (at_ [(0, .t (.str s)), (5, .vec 0 (out.length + 1) 4 0 (out.length + 1)), (6, i64 (n + t.len))] [.vec true 4 ((tkc out).append [[C.t (.int .i64 t.kind), C.t (.int .i64 t.num), C.t (.str (bsOf t.text)), C.t (.int .i64 n)]])] 0)) Z) :
    Ev pr (.loop (lq pr 13 0) (at_ [(0, .t (.str s)), (5, .vec 0 out.length 4 0 out.length), (6, i64 n)] [.vec true 4 (tkc out)] 0)) Z := by
  unfold wdTok at g
  let t1 : Tp pr := .b (show (decide ((↑n : Int) < (↑s.size : Int))) = true by (simp; omega))
  let t2 : Tp pr := .g .u8 (show (lkpS s (↑n : Int)) = some (c) from hc)
  let t3 : Tp pr := .b (show (decide ((↑c.toNat : Int) = (32 : Int))) = false by (simp; omega))
  let t4 : Tp pr := .g .u8 (show (lkpS s (↑n : Int)) = some (c) from hc)
  let t5 : Tp pr := .b (show (decide ((↑c.toNat : Int) = (10 : Int))) = false by (simp; omega))
  let t6 : Tp pr := .m (show (decide ((0 : Int) ≤ (↑n : Int) ∧ (↑n : Int) ≤ (↑s.size : Int) ∧ (↑s.size : Int) ≤ (↑s.size : Int))) = true by (simp; omega))
  let t7 : Tp pr := .n .str (show (s.extract (↑n : Int).toNat (↑s.size : Int).toNat) = s.extract n s.size by simp)
  let t8 : Tp pr := .a (Ev.castq (congrArg (fun x => Q.call (24 : FuncId) [V.t (T.str x)] []) (show (r) = (s.extract n s.size) by simp [*])) (g))
  let t9 : Tp pr := .b (show (decide ((↑t.len : Int) = (0 : Int))) = false by (simp; omega))
  let t11 : Tp pr := .b (show (decide ((↑out.length : Int) = (120 : Int))) = false by (simp; omega))
  let t13 : Tp pr := .m (show (decide ((tkc out).length = out.length ∧ (0 : Nat) + out.length ≤ out.length ∧ out.length + (1 : Nat) ≤ (4294967296 : Nat))) = true by (simp; omega))
  let t14 : Tp pr := .b (show (decide (out.length + (1 : Nat) ≤ out.length)) = false by simp)
  let t16 : Tp pr := .n .crows (show ((List.take out.length (tkc out)).append (List.take (1 : Nat) (List.drop (0 : Nat) [[C.t (T.int IntKind.i64 t.kind), C.t (T.int IntKind.i64 t.num), C.t (T.str (bsOf t.text)), C.t (T.int IntKind.i64 (↑n : Int))]]))) = tkc out ++ [[C.t (T.int IntKind.i64 t.kind), C.t (T.int IntKind.i64 t.num), C.t (T.str (bsOf t.text)), C.t (T.int IntKind.i64 (↑n : Int))]] by simp)
  let t17 : Tp pr := .i (wrap_i64 (a := (↑n : Int) + (↑t.len : Int)) (by omega) (by omega))
  exact .tp [.i (rfl : ((↑s.size : Int)) = _), t1, t2, t3, t4, t5, t6, t7, t8, t9, .i (rfl : ((↑out.length : Int)) = _), t11, .m (rfl : true = true), t13, t14, .c (rfl : (out.length + (1 : Nat)) = _), t16, t17, .a (ih)] (by kernel_rfl)
theorem lxIL_ev (L : List UInt8) (hL : L.length ≤ 300) : ∀ (f : Nat) (p r : List UInt8) (out : List Tk), L = p ++ r → r.length < f → out.length ≤ 120 →
    Ev pr (.loop (lq pr 13 0) (at_ [(0, .t (.str (bsOf L))), (5, .vec 0 out.length 4 0 out.length), (6, i64 p.length)] [.vec true 4 (tkc out)] 0)) (lxI (lexGo f r p.length out))
  | 0, p, r, out, he, hf, ho => absurd hf (by omega)
  | f + 1, p, [], out, he, hf, ho => by
    have hsz : (bsOf L).size = p.length := by rw [bsOf_size, he]; simp
    exact lxI_end _ _ hsz (by rw [← hsz, bsOf_size]; omega) out
  | f + 1, p, c :: r, out, he, hf, ho => by
    have hle : L.length = p.length + 1 + r.length := by rw [he]; simp; omega
    have hsz : (bsOf L).size = L.length := bsOf_size L
    have hc : lkpS (bsOf L) (p.length : Int) = some c := by rw [he]; exact lkpS_at rfl
    have hex : (bsOf L).extract p.length (bsOf L).size = bsOf (c :: r) := by
      rw [hsz, bsOf_extract, List.take_length, he, List.drop_left]
    simp only [List.length_cons] at hf
    rw [lexGo]
    by_cases c1 : c = 32 ∨ c = 10
    · rw [if_pos c1]
      have ih := lxIL_ev L hL f (p ++ [c]) r out (by simp [he]) (by omega) ho
      rw [List.length_append, List.length_singleton, show ((p.length + 1 : Nat) : Int) = (p.length : Int) + 1 by omega] at ih
      exact lxI_skip _ _ (by omega) (by omega) out c hc (c1.imp (u8_32 c).1 (u8_10 c).1) _ ih
    · rw [if_neg c1]
      have h1 : ¬ (c.toNat : Int) = 32 := fun h => c1 (.inl ((u8_32 c).2 h))
      have h2 : ¬ (c.toNat : Int) = 10 := fun h => c1 (.inr ((u8_10 c).2 h))
      rcases tokenAt_ev (c :: r) (by simp; omega) with ⟨t, ht, g⟩ | ⟨ht, k, g⟩
      · rw [ht]
        dsimp only
        have hl := wordOf_len ht
        simp only [List.length_cons] at hl
        by_cases c2 : out.length = 120
        · rw [if_pos c2]
          exact lxI_full _ _ _ (by omega) (by omega) out c2 c hc h1 h2 t hl.1 hex g
        · rw [if_neg c2]
          have ih := lxIL_ev L hL f (p ++ (c :: r).take t.len) ((c :: r).drop t.len) (out ++ [⟨t.kind, t.num, t.text, p.length⟩]) (by rw [List.append_assoc, List.take_append_drop]; exact he) (by rw [List.length_drop]; simp only [List.length_cons]; omega) (by simp; omega)
          have e1 : (p ++ (c :: r).take t.len).length = p.length + t.len := by rw [List.length_append, List.length_take, Nat.min_eq_left (by simp only [List.length_cons]; omega)]
          rw [e1, tkc_snoc, List.length_append, List.length_singleton, show ((p.length + t.len : Nat) : Int) = (p.length : Int) + t.len by omega] at ih
          exact lxI_go _ _ _ (by omega) (by omega) out (by omega) c hc h1 h2 t ⟨hl.1, by omega⟩ hex g _ ih
      · rw [ht]
        exact lxI_bad _ _ _ (by omega) (by omega) out c hc h1 h2 k hex g
end Go.Ev

/- The words of a text, by the reference. -/
namespace Go.Ev
set_option linter.unusedVariables false
set_option linter.unusedSimpArgs false
open Go.Proofs
set_option maxRecDepth 100000
set_option linter.unusedVariables false
set_option linter.unusedSimpArgs false
set_option maxHeartbeats 4000000
attribute [local simp] e0
def lxS (Z : Lx) : Out := if Z.ok = true then .exit 0 (at_ [(5, .vec 0 Z.out.length 4 0 Z.out.length)] [.vec true 4 (tkc Z.out)] 0)
  else .ret (at_ [(2, .t .nils), (3, i64 Z.place), (4, bl false)] [] 0)
theorem lxS_end (s : ByteArray) (n : Nat) (hn : s.size = n) (hn2 : n ≤ 1000) (out : List Tk) : Ev pr (.loop (lq pr 9 0) (at_ [(0, .t (.str s)), (5, .vec 0 out.length 4 0 out.length), (6, i64 n)] [.vec true 4 (tkc out)] 0)) (lxS ⟨out, 0, true⟩) := by
  unfold lxS
  rw [if_pos rfl]
  let t1 : Tp pr := .b (show (decide ((↑n : Int) < (↑s.size : Int))) = false by (simp; omega))
  exact .tp [.i (rfl : ((↑s.size : Int)) = _), t1] (by kernel_rfl)
theorem lxS_skip (s : ByteArray) (n : Nat) (hn : n < s.size) (hn2 : s.size ≤ 1000) (out : List Tk) (c : UInt8) (hc : lkpS s n = some c) (h : (c.toNat : Int) = 32 ∨ (c.toNat : Int) = 10) (Z : Out)
    (ih : Ev pr (.loop (lq pr 9 0) (at_ [(0, .t (.str s)), (5, .vec 0 out.length 4 0 out.length), (6, i64 (n + 1))] [.vec true 4 (tkc out)] 0)) Z) :
    Ev pr (.loop (lq pr 9 0) (at_ [(0, .t (.str s)), (5, .vec 0 out.length 4 0 out.length), (6, i64 n)] [.vec true 4 (tkc out)] 0)) Z := by
  by_cases h1 : (c.toNat : Int) = 32
  · let t1 : Tp pr := .b (show (decide ((↑n : Int) < (↑s.size : Int))) = true by (simp; omega))
    let t2 : Tp pr := .g .u8 (show (lkpS s (↑n : Int)) = some (c) from hc)
    let t3 : Tp pr := .b (show (decide ((↑c.toNat : Int) = (32 : Int))) = true by (simp; omega))
    let t5 : Tp pr := .i (wrap_i64 (a := (↑n : Int) + (1 : Int)) (by omega) (by omega))
    exact .tp [.i (rfl : ((↑s.size : Int)) = _), t1, t2, t3, .b (rfl : true = true), t5, .a (ih)] (by kernel_rfl)
  · have h2 := h.resolve_left h1
    let t1 : Tp pr := .b (show (decide ((↑n : Int) < (↑s.size : Int))) = true by (simp; omega))
    let t2 : Tp pr := .g .u8 (show (lkpS s (↑n : Int)) = some (c) from hc)
    let t3 : Tp pr := .b (show (decide ((↑c.toNat : Int) = (32 : Int))) = false by (simp; omega))
    let t4 : Tp pr := .g .u8 (show (lkpS s (↑n : Int)) = some (c) from hc)
    let t5 : Tp pr := .b (show (decide ((↑c.toNat : Int) = (10 : Int))) = true by (simp; omega))
    let t6 : Tp pr := .i (wrap_i64 (a := (↑n : Int) + (1 : Int)) (by omega) (by omega))
    exact .tp [.i (rfl : ((↑s.size : Int)) = _), t1, t2, t3, t4, t5, t6, .a (ih)] (by kernel_rfl)
theorem lxS_bad (s : ByteArray) (n : Nat) (hn : n < s.size) (hn2 : s.size ≤ 1000) (out : List Tk) (c : UInt8) (hc : lkpS s n = some c) (h1 : ¬ (c.toNat : Int) = 32) (h2 : ¬ (c.toNat : Int) = 10) 
    (g : Ev pr (.call 21 [.t (.str s), i64 n] []) (.val (noTok 0) [])) :
    Ev pr (.loop (lq pr 9 0) (at_ [(0, .t (.str s)), (5, .vec 0 out.length 4 0 out.length), (6, i64 n)] [.vec true 4 (tkc out)] 0)) (lxS ⟨out, n, false⟩) := by
  unfold lxS
  rw [if_neg (by simp)]
  unfold noTok at g
  let t1 : Tp pr := .b (show (decide ((↑n : Int) < (↑s.size : Int))) = true by (simp; omega))
  let t2 : Tp pr := .g .u8 (show (lkpS s (↑n : Int)) = some (c) from hc)
  let t3 : Tp pr := .b (show (decide ((↑c.toNat : Int) = (32 : Int))) = false by (simp; omega))
  let t4 : Tp pr := .g .u8 (show (lkpS s (↑n : Int)) = some (c) from hc)
  let t5 : Tp pr := .b (show (decide ((↑c.toNat : Int) = (10 : Int))) = false by (simp; omega))
  exact .tp [.i (rfl : ((↑s.size : Int)) = _), t1, t2, t3, t4, t5, .a (g), .b (rfl : true = true), .b (rfl : true = true)] (by kernel_rfl)
theorem lxS_full (s : ByteArray) (n : Nat) (hn : n < s.size) (hn2 : s.size ≤ 1000) (out : List Tk) (ho : out.length = 120) (c : UInt8) (hc : lkpS s n = some c) (h1 : ¬ (c.toNat : Int) = 32) (h2 : ¬ (c.toNat : Int) = 10) (t : Wd) (hl : 1 ≤ t.len)
    (g : Ev pr (.call 21 [.t (.str s), i64 n] []) (.val (wdAt n t) [])) :
    Ev pr (.loop (lq pr 9 0) (at_ [(0, .t (.str s)), (5, .vec 0 out.length 4 0 out.length), (6, i64 n)] [.vec true 4 (tkc out)] 0)) (lxS ⟨out, n, false⟩) := by
  unfold lxS
  rw [if_neg (by simp)]
  unfold wdAt at g
  let t1 : Tp pr := .b (show (decide ((↑n : Int) < (↑s.size : Int))) = true by (simp; omega))
  let t2 : Tp pr := .g .u8 (show (lkpS s (↑n : Int)) = some (c) from hc)
  let t3 : Tp pr := .b (show (decide ((↑c.toNat : Int) = (32 : Int))) = false by (simp; omega))
  let t4 : Tp pr := .g .u8 (show (lkpS s (↑n : Int)) = some (c) from hc)
  let t5 : Tp pr := .b (show (decide ((↑c.toNat : Int) = (10 : Int))) = false by (simp; omega))
  let t7 : Tp pr := .b (show (decide ((↑n : Int) + (↑t.len : Int) = (0 : Int))) = false by (simp; omega))
  let t9 : Tp pr := .b (show (decide ((↑out.length : Int) = (120 : Int))) = true by (simp; omega))
  exact .tp [.i (rfl : ((↑s.size : Int)) = _), t1, t2, t3, t4, t5, .a (g), t7, .i (rfl : ((↑out.length : Int)) = _), t9] (by kernel_rfl)
theorem lxS_go (s : ByteArray) (n : Nat) (hn : n < s.size) (hn2 : s.size ≤ 1000) (out : List Tk) (ho : out.length < 120) (c : UInt8) (hc : lkpS s n = some c) (h1 : ¬ (c.toNat : Int) = 32) (h2 : ¬ (c.toNat : Int) = 10) (t : Wd) (hl : 1 ≤ t.len ∧ n + t.len ≤ s.size)
    (g : Ev pr (.call 21 [.t (.str s), i64 n] []) (.val (wdAt n t) [])) (Z : Out)
    (ih : Ev pr (.loop (lq pr 9 0) (at_ [(0, .t (.str s)), (5, .vec 0 (out.length + 1) 4 0 (out.length + 1)), (6, i64 (n + t.len))] [.vec true 4 ((tkc out).append [[C.t (.int .i64 t.kind), C.t (.int .i64 t.num), C.t (.str (bsOf t.text)), C.t (.int .i64 n)]])] 0)) Z) :
    Ev pr (.loop (lq pr 9 0) (at_ [(0, .t (.str s)), (5, .vec 0 out.length 4 0 out.length), (6, i64 n)] [.vec true 4 (tkc out)] 0)) Z := by
  unfold wdAt at g
  let t1 : Tp pr := .b (show (decide ((↑n : Int) < (↑s.size : Int))) = true by (simp; omega))
  let t2 : Tp pr := .g .u8 (show (lkpS s (↑n : Int)) = some (c) from hc)
  let t3 : Tp pr := .b (show (decide ((↑c.toNat : Int) = (32 : Int))) = false by (simp; omega))
  let t4 : Tp pr := .g .u8 (show (lkpS s (↑n : Int)) = some (c) from hc)
  let t5 : Tp pr := .b (show (decide ((↑c.toNat : Int) = (10 : Int))) = false by (simp; omega))
  let t7 : Tp pr := .b (show (decide ((↑n : Int) + (↑t.len : Int) = (0 : Int))) = false by (simp; omega))
  let t9 : Tp pr := .b (show (decide ((↑out.length : Int) = (120 : Int))) = false by (simp; omega))
  let t11 : Tp pr := .m (show (decide ((tkc out).length = out.length ∧ (0 : Nat) + out.length ≤ out.length ∧ out.length + (1 : Nat) ≤ (4294967296 : Nat))) = true by (simp; omega))
  let t12 : Tp pr := .b (show (decide (out.length + (1 : Nat) ≤ out.length)) = false by simp)
  let t14 : Tp pr := .n .crows (show ((List.take out.length (tkc out)).append (List.take (1 : Nat) (List.drop (0 : Nat) [[C.t (T.int IntKind.i64 t.kind), C.t (T.int IntKind.i64 t.num), C.t (T.str (bsOf t.text)), C.t (T.int IntKind.i64 (↑n : Int))]]))) = tkc out ++ [[C.t (T.int IntKind.i64 t.kind), C.t (T.int IntKind.i64 t.num), C.t (T.str (bsOf t.text)), C.t (T.int IntKind.i64 (↑n : Int))]] by simp)
  exact .tp [.i (rfl : ((↑s.size : Int)) = _), t1, t2, t3, t4, t5, .a (g), t7, .i (rfl : ((↑out.length : Int)) = _), t9, .m (rfl : true = true), t11, t12, .c (rfl : (out.length + (1 : Nat)) = _), t14, .a (ih)] (by kernel_rfl)
theorem lxSL_ev (L : List UInt8) (hL : L.length ≤ 300) : ∀ (f : Nat) (p r : List UInt8) (out : List Tk), L = p ++ r → r.length < f → out.length ≤ 120 →
    Ev pr (.loop (lq pr 9 0) (at_ [(0, .t (.str (bsOf L))), (5, .vec 0 out.length 4 0 out.length), (6, i64 p.length)] [.vec true 4 (tkc out)] 0)) (lxS (lexGo f r p.length out))
  | 0, p, r, out, he, hf, ho => absurd hf (by omega)
  | f + 1, p, [], out, he, hf, ho => by
    have hsz : (bsOf L).size = p.length := by rw [bsOf_size, he]; simp
    exact lxS_end _ _ hsz (by rw [← hsz, bsOf_size]; omega) out
  | f + 1, p, c :: r, out, he, hf, ho => by
    have hle : L.length = p.length + 1 + r.length := by rw [he]; simp; omega
    have hsz : (bsOf L).size = L.length := bsOf_size L
    have hc : lkpS (bsOf L) (p.length : Int) = some c := by rw [he]; exact lkpS_at rfl
    have hex : (bsOf L).extract p.length (bsOf L).size = bsOf (c :: r) := by
      rw [hsz, bsOf_extract, List.take_length, he, List.drop_left]
    simp only [List.length_cons] at hf
    rw [lexGo]
    by_cases c1 : c = 32 ∨ c = 10
    · rw [if_pos c1]
      have ih := lxSL_ev L hL f (p ++ [c]) r out (by simp [he]) (by omega) ho
      rw [List.length_append, List.length_singleton, show ((p.length + 1 : Nat) : Int) = (p.length : Int) + 1 by omega] at ih
      exact lxS_skip _ _ (by omega) (by omega) out c hc (c1.imp (u8_32 c).1 (u8_10 c).1) _ ih
    · rw [if_neg c1]
      have h1 : ¬ (c.toNat : Int) = 32 := fun h => c1 (.inl ((u8_32 c).2 h))
      have h2 : ¬ (c.toNat : Int) = 10 := fun h => c1 (.inr ((u8_10 c).2 h))
      rcases l1Token_ev p c r (by rw [← he]; omega) with ⟨t, ht, g⟩ | ⟨ht, g⟩
      · rw [ht]
        rw [← he] at g
        dsimp only
        have hl := wordOf_len ht
        simp only [List.length_cons] at hl
        by_cases c2 : out.length = 120
        · rw [if_pos c2]
          exact lxS_full _ _ (by omega) (by omega) out c2 c hc h1 h2 t hl.1 g
        · rw [if_neg c2]
          have ih := lxSL_ev L hL f (p ++ (c :: r).take t.len) ((c :: r).drop t.len) (out ++ [⟨t.kind, t.num, t.text, p.length⟩]) (by rw [List.append_assoc, List.take_append_drop]; exact he) (by rw [List.length_drop]; simp only [List.length_cons]; omega) (by simp; omega)
          have e1 : (p ++ (c :: r).take t.len).length = p.length + t.len := by rw [List.length_append, List.length_take, Nat.min_eq_left (by simp only [List.length_cons]; omega)]
          rw [e1, tkc_snoc, List.length_append, List.length_singleton, show ((p.length + t.len : Nat) : Int) = (p.length : Int) + t.len by omega] at ih
          exact lxS_go _ _ (by omega) (by omega) out (by omega) c hc h1 h2 t ⟨hl.1, by omega⟩ g _ ih
      · rw [ht]
        rw [← he] at g
        exact lxS_bad _ _ (by omega) (by omega) out c hc h1 h2 g
end Go.Ev

/- The words of a text, by both: the whole. -/
namespace Go.Ev
set_option linter.unusedVariables false
set_option linter.unusedSimpArgs false
open Go.Proofs
set_option maxRecDepth 100000
set_option linter.unusedVariables false
set_option linter.unusedSimpArgs false
set_option maxHeartbeats 4000000
attribute [local simp] e0
abbrev tks (l : List Tk) : V := .t (.seq 4 (l.map Tk.ce))
theorem lexGo_ok0 : ∀ (f : Nat) (r : List UInt8) (a : Int) (out : List Tk), (lexGo f r a out).ok = true → (lexGo f r a out).place = 0
  | 0, r, a, out, h => rfl
  | f + 1, [], a, out, h => rfl
  | f + 1, c :: r, a, out, h => by
    unfold lexGo at h ⊢
    split at h
    · rename_i c1
      rw [if_pos c1]
      exact lexGo_ok0 f r _ _ h
    · rename_i c1
      rw [if_neg c1]
      split at h
      · cases h
      · split at h
        · cases h
        · rename_i c2
          rw [if_neg c2]
          exact lexGo_ok0 f _ _ _ h
theorem lexL_ev (L : List UInt8) (hL : L.length > 300) (hL2 : L.length ≤ 9223372036854775807) : Ev pr (.call 13 [.t (.str (bsOf L))] []) (.val (.tup [tks [], i64 0, bl false]) []) := by
  have hsz : (bsOf L).size = L.length := bsOf_size L
  let t0 : Tp pr := .i (show ((↑(bsOf L).size : Int) : Int) = (↑L.length : Int) by omega)
  let t1 : Tp pr := .b (show (decide ((↑L.length : Int) > (300 : Int))) = true by (simp; omega))
  exact .tp [t0, t1, .m (rfl : true = true), .n .rows (rfl : ([]) = _)] (by kernel_rfl)
theorem lex_ev (L : List UInt8) (hL : L.length ≤ 300) : Ev pr (.call 13 [.t (.str (bsOf L))] []) (.val (.tup [tks (lexP L).out, i64 (lexP L).place, bl (lexP L).ok]) []) := by
  have hsz : (bsOf L).size = L.length := bsOf_size L
  have g := lxIL_ev L hL 400 [] L [] rfl (by omega) (by simp)
  rw [show tkc [] = [] from rfl, show (([] : List Tk).length) = 0 from rfl, show ((([] : List UInt8).length : Nat) : Int) = 0 from rfl] at g
  have h0 := lexGo_ok0 400 L 0 []
  rw [show lexGo 400 L 0 [] = lexP L from rfl] at g h0
  generalize lexP L = Z at *
  obtain ⟨out, pl, ok⟩ := Z
  unfold lxI at g
  cases ok
  · rw [if_neg (by simp)] at g
    dsimp only at *
    let t0 : Tp pr := .i (show ((↑(bsOf L).size : Int) : Int) = (↑L.length : Int) by omega)
    let t1 : Tp pr := .b (show (decide ((↑L.length : Int) > (300 : Int))) = false by (simp; omega))
    let t3 : Tp pr := .m (show (decide ((tkc out).length = out.length ∧ (0 : Nat) + out.length ≤ out.length)) = true by simp)
    let t4 : Tp pr := .n .rows (show (List.map (fun x => List.map C.fz x) (List.take out.length (List.drop (0 : Nat) (tkc out)))) = List.map Tk.ce out by simp)
    exact .tp [t0, t1, .a (g), t3, t4] (by kernel_rfl)
  · rw [if_pos rfl] at g
    have h1 : pl = 0 := h0 rfl
    subst h1
    dsimp only at *
    let t0 : Tp pr := .i (show ((↑(bsOf L).size : Int) : Int) = (↑L.length : Int) by omega)
    let t1 : Tp pr := .b (show (decide ((↑L.length : Int) > (300 : Int))) = false by (simp; omega))
    let t3 : Tp pr := .m (show (decide ((tkc out).length = out.length ∧ (0 : Nat) + out.length ≤ out.length)) = true by simp)
    let t4 : Tp pr := .n .rows (show (List.map (fun x => List.map C.fz x) (List.take out.length (List.drop (0 : Nat) (tkc out)))) = List.map Tk.ce out by simp)
    exact .tp [t0, t1, .a (g), t3, t4] (by kernel_rfl)
theorem l1LexT_ev (L : List UInt8) (hL : L.length ≤ 300) (h : (lexP L).ok = true) : Ev pr (.call 9 [.t (.str (bsOf L))] []) (.val (.tup [tks (lexP L).out, i64 0, bl true]) []) := by
  have hsz : (bsOf L).size = L.length := bsOf_size L
  have g := lxSL_ev L hL 400 [] L [] rfl (by omega) (by simp)
  rw [show tkc [] = [] from rfl, show (([] : List Tk).length) = 0 from rfl, show ((([] : List UInt8).length : Nat) : Int) = 0 from rfl] at g
  rw [show lexGo 400 L 0 [] = lexP L from rfl] at g
  generalize lexP L = Z at *
  unfold lxS at g
  rw [if_pos h] at g
  let t1 : Tp pr := .m (show (decide ((tkc Z.out).length = Z.out.length ∧ (0 : Nat) + Z.out.length ≤ Z.out.length)) = true by simp)
  let t2 : Tp pr := .n .rows (show (List.map (fun x => List.map C.fz x) (List.take Z.out.length (List.drop (0 : Nat) (tkc Z.out)))) = List.map Tk.ce Z.out by simp)
  exact .tp [.a (g), t1, t2] (by kernel_rfl)
theorem l1LexF_ev (L : List UInt8) (hL : L.length ≤ 300) (h : (lexP L).ok = false) : Ev pr (.call 9 [.t (.str (bsOf L))] []) (.val (.tup [tks [], i64 (lexP L).place, bl false]) []) := by
  have hsz : (bsOf L).size = L.length := bsOf_size L
  have g := lxSL_ev L hL 400 [] L [] rfl (by omega) (by simp)
  rw [show tkc [] = [] from rfl, show (([] : List Tk).length) = 0 from rfl, show ((([] : List UInt8).length : Nat) : Int) = 0 from rfl] at g
  rw [show lexGo 400 L 0 [] = lexP L from rfl] at g
  generalize lexP L = Z at *
  unfold lxS at g
  rw [if_neg (by simp [h])] at g
  exact .tp [.a (g)] (by kernel_rfl)
end Go.Ev

/- The program's reader: small steps. -/
namespace Go.Ev
set_option linter.unusedVariables false
set_option linter.unusedSimpArgs false
open Go.Proofs
set_option maxRecDepth 100000
set_option linter.unusedVariables false
set_option linter.unusedSimpArgs false
set_option maxHeartbeats 4000000
attribute [local simp] e0
def rdB (toks : List Tk) (a fin whole : Int) (failed : Bool) (place : Int) : Ob := .box [tks toks, i64 a, i64 fin, i64 whole, bl failed, i64 place]
def rdT (toks : List Tk) (a fin whole : Int) (failed : Bool) (place : Int) : T := .ptr [.seq 4 (toks.map Tk.ce), .int .i64 a, .int .i64 fin, .int .i64 whole, .bool failed, .int .i64 place] 0
theorem tk_lkp (dn r : List Tk) (t : Tk) : lkp ((dn ++ t :: r).map Tk.ce) (dn.length : Int) = some [T.int .i64 t.kind, T.int .i64 t.num, T.str (bsOf t.text), T.int .i64 t.place] := by simp [Tk.ce]
theorem rfail_ev (toks : List Tk) (a fin whole p : Int) : Ev pr (.call 17 [.ptr 0 1 0 0, i64 p] [rdB toks a fin whole false 0]) (.val (.t .nilp) [rdB toks a fin whole true p]) := by
  unfold rdB
  exact .tp [.b (rfl : true = true)] (by kernel_rfl)
theorem refuse_ev (dn r : List Tk) (hl : (dn ++ r).length ≤ 1000) (fin whole : Int) : Ev pr (.call 15 [.ptr 0 1 0 0] [rdB (dn ++ r) dn.length fin whole false 0]) (.val (.t .nilp) [rdB (dn ++ r) dn.length fin whole true (placeOf fin r)]) := by
  cases r with
  | nil =>
    have g := rfail_ev (dn ++ []) dn.length fin whole fin
    rw [List.append_nil] at *
    unfold rdB placeOf at *
    let t8 : Tp pr := .i (show ((↑(List.map Tk.ce dn).length : Int) : Int) = (↑dn.length : Int) by simp)
    let t11 : Tp pr := .b (show (decide ((↑dn.length : Int) = (↑dn.length : Int))) = true by simp)
    exact .tp [.m (rfl : true = true), .m (rfl : true = true), .m (rfl : true = true), .m (rfl : true = true), .m (rfl : true = true), .m (rfl : true = true), .m (rfl : true = true), .m (rfl : true = true), t8, .m (rfl : true = true), .m (rfl : true = true), t11, .a (g)] (by kernel_rfl)
  | cons t r =>
    have g := rfail_ev (dn ++ t :: r) dn.length fin whole t.place
    have hg := tk_lkp dn r t
    have hlen : (dn ++ t :: r).length = dn.length + 1 + r.length := by simp; omega
    unfold rdB placeOf at *
    generalize dn ++ t :: r = toks at *
    let t8 : Tp pr := .i (show ((↑(List.map Tk.ce toks).length : Int) : Int) = (↑toks.length : Int) by simp)
    let t11 : Tp pr := .b (show (decide ((↑dn.length : Int) = (↑toks.length : Int))) = false by (simp; omega))
    let t21 : Tp pr := .g .row (show (lkp (List.map Tk.ce toks) (↑dn.length : Int)) = some ([T.int IntKind.i64 t.kind, T.int IntKind.i64 t.num, T.str (bsOf t.text), T.int IntKind.i64 t.place]) from hg)
    exact .tp [.m (rfl : true = true), .m (rfl : true = true), .m (rfl : true = true), .m (rfl : true = true), .m (rfl : true = true), .m (rfl : true = true), .m (rfl : true = true), .m (rfl : true = true), t8, .m (rfl : true = true), .m (rfl : true = true), t11, .m (rfl : true = true), .m (rfl : true = true), .m (rfl : true = true), .m (rfl : true = true), .m (rfl : true = true), .m (rfl : true = true), .m (rfl : true = true), .m (rfl : true = true), .m (rfl : true = true), t21, .m (rfl : true = true), .m (rfl : true = true), .m (rfl : true = true), .a (g), .m (rfl : true = true), .m (rfl : true = true)] (by kernel_rfl)
theorem rsign_ev (dn r : List Tk) (hl : (dn ++ r).length ≤ 1000) (fin whole : Int) : Ev pr (.call 26 [.t (rdT (dn ++ r) dn.length fin whole false 0)] []) (.val (.t (.str (bsOf (signOf r)))) []) := by
  cases r with
  | nil =>
    rw [List.append_nil] at *
    unfold rdT signOf at *
    let t8 : Tp pr := .i (show ((↑(List.map Tk.ce dn).length : Int) : Int) = (↑dn.length : Int) by simp)
    let t12 : Tp pr := .b (show (decide ((↑dn.length : Int) = (↑dn.length : Int))) = true by simp)
    exact .tp [.m (rfl : true = true), .m (rfl : true = true), .m (rfl : true = true), .m (rfl : true = true), .m (rfl : true = true), .m (rfl : true = true), .m (rfl : true = true), .m (rfl : true = true), t8, .m (rfl : true = true), .m (rfl : true = true), .m (rfl : true = true), t12, .m (rfl : true = true), .m (rfl : true = true), .m (rfl : true = true), .m (rfl : true = true), .m (rfl : true = true), .m (rfl : true = true), .m (rfl : true = true), .m (rfl : true = true), .m (rfl : true = true), .m (rfl : true = true), .m (rfl : true = true), .m (rfl : true = true), .m (rfl : true = true), .b (rfl : true = true)] (by kernel_rfl)
  | cons t r =>
    have hg := tk_lkp dn r t
    have hlen : (dn ++ t :: r).length = dn.length + 1 + r.length := by simp; omega
    unfold rdT
    generalize dn ++ t :: r = toks at *
    by_cases c : t.kind = 3
    · rw [show signOf (t :: r) = t.text from if_pos c]
      let t8 : Tp pr := .i (show ((↑(List.map Tk.ce toks).length : Int) : Int) = (↑toks.length : Int) by simp)
      let t12 : Tp pr := .b (show (decide ((↑dn.length : Int) = (↑toks.length : Int))) = false by (simp; omega))
      let t21 : Tp pr := .g .row (show (lkp (List.map Tk.ce toks) (↑dn.length : Int)) = some ([T.int IntKind.i64 t.kind, T.int IntKind.i64 t.num, T.str (bsOf t.text), T.int IntKind.i64 t.place]) from hg)
      let t27 : Tp pr := .b (show (t.kind != (3 : Int)) = false by (simp; omega))
      let t36 : Tp pr := .g .row (show (lkp (List.map Tk.ce toks) (↑dn.length : Int)) = some ([T.int IntKind.i64 t.kind, T.int IntKind.i64 t.num, T.str (bsOf t.text), T.int IntKind.i64 t.place]) from hg)
      exact .tp [.m (rfl : true = true), .m (rfl : true = true), .m (rfl : true = true), .m (rfl : true = true), .m (rfl : true = true), .m (rfl : true = true), .m (rfl : true = true), .m (rfl : true = true), t8, .m (rfl : true = true), .m (rfl : true = true), .m (rfl : true = true), t12, .m (rfl : true = true), .m (rfl : true = true), .m (rfl : true = true), .m (rfl : true = true), .m (rfl : true = true), .m (rfl : true = true), .m (rfl : true = true), .m (rfl : true = true), t21, .m (rfl : true = true), .m (rfl : true = true), .m (rfl : true = true), .m (rfl : true = true), .m (rfl : true = true), t27, .m (rfl : true = true), .m (rfl : true = true), .m (rfl : true = true), .m (rfl : true = true), .m (rfl : true = true), .m (rfl : true = true), .m (rfl : true = true), .m (rfl : true = true), t36, .m (rfl : true = true), .m (rfl : true = true), .m (rfl : true = true), .m (rfl : true = true)] (by kernel_rfl)
    · rw [show signOf (t :: r) = [] from if_neg c]
      let t8 : Tp pr := .i (show ((↑(List.map Tk.ce toks).length : Int) : Int) = (↑toks.length : Int) by simp)
      let t12 : Tp pr := .b (show (decide ((↑dn.length : Int) = (↑toks.length : Int))) = false by (simp; omega))
      let t21 : Tp pr := .g .row (show (lkp (List.map Tk.ce toks) (↑dn.length : Int)) = some ([T.int IntKind.i64 t.kind, T.int IntKind.i64 t.num, T.str (bsOf t.text), T.int IntKind.i64 t.place]) from hg)
      let t27 : Tp pr := .b (show (t.kind != (3 : Int)) = true by (simp; omega))
      exact .tp [.m (rfl : true = true), .m (rfl : true = true), .m (rfl : true = true), .m (rfl : true = true), .m (rfl : true = true), .m (rfl : true = true), .m (rfl : true = true), .m (rfl : true = true), t8, .m (rfl : true = true), .m (rfl : true = true), .m (rfl : true = true), t12, .m (rfl : true = true), .m (rfl : true = true), .m (rfl : true = true), .m (rfl : true = true), .m (rfl : true = true), .m (rfl : true = true), .m (rfl : true = true), .m (rfl : true = true), t21, .m (rfl : true = true), .m (rfl : true = true), .m (rfl : true = true), .m (rfl : true = true), .m (rfl : true = true), t27] (by kernel_rfl)
end Go.Ev

/- The program's reader: its steps. -/
namespace Go.Ev
set_option linter.unusedVariables false
set_option linter.unusedSimpArgs false
open Go.Proofs
set_option maxRecDepth 100000
set_option linter.unusedVariables false
set_option linter.unusedSimpArgs false
set_option maxHeartbeats 4000000
attribute [local simp] e0
theorem f0_ev (toks : List Tk) (hl : toks.length ≤ 1000) (fin whole a : Int) : Ev pr (.call 25 [.ptr 0 1 0 0, i64 a] [rdB toks toks.length fin whole false 0]) (.val (.t .nilp) [rdB toks toks.length fin whole true fin]) := by
  have g := refuse_ev toks [] (by simpa using hl) fin whole
  rw [List.append_nil] at g
  unfold rdB placeOf at *
  let t8 : Tp pr := .i (show ((↑(List.map Tk.ce toks).length : Int) : Int) = (↑toks.length : Int) by simp)
  let t11 : Tp pr := .b (show (decide ((↑toks.length : Int) = (↑toks.length : Int))) = true by simp)
  exact .tp [.m (rfl : true = true), .m (rfl : true = true), .m (rfl : true = true), .m (rfl : true = true), .m (rfl : true = true), .m (rfl : true = true), .m (rfl : true = true), .m (rfl : true = true), t8, .m (rfl : true = true), .m (rfl : true = true), t11, .a (g)] (by kernel_rfl)
theorem f1_ev (toks : List Tk) (n : Nat) (hn : n < toks.length) (hl : toks.length ≤ 1000) (t : Tk) (hg : lkp (toks.map Tk.ce) (n : Int) = some [T.int .i64 t.kind, T.int .i64 t.num, T.str (bsOf t.text), T.int .i64 t.place]) (fin whole a : Int) (hk : t.kind = 1) : Ev pr (.call 25 [.ptr 0 1 0 0, i64 a] [rdB toks n fin whole false 0]) (.val (.t (E.num t.num).tp) [rdB toks (n + 1) fin whole false 0]) := by
  unfold rdB
  let t8 : Tp pr := .i (show ((↑(List.map Tk.ce toks).length : Int) : Int) = (↑toks.length : Int) by simp)
  let t11 : Tp pr := .b (show (decide ((↑n : Int) = (↑toks.length : Int))) = false by (simp; omega))
  let t20 : Tp pr := .g .row (show (lkp (List.map Tk.ce toks) (↑n : Int)) = some ([T.int IntKind.i64 t.kind, T.int IntKind.i64 t.num, T.str (bsOf t.text), T.int IntKind.i64 t.place]) from hg)
  let t25 : Tp pr := .b (show (decide (t.kind = (1 : Int))) = true by (simp; omega))
  let t26 : Tp pr := .i (wrap_i64 (a := (↑n : Int) + (1 : Int)) (by omega) (by omega))
  exact .tp [.m (rfl : true = true), .m (rfl : true = true), .m (rfl : true = true), .m (rfl : true = true), .m (rfl : true = true), .m (rfl : true = true), .m (rfl : true = true), .m (rfl : true = true), t8, .m (rfl : true = true), .m (rfl : true = true), t11, .m (rfl : true = true), .m (rfl : true = true), .m (rfl : true = true), .m (rfl : true = true), .m (rfl : true = true), .m (rfl : true = true), .m (rfl : true = true), .m (rfl : true = true), t20, .m (rfl : true = true), .m (rfl : true = true), .m (rfl : true = true), .m (rfl : true = true), t25, t26] (by kernel_rfl)
theorem f2_ev (toks : List Tk) (n : Nat) (hn : n < toks.length) (hl : toks.length ≤ 1000) (t : Tk) (hg : lkp (toks.map Tk.ce) (n : Int) = some [T.int .i64 t.kind, T.int .i64 t.num, T.str (bsOf t.text), T.int .i64 t.place]) (fin whole a : Int) (hk : t.kind = 2) : Ev pr (.call 25 [.ptr 0 1 0 0, i64 a] [rdB toks n fin whole false 0]) (.val (.t (E.name (bsOf t.text)).tp) [rdB toks (n + 1) fin whole false 0]) := by
  unfold rdB
  let t8 : Tp pr := .i (show ((↑(List.map Tk.ce toks).length : Int) : Int) = (↑toks.length : Int) by simp)
  let t11 : Tp pr := .b (show (decide ((↑n : Int) = (↑toks.length : Int))) = false by (simp; omega))
  let t20 : Tp pr := .g .row (show (lkp (List.map Tk.ce toks) (↑n : Int)) = some ([T.int IntKind.i64 t.kind, T.int IntKind.i64 t.num, T.str (bsOf t.text), T.int IntKind.i64 t.place]) from hg)
  let t25 : Tp pr := .b (show (decide (t.kind = (1 : Int))) = false by (simp; omega))
  let t26 : Tp pr := .b (show (decide (t.kind = (2 : Int))) = true by (simp; omega))
  let t27 : Tp pr := .i (wrap_i64 (a := (↑n : Int) + (1 : Int)) (by omega) (by omega))
  exact .tp [.m (rfl : true = true), .m (rfl : true = true), .m (rfl : true = true), .m (rfl : true = true), .m (rfl : true = true), .m (rfl : true = true), .m (rfl : true = true), .m (rfl : true = true), t8, .m (rfl : true = true), .m (rfl : true = true), t11, .m (rfl : true = true), .m (rfl : true = true), .m (rfl : true = true), .m (rfl : true = true), .m (rfl : true = true), .m (rfl : true = true), .m (rfl : true = true), .m (rfl : true = true), t20, .m (rfl : true = true), .m (rfl : true = true), .m (rfl : true = true), .m (rfl : true = true), t25, t26, t27] (by kernel_rfl)
theorem f3_ev (toks : List Tk) (n : Nat) (hn : n < toks.length) (hl : toks.length ≤ 1000) (t : Tk) (hg : lkp (toks.map Tk.ce) (n : Int) = some [T.int .i64 t.kind, T.int .i64 t.num, T.str (bsOf t.text), T.int .i64 t.place]) (fin whole a : Int) (hk : t.kind ≠ 1) (hk2 : t.kind ≠ 2) (h1 : t.text ≠ [40]) (h2 : t.text ≠ [45]) (h3 : t.text ≠ [33])
    (g : Ev pr (.call 15 [.ptr 0 1 0 0] [rdB toks n fin whole false 0]) (.val (.t .nilp) [rdB toks n fin whole true t.place])) :
    Ev pr (.call 25 [.ptr 0 1 0 0, i64 a] [rdB toks n fin whole false 0]) (.val (.t .nilp) [rdB toks n fin whole true t.place]) := by
  unfold rdB at *
  let t8 : Tp pr := .i (show ((↑(List.map Tk.ce toks).length : Int) : Int) = (↑toks.length : Int) by simp)
  let t11 : Tp pr := .b (show (decide ((↑n : Int) = (↑toks.length : Int))) = false by (simp; omega))
  let t20 : Tp pr := .g .row (show (lkp (List.map Tk.ce toks) (↑n : Int)) = some ([T.int IntKind.i64 t.kind, T.int IntKind.i64 t.num, T.str (bsOf t.text), T.int IntKind.i64 t.place]) from hg)
  let t25 : Tp pr := .b (show (decide (t.kind = (1 : Int))) = false by (simp; omega))
  let t26 : Tp pr := .b (show (decide (t.kind = (2 : Int))) = false by (simp; omega))
  let t27 : Tp pr := .b (show (!(bsOf t.text).toList == [(40 : UInt8)]) = true by (simp; omega))
  let t28 : Tp pr := .b (show (!(bsOf t.text).toList == [(45 : UInt8)]) = true by (simp; omega))
  let t29 : Tp pr := .b (show (!(bsOf t.text).toList == [(33 : UInt8)]) = true by (simp; omega))
  exact .tp [.m (rfl : true = true), .m (rfl : true = true), .m (rfl : true = true), .m (rfl : true = true), .m (rfl : true = true), .m (rfl : true = true), .m (rfl : true = true), .m (rfl : true = true), t8, .m (rfl : true = true), .m (rfl : true = true), t11, .m (rfl : true = true), .m (rfl : true = true), .m (rfl : true = true), .m (rfl : true = true), .m (rfl : true = true), .m (rfl : true = true), .m (rfl : true = true), .m (rfl : true = true), t20, .m (rfl : true = true), .m (rfl : true = true), .m (rfl : true = true), .m (rfl : true = true), t25, t26, t27, t28, t29, .a (g)] (by kernel_rfl)
theorem f4_ev (toks : List Tk) (n : Nat) (hn : n < toks.length) (hl : toks.length ≤ 1000) (t : Tk) (hg : lkp (toks.map Tk.ce) (n : Int) = some [T.int .i64 t.kind, T.int .i64 t.num, T.str (bsOf t.text), T.int .i64 t.place]) (fin whole a : Int) (hk : t.kind ≠ 1) (hk2 : t.kind ≠ 2) (h1 : t.text = [40] ∨ t.text = [45] ∨ t.text = [33]) : Ev pr (.call 25 [.ptr 0 1 0 0, i64 100] [rdB toks n fin whole false 0]) (.val (.t .nilp) [rdB toks n fin whole true whole]) := by
  have g := rfail_ev toks n fin whole whole
  unfold rdB at *
  rcases h1 with h1 | h1 | h1
  · let t8 : Tp pr := .i (show ((↑(List.map Tk.ce toks).length : Int) : Int) = (↑toks.length : Int) by simp)
    let t11 : Tp pr := .b (show (decide ((↑n : Int) = (↑toks.length : Int))) = false by (simp; omega))
    let t20 : Tp pr := .g .row (show (lkp (List.map Tk.ce toks) (↑n : Int)) = some ([T.int IntKind.i64 t.kind, T.int IntKind.i64 t.num, T.str (bsOf t.text), T.int IntKind.i64 t.place]) from hg)
    let t25 : Tp pr := .b (show (decide (t.kind = (1 : Int))) = false by (simp; omega))
    let t26 : Tp pr := .b (show (decide (t.kind = (2 : Int))) = false by (simp; omega))
    let t27 : Tp pr := .b (show (!(bsOf t.text).toList == [(40 : UInt8)]) = false by (simp; omega))
    exact .tp [.m (rfl : true = true), .m (rfl : true = true), .m (rfl : true = true), .m (rfl : true = true), .m (rfl : true = true), .m (rfl : true = true), .m (rfl : true = true), .m (rfl : true = true), t8, .m (rfl : true = true), .m (rfl : true = true), t11, .m (rfl : true = true), .m (rfl : true = true), .m (rfl : true = true), .m (rfl : true = true), .m (rfl : true = true), .m (rfl : true = true), .m (rfl : true = true), .m (rfl : true = true), t20, .m (rfl : true = true), .m (rfl : true = true), .m (rfl : true = true), .m (rfl : true = true), t25, t26, t27, .b (rfl : false = false), .b (rfl : false = false), .b (rfl : true = true), .a (g)] (by kernel_rfl)
  · let t8 : Tp pr := .i (show ((↑(List.map Tk.ce toks).length : Int) : Int) = (↑toks.length : Int) by simp)
    let t11 : Tp pr := .b (show (decide ((↑n : Int) = (↑toks.length : Int))) = false by (simp; omega))
    let t20 : Tp pr := .g .row (show (lkp (List.map Tk.ce toks) (↑n : Int)) = some ([T.int IntKind.i64 t.kind, T.int IntKind.i64 t.num, T.str (bsOf t.text), T.int IntKind.i64 t.place]) from hg)
    let t25 : Tp pr := .b (show (decide (t.kind = (1 : Int))) = false by (simp; omega))
    let t26 : Tp pr := .b (show (decide (t.kind = (2 : Int))) = false by (simp; omega))
    let t27 : Tp pr := .b (show (!(bsOf t.text).toList == [(40 : UInt8)]) = true by simp [*])
    let t28 : Tp pr := .b (show (!(bsOf t.text).toList == [(45 : UInt8)]) = false by (simp; omega))
    exact .tp [.m (rfl : true = true), .m (rfl : true = true), .m (rfl : true = true), .m (rfl : true = true), .m (rfl : true = true), .m (rfl : true = true), .m (rfl : true = true), .m (rfl : true = true), t8, .m (rfl : true = true), .m (rfl : true = true), t11, .m (rfl : true = true), .m (rfl : true = true), .m (rfl : true = true), .m (rfl : true = true), .m (rfl : true = true), .m (rfl : true = true), .m (rfl : true = true), .m (rfl : true = true), t20, .m (rfl : true = true), .m (rfl : true = true), .m (rfl : true = true), .m (rfl : true = true), t25, t26, t27, t28, .b (rfl : false = false), .b (rfl : true = true), .a (g)] (by kernel_rfl)
  · let t8 : Tp pr := .i (show ((↑(List.map Tk.ce toks).length : Int) : Int) = (↑toks.length : Int) by simp)
    let t11 : Tp pr := .b (show (decide ((↑n : Int) = (↑toks.length : Int))) = false by (simp; omega))
    let t20 : Tp pr := .g .row (show (lkp (List.map Tk.ce toks) (↑n : Int)) = some ([T.int IntKind.i64 t.kind, T.int IntKind.i64 t.num, T.str (bsOf t.text), T.int IntKind.i64 t.place]) from hg)
    let t25 : Tp pr := .b (show (decide (t.kind = (1 : Int))) = false by (simp; omega))
    let t26 : Tp pr := .b (show (decide (t.kind = (2 : Int))) = false by (simp; omega))
    let t27 : Tp pr := .b (show (!(bsOf t.text).toList == [(40 : UInt8)]) = true by simp [*])
    let t28 : Tp pr := .b (show (!(bsOf t.text).toList == [(45 : UInt8)]) = true by simp [*])
    let t29 : Tp pr := .b (show (!(bsOf t.text).toList == [(33 : UInt8)]) = false by (simp; omega))
    exact .tp [.m (rfl : true = true), .m (rfl : true = true), .m (rfl : true = true), .m (rfl : true = true), .m (rfl : true = true), .m (rfl : true = true), .m (rfl : true = true), .m (rfl : true = true), t8, .m (rfl : true = true), .m (rfl : true = true), t11, .m (rfl : true = true), .m (rfl : true = true), .m (rfl : true = true), .m (rfl : true = true), .m (rfl : true = true), .m (rfl : true = true), .m (rfl : true = true), .m (rfl : true = true), t20, .m (rfl : true = true), .m (rfl : true = true), .m (rfl : true = true), .m (rfl : true = true), t25, t26, t27, t28, t29, .b (rfl : true = true), .a (g)] (by kernel_rfl)
theorem f5n_ev (toks : List Tk) (n : Nat) (hn : n < toks.length) (hl : toks.length ≤ 1000) (t : Tk) (hg : lkp (toks.map Tk.ce) (n : Int) = some [T.int .i64 t.kind, T.int .i64 t.num, T.str (bsOf t.text), T.int .i64 t.place]) (fin whole a : Int) (hk : t.kind ≠ 1) (hk2 : t.kind ≠ 2) (h1 : t.text = [40]) (ha : 0 ≤ a ∧ a < 100) (a' p : Int)
    (g : Ev pr (.call 14 [.ptr 0 1 0 0, i64 0, i64 (a + 1)] [rdB toks (n + 1) fin whole false 0]) (.val (.t .nilp) [rdB toks a' fin whole true p])) :
    Ev pr (.call 25 [.ptr 0 1 0 0, i64 a] [rdB toks n fin whole false 0]) (.val (.t .nilp) [rdB toks a' fin whole true p]) := by
  unfold rdB at *
  let t8 : Tp pr := .i (show ((↑(List.map Tk.ce toks).length : Int) : Int) = (↑toks.length : Int) by simp)
  let t11 : Tp pr := .b (show (decide ((↑n : Int) = (↑toks.length : Int))) = false by (simp; omega))
  let t20 : Tp pr := .g .row (show (lkp (List.map Tk.ce toks) (↑n : Int)) = some ([T.int IntKind.i64 t.kind, T.int IntKind.i64 t.num, T.str (bsOf t.text), T.int IntKind.i64 t.place]) from hg)
  let t25 : Tp pr := .b (show (decide (t.kind = (1 : Int))) = false by (simp; omega))
  let t26 : Tp pr := .b (show (decide (t.kind = (2 : Int))) = false by (simp; omega))
  let t27 : Tp pr := .b (show (!(bsOf t.text).toList == [(40 : UInt8)]) = false by (simp; omega))
  let t30 : Tp pr := .b (show (decide (a = (100 : Int))) = false by (simp; omega))
  let t31 : Tp pr := .i (wrap_i64 (a := (↑n : Int) + (1 : Int)) (by omega) (by omega))
  let t32 : Tp pr := .b (show ((bsOf t.text).toList == [(40 : UInt8)]) = true by (simp; omega))
  let t33 : Tp pr := .i (wrap_i64 (a := a + (1 : Int)) (by omega) (by omega))
  exact .tp [.m (rfl : true = true), .m (rfl : true = true), .m (rfl : true = true), .m (rfl : true = true), .m (rfl : true = true), .m (rfl : true = true), .m (rfl : true = true), .m (rfl : true = true), t8, .m (rfl : true = true), .m (rfl : true = true), t11, .m (rfl : true = true), .m (rfl : true = true), .m (rfl : true = true), .m (rfl : true = true), .m (rfl : true = true), .m (rfl : true = true), .m (rfl : true = true), .m (rfl : true = true), t20, .m (rfl : true = true), .m (rfl : true = true), .m (rfl : true = true), .m (rfl : true = true), t25, t26, t27, .b (rfl : false = false), .b (rfl : false = false), t30, t31, t32, t33, .a (g), .b (rfl : true = true)] (by kernel_rfl)
theorem f5b_ev (toks : List Tk) (n : Nat) (hn : n < toks.length) (hl : toks.length ≤ 1000) (t : Tk) (hg : lkp (toks.map Tk.ce) (n : Int) = some [T.int .i64 t.kind, T.int .i64 t.num, T.str (bsOf t.text), T.int .i64 t.place]) (fin whole a : Int) (hk : t.kind ≠ 1) (hk2 : t.kind ≠ 2) (h1 : t.text = [40]) (ha : 0 ≤ a ∧ a < 100) (x : E) (m : Nat) (hm : m ≤ 1000) (s : List UInt8) (hs : s ≠ [41]) (p : Int)
    (g : Ev pr (.call 14 [.ptr 0 1 0 0, i64 0, i64 (a + 1)] [rdB toks (n + 1) fin whole false 0]) (.val (.t x.tp) [rdB toks m fin whole false 0]))
    (g2 : Ev pr (.call 26 [.t (rdT toks m fin whole false 0)] []) (.val (.t (.str (bsOf s))) []))
    (g3 : Ev pr (.call 15 [.ptr 0 1 0 0] [rdB toks m fin whole false 0]) (.val (.t .nilp) [rdB toks m fin whole true p])) :
    Ev pr (.call 25 [.ptr 0 1 0 0, i64 a] [rdB toks n fin whole false 0]) (.val (.t .nilp) [rdB toks m fin whole true p]) := by
  unfold rdB rdT E.tp at *
  let t8 : Tp pr := .i (show ((↑(List.map Tk.ce toks).length : Int) : Int) = (↑toks.length : Int) by simp)
  let t11 : Tp pr := .b (show (decide ((↑n : Int) = (↑toks.length : Int))) = false by (simp; omega))
  let t20 : Tp pr := .g .row (show (lkp (List.map Tk.ce toks) (↑n : Int)) = some ([T.int IntKind.i64 t.kind, T.int IntKind.i64 t.num, T.str (bsOf t.text), T.int IntKind.i64 t.place]) from hg)
  let t25 : Tp pr := .b (show (decide (t.kind = (1 : Int))) = false by (simp; omega))
  let t26 : Tp pr := .b (show (decide (t.kind = (2 : Int))) = false by (simp; omega))
  let t27 : Tp pr := .b (show (!(bsOf t.text).toList == [(40 : UInt8)]) = false by (simp; omega))
  let t30 : Tp pr := .b (show (decide (a = (100 : Int))) = false by (simp; omega))
  let t31 : Tp pr := .i (wrap_i64 (a := (↑n : Int) + (1 : Int)) (by omega) (by omega))
  let t32 : Tp pr := .b (show ((bsOf t.text).toList == [(40 : UInt8)]) = true by (simp; omega))
  let t33 : Tp pr := .i (wrap_i64 (a := a + (1 : Int)) (by omega) (by omega))
  let t38 : Tp pr := .b (show (!(bsOf s).toList == [(41 : UInt8)]) = true by (simp; omega))
  exact .tp [.m (rfl : true = true), .m (rfl : true = true), .m (rfl : true = true), .m (rfl : true = true), .m (rfl : true = true), .m (rfl : true = true), .m (rfl : true = true), .m (rfl : true = true), t8, .m (rfl : true = true), .m (rfl : true = true), t11, .m (rfl : true = true), .m (rfl : true = true), .m (rfl : true = true), .m (rfl : true = true), .m (rfl : true = true), .m (rfl : true = true), .m (rfl : true = true), .m (rfl : true = true), t20, .m (rfl : true = true), .m (rfl : true = true), .m (rfl : true = true), .m (rfl : true = true), t25, t26, t27, .b (rfl : false = false), .b (rfl : false = false), t30, t31, t32, t33, .a (g), .b (rfl : false = false), .a (g2), .m (rfl : true = true), t38, .a (g3)] (by kernel_rfl)
theorem f5o_ev (toks : List Tk) (n : Nat) (hn : n < toks.length) (hl : toks.length ≤ 1000) (t : Tk) (hg : lkp (toks.map Tk.ce) (n : Int) = some [T.int .i64 t.kind, T.int .i64 t.num, T.str (bsOf t.text), T.int .i64 t.place]) (fin whole a : Int) (hk : t.kind ≠ 1) (hk2 : t.kind ≠ 2) (h1 : t.text = [40]) (ha : 0 ≤ a ∧ a < 100) (x : E) (m : Nat) (hm : m ≤ 1000)
    (g : Ev pr (.call 14 [.ptr 0 1 0 0, i64 0, i64 (a + 1)] [rdB toks (n + 1) fin whole false 0]) (.val (.t x.tp) [rdB toks m fin whole false 0]))
    (g2 : Ev pr (.call 26 [.t (rdT toks m fin whole false 0)] []) (.val (.t (.str (bsOf [41]))) [])) :
    Ev pr (.call 25 [.ptr 0 1 0 0, i64 a] [rdB toks n fin whole false 0]) (.val (.t x.tp) [rdB toks (m + 1) fin whole false 0]) := by
  unfold rdB rdT E.tp at *
  let t8 : Tp pr := .i (show ((↑(List.map Tk.ce toks).length : Int) : Int) = (↑toks.length : Int) by simp)
  let t11 : Tp pr := .b (show (decide ((↑n : Int) = (↑toks.length : Int))) = false by (simp; omega))
  let t20 : Tp pr := .g .row (show (lkp (List.map Tk.ce toks) (↑n : Int)) = some ([T.int IntKind.i64 t.kind, T.int IntKind.i64 t.num, T.str (bsOf t.text), T.int IntKind.i64 t.place]) from hg)
  let t25 : Tp pr := .b (show (decide (t.kind = (1 : Int))) = false by (simp; omega))
  let t26 : Tp pr := .b (show (decide (t.kind = (2 : Int))) = false by (simp; omega))
  let t27 : Tp pr := .b (show (!(bsOf t.text).toList == [(40 : UInt8)]) = false by (simp; omega))
  let t30 : Tp pr := .b (show (decide (a = (100 : Int))) = false by (simp; omega))
  let t31 : Tp pr := .i (wrap_i64 (a := (↑n : Int) + (1 : Int)) (by omega) (by omega))
  let t32 : Tp pr := .b (show ((bsOf t.text).toList == [(40 : UInt8)]) = true by (simp; omega))
  let t33 : Tp pr := .i (wrap_i64 (a := a + (1 : Int)) (by omega) (by omega))
  let t39 : Tp pr := .i (wrap_i64 (a := (↑m : Int) + (1 : Int)) (by omega) (by omega))
  exact .tp [.m (rfl : true = true), .m (rfl : true = true), .m (rfl : true = true), .m (rfl : true = true), .m (rfl : true = true), .m (rfl : true = true), .m (rfl : true = true), .m (rfl : true = true), t8, .m (rfl : true = true), .m (rfl : true = true), t11, .m (rfl : true = true), .m (rfl : true = true), .m (rfl : true = true), .m (rfl : true = true), .m (rfl : true = true), .m (rfl : true = true), .m (rfl : true = true), .m (rfl : true = true), t20, .m (rfl : true = true), .m (rfl : true = true), .m (rfl : true = true), .m (rfl : true = true), t25, t26, t27, .b (rfl : false = false), .b (rfl : false = false), t30, t31, t32, t33, .a (g), .b (rfl : false = false), .a (g2), .m (rfl : true = true), .b (rfl : false = false), t39] (by kernel_rfl)
theorem f6n_ev (toks : List Tk) (n : Nat) (hn : n < toks.length) (hl : toks.length ≤ 1000) (t : Tk) (hg : lkp (toks.map Tk.ce) (n : Int) = some [T.int .i64 t.kind, T.int .i64 t.num, T.str (bsOf t.text), T.int .i64 t.place]) (fin whole a : Int) (hk : t.kind ≠ 1) (hk2 : t.kind ≠ 2) (h1 : t.text = [45] ∨ t.text = [33]) (ha : 0 ≤ a ∧ a < 100) (a' p : Int)
    (g : Ev pr (.call 25 [.ptr 0 1 0 0, i64 (a + 1)] [rdB toks (n + 1) fin whole false 0]) (.val (.t .nilp) [rdB toks a' fin whole true p])) :
    Ev pr (.call 25 [.ptr 0 1 0 0, i64 a] [rdB toks n fin whole false 0]) (.val (.t .nilp) [rdB toks a' fin whole true p]) := by
  unfold rdB at *
  rcases h1 with h1 | h1
  · let t8 : Tp pr := .i (show ((↑(List.map Tk.ce toks).length : Int) : Int) = (↑toks.length : Int) by simp)
    let t11 : Tp pr := .b (show (decide ((↑n : Int) = (↑toks.length : Int))) = false by (simp; omega))
    let t20 : Tp pr := .g .row (show (lkp (List.map Tk.ce toks) (↑n : Int)) = some ([T.int IntKind.i64 t.kind, T.int IntKind.i64 t.num, T.str (bsOf t.text), T.int IntKind.i64 t.place]) from hg)
    let t25 : Tp pr := .b (show (decide (t.kind = (1 : Int))) = false by (simp; omega))
    let t26 : Tp pr := .b (show (decide (t.kind = (2 : Int))) = false by (simp; omega))
    let t27 : Tp pr := .b (show (!(bsOf t.text).toList == [(40 : UInt8)]) = true by simp [*])
    let t28 : Tp pr := .b (show (!(bsOf t.text).toList == [(45 : UInt8)]) = false by (simp; omega))
    let t30 : Tp pr := .b (show (decide (a = (100 : Int))) = false by (simp; omega))
    let t31 : Tp pr := .i (wrap_i64 (a := (↑n : Int) + (1 : Int)) (by omega) (by omega))
    let t32 : Tp pr := .b (show ((bsOf t.text).toList == [(40 : UInt8)]) = false by simp [*])
    let t33 : Tp pr := .i (wrap_i64 (a := a + (1 : Int)) (by omega) (by omega))
    exact .tp [.m (rfl : true = true), .m (rfl : true = true), .m (rfl : true = true), .m (rfl : true = true), .m (rfl : true = true), .m (rfl : true = true), .m (rfl : true = true), .m (rfl : true = true), t8, .m (rfl : true = true), .m (rfl : true = true), t11, .m (rfl : true = true), .m (rfl : true = true), .m (rfl : true = true), .m (rfl : true = true), .m (rfl : true = true), .m (rfl : true = true), .m (rfl : true = true), .m (rfl : true = true), t20, .m (rfl : true = true), .m (rfl : true = true), .m (rfl : true = true), .m (rfl : true = true), t25, t26, t27, t28, .b (rfl : false = false), t30, t31, t32, t33, .a (g), .b (rfl : true = true)] (by kernel_rfl)
  · let t8 : Tp pr := .i (show ((↑(List.map Tk.ce toks).length : Int) : Int) = (↑toks.length : Int) by simp)
    let t11 : Tp pr := .b (show (decide ((↑n : Int) = (↑toks.length : Int))) = false by (simp; omega))
    let t20 : Tp pr := .g .row (show (lkp (List.map Tk.ce toks) (↑n : Int)) = some ([T.int IntKind.i64 t.kind, T.int IntKind.i64 t.num, T.str (bsOf t.text), T.int IntKind.i64 t.place]) from hg)
    let t25 : Tp pr := .b (show (decide (t.kind = (1 : Int))) = false by (simp; omega))
    let t26 : Tp pr := .b (show (decide (t.kind = (2 : Int))) = false by (simp; omega))
    let t27 : Tp pr := .b (show (!(bsOf t.text).toList == [(40 : UInt8)]) = true by simp [*])
    let t28 : Tp pr := .b (show (!(bsOf t.text).toList == [(45 : UInt8)]) = true by simp [*])
    let t29 : Tp pr := .b (show (!(bsOf t.text).toList == [(33 : UInt8)]) = false by (simp; omega))
    let t30 : Tp pr := .b (show (decide (a = (100 : Int))) = false by (simp; omega))
    let t31 : Tp pr := .i (wrap_i64 (a := (↑n : Int) + (1 : Int)) (by omega) (by omega))
    let t32 : Tp pr := .b (show ((bsOf t.text).toList == [(40 : UInt8)]) = false by simp [*])
    let t33 : Tp pr := .i (wrap_i64 (a := a + (1 : Int)) (by omega) (by omega))
    exact .tp [.m (rfl : true = true), .m (rfl : true = true), .m (rfl : true = true), .m (rfl : true = true), .m (rfl : true = true), .m (rfl : true = true), .m (rfl : true = true), .m (rfl : true = true), t8, .m (rfl : true = true), .m (rfl : true = true), t11, .m (rfl : true = true), .m (rfl : true = true), .m (rfl : true = true), .m (rfl : true = true), .m (rfl : true = true), .m (rfl : true = true), .m (rfl : true = true), .m (rfl : true = true), t20, .m (rfl : true = true), .m (rfl : true = true), .m (rfl : true = true), .m (rfl : true = true), t25, t26, t27, t28, t29, t30, t31, t32, t33, .a (g), .b (rfl : true = true)] (by kernel_rfl)
theorem f6o_ev (toks : List Tk) (n : Nat) (hn : n < toks.length) (hl : toks.length ≤ 1000) (t : Tk) (hg : lkp (toks.map Tk.ce) (n : Int) = some [T.int .i64 t.kind, T.int .i64 t.num, T.str (bsOf t.text), T.int .i64 t.place]) (fin whole a : Int) (hk : t.kind ≠ 1) (hk2 : t.kind ≠ 2) (h1 : t.text = [45] ∨ t.text = [33]) (ha : 0 ≤ a ∧ a < 100) (x : E) (m : Nat)
    (g : Ev pr (.call 25 [.ptr 0 1 0 0, i64 (a + 1)] [rdB toks (n + 1) fin whole false 0]) (.val (.t x.tp) [rdB toks m fin whole false 0])) :
    Ev pr (.call 25 [.ptr 0 1 0 0, i64 a] [rdB toks n fin whole false 0]) (.val (.t (unE t.text x).tp) [rdB toks m fin whole false 0]) := by
  unfold rdB at *
  unfold unE
  rcases h1 with h1 | h1
  · rw [h1, if_neg (by decide)]
    rw [h1] at hg
    unfold E.tp at g
    let t8 : Tp pr := .i (show ((↑(List.map Tk.ce toks).length : Int) : Int) = (↑toks.length : Int) by simp)
    let t11 : Tp pr := .b (show (decide ((↑n : Int) = (↑toks.length : Int))) = false by (simp; omega))
    let t20 : Tp pr := .g .row (show (lkp (List.map Tk.ce toks) (↑n : Int)) = some ([T.int IntKind.i64 t.kind, T.int IntKind.i64 t.num, T.str (bsOf [(45 : UInt8)]), T.int IntKind.i64 t.place]) from hg)
    let t25 : Tp pr := .b (show (decide (t.kind = (1 : Int))) = false by (simp; omega))
    let t26 : Tp pr := .b (show (decide (t.kind = (2 : Int))) = false by (simp; omega))
    let t30 : Tp pr := .b (show (decide (a = (100 : Int))) = false by (simp; omega))
    let t31 : Tp pr := .i (wrap_i64 (a := (↑n : Int) + (1 : Int)) (by omega) (by omega))
    let t33 : Tp pr := .i (wrap_i64 (a := a + (1 : Int)) (by omega) (by omega))
    exact .tp [.m (rfl : true = true), .m (rfl : true = true), .m (rfl : true = true), .m (rfl : true = true), .m (rfl : true = true), .m (rfl : true = true), .m (rfl : true = true), .m (rfl : true = true), t8, .m (rfl : true = true), .m (rfl : true = true), t11, .m (rfl : true = true), .m (rfl : true = true), .m (rfl : true = true), .m (rfl : true = true), .m (rfl : true = true), .m (rfl : true = true), .m (rfl : true = true), .m (rfl : true = true), t20, .m (rfl : true = true), .m (rfl : true = true), .m (rfl : true = true), .m (rfl : true = true), t25, t26, .b (rfl : true = true), .b (rfl : false = false), .b (rfl : false = false), t30, t31, .b (rfl : false = false), t33, .a (g), .b (rfl : false = false), .b (rfl : false = false)] (by kernel_rfl)
  · rw [h1, if_pos rfl]
    rw [h1] at hg
    unfold E.tp at g
    let t8 : Tp pr := .i (show ((↑(List.map Tk.ce toks).length : Int) : Int) = (↑toks.length : Int) by simp)
    let t11 : Tp pr := .b (show (decide ((↑n : Int) = (↑toks.length : Int))) = false by (simp; omega))
    let t20 : Tp pr := .g .row (show (lkp (List.map Tk.ce toks) (↑n : Int)) = some ([T.int IntKind.i64 t.kind, T.int IntKind.i64 t.num, T.str (bsOf [(33 : UInt8)]), T.int IntKind.i64 t.place]) from hg)
    let t25 : Tp pr := .b (show (decide (t.kind = (1 : Int))) = false by (simp; omega))
    let t26 : Tp pr := .b (show (decide (t.kind = (2 : Int))) = false by (simp; omega))
    let t30 : Tp pr := .b (show (decide (a = (100 : Int))) = false by (simp; omega))
    let t31 : Tp pr := .i (wrap_i64 (a := (↑n : Int) + (1 : Int)) (by omega) (by omega))
    let t33 : Tp pr := .i (wrap_i64 (a := a + (1 : Int)) (by omega) (by omega))
    exact .tp [.m (rfl : true = true), .m (rfl : true = true), .m (rfl : true = true), .m (rfl : true = true), .m (rfl : true = true), .m (rfl : true = true), .m (rfl : true = true), .m (rfl : true = true), t8, .m (rfl : true = true), .m (rfl : true = true), t11, .m (rfl : true = true), .m (rfl : true = true), .m (rfl : true = true), .m (rfl : true = true), .m (rfl : true = true), .m (rfl : true = true), .m (rfl : true = true), .m (rfl : true = true), t20, .m (rfl : true = true), .m (rfl : true = true), .m (rfl : true = true), .m (rfl : true = true), t25, t26, .b (rfl : true = true), .b (rfl : true = true), .b (rfl : false = false), t30, t31, .b (rfl : false = false), t33, .a (g), .b (rfl : false = false), .b (rfl : true = true)] (by kernel_rfl)
end Go.Ev

/- The program's reader: its loop. -/
namespace Go.Ev
set_option linter.unusedVariables false
set_option linter.unusedSimpArgs false
open Go.Proofs
set_option maxRecDepth 100000
set_option linter.unusedVariables false
set_option linter.unusedSimpArgs false
set_option maxHeartbeats 4000000
attribute [local simp] e0
theorem rdEnd_ev (toks : List Tk) (hl : toks.length ≤ 1000) (n : Nat) (fin whole least a : Int) (x : E) (s : List UInt8) (h : strength s = 0 ∨ strength s < least)
    (g2 : Ev pr (.call 26 [.t (rdT toks n fin whole false 0)] []) (.val (.t (.str (bsOf s))) [])) :
    Ev pr (.loop (lq pr 14 0) (at_ [(0, .ptr 0 1 0 0), (1, i64 least), (2, i64 a), (7, .t x.tp)] [rdB toks n fin whole false 0] 1)) (.ret (at_ [(6, .t x.tp)] [rdB toks n fin whole false 0] 1)) := by
  have st := StrengthOf_ev (bsOf s)
  have hs := strength_nonneg s
  rw [bsOf_toList] at st
  generalize strength s = k at *
  unfold rdB rdT E.tp at *
  by_cases c : k = 0
  · subst c
    exact .tp [.b (rfl : true = true), .a (g2), .m (rfl : true = true), .a (st), .b (rfl : true = true), .b (rfl : true = true)] (by kernel_rfl)
  · have c2 := h.resolve_left c
    let t4 : Tp pr := .b (show (!decide (k > (0 : Int))) = false by (simp; omega))
    let t5 : Tp pr := .b (show (decide (k < least)) = true by (simp; omega))
    exact .tp [.b (rfl : true = true), .a (g2), .m (rfl : true = true), .a (st), t4, t5] (by kernel_rfl)
theorem rdBad_ev (toks : List Tk) (hl : toks.length ≤ 1000) (n : Nat) (hn : n < toks.length) (fin whole least a : Int) (x : E) (s : List UInt8) (h : strength s ≠ 0) (h2 : ¬ strength s < least) (a' p : Int)
    (g2 : Ev pr (.call 26 [.t (rdT toks n fin whole false 0)] []) (.val (.t (.str (bsOf s))) []))
    (g : Ev pr (.call 14 [.ptr 0 1 0 0, i64 (if strength s = 7 then 7 else strength s + 1), i64 a] [rdB toks (n + 1) fin whole false 0]) (.val (.t .nilp) [rdB toks a' fin whole true p])) :
    Ev pr (.loop (lq pr 14 0) (at_ [(0, .ptr 0 1 0 0), (1, i64 least), (2, i64 a), (7, .t x.tp)] [rdB toks n fin whole false 0] 1)) (.ret (at_ [(6, .t .nilp)] [rdB toks a' fin whole true p] 1)) := by
  have st := StrengthOf_ev (bsOf s)
  have hs := strength_nonneg s
  have hs7 : strength s ≤ 7 := by unfold strength; repeat' split <;> omega
  rw [bsOf_toList] at st
  generalize strength s = k at *
  unfold rdB rdT E.tp at *
  by_cases c : k = 7
  · subst c
    rw [if_pos rfl] at g
    let t5 : Tp pr := .b (show (decide ((7 : Int) < least)) = false by (simp; omega))
    let t6 : Tp pr := .i (wrap_i64 (a := (↑n : Int) + (1 : Int)) (by omega) (by omega))
    let t7 : Tp pr := .i (rfl : ((8 : Int) : Int) = (8 : Int))
    exact .tp [.b (rfl : true = true), .a (g2), .m (rfl : true = true), .a (st), .b (rfl : false = false), t5, t6, t7, .b (rfl : true = true), .a (g), .b (rfl : true = true)] (by kernel_rfl)
  · rw [if_neg c] at g
    let t4 : Tp pr := .b (show (!decide (k > (0 : Int))) = false by (simp; omega))
    let t5 : Tp pr := .b (show (decide (k < least)) = false by (simp; omega))
    let t6 : Tp pr := .i (wrap_i64 (a := (↑n : Int) + (1 : Int)) (by omega) (by omega))
    let t7 : Tp pr := .i (wrap_i64 (a := k + (1 : Int)) (by omega) (by omega))
    let t8 : Tp pr := .b (show (decide (k = (7 : Int))) = false by (simp; omega))
    exact .tp [.b (rfl : true = true), .a (g2), .m (rfl : true = true), .a (st), t4, t5, t6, t7, t8, .a (g), .b (rfl : true = true)] (by kernel_rfl)
theorem rdGo_ev (toks : List Tk) (hl : toks.length ≤ 1000) (n : Nat) (hn : n < toks.length) (fin whole least a : Int) (x y : E) (s : List UInt8) (h : strength s ≠ 0) (h2 : ¬ strength s < least) (m : Nat) (Z : Out)
    (g2 : Ev pr (.call 26 [.t (rdT toks n fin whole false 0)] []) (.val (.t (.str (bsOf s))) []))
    (g : Ev pr (.call 14 [.ptr 0 1 0 0, i64 (if strength s = 7 then 7 else strength s + 1), i64 a] [rdB toks (n + 1) fin whole false 0]) (.val (.t y.tp) [rdB toks m fin whole false 0]))
    (ih : Ev pr (.loop (lq pr 14 0) (at_ [(0, .ptr 0 1 0 0), (1, i64 least), (2, i64 a), (7, .t (E.two (bsOf s) x y).tp)] [rdB toks m fin whole false 0] 1)) Z) :
    Ev pr (.loop (lq pr 14 0) (at_ [(0, .ptr 0 1 0 0), (1, i64 least), (2, i64 a), (7, .t x.tp)] [rdB toks n fin whole false 0] 1)) Z := by
  have st := StrengthOf_ev (bsOf s)
  have hs := strength_nonneg s
  have hs7 : strength s ≤ 7 := by unfold strength; repeat' split <;> omega
  rw [bsOf_toList] at st
  rw [show (E.two (bsOf s) x y).tp = T.ptr [.int .i64 5, .int .i64 0, .str (bsOf s), x.tp, y.tp] 0 from rfl] at ih
  generalize strength s = k at *
  unfold rdB rdT at *
  rw [show x.tp = T.ptr [.int .i64 x.kind, .int .i64 x.nm, .str x.text, x.tab.1, x.tab.2] 0 from rfl] at *
  rw [show y.tp = T.ptr [.int .i64 y.kind, .int .i64 y.nm, .str y.text, y.tab.1, y.tab.2] 0 from rfl] at *
  by_cases c : k = 7
  · subst c
    rw [if_pos rfl] at g
    let t5 : Tp pr := .b (show (decide ((7 : Int) < least)) = false by (simp; omega))
    let t6 : Tp pr := .i (wrap_i64 (a := (↑n : Int) + (1 : Int)) (by omega) (by omega))
    let t7 : Tp pr := .i (rfl : ((8 : Int) : Int) = (8 : Int))
    exact .tp [.b (rfl : true = true), .a (g2), .m (rfl : true = true), .a (st), .b (rfl : false = false), t5, t6, t7, .b (rfl : true = true), .a (g), .b (rfl : false = false), .a (ih)] (by kernel_rfl)
  · rw [if_neg c] at g
    let t4 : Tp pr := .b (show (!decide (k > (0 : Int))) = false by (simp; omega))
    let t5 : Tp pr := .b (show (decide (k < least)) = false by (simp; omega))
    let t6 : Tp pr := .i (wrap_i64 (a := (↑n : Int) + (1 : Int)) (by omega) (by omega))
    let t7 : Tp pr := .i (wrap_i64 (a := k + (1 : Int)) (by omega) (by omega))
    let t8 : Tp pr := .b (show (decide (k = (7 : Int))) = false by (simp; omega))
    exact .tp [.b (rfl : true = true), .a (g2), .m (rfl : true = true), .a (st), t4, t5, t6, t7, t8, .a (g), .b (rfl : false = false), .a (ih)] (by kernel_rfl)
theorem rdN_ev (toks : List Tk) (n : Nat) (fin whole least a a' p : Int)
    (g : Ev pr (.call 25 [.ptr 0 1 0 0, i64 a] [rdB toks n fin whole false 0]) (.val (.t .nilp) [rdB toks a' fin whole true p])) :
    Ev pr (.call 14 [.ptr 0 1 0 0, i64 least, i64 a] [rdB toks n fin whole false 0]) (.val (.t .nilp) [rdB toks a' fin whole true p]) := by
  have gl : Ev pr (.loop (lq pr 14 0) (at_ [(0, .ptr 0 1 0 0), (1, i64 least), (2, i64 a), (7, .t .nilp)] [rdB toks a' fin whole true p] 1)) (.exit 0 (at_ [] [rdB toks a' fin whole true p] 1)) := by
    unfold rdB
    exact .tp [.b (rfl : false = false)] (by kernel_rfl)
  unfold rdB at *
  exact .tp [.a (g), .a (gl)] (by kernel_rfl)
theorem rdO1_ev (toks : List Tk) (n m m2 : Nat) (fin whole least a : Int) (x z : E)
    (g : Ev pr (.call 25 [.ptr 0 1 0 0, i64 a] [rdB toks n fin whole false 0]) (.val (.t x.tp) [rdB toks m fin whole false 0]))
    (gl : Ev pr (.loop (lq pr 14 0) (at_ [(0, .ptr 0 1 0 0), (1, i64 least), (2, i64 a), (7, .t x.tp)] [rdB toks m fin whole false 0] 1)) (.ret (at_ [(6, .t z.tp)] [rdB toks m2 fin whole false 0] 1))) :
    Ev pr (.call 14 [.ptr 0 1 0 0, i64 least, i64 a] [rdB toks n fin whole false 0]) (.val (.t z.tp) [rdB toks m2 fin whole false 0]) := by
  unfold rdB at *
  exact .tp [.a (g), .a (gl)] (by kernel_rfl)
theorem rdO2_ev (toks : List Tk) (n m : Nat) (fin whole least a a' p : Int) (x : E)
    (g : Ev pr (.call 25 [.ptr 0 1 0 0, i64 a] [rdB toks n fin whole false 0]) (.val (.t x.tp) [rdB toks m fin whole false 0]))
    (gl : Ev pr (.loop (lq pr 14 0) (at_ [(0, .ptr 0 1 0 0), (1, i64 least), (2, i64 a), (7, .t x.tp)] [rdB toks m fin whole false 0] 1)) (.ret (at_ [(6, .t .nilp)] [rdB toks a' fin whole true p] 1))) :
    Ev pr (.call 14 [.ptr 0 1 0 0, i64 least, i64 a] [rdB toks n fin whole false 0]) (.val (.t .nilp) [rdB toks a' fin whole true p]) := by
  unfold rdB at *
  exact .tp [.a (g), .a (gl)] (by kernel_rfl)
end Go.Ev

/- The program's reader: the whole. -/
namespace Go.Ev
set_option linter.unusedVariables false
set_option linter.unusedSimpArgs false
open Go.Proofs
set_option maxRecDepth 100000
set_option linter.unusedVariables false
set_option linter.unusedSimpArgs false
set_option maxHeartbeats 4000000
def FR (toks : List Tk) (fin whole : Int) : PR → Out → Prop
  | .ok x r, o => ∃ dn, toks = dn ++ r ∧ o = .val (.t x.tp) [rdB toks dn.length fin whole false 0]
  | .bad p, o => ∃ a, o = .val (.t .nilp) [rdB toks a fin whole true p]
  | .deep, o => ∃ a, o = .val (.t .nilp) [rdB toks a fin whole true whole]
def LR (toks : List Tk) (fin whole : Int) : PR → Out → Prop
  | .ok x r, o => ∃ dn, toks = dn ++ r ∧ o = .ret (at_ [(6, .t x.tp)] [rdB toks dn.length fin whole false 0] 1)
  | .bad p, o => ∃ a, o = .ret (at_ [(6, .t .nilp)] [rdB toks a fin whole true p] 1)
  | .deep, o => ∃ a, o = .ret (at_ [(6, .t .nilp)] [rdB toks a fin whole true whole] 1)
theorem strength_pos {r : List Tk} {l : Int} (h : ¬ (strength (signOf r) = 0 ∨ strength (signOf r) < l)) : ∃ t q, r = t :: q := by
  obtain ⟨t, q, e, _⟩ := signOf_ne (r := r) fun e => h (.inl e)
  exact ⟨t, q, e⟩
theorem rd_all (toks : List Tk) (hl : toks.length ≤ 1000) (hk : PR.kindOk toks) (fin whole : Int) : ∀ f : Nat,
    (∀ (dn r : List Tk) (a : Nat), toks = dn ++ r → 3 * r.length + 1 ≤ f → a ≤ 100 → ∃ o, FR toks fin whole (firstP f fin r a) o ∧ Ev pr (.call 25 [.ptr 0 1 0 0, i64 a] [rdB toks dn.length fin whole false 0]) o) ∧
    (∀ (dn r : List Tk) (l : Int) (a : Nat), toks = dn ++ r → 3 * r.length + 2 ≤ f → a ≤ 100 → ∃ o, FR toks fin whole (readP f fin l r a) o ∧ Ev pr (.call 14 [.ptr 0 1 0 0, i64 l, i64 a] [rdB toks dn.length fin whole false 0]) o) ∧
    (∀ (dn r : List Tk) (l : Int) (a : Nat) (x : E), toks = dn ++ r → 3 * r.length + 1 ≤ f → a ≤ 100 → ∃ o, LR toks fin whole (loopP f fin l x r a) o ∧
      Ev pr (.loop (lq pr 14 0) (at_ [(0, .ptr 0 1 0 0), (1, i64 l), (2, i64 a), (7, .t x.tp)] [rdB toks dn.length fin whole false 0] 1)) o)
  | 0 => ⟨fun dn r a h hf => by omega, fun dn r l a h hf => by omega, fun dn r l a x h hf => by omega⟩
  | f + 1 => by
    obtain ⟨i1, i2, i3⟩ := rd_all toks hl hk fin whole f
    have pl := parse_len f
    refine ⟨fun dn r a h hf ha => ?_, fun dn r l a h hf ha => ?_, fun dn r l a x h hf ha => ?_⟩
    · cases r with
      | nil =>
        have e : dn = toks := by rw [h, List.append_nil]
        rw [firstP]
        exact ⟨_, ⟨_, rfl⟩, by rw [e]; exact f0_ev toks hl fin whole a⟩
      | cons t r =>
        have hlen : toks.length = dn.length + 1 + r.length := by rw [h]; simp; omega
        have hg : lkp (toks.map Tk.ce) (dn.length : Int) = some [T.int .i64 t.kind, T.int .i64 t.num, T.str (bsOf t.text), T.int .i64 t.place] := by rw [h]; exact tk_lkp dn r t
        have h' : toks = (dn ++ [t]) ++ r := by rw [h]; simp
        have hn : dn.length < toks.length := by omega
        have e1 : ((dn ++ [t]).length : Int) = (dn.length : Int) + 1 := by simp
        simp only [List.length_cons] at hf
        rw [firstP]
        by_cases k1 : t.kind = 1
        · rw [if_pos k1]
          exact ⟨_, ⟨_, h', rfl⟩, by rw [e1]; exact f1_ev toks dn.length hn hl t hg fin whole a k1⟩
        · rw [if_neg k1]
          by_cases k2 : t.kind = 2
          · rw [if_pos k2]
            exact ⟨_, ⟨_, h', rfl⟩, by rw [e1]; exact f2_ev toks dn.length hn hl t hg fin whole a k2⟩
          · rw [if_neg k2]
            by_cases c1 : t.text ≠ [40] ∧ t.text ≠ [45] ∧ t.text ≠ [33]
            · rw [if_pos c1]
              have g := refuse_ev dn (t :: r) (by rw [← h]; exact hl) fin whole
              rw [← h] at g
              exact ⟨_, ⟨_, rfl⟩, f3_ev toks dn.length hn hl t hg fin whole a k1 k2 c1.1 c1.2.1 c1.2.2 g⟩
            · rw [if_neg c1]
              have c2 : t.text = [40] ∨ t.text = [45] ∨ t.text = [33] := by
                by_cases d1 : t.text = [40]
                · exact .inl d1
                · by_cases d2 : t.text = [45]
                  · exact .inr (.inl d2)
                  · by_cases d3 : t.text = [33]
                    · exact .inr (.inr d3)
                    · exact absurd ⟨d1, d2, d3⟩ c1
              by_cases ca : a = 100
              · rw [if_pos ca]
                subst ca
                exact ⟨_, ⟨_, rfl⟩, f4_ev toks dn.length hn hl t hg fin whole 0 k1 k2 c2⟩
              · rw [if_neg ca]
                have ha2 : 0 ≤ (a : Int) ∧ (a : Int) < 100 := by omega
                have ea : ((a + 1 : Nat) : Int) = (a : Int) + 1 := by omega
                by_cases c3 : t.text = [40]
                · rw [if_pos c3]
                  obtain ⟨o, ho, g⟩ := i2 (dn ++ [t]) r 0 (a + 1) h' (by omega) (by omega)
                  rw [e1, ea] at g
                  cases hr : readP f fin 0 r (a + 1) with
                  | bad p =>
                    rw [hr] at ho
                    obtain ⟨a', rfl⟩ := ho
                    exact ⟨_, ⟨_, rfl⟩, f5n_ev toks dn.length hn hl t hg fin whole a k1 k2 c3 ha2 a' p g⟩
                  | deep =>
                    rw [hr] at ho
                    obtain ⟨a', rfl⟩ := ho
                    exact ⟨_, ⟨_, rfl⟩, f5n_ev toks dn.length hn hl t hg fin whole a k1 k2 c3 ha2 a' whole g⟩
                  | ok x r1 =>
                    rw [hr] at ho
                    obtain ⟨dn1, hd, rfl⟩ := ho
                    have hm : dn1.length ≤ 1000 := by have := congrArg List.length hd; simp at this; omega
                    have sg := rsign_ev dn1 r1 (by rw [← hd]; exact hl) fin whole
                    rw [← hd] at sg
                    dsimp only
                    by_cases c4 : signOf r1 = [41]
                    · rw [if_pos c4]
                      rw [c4] at sg
                      have hne : ∃ t1 q1, r1 = t1 :: q1 := by
                        cases r1 with
                        | nil => simp [signOf] at c4
                        | cons t1 q1 => exact ⟨t1, q1, rfl⟩
                      obtain ⟨t1, q1, rfl⟩ := hne
                      refine ⟨_, ⟨dn1 ++ [t1], by rw [hd]; simp, rfl⟩, ?_⟩
                      rw [show ((dn1 ++ [t1]).length : Int) = (dn1.length : Int) + 1 by simp]
                      exact f5o_ev toks dn.length hn hl t hg fin whole a k1 k2 c3 ha2 x dn1.length hm g sg
                    · rw [if_neg c4]
                      have rf := refuse_ev dn1 r1 (by rw [← hd]; exact hl) fin whole
                      rw [← hd] at rf
                      exact ⟨_, ⟨_, rfl⟩, f5b_ev toks dn.length hn hl t hg fin whole a k1 k2 c3 ha2 x dn1.length hm _ c4 _ g sg rf⟩
                · rw [if_neg c3]
                  have c5 := c2.resolve_left c3
                  obtain ⟨o, ho, g⟩ := i1 (dn ++ [t]) r (a + 1) h' (by omega) (by omega)
                  rw [e1, ea] at g
                  cases hr : firstP f fin r (a + 1) with
                  | bad p =>
                    rw [hr] at ho
                    obtain ⟨a', rfl⟩ := ho
                    exact ⟨_, ⟨_, rfl⟩, f6n_ev toks dn.length hn hl t hg fin whole a k1 k2 c5 ha2 a' p g⟩
                  | deep =>
                    rw [hr] at ho
                    obtain ⟨a', rfl⟩ := ho
                    exact ⟨_, ⟨_, rfl⟩, f6n_ev toks dn.length hn hl t hg fin whole a k1 k2 c5 ha2 a' whole g⟩
                  | ok x r1 =>
                    rw [hr] at ho
                    obtain ⟨dn1, hd, rfl⟩ := ho
                    exact ⟨_, ⟨dn1, hd, rfl⟩, f6o_ev toks dn.length hn hl t hg fin whole a k1 k2 c5 ha2 x dn1.length g⟩
    · rw [readP]
      obtain ⟨o, ho, g⟩ := i1 dn r a h (by omega) ha
      cases hr : firstP f fin r a with
      | bad p =>
        rw [hr] at ho
        obtain ⟨a', rfl⟩ := ho
        exact ⟨_, ⟨_, rfl⟩, rdN_ev toks dn.length fin whole l a a' p g⟩
      | deep =>
        rw [hr] at ho
        obtain ⟨a', rfl⟩ := ho
        exact ⟨_, ⟨_, rfl⟩, rdN_ev toks dn.length fin whole l a a' whole g⟩
      | ok x r1 =>
        rw [hr] at ho
        obtain ⟨dn1, hd, rfl⟩ := ho
        have hs := (pl.1 fin r a x r1 hr).1
        obtain ⟨o2, ho2, gl⟩ := i3 dn1 r1 l a x hd (by omega) ha
        dsimp only
        cases hq : loopP f fin l x r1 a with
        | bad p =>
          rw [hq] at ho2
          obtain ⟨a', rfl⟩ := ho2
          exact ⟨_, ⟨_, rfl⟩, rdO2_ev toks dn.length dn1.length fin whole l a a' p x g gl⟩
        | deep =>
          rw [hq] at ho2
          obtain ⟨a', rfl⟩ := ho2
          exact ⟨_, ⟨_, rfl⟩, rdO2_ev toks dn.length dn1.length fin whole l a a' whole x g gl⟩
        | ok z r2 =>
          rw [hq] at ho2
          obtain ⟨dn2, hd2, rfl⟩ := ho2
          exact ⟨_, ⟨dn2, hd2, rfl⟩, rdO1_ev toks dn.length dn1.length dn2.length fin whole l a x z g gl⟩
    · have sg := rsign_ev dn r (by rw [← h]; exact hl) fin whole
      rw [← h] at sg
      rw [loopP]
      by_cases c : strength (signOf r) = 0 ∨ strength (signOf r) < l
      · rw [if_pos c]
        exact ⟨_, ⟨dn, h, rfl⟩, rdEnd_ev toks hl dn.length fin whole l a x _ c sg⟩
      · rw [if_neg c]
        obtain ⟨t, q, rfl⟩ := strength_pos c
        have c1 : strength (signOf (t :: q)) ≠ 0 := fun e => c (.inl e)
        have c2 : ¬ strength (signOf (t :: q)) < l := fun e => c (.inr e)
        have hlen : toks.length = dn.length + 1 + q.length := by rw [h]; simp; omega
        have h' : toks = (dn ++ [t]) ++ q := by rw [h]; simp
        have e1 : ((dn ++ [t]).length : Int) = (dn.length : Int) + 1 := by simp
        simp only [List.length_cons] at hf
        obtain ⟨o, ho, g⟩ := i2 (dn ++ [t]) q (if strength (signOf (t :: q)) = 7 then 7 else strength (signOf (t :: q)) + 1) a h' (by omega) ha
        rw [e1] at g
        rw [List.tail_cons]
        cases hr : readP f fin (if strength (signOf (t :: q)) = 7 then 7 else strength (signOf (t :: q)) + 1) q a with
        | bad p =>
          rw [hr] at ho
          obtain ⟨a', rfl⟩ := ho
          exact ⟨_, ⟨_, rfl⟩, rdBad_ev toks hl dn.length (by omega) fin whole l a x _ c1 c2 a' p sg g⟩
        | deep =>
          rw [hr] at ho
          obtain ⟨a', rfl⟩ := ho
          exact ⟨_, ⟨_, rfl⟩, rdBad_ev toks hl dn.length (by omega) fin whole l a x _ c1 c2 a' whole sg g⟩
        | ok y r1 =>
          rw [hr] at ho
          obtain ⟨dn1, hd, rfl⟩ := ho
          have hs := (pl.2.1 fin _ q a y r1 hr).1
          obtain ⟨o2, ho2, gl⟩ := i3 dn1 r1 l a (.two (bsOf (signOf (t :: q))) x y) hd (by omega) ha
          exact ⟨o2, ho2, rdGo_ev toks hl dn.length (by omega) fin whole l a x y _ c1 c2 dn1.length o2 sg g gl⟩
end Go.Ev

/- The reference's reader: small steps. -/
namespace Go.Ev
set_option linter.unusedVariables false
set_option linter.unusedSimpArgs false
open Go.Proofs
set_option maxRecDepth 100000
set_option linter.unusedVariables false
set_option linter.unusedSimpArgs false
set_option maxHeartbeats 4000000
attribute [local simp] e0
def sB (toks : List Tk) (a fin bad : Int) (deep : Bool) : Ob := .box [tks toks, i64 a, i64 fin, i64 bad, bl deep]
def sTp (toks : List Tk) (a fin bad : Int) (deep : Bool) : T := .ptr [.seq 4 (toks.map Tk.ce), .int .i64 a, .int .i64 fin, .int .i64 bad, .bool deep] 0
theorem sfail_ev (dn r : List Tk) (hl : (dn ++ r).length ≤ 1000) (fin : Int) (d : Bool) : Ev pr (.call 11 [.ptr 0 1 0 0] [sB (dn ++ r) dn.length fin (-1) d]) (.val (.tup []) [sB (dn ++ r) dn.length fin (placeOf fin r) d]) := by
  cases r with
  | nil =>
    rw [List.append_nil] at *
    unfold sB placeOf at *
    let t9 : Tp pr := .i (show ((↑(List.map Tk.ce dn).length : Int) : Int) = (↑dn.length : Int) by simp)
    let t12 : Tp pr := .b (show (decide ((↑dn.length : Int) < (↑dn.length : Int))) = false by simp)
    exact .tp [.b (rfl : false = false), .m (rfl : true = true), .m (rfl : true = true), .m (rfl : true = true), .m (rfl : true = true), .m (rfl : true = true), .m (rfl : true = true), .m (rfl : true = true), .m (rfl : true = true), t9, .m (rfl : true = true), .m (rfl : true = true), t12] (by kernel_rfl)
  | cons t r =>
    have hg := tk_lkp dn r t
    have hlen : (dn ++ t :: r).length = dn.length + 1 + r.length := by simp; omega
    unfold sB placeOf at *
    generalize dn ++ t :: r = toks at *
    let t9 : Tp pr := .i (show ((↑(List.map Tk.ce toks).length : Int) : Int) = (↑toks.length : Int) by simp)
    let t12 : Tp pr := .b (show (decide ((↑dn.length : Int) < (↑toks.length : Int))) = true by (simp; omega))
    let t22 : Tp pr := .g .row (show (lkp (List.map Tk.ce toks) (↑dn.length : Int)) = some ([T.int IntKind.i64 t.kind, T.int IntKind.i64 t.num, T.str (bsOf t.text), T.int IntKind.i64 t.place]) from hg)
    exact .tp [.b (rfl : false = false), .m (rfl : true = true), .m (rfl : true = true), .m (rfl : true = true), .m (rfl : true = true), .m (rfl : true = true), .m (rfl : true = true), .m (rfl : true = true), .m (rfl : true = true), t9, .m (rfl : true = true), .m (rfl : true = true), t12, .m (rfl : true = true), .m (rfl : true = true), .m (rfl : true = true), .m (rfl : true = true), .m (rfl : true = true), .m (rfl : true = true), .m (rfl : true = true), .m (rfl : true = true), .m (rfl : true = true), t22, .m (rfl : true = true), .m (rfl : true = true), .m (rfl : true = true), .m (rfl : true = true), .m (rfl : true = true), .m (rfl : true = true)] (by kernel_rfl)
theorem sfailN_ev (toks : List Tk) (a fin b : Int) (hb : 0 ≤ b) (d : Bool) : Ev pr (.call 11 [.ptr 0 1 0 0] [sB toks a fin b d]) (.val (.tup []) [sB toks a fin b d]) := by
  unfold sB
  let t0 : Tp pr := .b (show (decide (b ≥ (0 : Int))) = true by (simp; omega))
  exact .tp [t0] (by kernel_rfl)
theorem ssign_ev (dn r : List Tk) (hl : (dn ++ r).length ≤ 1000) (fin : Int) (d : Bool) (s : List UInt8) (hs : s ≠ []) : Ev pr (.call 31 [.t (sTp (dn ++ r) dn.length fin (-1) d), .t (.str (bsOf s))] []) (.val (bl (signOf r == s)) []) := by
  cases r with
  | nil =>
    have e : (signOf [] == s) = false := beq_eq_false_iff_ne.2 (Ne.symm hs)
    rw [e]
    rw [List.append_nil] at *
    unfold sTp
    let t15 : Tp pr := .i (show ((↑(List.map Tk.ce dn).length : Int) : Int) = (↑dn.length : Int) by simp)
    let t20 : Tp pr := .b (show (decide ((↑dn.length : Int) < (↑dn.length : Int))) = false by simp)
    exact .tp [.m (rfl : true = true), .m (rfl : true = true), .m (rfl : true = true), .m (rfl : true = true), .m (rfl : true = true), .m (rfl : true = true), .b (rfl : true = true), .m (rfl : true = true), .m (rfl : true = true), .m (rfl : true = true), .m (rfl : true = true), .m (rfl : true = true), .m (rfl : true = true), .m (rfl : true = true), .m (rfl : true = true), t15, .m (rfl : true = true), .m (rfl : true = true), .m (rfl : true = true), .m (rfl : true = true), t20, .m (rfl : true = true), .m (rfl : true = true), .m (rfl : true = true), .m (rfl : true = true), .m (rfl : true = true), .m (rfl : true = true), .m (rfl : true = true), .m (rfl : true = true), .m (rfl : true = true), .m (rfl : true = true), .m (rfl : true = true), .m (rfl : true = true), .m (rfl : true = true), .m (rfl : true = true), .b (rfl : false = false), .m (rfl : true = true), .m (rfl : true = true), .m (rfl : true = true), .m (rfl : true = true), .m (rfl : true = true), .m (rfl : true = true), .m (rfl : true = true), .m (rfl : true = true), .m (rfl : true = true), .m (rfl : true = true), .m (rfl : true = true), .m (rfl : true = true), .m (rfl : true = true), .m (rfl : true = true), .m (rfl : true = true)] (by kernel_rfl)
  | cons t r =>
    have hg := tk_lkp dn r t
    have hlen : (dn ++ t :: r).length = dn.length + 1 + r.length := by simp; omega
    unfold sTp
    generalize dn ++ t :: r = toks at *
    by_cases c : t.kind = 3
    · rw [show signOf (t :: r) = t.text from if_pos c]
      cases e : (t.text == s)
      · let t15 : Tp pr := .i (show ((↑(List.map Tk.ce toks).length : Int) : Int) = (↑toks.length : Int) by simp)
        let t20 : Tp pr := .b (show (decide ((↑dn.length : Int) < (↑toks.length : Int))) = true by (simp; omega))
        let t29 : Tp pr := .g .row (show (lkp (List.map Tk.ce toks) (↑dn.length : Int)) = some ([T.int IntKind.i64 t.kind, T.int IntKind.i64 t.num, T.str (bsOf t.text), T.int IntKind.i64 t.place]) from hg)
        let t36 : Tp pr := .b (show (decide (t.kind = (3 : Int))) = true by (simp; omega))
        let t45 : Tp pr := .g .row (show (lkp (List.map Tk.ce toks) (↑dn.length : Int)) = some ([T.int IntKind.i64 t.kind, T.int IntKind.i64 t.num, T.str (bsOf t.text), T.int IntKind.i64 t.place]) from hg)
        exact .tpe [.m (rfl : true = true), .m (rfl : true = true), .m (rfl : true = true), .m (rfl : true = true), .m (rfl : true = true), .m (rfl : true = true), .b (rfl : true = true), .m (rfl : true = true), .m (rfl : true = true), .m (rfl : true = true), .m (rfl : true = true), .m (rfl : true = true), .m (rfl : true = true), .m (rfl : true = true), .m (rfl : true = true), t15, .m (rfl : true = true), .m (rfl : true = true), .m (rfl : true = true), .m (rfl : true = true), t20, .m (rfl : true = true), .m (rfl : true = true), .m (rfl : true = true), .m (rfl : true = true), .m (rfl : true = true), .m (rfl : true = true), .m (rfl : true = true), .m (rfl : true = true), t29, .m (rfl : true = true), .m (rfl : true = true), .m (rfl : true = true), .m (rfl : true = true), .m (rfl : true = true), .m (rfl : true = true), t36, .m (rfl : true = true), .m (rfl : true = true), .m (rfl : true = true), .m (rfl : true = true), .m (rfl : true = true), .m (rfl : true = true), .m (rfl : true = true), .m (rfl : true = true), t45, .m (rfl : true = true), .m (rfl : true = true), .m (rfl : true = true), .m (rfl : true = true), .m (rfl : true = true), .m (rfl : true = true), .m (rfl : true = true)] (Out.val (V.t (T.bool ((bsOf t.text).toList == (bsOf s).toList))) []) (by kernel_rfl) (congrArg (fun x => Out.val (V.t (T.bool x)) []) (show ((bsOf t.text).toList == (bsOf s).toList) = (false) by simp [*]))
      · let t15 : Tp pr := .i (show ((↑(List.map Tk.ce toks).length : Int) : Int) = (↑toks.length : Int) by simp)
        let t20 : Tp pr := .b (show (decide ((↑dn.length : Int) < (↑toks.length : Int))) = true by (simp; omega))
        let t29 : Tp pr := .g .row (show (lkp (List.map Tk.ce toks) (↑dn.length : Int)) = some ([T.int IntKind.i64 t.kind, T.int IntKind.i64 t.num, T.str (bsOf t.text), T.int IntKind.i64 t.place]) from hg)
        let t36 : Tp pr := .b (show (decide (t.kind = (3 : Int))) = true by (simp; omega))
        let t45 : Tp pr := .g .row (show (lkp (List.map Tk.ce toks) (↑dn.length : Int)) = some ([T.int IntKind.i64 t.kind, T.int IntKind.i64 t.num, T.str (bsOf t.text), T.int IntKind.i64 t.place]) from hg)
        exact .tpe [.m (rfl : true = true), .m (rfl : true = true), .m (rfl : true = true), .m (rfl : true = true), .m (rfl : true = true), .m (rfl : true = true), .b (rfl : true = true), .m (rfl : true = true), .m (rfl : true = true), .m (rfl : true = true), .m (rfl : true = true), .m (rfl : true = true), .m (rfl : true = true), .m (rfl : true = true), .m (rfl : true = true), t15, .m (rfl : true = true), .m (rfl : true = true), .m (rfl : true = true), .m (rfl : true = true), t20, .m (rfl : true = true), .m (rfl : true = true), .m (rfl : true = true), .m (rfl : true = true), .m (rfl : true = true), .m (rfl : true = true), .m (rfl : true = true), .m (rfl : true = true), t29, .m (rfl : true = true), .m (rfl : true = true), .m (rfl : true = true), .m (rfl : true = true), .m (rfl : true = true), .m (rfl : true = true), t36, .m (rfl : true = true), .m (rfl : true = true), .m (rfl : true = true), .m (rfl : true = true), .m (rfl : true = true), .m (rfl : true = true), .m (rfl : true = true), .m (rfl : true = true), t45, .m (rfl : true = true), .m (rfl : true = true), .m (rfl : true = true), .m (rfl : true = true), .m (rfl : true = true), .m (rfl : true = true), .m (rfl : true = true)] (Out.val (V.t (T.bool ((bsOf t.text).toList == (bsOf s).toList))) []) (by kernel_rfl) (congrArg (fun x => Out.val (V.t (T.bool x)) []) (show ((bsOf t.text).toList == (bsOf s).toList) = (true) by simp [*]))
    · rw [show signOf (t :: r) = [] from if_neg c, show (([] : List UInt8) == s) = false from beq_eq_false_iff_ne.2 (Ne.symm hs)]
      let t15 : Tp pr := .i (show ((↑(List.map Tk.ce toks).length : Int) : Int) = (↑toks.length : Int) by simp)
      let t20 : Tp pr := .b (show (decide ((↑dn.length : Int) < (↑toks.length : Int))) = true by (simp; omega))
      let t29 : Tp pr := .g .row (show (lkp (List.map Tk.ce toks) (↑dn.length : Int)) = some ([T.int IntKind.i64 t.kind, T.int IntKind.i64 t.num, T.str (bsOf t.text), T.int IntKind.i64 t.place]) from hg)
      let t36 : Tp pr := .b (show (decide (t.kind = (3 : Int))) = false by (simp; omega))
      exact .tp [.m (rfl : true = true), .m (rfl : true = true), .m (rfl : true = true), .m (rfl : true = true), .m (rfl : true = true), .m (rfl : true = true), .b (rfl : true = true), .m (rfl : true = true), .m (rfl : true = true), .m (rfl : true = true), .m (rfl : true = true), .m (rfl : true = true), .m (rfl : true = true), .m (rfl : true = true), .m (rfl : true = true), t15, .m (rfl : true = true), .m (rfl : true = true), .m (rfl : true = true), .m (rfl : true = true), t20, .m (rfl : true = true), .m (rfl : true = true), .m (rfl : true = true), .m (rfl : true = true), .m (rfl : true = true), .m (rfl : true = true), .m (rfl : true = true), .m (rfl : true = true), t29, .m (rfl : true = true), .m (rfl : true = true), .m (rfl : true = true), .m (rfl : true = true), .m (rfl : true = true), .m (rfl : true = true), t36, .m (rfl : true = true), .m (rfl : true = true), .m (rfl : true = true), .m (rfl : true = true), .m (rfl : true = true), .m (rfl : true = true), .m (rfl : true = true), .m (rfl : true = true), .m (rfl : true = true), .m (rfl : true = true), .m (rfl : true = true), .m (rfl : true = true), .m (rfl : true = true), .m (rfl : true = true), .m (rfl : true = true)] (by kernel_rfl)
theorem ssignN_ev (toks : List Tk) (a fin b : Int) (hb : 0 ≤ b) (d : Bool) (s : ByteArray) : Ev pr (.call 31 [.t (sTp toks a fin b d), .t (.str s)] []) (.val (bl false) []) := by
  unfold sTp
  let t6 : Tp pr := .b (show (decide (b < (0 : Int))) = false by (simp; omega))
  exact .tp [.m (rfl : true = true), .m (rfl : true = true), .m (rfl : true = true), .m (rfl : true = true), .m (rfl : true = true), .m (rfl : true = true), t6, .m (rfl : true = true), .m (rfl : true = true), .m (rfl : true = true), .m (rfl : true = true), .m (rfl : true = true), .m (rfl : true = true), .m (rfl : true = true), .m (rfl : true = true), .m (rfl : true = true), .m (rfl : true = true), .m (rfl : true = true), .m (rfl : true = true), .b (rfl : false = false), .m (rfl : true = true), .m (rfl : true = true), .m (rfl : true = true), .m (rfl : true = true), .m (rfl : true = true), .m (rfl : true = true), .m (rfl : true = true), .m (rfl : true = true), .m (rfl : true = true), .m (rfl : true = true), .m (rfl : true = true), .m (rfl : true = true), .m (rfl : true = true), .m (rfl : true = true), .b (rfl : false = false), .m (rfl : true = true), .m (rfl : true = true), .m (rfl : true = true), .m (rfl : true = true), .m (rfl : true = true), .m (rfl : true = true), .m (rfl : true = true), .m (rfl : true = true), .m (rfl : true = true), .m (rfl : true = true), .m (rfl : true = true), .m (rfl : true = true), .m (rfl : true = true), .m (rfl : true = true), .m (rfl : true = true)] (by kernel_rfl)
end Go.Ev

/- The reference's reader: its steps. -/
namespace Go.Ev
set_option linter.unusedVariables false
set_option linter.unusedSimpArgs false
open Go.Proofs
set_option maxRecDepth 100000
set_option linter.unusedVariables false
set_option linter.unusedSimpArgs false
set_option maxHeartbeats 4000000
attribute [local simp] e0
def jk (k n : Int) (s : ByteArray) (ks : List (List T)) : V := vs [.int .i64 k, .int .i64 n, .str s, .seq 4 ks]
theorem jk_ts (x : E) : jk x.kind x.nm x.text x.kids = vs x.ts := rfl
/-- Too deep: nothing is read. -/
theorem sdeep_ev (toks : List Tk) (n : Nat) (fin p : Int) (hp : 0 ≤ p) (g : Ev pr (.call 11 [.ptr 0 1 0 0] [sB toks n fin (-1) true]) (.val (.tup []) [sB toks n fin p true])) :
    Ev pr (.call 22 [.ptr 0 1 0 0, i64 101] [sB toks n fin (-1) false]) (.val (jk 0 0 e0 []) [sB toks n fin p true]) := by
  unfold sB jk at *
  let t2 : Tp pr := .b (show (decide (p ≥ (0 : Int))) = true by (simp; omega))
  exact .tp [.b (rfl : true = true), .a (g), t2] (by kernel_rfl)
theorem s0_ev (toks : List Tk) (hl : toks.length ≤ 1000) (fin a : Int) (ha : a ≤ 100) :
    Ev pr (.call 22 [.ptr 0 1 0 0, i64 a] [sB toks toks.length fin (-1) false]) (.val (jk 0 0 e0 []) [sB toks toks.length fin fin false]) := by
  have g := sfail_ev toks [] (by simpa using hl) fin false
  have g1 := ssign_ev toks [] (by simpa using hl) fin false [45] (by simp)
  have g2 := ssign_ev toks [] (by simpa using hl) fin false [33] (by simp)
  have g3 := ssign_ev toks [] (by simpa using hl) fin false [40] (by simp)
  rw [List.append_nil] at g g1 g2 g3
  rw [show (signOf [] == [45]) = false from rfl] at g1
  rw [show (signOf [] == [33]) = false from rfl] at g2
  rw [show (signOf [] == [40]) = false from rfl] at g3
  unfold sB sTp jk placeOf at *
  let t0 : Tp pr := .b (show (decide (a > (100 : Int))) = false by (simp; omega))
  let t19 : Tp pr := .i (show ((↑(List.map Tk.ce toks).length : Int) : Int) = (↑toks.length : Int) by simp)
  let t23 : Tp pr := .b (show (decide ((↑toks.length : Int) = (↑toks.length : Int))) = true by simp)
  exact .tp [t0, .b (rfl : false = false), .a (g1), .m (rfl : true = true), .b (rfl : false = false), .a (g2), .m (rfl : true = true), .b (rfl : false = false), .a (g3), .m (rfl : true = true), .b (rfl : false = false), .m (rfl : true = true), .m (rfl : true = true), .m (rfl : true = true), .m (rfl : true = true), .m (rfl : true = true), .m (rfl : true = true), .m (rfl : true = true), .m (rfl : true = true), t19, .m (rfl : true = true), .m (rfl : true = true), .m (rfl : true = true), t23, .m (rfl : true = true), .m (rfl : true = true), .m (rfl : true = true), .m (rfl : true = true), .m (rfl : true = true), .m (rfl : true = true), .m (rfl : true = true), .m (rfl : true = true), .m (rfl : true = true), .m (rfl : true = true), .m (rfl : true = true), .m (rfl : true = true), .m (rfl : true = true), .m (rfl : true = true), .b (rfl : true = true), .a (g)] (by kernel_rfl)
theorem s1_ev (toks : List Tk) (n : Nat) (hn : n < toks.length) (hl : toks.length ≤ 1000) (t : Tk) (hg : lkp (toks.map Tk.ce) (n : Int) = some [T.int .i64 t.kind, T.int .i64 t.num, T.str (bsOf t.text), T.int .i64 t.place]) (fin a : Int) (ha : a ≤ 100)
    (hk : t.kind = 1)
    (g1 : Ev pr (.call 31 [.t (sTp toks n fin (-1) false), .t (.str (bsOf [45]))] []) (.val (bl false) []))
    (g2 : Ev pr (.call 31 [.t (sTp toks n fin (-1) false), .t (.str (bsOf [33]))] []) (.val (bl false) []))
    (g3 : Ev pr (.call 31 [.t (sTp toks n fin (-1) false), .t (.str (bsOf [40]))] []) (.val (bl false) [])) :
    Ev pr (.call 22 [.ptr 0 1 0 0, i64 a] [sB toks n fin (-1) false]) (.val (vs (E.num t.num).ts) [sB toks (n + 1) fin (-1) false]) := by
  unfold sB sTp at *
  let t0 : Tp pr := .b (show (decide (a > (100 : Int))) = false by (simp; omega))
  let t19 : Tp pr := .i (show ((↑(List.map Tk.ce toks).length : Int) : Int) = (↑toks.length : Int) by simp)
  let t23 : Tp pr := .b (show (decide ((↑n : Int) = (↑toks.length : Int))) = false by (simp; omega))
  let t32 : Tp pr := .g .row (show (lkp (List.map Tk.ce toks) (↑n : Int)) = some ([T.int IntKind.i64 t.kind, T.int IntKind.i64 t.num, T.str (bsOf t.text), T.int IntKind.i64 t.place]) from hg)
  let t39 : Tp pr := .b (show (decide (t.kind = (3 : Int))) = false by (simp; omega))
  let t48 : Tp pr := .g .row (show (lkp (List.map Tk.ce toks) (↑n : Int)) = some ([T.int IntKind.i64 t.kind, T.int IntKind.i64 t.num, T.str (bsOf t.text), T.int IntKind.i64 t.place]) from hg)
  let t53 : Tp pr := .i (wrap_i64 (a := (↑n : Int) + (1 : Int)) (by omega) (by omega))
  let t54 : Tp pr := .b (show (decide (t.kind = (1 : Int))) = true by (simp; omega))
  exact .tp [t0, .b (rfl : false = false), .a (g1), .m (rfl : true = true), .b (rfl : false = false), .a (g2), .m (rfl : true = true), .b (rfl : false = false), .a (g3), .m (rfl : true = true), .b (rfl : false = false), .m (rfl : true = true), .m (rfl : true = true), .m (rfl : true = true), .m (rfl : true = true), .m (rfl : true = true), .m (rfl : true = true), .m (rfl : true = true), .m (rfl : true = true), t19, .m (rfl : true = true), .m (rfl : true = true), .m (rfl : true = true), t23, .m (rfl : true = true), .m (rfl : true = true), .m (rfl : true = true), .m (rfl : true = true), .m (rfl : true = true), .m (rfl : true = true), .m (rfl : true = true), .m (rfl : true = true), t32, .m (rfl : true = true), .m (rfl : true = true), .m (rfl : true = true), .m (rfl : true = true), .m (rfl : true = true), .m (rfl : true = true), t39, .m (rfl : true = true), .m (rfl : true = true), .m (rfl : true = true), .m (rfl : true = true), .m (rfl : true = true), .m (rfl : true = true), .m (rfl : true = true), .m (rfl : true = true), t48, .m (rfl : true = true), .m (rfl : true = true), .m (rfl : true = true), .m (rfl : true = true), t53, t54] (by kernel_rfl)
theorem s2_ev (toks : List Tk) (n : Nat) (hn : n < toks.length) (hl : toks.length ≤ 1000) (t : Tk) (hg : lkp (toks.map Tk.ce) (n : Int) = some [T.int .i64 t.kind, T.int .i64 t.num, T.str (bsOf t.text), T.int .i64 t.place]) (fin a : Int) (ha : a ≤ 100)
    (hk : t.kind = 2)
    (g1 : Ev pr (.call 31 [.t (sTp toks n fin (-1) false), .t (.str (bsOf [45]))] []) (.val (bl false) []))
    (g2 : Ev pr (.call 31 [.t (sTp toks n fin (-1) false), .t (.str (bsOf [33]))] []) (.val (bl false) []))
    (g3 : Ev pr (.call 31 [.t (sTp toks n fin (-1) false), .t (.str (bsOf [40]))] []) (.val (bl false) [])) :
    Ev pr (.call 22 [.ptr 0 1 0 0, i64 a] [sB toks n fin (-1) false]) (.val (vs (E.name (bsOf t.text)).ts) [sB toks (n + 1) fin (-1) false]) := by
  unfold sB sTp at *
  let t0 : Tp pr := .b (show (decide (a > (100 : Int))) = false by (simp; omega))
  let t19 : Tp pr := .i (show ((↑(List.map Tk.ce toks).length : Int) : Int) = (↑toks.length : Int) by simp)
  let t23 : Tp pr := .b (show (decide ((↑n : Int) = (↑toks.length : Int))) = false by (simp; omega))
  let t32 : Tp pr := .g .row (show (lkp (List.map Tk.ce toks) (↑n : Int)) = some ([T.int IntKind.i64 t.kind, T.int IntKind.i64 t.num, T.str (bsOf t.text), T.int IntKind.i64 t.place]) from hg)
  let t39 : Tp pr := .b (show (decide (t.kind = (3 : Int))) = false by (simp; omega))
  let t48 : Tp pr := .g .row (show (lkp (List.map Tk.ce toks) (↑n : Int)) = some ([T.int IntKind.i64 t.kind, T.int IntKind.i64 t.num, T.str (bsOf t.text), T.int IntKind.i64 t.place]) from hg)
  let t53 : Tp pr := .i (wrap_i64 (a := (↑n : Int) + (1 : Int)) (by omega) (by omega))
  let t54 : Tp pr := .b (show (decide (t.kind = (1 : Int))) = false by (simp; omega))
  exact .tp [t0, .b (rfl : false = false), .a (g1), .m (rfl : true = true), .b (rfl : false = false), .a (g2), .m (rfl : true = true), .b (rfl : false = false), .a (g3), .m (rfl : true = true), .b (rfl : false = false), .m (rfl : true = true), .m (rfl : true = true), .m (rfl : true = true), .m (rfl : true = true), .m (rfl : true = true), .m (rfl : true = true), .m (rfl : true = true), .m (rfl : true = true), t19, .m (rfl : true = true), .m (rfl : true = true), .m (rfl : true = true), t23, .m (rfl : true = true), .m (rfl : true = true), .m (rfl : true = true), .m (rfl : true = true), .m (rfl : true = true), .m (rfl : true = true), .m (rfl : true = true), .m (rfl : true = true), t32, .m (rfl : true = true), .m (rfl : true = true), .m (rfl : true = true), .m (rfl : true = true), .m (rfl : true = true), .m (rfl : true = true), t39, .m (rfl : true = true), .m (rfl : true = true), .m (rfl : true = true), .m (rfl : true = true), .m (rfl : true = true), .m (rfl : true = true), .m (rfl : true = true), .m (rfl : true = true), t48, .m (rfl : true = true), .m (rfl : true = true), .m (rfl : true = true), .m (rfl : true = true), t53, t54] (by kernel_rfl)
theorem s3_ev (toks : List Tk) (n : Nat) (hn : n < toks.length) (hl : toks.length ≤ 1000) (t : Tk) (hg : lkp (toks.map Tk.ce) (n : Int) = some [T.int .i64 t.kind, T.int .i64 t.num, T.str (bsOf t.text), T.int .i64 t.place]) (fin a : Int) (ha : a ≤ 100)
    (hk : t.kind = 3) (p : Int)
    (g1 : Ev pr (.call 31 [.t (sTp toks n fin (-1) false), .t (.str (bsOf [45]))] []) (.val (bl false) []))
    (g2 : Ev pr (.call 31 [.t (sTp toks n fin (-1) false), .t (.str (bsOf [33]))] []) (.val (bl false) []))
    (g3 : Ev pr (.call 31 [.t (sTp toks n fin (-1) false), .t (.str (bsOf [40]))] []) (.val (bl false) []))
    (g : Ev pr (.call 11 [.ptr 0 1 0 0] [sB toks n fin (-1) false]) (.val (.tup []) [sB toks n fin p false])) :
    Ev pr (.call 22 [.ptr 0 1 0 0, i64 a] [sB toks n fin (-1) false]) (.val (jk 0 0 e0 []) [sB toks n fin p false]) := by
  unfold sB sTp jk at *
  let t0 : Tp pr := .b (show (decide (a > (100 : Int))) = false by (simp; omega))
  let t19 : Tp pr := .i (show ((↑(List.map Tk.ce toks).length : Int) : Int) = (↑toks.length : Int) by simp)
  let t23 : Tp pr := .b (show (decide ((↑n : Int) = (↑toks.length : Int))) = false by (simp; omega))
  let t32 : Tp pr := .g .row (show (lkp (List.map Tk.ce toks) (↑n : Int)) = some ([T.int IntKind.i64 t.kind, T.int IntKind.i64 t.num, T.str (bsOf t.text), T.int IntKind.i64 t.place]) from hg)
  let t39 : Tp pr := .b (show (decide (t.kind = (3 : Int))) = true by (simp; omega))
  exact .tp [t0, .b (rfl : false = false), .a (g1), .m (rfl : true = true), .b (rfl : false = false), .a (g2), .m (rfl : true = true), .b (rfl : false = false), .a (g3), .m (rfl : true = true), .b (rfl : false = false), .m (rfl : true = true), .m (rfl : true = true), .m (rfl : true = true), .m (rfl : true = true), .m (rfl : true = true), .m (rfl : true = true), .m (rfl : true = true), .m (rfl : true = true), t19, .m (rfl : true = true), .m (rfl : true = true), .m (rfl : true = true), t23, .m (rfl : true = true), .m (rfl : true = true), .m (rfl : true = true), .m (rfl : true = true), .m (rfl : true = true), .m (rfl : true = true), .m (rfl : true = true), .m (rfl : true = true), t32, .m (rfl : true = true), .m (rfl : true = true), .m (rfl : true = true), .m (rfl : true = true), .m (rfl : true = true), .m (rfl : true = true), t39, .a (g)] (by kernel_rfl)
end Go.Ev

/- The reference's reader: what stands ahead. -/
namespace Go.Ev
set_option linter.unusedVariables false
set_option linter.unusedSimpArgs false
open Go.Proofs
set_option maxRecDepth 100000
set_option linter.unusedVariables false
set_option linter.unusedSimpArgs false
set_option maxHeartbeats 4000000
attribute [local simp] e0
def jkT (k n : Int) (s : ByteArray) (ks : List (List T)) : List T := [.int .i64 k, .int .i64 n, .str s, .seq 4 ks]
theorem s5_ev (toks : List Tk) (n : Nat) (hn : n < toks.length) (hl : toks.length ≤ 1000) (fin a : Int) (ha : 0 ≤ a ∧ a ≤ 100) (k m : Int) (s : ByteArray) (ks : List (List T)) (a' b : Int) (d : Bool)
    (g1 : Ev pr (.call 31 [.t (sTp toks n fin (-1) false), .t (.str (bsOf [45]))] []) (.val (bl true) []))
    (g : Ev pr (.call 22 [.ptr 0 1 0 0, i64 (a + 1)] [sB toks (n + 1) fin (-1) false]) (.val (jk k m s ks) [sB toks a' fin b d])) :
    Ev pr (.call 22 [.ptr 0 1 0 0, i64 a] [sB toks n fin (-1) false]) (.val (jk 3 0 e0 [jkT k m s ks]) [sB toks a' fin b d]) := by
  unfold sB sTp jk jkT at *
  let t0 : Tp pr := .b (show (decide (a > (100 : Int))) = false by (simp; omega))
  let t5 : Tp pr := .i (wrap_i64 (a := (↑n : Int) + (1 : Int)) (by omega) (by omega))
  let t6 : Tp pr := .i (wrap_i64 (a := a + (1 : Int)) (by omega) (by omega))
  let t9 : Tp pr := .n .rows (show (List.map (fun x => List.map C.fz x) (List.take (1 : Nat) (List.drop (0 : Nat) [[C.t (T.int IntKind.i64 k), C.t (T.int IntKind.i64 m), C.t (T.str s), C.t (T.seq (4 : Nat) ks)]]))) = [[(C.t (T.int IntKind.i64 k)).fz, (C.t (T.int IntKind.i64 m)).fz, (C.t (T.str s)).fz, (C.t (T.seq (4 : Nat) ks)).fz]] by simp)
  exact .tp [t0, .b (rfl : false = false), .a (g1), .m (rfl : true = true), .b (rfl : true = true), t5, t6, .a (g), .m (rfl : true = true), t9] (by kernel_rfl)
theorem s6_ev (toks : List Tk) (n : Nat) (hn : n < toks.length) (hl : toks.length ≤ 1000) (fin a : Int) (ha : 0 ≤ a ∧ a ≤ 100) (k m : Int) (s : ByteArray) (ks : List (List T)) (a' b : Int) (d : Bool)
    (g1 : Ev pr (.call 31 [.t (sTp toks n fin (-1) false), .t (.str (bsOf [45]))] []) (.val (bl false) []))
    (g2 : Ev pr (.call 31 [.t (sTp toks n fin (-1) false), .t (.str (bsOf [33]))] []) (.val (bl true) []))
    (g : Ev pr (.call 22 [.ptr 0 1 0 0, i64 (a + 1)] [sB toks (n + 1) fin (-1) false]) (.val (jk k m s ks) [sB toks a' fin b d])) :
    Ev pr (.call 22 [.ptr 0 1 0 0, i64 a] [sB toks n fin (-1) false]) (.val (jk 4 0 e0 [jkT k m s ks]) [sB toks a' fin b d]) := by
  unfold sB sTp jk jkT at *
  let t0 : Tp pr := .b (show (decide (a > (100 : Int))) = false by (simp; omega))
  let t8 : Tp pr := .i (wrap_i64 (a := (↑n : Int) + (1 : Int)) (by omega) (by omega))
  let t9 : Tp pr := .i (wrap_i64 (a := a + (1 : Int)) (by omega) (by omega))
  let t12 : Tp pr := .n .rows (show (List.map (fun x => List.map C.fz x) (List.take (1 : Nat) (List.drop (0 : Nat) [[C.t (T.int IntKind.i64 k), C.t (T.int IntKind.i64 m), C.t (T.str s), C.t (T.seq (4 : Nat) ks)]]))) = [[(C.t (T.int IntKind.i64 k)).fz, (C.t (T.int IntKind.i64 m)).fz, (C.t (T.str s)).fz, (C.t (T.seq (4 : Nat) ks)).fz]] by simp)
  exact .tp [t0, .b (rfl : false = false), .a (g1), .m (rfl : true = true), .b (rfl : false = false), .a (g2), .m (rfl : true = true), .b (rfl : true = true), t8, t9, .a (g), .m (rfl : true = true), t12] (by kernel_rfl)
theorem s7o_ev (toks : List Tk) (n : Nat) (hn : n < toks.length) (hl : toks.length ≤ 1000) (fin a : Int) (ha : 0 ≤ a ∧ a ≤ 100) (k m : Int) (s : ByteArray) (ks : List (List T)) (a' : Nat) (ha' : a' ≤ 1000)
    (g1 : Ev pr (.call 31 [.t (sTp toks n fin (-1) false), .t (.str (bsOf [45]))] []) (.val (bl false) []))
    (g2 : Ev pr (.call 31 [.t (sTp toks n fin (-1) false), .t (.str (bsOf [33]))] []) (.val (bl false) []))
    (g3 : Ev pr (.call 31 [.t (sTp toks n fin (-1) false), .t (.str (bsOf [40]))] []) (.val (bl true) []))
    (g : Ev pr (.call 10 [.ptr 0 1 0 0, i64 1, i64 (a + 1)] [sB toks (n + 1) fin (-1) false]) (.val (jk k m s ks) [sB toks a' fin (-1) false]))
    (g4 : Ev pr (.call 31 [.t (sTp toks a' fin (-1) false), .t (.str (bsOf [41]))] []) (.val (bl true) [])) :
    Ev pr (.call 22 [.ptr 0 1 0 0, i64 a] [sB toks n fin (-1) false]) (.val (jk k m s ks) [sB toks (a' + 1) fin (-1) false]) := by
  unfold sB sTp jk at *
  let t0 : Tp pr := .b (show (decide (a > (100 : Int))) = false by (simp; omega))
  let t11 : Tp pr := .i (wrap_i64 (a := (↑n : Int) + (1 : Int)) (by omega) (by omega))
  let t12 : Tp pr := .i (wrap_i64 (a := a + (1 : Int)) (by omega) (by omega))
  let t17 : Tp pr := .i (wrap_i64 (a := (↑a' : Int) + (1 : Int)) (by omega) (by omega))
  exact .tp [t0, .b (rfl : false = false), .a (g1), .m (rfl : true = true), .b (rfl : false = false), .a (g2), .m (rfl : true = true), .b (rfl : false = false), .a (g3), .m (rfl : true = true), .b (rfl : true = true), t11, t12, .a (g), .a (g4), .m (rfl : true = true), .b (rfl : false = false), t17] (by kernel_rfl)
theorem s7b_ev (toks : List Tk) (n : Nat) (hn : n < toks.length) (hl : toks.length ≤ 1000) (fin a : Int) (ha : 0 ≤ a ∧ a ≤ 100) (k m : Int) (s : ByteArray) (ks : List (List T)) (a' b p : Int) (d : Bool)
    (g1 : Ev pr (.call 31 [.t (sTp toks n fin (-1) false), .t (.str (bsOf [45]))] []) (.val (bl false) []))
    (g2 : Ev pr (.call 31 [.t (sTp toks n fin (-1) false), .t (.str (bsOf [33]))] []) (.val (bl false) []))
    (g3 : Ev pr (.call 31 [.t (sTp toks n fin (-1) false), .t (.str (bsOf [40]))] []) (.val (bl true) []))
    (g : Ev pr (.call 10 [.ptr 0 1 0 0, i64 1, i64 (a + 1)] [sB toks (n + 1) fin (-1) false]) (.val (jk k m s ks) [sB toks a' fin b d]))
    (g4 : Ev pr (.call 31 [.t (sTp toks a' fin b d), .t (.str (bsOf [41]))] []) (.val (bl false) []))
    (g5 : Ev pr (.call 11 [.ptr 0 1 0 0] [sB toks a' fin b d]) (.val (.tup []) [sB toks a' fin p d])) :
    Ev pr (.call 22 [.ptr 0 1 0 0, i64 a] [sB toks n fin (-1) false]) (.val (jk 0 0 e0 []) [sB toks a' fin p d]) := by
  unfold sB sTp jk at *
  let t0 : Tp pr := .b (show (decide (a > (100 : Int))) = false by (simp; omega))
  let t11 : Tp pr := .i (wrap_i64 (a := (↑n : Int) + (1 : Int)) (by omega) (by omega))
  let t12 : Tp pr := .i (wrap_i64 (a := a + (1 : Int)) (by omega) (by omega))
  exact .tp [t0, .b (rfl : false = false), .a (g1), .m (rfl : true = true), .b (rfl : false = false), .a (g2), .m (rfl : true = true), .b (rfl : false = false), .a (g3), .m (rfl : true = true), .b (rfl : true = true), t11, t12, .a (g), .a (g4), .m (rfl : true = true), .b (rfl : true = true), .a (g5)] (by kernel_rfl)
end Go.Ev

/- The reference's reader: its loop. -/
namespace Go.Ev
set_option linter.unusedVariables false
set_option linter.unusedSimpArgs false
open Go.Proofs
set_option maxRecDepth 100000
set_option linter.unusedVariables false
set_option linter.unusedSimpArgs false
set_option maxHeartbeats 4000000
attribute [local simp] e0
def zE : Ob := .box [i64 0, i64 0, .t (.str e0), .t .nils]
def eB (k n : Int) (s : ByteArray) (ks : List (List T)) : Ob := .box [i64 k, i64 n, .t (.str s), .t (.seq 4 ks)]
def alSt (toks : List Tk) (a fin bad : Int) (d : Bool) (least dp : Int) (k n : Int) (s : ByteArray) (ks : List (List T)) (Z : Out) : Prop :=
  Ev pr (.loop (lq pr 10 0) (at_ [(0, .ptr 0 1 0 0), (1, i64 least), (2, i64 dp), (6, .ptr 1 1 0 0), (7, .ptr 2 1 0 0)] [sB toks a fin bad d, zE, eB k n s ks] 1)) Z
def alO (toks : List Tk) (a fin bad : Int) (d : Bool) (k n : Int) (s : ByteArray) (ks : List (List T)) : Out :=
  .exit 0 (at_ [(6, .ptr 1 1 0 0), (7, .ptr 2 1 0 0)] [sB toks a fin bad d, zE, eB k n s ks] 1)
theorem alN_ev (toks : List Tk) (a fin b least dp k n : Int) (hb : 0 ≤ b) (d : Bool) (s : ByteArray) (ks : List (List T)) : alSt toks a fin b d least dp k n s ks (alO toks a fin b d k n s ks) := by
  unfold alSt alO sB zE eB
  let t6 : Tp pr := .b (show (decide (b < (0 : Int))) = false by (simp; omega))
  exact .tp [.m (rfl : true = true), .m (rfl : true = true), .m (rfl : true = true), .m (rfl : true = true), .m (rfl : true = true), .m (rfl : true = true), t6, .m (rfl : true = true), .m (rfl : true = true), .m (rfl : true = true), .m (rfl : true = true), .m (rfl : true = true), .m (rfl : true = true), .m (rfl : true = true), .m (rfl : true = true), .m (rfl : true = true), .m (rfl : true = true), .m (rfl : true = true), .m (rfl : true = true), .b (rfl : false = false), .m (rfl : true = true), .m (rfl : true = true), .m (rfl : true = true), .m (rfl : true = true), .m (rfl : true = true), .m (rfl : true = true), .m (rfl : true = true), .m (rfl : true = true), .m (rfl : true = true), .m (rfl : true = true), .m (rfl : true = true), .m (rfl : true = true), .m (rfl : true = true), .b (rfl : false = false)] (by kernel_rfl)
theorem alE_ev (toks : List Tk) (hl : toks.length ≤ 1000) (fin least dp k n : Int) (s : ByteArray) (ks : List (List T)) : alSt toks toks.length fin (-1) false least dp k n s ks (alO toks toks.length fin (-1) false k n s ks) := by
  unfold alSt alO sB zE eB
  let t15 : Tp pr := .i (show ((↑(List.map Tk.ce toks).length : Int) : Int) = (↑toks.length : Int) by simp)
  let t20 : Tp pr := .b (show (decide ((↑toks.length : Int) < (↑toks.length : Int))) = false by simp)
  exact .tp [.m (rfl : true = true), .m (rfl : true = true), .m (rfl : true = true), .m (rfl : true = true), .m (rfl : true = true), .m (rfl : true = true), .b (rfl : true = true), .m (rfl : true = true), .m (rfl : true = true), .m (rfl : true = true), .m (rfl : true = true), .m (rfl : true = true), .m (rfl : true = true), .m (rfl : true = true), .m (rfl : true = true), t15, .m (rfl : true = true), .m (rfl : true = true), .m (rfl : true = true), .m (rfl : true = true), t20, .m (rfl : true = true), .m (rfl : true = true), .m (rfl : true = true), .m (rfl : true = true), .m (rfl : true = true), .m (rfl : true = true), .m (rfl : true = true), .m (rfl : true = true), .m (rfl : true = true), .m (rfl : true = true), .m (rfl : true = true), .m (rfl : true = true), .m (rfl : true = true), .b (rfl : false = false)] (by kernel_rfl)
theorem alK_ev (toks : List Tk) (m : Nat) (hm : m < toks.length) (hl : toks.length ≤ 1000) (t : Tk) (hg : lkp (toks.map Tk.ce) (m : Int) = some [T.int .i64 t.kind, T.int .i64 t.num, T.str (bsOf t.text), T.int .i64 t.place]) (hk : t.kind ≠ 3) (fin least dp k n : Int) (s : ByteArray) (ks : List (List T)) :
    alSt toks m fin (-1) false least dp k n s ks (alO toks m fin (-1) false k n s ks) := by
  unfold alSt alO sB zE eB
  let t15 : Tp pr := .i (show ((↑(List.map Tk.ce toks).length : Int) : Int) = (↑toks.length : Int) by simp)
  let t20 : Tp pr := .b (show (decide ((↑m : Int) < (↑toks.length : Int))) = true by (simp; omega))
  let t29 : Tp pr := .g .row (show (lkp (List.map Tk.ce toks) (↑m : Int)) = some ([T.int IntKind.i64 t.kind, T.int IntKind.i64 t.num, T.str (bsOf t.text), T.int IntKind.i64 t.place]) from hg)
  let t35 : Tp pr := .b (show (decide (t.kind = (3 : Int))) = false by (simp; omega))
  exact .tp [.m (rfl : true = true), .m (rfl : true = true), .m (rfl : true = true), .m (rfl : true = true), .m (rfl : true = true), .m (rfl : true = true), .b (rfl : true = true), .m (rfl : true = true), .m (rfl : true = true), .m (rfl : true = true), .m (rfl : true = true), .m (rfl : true = true), .m (rfl : true = true), .m (rfl : true = true), .m (rfl : true = true), t15, .m (rfl : true = true), .m (rfl : true = true), .m (rfl : true = true), .m (rfl : true = true), t20, .m (rfl : true = true), .m (rfl : true = true), .m (rfl : true = true), .m (rfl : true = true), .m (rfl : true = true), .m (rfl : true = true), .m (rfl : true = true), .m (rfl : true = true), t29, .m (rfl : true = true), .m (rfl : true = true), .m (rfl : true = true), .m (rfl : true = true), .m (rfl : true = true), t35] (by kernel_rfl)
theorem alB_ev (toks : List Tk) (m : Nat) (hm : m < toks.length) (hl : toks.length ≤ 1000) (t : Tk) (hg : lkp (toks.map Tk.ce) (m : Int) = some [T.int .i64 t.kind, T.int .i64 t.num, T.str (bsOf t.text), T.int .i64 t.place]) (hk : t.kind = 3) (fin least dp k n : Int) (s : ByteArray) (ks : List (List T))
    (h : strength t.text = 0 ∨ strength t.text < least) : alSt toks m fin (-1) false least dp k n s ks (alO toks m fin (-1) false k n s ks) := by
  have st := l2Strength_ev (bsOf t.text)
  rw [bsOf_toList] at st
  generalize strength t.text = q at *
  unfold alSt alO sB zE eB
  by_cases c : q < least
  · let t15 : Tp pr := .i (show ((↑(List.map Tk.ce toks).length : Int) : Int) = (↑toks.length : Int) by simp)
    let t20 : Tp pr := .b (show (decide ((↑m : Int) < (↑toks.length : Int))) = true by (simp; omega))
    let t29 : Tp pr := .g .row (show (lkp (List.map Tk.ce toks) (↑m : Int)) = some ([T.int IntKind.i64 t.kind, T.int IntKind.i64 t.num, T.str (bsOf t.text), T.int IntKind.i64 t.place]) from hg)
    let t35 : Tp pr := .b (show (decide (t.kind = (3 : Int))) = true by (simp; omega))
    let t44 : Tp pr := .g .row (show (lkp (List.map Tk.ce toks) (↑m : Int)) = some ([T.int IntKind.i64 t.kind, T.int IntKind.i64 t.num, T.str (bsOf t.text), T.int IntKind.i64 t.place]) from hg)
    let t50 : Tp pr := .b (show (decide (q < least)) = true by (simp; omega))
    exact .tp [.m (rfl : true = true), .m (rfl : true = true), .m (rfl : true = true), .m (rfl : true = true), .m (rfl : true = true), .m (rfl : true = true), .b (rfl : true = true), .m (rfl : true = true), .m (rfl : true = true), .m (rfl : true = true), .m (rfl : true = true), .m (rfl : true = true), .m (rfl : true = true), .m (rfl : true = true), .m (rfl : true = true), t15, .m (rfl : true = true), .m (rfl : true = true), .m (rfl : true = true), .m (rfl : true = true), t20, .m (rfl : true = true), .m (rfl : true = true), .m (rfl : true = true), .m (rfl : true = true), .m (rfl : true = true), .m (rfl : true = true), .m (rfl : true = true), .m (rfl : true = true), t29, .m (rfl : true = true), .m (rfl : true = true), .m (rfl : true = true), .m (rfl : true = true), .m (rfl : true = true), t35, .m (rfl : true = true), .m (rfl : true = true), .m (rfl : true = true), .m (rfl : true = true), .m (rfl : true = true), .m (rfl : true = true), .m (rfl : true = true), .m (rfl : true = true), t44, .m (rfl : true = true), .m (rfl : true = true), .m (rfl : true = true), .m (rfl : true = true), .a (st), t50, .b (rfl : true = true)] (by kernel_rfl)
  · have c2 := h.resolve_right c
    subst c2
    let t15 : Tp pr := .i (show ((↑(List.map Tk.ce toks).length : Int) : Int) = (↑toks.length : Int) by simp)
    let t20 : Tp pr := .b (show (decide ((↑m : Int) < (↑toks.length : Int))) = true by (simp; omega))
    let t29 : Tp pr := .g .row (show (lkp (List.map Tk.ce toks) (↑m : Int)) = some ([T.int IntKind.i64 t.kind, T.int IntKind.i64 t.num, T.str (bsOf t.text), T.int IntKind.i64 t.place]) from hg)
    let t35 : Tp pr := .b (show (decide (t.kind = (3 : Int))) = true by (simp; omega))
    let t44 : Tp pr := .g .row (show (lkp (List.map Tk.ce toks) (↑m : Int)) = some ([T.int IntKind.i64 t.kind, T.int IntKind.i64 t.num, T.str (bsOf t.text), T.int IntKind.i64 t.place]) from hg)
    let t50 : Tp pr := .b (show (decide ((0 : Int) < least)) = false by (simp; omega))
    exact .tp [.m (rfl : true = true), .m (rfl : true = true), .m (rfl : true = true), .m (rfl : true = true), .m (rfl : true = true), .m (rfl : true = true), .b (rfl : true = true), .m (rfl : true = true), .m (rfl : true = true), .m (rfl : true = true), .m (rfl : true = true), .m (rfl : true = true), .m (rfl : true = true), .m (rfl : true = true), .m (rfl : true = true), t15, .m (rfl : true = true), .m (rfl : true = true), .m (rfl : true = true), .m (rfl : true = true), t20, .m (rfl : true = true), .m (rfl : true = true), .m (rfl : true = true), .m (rfl : true = true), .m (rfl : true = true), .m (rfl : true = true), .m (rfl : true = true), .m (rfl : true = true), t29, .m (rfl : true = true), .m (rfl : true = true), .m (rfl : true = true), .m (rfl : true = true), .m (rfl : true = true), t35, .m (rfl : true = true), .m (rfl : true = true), .m (rfl : true = true), .m (rfl : true = true), .m (rfl : true = true), .m (rfl : true = true), .m (rfl : true = true), .m (rfl : true = true), t44, .m (rfl : true = true), .m (rfl : true = true), .m (rfl : true = true), .m (rfl : true = true), .a (st), t50, .b (rfl : true = true)] (by kernel_rfl)
theorem alG_ev (toks : List Tk) (m : Nat) (hm : m < toks.length) (hl : toks.length ≤ 1000) (t : Tk) (hg : lkp (toks.map Tk.ce) (m : Int) = some [T.int .i64 t.kind, T.int .i64 t.num, T.str (bsOf t.text), T.int .i64 t.place]) (hk : t.kind = 3) (fin least dp k n : Int) (s : ByteArray) (ks : List (List T))
    (h : strength t.text ≠ 0) (h2 : ¬ strength t.text < least) (k2 n2 : Int) (s2 : ByteArray) (ks2 : List (List T)) (a' b : Int) (d : Bool) (Z : Out)
    (g : Ev pr (.call 10 [.ptr 0 1 0 0, i64 (if strength t.text = 7 then 7 else strength t.text + 1), i64 dp] [sB toks (m + 1) fin (-1) false]) (.val (jk k2 n2 s2 ks2) [sB toks a' fin b d]))
    (ih : alSt toks a' fin b d least dp 5 0 (bsOf t.text) [jkT k n s ks, jkT k2 n2 s2 ks2] Z) : alSt toks m fin (-1) false least dp k n s ks Z := by
  have st := l2Strength_ev (bsOf t.text)
  have hs := strength_nonneg t.text
  have hs7 : strength t.text ≤ 7 := by unfold strength; repeat' split <;> omega
  rw [bsOf_toList] at st
  generalize strength t.text = q at *
  unfold alSt sB zE eB jkT jk at *
  by_cases c : q = 7
  · subst c
    rw [if_pos rfl] at g
    let t15 : Tp pr := .i (show ((↑(List.map Tk.ce toks).length : Int) : Int) = (↑toks.length : Int) by simp)
    let t20 : Tp pr := .b (show (decide ((↑m : Int) < (↑toks.length : Int))) = true by (simp; omega))
    let t29 : Tp pr := .g .row (show (lkp (List.map Tk.ce toks) (↑m : Int)) = some ([T.int IntKind.i64 t.kind, T.int IntKind.i64 t.num, T.str (bsOf t.text), T.int IntKind.i64 t.place]) from hg)
    let t35 : Tp pr := .b (show (decide (t.kind = (3 : Int))) = true by (simp; omega))
    let t44 : Tp pr := .g .row (show (lkp (List.map Tk.ce toks) (↑m : Int)) = some ([T.int IntKind.i64 t.kind, T.int IntKind.i64 t.num, T.str (bsOf t.text), T.int IntKind.i64 t.place]) from hg)
    let t50 : Tp pr := .b (show (decide ((7 : Int) < least)) = false by (simp; omega))
    let t52 : Tp pr := .i (wrap_i64 (a := (↑m : Int) + (1 : Int)) (by omega) (by omega))
    let t53 : Tp pr := .i (rfl : ((8 : Int) : Int) = (8 : Int))
    let t63 : Tp pr := .n .rows (show (List.map (fun x => List.map C.fz x) (List.take (2 : Nat) (List.drop (0 : Nat) [[C.t (T.int IntKind.i64 k), C.t (T.int IntKind.i64 n), C.t (T.str s), C.t (T.seq (4 : Nat) ks)], [C.t (T.int IntKind.i64 k2), C.t (T.int IntKind.i64 n2), C.t (T.str s2), C.t (T.seq (4 : Nat) ks2)]]))) = [[(C.t (T.int IntKind.i64 k)).fz, (C.t (T.int IntKind.i64 n)).fz, (C.t (T.str s)).fz, (C.t (T.seq (4 : Nat) ks)).fz], [(C.t (T.int IntKind.i64 k2)).fz, (C.t (T.int IntKind.i64 n2)).fz, (C.t (T.str s2)).fz, (C.t (T.seq (4 : Nat) ks2)).fz]] by simp)
    exact .tp [.m (rfl : true = true), .m (rfl : true = true), .m (rfl : true = true), .m (rfl : true = true), .m (rfl : true = true), .m (rfl : true = true), .b (rfl : true = true), .m (rfl : true = true), .m (rfl : true = true), .m (rfl : true = true), .m (rfl : true = true), .m (rfl : true = true), .m (rfl : true = true), .m (rfl : true = true), .m (rfl : true = true), t15, .m (rfl : true = true), .m (rfl : true = true), .m (rfl : true = true), .m (rfl : true = true), t20, .m (rfl : true = true), .m (rfl : true = true), .m (rfl : true = true), .m (rfl : true = true), .m (rfl : true = true), .m (rfl : true = true), .m (rfl : true = true), .m (rfl : true = true), t29, .m (rfl : true = true), .m (rfl : true = true), .m (rfl : true = true), .m (rfl : true = true), .m (rfl : true = true), t35, .m (rfl : true = true), .m (rfl : true = true), .m (rfl : true = true), .m (rfl : true = true), .m (rfl : true = true), .m (rfl : true = true), .m (rfl : true = true), .m (rfl : true = true), t44, .m (rfl : true = true), .m (rfl : true = true), .m (rfl : true = true), .m (rfl : true = true), .a (st), t50, .b (rfl : false = false), t52, t53, .b (rfl : true = true), .m (rfl : true = true), .m (rfl : true = true), .m (rfl : true = true), .m (rfl : true = true), .m (rfl : true = true), .a (g), .m (rfl : true = true), .m (rfl : true = true), t63, .m (rfl : true = true), .m (rfl : true = true), .m (rfl : true = true), .a (ih)] (by kernel_rfl)
  · rw [if_neg c] at g
    let t15 : Tp pr := .i (show ((↑(List.map Tk.ce toks).length : Int) : Int) = (↑toks.length : Int) by simp)
    let t20 : Tp pr := .b (show (decide ((↑m : Int) < (↑toks.length : Int))) = true by (simp; omega))
    let t29 : Tp pr := .g .row (show (lkp (List.map Tk.ce toks) (↑m : Int)) = some ([T.int IntKind.i64 t.kind, T.int IntKind.i64 t.num, T.str (bsOf t.text), T.int IntKind.i64 t.place]) from hg)
    let t35 : Tp pr := .b (show (decide (t.kind = (3 : Int))) = true by (simp; omega))
    let t44 : Tp pr := .g .row (show (lkp (List.map Tk.ce toks) (↑m : Int)) = some ([T.int IntKind.i64 t.kind, T.int IntKind.i64 t.num, T.str (bsOf t.text), T.int IntKind.i64 t.place]) from hg)
    let t50 : Tp pr := .b (show (decide (q < least)) = false by (simp; omega))
    let t51 : Tp pr := .b (show (decide (q = (0 : Int))) = false by (simp; omega))
    let t52 : Tp pr := .i (wrap_i64 (a := (↑m : Int) + (1 : Int)) (by omega) (by omega))
    let t53 : Tp pr := .i (wrap_i64 (a := q + (1 : Int)) (by omega) (by omega))
    let t54 : Tp pr := .b (show (decide (q = (7 : Int))) = false by (simp; omega))
    let t63 : Tp pr := .n .rows (show (List.map (fun x => List.map C.fz x) (List.take (2 : Nat) (List.drop (0 : Nat) [[C.t (T.int IntKind.i64 k), C.t (T.int IntKind.i64 n), C.t (T.str s), C.t (T.seq (4 : Nat) ks)], [C.t (T.int IntKind.i64 k2), C.t (T.int IntKind.i64 n2), C.t (T.str s2), C.t (T.seq (4 : Nat) ks2)]]))) = [[(C.t (T.int IntKind.i64 k)).fz, (C.t (T.int IntKind.i64 n)).fz, (C.t (T.str s)).fz, (C.t (T.seq (4 : Nat) ks)).fz], [(C.t (T.int IntKind.i64 k2)).fz, (C.t (T.int IntKind.i64 n2)).fz, (C.t (T.str s2)).fz, (C.t (T.seq (4 : Nat) ks2)).fz]] by simp)
    exact .tp [.m (rfl : true = true), .m (rfl : true = true), .m (rfl : true = true), .m (rfl : true = true), .m (rfl : true = true), .m (rfl : true = true), .b (rfl : true = true), .m (rfl : true = true), .m (rfl : true = true), .m (rfl : true = true), .m (rfl : true = true), .m (rfl : true = true), .m (rfl : true = true), .m (rfl : true = true), .m (rfl : true = true), t15, .m (rfl : true = true), .m (rfl : true = true), .m (rfl : true = true), .m (rfl : true = true), t20, .m (rfl : true = true), .m (rfl : true = true), .m (rfl : true = true), .m (rfl : true = true), .m (rfl : true = true), .m (rfl : true = true), .m (rfl : true = true), .m (rfl : true = true), t29, .m (rfl : true = true), .m (rfl : true = true), .m (rfl : true = true), .m (rfl : true = true), .m (rfl : true = true), t35, .m (rfl : true = true), .m (rfl : true = true), .m (rfl : true = true), .m (rfl : true = true), .m (rfl : true = true), .m (rfl : true = true), .m (rfl : true = true), .m (rfl : true = true), t44, .m (rfl : true = true), .m (rfl : true = true), .m (rfl : true = true), .m (rfl : true = true), .a (st), t50, t51, t52, t53, t54, .m (rfl : true = true), .m (rfl : true = true), .m (rfl : true = true), .m (rfl : true = true), .m (rfl : true = true), .a (g), .m (rfl : true = true), .m (rfl : true = true), t63, .m (rfl : true = true), .m (rfl : true = true), .m (rfl : true = true), .a (ih)] (by kernel_rfl)
theorem all_ev (toks : List Tk) (m : Int) (fin least dp k n k2 n2 : Int) (s s2 : ByteArray) (ks ks2 : List (List T)) (a' b a2 b2 : Int) (d d2 : Bool)
    (g : Ev pr (.call 22 [.ptr 0 1 0 0, i64 dp] [sB toks m fin (-1) false]) (.val (jk k n s ks) [sB toks a' fin b d]))
    (gl : alSt toks a' fin b d least dp k n s ks (alO toks a2 fin b2 d2 k2 n2 s2 ks2)) :
    Ev pr (.call 10 [.ptr 0 1 0 0, i64 least, i64 dp] [sB toks m fin (-1) false]) (.val (jk k2 n2 s2 ks2) [sB toks a2 fin b2 d2]) := by
  unfold alSt alO sB zE eB jk at *
  exact .tp [.a (g), .a (gl)] (by kernel_rfl)
end Go.Ev

/- The reference's reader: the whole. -/
namespace Go.Ev
set_option linter.unusedVariables false
set_option linter.unusedSimpArgs false
open Go.Proofs
set_option maxRecDepth 100000
set_option linter.unusedVariables false
set_option linter.unusedSimpArgs false
set_option maxHeartbeats 4000000
def FS (toks : List Tk) (fin : Int) : PR → Out → Prop
  | .ok x r, o => ∃ dn, toks = dn ++ r ∧ o = .val (jk x.kind x.nm x.text x.kids) [sB toks dn.length fin (-1) false]
  | .bad p, o => ∃ k n s ks a, 0 ≤ p ∧ o = .val (jk k n s ks) [sB toks a fin p false]
  | .deep, o => ∃ k n s ks a b, 0 ≤ b ∧ o = .val (jk k n s ks) [sB toks a fin b true]
def LS (toks : List Tk) (fin : Int) : PR → Out → Prop
  | .ok x r, o => ∃ dn, toks = dn ++ r ∧ o = alO toks dn.length fin (-1) false x.kind x.nm x.text x.kids
  | .bad p, o => ∃ k n s ks a, 0 ≤ p ∧ o = alO toks a fin p false k n s ks
  | .deep, o => ∃ k n s ks a b, 0 ≤ b ∧ o = alO toks a fin b true k n s ks
theorem placeOf_nn {fin : Int} {r : List Tk} (h0 : 0 ≤ fin) (h : ∀ t ∈ r, 0 ≤ t.place) : 0 ≤ placeOf fin r := by
  cases r with
  | nil => exact h0
  | cons t r => exact h t (by simp)
theorem signOf_k {t : Tk} {r : List Tk} (h : t.kind ≠ 3) : signOf (t :: r) = [] := if_neg h
theorem signOf_3 {t : Tk} {r : List Tk} (h : t.kind = 3) : signOf (t :: r) = t.text := if_pos h
/-- What is too deep. -/
theorem deep1_ev (toks : List Tk) (hl : toks.length ≤ 1000) (fin : Int) (h0 : 0 ≤ fin) (hp : ∀ t ∈ toks, 0 ≤ t.place) (dn r : List Tk) (h : toks = dn ++ r) :
    ∃ b, 0 ≤ b ∧ Ev pr (.call 22 [.ptr 0 1 0 0, i64 101] [sB toks dn.length fin (-1) false]) (.val (jk 0 0 e0 []) [sB toks dn.length fin b true]) ∧
      Ev pr (.call 10 [.ptr 0 1 0 0, i64 1, i64 101] [sB toks dn.length fin (-1) false]) (.val (jk 0 0 e0 []) [sB toks dn.length fin b true]) := by
  have g := sfail_ev dn r (by rw [← h]; exact hl) fin true
  rw [← h] at g
  have hb := placeOf_nn (r := r) h0 fun t ht => hp t (by rw [h]; simp [ht])
  have e := sdeep_ev toks dn.length fin _ hb g
  exact ⟨_, hb, e, all_ev toks dn.length fin 1 101 _ _ _ _ _ _ _ _ _ _ _ _ _ _ e (alN_ev toks _ fin _ 1 101 _ _ hb true _ _)⟩
theorem sp_all (toks : List Tk) (hl : toks.length ≤ 1000) (hk : PR.kindOk toks) (fin : Int) (h0 : 0 ≤ fin) (hp : ∀ t ∈ toks, 0 ≤ t.place) : ∀ f : Nat,
    (∀ (dn r : List Tk) (a : Nat), toks = dn ++ r → 3 * r.length + 1 ≤ f → a ≤ 100 → ∃ o, FS toks fin (firstP f fin r a) o ∧ Ev pr (.call 22 [.ptr 0 1 0 0, i64 a] [sB toks dn.length fin (-1) false]) o) ∧
    (∀ (dn r : List Tk) (l L : Int) (a : Nat), (L = l ∨ (L = 1 ∧ l = 0)) → toks = dn ++ r → 3 * r.length + 2 ≤ f → a ≤ 100 → ∃ o, FS toks fin (readP f fin l r a) o ∧ Ev pr (.call 10 [.ptr 0 1 0 0, i64 L, i64 a] [sB toks dn.length fin (-1) false]) o) ∧
    (∀ (dn r : List Tk) (l L : Int) (a : Nat) (x : E), (L = l ∨ (L = 1 ∧ l = 0)) → toks = dn ++ r → 3 * r.length + 1 ≤ f → a ≤ 100 → ∃ o, LS toks fin (loopP f fin l x r a) o ∧ alSt toks dn.length fin (-1) false L a x.kind x.nm x.text x.kids o)
  | 0 => ⟨fun dn r a h hf => by omega, fun dn r l L a hL h hf => by omega, fun dn r l L a x hL h hf => by omega⟩
  | f + 1 => by
    obtain ⟨i1, i2, i3⟩ := sp_all toks hl hk fin h0 hp f
    have pl := parse_len f
    refine ⟨fun dn r a h hf ha => ?_, fun dn r l L a hL h hf ha => ?_, fun dn r l L a x hL h hf ha => ?_⟩
    · have hnn := placeOf_nn (r := r) h0 fun t ht => hp t (by rw [h]; simp [ht])
      cases r with
      | nil =>
        have e : dn = toks := by rw [h, List.append_nil]
        rw [firstP]
        exact ⟨_, ⟨_, _, _, _, _, h0, rfl⟩, by rw [e]; exact s0_ev toks hl fin a (by omega)⟩
      | cons t r =>
        have hlen : toks.length = dn.length + 1 + r.length := by rw [h]; simp; omega
        have hg : lkp (toks.map Tk.ce) (dn.length : Int) = some [T.int .i64 t.kind, T.int .i64 t.num, T.str (bsOf t.text), T.int .i64 t.place] := by rw [h]; exact tk_lkp dn r t
        have h' : toks = (dn ++ [t]) ++ r := by rw [h]; simp
        have hn : dn.length < toks.length := by omega
        have e1 : ((dn ++ [t]).length : Int) = (dn.length : Int) + 1 := by simp
        have hk3 := hk t (by rw [h]; simp)
        have g1 := ssign_ev dn (t :: r) (by rw [← h]; exact hl) fin false [45] (by simp)
        have g2 := ssign_ev dn (t :: r) (by rw [← h]; exact hl) fin false [33] (by simp)
        have g3 := ssign_ev dn (t :: r) (by rw [← h]; exact hl) fin false [40] (by simp)
        rw [← h] at g1 g2 g3
        simp only [List.length_cons] at hf
        have haI : (a : Int) ≤ 100 := by omega
        have ha2 : 0 ≤ (a : Int) ∧ (a : Int) ≤ 100 := by omega
        rw [firstP]
        by_cases k1 : t.kind = 1
        · rw [if_pos k1]
          rw [signOf_k (by omega)] at g1 g2 g3
          exact ⟨_, ⟨_, h', rfl⟩, by rw [e1]; exact s1_ev toks dn.length hn hl t hg fin a haI k1 g1 g2 g3⟩
        · rw [if_neg k1]
          by_cases k2 : t.kind = 2
          · rw [if_pos k2]
            rw [signOf_k (by omega)] at g1 g2 g3
            exact ⟨_, ⟨_, h', rfl⟩, by rw [e1]; exact s2_ev toks dn.length hn hl t hg fin a haI k2 g1 g2 g3⟩
          · rw [if_neg k2]
            have k3 : t.kind = 3 := by omega
            rw [signOf_3 k3] at g1 g2 g3
            by_cases c1 : t.text ≠ [40] ∧ t.text ≠ [45] ∧ t.text ≠ [33]
            · rw [if_pos c1]
              rw [beq_eq_false_iff_ne.2 c1.2.1] at g1
              rw [beq_eq_false_iff_ne.2 c1.2.2] at g2
              rw [beq_eq_false_iff_ne.2 c1.1] at g3
              have g := sfail_ev dn (t :: r) (by rw [← h]; exact hl) fin false
              rw [← h] at g
              exact ⟨_, ⟨_, _, _, _, _, hnn, rfl⟩, s3_ev toks dn.length hn hl t hg fin a haI k3 _ g1 g2 g3 g⟩
            · rw [if_neg c1]
              have c2 : t.text = [40] ∨ t.text = [45] ∨ t.text = [33] := by
                by_cases d1 : t.text = [40]
                · exact .inl d1
                · by_cases d2 : t.text = [45]
                  · exact .inr (.inl d2)
                  · by_cases d3 : t.text = [33]
                    · exact .inr (.inr d3)
                    · exact absurd ⟨d1, d2, d3⟩ c1
              by_cases ca : a = 100
              · rw [if_pos ca]
                subst ca
                obtain ⟨b, hb, q1, q2⟩ := deep1_ev toks hl fin h0 hp (dn ++ [t]) r h'
                rw [e1] at q1 q2
                rcases c2 with c2 | c2 | c2
                · rw [c2] at g1 g2 g3
                  exact ⟨_, ⟨_, _, _, _, _, _, hb, rfl⟩, s7b_ev toks dn.length hn hl fin 100 (by omega) _ _ _ _ _ b b true g1 g2 g3 q2 (ssignN_ev toks _ fin b hb true _) (sfailN_ev toks _ fin b hb true)⟩
                · rw [c2] at g1 g2 g3
                  exact ⟨_, ⟨_, _, _, _, _, _, hb, rfl⟩, s5_ev toks dn.length hn hl fin 100 (by omega) _ _ _ _ _ b true g1 q1⟩
                · rw [c2] at g1 g2 g3
                  exact ⟨_, ⟨_, _, _, _, _, _, hb, rfl⟩, s6_ev toks dn.length hn hl fin 100 (by omega) _ _ _ _ _ b true g1 g2 q1⟩
              · rw [if_neg ca]
                have ea : ((a + 1 : Nat) : Int) = (a : Int) + 1 := by omega
                by_cases c3 : t.text = [40]
                · rw [if_pos c3]
                  rw [c3] at g1 g2 g3
                  obtain ⟨o, ho, g⟩ := i2 (dn ++ [t]) r 0 1 (a + 1) (.inr ⟨rfl, rfl⟩) h' (by omega) (by omega)
                  rw [e1, ea] at g
                  cases hr : readP f fin 0 r (a + 1) with
                  | bad p =>
                    rw [hr] at ho
                    obtain ⟨k, n, s, ks, a', hb, rfl⟩ := ho
                    exact ⟨_, ⟨_, _, _, _, _, hb, rfl⟩, s7b_ev toks dn.length hn hl fin a ha2 _ _ _ _ _ p p false g1 g2 g3 g (ssignN_ev toks _ fin p hb false _) (sfailN_ev toks _ fin p hb false)⟩
                  | deep =>
                    rw [hr] at ho
                    obtain ⟨k, n, s, ks, a', b, hb, rfl⟩ := ho
                    exact ⟨_, ⟨_, _, _, _, _, _, hb, rfl⟩, s7b_ev toks dn.length hn hl fin a ha2 _ _ _ _ _ b b true g1 g2 g3 g (ssignN_ev toks _ fin b hb true _) (sfailN_ev toks _ fin b hb true)⟩
                  | ok x r1 =>
                    rw [hr] at ho
                    obtain ⟨dn1, hd, rfl⟩ := ho
                    have hm : dn1.length ≤ 1000 := by have := congrArg List.length hd; simp at this; omega
                    have sg := ssign_ev dn1 r1 (by rw [← hd]; exact hl) fin false [41] (by simp)
                    rw [← hd] at sg
                    dsimp only
                    by_cases c4 : signOf r1 = [41]
                    · rw [if_pos c4]
                      rw [c4] at sg
                      have hne : ∃ t1 q1, r1 = t1 :: q1 := by
                        cases r1 with
                        | nil => simp [signOf] at c4
                        | cons t1 q1 => exact ⟨t1, q1, rfl⟩
                      obtain ⟨t1, q1, rfl⟩ := hne
                      refine ⟨_, ⟨dn1 ++ [t1], by rw [hd]; simp, rfl⟩, ?_⟩
                      rw [show ((dn1 ++ [t1]).length : Int) = (dn1.length : Int) + 1 by simp]
                      exact s7o_ev toks dn.length hn hl fin a ha2 _ _ _ _ dn1.length hm g1 g2 g3 g sg
                    · rw [if_neg c4]
                      rw [beq_eq_false_iff_ne.2 c4] at sg
                      have rf := sfail_ev dn1 r1 (by rw [← hd]; exact hl) fin false
                      rw [← hd] at rf
                      have hnn1 := placeOf_nn (r := r1) h0 fun t ht => hp t (by rw [hd]; simp [ht])
                      exact ⟨_, ⟨_, _, _, _, _, hnn1, rfl⟩, s7b_ev toks dn.length hn hl fin a ha2 _ _ _ _ _ (-1) _ false g1 g2 g3 g sg rf⟩
                · rw [if_neg c3]
                  have c5 := c2.resolve_left c3
                  obtain ⟨o, ho, g⟩ := i1 (dn ++ [t]) r (a + 1) h' (by omega) (by omega)
                  rw [e1, ea] at g
                  have step : ∀ (k n : Int) (s : ByteArray) (ks : List (List T)) (a' b : Int) (d : Bool), Ev pr (.call 22 [.ptr 0 1 0 0, i64 ((a : Int) + 1)] [sB toks ((dn.length : Int) + 1) fin (-1) false]) (.val (jk k n s ks) [sB toks a' fin b d]) →
                      Ev pr (.call 22 [.ptr 0 1 0 0, i64 a] [sB toks dn.length fin (-1) false]) (.val (jk (if t.text = [33] then 4 else 3) 0 e0 [jkT k n s ks]) [sB toks a' fin b d]) := fun k n s ks a' b d g => by
                    rcases c5 with c5 | c5
                    · rw [c5] at g1 ⊢
                      rw [if_neg (by decide)]
                      exact s5_ev toks dn.length hn hl fin a ha2 _ _ _ _ _ b d g1 g
                    · rw [c5] at g1 g2 ⊢
                      rw [if_pos rfl]
                      exact s6_ev toks dn.length hn hl fin a ha2 _ _ _ _ _ b d g1 g2 g
                  cases hr : firstP f fin r (a + 1) with
                  | bad p =>
                    rw [hr] at ho
                    obtain ⟨k, n, s, ks, a', hb, rfl⟩ := ho
                    exact ⟨_, ⟨_, _, _, _, _, hb, rfl⟩, step _ _ _ _ _ p false g⟩
                  | deep =>
                    rw [hr] at ho
                    obtain ⟨k, n, s, ks, a', b, hb, rfl⟩ := ho
                    exact ⟨_, ⟨_, _, _, _, _, _, hb, rfl⟩, step _ _ _ _ _ b true g⟩
                  | ok x r1 =>
                    rw [hr] at ho
                    obtain ⟨dn1, hd, rfl⟩ := ho
                    refine ⟨_, ⟨dn1, hd, rfl⟩, ?_⟩
                    have e := step _ _ _ _ _ _ _ g
                    unfold unE
                    by_cases c6 : t.text = [33]
                    · rw [if_pos c6] at e ⊢
                      exact e
                    · rw [if_neg c6] at e ⊢
                      exact e
    · rw [readP]
      obtain ⟨o, ho, g⟩ := i1 dn r a h (by omega) ha
      cases hr : firstP f fin r a with
      | bad p =>
        rw [hr] at ho
        obtain ⟨k, n, s, ks, a', hb, rfl⟩ := ho
        exact ⟨_, ⟨_, _, _, _, _, hb, rfl⟩, all_ev toks dn.length fin L a _ _ _ _ _ _ _ _ _ _ _ _ _ _ g (alN_ev toks _ fin _ L a _ _ hb false _ _)⟩
      | deep =>
        rw [hr] at ho
        obtain ⟨k, n, s, ks, a', b, hb, rfl⟩ := ho
        exact ⟨_, ⟨_, _, _, _, _, _, hb, rfl⟩, all_ev toks dn.length fin L a _ _ _ _ _ _ _ _ _ _ _ _ _ _ g (alN_ev toks _ fin _ L a _ _ hb true _ _)⟩
      | ok x r1 =>
        rw [hr] at ho
        obtain ⟨dn1, hd, rfl⟩ := ho
        have hs := (pl.1 fin r a x r1 hr).1
        obtain ⟨o2, ho2, gl⟩ := i3 dn1 r1 l L a x hL hd (by omega) ha
        dsimp only
        cases hq : loopP f fin l x r1 a with
        | bad p =>
          rw [hq] at ho2
          obtain ⟨k, n, s, ks, a', hb, rfl⟩ := ho2
          exact ⟨_, ⟨_, _, _, _, _, hb, rfl⟩, all_ev toks dn.length fin L a _ _ _ _ _ _ _ _ _ _ _ _ _ _ g gl⟩
        | deep =>
          rw [hq] at ho2
          obtain ⟨k, n, s, ks, a', b, hb, rfl⟩ := ho2
          exact ⟨_, ⟨_, _, _, _, _, _, hb, rfl⟩, all_ev toks dn.length fin L a _ _ _ _ _ _ _ _ _ _ _ _ _ _ g gl⟩
        | ok z r2 =>
          rw [hq] at ho2
          obtain ⟨dn2, hd2, rfl⟩ := ho2
          exact ⟨_, ⟨dn2, hd2, rfl⟩, all_ev toks dn.length fin L a _ _ _ _ _ _ _ _ _ _ _ _ _ _ g gl⟩
    · rw [loopP]
      by_cases c : strength (signOf r) = 0 ∨ strength (signOf r) < l
      · rw [if_pos c]
        refine ⟨_, ⟨dn, h, rfl⟩, ?_⟩
        cases r with
        | nil =>
          have e : dn = toks := by rw [h, List.append_nil]
          rw [e]
          exact alE_ev toks hl fin L a _ _ _ _
        | cons t r =>
          have hlen : toks.length = dn.length + 1 + r.length := by rw [h]; simp; omega
          have hg : lkp (toks.map Tk.ce) (dn.length : Int) = some [T.int .i64 t.kind, T.int .i64 t.num, T.str (bsOf t.text), T.int .i64 t.place] := by rw [h]; exact tk_lkp dn r t
          by_cases k3 : t.kind = 3
          · rw [signOf_3 k3] at c
            exact alB_ev toks dn.length (by omega) hl t hg k3 fin L a _ _ _ _ (by omega)
          · exact alK_ev toks dn.length (by omega) hl t hg k3 fin L a _ _ _ _
      · rw [if_neg c]
        obtain ⟨t, q, rfl, k3⟩ := signOf_ne (r := r) fun e => c (.inl e)
        have c1 : strength (signOf (t :: q)) ≠ 0 := fun e => c (.inl e)
        have c2 : ¬ strength (signOf (t :: q)) < l := fun e => c (.inr e)
        have hlen : toks.length = dn.length + 1 + q.length := by rw [h]; simp; omega
        have hg : lkp (toks.map Tk.ce) (dn.length : Int) = some [T.int .i64 t.kind, T.int .i64 t.num, T.str (bsOf t.text), T.int .i64 t.place] := by rw [h]; exact tk_lkp dn q t
        have h' : toks = (dn ++ [t]) ++ q := by rw [h]; simp
        have e1 : ((dn ++ [t]).length : Int) = (dn.length : Int) + 1 := by simp
        have hs0 := strength_nonneg (signOf (t :: q))
        simp only [List.length_cons] at hf
        rw [signOf_3 k3] at c1 c2 hs0
        obtain ⟨o, ho, g⟩ := i2 (dn ++ [t]) q (if strength t.text = 7 then 7 else strength t.text + 1) (if strength t.text = 7 then 7 else strength t.text + 1) a (.inl rfl) h' (by omega) ha
        rw [e1] at g
        rw [signOf_3 k3, List.tail_cons]
        cases hr : readP f fin (if strength t.text = 7 then 7 else strength t.text + 1) q a with
        | bad p =>
          rw [hr] at ho
          obtain ⟨k, n, s, ks, a', hb, rfl⟩ := ho
          exact ⟨_, ⟨_, _, _, _, _, hb, rfl⟩, alG_ev toks dn.length (by omega) hl t hg k3 fin L a _ _ _ _ c1 (by omega) _ _ _ _ _ p false _ g (alN_ev toks _ fin p L a _ _ hb false _ _)⟩
        | deep =>
          rw [hr] at ho
          obtain ⟨k, n, s, ks, a', b, hb, rfl⟩ := ho
          exact ⟨_, ⟨_, _, _, _, _, _, hb, rfl⟩, alG_ev toks dn.length (by omega) hl t hg k3 fin L a _ _ _ _ c1 (by omega) _ _ _ _ _ b true _ g (alN_ev toks _ fin b L a _ _ hb true _ _)⟩
        | ok y r1 =>
          rw [hr] at ho
          obtain ⟨dn1, hd, rfl⟩ := ho
          have hs := (pl.2.1 fin _ q a y r1 hr).1
          obtain ⟨o2, ho2, gl⟩ := i3 dn1 r1 l L a (.two (bsOf t.text) x y) hL hd (by omega) ha
          exact ⟨o2, ho2, alG_ev toks dn.length (by omega) hl t hg k3 fin L a _ _ _ _ c1 (by omega) _ _ _ _ _ (-1) false _ g gl⟩
end Go.Ev
