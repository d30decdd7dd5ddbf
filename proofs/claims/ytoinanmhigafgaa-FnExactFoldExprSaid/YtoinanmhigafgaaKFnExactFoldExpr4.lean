import Derived.Test.YtoinanmhigafgaaKFnExactFoldExpr3
/- Numbers of two. -/
namespace Go.Ev
set_option linter.unusedVariables false
set_option linter.unusedSimpArgs false
open Go.Proofs
set_option maxRecDepth 100000
set_option linter.unusedVariables false
set_option maxHeartbeats 1000000
theorem boolNum_ev (b : Bool) : Ev pr (.call 87 [bl b] []) (.val (i64 (tru b)) []) := by
  cases b with
  | true => exact .tp [.b (rfl : true = true)] (by kernel_rfl)
  | false => exact .tp [.b (rfl : false = false)] (by kernel_rfl)
theorem l2Truth_ev (b : Bool) : Ev pr (.call 97 [bl b] []) (.val (i64 (tru b)) []) := by
  cases b with
  | true => exact .tp [.b (rfl : true = true)] (by kernel_rfl)
  | false => exact .tp [.b (rfl : false = false)] (by kernel_rfl)
theorem bounded_ev (n : Int) : Ev pr (.call 102 [i64 n] []) (.val (.tup [i64 (inB n).1, i64 (inB n).2]) []) := by
  let t0 : Tp pr := .a (within_ev (n) ((-1000000000 : Int)) ((1000000000 : Int)))
  by_cases hc1 : n < (-1000000000 : Int) ∨ (1000000000 : Int) < n
  · let t1 : Tp pr := .b (show (!(decide (n ≥ (-1000000000 : Int)) && decide (n ≤ (1000000000 : Int)))) = true by simpa using hc1)
    exact .tpe [t0, t1] (Out.val (V.tup [V.t (T.int IntKind.i64 (0 : Int)), V.t (T.int IntKind.i64 (3 : Int))]) []) (by kernel_rfl) ((congrArg (fun x => Out.val (V.tup [V.t (T.int IntKind.i64 x), V.t (T.int IntKind.i64 (3 : Int))]) []) (show ((0 : Int)) = ((inB n).fst) by grind [inB])).trans (congrArg (fun x => Out.val (V.tup [V.t (T.int IntKind.i64 (inB n).fst), V.t (T.int IntKind.i64 x)]) []) (show ((3 : Int)) = ((inB n).snd) by grind [inB])))
  · let t1 : Tp pr := .b (show (!(decide (n ≥ (-1000000000 : Int)) && decide (n ≤ (1000000000 : Int)))) = false by simpa using hc1)
    exact .tpe [t0, t1] (Out.val (V.tup [V.t (T.int IntKind.i64 n), V.t (T.int IntKind.i64 (0 : Int))]) []) (by kernel_rfl) ((congrArg (fun x => Out.val (V.tup [V.t (T.int IntKind.i64 x), V.t (T.int IntKind.i64 (0 : Int))]) []) (show (n) = ((inB n).fst) by grind [inB])).trans (congrArg (fun x => Out.val (V.tup [V.t (T.int IntKind.i64 (inB n).fst), V.t (T.int IntKind.i64 x)]) []) (show ((0 : Int)) = ((inB n).snd) by grind [inB])))
theorem l2Bound_ev (n : Int) : Ev pr (.call 82 [i64 n] []) (.val (bl (decide (n ≥ -1000000000) && decide (n ≤ 1000000000))) []) := by
  let t0 : Tp pr := .a (l1In_ev (n) ((-1000000000 : Int)) ((1000000000 : Int)))
  exact .tp [t0] (by kernel_rfl)
theorem two_ev (s : ByteArray) (a b : Int) (ha : -1000000000 ≤ a) (ha2 : a ≤ 1000000000) (hb : -1000000000 ≤ b) (hb2 : b ≤ 1000000000) : Ev pr (.call 88 [.t (.str s), i64 a, i64 b] []) (.val (.tup [i64 (two2 s.toList a b).1, i64 (two2 s.toList a b).2]) []) := by
  have hm := mul_bd ha ha2 hb hb2
  have hq := tdiv_bd b ha ha2
  have hr := tmod_bd b ha ha2
  by_cases hs : 0 ≤ b ∧ b ≤ 20
  · have hp : pow2 b 64 = 2 ^ b.toNat := by
      have := pow2_eq (n := b.toNat) (by omega)
      rwa [Int.toNat_of_nonneg hs.1] at this
    have hp2 := pow_bd (n := b.toNat) (by omega)
    rw [← hp] at hp2
    have hp3 := mulp_bd ha ha2 hp2
    have hp4 : (1 : Int) * pow2 b 64 = pow2 b 64 := by omega
    by_cases hc0 : s.toList = [(43 : UInt8)]
    · let t0 : Tp pr := .b (show (s.toList == [(43 : UInt8)]) = true by simpa using hc0)
      let t1 : Tp pr := .i (wrap_i64 (a := a + b) (by omega) (by omega))
      exact .tpe [t0, t1, .a (bounded_ev (a + b))] (Out.val (V.tup [V.t (T.int IntKind.i64 (inB (a + b)).fst), V.t (T.int IntKind.i64 (inB (a + b)).snd)]) []) (by kernel_rfl) ((congrArg (fun x => Out.val (V.tup [V.t (T.int IntKind.i64 x), V.t (T.int IntKind.i64 (inB (a + b)).snd)]) []) (show ((inB (a + b)).fst) = ((two2 s.toList a b).fst) by grind [two2])).trans (congrArg (fun x => Out.val (V.tup [V.t (T.int IntKind.i64 (two2 s.toList a b).fst), V.t (T.int IntKind.i64 x)]) []) (show ((inB (a + b)).snd) = ((two2 s.toList a b).snd) by grind [two2])))
    · let t0 : Tp pr := .b (show (s.toList == [(43 : UInt8)]) = false by simpa using hc0)
      by_cases hc1 : s.toList = [(45 : UInt8)]
      · let t1 : Tp pr := .b (show (s.toList == [(45 : UInt8)]) = true by simpa using hc1)
        let t2 : Tp pr := .i (wrap_i64 (a := a - b) (by omega) (by omega))
        exact .tpe [t0, t1, t2, .a (bounded_ev (a - b))] (Out.val (V.tup [V.t (T.int IntKind.i64 (inB (a - b)).fst), V.t (T.int IntKind.i64 (inB (a - b)).snd)]) []) (by kernel_rfl) ((congrArg (fun x => Out.val (V.tup [V.t (T.int IntKind.i64 x), V.t (T.int IntKind.i64 (inB (a - b)).snd)]) []) (show ((inB (a - b)).fst) = ((two2 s.toList a b).fst) by grind [two2])).trans (congrArg (fun x => Out.val (V.tup [V.t (T.int IntKind.i64 (two2 s.toList a b).fst), V.t (T.int IntKind.i64 x)]) []) (show ((inB (a - b)).snd) = ((two2 s.toList a b).snd) by grind [two2])))
      · let t1 : Tp pr := .b (show (s.toList == [(45 : UInt8)]) = false by simpa using hc1)
        by_cases hc2 : s.toList = [(42 : UInt8)]
        · let t2 : Tp pr := .b (show (s.toList == [(42 : UInt8)]) = true by simpa using hc2)
          let t3 : Tp pr := .i (wrap_i64 (a := a * b) (by omega) (by omega))
          exact .tpe [t0, t1, t2, t3, .a (bounded_ev (a * b))] (Out.val (V.tup [V.t (T.int IntKind.i64 (inB (a * b)).fst), V.t (T.int IntKind.i64 (inB (a * b)).snd)]) []) (by kernel_rfl) ((congrArg (fun x => Out.val (V.tup [V.t (T.int IntKind.i64 x), V.t (T.int IntKind.i64 (inB (a * b)).snd)]) []) (show ((inB (a * b)).fst) = ((two2 s.toList a b).fst) by grind [two2])).trans (congrArg (fun x => Out.val (V.tup [V.t (T.int IntKind.i64 (two2 s.toList a b).fst), V.t (T.int IntKind.i64 x)]) []) (show ((inB (a * b)).snd) = ((two2 s.toList a b).snd) by grind [two2])))
        · let t2 : Tp pr := .b (show (s.toList == [(42 : UInt8)]) = false by simpa using hc2)
          by_cases hc3 : s.toList = [(47 : UInt8)]
          · let t3 : Tp pr := .b (show (s.toList == [(47 : UInt8)]) = true by simpa using hc3)
            let t4 : Tp pr := .b (show (s.toList == [(47 : UInt8)]) = true by (simp; omega))
            by_cases hc5 : b = (0 : Int)
            · let t5 : Tp pr := .b (show (decide (b = (0 : Int))) = true by simpa using hc5)
              exact .tpe [t0, t1, t2, t3, t4, t5] (Out.val (V.tup [V.t (T.int IntKind.i64 (0 : Int)), V.t (T.int IntKind.i64 (2 : Int))]) []) (by kernel_rfl) ((congrArg (fun x => Out.val (V.tup [V.t (T.int IntKind.i64 x), V.t (T.int IntKind.i64 (2 : Int))]) []) (show ((0 : Int)) = ((two2 s.toList a b).fst) by grind [two2])).trans (congrArg (fun x => Out.val (V.tup [V.t (T.int IntKind.i64 (two2 s.toList a b).fst), V.t (T.int IntKind.i64 x)]) []) (show ((2 : Int)) = ((two2 s.toList a b).snd) by grind [two2])))
            · let t5 : Tp pr := .b (show (decide (b = (0 : Int))) = false by simpa using hc5)
              let t6 : Tp pr := .b (show (s.toList == [(47 : UInt8)]) = true by (simp; omega))
              let t7 : Tp pr := .m (show (decide (b ≠ (0 : Int))) = true by simp [*])
              let t8 : Tp pr := .i (wrap_i64 (a := a.tdiv b) (by omega) (by omega))
              exact .tpe [t0, t1, t2, t3, t4, t5, t6, t7, t8] (Out.val (V.tup [V.t (T.int IntKind.i64 (a.tdiv b)), V.t (T.int IntKind.i64 (0 : Int))]) []) (by kernel_rfl) ((congrArg (fun x => Out.val (V.tup [V.t (T.int IntKind.i64 x), V.t (T.int IntKind.i64 (0 : Int))]) []) (show (a.tdiv b) = ((two2 s.toList a b).fst) by grind [two2])).trans (congrArg (fun x => Out.val (V.tup [V.t (T.int IntKind.i64 (two2 s.toList a b).fst), V.t (T.int IntKind.i64 x)]) []) (show ((0 : Int)) = ((two2 s.toList a b).snd) by grind [two2])))
          · let t3 : Tp pr := .b (show (s.toList == [(47 : UInt8)]) = false by simpa using hc3)
            by_cases hc4 : s.toList = [(37 : UInt8)]
            · let t4 : Tp pr := .b (show (s.toList == [(37 : UInt8)]) = true by simpa using hc4)
              by_cases hc5 : b = (0 : Int)
              · let t5 : Tp pr := .b (show (decide (b = (0 : Int))) = true by simpa using hc5)
                exact .tpe [t0, t1, t2, t3, t4, t5] (Out.val (V.tup [V.t (T.int IntKind.i64 (0 : Int)), V.t (T.int IntKind.i64 (2 : Int))]) []) (by kernel_rfl) ((congrArg (fun x => Out.val (V.tup [V.t (T.int IntKind.i64 x), V.t (T.int IntKind.i64 (2 : Int))]) []) (show ((0 : Int)) = ((two2 s.toList a b).fst) by grind [two2])).trans (congrArg (fun x => Out.val (V.tup [V.t (T.int IntKind.i64 (two2 s.toList a b).fst), V.t (T.int IntKind.i64 x)]) []) (show ((2 : Int)) = ((two2 s.toList a b).snd) by grind [two2])))
              · let t5 : Tp pr := .b (show (decide (b = (0 : Int))) = false by simpa using hc5)
                let t6 : Tp pr := .b (show (s.toList == [(47 : UInt8)]) = false by (simp; omega))
                let t7 : Tp pr := .m (show (decide (b ≠ (0 : Int))) = true by simp [*])
                exact .tpe [t0, t1, t2, t3, t4, t5, t6, t7, .i (rfl : (a.tmod b) = _)] (Out.val (V.tup [V.t (T.int IntKind.i64 (a.tmod b)), V.t (T.int IntKind.i64 (0 : Int))]) []) (by kernel_rfl) ((congrArg (fun x => Out.val (V.tup [V.t (T.int IntKind.i64 x), V.t (T.int IntKind.i64 (0 : Int))]) []) (show (a.tmod b) = ((two2 s.toList a b).fst) by grind [two2])).trans (congrArg (fun x => Out.val (V.tup [V.t (T.int IntKind.i64 (two2 s.toList a b).fst), V.t (T.int IntKind.i64 x)]) []) (show ((0 : Int)) = ((two2 s.toList a b).snd) by grind [two2])))
            · let t4 : Tp pr := .b (show (s.toList == [(37 : UInt8)]) = false by simpa using hc4)
              by_cases hc5 : s.toList = [(60 : UInt8), (60 : UInt8)]
              · let t5 : Tp pr := .b (show (s.toList == [(60 : UInt8), (60 : UInt8)]) = true by simpa using hc5)
                let t6 : Tp pr := .a (within_ev (b) ((0 : Int)) ((20 : Int)))
                let t7 : Tp pr := .b (show (!(decide (b ≥ (0 : Int)) && decide (b ≤ (20 : Int)))) = false by (simp; omega))
                let t8 : Tp pr := .m (show (decide ((0 : Int) ≤ b)) = true by simp [*])
                let t9 : Tp pr := .i (wrap_i64 (a := (1 : Int) * pow2 b (64 : Nat)) (by omega) (by omega))
                let t10 : Tp pr := .i (wrap_i64 (a := a * ((1 : Int) * pow2 b (64 : Nat))) (by (simp; omega)) (by (simp; omega)))
                let t11 : Tp pr := .a (bounded_ev (a * ((1 : Int) * pow2 b (64 : Nat))))
                exact .tpe [t0, t1, t2, t3, t4, t5, t6, t7, t8, t9, t10, t11] (Out.val (V.tup [V.t (T.int IntKind.i64 (inB (a * ((1 : Int) * pow2 b (64 : Nat)))).fst), V.t (T.int IntKind.i64 (inB (a * ((1 : Int) * pow2 b (64 : Nat)))).snd)]) []) (by kernel_rfl) ((congrArg (fun x => Out.val (V.tup [V.t (T.int IntKind.i64 x), V.t (T.int IntKind.i64 (inB (a * ((1 : Int) * pow2 b (64 : Nat)))).snd)]) []) (show ((inB (a * ((1 : Int) * pow2 b (64 : Nat)))).fst) = ((two2 s.toList a b).fst) by grind [two2])).trans (congrArg (fun x => Out.val (V.tup [V.t (T.int IntKind.i64 (two2 s.toList a b).fst), V.t (T.int IntKind.i64 x)]) []) (show ((inB (a * ((1 : Int) * pow2 b (64 : Nat)))).snd) = ((two2 s.toList a b).snd) by grind [two2])))
              · let t5 : Tp pr := .b (show (s.toList == [(60 : UInt8), (60 : UInt8)]) = false by simpa using hc5)
                by_cases hc6 : s.toList = [(60 : UInt8)]
                · let t6 : Tp pr := .b (show (s.toList == [(60 : UInt8)]) = true by simpa using hc6)
                  exact .tpe [t0, t1, t2, t3, t4, t5, t6, .a (boolNum_ev (decide (a < b)))] (Out.val (V.tup [V.t (T.int IntKind.i64 (tru (decide (a < b)))), V.t (T.int IntKind.i64 (0 : Int))]) []) (by kernel_rfl) ((congrArg (fun x => Out.val (V.tup [V.t (T.int IntKind.i64 x), V.t (T.int IntKind.i64 (0 : Int))]) []) (show (tru (decide (a < b))) = ((two2 s.toList a b).fst) by grind [two2])).trans (congrArg (fun x => Out.val (V.tup [V.t (T.int IntKind.i64 (two2 s.toList a b).fst), V.t (T.int IntKind.i64 x)]) []) (show ((0 : Int)) = ((two2 s.toList a b).snd) by grind [two2])))
                · let t6 : Tp pr := .b (show (s.toList == [(60 : UInt8)]) = false by simpa using hc6)
                  by_cases hc7 : s.toList = [(60 : UInt8), (61 : UInt8)]
                  · let t7 : Tp pr := .b (show (s.toList == [(60 : UInt8), (61 : UInt8)]) = true by simpa using hc7)
                    exact .tpe [t0, t1, t2, t3, t4, t5, t6, t7, .a (boolNum_ev (decide (a ≤ b)))] (Out.val (V.tup [V.t (T.int IntKind.i64 (tru (decide (a ≤ b)))), V.t (T.int IntKind.i64 (0 : Int))]) []) (by kernel_rfl) ((congrArg (fun x => Out.val (V.tup [V.t (T.int IntKind.i64 x), V.t (T.int IntKind.i64 (0 : Int))]) []) (show (tru (decide (a ≤ b))) = ((two2 s.toList a b).fst) by grind [two2])).trans (congrArg (fun x => Out.val (V.tup [V.t (T.int IntKind.i64 (two2 s.toList a b).fst), V.t (T.int IntKind.i64 x)]) []) (show ((0 : Int)) = ((two2 s.toList a b).snd) by grind [two2])))
                  · let t7 : Tp pr := .b (show (s.toList == [(60 : UInt8), (61 : UInt8)]) = false by simpa using hc7)
                    by_cases hc8 : s.toList = [(61 : UInt8), (61 : UInt8)]
                    · let t8 : Tp pr := .b (show (s.toList == [(61 : UInt8), (61 : UInt8)]) = true by simpa using hc8)
                      exact .tpe [t0, t1, t2, t3, t4, t5, t6, t7, t8, .a (boolNum_ev (decide (a = b)))] (Out.val (V.tup [V.t (T.int IntKind.i64 (tru (decide (a = b)))), V.t (T.int IntKind.i64 (0 : Int))]) []) (by kernel_rfl) ((congrArg (fun x => Out.val (V.tup [V.t (T.int IntKind.i64 x), V.t (T.int IntKind.i64 (0 : Int))]) []) (show (tru (decide (a = b))) = ((two2 s.toList a b).fst) by grind [two2])).trans (congrArg (fun x => Out.val (V.tup [V.t (T.int IntKind.i64 (two2 s.toList a b).fst), V.t (T.int IntKind.i64 x)]) []) (show ((0 : Int)) = ((two2 s.toList a b).snd) by grind [two2])))
                    · let t8 : Tp pr := .b (show (s.toList == [(61 : UInt8), (61 : UInt8)]) = false by simpa using hc8)
                      exact .tpe [t0, t1, t2, t3, t4, t5, t6, t7, t8, .a (boolNum_ev (a != b))] (Out.val (V.tup [V.t (T.int IntKind.i64 (tru (a != b))), V.t (T.int IntKind.i64 (0 : Int))]) []) (by kernel_rfl) ((congrArg (fun x => Out.val (V.tup [V.t (T.int IntKind.i64 x), V.t (T.int IntKind.i64 (0 : Int))]) []) (show (tru (a != b)) = ((two2 s.toList a b).fst) by grind [two2])).trans (congrArg (fun x => Out.val (V.tup [V.t (T.int IntKind.i64 (two2 s.toList a b).fst), V.t (T.int IntKind.i64 x)]) []) (show ((0 : Int)) = ((two2 s.toList a b).snd) by grind [two2])))
  · by_cases hc0 : s.toList = [(43 : UInt8)]
    · let t0 : Tp pr := .b (show (s.toList == [(43 : UInt8)]) = true by simpa using hc0)
      let t1 : Tp pr := .i (wrap_i64 (a := a + b) (by omega) (by omega))
      exact .tpe [t0, t1, .a (bounded_ev (a + b))] (Out.val (V.tup [V.t (T.int IntKind.i64 (inB (a + b)).fst), V.t (T.int IntKind.i64 (inB (a + b)).snd)]) []) (by kernel_rfl) ((congrArg (fun x => Out.val (V.tup [V.t (T.int IntKind.i64 x), V.t (T.int IntKind.i64 (inB (a + b)).snd)]) []) (show ((inB (a + b)).fst) = ((two2 s.toList a b).fst) by grind [two2])).trans (congrArg (fun x => Out.val (V.tup [V.t (T.int IntKind.i64 (two2 s.toList a b).fst), V.t (T.int IntKind.i64 x)]) []) (show ((inB (a + b)).snd) = ((two2 s.toList a b).snd) by grind [two2])))
    · let t0 : Tp pr := .b (show (s.toList == [(43 : UInt8)]) = false by simpa using hc0)
      by_cases hc1 : s.toList = [(45 : UInt8)]
      · let t1 : Tp pr := .b (show (s.toList == [(45 : UInt8)]) = true by simpa using hc1)
        let t2 : Tp pr := .i (wrap_i64 (a := a - b) (by omega) (by omega))
        exact .tpe [t0, t1, t2, .a (bounded_ev (a - b))] (Out.val (V.tup [V.t (T.int IntKind.i64 (inB (a - b)).fst), V.t (T.int IntKind.i64 (inB (a - b)).snd)]) []) (by kernel_rfl) ((congrArg (fun x => Out.val (V.tup [V.t (T.int IntKind.i64 x), V.t (T.int IntKind.i64 (inB (a - b)).snd)]) []) (show ((inB (a - b)).fst) = ((two2 s.toList a b).fst) by grind [two2])).trans (congrArg (fun x => Out.val (V.tup [V.t (T.int IntKind.i64 (two2 s.toList a b).fst), V.t (T.int IntKind.i64 x)]) []) (show ((inB (a - b)).snd) = ((two2 s.toList a b).snd) by grind [two2])))
      · let t1 : Tp pr := .b (show (s.toList == [(45 : UInt8)]) = false by simpa using hc1)
        by_cases hc2 : s.toList = [(42 : UInt8)]
        · let t2 : Tp pr := .b (show (s.toList == [(42 : UInt8)]) = true by simpa using hc2)
          let t3 : Tp pr := .i (wrap_i64 (a := a * b) (by omega) (by omega))
          exact .tpe [t0, t1, t2, t3, .a (bounded_ev (a * b))] (Out.val (V.tup [V.t (T.int IntKind.i64 (inB (a * b)).fst), V.t (T.int IntKind.i64 (inB (a * b)).snd)]) []) (by kernel_rfl) ((congrArg (fun x => Out.val (V.tup [V.t (T.int IntKind.i64 x), V.t (T.int IntKind.i64 (inB (a * b)).snd)]) []) (show ((inB (a * b)).fst) = ((two2 s.toList a b).fst) by grind [two2])).trans (congrArg (fun x => Out.val (V.tup [V.t (T.int IntKind.i64 (two2 s.toList a b).fst), V.t (T.int IntKind.i64 x)]) []) (show ((inB (a * b)).snd) = ((two2 s.toList a b).snd) by grind [two2])))
        · let t2 : Tp pr := .b (show (s.toList == [(42 : UInt8)]) = false by simpa using hc2)
          by_cases hc3 : s.toList = [(47 : UInt8)]
          · let t3 : Tp pr := .b (show (s.toList == [(47 : UInt8)]) = true by simpa using hc3)
            let t4 : Tp pr := .b (show (s.toList == [(47 : UInt8)]) = true by (simp; omega))
            let t5 : Tp pr := .b (show (decide (b = (0 : Int))) = false by (simp; omega))
            let t6 : Tp pr := .b (show (s.toList == [(47 : UInt8)]) = true by (simp; omega))
            let t7 : Tp pr := .m (show (decide (b ≠ (0 : Int))) = true by (simp; omega))
            let t8 : Tp pr := .i (wrap_i64 (a := a.tdiv b) (by omega) (by omega))
            exact .tpe [t0, t1, t2, t3, t4, t5, t6, t7, t8] (Out.val (V.tup [V.t (T.int IntKind.i64 (a.tdiv b)), V.t (T.int IntKind.i64 (0 : Int))]) []) (by kernel_rfl) ((congrArg (fun x => Out.val (V.tup [V.t (T.int IntKind.i64 x), V.t (T.int IntKind.i64 (0 : Int))]) []) (show (a.tdiv b) = ((two2 s.toList a b).fst) by grind [two2])).trans (congrArg (fun x => Out.val (V.tup [V.t (T.int IntKind.i64 (two2 s.toList a b).fst), V.t (T.int IntKind.i64 x)]) []) (show ((0 : Int)) = ((two2 s.toList a b).snd) by grind [two2])))
          · let t3 : Tp pr := .b (show (s.toList == [(47 : UInt8)]) = false by simpa using hc3)
            by_cases hc4 : s.toList = [(37 : UInt8)]
            · let t4 : Tp pr := .b (show (s.toList == [(37 : UInt8)]) = true by simpa using hc4)
              let t5 : Tp pr := .b (show (decide (b = (0 : Int))) = false by (simp; omega))
              let t6 : Tp pr := .b (show (s.toList == [(47 : UInt8)]) = false by (simp; omega))
              let t7 : Tp pr := .m (show (decide (b ≠ (0 : Int))) = true by (simp; omega))
              exact .tpe [t0, t1, t2, t3, t4, t5, t6, t7, .i (rfl : (a.tmod b) = _)] (Out.val (V.tup [V.t (T.int IntKind.i64 (a.tmod b)), V.t (T.int IntKind.i64 (0 : Int))]) []) (by kernel_rfl) ((congrArg (fun x => Out.val (V.tup [V.t (T.int IntKind.i64 x), V.t (T.int IntKind.i64 (0 : Int))]) []) (show (a.tmod b) = ((two2 s.toList a b).fst) by grind [two2])).trans (congrArg (fun x => Out.val (V.tup [V.t (T.int IntKind.i64 (two2 s.toList a b).fst), V.t (T.int IntKind.i64 x)]) []) (show ((0 : Int)) = ((two2 s.toList a b).snd) by grind [two2])))
            · let t4 : Tp pr := .b (show (s.toList == [(37 : UInt8)]) = false by simpa using hc4)
              by_cases hc5 : s.toList = [(60 : UInt8), (60 : UInt8)]
              · let t5 : Tp pr := .b (show (s.toList == [(60 : UInt8), (60 : UInt8)]) = true by simpa using hc5)
                let t6 : Tp pr := .a (within_ev (b) ((0 : Int)) ((20 : Int)))
                let t7 : Tp pr := .b (show (!(decide (b ≥ (0 : Int)) && decide (b ≤ (20 : Int)))) = true by (simp; omega))
                exact .tpe [t0, t1, t2, t3, t4, t5, t6, t7] (Out.val (V.tup [V.t (T.int IntKind.i64 (0 : Int)), V.t (T.int IntKind.i64 (3 : Int))]) []) (by kernel_rfl) ((congrArg (fun x => Out.val (V.tup [V.t (T.int IntKind.i64 x), V.t (T.int IntKind.i64 (3 : Int))]) []) (show ((0 : Int)) = ((two2 s.toList a b).fst) by grind [two2])).trans (congrArg (fun x => Out.val (V.tup [V.t (T.int IntKind.i64 (two2 s.toList a b).fst), V.t (T.int IntKind.i64 x)]) []) (show ((3 : Int)) = ((two2 s.toList a b).snd) by grind [two2])))
              · let t5 : Tp pr := .b (show (s.toList == [(60 : UInt8), (60 : UInt8)]) = false by simpa using hc5)
                by_cases hc6 : s.toList = [(60 : UInt8)]
                · let t6 : Tp pr := .b (show (s.toList == [(60 : UInt8)]) = true by simpa using hc6)
                  exact .tpe [t0, t1, t2, t3, t4, t5, t6, .a (boolNum_ev (decide (a < b)))] (Out.val (V.tup [V.t (T.int IntKind.i64 (tru (decide (a < b)))), V.t (T.int IntKind.i64 (0 : Int))]) []) (by kernel_rfl) ((congrArg (fun x => Out.val (V.tup [V.t (T.int IntKind.i64 x), V.t (T.int IntKind.i64 (0 : Int))]) []) (show (tru (decide (a < b))) = ((two2 s.toList a b).fst) by grind [two2])).trans (congrArg (fun x => Out.val (V.tup [V.t (T.int IntKind.i64 (two2 s.toList a b).fst), V.t (T.int IntKind.i64 x)]) []) (show ((0 : Int)) = ((two2 s.toList a b).snd) by grind [two2])))
                · let t6 : Tp pr := .b (show (s.toList == [(60 : UInt8)]) = false by simpa using hc6)
                  by_cases hc7 : s.toList = [(60 : UInt8), (61 : UInt8)]
                  · let t7 : Tp pr := .b (show (s.toList == [(60 : UInt8), (61 : UInt8)]) = true by simpa using hc7)
                    exact .tpe [t0, t1, t2, t3, t4, t5, t6, t7, .a (boolNum_ev (decide (a ≤ b)))] (Out.val (V.tup [V.t (T.int IntKind.i64 (tru (decide (a ≤ b)))), V.t (T.int IntKind.i64 (0 : Int))]) []) (by kernel_rfl) ((congrArg (fun x => Out.val (V.tup [V.t (T.int IntKind.i64 x), V.t (T.int IntKind.i64 (0 : Int))]) []) (show (tru (decide (a ≤ b))) = ((two2 s.toList a b).fst) by grind [two2])).trans (congrArg (fun x => Out.val (V.tup [V.t (T.int IntKind.i64 (two2 s.toList a b).fst), V.t (T.int IntKind.i64 x)]) []) (show ((0 : Int)) = ((two2 s.toList a b).snd) by grind [two2])))
                  · let t7 : Tp pr := .b (show (s.toList == [(60 : UInt8), (61 : UInt8)]) = false by simpa using hc7)
                    by_cases hc8 : s.toList = [(61 : UInt8), (61 : UInt8)]
                    · let t8 : Tp pr := .b (show (s.toList == [(61 : UInt8), (61 : UInt8)]) = true by simpa using hc8)
                      exact .tpe [t0, t1, t2, t3, t4, t5, t6, t7, t8, .a (boolNum_ev (decide (a = b)))] (Out.val (V.tup [V.t (T.int IntKind.i64 (tru (decide (a = b)))), V.t (T.int IntKind.i64 (0 : Int))]) []) (by kernel_rfl) ((congrArg (fun x => Out.val (V.tup [V.t (T.int IntKind.i64 x), V.t (T.int IntKind.i64 (0 : Int))]) []) (show (tru (decide (a = b))) = ((two2 s.toList a b).fst) by grind [two2])).trans (congrArg (fun x => Out.val (V.tup [V.t (T.int IntKind.i64 (two2 s.toList a b).fst), V.t (T.int IntKind.i64 x)]) []) (show ((0 : Int)) = ((two2 s.toList a b).snd) by grind [two2])))
                    · let t8 : Tp pr := .b (show (s.toList == [(61 : UInt8), (61 : UInt8)]) = false by simpa using hc8)
                      exact .tpe [t0, t1, t2, t3, t4, t5, t6, t7, t8, .a (boolNum_ev (a != b))] (Out.val (V.tup [V.t (T.int IntKind.i64 (tru (a != b))), V.t (T.int IntKind.i64 (0 : Int))]) []) (by kernel_rfl) ((congrArg (fun x => Out.val (V.tup [V.t (T.int IntKind.i64 x), V.t (T.int IntKind.i64 (0 : Int))]) []) (show (tru (a != b)) = ((two2 s.toList a b).fst) by grind [two2])).trans (congrArg (fun x => Out.val (V.tup [V.t (T.int IntKind.i64 (two2 s.toList a b).fst), V.t (T.int IntKind.i64 x)]) []) (show ((0 : Int)) = ((two2 s.toList a b).snd) by grind [two2])))
theorem l2Do_ev (s : ByteArray) (a b : Int) (ha : -1000000000 ≤ a) (ha2 : a ≤ 1000000000) (hb : -1000000000 ≤ b) (hb2 : b ≤ 1000000000) : Ev pr (.call 98 [.t (.str s), i64 a, i64 b] []) (.val (.tup [i64 (do2 s.toList a b).1, i64 (do2 s.toList a b).2]) []) := by
  have hm := mul_bd ha ha2 hb hb2
  have hq := tdiv_bd b ha ha2
  have hr := tmod_bd b ha ha2
  by_cases hs : 0 ≤ b ∧ b ≤ 20
  · have hp : pow2 b 64 = 2 ^ b.toNat := by
      have := pow2_eq (n := b.toNat) (by omega)
      rwa [Int.toNat_of_nonneg hs.1] at this
    have hp2 := pow_bd (n := b.toNat) (by omega)
    rw [← hp] at hp2
    have hp3 := mulp_bd ha ha2 hp2
    by_cases hc0 : s.toList = [(43 : UInt8)]
    · let t0 : Tp pr := .b (show (s.toList == [(43 : UInt8)]) = true by simpa using hc0)
      let t1 : Tp pr := .i (wrap_i64 (a := a + b) (by omega) (by omega))
      exact .tpe [t0, t1] (Out.val (V.tup [V.t (T.int IntKind.i64 (a + b)), V.t (T.int IntKind.i64 (0 : Int))]) []) (by kernel_rfl) ((congrArg (fun x => Out.val (V.tup [V.t (T.int IntKind.i64 x), V.t (T.int IntKind.i64 (0 : Int))]) []) (show (a + b) = ((do2 s.toList a b).fst) by grind [do2])).trans (congrArg (fun x => Out.val (V.tup [V.t (T.int IntKind.i64 (do2 s.toList a b).fst), V.t (T.int IntKind.i64 x)]) []) (show ((0 : Int)) = ((do2 s.toList a b).snd) by grind [do2])))
    · let t0 : Tp pr := .b (show (s.toList == [(43 : UInt8)]) = false by simpa using hc0)
      by_cases hc1 : s.toList = [(45 : UInt8)]
      · let t1 : Tp pr := .b (show (s.toList == [(45 : UInt8)]) = true by simpa using hc1)
        let t2 : Tp pr := .i (wrap_i64 (a := a - b) (by omega) (by omega))
        exact .tpe [t0, t1, t2] (Out.val (V.tup [V.t (T.int IntKind.i64 (a - b)), V.t (T.int IntKind.i64 (0 : Int))]) []) (by kernel_rfl) ((congrArg (fun x => Out.val (V.tup [V.t (T.int IntKind.i64 x), V.t (T.int IntKind.i64 (0 : Int))]) []) (show (a - b) = ((do2 s.toList a b).fst) by grind [do2])).trans (congrArg (fun x => Out.val (V.tup [V.t (T.int IntKind.i64 (do2 s.toList a b).fst), V.t (T.int IntKind.i64 x)]) []) (show ((0 : Int)) = ((do2 s.toList a b).snd) by grind [do2])))
      · let t1 : Tp pr := .b (show (s.toList == [(45 : UInt8)]) = false by simpa using hc1)
        by_cases hc2 : s.toList = [(42 : UInt8)]
        · let t2 : Tp pr := .b (show (s.toList == [(42 : UInt8)]) = true by simpa using hc2)
          let t3 : Tp pr := .i (wrap_i64 (a := a * b) (by omega) (by omega))
          exact .tpe [t0, t1, t2, t3] (Out.val (V.tup [V.t (T.int IntKind.i64 (a * b)), V.t (T.int IntKind.i64 (0 : Int))]) []) (by kernel_rfl) ((congrArg (fun x => Out.val (V.tup [V.t (T.int IntKind.i64 x), V.t (T.int IntKind.i64 (0 : Int))]) []) (show (a * b) = ((do2 s.toList a b).fst) by grind [do2])).trans (congrArg (fun x => Out.val (V.tup [V.t (T.int IntKind.i64 (do2 s.toList a b).fst), V.t (T.int IntKind.i64 x)]) []) (show ((0 : Int)) = ((do2 s.toList a b).snd) by grind [do2])))
        · let t2 : Tp pr := .b (show (s.toList == [(42 : UInt8)]) = false by simpa using hc2)
          by_cases hc3 : s.toList = [(60 : UInt8)]
          · let t3 : Tp pr := .b (show (s.toList == [(60 : UInt8)]) = true by simpa using hc3)
            exact .tpe [t0, t1, t2, t3, .a (l2Truth_ev (decide (a < b)))] (Out.val (V.tup [V.t (T.int IntKind.i64 (tru (decide (a < b)))), V.t (T.int IntKind.i64 (0 : Int))]) []) (by kernel_rfl) ((congrArg (fun x => Out.val (V.tup [V.t (T.int IntKind.i64 x), V.t (T.int IntKind.i64 (0 : Int))]) []) (show (tru (decide (a < b))) = ((do2 s.toList a b).fst) by grind [do2])).trans (congrArg (fun x => Out.val (V.tup [V.t (T.int IntKind.i64 (do2 s.toList a b).fst), V.t (T.int IntKind.i64 x)]) []) (show ((0 : Int)) = ((do2 s.toList a b).snd) by grind [do2])))
          · let t3 : Tp pr := .b (show (s.toList == [(60 : UInt8)]) = false by simpa using hc3)
            by_cases hc4 : s.toList = [(60 : UInt8), (61 : UInt8)]
            · let t4 : Tp pr := .b (show (s.toList == [(60 : UInt8), (61 : UInt8)]) = true by simpa using hc4)
              exact .tpe [t0, t1, t2, t3, t4, .a (l2Truth_ev (decide (a ≤ b)))] (Out.val (V.tup [V.t (T.int IntKind.i64 (tru (decide (a ≤ b)))), V.t (T.int IntKind.i64 (0 : Int))]) []) (by kernel_rfl) ((congrArg (fun x => Out.val (V.tup [V.t (T.int IntKind.i64 x), V.t (T.int IntKind.i64 (0 : Int))]) []) (show (tru (decide (a ≤ b))) = ((do2 s.toList a b).fst) by grind [do2])).trans (congrArg (fun x => Out.val (V.tup [V.t (T.int IntKind.i64 (do2 s.toList a b).fst), V.t (T.int IntKind.i64 x)]) []) (show ((0 : Int)) = ((do2 s.toList a b).snd) by grind [do2])))
            · let t4 : Tp pr := .b (show (s.toList == [(60 : UInt8), (61 : UInt8)]) = false by simpa using hc4)
              by_cases hc5 : s.toList = [(61 : UInt8), (61 : UInt8)]
              · let t5 : Tp pr := .b (show (s.toList == [(61 : UInt8), (61 : UInt8)]) = true by simpa using hc5)
                exact .tpe [t0, t1, t2, t3, t4, t5, .a (l2Truth_ev (decide (a = b)))] (Out.val (V.tup [V.t (T.int IntKind.i64 (tru (decide (a = b)))), V.t (T.int IntKind.i64 (0 : Int))]) []) (by kernel_rfl) ((congrArg (fun x => Out.val (V.tup [V.t (T.int IntKind.i64 x), V.t (T.int IntKind.i64 (0 : Int))]) []) (show (tru (decide (a = b))) = ((do2 s.toList a b).fst) by grind [do2])).trans (congrArg (fun x => Out.val (V.tup [V.t (T.int IntKind.i64 (do2 s.toList a b).fst), V.t (T.int IntKind.i64 x)]) []) (show ((0 : Int)) = ((do2 s.toList a b).snd) by grind [do2])))
              · let t5 : Tp pr := .b (show (s.toList == [(61 : UInt8), (61 : UInt8)]) = false by simpa using hc5)
                by_cases hc6 : s.toList = [(33 : UInt8), (61 : UInt8)]
                · let t6 : Tp pr := .b (show (s.toList == [(33 : UInt8), (61 : UInt8)]) = true by simpa using hc6)
                  exact .tpe [t0, t1, t2, t3, t4, t5, t6, .a (l2Truth_ev (a != b))] (Out.val (V.tup [V.t (T.int IntKind.i64 (tru (a != b))), V.t (T.int IntKind.i64 (0 : Int))]) []) (by kernel_rfl) ((congrArg (fun x => Out.val (V.tup [V.t (T.int IntKind.i64 x), V.t (T.int IntKind.i64 (0 : Int))]) []) (show (tru (a != b)) = ((do2 s.toList a b).fst) by grind [do2])).trans (congrArg (fun x => Out.val (V.tup [V.t (T.int IntKind.i64 (do2 s.toList a b).fst), V.t (T.int IntKind.i64 x)]) []) (show ((0 : Int)) = ((do2 s.toList a b).snd) by grind [do2])))
                · let t6 : Tp pr := .b (show (s.toList == [(33 : UInt8), (61 : UInt8)]) = false by simpa using hc6)
                  by_cases hc7 : s.toList = [(60 : UInt8), (60 : UInt8)]
                  · let t7 : Tp pr := .b (show (s.toList == [(60 : UInt8), (60 : UInt8)]) = true by simpa using hc7)
                    let t8 : Tp pr := .a (l1In_ev (b) ((0 : Int)) ((20 : Int)))
                    let t9 : Tp pr := .b (show (!(decide (b ≥ (0 : Int)) && decide (b ≤ (20 : Int)))) = false by (simp; omega))
                    let t10 : Tp pr := .i (wrap_u64 (a := b) (by omega) (by omega))
                    let t11 : Tp pr := .m (show (decide ((0 : Int) ≤ b)) = true by simp [*])
                    let t12 : Tp pr := .i (wrap_i64 (a := a * pow2 b (64 : Nat)) (by omega) (by omega))
                    exact .tpe [t0, t1, t2, t3, t4, t5, t6, t7, t8, t9, t10, t11, t12] (Out.val (V.tup [V.t (T.int IntKind.i64 (a * pow2 b (64 : Nat))), V.t (T.int IntKind.i64 (0 : Int))]) []) (by kernel_rfl) ((congrArg (fun x => Out.val (V.tup [V.t (T.int IntKind.i64 x), V.t (T.int IntKind.i64 (0 : Int))]) []) (show (a * pow2 b (64 : Nat)) = ((do2 s.toList a b).fst) by grind [do2])).trans (congrArg (fun x => Out.val (V.tup [V.t (T.int IntKind.i64 (do2 s.toList a b).fst), V.t (T.int IntKind.i64 x)]) []) (show ((0 : Int)) = ((do2 s.toList a b).snd) by grind [do2])))
                  · let t7 : Tp pr := .b (show (s.toList == [(60 : UInt8), (60 : UInt8)]) = false by simpa using hc7)
                    by_cases hc8 : b = (0 : Int)
                    · let t8 : Tp pr := .b (show (decide (b = (0 : Int))) = true by simpa using hc8)
                      exact .tpe [t0, t1, t2, t3, t4, t5, t6, t7, t8] (Out.val (V.tup [V.t (T.int IntKind.i64 (0 : Int)), V.t (T.int IntKind.i64 (2 : Int))]) []) (by kernel_rfl) ((congrArg (fun x => Out.val (V.tup [V.t (T.int IntKind.i64 x), V.t (T.int IntKind.i64 (2 : Int))]) []) (show ((0 : Int)) = ((do2 s.toList a b).fst) by grind [do2])).trans (congrArg (fun x => Out.val (V.tup [V.t (T.int IntKind.i64 (do2 s.toList a b).fst), V.t (T.int IntKind.i64 x)]) []) (show ((2 : Int)) = ((do2 s.toList a b).snd) by grind [do2])))
                    · let t8 : Tp pr := .b (show (decide (b = (0 : Int))) = false by simpa using hc8)
                      by_cases hc9 : s.toList = [(47 : UInt8)]
                      · let t9 : Tp pr := .b (show (s.toList == [(47 : UInt8)]) = true by simpa using hc9)
                        let t10 : Tp pr := .m (show (decide (b ≠ (0 : Int))) = true by simp [*])
                        let t11 : Tp pr := .i (wrap_i64 (a := a.tdiv b) (by omega) (by omega))
                        exact .tpe [t0, t1, t2, t3, t4, t5, t6, t7, t8, t9, t10, t11] (Out.val (V.tup [V.t (T.int IntKind.i64 (a.tdiv b)), V.t (T.int IntKind.i64 (0 : Int))]) []) (by kernel_rfl) ((congrArg (fun x => Out.val (V.tup [V.t (T.int IntKind.i64 x), V.t (T.int IntKind.i64 (0 : Int))]) []) (show (a.tdiv b) = ((do2 s.toList a b).fst) by grind [do2])).trans (congrArg (fun x => Out.val (V.tup [V.t (T.int IntKind.i64 (do2 s.toList a b).fst), V.t (T.int IntKind.i64 x)]) []) (show ((0 : Int)) = ((do2 s.toList a b).snd) by grind [do2])))
                      · let t9 : Tp pr := .b (show (s.toList == [(47 : UInt8)]) = false by simpa using hc9)
                        let t10 : Tp pr := .m (show (decide (b ≠ (0 : Int))) = true by simp [*])
                        exact .tpe [t0, t1, t2, t3, t4, t5, t6, t7, t8, t9, t10, .i (rfl : (a.tmod b) = _)] (Out.val (V.tup [V.t (T.int IntKind.i64 (a.tmod b)), V.t (T.int IntKind.i64 (0 : Int))]) []) (by kernel_rfl) ((congrArg (fun x => Out.val (V.tup [V.t (T.int IntKind.i64 x), V.t (T.int IntKind.i64 (0 : Int))]) []) (show (a.tmod b) = ((do2 s.toList a b).fst) by grind [do2])).trans (congrArg (fun x => Out.val (V.tup [V.t (T.int IntKind.i64 (do2 s.toList a b).fst), V.t (T.int IntKind.i64 x)]) []) (show ((0 : Int)) = ((do2 s.toList a b).snd) by grind [do2])))
  · by_cases hc0 : s.toList = [(43 : UInt8)]
    · let t0 : Tp pr := .b (show (s.toList == [(43 : UInt8)]) = true by simpa using hc0)
      let t1 : Tp pr := .i (wrap_i64 (a := a + b) (by omega) (by omega))
      exact .tpe [t0, t1] (Out.val (V.tup [V.t (T.int IntKind.i64 (a + b)), V.t (T.int IntKind.i64 (0 : Int))]) []) (by kernel_rfl) ((congrArg (fun x => Out.val (V.tup [V.t (T.int IntKind.i64 x), V.t (T.int IntKind.i64 (0 : Int))]) []) (show (a + b) = ((do2 s.toList a b).fst) by grind [do2])).trans (congrArg (fun x => Out.val (V.tup [V.t (T.int IntKind.i64 (do2 s.toList a b).fst), V.t (T.int IntKind.i64 x)]) []) (show ((0 : Int)) = ((do2 s.toList a b).snd) by grind [do2])))
    · let t0 : Tp pr := .b (show (s.toList == [(43 : UInt8)]) = false by simpa using hc0)
      by_cases hc1 : s.toList = [(45 : UInt8)]
      · let t1 : Tp pr := .b (show (s.toList == [(45 : UInt8)]) = true by simpa using hc1)
        let t2 : Tp pr := .i (wrap_i64 (a := a - b) (by omega) (by omega))
        exact .tpe [t0, t1, t2] (Out.val (V.tup [V.t (T.int IntKind.i64 (a - b)), V.t (T.int IntKind.i64 (0 : Int))]) []) (by kernel_rfl) ((congrArg (fun x => Out.val (V.tup [V.t (T.int IntKind.i64 x), V.t (T.int IntKind.i64 (0 : Int))]) []) (show (a - b) = ((do2 s.toList a b).fst) by grind [do2])).trans (congrArg (fun x => Out.val (V.tup [V.t (T.int IntKind.i64 (do2 s.toList a b).fst), V.t (T.int IntKind.i64 x)]) []) (show ((0 : Int)) = ((do2 s.toList a b).snd) by grind [do2])))
      · let t1 : Tp pr := .b (show (s.toList == [(45 : UInt8)]) = false by simpa using hc1)
        by_cases hc2 : s.toList = [(42 : UInt8)]
        · let t2 : Tp pr := .b (show (s.toList == [(42 : UInt8)]) = true by simpa using hc2)
          let t3 : Tp pr := .i (wrap_i64 (a := a * b) (by omega) (by omega))
          exact .tpe [t0, t1, t2, t3] (Out.val (V.tup [V.t (T.int IntKind.i64 (a * b)), V.t (T.int IntKind.i64 (0 : Int))]) []) (by kernel_rfl) ((congrArg (fun x => Out.val (V.tup [V.t (T.int IntKind.i64 x), V.t (T.int IntKind.i64 (0 : Int))]) []) (show (a * b) = ((do2 s.toList a b).fst) by grind [do2])).trans (congrArg (fun x => Out.val (V.tup [V.t (T.int IntKind.i64 (do2 s.toList a b).fst), V.t (T.int IntKind.i64 x)]) []) (show ((0 : Int)) = ((do2 s.toList a b).snd) by grind [do2])))
        · let t2 : Tp pr := .b (show (s.toList == [(42 : UInt8)]) = false by simpa using hc2)
          by_cases hc3 : s.toList = [(60 : UInt8)]
          · let t3 : Tp pr := .b (show (s.toList == [(60 : UInt8)]) = true by simpa using hc3)
            exact .tpe [t0, t1, t2, t3, .a (l2Truth_ev (decide (a < b)))] (Out.val (V.tup [V.t (T.int IntKind.i64 (tru (decide (a < b)))), V.t (T.int IntKind.i64 (0 : Int))]) []) (by kernel_rfl) ((congrArg (fun x => Out.val (V.tup [V.t (T.int IntKind.i64 x), V.t (T.int IntKind.i64 (0 : Int))]) []) (show (tru (decide (a < b))) = ((do2 s.toList a b).fst) by grind [do2])).trans (congrArg (fun x => Out.val (V.tup [V.t (T.int IntKind.i64 (do2 s.toList a b).fst), V.t (T.int IntKind.i64 x)]) []) (show ((0 : Int)) = ((do2 s.toList a b).snd) by grind [do2])))
          · let t3 : Tp pr := .b (show (s.toList == [(60 : UInt8)]) = false by simpa using hc3)
            by_cases hc4 : s.toList = [(60 : UInt8), (61 : UInt8)]
            · let t4 : Tp pr := .b (show (s.toList == [(60 : UInt8), (61 : UInt8)]) = true by simpa using hc4)
              exact .tpe [t0, t1, t2, t3, t4, .a (l2Truth_ev (decide (a ≤ b)))] (Out.val (V.tup [V.t (T.int IntKind.i64 (tru (decide (a ≤ b)))), V.t (T.int IntKind.i64 (0 : Int))]) []) (by kernel_rfl) ((congrArg (fun x => Out.val (V.tup [V.t (T.int IntKind.i64 x), V.t (T.int IntKind.i64 (0 : Int))]) []) (show (tru (decide (a ≤ b))) = ((do2 s.toList a b).fst) by grind [do2])).trans (congrArg (fun x => Out.val (V.tup [V.t (T.int IntKind.i64 (do2 s.toList a b).fst), V.t (T.int IntKind.i64 x)]) []) (show ((0 : Int)) = ((do2 s.toList a b).snd) by grind [do2])))
            · let t4 : Tp pr := .b (show (s.toList == [(60 : UInt8), (61 : UInt8)]) = false by simpa using hc4)
              by_cases hc5 : s.toList = [(61 : UInt8), (61 : UInt8)]
              · let t5 : Tp pr := .b (show (s.toList == [(61 : UInt8), (61 : UInt8)]) = true by simpa using hc5)
                exact .tpe [t0, t1, t2, t3, t4, t5, .a (l2Truth_ev (decide (a = b)))] (Out.val (V.tup [V.t (T.int IntKind.i64 (tru (decide (a = b)))), V.t (T.int IntKind.i64 (0 : Int))]) []) (by kernel_rfl) ((congrArg (fun x => Out.val (V.tup [V.t (T.int IntKind.i64 x), V.t (T.int IntKind.i64 (0 : Int))]) []) (show (tru (decide (a = b))) = ((do2 s.toList a b).fst) by grind [do2])).trans (congrArg (fun x => Out.val (V.tup [V.t (T.int IntKind.i64 (do2 s.toList a b).fst), V.t (T.int IntKind.i64 x)]) []) (show ((0 : Int)) = ((do2 s.toList a b).snd) by grind [do2])))
              · let t5 : Tp pr := .b (show (s.toList == [(61 : UInt8), (61 : UInt8)]) = false by simpa using hc5)
                by_cases hc6 : s.toList = [(33 : UInt8), (61 : UInt8)]
                · let t6 : Tp pr := .b (show (s.toList == [(33 : UInt8), (61 : UInt8)]) = true by simpa using hc6)
                  exact .tpe [t0, t1, t2, t3, t4, t5, t6, .a (l2Truth_ev (a != b))] (Out.val (V.tup [V.t (T.int IntKind.i64 (tru (a != b))), V.t (T.int IntKind.i64 (0 : Int))]) []) (by kernel_rfl) ((congrArg (fun x => Out.val (V.tup [V.t (T.int IntKind.i64 x), V.t (T.int IntKind.i64 (0 : Int))]) []) (show (tru (a != b)) = ((do2 s.toList a b).fst) by grind [do2])).trans (congrArg (fun x => Out.val (V.tup [V.t (T.int IntKind.i64 (do2 s.toList a b).fst), V.t (T.int IntKind.i64 x)]) []) (show ((0 : Int)) = ((do2 s.toList a b).snd) by grind [do2])))
                · let t6 : Tp pr := .b (show (s.toList == [(33 : UInt8), (61 : UInt8)]) = false by simpa using hc6)
                  by_cases hc7 : s.toList = [(60 : UInt8), (60 : UInt8)]
                  · let t7 : Tp pr := .b (show (s.toList == [(60 : UInt8), (60 : UInt8)]) = true by simpa using hc7)
                    let t8 : Tp pr := .a (l1In_ev (b) ((0 : Int)) ((20 : Int)))
                    let t9 : Tp pr := .b (show (!(decide (b ≥ (0 : Int)) && decide (b ≤ (20 : Int)))) = true by (simp; omega))
                    exact .tpe [t0, t1, t2, t3, t4, t5, t6, t7, t8, t9] (Out.val (V.tup [V.t (T.int IntKind.i64 (0 : Int)), V.t (T.int IntKind.i64 (3 : Int))]) []) (by kernel_rfl) ((congrArg (fun x => Out.val (V.tup [V.t (T.int IntKind.i64 x), V.t (T.int IntKind.i64 (3 : Int))]) []) (show ((0 : Int)) = ((do2 s.toList a b).fst) by grind [do2])).trans (congrArg (fun x => Out.val (V.tup [V.t (T.int IntKind.i64 (do2 s.toList a b).fst), V.t (T.int IntKind.i64 x)]) []) (show ((3 : Int)) = ((do2 s.toList a b).snd) by grind [do2])))
                  · let t7 : Tp pr := .b (show (s.toList == [(60 : UInt8), (60 : UInt8)]) = false by simpa using hc7)
                    let t8 : Tp pr := .b (show (decide (b = (0 : Int))) = false by (simp; omega))
                    by_cases hc9 : s.toList = [(47 : UInt8)]
                    · let t9 : Tp pr := .b (show (s.toList == [(47 : UInt8)]) = true by simpa using hc9)
                      let t10 : Tp pr := .m (show (decide (b ≠ (0 : Int))) = true by (simp; omega))
                      let t11 : Tp pr := .i (wrap_i64 (a := a.tdiv b) (by omega) (by omega))
                      exact .tpe [t0, t1, t2, t3, t4, t5, t6, t7, t8, t9, t10, t11] (Out.val (V.tup [V.t (T.int IntKind.i64 (a.tdiv b)), V.t (T.int IntKind.i64 (0 : Int))]) []) (by kernel_rfl) ((congrArg (fun x => Out.val (V.tup [V.t (T.int IntKind.i64 x), V.t (T.int IntKind.i64 (0 : Int))]) []) (show (a.tdiv b) = ((do2 s.toList a b).fst) by grind [do2])).trans (congrArg (fun x => Out.val (V.tup [V.t (T.int IntKind.i64 (do2 s.toList a b).fst), V.t (T.int IntKind.i64 x)]) []) (show ((0 : Int)) = ((do2 s.toList a b).snd) by grind [do2])))
                    · let t9 : Tp pr := .b (show (s.toList == [(47 : UInt8)]) = false by simpa using hc9)
                      let t10 : Tp pr := .m (show (decide (b ≠ (0 : Int))) = true by (simp; omega))
                      exact .tpe [t0, t1, t2, t3, t4, t5, t6, t7, t8, t9, t10, .i (rfl : (a.tmod b) = _)] (Out.val (V.tup [V.t (T.int IntKind.i64 (a.tmod b)), V.t (T.int IntKind.i64 (0 : Int))]) []) (by kernel_rfl) ((congrArg (fun x => Out.val (V.tup [V.t (T.int IntKind.i64 x), V.t (T.int IntKind.i64 (0 : Int))]) []) (show (a.tmod b) = ((do2 s.toList a b).fst) by grind [do2])).trans (congrArg (fun x => Out.val (V.tup [V.t (T.int IntKind.i64 (do2 s.toList a b).fst), V.t (T.int IntKind.i64 x)]) []) (show ((0 : Int)) = ((do2 s.toList a b).snd) by grind [do2])))
end Go.Ev

/- Numbers of expressions. -/
namespace Go.Ev
set_option linter.unusedVariables false
set_option linter.unusedSimpArgs false
open Go.Proofs
set_option maxRecDepth 100000
set_option linter.unusedVariables false
set_option maxHeartbeats 1000000
attribute [local simp] e0
theorem idxSNL_ev (s : ByteArray) : Ev pr (.loop (lq pr 86 0) (at_ [(0, .t .nils), (1, .t (.str s)), (7, i64 0), (8, i64 0)] [] 0)) (.exit 0 (at_ [] [] 0)) := by
  exact .tp [.b (rfl : false = false)] (by kernel_rfl)
theorem l2EvalN_ev (t : List V) : Ev pr (.loop (lq pr 79 0) (at_ [(2, .t .nils), (3, .ptr 0 1 0 0), (24, .t .nils), (25, i64 0), (26, i64 0)] [.box t] 0)) (.exit 1 (at_ [] [] 0)) := by
  exact .tp [.b (rfl : false = false)] (by kernel_rfl)
theorem idxSN_ev (s : ByteArray) : Ev pr (.call 86 [.t .nils, .t (.str s)] []) (.val (i64 (-1)) []) := by
  let t0 : Tp pr := .i (rfl : ((0 : Int) : Int) = (0 : Int))
  exact .tp [t0, .a (idxSNL_ev (s))] (by kernel_rfl)
theorem eval0_ev : ∀ (e : E), e.ok → Ev pr (.call 66 [.t e.tp, .t .nils, .t .nils] []) (.val (.tup [i64 (ev0 e).1, i64 (ev0 e).2]) [])
  | .num n, h => by
    exact .tp [.b (rfl : true = true)] (by kernel_rfl)
  | .name s, h => by
    have hi := idxSN_ev s
    exact .tp [.b (rfl : false = false), .b (rfl : true = true), .a (hi), .b (rfl : true = true)] (by kernel_rfl)
  | .neg a, h => by
    have ih := eval0_ev a h
    have hb := evalE0_bd h
    have ha := evalE0_bd (e := a) h
    by_cases hc3 : (ev0 a).snd = (0 : Int)
    · let t3 : Tp pr := .b (show ((ev0 a).snd != (0 : Int)) = false by simpa using hc3)
      let t5 : Tp pr := .i (wrap_i64 (a := (0 : Int) - (ev0 a).fst) (by omega) (by omega))
      exact .tpe [.b (rfl : false = false), .b (rfl : false = false), .a (ih), t3, .b (rfl : true = true), t5] (Out.val (V.tup [V.t (T.int IntKind.i64 ((0 : Int) - (ev0 a).fst)), V.t (T.int IntKind.i64 (0 : Int))]) []) (by kernel_rfl) ((congrArg (fun x => Out.val (V.tup [V.t (T.int IntKind.i64 x), V.t (T.int IntKind.i64 (0 : Int))]) []) (show ((0 : Int) - (ev0 a).fst) = ((ev0 a.neg).fst) by simp [evalE, *])).trans (congrArg (fun x => Out.val (V.tup [V.t (T.int IntKind.i64 (ev0 a.neg).fst), V.t (T.int IntKind.i64 x)]) []) (show ((0 : Int)) = ((ev0 a.neg).snd) by simp [evalE, *])))
    · let t3 : Tp pr := .b (show ((ev0 a).snd != (0 : Int)) = true by simpa using hc3)
      exact .tpe [.b (rfl : false = false), .b (rfl : false = false), .a (ih), t3] (Out.val (V.tup [V.t (T.int IntKind.i64 (0 : Int)), V.t (T.int IntKind.i64 (ev0 a).snd)]) []) (by kernel_rfl) ((congrArg (fun x => Out.val (V.tup [V.t (T.int IntKind.i64 x), V.t (T.int IntKind.i64 (ev0 a).snd)]) []) (show ((0 : Int)) = ((ev0 a.neg).fst) by simp [evalE, *])).trans (congrArg (fun x => Out.val (V.tup [V.t (T.int IntKind.i64 (ev0 a.neg).fst), V.t (T.int IntKind.i64 x)]) []) (show ((ev0 a).snd) = ((ev0 a.neg).snd) by simp [evalE, *])))
  | .not a, h => by
    have ih := eval0_ev a h
    have ha := evalE0_bd (e := a) h
    by_cases hc3 : (ev0 a).snd = (0 : Int)
    · let t3 : Tp pr := .b (show ((ev0 a).snd != (0 : Int)) = false by simpa using hc3)
      let t6 : Tp pr := .a (boolNum_ev (decide ((ev0 a).fst = (0 : Int))))
      exact .tpe [.b (rfl : false = false), .b (rfl : false = false), .a (ih), t3, .b (rfl : false = false), .b (rfl : true = true), t6] (Out.val (V.tup [V.t (T.int IntKind.i64 (tru (decide ((ev0 a).fst = (0 : Int))))), V.t (T.int IntKind.i64 (0 : Int))]) []) (by kernel_rfl) ((congrArg (fun x => Out.val (V.tup [V.t (T.int IntKind.i64 x), V.t (T.int IntKind.i64 (0 : Int))]) []) (show (tru (decide ((ev0 a).fst = (0 : Int)))) = ((ev0 a.not).fst) by simp [evalE, *])).trans (congrArg (fun x => Out.val (V.tup [V.t (T.int IntKind.i64 (ev0 a.not).fst), V.t (T.int IntKind.i64 x)]) []) (show ((0 : Int)) = ((ev0 a.not).snd) by simp [evalE, *])))
    · let t3 : Tp pr := .b (show ((ev0 a).snd != (0 : Int)) = true by simpa using hc3)
      exact .tpe [.b (rfl : false = false), .b (rfl : false = false), .a (ih), t3] (Out.val (V.tup [V.t (T.int IntKind.i64 (0 : Int)), V.t (T.int IntKind.i64 (ev0 a).snd)]) []) (by kernel_rfl) ((congrArg (fun x => Out.val (V.tup [V.t (T.int IntKind.i64 x), V.t (T.int IntKind.i64 (ev0 a).snd)]) []) (show ((0 : Int)) = ((ev0 a.not).fst) by simp [evalE, *])).trans (congrArg (fun x => Out.val (V.tup [V.t (T.int IntKind.i64 (ev0 a.not).fst), V.t (T.int IntKind.i64 x)]) []) (show ((ev0 a).snd) = ((ev0 a.not).snd) by simp [evalE, *])))
  | .two s a b, h => by
    have ih := eval0_ev a h.2.1
    have ih2 := eval0_ev b h.2.2
    have ha := evalE0_bd h.2.1
    have hb := evalE0_bd h.2.2
    by_cases hc3 : (ev0 a).snd = (0 : Int)
    · let t3 : Tp pr := .b (show ((ev0 a).snd != (0 : Int)) = false by simpa using hc3)
      by_cases hc6 : s.toList = [(38 : UInt8), (38 : UInt8)]
      · let t6 : Tp pr := .b (show ((E.two s a b).text.toList == [(38 : UInt8), (38 : UInt8)]) = true by simpa using hc6)
        by_cases hc7 : (ev0 a).fst = (0 : Int)
        · let t7 : Tp pr := .b (show (decide ((ev0 a).fst = (0 : Int))) = true by simpa using hc7)
          exact .tpe [.b (rfl : false = false), .b (rfl : false = false), .a (ih), t3, .b (rfl : false = false), .b (rfl : false = false), t6, t7] (Out.val (V.tup [V.t (T.int IntKind.i64 (0 : Int)), V.t (T.int IntKind.i64 (0 : Int))]) []) (by kernel_rfl) ((congrArg (fun x => Out.val (V.tup [V.t (T.int IntKind.i64 x), V.t (T.int IntKind.i64 (0 : Int))]) []) (show ((0 : Int)) = ((ev0 (E.two s a b)).fst) by grind [evalE, E.text])).trans (congrArg (fun x => Out.val (V.tup [V.t (T.int IntKind.i64 (ev0 (E.two s a b)).fst), V.t (T.int IntKind.i64 x)]) []) (show ((0 : Int)) = ((ev0 (E.two s a b)).snd) by grind [evalE, E.text])))
        · let t7 : Tp pr := .b (show (decide ((ev0 a).fst = (0 : Int))) = false by simpa using hc7)
          let t8 : Tp pr := .b (show ((E.two s a b).text.toList == [(124 : UInt8), (124 : UInt8)]) = false by simp [*])
          by_cases hc11 : (ev0 b).snd = (0 : Int)
          · let t11 : Tp pr := .b (show ((ev0 b).snd != (0 : Int)) = false by simpa using hc11)
            let t12 : Tp pr := .b (show ((E.two s a b).text.toList == [(38 : UInt8), (38 : UInt8)]) = true by (simp; omega))
            let t14 : Tp pr := .a (boolNum_ev ((ev0 b).fst != (0 : Int)))
            exact .tpe [.b (rfl : false = false), .b (rfl : false = false), .a (ih), t3, .b (rfl : false = false), .b (rfl : false = false), t6, t7, t8, .b (rfl : false = false), .a (ih2), t11, t12, .b (rfl : true = true), t14] (Out.val (V.tup [V.t (T.int IntKind.i64 (tru ((ev0 b).fst != (0 : Int)))), V.t (T.int IntKind.i64 (0 : Int))]) []) (by kernel_rfl) ((congrArg (fun x => Out.val (V.tup [V.t (T.int IntKind.i64 x), V.t (T.int IntKind.i64 (0 : Int))]) []) (show (tru ((ev0 b).fst != (0 : Int))) = ((ev0 (E.two s a b)).fst) by grind [evalE, E.text])).trans (congrArg (fun x => Out.val (V.tup [V.t (T.int IntKind.i64 (ev0 (E.two s a b)).fst), V.t (T.int IntKind.i64 x)]) []) (show ((0 : Int)) = ((ev0 (E.two s a b)).snd) by grind [evalE, E.text])))
          · let t11 : Tp pr := .b (show ((ev0 b).snd != (0 : Int)) = true by simpa using hc11)
            exact .tpe [.b (rfl : false = false), .b (rfl : false = false), .a (ih), t3, .b (rfl : false = false), .b (rfl : false = false), t6, t7, t8, .b (rfl : false = false), .a (ih2), t11] (Out.val (V.tup [V.t (T.int IntKind.i64 (0 : Int)), V.t (T.int IntKind.i64 (ev0 b).snd)]) []) (by kernel_rfl) ((congrArg (fun x => Out.val (V.tup [V.t (T.int IntKind.i64 x), V.t (T.int IntKind.i64 (ev0 b).snd)]) []) (show ((0 : Int)) = ((ev0 (E.two s a b)).fst) by grind [evalE, E.text])).trans (congrArg (fun x => Out.val (V.tup [V.t (T.int IntKind.i64 (ev0 (E.two s a b)).fst), V.t (T.int IntKind.i64 x)]) []) (show ((ev0 b).snd) = ((ev0 (E.two s a b)).snd) by grind [evalE, E.text])))
      · let t6 : Tp pr := .b (show ((E.two s a b).text.toList == [(38 : UInt8), (38 : UInt8)]) = false by simpa using hc6)
        by_cases hc8 : s.toList = [(124 : UInt8), (124 : UInt8)]
        · let t8 : Tp pr := .b (show ((E.two s a b).text.toList == [(124 : UInt8), (124 : UInt8)]) = true by simpa using hc8)
          by_cases hc9 : (ev0 a).fst = (0 : Int)
          · let t9 : Tp pr := .b (show ((ev0 a).fst != (0 : Int)) = false by simpa using hc9)
            by_cases hc11 : (ev0 b).snd = (0 : Int)
            · let t11 : Tp pr := .b (show ((ev0 b).snd != (0 : Int)) = false by simpa using hc11)
              let t12 : Tp pr := .b (show ((E.two s a b).text.toList == [(38 : UInt8), (38 : UInt8)]) = false by (simp; omega))
              let t13 : Tp pr := .b (show ((E.two s a b).text.toList == [(124 : UInt8), (124 : UInt8)]) = true by (simp; omega))
              let t14 : Tp pr := .a (boolNum_ev ((ev0 b).fst != (0 : Int)))
              exact .tpe [.b (rfl : false = false), .b (rfl : false = false), .a (ih), t3, .b (rfl : false = false), .b (rfl : false = false), t6, .b (rfl : false = false), t8, t9, .a (ih2), t11, t12, t13, t14] (Out.val (V.tup [V.t (T.int IntKind.i64 (tru ((ev0 b).fst != (0 : Int)))), V.t (T.int IntKind.i64 (0 : Int))]) []) (by kernel_rfl) ((congrArg (fun x => Out.val (V.tup [V.t (T.int IntKind.i64 x), V.t (T.int IntKind.i64 (0 : Int))]) []) (show (tru ((ev0 b).fst != (0 : Int))) = ((ev0 (E.two s a b)).fst) by grind [evalE, E.text])).trans (congrArg (fun x => Out.val (V.tup [V.t (T.int IntKind.i64 (ev0 (E.two s a b)).fst), V.t (T.int IntKind.i64 x)]) []) (show ((0 : Int)) = ((ev0 (E.two s a b)).snd) by grind [evalE, E.text])))
            · let t11 : Tp pr := .b (show ((ev0 b).snd != (0 : Int)) = true by simpa using hc11)
              exact .tpe [.b (rfl : false = false), .b (rfl : false = false), .a (ih), t3, .b (rfl : false = false), .b (rfl : false = false), t6, .b (rfl : false = false), t8, t9, .a (ih2), t11] (Out.val (V.tup [V.t (T.int IntKind.i64 (0 : Int)), V.t (T.int IntKind.i64 (ev0 b).snd)]) []) (by kernel_rfl) ((congrArg (fun x => Out.val (V.tup [V.t (T.int IntKind.i64 x), V.t (T.int IntKind.i64 (ev0 b).snd)]) []) (show ((0 : Int)) = ((ev0 (E.two s a b)).fst) by grind [evalE, E.text])).trans (congrArg (fun x => Out.val (V.tup [V.t (T.int IntKind.i64 (ev0 (E.two s a b)).fst), V.t (T.int IntKind.i64 x)]) []) (show ((ev0 b).snd) = ((ev0 (E.two s a b)).snd) by grind [evalE, E.text])))
          · let t9 : Tp pr := .b (show ((ev0 a).fst != (0 : Int)) = true by simpa using hc9)
            exact .tpe [.b (rfl : false = false), .b (rfl : false = false), .a (ih), t3, .b (rfl : false = false), .b (rfl : false = false), t6, .b (rfl : false = false), t8, t9] (Out.val (V.tup [V.t (T.int IntKind.i64 (1 : Int)), V.t (T.int IntKind.i64 (0 : Int))]) []) (by kernel_rfl) ((congrArg (fun x => Out.val (V.tup [V.t (T.int IntKind.i64 x), V.t (T.int IntKind.i64 (0 : Int))]) []) (show ((1 : Int)) = ((ev0 (E.two s a b)).fst) by grind [evalE, E.text])).trans (congrArg (fun x => Out.val (V.tup [V.t (T.int IntKind.i64 (ev0 (E.two s a b)).fst), V.t (T.int IntKind.i64 x)]) []) (show ((0 : Int)) = ((ev0 (E.two s a b)).snd) by grind [evalE, E.text])))
        · let t8 : Tp pr := .b (show ((E.two s a b).text.toList == [(124 : UInt8), (124 : UInt8)]) = false by simpa using hc8)
          by_cases hc11 : (ev0 b).snd = (0 : Int)
          · let t11 : Tp pr := .b (show ((ev0 b).snd != (0 : Int)) = false by simpa using hc11)
            let t12 : Tp pr := .b (show ((E.two s a b).text.toList == [(38 : UInt8), (38 : UInt8)]) = false by (simp; omega))
            let t13 : Tp pr := .b (show ((E.two s a b).text.toList == [(124 : UInt8), (124 : UInt8)]) = false by (simp; omega))
            let t14 : Tp pr := .a (two_ev ((E.two s a b).text) ((ev0 a).fst) ((ev0 b).fst) (by omega) (by omega) (by omega) (by omega))
            exact .tpe [.b (rfl : false = false), .b (rfl : false = false), .a (ih), t3, .b (rfl : false = false), .b (rfl : false = false), t6, .b (rfl : false = false), t8, .b (rfl : false = false), .a (ih2), t11, t12, t13, t14] (Out.val (V.tup [V.t (T.int IntKind.i64 (two2 (E.two s a b).text.toList (ev0 a).fst (ev0 b).fst).fst), V.t (T.int IntKind.i64 (two2 (E.two s a b).text.toList (ev0 a).fst (ev0 b).fst).snd)]) []) (by kernel_rfl) ((congrArg (fun x => Out.val (V.tup [V.t (T.int IntKind.i64 x), V.t (T.int IntKind.i64 (two2 (E.two s a b).text.toList (ev0 a).fst (ev0 b).fst).snd)]) []) (show ((two2 (E.two s a b).text.toList (ev0 a).fst (ev0 b).fst).fst) = ((ev0 (E.two s a b)).fst) by grind [evalE, E.text])).trans (congrArg (fun x => Out.val (V.tup [V.t (T.int IntKind.i64 (ev0 (E.two s a b)).fst), V.t (T.int IntKind.i64 x)]) []) (show ((two2 (E.two s a b).text.toList (ev0 a).fst (ev0 b).fst).snd) = ((ev0 (E.two s a b)).snd) by grind [evalE, E.text])))
          · let t11 : Tp pr := .b (show ((ev0 b).snd != (0 : Int)) = true by simpa using hc11)
            exact .tpe [.b (rfl : false = false), .b (rfl : false = false), .a (ih), t3, .b (rfl : false = false), .b (rfl : false = false), t6, .b (rfl : false = false), t8, .b (rfl : false = false), .a (ih2), t11] (Out.val (V.tup [V.t (T.int IntKind.i64 (0 : Int)), V.t (T.int IntKind.i64 (ev0 b).snd)]) []) (by kernel_rfl) ((congrArg (fun x => Out.val (V.tup [V.t (T.int IntKind.i64 x), V.t (T.int IntKind.i64 (ev0 b).snd)]) []) (show ((0 : Int)) = ((ev0 (E.two s a b)).fst) by grind [evalE, E.text])).trans (congrArg (fun x => Out.val (V.tup [V.t (T.int IntKind.i64 (ev0 (E.two s a b)).fst), V.t (T.int IntKind.i64 x)]) []) (show ((ev0 b).snd) = ((ev0 (E.two s a b)).snd) by grind [evalE, E.text])))
    · let t3 : Tp pr := .b (show ((ev0 a).snd != (0 : Int)) = true by simpa using hc3)
      exact .tpe [.b (rfl : false = false), .b (rfl : false = false), .a (ih), t3] (Out.val (V.tup [V.t (T.int IntKind.i64 (0 : Int)), V.t (T.int IntKind.i64 (ev0 a).snd)]) []) (by kernel_rfl) ((congrArg (fun x => Out.val (V.tup [V.t (T.int IntKind.i64 x), V.t (T.int IntKind.i64 (ev0 a).snd)]) []) (show ((0 : Int)) = ((ev0 (E.two s a b)).fst) by grind [evalE, E.text])).trans (congrArg (fun x => Out.val (V.tup [V.t (T.int IntKind.i64 (ev0 (E.two s a b)).fst), V.t (T.int IntKind.i64 x)]) []) (show ((ev0 a).snd) = ((ev0 (E.two s a b)).snd) by grind [evalE, E.text])))
theorem l2Eval0_ev : ∀ (e : E), e.ok → Ev pr (.call 79 [vs e.ts, .t .nils, .t .nils] []) (.val (.tup [i64 (ev0 e).1, i64 (ev0 e).2]) [])
  | .num n, h => by
    exact .tp [.b (rfl : true = true)] (by kernel_rfl)
  | .name s, h => by
    let t2 : Tp pr := .i (rfl : ((0 : Int) : Int) = (0 : Int))
    let t3 : Tp pr := .a (l2EvalN_ev ([V.t (T.int IntKind.i64 (2 : Int)), V.t (T.int IntKind.i64 (0 : Int)), V.t (T.str (E.name s).text), V.t (T.seq (4 : Nat) [])]))
    exact .tp [.b (rfl : false = false), .b (rfl : true = true), t2, t3] (by kernel_rfl)
  | .neg a, h => by
    have g0 : lkp (E.neg a).kids 0 = some a.ts := rfl
    have ih := l2Eval0_ev a h
    have hb := evalE0_bd h
    have ha := evalE0_bd (e := a) h
    let t2 : Tp pr := .g .row (show (lkp a.neg.kids (0 : Int)) = some (a.ts) from g0)
    by_cases hc4 : (ev0 a).snd = (0 : Int)
    · let t4 : Tp pr := .b (show ((ev0 a).snd != (0 : Int)) = false by simpa using hc4)
      let t6 : Tp pr := .i (wrap_i64 (a := (0 : Int) - (ev0 a).fst) (by omega) (by omega))
      exact .tpe [.b (rfl : false = false), .b (rfl : false = false), t2, .a (ih), t4, .b (rfl : true = true), t6] (Out.val (V.tup [V.t (T.int IntKind.i64 ((0 : Int) - (ev0 a).fst)), V.t (T.int IntKind.i64 (0 : Int))]) []) (by kernel_rfl) ((congrArg (fun x => Out.val (V.tup [V.t (T.int IntKind.i64 x), V.t (T.int IntKind.i64 (0 : Int))]) []) (show ((0 : Int) - (ev0 a).fst) = ((ev0 a.neg).fst) by simp [evalE, *])).trans (congrArg (fun x => Out.val (V.tup [V.t (T.int IntKind.i64 (ev0 a.neg).fst), V.t (T.int IntKind.i64 x)]) []) (show ((0 : Int)) = ((ev0 a.neg).snd) by simp [evalE, *])))
    · let t4 : Tp pr := .b (show ((ev0 a).snd != (0 : Int)) = true by simpa using hc4)
      exact .tpe [.b (rfl : false = false), .b (rfl : false = false), t2, .a (ih), t4] (Out.val (V.tup [V.t (T.int IntKind.i64 (0 : Int)), V.t (T.int IntKind.i64 (ev0 a).snd)]) []) (by kernel_rfl) ((congrArg (fun x => Out.val (V.tup [V.t (T.int IntKind.i64 x), V.t (T.int IntKind.i64 (ev0 a).snd)]) []) (show ((0 : Int)) = ((ev0 a.neg).fst) by simp [evalE, *])).trans (congrArg (fun x => Out.val (V.tup [V.t (T.int IntKind.i64 (ev0 a.neg).fst), V.t (T.int IntKind.i64 x)]) []) (show ((ev0 a).snd) = ((ev0 a.neg).snd) by simp [evalE, *])))
  | .not a, h => by
    have g0 : lkp (E.not a).kids 0 = some a.ts := rfl
    have ih := l2Eval0_ev a h
    have ha := evalE0_bd (e := a) h
    let t2 : Tp pr := .g .row (show (lkp a.not.kids (0 : Int)) = some (a.ts) from g0)
    by_cases hc4 : (ev0 a).snd = (0 : Int)
    · let t4 : Tp pr := .b (show ((ev0 a).snd != (0 : Int)) = false by simpa using hc4)
      let t7 : Tp pr := .a (l2Truth_ev (decide ((ev0 a).fst = (0 : Int))))
      exact .tpe [.b (rfl : false = false), .b (rfl : false = false), t2, .a (ih), t4, .b (rfl : false = false), .b (rfl : true = true), t7] (Out.val (V.tup [V.t (T.int IntKind.i64 (tru (decide ((ev0 a).fst = (0 : Int))))), V.t (T.int IntKind.i64 (0 : Int))]) []) (by kernel_rfl) ((congrArg (fun x => Out.val (V.tup [V.t (T.int IntKind.i64 x), V.t (T.int IntKind.i64 (0 : Int))]) []) (show (tru (decide ((ev0 a).fst = (0 : Int)))) = ((ev0 a.not).fst) by simp [evalE, *])).trans (congrArg (fun x => Out.val (V.tup [V.t (T.int IntKind.i64 (ev0 a.not).fst), V.t (T.int IntKind.i64 x)]) []) (show ((0 : Int)) = ((ev0 a.not).snd) by simp [evalE, *])))
    · let t4 : Tp pr := .b (show ((ev0 a).snd != (0 : Int)) = true by simpa using hc4)
      exact .tpe [.b (rfl : false = false), .b (rfl : false = false), t2, .a (ih), t4] (Out.val (V.tup [V.t (T.int IntKind.i64 (0 : Int)), V.t (T.int IntKind.i64 (ev0 a).snd)]) []) (by kernel_rfl) ((congrArg (fun x => Out.val (V.tup [V.t (T.int IntKind.i64 x), V.t (T.int IntKind.i64 (ev0 a).snd)]) []) (show ((0 : Int)) = ((ev0 a.not).fst) by simp [evalE, *])).trans (congrArg (fun x => Out.val (V.tup [V.t (T.int IntKind.i64 (ev0 a.not).fst), V.t (T.int IntKind.i64 x)]) []) (show ((ev0 a).snd) = ((ev0 a.not).snd) by simp [evalE, *])))
  | .two s a b, h => by
    rw [show (E.two s a b).ts = [.int .i64 5, .int .i64 0, .str s, .seq 4 (E.two s a b).kids] from rfl]
    have g0 : lkp (E.two s a b).kids 0 = some a.ts := rfl
    have g1 : lkp (E.two s a b).kids 1 = some b.ts := rfl
    have ih := l2Eval0_ev a h.2.1
    have ih2 := l2Eval0_ev b h.2.2
    have ha := evalE0_bd h.2.1
    have hb := evalE0_bd h.2.2
    have hd := do2_two s.toList (ev0 a).1 (ev0 b).1 h.1
    have hd : s.toList ≠ [38, 38] → s.toList ≠ [124, 124] → two2 s.toList (ev0 a).1 (ev0 b).1 = outB (do2 s.toList (ev0 a).1 (ev0 b).1) := fun h1 h2 => do2_two _ _ _ h.1 h1 h2 ha.1 ha.2
    let t2 : Tp pr := .g .row (show (lkp (E.two s a b).kids (0 : Int)) = some (a.ts) from g0)
    by_cases hc4 : (ev0 a).snd = (0 : Int)
    · let t4 : Tp pr := .b (show ((ev0 a).snd != (0 : Int)) = false by simpa using hc4)
      by_cases hc7 : s.toList = [(38 : UInt8), (38 : UInt8)]
      · let t7 : Tp pr := .b (show (s.toList == [(38 : UInt8), (38 : UInt8)]) = true by simpa using hc7)
        by_cases hc8 : (ev0 a).fst = (0 : Int)
        · let t8 : Tp pr := .b (show (decide ((ev0 a).fst = (0 : Int))) = true by simpa using hc8)
          exact .tpe [.b (rfl : false = false), .b (rfl : false = false), t2, .a (ih), t4, .b (rfl : false = false), .b (rfl : false = false), t7, t8] (Out.val (V.tup [V.t (T.int IntKind.i64 (0 : Int)), V.t (T.int IntKind.i64 (0 : Int))]) []) (by kernel_rfl) ((congrArg (fun x => Out.val (V.tup [V.t (T.int IntKind.i64 x), V.t (T.int IntKind.i64 (0 : Int))]) []) (show ((0 : Int)) = ((ev0 (E.two s a b)).fst) by grind [evalE, E.text, outB])).trans (congrArg (fun x => Out.val (V.tup [V.t (T.int IntKind.i64 (ev0 (E.two s a b)).fst), V.t (T.int IntKind.i64 x)]) []) (show ((0 : Int)) = ((ev0 (E.two s a b)).snd) by grind [evalE, E.text, outB])))
        · let t8 : Tp pr := .b (show (decide ((ev0 a).fst = (0 : Int))) = false by simpa using hc8)
          let t9 : Tp pr := .b (show (s.toList == [(124 : UInt8), (124 : UInt8)]) = false by simp [*])
          let t11 : Tp pr := .g .row (show (lkp (E.two s a b).kids (1 : Int)) = some (b.ts) from g1)
          by_cases hc13 : (ev0 b).snd = (0 : Int)
          · let t13 : Tp pr := .b (show ((ev0 b).snd != (0 : Int)) = false by simpa using hc13)
            let t14 : Tp pr := .b (show (s.toList == [(38 : UInt8), (38 : UInt8)]) = true by (simp; omega))
            let t16 : Tp pr := .a (l2Truth_ev ((ev0 b).fst != (0 : Int)))
            exact .tpe [.b (rfl : false = false), .b (rfl : false = false), t2, .a (ih), t4, .b (rfl : false = false), .b (rfl : false = false), t7, t8, t9, .b (rfl : false = false), t11, .a (ih2), t13, t14, .b (rfl : true = true), t16] (Out.val (V.tup [V.t (T.int IntKind.i64 (tru ((ev0 b).fst != (0 : Int)))), V.t (T.int IntKind.i64 (0 : Int))]) []) (by kernel_rfl) ((congrArg (fun x => Out.val (V.tup [V.t (T.int IntKind.i64 x), V.t (T.int IntKind.i64 (0 : Int))]) []) (show (tru ((ev0 b).fst != (0 : Int))) = ((ev0 (E.two s a b)).fst) by grind [evalE, E.text, outB])).trans (congrArg (fun x => Out.val (V.tup [V.t (T.int IntKind.i64 (ev0 (E.two s a b)).fst), V.t (T.int IntKind.i64 x)]) []) (show ((0 : Int)) = ((ev0 (E.two s a b)).snd) by grind [evalE, E.text, outB])))
          · let t13 : Tp pr := .b (show ((ev0 b).snd != (0 : Int)) = true by simpa using hc13)
            exact .tpe [.b (rfl : false = false), .b (rfl : false = false), t2, .a (ih), t4, .b (rfl : false = false), .b (rfl : false = false), t7, t8, t9, .b (rfl : false = false), t11, .a (ih2), t13] (Out.val (V.tup [V.t (T.int IntKind.i64 (0 : Int)), V.t (T.int IntKind.i64 (ev0 b).snd)]) []) (by kernel_rfl) ((congrArg (fun x => Out.val (V.tup [V.t (T.int IntKind.i64 x), V.t (T.int IntKind.i64 (ev0 b).snd)]) []) (show ((0 : Int)) = ((ev0 (E.two s a b)).fst) by grind [evalE, E.text, outB])).trans (congrArg (fun x => Out.val (V.tup [V.t (T.int IntKind.i64 (ev0 (E.two s a b)).fst), V.t (T.int IntKind.i64 x)]) []) (show ((ev0 b).snd) = ((ev0 (E.two s a b)).snd) by grind [evalE, E.text, outB])))
      · let t7 : Tp pr := .b (show (s.toList == [(38 : UInt8), (38 : UInt8)]) = false by simpa using hc7)
        by_cases hc9 : s.toList = [(124 : UInt8), (124 : UInt8)]
        · let t9 : Tp pr := .b (show (s.toList == [(124 : UInt8), (124 : UInt8)]) = true by simpa using hc9)
          by_cases hc10 : (ev0 a).fst = (0 : Int)
          · let t10 : Tp pr := .b (show ((ev0 a).fst != (0 : Int)) = false by simpa using hc10)
            let t11 : Tp pr := .g .row (show (lkp (E.two s a b).kids (1 : Int)) = some (b.ts) from g1)
            by_cases hc13 : (ev0 b).snd = (0 : Int)
            · let t13 : Tp pr := .b (show ((ev0 b).snd != (0 : Int)) = false by simpa using hc13)
              let t14 : Tp pr := .b (show (s.toList == [(38 : UInt8), (38 : UInt8)]) = false by (simp; omega))
              let t15 : Tp pr := .b (show (s.toList == [(124 : UInt8), (124 : UInt8)]) = true by (simp; omega))
              let t16 : Tp pr := .a (l2Truth_ev ((ev0 b).fst != (0 : Int)))
              exact .tpe [.b (rfl : false = false), .b (rfl : false = false), t2, .a (ih), t4, .b (rfl : false = false), .b (rfl : false = false), t7, .b (rfl : false = false), t9, t10, t11, .a (ih2), t13, t14, t15, t16] (Out.val (V.tup [V.t (T.int IntKind.i64 (tru ((ev0 b).fst != (0 : Int)))), V.t (T.int IntKind.i64 (0 : Int))]) []) (by kernel_rfl) ((congrArg (fun x => Out.val (V.tup [V.t (T.int IntKind.i64 x), V.t (T.int IntKind.i64 (0 : Int))]) []) (show (tru ((ev0 b).fst != (0 : Int))) = ((ev0 (E.two s a b)).fst) by grind [evalE, E.text, outB])).trans (congrArg (fun x => Out.val (V.tup [V.t (T.int IntKind.i64 (ev0 (E.two s a b)).fst), V.t (T.int IntKind.i64 x)]) []) (show ((0 : Int)) = ((ev0 (E.two s a b)).snd) by grind [evalE, E.text, outB])))
            · let t13 : Tp pr := .b (show ((ev0 b).snd != (0 : Int)) = true by simpa using hc13)
              exact .tpe [.b (rfl : false = false), .b (rfl : false = false), t2, .a (ih), t4, .b (rfl : false = false), .b (rfl : false = false), t7, .b (rfl : false = false), t9, t10, t11, .a (ih2), t13] (Out.val (V.tup [V.t (T.int IntKind.i64 (0 : Int)), V.t (T.int IntKind.i64 (ev0 b).snd)]) []) (by kernel_rfl) ((congrArg (fun x => Out.val (V.tup [V.t (T.int IntKind.i64 x), V.t (T.int IntKind.i64 (ev0 b).snd)]) []) (show ((0 : Int)) = ((ev0 (E.two s a b)).fst) by grind [evalE, E.text, outB])).trans (congrArg (fun x => Out.val (V.tup [V.t (T.int IntKind.i64 (ev0 (E.two s a b)).fst), V.t (T.int IntKind.i64 x)]) []) (show ((ev0 b).snd) = ((ev0 (E.two s a b)).snd) by grind [evalE, E.text, outB])))
          · let t10 : Tp pr := .b (show ((ev0 a).fst != (0 : Int)) = true by simpa using hc10)
            exact .tpe [.b (rfl : false = false), .b (rfl : false = false), t2, .a (ih), t4, .b (rfl : false = false), .b (rfl : false = false), t7, .b (rfl : false = false), t9, t10] (Out.val (V.tup [V.t (T.int IntKind.i64 (1 : Int)), V.t (T.int IntKind.i64 (0 : Int))]) []) (by kernel_rfl) ((congrArg (fun x => Out.val (V.tup [V.t (T.int IntKind.i64 x), V.t (T.int IntKind.i64 (0 : Int))]) []) (show ((1 : Int)) = ((ev0 (E.two s a b)).fst) by grind [evalE, E.text, outB])).trans (congrArg (fun x => Out.val (V.tup [V.t (T.int IntKind.i64 (ev0 (E.two s a b)).fst), V.t (T.int IntKind.i64 x)]) []) (show ((0 : Int)) = ((ev0 (E.two s a b)).snd) by grind [evalE, E.text, outB])))
        · let t9 : Tp pr := .b (show (s.toList == [(124 : UInt8), (124 : UInt8)]) = false by simpa using hc9)
          let t11 : Tp pr := .g .row (show (lkp (E.two s a b).kids (1 : Int)) = some (b.ts) from g1)
          by_cases hc13 : (ev0 b).snd = (0 : Int)
          · let t13 : Tp pr := .b (show ((ev0 b).snd != (0 : Int)) = false by simpa using hc13)
            let t14 : Tp pr := .b (show (s.toList == [(38 : UInt8), (38 : UInt8)]) = false by (simp; omega))
            let t15 : Tp pr := .b (show (s.toList == [(124 : UInt8), (124 : UInt8)]) = false by (simp; omega))
            let t16 : Tp pr := .a (l2Do_ev (s) ((ev0 a).fst) ((ev0 b).fst) (by omega) (by omega) (by omega) (by omega))
            by_cases hc17 : (do2 s.toList (ev0 a).fst (ev0 b).fst).snd = (0 : Int)
            · let t17 : Tp pr := .b (show (decide ((do2 s.toList (ev0 a).fst (ev0 b).fst).snd = (0 : Int))) = true by simpa using hc17)
              let t18 : Tp pr := .a (l2Bound_ev ((do2 s.toList (ev0 a).fst (ev0 b).fst).fst))
              by_cases hc19 : (do2 s.toList (ev0 a).fst (ev0 b).fst).fst < (-1000000000 : Int) ∨ (1000000000 : Int) < (do2 s.toList (ev0 a).fst (ev0 b).fst).fst
              · let t19 : Tp pr := .b (show (!(decide ((do2 s.toList (ev0 a).fst (ev0 b).fst).fst ≥ (-1000000000 : Int)) && decide ((do2 s.toList (ev0 a).fst (ev0 b).fst).fst ≤ (1000000000 : Int)))) = true by simpa using hc19)
                exact .tpe [.b (rfl : false = false), .b (rfl : false = false), t2, .a (ih), t4, .b (rfl : false = false), .b (rfl : false = false), t7, .b (rfl : false = false), t9, .b (rfl : false = false), t11, .a (ih2), t13, t14, t15, t16, t17, t18, t19] (Out.val (V.tup [V.t (T.int IntKind.i64 (0 : Int)), V.t (T.int IntKind.i64 (3 : Int))]) []) (by kernel_rfl) ((congrArg (fun x => Out.val (V.tup [V.t (T.int IntKind.i64 x), V.t (T.int IntKind.i64 (3 : Int))]) []) (show ((0 : Int)) = ((ev0 (E.two s a b)).fst) by grind [evalE, E.text, outB])).trans (congrArg (fun x => Out.val (V.tup [V.t (T.int IntKind.i64 (ev0 (E.two s a b)).fst), V.t (T.int IntKind.i64 x)]) []) (show ((3 : Int)) = ((ev0 (E.two s a b)).snd) by grind [evalE, E.text, outB])))
              · let t19 : Tp pr := .b (show (!(decide ((do2 s.toList (ev0 a).fst (ev0 b).fst).fst ≥ (-1000000000 : Int)) && decide ((do2 s.toList (ev0 a).fst (ev0 b).fst).fst ≤ (1000000000 : Int)))) = false by simpa using hc19)
                exact .tpe [.b (rfl : false = false), .b (rfl : false = false), t2, .a (ih), t4, .b (rfl : false = false), .b (rfl : false = false), t7, .b (rfl : false = false), t9, .b (rfl : false = false), t11, .a (ih2), t13, t14, t15, t16, t17, t18, t19] (Out.val (V.tup [V.t (T.int IntKind.i64 (do2 s.toList (ev0 a).fst (ev0 b).fst).fst), V.t (T.int IntKind.i64 (do2 s.toList (ev0 a).fst (ev0 b).fst).snd)]) []) (by kernel_rfl) ((congrArg (fun x => Out.val (V.tup [V.t (T.int IntKind.i64 x), V.t (T.int IntKind.i64 (do2 s.toList (ev0 a).fst (ev0 b).fst).snd)]) []) (show ((do2 s.toList (ev0 a).fst (ev0 b).fst).fst) = ((ev0 (E.two s a b)).fst) by grind [evalE, E.text, outB])).trans (congrArg (fun x => Out.val (V.tup [V.t (T.int IntKind.i64 (ev0 (E.two s a b)).fst), V.t (T.int IntKind.i64 x)]) []) (show ((do2 s.toList (ev0 a).fst (ev0 b).fst).snd) = ((ev0 (E.two s a b)).snd) by grind [evalE, E.text, outB])))
            · let t17 : Tp pr := .b (show (decide ((do2 s.toList (ev0 a).fst (ev0 b).fst).snd = (0 : Int))) = false by simpa using hc17)
              exact .tpe [.b (rfl : false = false), .b (rfl : false = false), t2, .a (ih), t4, .b (rfl : false = false), .b (rfl : false = false), t7, .b (rfl : false = false), t9, .b (rfl : false = false), t11, .a (ih2), t13, t14, t15, t16, t17, .b (rfl : false = false)] (Out.val (V.tup [V.t (T.int IntKind.i64 (do2 s.toList (ev0 a).fst (ev0 b).fst).fst), V.t (T.int IntKind.i64 (do2 s.toList (ev0 a).fst (ev0 b).fst).snd)]) []) (by kernel_rfl) ((congrArg (fun x => Out.val (V.tup [V.t (T.int IntKind.i64 x), V.t (T.int IntKind.i64 (do2 s.toList (ev0 a).fst (ev0 b).fst).snd)]) []) (show ((do2 s.toList (ev0 a).fst (ev0 b).fst).fst) = ((ev0 (E.two s a b)).fst) by grind [evalE, E.text, outB])).trans (congrArg (fun x => Out.val (V.tup [V.t (T.int IntKind.i64 (ev0 (E.two s a b)).fst), V.t (T.int IntKind.i64 x)]) []) (show ((do2 s.toList (ev0 a).fst (ev0 b).fst).snd) = ((ev0 (E.two s a b)).snd) by grind [evalE, E.text, outB])))
          · let t13 : Tp pr := .b (show ((ev0 b).snd != (0 : Int)) = true by simpa using hc13)
            exact .tpe [.b (rfl : false = false), .b (rfl : false = false), t2, .a (ih), t4, .b (rfl : false = false), .b (rfl : false = false), t7, .b (rfl : false = false), t9, .b (rfl : false = false), t11, .a (ih2), t13] (Out.val (V.tup [V.t (T.int IntKind.i64 (0 : Int)), V.t (T.int IntKind.i64 (ev0 b).snd)]) []) (by kernel_rfl) ((congrArg (fun x => Out.val (V.tup [V.t (T.int IntKind.i64 x), V.t (T.int IntKind.i64 (ev0 b).snd)]) []) (show ((0 : Int)) = ((ev0 (E.two s a b)).fst) by grind [evalE, E.text, outB])).trans (congrArg (fun x => Out.val (V.tup [V.t (T.int IntKind.i64 (ev0 (E.two s a b)).fst), V.t (T.int IntKind.i64 x)]) []) (show ((ev0 b).snd) = ((ev0 (E.two s a b)).snd) by grind [evalE, E.text, outB])))
    · let t4 : Tp pr := .b (show ((ev0 a).snd != (0 : Int)) = true by simpa using hc4)
      exact .tpe [.b (rfl : false = false), .b (rfl : false = false), t2, .a (ih), t4] (Out.val (V.tup [V.t (T.int IntKind.i64 (0 : Int)), V.t (T.int IntKind.i64 (ev0 a).snd)]) []) (by kernel_rfl) ((congrArg (fun x => Out.val (V.tup [V.t (T.int IntKind.i64 x), V.t (T.int IntKind.i64 (ev0 a).snd)]) []) (show ((0 : Int)) = ((ev0 (E.two s a b)).fst) by grind [evalE, E.text, outB])).trans (congrArg (fun x => Out.val (V.tup [V.t (T.int IntKind.i64 (ev0 (E.two s a b)).fst), V.t (T.int IntKind.i64 x)]) []) (show ((ev0 a).snd) = ((ev0 (E.two s a b)).snd) by grind [evalE, E.text, outB])))
end Go.Ev

/- Expressions folded. -/
namespace Go.Ev
set_option linter.unusedVariables false
set_option linter.unusedSimpArgs false
open Go.Proofs
set_option maxRecDepth 100000
set_option linter.unusedVariables false
set_option maxHeartbeats 1000000
attribute [local simp] e0
theorem foldN_ev : Ev pr (.call 59 [.t .nilp] []) (.val (.tup [.t .nilp, bl true]) []) := by
  exact .tp [.b (rfl : true = true)] (by kernel_rfl)
theorem fold_ev : ∀ (e : E), e.ok → Ev pr (.call 59 [.t e.tp] []) (.val (.tup [.t (foldE e).1.tp, bl (foldE e).2]) [])
  | .num n, h => by
    have h1 := eval0_ev (.num n) h
    have e : foldE (.num n) = (.num n, true) := by
      simp only [E.ok] at h
      simp [foldE, foldNum, evalE, h]
    have hv : ev0 (.num n) = (n, 0) := rfl
    simp only [E.ok] at h
    rw [e]
    rw [hv] at h1
    let t9 : Tp pr := .a (within_ev (n) ((0 : Int)) ((999999999 : Int)))
    let t10 : Tp pr := .b (show (decide (n ≥ (0 : Int)) && decide (n ≤ (999999999 : Int))) = true by (simp; omega))
    exact .tp [.b (rfl : false = false), .a (foldN_ev), .a (foldN_ev), .b (rfl : false = false), .b (rfl : false = false), .b (rfl : false = false), .a (h1), .m (rfl : true = true), .b (rfl : true = true), t9, t10] (by kernel_rfl)
  | .name s, h => by
    rw [show foldE (.name s) = (.name s, false) from rfl]
    exact .tp [.b (rfl : false = false), .a (foldN_ev), .a (foldN_ev), .b (rfl : false = false), .b (rfl : false = false), .b (rfl : true = true)] (by kernel_rfl)
  | .neg a, h => by
    have ih := fold_ev a h
    have ho := foldE_ok a h
    rw [show foldE (.neg a) = if (foldE a).2 = true then foldNum (.neg (foldE a).1) else (.neg (foldE a).1, false) from rfl]
    generalize foldE a = p at *
    obtain ⟨a', k⟩ := p
    have h1 := eval0_ev (.neg a') ho
    cases k with
    | false => 
      simp only [Bool.false_eq_true, if_false]
      let t1 : Tp pr := .a (show Ev pr (Q.call (59 : FuncId) [V.t a.tp] []) (Out.val (V.tup [V.t a'.tp, bl false]) []) by simpa only [] using ih)
      exact .tp [.b (rfl : false = false), t1, .a (foldN_ev), .b (rfl : true = true), .b (rfl : true = true), .b (rfl : true = true)] (by kernel_rfl)
    | true =>
      simp only [if_true]
      unfold foldNum
      by_cases hc : (ev0 (.neg a')).2 = 0 ∧ 0 ≤ (ev0 (.neg a')).1 ∧ (ev0 (.neg a')).1 ≤ 999999999
      · rw [if_pos hc]
        let t1 : Tp pr := .a (show Ev pr (Q.call (59 : FuncId) [V.t a.tp] []) (Out.val (V.tup [V.t a'.tp, bl true]) []) by simpa only [] using ih)
        let t8 : Tp pr := .b (show (decide ((ev0 a'.neg).snd = (0 : Int))) = true by (simp; omega))
        let t9 : Tp pr := .a (within_ev ((ev0 a'.neg).fst) ((0 : Int)) ((999999999 : Int)))
        let t10 : Tp pr := .b (show (decide ((ev0 a'.neg).fst ≥ (0 : Int)) && decide ((ev0 a'.neg).fst ≤ (999999999 : Int))) = true by (simp; omega))
        exact .tp [.b (rfl : false = false), t1, .a (foldN_ev), .b (rfl : false = false), .b (rfl : false = false), .b (rfl : false = false), .a (h1), .m (rfl : true = true), t8, t9, t10] (by kernel_rfl)
      · rw [if_neg hc]
        by_cases hc2 : (ev0 (.neg a')).2 = 0
        · have hc3 : ¬ (0 ≤ (ev0 (.neg a')).1 ∧ (ev0 (.neg a')).1 ≤ 999999999) := fun h => hc ⟨hc2, h⟩
          let t1 : Tp pr := .a (show Ev pr (Q.call (59 : FuncId) [V.t a.tp] []) (Out.val (V.tup [V.t a'.tp, bl true]) []) by simpa only [hc, hc2, hc3] using ih)
          let t8 : Tp pr := .b (show (decide ((ev0 a'.neg).snd = (0 : Int))) = true by (simp; omega))
          let t9 : Tp pr := .a (within_ev ((ev0 a'.neg).fst) ((0 : Int)) ((999999999 : Int)))
          let t10 : Tp pr := .b (show (decide ((ev0 a'.neg).fst ≥ (0 : Int)) && decide ((ev0 a'.neg).fst ≤ (999999999 : Int))) = false by (simp; omega))
          exact .tp [.b (rfl : false = false), t1, .a (foldN_ev), .b (rfl : false = false), .b (rfl : false = false), .b (rfl : false = false), .a (h1), .m (rfl : true = true), t8, t9, t10] (by kernel_rfl)
        · let t1 : Tp pr := .a (show Ev pr (Q.call (59 : FuncId) [V.t a.tp] []) (Out.val (V.tup [V.t a'.tp, bl true]) []) by simpa only [hc, hc2] using ih)
          let t8 : Tp pr := .b (show (decide ((ev0 a'.neg).snd = (0 : Int))) = false by (simp; omega))
          exact .tp [.b (rfl : false = false), t1, .a (foldN_ev), .b (rfl : false = false), .b (rfl : false = false), .b (rfl : false = false), .a (h1), .m (rfl : true = true), t8, .b (rfl : false = false)] (by kernel_rfl)
  | .not a, h => by
    have ih := fold_ev a h
    have ho := foldE_ok a h
    rw [show foldE (.not a) = if (foldE a).2 = true then foldNum (.not (foldE a).1) else (.not (foldE a).1, false) from rfl]
    generalize foldE a = p at *
    obtain ⟨a', k⟩ := p
    have h1 := eval0_ev (.not a') ho
    cases k with
    | false => 
      simp only [Bool.false_eq_true, if_false]
      let t1 : Tp pr := .a (show Ev pr (Q.call (59 : FuncId) [V.t a.tp] []) (Out.val (V.tup [V.t a'.tp, bl false]) []) by simpa only [] using ih)
      exact .tp [.b (rfl : false = false), t1, .a (foldN_ev), .b (rfl : true = true), .b (rfl : true = true), .b (rfl : true = true)] (by kernel_rfl)
    | true =>
      simp only [if_true]
      unfold foldNum
      by_cases hc : (ev0 (.not a')).2 = 0 ∧ 0 ≤ (ev0 (.not a')).1 ∧ (ev0 (.not a')).1 ≤ 999999999
      · rw [if_pos hc]
        let t1 : Tp pr := .a (show Ev pr (Q.call (59 : FuncId) [V.t a.tp] []) (Out.val (V.tup [V.t a'.tp, bl true]) []) by simpa only [] using ih)
        let t8 : Tp pr := .b (show (decide ((ev0 a'.not).snd = (0 : Int))) = true by (simp; omega))
        let t9 : Tp pr := .a (within_ev ((ev0 a'.not).fst) ((0 : Int)) ((999999999 : Int)))
        let t10 : Tp pr := .b (show (decide ((ev0 a'.not).fst ≥ (0 : Int)) && decide ((ev0 a'.not).fst ≤ (999999999 : Int))) = true by (simp; omega))
        exact .tp [.b (rfl : false = false), t1, .a (foldN_ev), .b (rfl : false = false), .b (rfl : false = false), .b (rfl : false = false), .a (h1), .m (rfl : true = true), t8, t9, t10] (by kernel_rfl)
      · rw [if_neg hc]
        by_cases hc2 : (ev0 (.not a')).2 = 0
        · have hc3 : ¬ (0 ≤ (ev0 (.not a')).1 ∧ (ev0 (.not a')).1 ≤ 999999999) := fun h => hc ⟨hc2, h⟩
          let t1 : Tp pr := .a (show Ev pr (Q.call (59 : FuncId) [V.t a.tp] []) (Out.val (V.tup [V.t a'.tp, bl true]) []) by simpa only [hc, hc2, hc3] using ih)
          let t8 : Tp pr := .b (show (decide ((ev0 a'.not).snd = (0 : Int))) = true by (simp; omega))
          let t9 : Tp pr := .a (within_ev ((ev0 a'.not).fst) ((0 : Int)) ((999999999 : Int)))
          let t10 : Tp pr := .b (show (decide ((ev0 a'.not).fst ≥ (0 : Int)) && decide ((ev0 a'.not).fst ≤ (999999999 : Int))) = false by (simp; omega))
          exact .tp [.b (rfl : false = false), t1, .a (foldN_ev), .b (rfl : false = false), .b (rfl : false = false), .b (rfl : false = false), .a (h1), .m (rfl : true = true), t8, t9, t10] (by kernel_rfl)
        · let t1 : Tp pr := .a (show Ev pr (Q.call (59 : FuncId) [V.t a.tp] []) (Out.val (V.tup [V.t a'.tp, bl true]) []) by simpa only [hc, hc2] using ih)
          let t8 : Tp pr := .b (show (decide ((ev0 a'.not).snd = (0 : Int))) = false by (simp; omega))
          exact .tp [.b (rfl : false = false), t1, .a (foldN_ev), .b (rfl : false = false), .b (rfl : false = false), .b (rfl : false = false), .a (h1), .m (rfl : true = true), t8, .b (rfl : false = false)] (by kernel_rfl)
  | .two s a b, h => by
    have ih := fold_ev a h.2.1
    have ih2 := fold_ev b h.2.2
    have ho := foldE_ok a h.2.1
    have ho2 := foldE_ok b h.2.2
    have hst := h.1
    rw [show foldE (.two s a b) = if (foldE a).2 = true ∧ (foldE b).2 = true then foldNum (.two s (foldE a).1 (foldE b).1) else (.two s (foldE a).1 (foldE b).1, false) from rfl]
    generalize foldE a = p at *
    obtain ⟨a', k⟩ := p
    generalize foldE b = p2 at *
    obtain ⟨b', k2⟩ := p2
    have h1 := eval0_ev (.two s a' b') ⟨hst, ho, ho2⟩
    cases k with
    | false =>
      simp only [Bool.false_eq_true, false_and, if_false]
      let t1 : Tp pr := .a (show Ev pr (Q.call (59 : FuncId) [V.t a.tp] []) (Out.val (V.tup [V.t a'.tp, bl false]) []) by simpa only [hst] using ih)
      let t2 : Tp pr := .a (show Ev pr (Q.call (59 : FuncId) [V.t b.tp] []) (Out.val (V.tup [V.t b'.tp, bl k2]) []) by simpa only [hst] using ih2)
      exact .tp [.b (rfl : false = false), t1, t2, .b (rfl : true = true), .b (rfl : true = true), .b (rfl : true = true)] (by kernel_rfl)
    | true =>
     cases k2 with
     | false =>
      simp only [Bool.false_eq_true, and_false, if_false]
      let t1 : Tp pr := .a (show Ev pr (Q.call (59 : FuncId) [V.t a.tp] []) (Out.val (V.tup [V.t a'.tp, bl true]) []) by simpa only [hst] using ih)
      let t2 : Tp pr := .a (show Ev pr (Q.call (59 : FuncId) [V.t b.tp] []) (Out.val (V.tup [V.t b'.tp, bl false]) []) by simpa only [hst] using ih2)
      exact .tp [.b (rfl : false = false), t1, t2, .b (rfl : false = false), .b (rfl : true = true), .b (rfl : true = true)] (by kernel_rfl)
     | true =>
      simp only [and_true, if_true]
      unfold foldNum
      by_cases hc : (ev0 (.two s a' b')).2 = 0 ∧ 0 ≤ (ev0 (.two s a' b')).1 ∧ (ev0 (.two s a' b')).1 ≤ 999999999
      · rw [if_pos hc]
        let t1 : Tp pr := .a (show Ev pr (Q.call (59 : FuncId) [V.t a.tp] []) (Out.val (V.tup [V.t a'.tp, bl true]) []) by simpa only [hst] using ih)
        let t2 : Tp pr := .a (show Ev pr (Q.call (59 : FuncId) [V.t b.tp] []) (Out.val (V.tup [V.t b'.tp, bl true]) []) by simpa only [hst] using ih2)
        let t8 : Tp pr := .b (show (decide ((ev0 (E.two s a' b')).snd = (0 : Int))) = true by (simp; omega))
        let t9 : Tp pr := .a (within_ev ((ev0 (E.two s a' b')).fst) ((0 : Int)) ((999999999 : Int)))
        let t10 : Tp pr := .b (show (decide ((ev0 (E.two s a' b')).fst ≥ (0 : Int)) && decide ((ev0 (E.two s a' b')).fst ≤ (999999999 : Int))) = true by (simp; omega))
        exact .tp [.b (rfl : false = false), t1, t2, .b (rfl : false = false), .b (rfl : false = false), .b (rfl : false = false), .a (h1), .m (rfl : true = true), t8, t9, t10] (by kernel_rfl)
      · rw [if_neg hc]
        by_cases hc2 : (ev0 (.two s a' b')).2 = 0
        · have hc3 : ¬ (0 ≤ (ev0 (.two s a' b')).1 ∧ (ev0 (.two s a' b')).1 ≤ 999999999) := fun h => hc ⟨hc2, h⟩
          let t1 : Tp pr := .a (show Ev pr (Q.call (59 : FuncId) [V.t a.tp] []) (Out.val (V.tup [V.t a'.tp, bl true]) []) by simpa only [hst, hc, hc2, hc3] using ih)
          let t2 : Tp pr := .a (show Ev pr (Q.call (59 : FuncId) [V.t b.tp] []) (Out.val (V.tup [V.t b'.tp, bl true]) []) by simpa only [hst, hc, hc2, hc3] using ih2)
          let t8 : Tp pr := .b (show (decide ((ev0 (E.two s a' b')).snd = (0 : Int))) = true by (simp; omega))
          let t9 : Tp pr := .a (within_ev ((ev0 (E.two s a' b')).fst) ((0 : Int)) ((999999999 : Int)))
          let t10 : Tp pr := .b (show (decide ((ev0 (E.two s a' b')).fst ≥ (0 : Int)) && decide ((ev0 (E.two s a' b')).fst ≤ (999999999 : Int))) = false by (simp; omega))
          exact .tp [.b (rfl : false = false), t1, t2, .b (rfl : false = false), .b (rfl : false = false), .b (rfl : false = false), .a (h1), .m (rfl : true = true), t8, t9, t10] (by kernel_rfl)
        · let t1 : Tp pr := .a (show Ev pr (Q.call (59 : FuncId) [V.t a.tp] []) (Out.val (V.tup [V.t a'.tp, bl true]) []) by simpa only [hst, hc, hc2] using ih)
          let t2 : Tp pr := .a (show Ev pr (Q.call (59 : FuncId) [V.t b.tp] []) (Out.val (V.tup [V.t b'.tp, bl true]) []) by simpa only [hst, hc, hc2] using ih2)
          let t8 : Tp pr := .b (show (decide ((ev0 (E.two s a' b')).snd = (0 : Int))) = false by (simp; omega))
          exact .tp [.b (rfl : false = false), t1, t2, .b (rfl : false = false), .b (rfl : false = false), .b (rfl : false = false), .a (h1), .m (rfl : true = true), t8, .b (rfl : false = false)] (by kernel_rfl)
end Go.Ev

/- Expressions folded by the reference. -/
namespace Go.Ev
set_option linter.unusedVariables false
set_option linter.unusedSimpArgs false
open Go.Proofs
set_option maxRecDepth 100000
set_option linter.unusedVariables false
set_option maxHeartbeats 1000000
attribute [local simp] e0
def flObs (k nm : Int) (tx : ByteArray) (ks : List (List T)) : List Ob := [Ob.box [i64 0, i64 0, V.t (T.str (ByteArray.mk #[])), V.t T.nils], Ob.box [i64 k, i64 nm, V.t (T.str tx), V.vec 2 ks.length 4 0 ks.length], Ob.vec true 4 (ks.map tc)]
def fts (e : E) : List T := (foldE e).1.ts
theorem foldL_ev (k nm : Int) (tx : ByteArray) : ∀ (rest done : List E) (kn : Bool), (∀ e ∈ rest, Ev pr (.call 57 [vs e.ts] []) (.val (vs (foldE e).1.ts) [])) → done.length + rest.length ≤ 2 →
    Ev pr (.loop (lq pr 57 0) (at_ [(2, .ptr 0 1 0 0), (3, .ptr 1 1 0 0), (4, bl kn), (22, .t (.seq 4 ((done ++ rest).map E.ts))), (23, i64 (done.length + rest.length)), (24, i64 done.length)] (flObs k nm tx (done.map fts)) 0))
      (.exit 0 (at_ [(2, .ptr 0 1 0 0), (3, .ptr 1 1 0 0), (4, bl (kn && rest.all fun e => decide ((foldE e).1.kind = 1)))] (flObs k nm tx ((done ++ rest).map fts)) 0))
  | [], done, kn, ih, h => by
    let t0 : Tp pr := .b (show (decide ((↑done.length : Int) < (↑done.length : Int) + (0 : Int))) = false by simp)
    exact .tpe [t0] (Out.exit (0 : Nat) (at_ [((2 : Nat), V.ptr (0 : Nat) (1 : Nat) (0 : Nat) (0 : Nat)), ((3 : Nat), V.ptr (1 : Nat) (1 : Nat) (0 : Nat) (0 : Nat)), ((4 : Nat), V.t (T.bool kn))] [Ob.box [V.t (T.int IntKind.i64 (0 : Int)), V.t (T.int IntKind.i64 (0 : Int)), V.t (T.str (ByteArray.mk #[])), V.t T.nils], Ob.box [V.t (T.int IntKind.i64 k), V.t (T.int IntKind.i64 nm), V.t (T.str tx), V.vec (2 : Nat) (List.map fts done).length (4 : Nat) (0 : Nat) (List.map fts done).length], Ob.vec true (4 : Nat) (List.map tc (List.map fts done))] (0 : Nat))) (by kernel_rfl) ((((congrArg (fun x => Out.exit (0 : Nat) (at_ [((2 : Nat), V.ptr (0 : Nat) (1 : Nat) (0 : Nat) (0 : Nat)), ((3 : Nat), V.ptr (1 : Nat) (1 : Nat) (0 : Nat) (0 : Nat)), ((4 : Nat), V.t (T.bool x))] [Ob.box [V.t (T.int IntKind.i64 (0 : Int)), V.t (T.int IntKind.i64 (0 : Int)), V.t (T.str (ByteArray.mk #[])), V.t T.nils], Ob.box [V.t (T.int IntKind.i64 k), V.t (T.int IntKind.i64 nm), V.t (T.str tx), V.vec (2 : Nat) (List.map fts done).length (4 : Nat) (0 : Nat) (List.map fts done).length], Ob.vec true (4 : Nat) (List.map tc (List.map fts done))] (0 : Nat))) (show (kn) = (kn && true) by simp)).trans (congrArg (fun x => Out.exit (0 : Nat) (at_ [((2 : Nat), V.ptr (0 : Nat) (1 : Nat) (0 : Nat) (0 : Nat)), ((3 : Nat), V.ptr (1 : Nat) (1 : Nat) (0 : Nat) (0 : Nat)), ((4 : Nat), V.t (T.bool (kn && true)))] [Ob.box [V.t (T.int IntKind.i64 (0 : Int)), V.t (T.int IntKind.i64 (0 : Int)), V.t (T.str (ByteArray.mk #[])), V.t T.nils], Ob.box [V.t (T.int IntKind.i64 k), V.t (T.int IntKind.i64 nm), V.t (T.str tx), V.vec (2 : Nat) x (4 : Nat) (0 : Nat) (List.map fts done).length], Ob.vec true (4 : Nat) (List.map tc (List.map fts done))] (0 : Nat))) (show ((List.map fts done).length) = ((List.map fts (done ++ [])).length) by simp))).trans (congrArg (fun x => Out.exit (0 : Nat) (at_ [((2 : Nat), V.ptr (0 : Nat) (1 : Nat) (0 : Nat) (0 : Nat)), ((3 : Nat), V.ptr (1 : Nat) (1 : Nat) (0 : Nat) (0 : Nat)), ((4 : Nat), V.t (T.bool (kn && true)))] [Ob.box [V.t (T.int IntKind.i64 (0 : Int)), V.t (T.int IntKind.i64 (0 : Int)), V.t (T.str (ByteArray.mk #[])), V.t T.nils], Ob.box [V.t (T.int IntKind.i64 k), V.t (T.int IntKind.i64 nm), V.t (T.str tx), V.vec (2 : Nat) (List.map fts (done ++ [])).length (4 : Nat) (0 : Nat) x], Ob.vec true (4 : Nat) (List.map tc (List.map fts done))] (0 : Nat))) (show ((List.map fts done).length) = ((List.map fts (done ++ [])).length) by simp))).trans (congrArg (fun x => Out.exit (0 : Nat) (at_ [((2 : Nat), V.ptr (0 : Nat) (1 : Nat) (0 : Nat) (0 : Nat)), ((3 : Nat), V.ptr (1 : Nat) (1 : Nat) (0 : Nat) (0 : Nat)), ((4 : Nat), V.t (T.bool (kn && true)))] [Ob.box [V.t (T.int IntKind.i64 (0 : Int)), V.t (T.int IntKind.i64 (0 : Int)), V.t (T.str (ByteArray.mk #[])), V.t T.nils], Ob.box [V.t (T.int IntKind.i64 k), V.t (T.int IntKind.i64 nm), V.t (T.str tx), V.vec (2 : Nat) (List.map fts (done ++ [])).length (4 : Nat) (0 : Nat) (List.map fts (done ++ [])).length], Ob.vec true (4 : Nat) x] (0 : Nat))) (show (List.map tc (List.map fts done)) = (List.map tc (List.map fts (done ++ []))) by simp)))
  | e :: rest, done, kn, ih, h => by
    have h1 := ih e (by simp)
    have hg : lkp ((done ++ e :: rest).map E.ts) (done.length : Int) = some e.ts := by simp
    simp at h
    cases kn with
    | false =>
      have h2 := foldL_ev k nm tx rest (done ++ [e]) false (fun x hx => ih x (by simp [hx])) (by simp; omega)
      let t0 : Tp pr := .b (show (decide ((↑done.length : Int) < (↑done.length : Int) + (↑(e :: rest).length : Int))) = true by (simp; omega))
      let t1 : Tp pr := .g .row (show (lkp (List.map E.ts (done ++ e :: rest)) (↑done.length : Int)) = some (e.ts) from hg)
      let t5 : Tp pr := .m (show (decide ((List.map tc (List.map fts done)).length = (List.map fts done).length ∧ (0 : Nat) + (List.map fts done).length ≤ (List.map fts done).length ∧ (List.map fts done).length + (1 : Nat) ≤ (4294967296 : Nat))) = true by (simp; omega))
      let t6 : Tp pr := .b (show (decide ((List.map fts done).length + (1 : Nat) ≤ (List.map fts done).length)) = false by simp)
      let t7 : Tp pr := .c (show ((List.map fts done).length + (1 : Nat) : Nat) = done.length + (1 : Nat) by simp)
      let t8 : Tp pr := .n .crows (show ((List.take (List.map fts done).length (List.map tc (List.map fts done))).append (List.take (1 : Nat) (List.drop (0 : Nat) [[C.t (T.int IntKind.i64 (foldE e).fst.kind), C.t (T.int IntKind.i64 (foldE e).fst.nm), C.t (T.str (foldE e).fst.text), C.t (T.seq (4 : Nat) (foldE e).fst.kids)]]))) = List.map (tc ∘ fts) done ++ [[C.t (T.int IntKind.i64 (foldE e).fst.kind), C.t (T.int IntKind.i64 (foldE e).fst.nm), C.t (T.str (foldE e).fst.text), C.t (T.seq (4 : Nat) (foldE e).fst.kids)]] by simp)
      let t9 : Tp pr := .i (wrap_i64 (a := (↑done.length : Int) + (1 : Int)) (by omega) (by omega))
      let t10 : Tp pr := .a (Ev.castq (((((congrArg (fun x => Q.loop (lq pr (57 : FuncId) (0 : Nat)) (at_ [((2 : Nat), V.ptr (0 : Nat) (1 : Nat) (0 : Nat) (0 : Nat)), ((3 : Nat), V.ptr (1 : Nat) (1 : Nat) (0 : Nat) (0 : Nat)), ((4 : Nat), bl false), ((22 : Nat), V.t (T.seq (4 : Nat) x)), ((23 : Nat), i64 ((↑(done ++ [e]).length : Int) + (↑rest.length : Int))), ((24 : Nat), i64 (↑(done ++ [e]).length : Int))] (flObs k nm tx (List.map fts (done ++ [e]))) (0 : Nat))) (show (List.map E.ts (done ++ [e] ++ rest)) = (List.map E.ts (done ++ e :: rest)) by simp [fts, E.ts, tc])).trans (congrArg (fun x => Q.loop (lq pr (57 : FuncId) (0 : Nat)) (at_ [((2 : Nat), V.ptr (0 : Nat) (1 : Nat) (0 : Nat) (0 : Nat)), ((3 : Nat), V.ptr (1 : Nat) (1 : Nat) (0 : Nat) (0 : Nat)), ((4 : Nat), bl false), ((22 : Nat), V.t (T.seq (4 : Nat) (List.map E.ts (done ++ e :: rest)))), ((23 : Nat), i64 x), ((24 : Nat), i64 (↑(done ++ [e]).length : Int))] (flObs k nm tx (List.map fts (done ++ [e]))) (0 : Nat))) (show ((↑(done ++ [e]).length : Int) + (↑rest.length : Int)) = ((↑done.length : Int) + (↑(e :: rest).length : Int)) by (simp; omega)))).trans (congrArg (fun x => Q.loop (lq pr (57 : FuncId) (0 : Nat)) (at_ [((2 : Nat), V.ptr (0 : Nat) (1 : Nat) (0 : Nat) (0 : Nat)), ((3 : Nat), V.ptr (1 : Nat) (1 : Nat) (0 : Nat) (0 : Nat)), ((4 : Nat), bl false), ((22 : Nat), V.t (T.seq (4 : Nat) (List.map E.ts (done ++ e :: rest)))), ((23 : Nat), i64 ((↑done.length : Int) + (↑(e :: rest).length : Int))), ((24 : Nat), i64 x)] (flObs k nm tx (List.map fts (done ++ [e]))) (0 : Nat))) (show ((↑(done ++ [e]).length : Int)) = ((↑done.length : Int) + (1 : Int)) by simp [fts, E.ts, tc]))).trans (congrArg (fun x => Q.loop (lq pr (57 : FuncId) (0 : Nat)) (at_ [((2 : Nat), V.ptr (0 : Nat) (1 : Nat) (0 : Nat) (0 : Nat)), ((3 : Nat), V.ptr (1 : Nat) (1 : Nat) (0 : Nat) (0 : Nat)), ((4 : Nat), V.t (T.bool false)), ((22 : Nat), V.t (T.seq (4 : Nat) (List.map E.ts (done ++ e :: rest)))), ((23 : Nat), V.t (T.int IntKind.i64 ((↑done.length : Int) + (↑(e :: rest).length : Int)))), ((24 : Nat), V.t (T.int IntKind.i64 ((↑done.length : Int) + (1 : Int))))] [Ob.box [V.t (T.int IntKind.i64 (0 : Int)), V.t (T.int IntKind.i64 (0 : Int)), V.t (T.str (ByteArray.mk #[])), V.t T.nils], Ob.box [V.t (T.int IntKind.i64 k), V.t (T.int IntKind.i64 nm), V.t (T.str tx), V.vec (2 : Nat) x (4 : Nat) (0 : Nat) x], Ob.vec true (4 : Nat) (List.map tc (List.map fts (done ++ [e])))] (0 : Nat))) (show ((List.map fts (done ++ [e])).length) = (done.length + (1 : Nat)) by simp [fts, E.ts, tc]))).trans (congrArg (fun x => Q.loop (lq pr (57 : FuncId) (0 : Nat)) (at_ [((2 : Nat), V.ptr (0 : Nat) (1 : Nat) (0 : Nat) (0 : Nat)), ((3 : Nat), V.ptr (1 : Nat) (1 : Nat) (0 : Nat) (0 : Nat)), ((4 : Nat), V.t (T.bool false)), ((22 : Nat), V.t (T.seq (4 : Nat) (List.map E.ts (done ++ e :: rest)))), ((23 : Nat), V.t (T.int IntKind.i64 ((↑done.length : Int) + (↑(e :: rest).length : Int)))), ((24 : Nat), V.t (T.int IntKind.i64 ((↑done.length : Int) + (1 : Int))))] [Ob.box [V.t (T.int IntKind.i64 (0 : Int)), V.t (T.int IntKind.i64 (0 : Int)), V.t (T.str (ByteArray.mk #[])), V.t T.nils], Ob.box [V.t (T.int IntKind.i64 k), V.t (T.int IntKind.i64 nm), V.t (T.str tx), V.vec (2 : Nat) (done.length + (1 : Nat)) (4 : Nat) (0 : Nat) (done.length + (1 : Nat))], Ob.vec true (4 : Nat) x] (0 : Nat))) (show (List.map tc (List.map fts (done ++ [e]))) = ((List.map (tc ∘ fts) done).append [[C.t (T.int IntKind.i64 (foldE e).fst.kind), C.t (T.int IntKind.i64 (foldE e).fst.nm), C.t (T.str (foldE e).fst.text), C.t (T.seq (4 : Nat) (foldE e).fst.kids)]]) by simp [fts, E.ts, tc]))) (h2))
      exact .tpe [t0, t1, .a (ih (e) (by simp)), .b (rfl : false = false), .m (rfl : true = true), t5, t6, t7, t8, t9, t10] (Out.exit (0 : Nat) (at_ [((2 : Nat), V.ptr (0 : Nat) (1 : Nat) (0 : Nat) (0 : Nat)), ((3 : Nat), V.ptr (1 : Nat) (1 : Nat) (0 : Nat) (0 : Nat)), ((4 : Nat), V.t (T.bool false))] [Ob.box [V.t (T.int IntKind.i64 (0 : Int)), V.t (T.int IntKind.i64 (0 : Int)), V.t (T.str (ByteArray.mk #[])), V.t T.nils], Ob.box [V.t (T.int IntKind.i64 k), V.t (T.int IntKind.i64 nm), V.t (T.str tx), V.vec (2 : Nat) (List.map fts (done ++ [e] ++ rest)).length (4 : Nat) (0 : Nat) (List.map fts (done ++ [e] ++ rest)).length], Ob.vec true (4 : Nat) (List.map tc (List.map fts (done ++ [e] ++ rest)))] (0 : Nat))) (by kernel_rfl) (((congrArg (fun x => Out.exit (0 : Nat) (at_ [((2 : Nat), V.ptr (0 : Nat) (1 : Nat) (0 : Nat) (0 : Nat)), ((3 : Nat), V.ptr (1 : Nat) (1 : Nat) (0 : Nat) (0 : Nat)), ((4 : Nat), V.t (T.bool false))] [Ob.box [V.t (T.int IntKind.i64 (0 : Int)), V.t (T.int IntKind.i64 (0 : Int)), V.t (T.str (ByteArray.mk #[])), V.t T.nils], Ob.box [V.t (T.int IntKind.i64 k), V.t (T.int IntKind.i64 nm), V.t (T.str tx), V.vec (2 : Nat) x (4 : Nat) (0 : Nat) (List.map fts (done ++ [e] ++ rest)).length], Ob.vec true (4 : Nat) (List.map tc (List.map fts (done ++ [e] ++ rest)))] (0 : Nat))) (show ((List.map fts (done ++ [e] ++ rest)).length) = ((List.map fts (done ++ e :: rest)).length) by simp [fts, E.ts, tc])).trans (congrArg (fun x => Out.exit (0 : Nat) (at_ [((2 : Nat), V.ptr (0 : Nat) (1 : Nat) (0 : Nat) (0 : Nat)), ((3 : Nat), V.ptr (1 : Nat) (1 : Nat) (0 : Nat) (0 : Nat)), ((4 : Nat), V.t (T.bool false))] [Ob.box [V.t (T.int IntKind.i64 (0 : Int)), V.t (T.int IntKind.i64 (0 : Int)), V.t (T.str (ByteArray.mk #[])), V.t T.nils], Ob.box [V.t (T.int IntKind.i64 k), V.t (T.int IntKind.i64 nm), V.t (T.str tx), V.vec (2 : Nat) (List.map fts (done ++ e :: rest)).length (4 : Nat) (0 : Nat) x], Ob.vec true (4 : Nat) (List.map tc (List.map fts (done ++ [e] ++ rest)))] (0 : Nat))) (show ((List.map fts (done ++ [e] ++ rest)).length) = ((List.map fts (done ++ e :: rest)).length) by simp [fts, E.ts, tc]))).trans (congrArg (fun x => Out.exit (0 : Nat) (at_ [((2 : Nat), V.ptr (0 : Nat) (1 : Nat) (0 : Nat) (0 : Nat)), ((3 : Nat), V.ptr (1 : Nat) (1 : Nat) (0 : Nat) (0 : Nat)), ((4 : Nat), V.t (T.bool false))] [Ob.box [V.t (T.int IntKind.i64 (0 : Int)), V.t (T.int IntKind.i64 (0 : Int)), V.t (T.str (ByteArray.mk #[])), V.t T.nils], Ob.box [V.t (T.int IntKind.i64 k), V.t (T.int IntKind.i64 nm), V.t (T.str tx), V.vec (2 : Nat) (List.map fts (done ++ e :: rest)).length (4 : Nat) (0 : Nat) (List.map fts (done ++ e :: rest)).length], Ob.vec true (4 : Nat) x] (0 : Nat))) (show (List.map tc (List.map fts (done ++ [e] ++ rest))) = (List.map tc (List.map fts (done ++ e :: rest))) by simp [fts, E.ts, tc])))
    | true =>
      have h2 := foldL_ev k nm tx rest (done ++ [e]) (decide ((foldE e).1.kind = 1)) (fun x hx => ih x (by simp [hx])) (by simp; omega)
      let t0 : Tp pr := .b (show (decide ((↑done.length : Int) < (↑done.length : Int) + (↑(e :: rest).length : Int))) = true by (simp; omega))
      let t1 : Tp pr := .g .row (show (lkp (List.map E.ts (done ++ e :: rest)) (↑done.length : Int)) = some (e.ts) from hg)
      let t5 : Tp pr := .m (show (decide ((List.map tc (List.map fts done)).length = (List.map fts done).length ∧ (0 : Nat) + (List.map fts done).length ≤ (List.map fts done).length ∧ (List.map fts done).length + (1 : Nat) ≤ (4294967296 : Nat))) = true by (simp; omega))
      let t6 : Tp pr := .b (show (decide ((List.map fts done).length + (1 : Nat) ≤ (List.map fts done).length)) = false by simp)
      let t7 : Tp pr := .c (show ((List.map fts done).length + (1 : Nat) : Nat) = done.length + (1 : Nat) by simp)
      let t8 : Tp pr := .n .crows (show ((List.take (List.map fts done).length (List.map tc (List.map fts done))).append (List.take (1 : Nat) (List.drop (0 : Nat) [[C.t (T.int IntKind.i64 (foldE e).fst.kind), C.t (T.int IntKind.i64 (foldE e).fst.nm), C.t (T.str (foldE e).fst.text), C.t (T.seq (4 : Nat) (foldE e).fst.kids)]]))) = List.map (tc ∘ fts) done ++ [[C.t (T.int IntKind.i64 (foldE e).fst.kind), C.t (T.int IntKind.i64 (foldE e).fst.nm), C.t (T.str (foldE e).fst.text), C.t (T.seq (4 : Nat) (foldE e).fst.kids)]] by simp)
      let t9 : Tp pr := .i (wrap_i64 (a := (↑done.length : Int) + (1 : Int)) (by omega) (by omega))
      let t10 : Tp pr := .a (Ev.castq (((((congrArg (fun x => Q.loop (lq pr (57 : FuncId) (0 : Nat)) (at_ [((2 : Nat), V.ptr (0 : Nat) (1 : Nat) (0 : Nat) (0 : Nat)), ((3 : Nat), V.ptr (1 : Nat) (1 : Nat) (0 : Nat) (0 : Nat)), ((4 : Nat), bl (decide ((foldE e).fst.kind = (1 : Int)))), ((22 : Nat), V.t (T.seq (4 : Nat) x)), ((23 : Nat), i64 ((↑(done ++ [e]).length : Int) + (↑rest.length : Int))), ((24 : Nat), i64 (↑(done ++ [e]).length : Int))] (flObs k nm tx (List.map fts (done ++ [e]))) (0 : Nat))) (show (List.map E.ts (done ++ [e] ++ rest)) = (List.map E.ts (done ++ e :: rest)) by simp [fts, E.ts, tc])).trans (congrArg (fun x => Q.loop (lq pr (57 : FuncId) (0 : Nat)) (at_ [((2 : Nat), V.ptr (0 : Nat) (1 : Nat) (0 : Nat) (0 : Nat)), ((3 : Nat), V.ptr (1 : Nat) (1 : Nat) (0 : Nat) (0 : Nat)), ((4 : Nat), bl (decide ((foldE e).fst.kind = (1 : Int)))), ((22 : Nat), V.t (T.seq (4 : Nat) (List.map E.ts (done ++ e :: rest)))), ((23 : Nat), i64 x), ((24 : Nat), i64 (↑(done ++ [e]).length : Int))] (flObs k nm tx (List.map fts (done ++ [e]))) (0 : Nat))) (show ((↑(done ++ [e]).length : Int) + (↑rest.length : Int)) = ((↑done.length : Int) + (↑(e :: rest).length : Int)) by (simp; omega)))).trans (congrArg (fun x => Q.loop (lq pr (57 : FuncId) (0 : Nat)) (at_ [((2 : Nat), V.ptr (0 : Nat) (1 : Nat) (0 : Nat) (0 : Nat)), ((3 : Nat), V.ptr (1 : Nat) (1 : Nat) (0 : Nat) (0 : Nat)), ((4 : Nat), bl (decide ((foldE e).fst.kind = (1 : Int)))), ((22 : Nat), V.t (T.seq (4 : Nat) (List.map E.ts (done ++ e :: rest)))), ((23 : Nat), i64 ((↑done.length : Int) + (↑(e :: rest).length : Int))), ((24 : Nat), i64 x)] (flObs k nm tx (List.map fts (done ++ [e]))) (0 : Nat))) (show ((↑(done ++ [e]).length : Int)) = ((↑done.length : Int) + (1 : Int)) by simp [fts, E.ts, tc]))).trans (congrArg (fun x => Q.loop (lq pr (57 : FuncId) (0 : Nat)) (at_ [((2 : Nat), V.ptr (0 : Nat) (1 : Nat) (0 : Nat) (0 : Nat)), ((3 : Nat), V.ptr (1 : Nat) (1 : Nat) (0 : Nat) (0 : Nat)), ((4 : Nat), V.t (T.bool (decide ((foldE e).fst.kind = (1 : Int))))), ((22 : Nat), V.t (T.seq (4 : Nat) (List.map E.ts (done ++ e :: rest)))), ((23 : Nat), V.t (T.int IntKind.i64 ((↑done.length : Int) + (↑(e :: rest).length : Int)))), ((24 : Nat), V.t (T.int IntKind.i64 ((↑done.length : Int) + (1 : Int))))] [Ob.box [V.t (T.int IntKind.i64 (0 : Int)), V.t (T.int IntKind.i64 (0 : Int)), V.t (T.str (ByteArray.mk #[])), V.t T.nils], Ob.box [V.t (T.int IntKind.i64 k), V.t (T.int IntKind.i64 nm), V.t (T.str tx), V.vec (2 : Nat) x (4 : Nat) (0 : Nat) x], Ob.vec true (4 : Nat) (List.map tc (List.map fts (done ++ [e])))] (0 : Nat))) (show ((List.map fts (done ++ [e])).length) = (done.length + (1 : Nat)) by simp [fts, E.ts, tc]))).trans (congrArg (fun x => Q.loop (lq pr (57 : FuncId) (0 : Nat)) (at_ [((2 : Nat), V.ptr (0 : Nat) (1 : Nat) (0 : Nat) (0 : Nat)), ((3 : Nat), V.ptr (1 : Nat) (1 : Nat) (0 : Nat) (0 : Nat)), ((4 : Nat), V.t (T.bool (decide ((foldE e).fst.kind = (1 : Int))))), ((22 : Nat), V.t (T.seq (4 : Nat) (List.map E.ts (done ++ e :: rest)))), ((23 : Nat), V.t (T.int IntKind.i64 ((↑done.length : Int) + (↑(e :: rest).length : Int)))), ((24 : Nat), V.t (T.int IntKind.i64 ((↑done.length : Int) + (1 : Int))))] [Ob.box [V.t (T.int IntKind.i64 (0 : Int)), V.t (T.int IntKind.i64 (0 : Int)), V.t (T.str (ByteArray.mk #[])), V.t T.nils], Ob.box [V.t (T.int IntKind.i64 k), V.t (T.int IntKind.i64 nm), V.t (T.str tx), V.vec (2 : Nat) (done.length + (1 : Nat)) (4 : Nat) (0 : Nat) (done.length + (1 : Nat))], Ob.vec true (4 : Nat) x] (0 : Nat))) (show (List.map tc (List.map fts (done ++ [e]))) = ((List.map (tc ∘ fts) done).append [[C.t (T.int IntKind.i64 (foldE e).fst.kind), C.t (T.int IntKind.i64 (foldE e).fst.nm), C.t (T.str (foldE e).fst.text), C.t (T.seq (4 : Nat) (foldE e).fst.kids)]]) by simp [fts, E.ts, tc]))) (h2))
      exact .tpe [t0, t1, .a (ih (e) (by simp)), .b (rfl : true = true), .m (rfl : true = true), t5, t6, t7, t8, t9, t10] (Out.exit (0 : Nat) (at_ [((2 : Nat), V.ptr (0 : Nat) (1 : Nat) (0 : Nat) (0 : Nat)), ((3 : Nat), V.ptr (1 : Nat) (1 : Nat) (0 : Nat) (0 : Nat)), ((4 : Nat), V.t (T.bool (decide ((foldE e).fst.kind = (1 : Int)) && rest.all fun e => decide ((foldE e).fst.kind = (1 : Int)))))] [Ob.box [V.t (T.int IntKind.i64 (0 : Int)), V.t (T.int IntKind.i64 (0 : Int)), V.t (T.str (ByteArray.mk #[])), V.t T.nils], Ob.box [V.t (T.int IntKind.i64 k), V.t (T.int IntKind.i64 nm), V.t (T.str tx), V.vec (2 : Nat) (List.map fts (done ++ [e] ++ rest)).length (4 : Nat) (0 : Nat) (List.map fts (done ++ [e] ++ rest)).length], Ob.vec true (4 : Nat) (List.map tc (List.map fts (done ++ [e] ++ rest)))] (0 : Nat))) (by kernel_rfl) ((((congrArg (fun x => Out.exit (0 : Nat) (at_ [((2 : Nat), V.ptr (0 : Nat) (1 : Nat) (0 : Nat) (0 : Nat)), ((3 : Nat), V.ptr (1 : Nat) (1 : Nat) (0 : Nat) (0 : Nat)), ((4 : Nat), V.t (T.bool x))] [Ob.box [V.t (T.int IntKind.i64 (0 : Int)), V.t (T.int IntKind.i64 (0 : Int)), V.t (T.str (ByteArray.mk #[])), V.t T.nils], Ob.box [V.t (T.int IntKind.i64 k), V.t (T.int IntKind.i64 nm), V.t (T.str tx), V.vec (2 : Nat) (List.map fts (done ++ [e] ++ rest)).length (4 : Nat) (0 : Nat) (List.map fts (done ++ [e] ++ rest)).length], Ob.vec true (4 : Nat) (List.map tc (List.map fts (done ++ [e] ++ rest)))] (0 : Nat))) (show (decide ((foldE e).fst.kind = (1 : Int)) && rest.all fun e => decide ((foldE e).fst.kind = (1 : Int))) = (true && (e :: rest).all fun e => decide ((foldE e).fst.kind = (1 : Int))) by simp [fts, E.ts, tc])).trans (congrArg (fun x => Out.exit (0 : Nat) (at_ [((2 : Nat), V.ptr (0 : Nat) (1 : Nat) (0 : Nat) (0 : Nat)), ((3 : Nat), V.ptr (1 : Nat) (1 : Nat) (0 : Nat) (0 : Nat)), ((4 : Nat), V.t (T.bool (true && (e :: rest).all fun e => decide ((foldE e).fst.kind = (1 : Int)))))] [Ob.box [V.t (T.int IntKind.i64 (0 : Int)), V.t (T.int IntKind.i64 (0 : Int)), V.t (T.str (ByteArray.mk #[])), V.t T.nils], Ob.box [V.t (T.int IntKind.i64 k), V.t (T.int IntKind.i64 nm), V.t (T.str tx), V.vec (2 : Nat) x (4 : Nat) (0 : Nat) (List.map fts (done ++ [e] ++ rest)).length], Ob.vec true (4 : Nat) (List.map tc (List.map fts (done ++ [e] ++ rest)))] (0 : Nat))) (show ((List.map fts (done ++ [e] ++ rest)).length) = ((List.map fts (done ++ e :: rest)).length) by simp [fts, E.ts, tc]))).trans (congrArg (fun x => Out.exit (0 : Nat) (at_ [((2 : Nat), V.ptr (0 : Nat) (1 : Nat) (0 : Nat) (0 : Nat)), ((3 : Nat), V.ptr (1 : Nat) (1 : Nat) (0 : Nat) (0 : Nat)), ((4 : Nat), V.t (T.bool (true && (e :: rest).all fun e => decide ((foldE e).fst.kind = (1 : Int)))))] [Ob.box [V.t (T.int IntKind.i64 (0 : Int)), V.t (T.int IntKind.i64 (0 : Int)), V.t (T.str (ByteArray.mk #[])), V.t T.nils], Ob.box [V.t (T.int IntKind.i64 k), V.t (T.int IntKind.i64 nm), V.t (T.str tx), V.vec (2 : Nat) (List.map fts (done ++ e :: rest)).length (4 : Nat) (0 : Nat) x], Ob.vec true (4 : Nat) (List.map tc (List.map fts (done ++ [e] ++ rest)))] (0 : Nat))) (show ((List.map fts (done ++ [e] ++ rest)).length) = ((List.map fts (done ++ e :: rest)).length) by simp [fts, E.ts, tc]))).trans (congrArg (fun x => Out.exit (0 : Nat) (at_ [((2 : Nat), V.ptr (0 : Nat) (1 : Nat) (0 : Nat) (0 : Nat)), ((3 : Nat), V.ptr (1 : Nat) (1 : Nat) (0 : Nat) (0 : Nat)), ((4 : Nat), V.t (T.bool (true && (e :: rest).all fun e => decide ((foldE e).fst.kind = (1 : Int)))))] [Ob.box [V.t (T.int IntKind.i64 (0 : Int)), V.t (T.int IntKind.i64 (0 : Int)), V.t (T.str (ByteArray.mk #[])), V.t T.nils], Ob.box [V.t (T.int IntKind.i64 k), V.t (T.int IntKind.i64 nm), V.t (T.str tx), V.vec (2 : Nat) (List.map fts (done ++ e :: rest)).length (4 : Nat) (0 : Nat) (List.map fts (done ++ e :: rest)).length], Ob.vec true (4 : Nat) x] (0 : Nat))) (show (List.map tc (List.map fts (done ++ [e] ++ rest))) = (List.map tc (List.map fts (done ++ e :: rest))) by simp [fts, E.ts, tc])))
theorem l2Fold_ev : ∀ (e : E), e.ok → Ev pr (.call 57 [vs e.ts] []) (.val (vs (foldE e).1.ts) [])
  | .num n, h => by
    have hL := foldL_ev 1 n e0 [] [] false (fun _ h => by cases h) (by simp)
    have e : foldE (.num n) = (.num n, true) := by
      simp only [E.ok] at h
      simp [foldE, foldNum, evalE, h]
    rw [e]
    let t0 : Tp pr := .i (rfl : ((0 : Int) : Int) = (0 : Int))
    let t1 : Tp pr := .i (rfl : ((0 : Int) : Int) = (0 : Int))
    exact .tp [t0, t1, .a (hL), .b (rfl : false = false), .m (rfl : true = true), .n .rows (rfl : ([]) = _)] (by kernel_rfl)
  | .name s, h => by
    have hL := foldL_ev 2 0 s [] [] false (fun _ h => by cases h) (by simp)
    rw [show foldE (.name s) = (.name s, false) from rfl]
    let t0 : Tp pr := .i (rfl : ((0 : Int) : Int) = (0 : Int))
    let t1 : Tp pr := .i (rfl : ((0 : Int) : Int) = (0 : Int))
    exact .tp [t0, t1, .a (hL), .b (rfl : false = false), .m (rfl : true = true), .n .rows (rfl : ([]) = _)] (by kernel_rfl)
  | .neg a, h => by
    have ih := l2Fold_ev a h
    have ho := foldE_ok a h
    have hk := foldE_kind a h
    have hL := foldL_ev 3 0 e0 [a] [] true (fun x hx => by simp at hx; rw [hx]; exact ih) (by simp)
    rw [show foldE (.neg a) = if (foldE a).2 = true then foldNum (.neg (foldE a).1) else (.neg (foldE a).1, false) from rfl]
    simp only [List.nil_append, List.map_cons, List.map_nil, List.all_cons, List.all_nil, fts, Bool.and_true, Bool.true_and, List.length_cons, List.length_nil] at hL
    generalize foldE a = p at *
    obtain ⟨a', k⟩ := p
    dsimp only at hk hL ih ho
    have h1 := l2Eval0_ev (.neg a') ho
    cases k with
    | false =>
      rw [← hk] at hL
      simp only [Bool.false_eq_true, if_false]
      let t0 : Tp pr := .i (rfl : ((1 : Int) : Int) = (1 : Int))
      let t1 : Tp pr := .i (rfl : ((1 : Int) : Int) = (1 : Int))
      let t5 : Tp pr := .n .rows (show (List.map (fun x => List.map C.fz x) (List.take (1 : Nat) (List.drop (0 : Nat) (List.map tc [[T.int IntKind.i64 a'.kind, T.int IntKind.i64 a'.nm, T.str a'.text, T.seq (4 : Nat) a'.kids]])))) = [[T.int IntKind.i64 a'.kind, T.int IntKind.i64 a'.nm, T.str a'.text, T.seq (4 : Nat) a'.kids]] by simp)
      exact .tp [t0, t1, .a (hL), .b (rfl : false = false), .m (rfl : true = true), t5] (by kernel_rfl)
    | true =>
      rw [← hk] at hL
      simp only [if_true]
      unfold foldNum
      by_cases hc : (ev0 (.neg a')).2 = 0 ∧ 0 ≤ (ev0 (.neg a')).1 ∧ (ev0 (.neg a')).1 ≤ 999999999
      · rw [if_pos hc]
        let t0 : Tp pr := .i (rfl : ((1 : Int) : Int) = (1 : Int))
        let t1 : Tp pr := .i (rfl : ((1 : Int) : Int) = (1 : Int))
        let t5 : Tp pr := .n .rows (show (List.map (fun x => List.map C.fz x) (List.take (1 : Nat) (List.drop (0 : Nat) (List.map tc [[T.int IntKind.i64 a'.kind, T.int IntKind.i64 a'.nm, T.str a'.text, T.seq (4 : Nat) a'.kids]])))) = [[T.int IntKind.i64 a'.kind, T.int IntKind.i64 a'.nm, T.str a'.text, T.seq (4 : Nat) a'.kids]] by simp)
        let t8 : Tp pr := .b (show (decide ((ev0 a'.neg).snd = (0 : Int))) = true by (simp; omega))
        let t9 : Tp pr := .a (l1In_ev ((ev0 a'.neg).fst) ((0 : Int)) ((999999999 : Int)))
        let t10 : Tp pr := .b (show (decide ((ev0 a'.neg).fst ≥ (0 : Int)) && decide ((ev0 a'.neg).fst ≤ (999999999 : Int))) = true by (simp; omega))
        exact .tp [t0, t1, .a (hL), .b (rfl : true = true), .m (rfl : true = true), t5, .a (h1), .m (rfl : true = true), t8, t9, t10] (by kernel_rfl)
      · rw [if_neg hc]
        by_cases hc2 : (ev0 (.neg a')).2 = 0
        · have hc3 : ¬ (0 ≤ (ev0 (.neg a')).1 ∧ (ev0 (.neg a')).1 ≤ 999999999) := fun h => hc ⟨hc2, h⟩
          let t0 : Tp pr := .i (rfl : ((1 : Int) : Int) = (1 : Int))
          let t1 : Tp pr := .i (rfl : ((1 : Int) : Int) = (1 : Int))
          let t5 : Tp pr := .n .rows (show (List.map (fun x => List.map C.fz x) (List.take (1 : Nat) (List.drop (0 : Nat) (List.map tc [[T.int IntKind.i64 a'.kind, T.int IntKind.i64 a'.nm, T.str a'.text, T.seq (4 : Nat) a'.kids]])))) = [[T.int IntKind.i64 a'.kind, T.int IntKind.i64 a'.nm, T.str a'.text, T.seq (4 : Nat) a'.kids]] by simp)
          let t8 : Tp pr := .b (show (decide ((ev0 a'.neg).snd = (0 : Int))) = true by (simp; omega))
          let t9 : Tp pr := .a (l1In_ev ((ev0 a'.neg).fst) ((0 : Int)) ((999999999 : Int)))
          let t10 : Tp pr := .b (show (decide ((ev0 a'.neg).fst ≥ (0 : Int)) && decide ((ev0 a'.neg).fst ≤ (999999999 : Int))) = false by (simp; omega))
          let t12 : Tp pr := .n .rows (show (List.map (fun x => List.map C.fz x) (List.take (1 : Nat) (List.drop (0 : Nat) (List.map tc [[T.int IntKind.i64 a'.kind, T.int IntKind.i64 a'.nm, T.str a'.text, T.seq (4 : Nat) a'.kids]])))) = [[T.int IntKind.i64 a'.kind, T.int IntKind.i64 a'.nm, T.str a'.text, T.seq (4 : Nat) a'.kids]] by simp)
          exact .tp [t0, t1, .a (hL), .b (rfl : true = true), .m (rfl : true = true), t5, .a (h1), .m (rfl : true = true), t8, t9, t10, .m (rfl : true = true), t12] (by kernel_rfl)
        · let t0 : Tp pr := .i (rfl : ((1 : Int) : Int) = (1 : Int))
          let t1 : Tp pr := .i (rfl : ((1 : Int) : Int) = (1 : Int))
          let t5 : Tp pr := .n .rows (show (List.map (fun x => List.map C.fz x) (List.take (1 : Nat) (List.drop (0 : Nat) (List.map tc [[T.int IntKind.i64 a'.kind, T.int IntKind.i64 a'.nm, T.str a'.text, T.seq (4 : Nat) a'.kids]])))) = [[T.int IntKind.i64 a'.kind, T.int IntKind.i64 a'.nm, T.str a'.text, T.seq (4 : Nat) a'.kids]] by simp)
          let t8 : Tp pr := .b (show (decide ((ev0 a'.neg).snd = (0 : Int))) = false by (simp; omega))
          let t11 : Tp pr := .n .rows (show (List.map (fun x => List.map C.fz x) (List.take (1 : Nat) (List.drop (0 : Nat) (List.map tc [[T.int IntKind.i64 a'.kind, T.int IntKind.i64 a'.nm, T.str a'.text, T.seq (4 : Nat) a'.kids]])))) = [[T.int IntKind.i64 a'.kind, T.int IntKind.i64 a'.nm, T.str a'.text, T.seq (4 : Nat) a'.kids]] by simp)
          exact .tp [t0, t1, .a (hL), .b (rfl : true = true), .m (rfl : true = true), t5, .a (h1), .m (rfl : true = true), t8, .b (rfl : false = false), .m (rfl : true = true), t11] (by kernel_rfl)
  | .not a, h => by
    have ih := l2Fold_ev a h
    have ho := foldE_ok a h
    have hk := foldE_kind a h
    have hL := foldL_ev 4 0 e0 [a] [] true (fun x hx => by simp at hx; rw [hx]; exact ih) (by simp)
    rw [show foldE (.not a) = if (foldE a).2 = true then foldNum (.not (foldE a).1) else (.not (foldE a).1, false) from rfl]
    simp only [List.nil_append, List.map_cons, List.map_nil, List.all_cons, List.all_nil, fts, Bool.and_true, Bool.true_and, List.length_cons, List.length_nil] at hL
    generalize foldE a = p at *
    obtain ⟨a', k⟩ := p
    dsimp only at hk hL ih ho
    have h1 := l2Eval0_ev (.not a') ho
    cases k with
    | false =>
      rw [← hk] at hL
      simp only [Bool.false_eq_true, if_false]
      let t0 : Tp pr := .i (rfl : ((1 : Int) : Int) = (1 : Int))
      let t1 : Tp pr := .i (rfl : ((1 : Int) : Int) = (1 : Int))
      let t5 : Tp pr := .n .rows (show (List.map (fun x => List.map C.fz x) (List.take (1 : Nat) (List.drop (0 : Nat) (List.map tc [[T.int IntKind.i64 a'.kind, T.int IntKind.i64 a'.nm, T.str a'.text, T.seq (4 : Nat) a'.kids]])))) = [[T.int IntKind.i64 a'.kind, T.int IntKind.i64 a'.nm, T.str a'.text, T.seq (4 : Nat) a'.kids]] by simp)
      exact .tp [t0, t1, .a (hL), .b (rfl : false = false), .m (rfl : true = true), t5] (by kernel_rfl)
    | true =>
      rw [← hk] at hL
      simp only [if_true]
      unfold foldNum
      by_cases hc : (ev0 (.not a')).2 = 0 ∧ 0 ≤ (ev0 (.not a')).1 ∧ (ev0 (.not a')).1 ≤ 999999999
      · rw [if_pos hc]
        let t0 : Tp pr := .i (rfl : ((1 : Int) : Int) = (1 : Int))
        let t1 : Tp pr := .i (rfl : ((1 : Int) : Int) = (1 : Int))
        let t5 : Tp pr := .n .rows (show (List.map (fun x => List.map C.fz x) (List.take (1 : Nat) (List.drop (0 : Nat) (List.map tc [[T.int IntKind.i64 a'.kind, T.int IntKind.i64 a'.nm, T.str a'.text, T.seq (4 : Nat) a'.kids]])))) = [[T.int IntKind.i64 a'.kind, T.int IntKind.i64 a'.nm, T.str a'.text, T.seq (4 : Nat) a'.kids]] by simp)
        let t8 : Tp pr := .b (show (decide ((ev0 a'.not).snd = (0 : Int))) = true by (simp; omega))
        let t9 : Tp pr := .a (l1In_ev ((ev0 a'.not).fst) ((0 : Int)) ((999999999 : Int)))
        let t10 : Tp pr := .b (show (decide ((ev0 a'.not).fst ≥ (0 : Int)) && decide ((ev0 a'.not).fst ≤ (999999999 : Int))) = true by (simp; omega))
        exact .tp [t0, t1, .a (hL), .b (rfl : true = true), .m (rfl : true = true), t5, .a (h1), .m (rfl : true = true), t8, t9, t10] (by kernel_rfl)
      · rw [if_neg hc]
        by_cases hc2 : (ev0 (.not a')).2 = 0
        · have hc3 : ¬ (0 ≤ (ev0 (.not a')).1 ∧ (ev0 (.not a')).1 ≤ 999999999) := fun h => hc ⟨hc2, h⟩
          let t0 : Tp pr := .i (rfl : ((1 : Int) : Int) = (1 : Int))
          let t1 : Tp pr := .i (rfl : ((1 : Int) : Int) = (1 : Int))
          let t5 : Tp pr := .n .rows (show (List.map (fun x => List.map C.fz x) (List.take (1 : Nat) (List.drop (0 : Nat) (List.map tc [[T.int IntKind.i64 a'.kind, T.int IntKind.i64 a'.nm, T.str a'.text, T.seq (4 : Nat) a'.kids]])))) = [[T.int IntKind.i64 a'.kind, T.int IntKind.i64 a'.nm, T.str a'.text, T.seq (4 : Nat) a'.kids]] by simp)
          let t8 : Tp pr := .b (show (decide ((ev0 a'.not).snd = (0 : Int))) = true by (simp; omega))
          let t9 : Tp pr := .a (l1In_ev ((ev0 a'.not).fst) ((0 : Int)) ((999999999 : Int)))
          let t10 : Tp pr := .b (show (decide ((ev0 a'.not).fst ≥ (0 : Int)) && decide ((ev0 a'.not).fst ≤ (999999999 : Int))) = false by (simp; omega))
          let t12 : Tp pr := .n .rows (show (List.map (fun x => List.map C.fz x) (List.take (1 : Nat) (List.drop (0 : Nat) (List.map tc [[T.int IntKind.i64 a'.kind, T.int IntKind.i64 a'.nm, T.str a'.text, T.seq (4 : Nat) a'.kids]])))) = [[T.int IntKind.i64 a'.kind, T.int IntKind.i64 a'.nm, T.str a'.text, T.seq (4 : Nat) a'.kids]] by simp)
          exact .tp [t0, t1, .a (hL), .b (rfl : true = true), .m (rfl : true = true), t5, .a (h1), .m (rfl : true = true), t8, t9, t10, .m (rfl : true = true), t12] (by kernel_rfl)
        · let t0 : Tp pr := .i (rfl : ((1 : Int) : Int) = (1 : Int))
          let t1 : Tp pr := .i (rfl : ((1 : Int) : Int) = (1 : Int))
          let t5 : Tp pr := .n .rows (show (List.map (fun x => List.map C.fz x) (List.take (1 : Nat) (List.drop (0 : Nat) (List.map tc [[T.int IntKind.i64 a'.kind, T.int IntKind.i64 a'.nm, T.str a'.text, T.seq (4 : Nat) a'.kids]])))) = [[T.int IntKind.i64 a'.kind, T.int IntKind.i64 a'.nm, T.str a'.text, T.seq (4 : Nat) a'.kids]] by simp)
          let t8 : Tp pr := .b (show (decide ((ev0 a'.not).snd = (0 : Int))) = false by (simp; omega))
          let t11 : Tp pr := .n .rows (show (List.map (fun x => List.map C.fz x) (List.take (1 : Nat) (List.drop (0 : Nat) (List.map tc [[T.int IntKind.i64 a'.kind, T.int IntKind.i64 a'.nm, T.str a'.text, T.seq (4 : Nat) a'.kids]])))) = [[T.int IntKind.i64 a'.kind, T.int IntKind.i64 a'.nm, T.str a'.text, T.seq (4 : Nat) a'.kids]] by simp)
          exact .tp [t0, t1, .a (hL), .b (rfl : true = true), .m (rfl : true = true), t5, .a (h1), .m (rfl : true = true), t8, .b (rfl : false = false), .m (rfl : true = true), t11] (by kernel_rfl)
  | .two s a b, h => by
    have ih := l2Fold_ev a h.2.1
    have ih2 := l2Fold_ev b h.2.2
    have ho := foldE_ok a h.2.1
    have ho2 := foldE_ok b h.2.2
    have hk := foldE_kind a h.2.1
    have hk2 := foldE_kind b h.2.2
    have hst := h.1
    have hL := foldL_ev 5 0 s [a, b] [] true (fun x hx => by
      simp at hx
      rcases hx with rfl | rfl
      · exact ih
      · exact ih2) (by simp)
    rw [show foldE (.two s a b) = if (foldE a).2 = true ∧ (foldE b).2 = true then foldNum (.two s (foldE a).1 (foldE b).1) else (.two s (foldE a).1 (foldE b).1, false) from rfl]
    simp only [List.nil_append, List.map_cons, List.map_nil, List.all_cons, List.all_nil, fts, Bool.and_true, Bool.true_and, List.length_cons, List.length_nil] at hL
    generalize foldE a = p at *
    obtain ⟨a', k⟩ := p
    generalize foldE b = p2 at *
    obtain ⟨b', k2⟩ := p2
    dsimp only at hk hL ih ho hk2 ih2 ho2
    have h1 := l2Eval0_ev (.two s a' b') ⟨hst, ho, ho2⟩
    cases k with
    | false =>
      rw [← hk, Bool.false_and] at hL
      simp only [Bool.false_eq_true, false_and, if_false]
      let t0 : Tp pr := .i (rfl : ((2 : Int) : Int) = (2 : Int))
      let t1 : Tp pr := .i (rfl : ((2 : Int) : Int) = (2 : Int))
      let t5 : Tp pr := .n .rows (show (List.map (fun x => List.map C.fz x) (List.take (2 : Nat) (List.drop (0 : Nat) (List.map tc [[T.int IntKind.i64 a'.kind, T.int IntKind.i64 a'.nm, T.str a'.text, T.seq (4 : Nat) a'.kids], [T.int IntKind.i64 b'.kind, T.int IntKind.i64 b'.nm, T.str b'.text, T.seq (4 : Nat) b'.kids]])))) = [[T.int IntKind.i64 a'.kind, T.int IntKind.i64 a'.nm, T.str a'.text, T.seq (4 : Nat) a'.kids], [T.int IntKind.i64 b'.kind, T.int IntKind.i64 b'.nm, T.str b'.text, T.seq (4 : Nat) b'.kids]] by simp)
      exact .tp [t0, t1, .a (hL), .b (rfl : false = false), .m (rfl : true = true), t5] (by kernel_rfl)
    | true =>
     rw [← hk, Bool.true_and] at hL
     cases k2 with
     | false =>
      rw [← hk2] at hL
      simp only [Bool.false_eq_true, and_false, if_false]
      let t0 : Tp pr := .i (rfl : ((2 : Int) : Int) = (2 : Int))
      let t1 : Tp pr := .i (rfl : ((2 : Int) : Int) = (2 : Int))
      let t5 : Tp pr := .n .rows (show (List.map (fun x => List.map C.fz x) (List.take (2 : Nat) (List.drop (0 : Nat) (List.map tc [[T.int IntKind.i64 a'.kind, T.int IntKind.i64 a'.nm, T.str a'.text, T.seq (4 : Nat) a'.kids], [T.int IntKind.i64 b'.kind, T.int IntKind.i64 b'.nm, T.str b'.text, T.seq (4 : Nat) b'.kids]])))) = [[T.int IntKind.i64 a'.kind, T.int IntKind.i64 a'.nm, T.str a'.text, T.seq (4 : Nat) a'.kids], [T.int IntKind.i64 b'.kind, T.int IntKind.i64 b'.nm, T.str b'.text, T.seq (4 : Nat) b'.kids]] by simp)
      exact .tp [t0, t1, .a (hL), .b (rfl : false = false), .m (rfl : true = true), t5] (by kernel_rfl)
     | true =>
      rw [← hk2] at hL
      simp only [and_true, if_true]
      unfold foldNum
      by_cases hc : (ev0 (.two s a' b')).2 = 0 ∧ 0 ≤ (ev0 (.two s a' b')).1 ∧ (ev0 (.two s a' b')).1 ≤ 999999999
      · rw [if_pos hc]
        let t0 : Tp pr := .i (rfl : ((2 : Int) : Int) = (2 : Int))
        let t1 : Tp pr := .i (rfl : ((2 : Int) : Int) = (2 : Int))
        let t5 : Tp pr := .n .rows (show (List.map (fun x => List.map C.fz x) (List.take (2 : Nat) (List.drop (0 : Nat) (List.map tc [[T.int IntKind.i64 a'.kind, T.int IntKind.i64 a'.nm, T.str a'.text, T.seq (4 : Nat) a'.kids], [T.int IntKind.i64 b'.kind, T.int IntKind.i64 b'.nm, T.str b'.text, T.seq (4 : Nat) b'.kids]])))) = [[T.int IntKind.i64 a'.kind, T.int IntKind.i64 a'.nm, T.str a'.text, T.seq (4 : Nat) a'.kids], [T.int IntKind.i64 b'.kind, T.int IntKind.i64 b'.nm, T.str b'.text, T.seq (4 : Nat) b'.kids]] by simp)
        let t8 : Tp pr := .b (show (decide ((ev0 (E.two s a' b')).snd = (0 : Int))) = true by (simp; omega))
        let t9 : Tp pr := .a (l1In_ev ((ev0 (E.two s a' b')).fst) ((0 : Int)) ((999999999 : Int)))
        let t10 : Tp pr := .b (show (decide ((ev0 (E.two s a' b')).fst ≥ (0 : Int)) && decide ((ev0 (E.two s a' b')).fst ≤ (999999999 : Int))) = true by (simp; omega))
        exact .tp [t0, t1, .a (hL), .b (rfl : true = true), .m (rfl : true = true), t5, .a (h1), .m (rfl : true = true), t8, t9, t10] (by kernel_rfl)
      · rw [if_neg hc]
        by_cases hc2 : (ev0 (.two s a' b')).2 = 0
        · have hc3 : ¬ (0 ≤ (ev0 (.two s a' b')).1 ∧ (ev0 (.two s a' b')).1 ≤ 999999999) := fun h => hc ⟨hc2, h⟩
          let t0 : Tp pr := .i (rfl : ((2 : Int) : Int) = (2 : Int))
          let t1 : Tp pr := .i (rfl : ((2 : Int) : Int) = (2 : Int))
          let t5 : Tp pr := .n .rows (show (List.map (fun x => List.map C.fz x) (List.take (2 : Nat) (List.drop (0 : Nat) (List.map tc [[T.int IntKind.i64 a'.kind, T.int IntKind.i64 a'.nm, T.str a'.text, T.seq (4 : Nat) a'.kids], [T.int IntKind.i64 b'.kind, T.int IntKind.i64 b'.nm, T.str b'.text, T.seq (4 : Nat) b'.kids]])))) = [[T.int IntKind.i64 a'.kind, T.int IntKind.i64 a'.nm, T.str a'.text, T.seq (4 : Nat) a'.kids], [T.int IntKind.i64 b'.kind, T.int IntKind.i64 b'.nm, T.str b'.text, T.seq (4 : Nat) b'.kids]] by simp)
          let t8 : Tp pr := .b (show (decide ((ev0 (E.two s a' b')).snd = (0 : Int))) = true by (simp; omega))
          let t9 : Tp pr := .a (l1In_ev ((ev0 (E.two s a' b')).fst) ((0 : Int)) ((999999999 : Int)))
          let t10 : Tp pr := .b (show (decide ((ev0 (E.two s a' b')).fst ≥ (0 : Int)) && decide ((ev0 (E.two s a' b')).fst ≤ (999999999 : Int))) = false by (simp; omega))
          let t12 : Tp pr := .n .rows (show (List.map (fun x => List.map C.fz x) (List.take (2 : Nat) (List.drop (0 : Nat) (List.map tc [[T.int IntKind.i64 a'.kind, T.int IntKind.i64 a'.nm, T.str a'.text, T.seq (4 : Nat) a'.kids], [T.int IntKind.i64 b'.kind, T.int IntKind.i64 b'.nm, T.str b'.text, T.seq (4 : Nat) b'.kids]])))) = [[T.int IntKind.i64 a'.kind, T.int IntKind.i64 a'.nm, T.str a'.text, T.seq (4 : Nat) a'.kids], [T.int IntKind.i64 b'.kind, T.int IntKind.i64 b'.nm, T.str b'.text, T.seq (4 : Nat) b'.kids]] by simp)
          exact .tp [t0, t1, .a (hL), .b (rfl : true = true), .m (rfl : true = true), t5, .a (h1), .m (rfl : true = true), t8, t9, t10, .m (rfl : true = true), t12] (by kernel_rfl)
        · let t0 : Tp pr := .i (rfl : ((2 : Int) : Int) = (2 : Int))
          let t1 : Tp pr := .i (rfl : ((2 : Int) : Int) = (2 : Int))
          let t5 : Tp pr := .n .rows (show (List.map (fun x => List.map C.fz x) (List.take (2 : Nat) (List.drop (0 : Nat) (List.map tc [[T.int IntKind.i64 a'.kind, T.int IntKind.i64 a'.nm, T.str a'.text, T.seq (4 : Nat) a'.kids], [T.int IntKind.i64 b'.kind, T.int IntKind.i64 b'.nm, T.str b'.text, T.seq (4 : Nat) b'.kids]])))) = [[T.int IntKind.i64 a'.kind, T.int IntKind.i64 a'.nm, T.str a'.text, T.seq (4 : Nat) a'.kids], [T.int IntKind.i64 b'.kind, T.int IntKind.i64 b'.nm, T.str b'.text, T.seq (4 : Nat) b'.kids]] by simp)
          let t8 : Tp pr := .b (show (decide ((ev0 (E.two s a' b')).snd = (0 : Int))) = false by (simp; omega))
          let t11 : Tp pr := .n .rows (show (List.map (fun x => List.map C.fz x) (List.take (2 : Nat) (List.drop (0 : Nat) (List.map tc [[T.int IntKind.i64 a'.kind, T.int IntKind.i64 a'.nm, T.str a'.text, T.seq (4 : Nat) a'.kids], [T.int IntKind.i64 b'.kind, T.int IntKind.i64 b'.nm, T.str b'.text, T.seq (4 : Nat) b'.kids]])))) = [[T.int IntKind.i64 a'.kind, T.int IntKind.i64 a'.nm, T.str a'.text, T.seq (4 : Nat) a'.kids], [T.int IntKind.i64 b'.kind, T.int IntKind.i64 b'.nm, T.str b'.text, T.seq (4 : Nat) b'.kids]] by simp)
          exact .tp [t0, t1, .a (hL), .b (rfl : true = true), .m (rfl : true = true), t5, .a (h1), .m (rfl : true = true), t8, .b (rfl : false = false), .m (rfl : true = true), t11] (by kernel_rfl)
end Go.Ev

/- The parts of an expression. -/
namespace Go.Ev
set_option linter.unusedVariables false
set_option linter.unusedSimpArgs false
open Go.Proofs
set_option maxRecDepth 100000
set_option linter.unusedVariables false
set_option maxHeartbeats 1000000
attribute [local simp] e0
theorem pL2_ev (x y : T) (m : List Bc) (hm : m.length ≤ 1000000) : Ev pr (.loop (lq pr 60 0) (at_ [(1, .vec 0 (m).length 3 0 (m).length), (31, .vec 1 2 1 0 2), (32, i64 2), (33, i64 2)] [.vec true 3 (bcc (m)), .vec true 1 [[C.t (x)], [C.t (y)]]] 1)) (.exit 0 (at_ [(1, .vec 0 (m).length 3 0 (m).length)] [.vec true 3 (bcc (m))] 1)) := by
  exact .tp [.b (rfl : false = false)] (by kernel_rfl)
theorem pL1n_ev (x : T) (m : List Bc) (hm : m.length ≤ 1000000) : Ev pr (.loop (lq pr 60 0) (at_ [(1, .vec 0 (m).length 3 0 (m).length), (31, .vec 1 2 1 0 2), (32, i64 2), (33, i64 1)] [.vec true 3 (bcc (m)), .vec true 1 [[C.t (x)], [C.t (.nilp)]]] 1)) (.exit 0 (at_ [(1, .vec 0 (m).length 3 0 (m).length)] [.vec true 3 (bcc (m))] 1)) := by
  have h2 := pL2_ev x .nilp m hm
  let t4 : Tp pr := .g .crow (show (some [C.t T.nilp]) = some ([C.t T.nilp]) by simp)
  let t6 : Tp pr := .i (rfl : ((2 : Int) : Int) = (2 : Int))
  exact .tp [.b (rfl : true = true), .m (rfl : true = true), .c (rfl : ((1 : Nat)) = _), .m (rfl : true = true), t4, .b (rfl : false = false), t6, .a (h2)] (by kernel_rfl)
theorem pL1s_ev (x : T) (b : E) (m : List Bc) (hm : m.length + b.size ≤ 1000000) (ih : ∀ m : List Bc, m.length + b.size ≤ 1000000 → Ev pr (.call 60 [.t b.tp, .vec 0 (m).length 3 0 (m).length] [.vec true 3 (bcc (m))]) (.val (.vec 0 (m ++ exb b.parts).length 3 0 (m ++ exb b.parts).length) [.vec true 3 (bcc (m ++ exb b.parts))])) : Ev pr (.loop (lq pr 60 0) (at_ [(1, .vec 0 (m).length 3 0 (m).length), (31, .vec 1 2 1 0 2), (32, i64 2), (33, i64 1)] [.vec true 3 (bcc (m)), .vec true 1 [[C.t (x)], [C.t (b.tp)]]] 1)) (.exit 0 (at_ [(1, .vec 0 (m ++ exb b.parts).length 3 0 (m ++ exb b.parts).length)] [.vec true 3 (bcc (m ++ exb b.parts))] 1)) := by
  have h1 := ih m hm
  have hl := parts_len b
  have h2 := pL2_ev x b.tp (m ++ exb b.parts) (by first | (simp; done) | (simp; omega))
  let t4 : Tp pr := .g .crow (show (some [C.t (T.ptr [T.int IntKind.i64 b.kind, T.int IntKind.i64 b.nm, T.str b.text, b.tab.fst, b.tab.snd] (0 : Nat))]) = some ([C.t (T.ptr [T.int IntKind.i64 b.kind, T.int IntKind.i64 b.nm, T.str b.text, b.tab.fst, b.tab.snd] (0 : Nat))]) by simp)
  let t7 : Tp pr := .i (rfl : ((2 : Int) : Int) = (2 : Int))
  exact .tp [.b (rfl : true = true), .m (rfl : true = true), .c (rfl : ((1 : Nat)) = _), .m (rfl : true = true), t4, .b (rfl : true = true), .a (ih (m) (by assumption)), t7, .a (h2)] (by kernel_rfl)
theorem pL0n_ev (m : List Bc) (hm : m.length ≤ 1000000) : Ev pr (.loop (lq pr 60 0) (at_ [(1, .vec 0 (m).length 3 0 (m).length), (31, .vec 1 2 1 0 2), (32, i64 2), (33, i64 0)] [.vec true 3 (bcc (m)), .vec true 1 [[C.t (.nilp)], [C.t (.nilp)]]] 1)) (.exit 0 (at_ [(1, .vec 0 (m).length 3 0 (m).length)] [.vec true 3 (bcc (m))] 1)) := by
  have h2 := pL1n_ev .nilp m hm
  let t4 : Tp pr := .g .crow (show (some [C.t T.nilp]) = some ([C.t T.nilp]) by simp)
  let t6 : Tp pr := .i (rfl : ((1 : Int) : Int) = (1 : Int))
  exact .tp [.b (rfl : true = true), .m (rfl : true = true), .c (rfl : ((0 : Nat)) = _), .m (rfl : true = true), t4, .b (rfl : false = false), t6, .a (h2)] (by kernel_rfl)
theorem pL0a_ev (a : E) (m : List Bc) (hm : m.length + a.size ≤ 1000000) (ih : ∀ m : List Bc, m.length + a.size ≤ 1000000 → Ev pr (.call 60 [.t a.tp, .vec 0 (m).length 3 0 (m).length] [.vec true 3 (bcc (m))]) (.val (.vec 0 (m ++ exb a.parts).length 3 0 (m ++ exb a.parts).length) [.vec true 3 (bcc (m ++ exb a.parts))])) : Ev pr (.loop (lq pr 60 0) (at_ [(1, .vec 0 (m).length 3 0 (m).length), (31, .vec 1 2 1 0 2), (32, i64 2), (33, i64 0)] [.vec true 3 (bcc (m)), .vec true 1 [[C.t (a.tp)], [C.t (.nilp)]]] 1)) (.exit 0 (at_ [(1, .vec 0 (m ++ exb a.parts).length 3 0 (m ++ exb a.parts).length)] [.vec true 3 (bcc (m ++ exb a.parts))] 1)) := by
  have h1 := ih m hm
  have hl := parts_len a
  have h2 := pL1n_ev a.tp (m ++ exb a.parts) (by first | (simp; done) | (simp; omega))
  let t4 : Tp pr := .g .crow (show (some [C.t (T.ptr [T.int IntKind.i64 a.kind, T.int IntKind.i64 a.nm, T.str a.text, a.tab.fst, a.tab.snd] (0 : Nat))]) = some ([C.t (T.ptr [T.int IntKind.i64 a.kind, T.int IntKind.i64 a.nm, T.str a.text, a.tab.fst, a.tab.snd] (0 : Nat))]) by simp)
  let t7 : Tp pr := .i (rfl : ((1 : Int) : Int) = (1 : Int))
  exact .tp [.b (rfl : true = true), .m (rfl : true = true), .c (rfl : ((0 : Nat)) = _), .m (rfl : true = true), t4, .b (rfl : true = true), .a (ih (m) (by assumption)), t7, .a (h2)] (by kernel_rfl)
theorem pL0b_ev (a b : E) (m : List Bc) (hm : m.length + a.size + b.size ≤ 1000000) (ih : ∀ m : List Bc, m.length + a.size ≤ 1000000 → Ev pr (.call 60 [.t a.tp, .vec 0 (m).length 3 0 (m).length] [.vec true 3 (bcc (m))]) (.val (.vec 0 (m ++ exb a.parts).length 3 0 (m ++ exb a.parts).length) [.vec true 3 (bcc (m ++ exb a.parts))])) (ih2 : ∀ m : List Bc, m.length + b.size ≤ 1000000 → Ev pr (.call 60 [.t b.tp, .vec 0 (m).length 3 0 (m).length] [.vec true 3 (bcc (m))]) (.val (.vec 0 (m ++ exb b.parts).length 3 0 (m ++ exb b.parts).length) [.vec true 3 (bcc (m ++ exb b.parts))])) : Ev pr (.loop (lq pr 60 0) (at_ [(1, .vec 0 (m).length 3 0 (m).length), (31, .vec 1 2 1 0 2), (32, i64 2), (33, i64 0)] [.vec true 3 (bcc (m)), .vec true 1 [[C.t (a.tp)], [C.t (b.tp)]]] 1)) (.exit 0 (at_ [(1, .vec 0 ((m ++ exb a.parts) ++ exb b.parts).length 3 0 ((m ++ exb a.parts) ++ exb b.parts).length)] [.vec true 3 (bcc ((m ++ exb a.parts) ++ exb b.parts))] 1)) := by
  have h1 := ih m (by omega)
  have hl := parts_len a
  have h2 := pL1s_ev a.tp b (m ++ exb a.parts) (by first | (simp; done) | (simp; omega)) ih2
  let t4 : Tp pr := .g .crow (show (some [C.t (T.ptr [T.int IntKind.i64 a.kind, T.int IntKind.i64 a.nm, T.str a.text, a.tab.fst, a.tab.snd] (0 : Nat))]) = some ([C.t (T.ptr [T.int IntKind.i64 a.kind, T.int IntKind.i64 a.nm, T.str a.text, a.tab.fst, a.tab.snd] (0 : Nat))]) by simp)
  let t7 : Tp pr := .i (rfl : ((1 : Int) : Int) = (1 : Int))
  exact .tp [.b (rfl : true = true), .m (rfl : true = true), .c (rfl : ((0 : Nat)) = _), .m (rfl : true = true), t4, .b (rfl : true = true), .a (ih (m) (by omega)), t7, .a (h2)] (by kernel_rfl)
theorem pL2N_ev (x y : T) (m : List Bc) (hm : m.length ≤ 1000000) : Ev pr (.loop (lq pr 60 0) (at_ [(1, .vec 0 (m).length 3 0 (m).length), (31, .vec 1 2 1 0 2), (32, i64 2), (33, i64 2)] [.vec true 3 (bcc (m)), .vec true 1 [[C.t (x)], [C.t (y)]]] 0)) (.exit 0 (at_ [(1, .vec 0 (m).length 3 0 (m).length)] [.vec true 3 (bcc (m))] 0)) := by
  exact .tp [.b (rfl : false = false)] (by kernel_rfl)
theorem pL1nN_ev (x : T) (m : List Bc) (hm : m.length ≤ 1000000) : Ev pr (.loop (lq pr 60 0) (at_ [(1, .vec 0 (m).length 3 0 (m).length), (31, .vec 1 2 1 0 2), (32, i64 2), (33, i64 1)] [.vec true 3 (bcc (m)), .vec true 1 [[C.t (x)], [C.t (.nilp)]]] 0)) (.exit 0 (at_ [(1, .vec 0 (m).length 3 0 (m).length)] [.vec true 3 (bcc (m))] 0)) := by
  have h2 := pL2N_ev x .nilp m hm
  let t4 : Tp pr := .g .crow (show (some [C.t T.nilp]) = some ([C.t T.nilp]) by simp)
  let t6 : Tp pr := .i (rfl : ((2 : Int) : Int) = (2 : Int))
  exact .tp [.b (rfl : true = true), .m (rfl : true = true), .c (rfl : ((1 : Nat)) = _), .m (rfl : true = true), t4, .b (rfl : false = false), t6, .a (h2)] (by kernel_rfl)
theorem pL1sN_ev (x : T) (b : E) (m : List Bc) (hm : m.length + b.size ≤ 1000000) (ih : ∀ m : List Bc, m.length + b.size ≤ 1000000 → Ev pr (.call 60 [.t b.tp, .vec 0 (m).length 3 0 (m).length] [.vec true 3 (bcc (m))]) (.val (.vec 0 (m ++ exb b.parts).length 3 0 (m ++ exb b.parts).length) [.vec true 3 (bcc (m ++ exb b.parts))])) : Ev pr (.loop (lq pr 60 0) (at_ [(1, .vec 0 (m).length 3 0 (m).length), (31, .vec 1 2 1 0 2), (32, i64 2), (33, i64 1)] [.vec true 3 (bcc (m)), .vec true 1 [[C.t (x)], [C.t (b.tp)]]] 0)) (.exit 0 (at_ [(1, .vec 0 (m ++ exb b.parts).length 3 0 (m ++ exb b.parts).length)] [.vec true 3 (bcc (m ++ exb b.parts))] 0)) := by
  have h1 := ih m hm
  have hl := parts_len b
  have h2 := pL2N_ev x b.tp (m ++ exb b.parts) (by first | (simp; done) | (simp; omega))
  let t4 : Tp pr := .g .crow (show (some [C.t (T.ptr [T.int IntKind.i64 b.kind, T.int IntKind.i64 b.nm, T.str b.text, b.tab.fst, b.tab.snd] (0 : Nat))]) = some ([C.t (T.ptr [T.int IntKind.i64 b.kind, T.int IntKind.i64 b.nm, T.str b.text, b.tab.fst, b.tab.snd] (0 : Nat))]) by simp)
  let t7 : Tp pr := .i (rfl : ((2 : Int) : Int) = (2 : Int))
  exact .tp [.b (rfl : true = true), .m (rfl : true = true), .c (rfl : ((1 : Nat)) = _), .m (rfl : true = true), t4, .b (rfl : true = true), .a (ih (m) (by assumption)), t7, .a (h2)] (by kernel_rfl)
theorem pL0nN_ev (m : List Bc) (hm : m.length ≤ 1000000) : Ev pr (.loop (lq pr 60 0) (at_ [(1, .vec 0 (m).length 3 0 (m).length), (31, .vec 1 2 1 0 2), (32, i64 2), (33, i64 0)] [.vec true 3 (bcc (m)), .vec true 1 [[C.t (.nilp)], [C.t (.nilp)]]] 0)) (.exit 0 (at_ [(1, .vec 0 (m).length 3 0 (m).length)] [.vec true 3 (bcc (m))] 0)) := by
  have h2 := pL1nN_ev .nilp m hm
  let t4 : Tp pr := .g .crow (show (some [C.t T.nilp]) = some ([C.t T.nilp]) by simp)
  let t6 : Tp pr := .i (rfl : ((1 : Int) : Int) = (1 : Int))
  exact .tp [.b (rfl : true = true), .m (rfl : true = true), .c (rfl : ((0 : Nat)) = _), .m (rfl : true = true), t4, .b (rfl : false = false), t6, .a (h2)] (by kernel_rfl)
theorem pL0aN_ev (a : E) (m : List Bc) (hm : m.length + a.size ≤ 1000000) (ih : ∀ m : List Bc, m.length + a.size ≤ 1000000 → Ev pr (.call 60 [.t a.tp, .vec 0 (m).length 3 0 (m).length] [.vec true 3 (bcc (m))]) (.val (.vec 0 (m ++ exb a.parts).length 3 0 (m ++ exb a.parts).length) [.vec true 3 (bcc (m ++ exb a.parts))])) : Ev pr (.loop (lq pr 60 0) (at_ [(1, .vec 0 (m).length 3 0 (m).length), (31, .vec 1 2 1 0 2), (32, i64 2), (33, i64 0)] [.vec true 3 (bcc (m)), .vec true 1 [[C.t (a.tp)], [C.t (.nilp)]]] 0)) (.exit 0 (at_ [(1, .vec 0 (m ++ exb a.parts).length 3 0 (m ++ exb a.parts).length)] [.vec true 3 (bcc (m ++ exb a.parts))] 0)) := by
  have h1 := ih m hm
  have hl := parts_len a
  have h2 := pL1nN_ev a.tp (m ++ exb a.parts) (by first | (simp; done) | (simp; omega))
  let t4 : Tp pr := .g .crow (show (some [C.t (T.ptr [T.int IntKind.i64 a.kind, T.int IntKind.i64 a.nm, T.str a.text, a.tab.fst, a.tab.snd] (0 : Nat))]) = some ([C.t (T.ptr [T.int IntKind.i64 a.kind, T.int IntKind.i64 a.nm, T.str a.text, a.tab.fst, a.tab.snd] (0 : Nat))]) by simp)
  let t7 : Tp pr := .i (rfl : ((1 : Int) : Int) = (1 : Int))
  exact .tp [.b (rfl : true = true), .m (rfl : true = true), .c (rfl : ((0 : Nat)) = _), .m (rfl : true = true), t4, .b (rfl : true = true), .a (ih (m) (by assumption)), t7, .a (h2)] (by kernel_rfl)
theorem pL0bN_ev (a b : E) (m : List Bc) (hm : m.length + a.size + b.size ≤ 1000000) (ih : ∀ m : List Bc, m.length + a.size ≤ 1000000 → Ev pr (.call 60 [.t a.tp, .vec 0 (m).length 3 0 (m).length] [.vec true 3 (bcc (m))]) (.val (.vec 0 (m ++ exb a.parts).length 3 0 (m ++ exb a.parts).length) [.vec true 3 (bcc (m ++ exb a.parts))])) (ih2 : ∀ m : List Bc, m.length + b.size ≤ 1000000 → Ev pr (.call 60 [.t b.tp, .vec 0 (m).length 3 0 (m).length] [.vec true 3 (bcc (m))]) (.val (.vec 0 (m ++ exb b.parts).length 3 0 (m ++ exb b.parts).length) [.vec true 3 (bcc (m ++ exb b.parts))])) : Ev pr (.loop (lq pr 60 0) (at_ [(1, .vec 0 (m).length 3 0 (m).length), (31, .vec 1 2 1 0 2), (32, i64 2), (33, i64 0)] [.vec true 3 (bcc (m)), .vec true 1 [[C.t (a.tp)], [C.t (b.tp)]]] 0)) (.exit 0 (at_ [(1, .vec 0 ((m ++ exb a.parts) ++ exb b.parts).length 3 0 ((m ++ exb a.parts) ++ exb b.parts).length)] [.vec true 3 (bcc ((m ++ exb a.parts) ++ exb b.parts))] 0)) := by
  have h1 := ih m (by omega)
  have hl := parts_len a
  have h2 := pL1sN_ev a.tp b (m ++ exb a.parts) (by first | (simp; done) | (simp; omega)) ih2
  let t4 : Tp pr := .g .crow (show (some [C.t (T.ptr [T.int IntKind.i64 a.kind, T.int IntKind.i64 a.nm, T.str a.text, a.tab.fst, a.tab.snd] (0 : Nat))]) = some ([C.t (T.ptr [T.int IntKind.i64 a.kind, T.int IntKind.i64 a.nm, T.str a.text, a.tab.fst, a.tab.snd] (0 : Nat))]) by simp)
  let t7 : Tp pr := .i (rfl : ((1 : Int) : Int) = (1 : Int))
  exact .tp [.b (rfl : true = true), .m (rfl : true = true), .c (rfl : ((0 : Nat)) = _), .m (rfl : true = true), t4, .b (rfl : true = true), .a (ih (m) (by omega)), t7, .a (h2)] (by kernel_rfl)
theorem parts_ev : ∀ (e : E) (m : List Bc), m.length + e.size ≤ 1000000 → Ev pr (.call 60 [.t e.tp, .vec 0 (m).length 3 0 (m).length] [.vec true 3 (bcc (m))]) (.val (.vec 0 (m ++ exb e.parts).length 3 0 (m ++ exb e.parts).length) [.vec true 3 (bcc (m ++ exb e.parts))])
  | .num n, m, h => by
    simp only [E.size] at h
    have hl := pL0n_ev (m ++ [⟨1, n, e0⟩]) (by first | (simp; done) | (simp; omega))
    let t1 : Tp pr := .m (show (decide ((bcc m).length = m.length ∧ (0 : Nat) + m.length ≤ m.length ∧ m.length + (1 : Nat) ≤ (4294967296 : Nat))) = true by (simp; omega))
    let t2 : Tp pr := .b (show (decide (m.length + (1 : Nat) ≤ m.length)) = false by simp)
    let t4 : Tp pr := .n .crows (show ((List.take m.length (bcc m)).append (List.take (1 : Nat) (List.drop (0 : Nat) [[C.t (T.int IntKind.i64 (1 : Int)), C.t (T.int IntKind.i64 (E.num n).nm), C.t (T.str (E.num n).text)]]))) = bcc (m ++ [Bc.mk (1 : Int) n (ByteArray.mk #[])]) by simp)
    let t5 : Tp pr := .i (rfl : ((2 : Int) : Int) = (2 : Int))
    let t6 : Tp pr := .a (Ev.castq (congrArg (fun x => Q.loop (lq pr (60 : FuncId) (0 : Nat)) (at_ [((1 : Nat), V.vec (0 : Nat) x (3 : Nat) (0 : Nat) x), ((31 : Nat), V.vec (1 : Nat) (2 : Nat) (1 : Nat) (0 : Nat) (2 : Nat)), ((32 : Nat), i64 (2 : Int)), ((33 : Nat), i64 (0 : Int))] [Ob.vec true (3 : Nat) (bcc (m ++ [Bc.mk (1 : Int) n e0])), Ob.vec true (1 : Nat) [[C.t T.nilp], [C.t T.nilp]]] (1 : Nat))) (show ((m ++ [Bc.mk (1 : Int) n e0]).length) = (m.length + (1 : Nat)) by simp [E.parts, exb])) (hl))
    exact .tp [.m (rfl : true = true), t1, t2, .c (rfl : (m.length + (1 : Nat)) = _), t4, t5, t6] (by kernel_rfl)
  | .name s, m, h => by
    simp only [E.size] at h
    have hl := pL0n_ev (m ++ [⟨2, 0, s⟩]) (by first | (simp; done) | (simp; omega))
    let t1 : Tp pr := .m (show (decide ((bcc m).length = m.length ∧ (0 : Nat) + m.length ≤ m.length ∧ m.length + (1 : Nat) ≤ (4294967296 : Nat))) = true by (simp; omega))
    let t2 : Tp pr := .b (show (decide (m.length + (1 : Nat) ≤ m.length)) = false by simp)
    let t4 : Tp pr := .n .crows (show ((List.take m.length (bcc m)).append (List.take (1 : Nat) (List.drop (0 : Nat) [[C.t (T.int IntKind.i64 (2 : Int)), C.t (T.int IntKind.i64 (0 : Int)), C.t (T.str (E.name s).text)]]))) = bcc (m ++ [Bc.mk (2 : Int) (0 : Int) s]) by simp)
    let t5 : Tp pr := .i (rfl : ((2 : Int) : Int) = (2 : Int))
    let t6 : Tp pr := .a (Ev.castq (congrArg (fun x => Q.loop (lq pr (60 : FuncId) (0 : Nat)) (at_ [((1 : Nat), V.vec (0 : Nat) x (3 : Nat) (0 : Nat) x), ((31 : Nat), V.vec (1 : Nat) (2 : Nat) (1 : Nat) (0 : Nat) (2 : Nat)), ((32 : Nat), i64 (2 : Int)), ((33 : Nat), i64 (0 : Int))] [Ob.vec true (3 : Nat) (bcc (m ++ [Bc.mk (2 : Int) (0 : Int) s])), Ob.vec true (1 : Nat) [[C.t T.nilp], [C.t T.nilp]]] (1 : Nat))) (show ((m ++ [Bc.mk (2 : Int) (0 : Int) s]).length) = (m.length + (1 : Nat)) by simp [E.parts, exb])) (hl))
    exact .tp [.m (rfl : true = true), t1, t2, .c (rfl : (m.length + (1 : Nat)) = _), t4, t5, t6] (by kernel_rfl)
  | .neg a, m, h => by
    simp only [E.size] at h
    have hl := pL0a_ev a (m ++ [⟨3, 0, e0⟩]) (by first | (simp; done) | (simp; omega)) (fun m h => parts_ev a m h)
    let t1 : Tp pr := .m (show (decide ((bcc m).length = m.length ∧ (0 : Nat) + m.length ≤ m.length ∧ m.length + (1 : Nat) ≤ (4294967296 : Nat))) = true by (simp; omega))
    let t2 : Tp pr := .b (show (decide (m.length + (1 : Nat) ≤ m.length)) = false by simp)
    let t4 : Tp pr := .n .crows (show ((List.take m.length (bcc m)).append (List.take (1 : Nat) (List.drop (0 : Nat) [[C.t (T.int IntKind.i64 (3 : Int)), C.t (T.int IntKind.i64 (0 : Int)), C.t (T.str a.neg.text)]]))) = bcc (m ++ [Bc.mk (3 : Int) (0 : Int) (ByteArray.mk #[])]) by simp)
    let t5 : Tp pr := .i (rfl : ((2 : Int) : Int) = (2 : Int))
    let t6 : Tp pr := .a (Ev.castq (congrArg (fun x => Q.loop (lq pr (60 : FuncId) (0 : Nat)) (at_ [((1 : Nat), V.vec (0 : Nat) x (3 : Nat) (0 : Nat) x), ((31 : Nat), V.vec (1 : Nat) (2 : Nat) (1 : Nat) (0 : Nat) (2 : Nat)), ((32 : Nat), i64 (2 : Int)), ((33 : Nat), i64 (0 : Int))] [Ob.vec true (3 : Nat) (bcc (m ++ [Bc.mk (3 : Int) (0 : Int) e0])), Ob.vec true (1 : Nat) [[C.t a.tp], [C.t T.nilp]]] (1 : Nat))) (show ((m ++ [Bc.mk (3 : Int) (0 : Int) e0]).length) = (m.length + (1 : Nat)) by simp [E.parts, exb])) (hl))
    exact .tpe [.m (rfl : true = true), t1, t2, .c (rfl : (m.length + (1 : Nat)) = _), t4, t5, t6] (Out.val (V.vec (0 : Nat) (m ++ [Bc.mk (3 : Int) (0 : Int) e0] ++ exb a.parts).length (3 : Nat) (0 : Nat) (m ++ [Bc.mk (3 : Int) (0 : Int) e0] ++ exb a.parts).length) [Ob.vec true (3 : Nat) (bcc (m ++ [Bc.mk (3 : Int) (0 : Int) e0] ++ exb a.parts))]) (by kernel_rfl) (((congrArg (fun x => Out.val (V.vec (0 : Nat) x (3 : Nat) (0 : Nat) (m ++ [Bc.mk (3 : Int) (0 : Int) e0] ++ exb a.parts).length) [Ob.vec true (3 : Nat) (bcc (m ++ [Bc.mk (3 : Int) (0 : Int) e0] ++ exb a.parts))]) (show ((m ++ [Bc.mk (3 : Int) (0 : Int) e0] ++ exb a.parts).length) = ((m ++ exb a.neg.parts).length) by simp [E.parts, exb])).trans (congrArg (fun x => Out.val (V.vec (0 : Nat) (m ++ exb a.neg.parts).length (3 : Nat) (0 : Nat) x) [Ob.vec true (3 : Nat) (bcc (m ++ [Bc.mk (3 : Int) (0 : Int) e0] ++ exb a.parts))]) (show ((m ++ [Bc.mk (3 : Int) (0 : Int) e0] ++ exb a.parts).length) = ((m ++ exb a.neg.parts).length) by simp [E.parts, exb]))).trans (congrArg (fun x => Out.val (V.vec (0 : Nat) (m ++ exb a.neg.parts).length (3 : Nat) (0 : Nat) (m ++ exb a.neg.parts).length) [Ob.vec true (3 : Nat) x]) (show (bcc (m ++ [Bc.mk (3 : Int) (0 : Int) e0] ++ exb a.parts)) = (bcc (m ++ exb a.neg.parts)) by simp [E.parts, exb])))
  | .not a, m, h => by
    simp only [E.size] at h
    have hl := pL0a_ev a (m ++ [⟨4, 0, e0⟩]) (by first | (simp; done) | (simp; omega)) (fun m h => parts_ev a m h)
    let t1 : Tp pr := .m (show (decide ((bcc m).length = m.length ∧ (0 : Nat) + m.length ≤ m.length ∧ m.length + (1 : Nat) ≤ (4294967296 : Nat))) = true by (simp; omega))
    let t2 : Tp pr := .b (show (decide (m.length + (1 : Nat) ≤ m.length)) = false by simp)
    let t4 : Tp pr := .n .crows (show ((List.take m.length (bcc m)).append (List.take (1 : Nat) (List.drop (0 : Nat) [[C.t (T.int IntKind.i64 (4 : Int)), C.t (T.int IntKind.i64 (0 : Int)), C.t (T.str a.not.text)]]))) = bcc (m ++ [Bc.mk (4 : Int) (0 : Int) (ByteArray.mk #[])]) by simp)
    let t5 : Tp pr := .i (rfl : ((2 : Int) : Int) = (2 : Int))
    let t6 : Tp pr := .a (Ev.castq (congrArg (fun x => Q.loop (lq pr (60 : FuncId) (0 : Nat)) (at_ [((1 : Nat), V.vec (0 : Nat) x (3 : Nat) (0 : Nat) x), ((31 : Nat), V.vec (1 : Nat) (2 : Nat) (1 : Nat) (0 : Nat) (2 : Nat)), ((32 : Nat), i64 (2 : Int)), ((33 : Nat), i64 (0 : Int))] [Ob.vec true (3 : Nat) (bcc (m ++ [Bc.mk (4 : Int) (0 : Int) e0])), Ob.vec true (1 : Nat) [[C.t a.tp], [C.t T.nilp]]] (1 : Nat))) (show ((m ++ [Bc.mk (4 : Int) (0 : Int) e0]).length) = (m.length + (1 : Nat)) by simp [E.parts, exb])) (hl))
    exact .tpe [.m (rfl : true = true), t1, t2, .c (rfl : (m.length + (1 : Nat)) = _), t4, t5, t6] (Out.val (V.vec (0 : Nat) (m ++ [Bc.mk (4 : Int) (0 : Int) e0] ++ exb a.parts).length (3 : Nat) (0 : Nat) (m ++ [Bc.mk (4 : Int) (0 : Int) e0] ++ exb a.parts).length) [Ob.vec true (3 : Nat) (bcc (m ++ [Bc.mk (4 : Int) (0 : Int) e0] ++ exb a.parts))]) (by kernel_rfl) (((congrArg (fun x => Out.val (V.vec (0 : Nat) x (3 : Nat) (0 : Nat) (m ++ [Bc.mk (4 : Int) (0 : Int) e0] ++ exb a.parts).length) [Ob.vec true (3 : Nat) (bcc (m ++ [Bc.mk (4 : Int) (0 : Int) e0] ++ exb a.parts))]) (show ((m ++ [Bc.mk (4 : Int) (0 : Int) e0] ++ exb a.parts).length) = ((m ++ exb a.not.parts).length) by simp [E.parts, exb])).trans (congrArg (fun x => Out.val (V.vec (0 : Nat) (m ++ exb a.not.parts).length (3 : Nat) (0 : Nat) x) [Ob.vec true (3 : Nat) (bcc (m ++ [Bc.mk (4 : Int) (0 : Int) e0] ++ exb a.parts))]) (show ((m ++ [Bc.mk (4 : Int) (0 : Int) e0] ++ exb a.parts).length) = ((m ++ exb a.not.parts).length) by simp [E.parts, exb]))).trans (congrArg (fun x => Out.val (V.vec (0 : Nat) (m ++ exb a.not.parts).length (3 : Nat) (0 : Nat) (m ++ exb a.not.parts).length) [Ob.vec true (3 : Nat) x]) (show (bcc (m ++ [Bc.mk (4 : Int) (0 : Int) e0] ++ exb a.parts)) = (bcc (m ++ exb a.not.parts)) by simp [E.parts, exb])))
  | .two s a b, m, h => by
    simp only [E.size] at h
    have hl := pL0b_ev a b (m ++ [⟨5, 0, s⟩]) (by first | (simp; done) | (simp; omega)) (fun m h => parts_ev a m h) (fun m h => parts_ev b m h)
    let t1 : Tp pr := .m (show (decide ((bcc m).length = m.length ∧ (0 : Nat) + m.length ≤ m.length ∧ m.length + (1 : Nat) ≤ (4294967296 : Nat))) = true by (simp; omega))
    let t2 : Tp pr := .b (show (decide (m.length + (1 : Nat) ≤ m.length)) = false by simp)
    let t4 : Tp pr := .n .crows (show ((List.take m.length (bcc m)).append (List.take (1 : Nat) (List.drop (0 : Nat) [[C.t (T.int IntKind.i64 (5 : Int)), C.t (T.int IntKind.i64 (0 : Int)), C.t (T.str (E.two s a b).text)]]))) = bcc (m ++ [Bc.mk (5 : Int) (0 : Int) s]) by simp)
    let t5 : Tp pr := .i (rfl : ((2 : Int) : Int) = (2 : Int))
    let t6 : Tp pr := .a (Ev.castq (congrArg (fun x => Q.loop (lq pr (60 : FuncId) (0 : Nat)) (at_ [((1 : Nat), V.vec (0 : Nat) x (3 : Nat) (0 : Nat) x), ((31 : Nat), V.vec (1 : Nat) (2 : Nat) (1 : Nat) (0 : Nat) (2 : Nat)), ((32 : Nat), i64 (2 : Int)), ((33 : Nat), i64 (0 : Int))] [Ob.vec true (3 : Nat) (bcc (m ++ [Bc.mk (5 : Int) (0 : Int) s])), Ob.vec true (1 : Nat) [[C.t a.tp], [C.t b.tp]]] (1 : Nat))) (show ((m ++ [Bc.mk (5 : Int) (0 : Int) s]).length) = (m.length + (1 : Nat)) by simp [E.parts, exb])) (hl))
    exact .tpe [.m (rfl : true = true), t1, t2, .c (rfl : (m.length + (1 : Nat)) = _), t4, t5, t6] (Out.val (V.vec (0 : Nat) (m ++ [Bc.mk (5 : Int) (0 : Int) s] ++ exb a.parts ++ exb b.parts).length (3 : Nat) (0 : Nat) (m ++ [Bc.mk (5 : Int) (0 : Int) s] ++ exb a.parts ++ exb b.parts).length) [Ob.vec true (3 : Nat) (bcc (m ++ [Bc.mk (5 : Int) (0 : Int) s] ++ exb a.parts ++ exb b.parts))]) (by kernel_rfl) (((congrArg (fun x => Out.val (V.vec (0 : Nat) x (3 : Nat) (0 : Nat) (m ++ [Bc.mk (5 : Int) (0 : Int) s] ++ exb a.parts ++ exb b.parts).length) [Ob.vec true (3 : Nat) (bcc (m ++ [Bc.mk (5 : Int) (0 : Int) s] ++ exb a.parts ++ exb b.parts))]) (show ((m ++ [Bc.mk (5 : Int) (0 : Int) s] ++ exb a.parts ++ exb b.parts).length) = ((m ++ exb (E.two s a b).parts).length) by simp [E.parts, exb])).trans (congrArg (fun x => Out.val (V.vec (0 : Nat) (m ++ exb (E.two s a b).parts).length (3 : Nat) (0 : Nat) x) [Ob.vec true (3 : Nat) (bcc (m ++ [Bc.mk (5 : Int) (0 : Int) s] ++ exb a.parts ++ exb b.parts))]) (show ((m ++ [Bc.mk (5 : Int) (0 : Int) s] ++ exb a.parts ++ exb b.parts).length) = ((m ++ exb (E.two s a b).parts).length) by simp [E.parts, exb]))).trans (congrArg (fun x => Out.val (V.vec (0 : Nat) (m ++ exb (E.two s a b).parts).length (3 : Nat) (0 : Nat) (m ++ exb (E.two s a b).parts).length) [Ob.vec true (3 : Nat) x]) (show (bcc (m ++ [Bc.mk (5 : Int) (0 : Int) s] ++ exb a.parts ++ exb b.parts)) = (bcc (m ++ exb (E.two s a b).parts)) by simp [E.parts, exb])))
theorem partsN_ev : ∀ (e : E), e.size ≤ 1000000 → Ev pr (.call 60 [.t e.tp, .t .nils] []) (.val (.vec 0 (exb e.parts).length 3 0 (exb e.parts).length) [.vec true 3 (bcc (exb e.parts))])
  | .num n, h => by
    simp only [E.size] at h
    have hl := pL0nN_ev ([⟨1, n, e0⟩]) (by first | (simp; done) | (simp; omega))
    let t3 : Tp pr := .n .crows (show (List.take (1 : Nat) (List.drop (0 : Nat) [[C.t (T.int IntKind.i64 (1 : Int)), C.t (T.int IntKind.i64 (E.num n).nm), C.t (T.str (E.num n).text)]])) = bcc [Bc.mk (1 : Int) n (ByteArray.mk #[])] by simp)
    let t4 : Tp pr := .i (rfl : ((2 : Int) : Int) = (2 : Int))
    exact .tp [.m (rfl : true = true), .m (rfl : true = true), .c (rfl : ((1 : Nat)) = _), t3, t4, .a (hl)] (by kernel_rfl)
  | .name s, h => by
    simp only [E.size] at h
    have hl := pL0nN_ev ([⟨2, 0, s⟩]) (by first | (simp; done) | (simp; omega))
    let t3 : Tp pr := .n .crows (show (List.take (1 : Nat) (List.drop (0 : Nat) [[C.t (T.int IntKind.i64 (2 : Int)), C.t (T.int IntKind.i64 (0 : Int)), C.t (T.str (E.name s).text)]])) = bcc [Bc.mk (2 : Int) (0 : Int) s] by simp)
    let t4 : Tp pr := .i (rfl : ((2 : Int) : Int) = (2 : Int))
    exact .tp [.m (rfl : true = true), .m (rfl : true = true), .c (rfl : ((1 : Nat)) = _), t3, t4, .a (hl)] (by kernel_rfl)
  | .neg a, h => by
    simp only [E.size] at h
    have hl := pL0aN_ev a ([⟨3, 0, e0⟩]) (by first | (simp; done) | (simp; omega)) (fun m h => parts_ev a m h)
    let t3 : Tp pr := .n .crows (show (List.take (1 : Nat) (List.drop (0 : Nat) [[C.t (T.int IntKind.i64 (3 : Int)), C.t (T.int IntKind.i64 (0 : Int)), C.t (T.str a.neg.text)]])) = bcc [Bc.mk (3 : Int) (0 : Int) (ByteArray.mk #[])] by simp)
    let t4 : Tp pr := .i (rfl : ((2 : Int) : Int) = (2 : Int))
    exact .tp [.m (rfl : true = true), .m (rfl : true = true), .c (rfl : ((1 : Nat)) = _), t3, t4, .a (hl)] (by kernel_rfl)
  | .not a, h => by
    simp only [E.size] at h
    have hl := pL0aN_ev a ([⟨4, 0, e0⟩]) (by first | (simp; done) | (simp; omega)) (fun m h => parts_ev a m h)
    let t3 : Tp pr := .n .crows (show (List.take (1 : Nat) (List.drop (0 : Nat) [[C.t (T.int IntKind.i64 (4 : Int)), C.t (T.int IntKind.i64 (0 : Int)), C.t (T.str a.not.text)]])) = bcc [Bc.mk (4 : Int) (0 : Int) (ByteArray.mk #[])] by simp)
    let t4 : Tp pr := .i (rfl : ((2 : Int) : Int) = (2 : Int))
    exact .tp [.m (rfl : true = true), .m (rfl : true = true), .c (rfl : ((1 : Nat)) = _), t3, t4, .a (hl)] (by kernel_rfl)
  | .two s a b, h => by
    simp only [E.size] at h
    have hl := pL0bN_ev a b ([⟨5, 0, s⟩]) (by first | (simp; done) | (simp; omega)) (fun m h => parts_ev a m h) (fun m h => parts_ev b m h)
    let t3 : Tp pr := .n .crows (show (List.take (1 : Nat) (List.drop (0 : Nat) [[C.t (T.int IntKind.i64 (5 : Int)), C.t (T.int IntKind.i64 (0 : Int)), C.t (T.str (E.two s a b).text)]])) = bcc [Bc.mk (5 : Int) (0 : Int) s] by simp)
    let t4 : Tp pr := .i (rfl : ((2 : Int) : Int) = (2 : Int))
    exact .tpe [.m (rfl : true = true), .m (rfl : true = true), .c (rfl : ((1 : Nat)) = _), t3, t4, .a (hl)] (Out.val (V.vec (0 : Nat) ([Bc.mk (5 : Int) (0 : Int) s] ++ exb a.parts ++ exb b.parts).length (3 : Nat) (0 : Nat) ([Bc.mk (5 : Int) (0 : Int) s] ++ exb a.parts ++ exb b.parts).length) [Ob.vec true (3 : Nat) (bcc ([Bc.mk (5 : Int) (0 : Int) s] ++ exb a.parts ++ exb b.parts))]) (by kernel_rfl) (((congrArg (fun x => Out.val (V.vec (0 : Nat) x (3 : Nat) (0 : Nat) ([Bc.mk (5 : Int) (0 : Int) s] ++ exb a.parts ++ exb b.parts).length) [Ob.vec true (3 : Nat) (bcc ([Bc.mk (5 : Int) (0 : Int) s] ++ exb a.parts ++ exb b.parts))]) (show (([Bc.mk (5 : Int) (0 : Int) s] ++ exb a.parts ++ exb b.parts).length) = ((exb (E.two s a b).parts).length) by simp [E.parts, exb])).trans (congrArg (fun x => Out.val (V.vec (0 : Nat) (exb (E.two s a b).parts).length (3 : Nat) (0 : Nat) x) [Ob.vec true (3 : Nat) (bcc ([Bc.mk (5 : Int) (0 : Int) s] ++ exb a.parts ++ exb b.parts))]) (show (([Bc.mk (5 : Int) (0 : Int) s] ++ exb a.parts ++ exb b.parts).length) = ((exb (E.two s a b).parts).length) by simp [E.parts, exb]))).trans (congrArg (fun x => Out.val (V.vec (0 : Nat) (exb (E.two s a b).parts).length (3 : Nat) (0 : Nat) (exb (E.two s a b).parts).length) [Ob.vec true (3 : Nat) x]) (show (bcc ([Bc.mk (5 : Int) (0 : Int) s] ++ exb a.parts ++ exb b.parts)) = (bcc (exb (E.two s a b).parts)) by simp [E.parts, exb])))
theorem fL_ev : ∀ (rest done : List E) (m : List Bc), m.length + (rest.map E.size).sum ≤ 1000000 → done.length + rest.length ≤ 2 → (∀ e ∈ rest, ∀ m : List Bc, m.length + e.size ≤ 1000000 → Ev pr (.call 56 [vs e.ts, .vec 0 (m).length 3 0 (m).length] [.vec true 3 (bcc (m))]) (.val (.vec 0 (m ++ exb e.parts).length 3 0 (m ++ exb e.parts).length) [.vec true 3 (bcc (m ++ exb e.parts))])) →
    Ev pr (.loop (lq pr 56 0) (at_ [(1, .vec 0 m.length 3 0 m.length), (18, .t (.seq 4 ((done ++ rest).map E.ts))), (19, i64 (done.length + rest.length)), (20, i64 done.length)] [.vec true 3 (bcc m)] 1))
      (.exit 0 (at_ [(1, .vec 0 (m ++ exb (rest.map E.parts).flatten).length 3 0 (m ++ exb (rest.map E.parts).flatten).length)] [.vec true 3 (bcc (m ++ exb (rest.map E.parts).flatten))] 1))
  | [], done, m, h, h2, ih => by
    let t0 : Tp pr := .b (show (decide ((↑done.length : Int) < (↑done.length : Int) + (0 : Int))) = false by simp)
    exact .tpe [t0] (Out.exit (0 : Nat) (at_ [((1 : Nat), V.vec (0 : Nat) m.length (3 : Nat) (0 : Nat) m.length)] [Ob.vec true (3 : Nat) (bcc m)] (1 : Nat))) (by kernel_rfl) (((congrArg (fun x => Out.exit (0 : Nat) (at_ [((1 : Nat), V.vec (0 : Nat) x (3 : Nat) (0 : Nat) m.length)] [Ob.vec true (3 : Nat) (bcc m)] (1 : Nat))) (show (m.length) = ((m ++ exb (List.map E.parts []).flatten).length) by simp [exb])).trans (congrArg (fun x => Out.exit (0 : Nat) (at_ [((1 : Nat), V.vec (0 : Nat) (m ++ exb (List.map E.parts []).flatten).length (3 : Nat) (0 : Nat) x)] [Ob.vec true (3 : Nat) (bcc m)] (1 : Nat))) (show (m.length) = ((m ++ exb (List.map E.parts []).flatten).length) by simp [exb]))).trans (congrArg (fun x => Out.exit (0 : Nat) (at_ [((1 : Nat), V.vec (0 : Nat) (m ++ exb (List.map E.parts []).flatten).length (3 : Nat) (0 : Nat) (m ++ exb (List.map E.parts []).flatten).length)] [Ob.vec true (3 : Nat) x] (1 : Nat))) (show (bcc m) = (bcc (m ++ exb (List.map E.parts []).flatten)) by simp [exb])))
  | e :: rest, done, m, h, h2, ih => by
    simp at h h2
    have h1 := ih e (by simp) m (by omega)
    have hl := parts_len e
    have hg : lkp ((done ++ e :: rest).map E.ts) (done.length : Int) = some e.ts := by simp
    have h3 := fL_ev rest (done ++ [e]) (m ++ exb e.parts) (by first | (simp; done) | (simp; omega)) (by first | (simp; done) | (simp; omega)) (fun x hx => ih x (by simp [hx]))
    let t0 : Tp pr := .b (show (decide ((↑done.length : Int) < (↑done.length : Int) + (↑(e :: rest).length : Int))) = true by (simp; omega))
    let t1 : Tp pr := .g .row (show (lkp (List.map E.ts (done ++ e :: rest)) (↑done.length : Int)) = some (e.ts) from hg)
    let t3 : Tp pr := .i (wrap_i64 (a := (↑done.length : Int) + (1 : Int)) (by omega) (by omega))
    let t4 : Tp pr := .a (Ev.castq (((congrArg (fun x => Q.loop (lq pr (56 : FuncId) (0 : Nat)) (at_ [((1 : Nat), V.vec (0 : Nat) (m ++ exb e.parts).length (3 : Nat) (0 : Nat) (m ++ exb e.parts).length), ((18 : Nat), V.t (T.seq (4 : Nat) x)), ((19 : Nat), i64 ((↑(done ++ [e]).length : Int) + (↑rest.length : Int))), ((20 : Nat), i64 (↑(done ++ [e]).length : Int))] [Ob.vec true (3 : Nat) (bcc (m ++ exb e.parts))] (1 : Nat))) (show (List.map E.ts (done ++ [e] ++ rest)) = (List.map E.ts (done ++ e :: rest)) by simp [exb_app])).trans (congrArg (fun x => Q.loop (lq pr (56 : FuncId) (0 : Nat)) (at_ [((1 : Nat), V.vec (0 : Nat) (m ++ exb e.parts).length (3 : Nat) (0 : Nat) (m ++ exb e.parts).length), ((18 : Nat), V.t (T.seq (4 : Nat) (List.map E.ts (done ++ e :: rest)))), ((19 : Nat), i64 x), ((20 : Nat), i64 (↑(done ++ [e]).length : Int))] [Ob.vec true (3 : Nat) (bcc (m ++ exb e.parts))] (1 : Nat))) (show ((↑(done ++ [e]).length : Int) + (↑rest.length : Int)) = ((↑done.length : Int) + (↑(e :: rest).length : Int)) by (simp; omega)))).trans (congrArg (fun x => Q.loop (lq pr (56 : FuncId) (0 : Nat)) (at_ [((1 : Nat), V.vec (0 : Nat) (m ++ exb e.parts).length (3 : Nat) (0 : Nat) (m ++ exb e.parts).length), ((18 : Nat), V.t (T.seq (4 : Nat) (List.map E.ts (done ++ e :: rest)))), ((19 : Nat), i64 ((↑done.length : Int) + (↑(e :: rest).length : Int))), ((20 : Nat), i64 x)] [Ob.vec true (3 : Nat) (bcc (m ++ exb e.parts))] (1 : Nat))) (show ((↑(done ++ [e]).length : Int)) = ((↑done.length : Int) + (1 : Int)) by simp [exb_app]))) (h3))
    exact .tpe [t0, t1, .a (ih (e) (by simp) (m) (by omega)), t3, t4] (Out.exit (0 : Nat) (at_ [((1 : Nat), V.vec (0 : Nat) (m ++ exb e.parts ++ exb (List.map E.parts rest).flatten).length (3 : Nat) (0 : Nat) (m ++ exb e.parts ++ exb (List.map E.parts rest).flatten).length)] [Ob.vec true (3 : Nat) (bcc (m ++ exb e.parts ++ exb (List.map E.parts rest).flatten))] (1 : Nat))) (by kernel_rfl) (((congrArg (fun x => Out.exit (0 : Nat) (at_ [((1 : Nat), V.vec (0 : Nat) x (3 : Nat) (0 : Nat) (m ++ exb e.parts ++ exb (List.map E.parts rest).flatten).length)] [Ob.vec true (3 : Nat) (bcc (m ++ exb e.parts ++ exb (List.map E.parts rest).flatten))] (1 : Nat))) (show ((m ++ exb e.parts ++ exb (List.map E.parts rest).flatten).length) = ((m ++ exb (List.map E.parts (e :: rest)).flatten).length) by simp [exb_app])).trans (congrArg (fun x => Out.exit (0 : Nat) (at_ [((1 : Nat), V.vec (0 : Nat) (m ++ exb (List.map E.parts (e :: rest)).flatten).length (3 : Nat) (0 : Nat) x)] [Ob.vec true (3 : Nat) (bcc (m ++ exb e.parts ++ exb (List.map E.parts rest).flatten))] (1 : Nat))) (show ((m ++ exb e.parts ++ exb (List.map E.parts rest).flatten).length) = ((m ++ exb (List.map E.parts (e :: rest)).flatten).length) by simp [exb_app]))).trans (congrArg (fun x => Out.exit (0 : Nat) (at_ [((1 : Nat), V.vec (0 : Nat) (m ++ exb (List.map E.parts (e :: rest)).flatten).length (3 : Nat) (0 : Nat) (m ++ exb (List.map E.parts (e :: rest)).flatten).length)] [Ob.vec true (3 : Nat) x] (1 : Nat))) (show (bcc (m ++ exb e.parts ++ exb (List.map E.parts rest).flatten)) = (bcc (m ++ exb (List.map E.parts (e :: rest)).flatten)) by simp [exb_app])))
theorem fLN_ev : ∀ (rest done : List E) (m : List Bc), m.length + (rest.map E.size).sum ≤ 1000000 → done.length + rest.length ≤ 2 → (∀ e ∈ rest, ∀ m : List Bc, m.length + e.size ≤ 1000000 → Ev pr (.call 56 [vs e.ts, .vec 0 (m).length 3 0 (m).length] [.vec true 3 (bcc (m))]) (.val (.vec 0 (m ++ exb e.parts).length 3 0 (m ++ exb e.parts).length) [.vec true 3 (bcc (m ++ exb e.parts))])) →
    Ev pr (.loop (lq pr 56 0) (at_ [(1, .vec 0 m.length 3 0 m.length), (18, .t (.seq 4 ((done ++ rest).map E.ts))), (19, i64 (done.length + rest.length)), (20, i64 done.length)] [.vec true 3 (bcc m)] 0))
      (.exit 0 (at_ [(1, .vec 0 (m ++ exb (rest.map E.parts).flatten).length 3 0 (m ++ exb (rest.map E.parts).flatten).length)] [.vec true 3 (bcc (m ++ exb (rest.map E.parts).flatten))] 0))
  | [], done, m, h, h2, ih => by
    let t0 : Tp pr := .b (show (decide ((↑done.length : Int) < (↑done.length : Int) + (0 : Int))) = false by simp)
    exact .tpe [t0] (Out.exit (0 : Nat) (at_ [((1 : Nat), V.vec (0 : Nat) m.length (3 : Nat) (0 : Nat) m.length)] [Ob.vec true (3 : Nat) (bcc m)] (0 : Nat))) (by kernel_rfl) (((congrArg (fun x => Out.exit (0 : Nat) (at_ [((1 : Nat), V.vec (0 : Nat) x (3 : Nat) (0 : Nat) m.length)] [Ob.vec true (3 : Nat) (bcc m)] (0 : Nat))) (show (m.length) = ((m ++ exb (List.map E.parts []).flatten).length) by simp [exb])).trans (congrArg (fun x => Out.exit (0 : Nat) (at_ [((1 : Nat), V.vec (0 : Nat) (m ++ exb (List.map E.parts []).flatten).length (3 : Nat) (0 : Nat) x)] [Ob.vec true (3 : Nat) (bcc m)] (0 : Nat))) (show (m.length) = ((m ++ exb (List.map E.parts []).flatten).length) by simp [exb]))).trans (congrArg (fun x => Out.exit (0 : Nat) (at_ [((1 : Nat), V.vec (0 : Nat) (m ++ exb (List.map E.parts []).flatten).length (3 : Nat) (0 : Nat) (m ++ exb (List.map E.parts []).flatten).length)] [Ob.vec true (3 : Nat) x] (0 : Nat))) (show (bcc m) = (bcc (m ++ exb (List.map E.parts []).flatten)) by simp [exb])))
  | e :: rest, done, m, h, h2, ih => by
    simp at h h2
    have h1 := ih e (by simp) m (by omega)
    have hl := parts_len e
    have hg : lkp ((done ++ e :: rest).map E.ts) (done.length : Int) = some e.ts := by simp
    have h3 := fLN_ev rest (done ++ [e]) (m ++ exb e.parts) (by first | (simp; done) | (simp; omega)) (by first | (simp; done) | (simp; omega)) (fun x hx => ih x (by simp [hx]))
    let t0 : Tp pr := .b (show (decide ((↑done.length : Int) < (↑done.length : Int) + (↑(e :: rest).length : Int))) = true by (simp; omega))
    let t1 : Tp pr := .g .row (show (lkp (List.map E.ts (done ++ e :: rest)) (↑done.length : Int)) = some (e.ts) from hg)
    let t3 : Tp pr := .i (wrap_i64 (a := (↑done.length : Int) + (1 : Int)) (by omega) (by omega))
    let t4 : Tp pr := .a (Ev.castq (((congrArg (fun x => Q.loop (lq pr (56 : FuncId) (0 : Nat)) (at_ [((1 : Nat), V.vec (0 : Nat) (m ++ exb e.parts).length (3 : Nat) (0 : Nat) (m ++ exb e.parts).length), ((18 : Nat), V.t (T.seq (4 : Nat) x)), ((19 : Nat), i64 ((↑(done ++ [e]).length : Int) + (↑rest.length : Int))), ((20 : Nat), i64 (↑(done ++ [e]).length : Int))] [Ob.vec true (3 : Nat) (bcc (m ++ exb e.parts))] (0 : Nat))) (show (List.map E.ts (done ++ [e] ++ rest)) = (List.map E.ts (done ++ e :: rest)) by simp [exb_app])).trans (congrArg (fun x => Q.loop (lq pr (56 : FuncId) (0 : Nat)) (at_ [((1 : Nat), V.vec (0 : Nat) (m ++ exb e.parts).length (3 : Nat) (0 : Nat) (m ++ exb e.parts).length), ((18 : Nat), V.t (T.seq (4 : Nat) (List.map E.ts (done ++ e :: rest)))), ((19 : Nat), i64 x), ((20 : Nat), i64 (↑(done ++ [e]).length : Int))] [Ob.vec true (3 : Nat) (bcc (m ++ exb e.parts))] (0 : Nat))) (show ((↑(done ++ [e]).length : Int) + (↑rest.length : Int)) = ((↑done.length : Int) + (↑(e :: rest).length : Int)) by (simp; omega)))).trans (congrArg (fun x => Q.loop (lq pr (56 : FuncId) (0 : Nat)) (at_ [((1 : Nat), V.vec (0 : Nat) (m ++ exb e.parts).length (3 : Nat) (0 : Nat) (m ++ exb e.parts).length), ((18 : Nat), V.t (T.seq (4 : Nat) (List.map E.ts (done ++ e :: rest)))), ((19 : Nat), i64 ((↑done.length : Int) + (↑(e :: rest).length : Int))), ((20 : Nat), i64 x)] [Ob.vec true (3 : Nat) (bcc (m ++ exb e.parts))] (0 : Nat))) (show ((↑(done ++ [e]).length : Int)) = ((↑done.length : Int) + (1 : Int)) by simp [exb_app]))) (h3))
    exact .tpe [t0, t1, .a (ih (e) (by simp) (m) (by omega)), t3, t4] (Out.exit (0 : Nat) (at_ [((1 : Nat), V.vec (0 : Nat) (m ++ exb e.parts ++ exb (List.map E.parts rest).flatten).length (3 : Nat) (0 : Nat) (m ++ exb e.parts ++ exb (List.map E.parts rest).flatten).length)] [Ob.vec true (3 : Nat) (bcc (m ++ exb e.parts ++ exb (List.map E.parts rest).flatten))] (0 : Nat))) (by kernel_rfl) (((congrArg (fun x => Out.exit (0 : Nat) (at_ [((1 : Nat), V.vec (0 : Nat) x (3 : Nat) (0 : Nat) (m ++ exb e.parts ++ exb (List.map E.parts rest).flatten).length)] [Ob.vec true (3 : Nat) (bcc (m ++ exb e.parts ++ exb (List.map E.parts rest).flatten))] (0 : Nat))) (show ((m ++ exb e.parts ++ exb (List.map E.parts rest).flatten).length) = ((m ++ exb (List.map E.parts (e :: rest)).flatten).length) by simp [exb_app])).trans (congrArg (fun x => Out.exit (0 : Nat) (at_ [((1 : Nat), V.vec (0 : Nat) (m ++ exb (List.map E.parts (e :: rest)).flatten).length (3 : Nat) (0 : Nat) x)] [Ob.vec true (3 : Nat) (bcc (m ++ exb e.parts ++ exb (List.map E.parts rest).flatten))] (0 : Nat))) (show ((m ++ exb e.parts ++ exb (List.map E.parts rest).flatten).length) = ((m ++ exb (List.map E.parts (e :: rest)).flatten).length) by simp [exb_app]))).trans (congrArg (fun x => Out.exit (0 : Nat) (at_ [((1 : Nat), V.vec (0 : Nat) (m ++ exb (List.map E.parts (e :: rest)).flatten).length (3 : Nat) (0 : Nat) (m ++ exb (List.map E.parts (e :: rest)).flatten).length)] [Ob.vec true (3 : Nat) x] (0 : Nat))) (show (bcc (m ++ exb e.parts ++ exb (List.map E.parts rest).flatten)) = (bcc (m ++ exb (List.map E.parts (e :: rest)).flatten)) by simp [exb_app])))
theorem l2Flat_ev : ∀ (e : E) (m : List Bc), m.length + e.size ≤ 1000000 → Ev pr (.call 56 [vs e.ts, .vec 0 (m).length 3 0 (m).length] [.vec true 3 (bcc (m))]) (.val (.vec 0 (m ++ exb e.parts).length 3 0 (m ++ exb e.parts).length) [.vec true 3 (bcc (m ++ exb e.parts))])
  | .num n, m, h => by
    simp only [E.size] at h
    have hl := fL_ev [] [] (m ++ [⟨1, n, e0⟩]) (by first | (simp; done) | (simp; omega)) (by simp) (fun x hx => by cases hx)
    let t1 : Tp pr := .m (show (decide ((bcc m).length = m.length ∧ (0 : Nat) + m.length ≤ m.length ∧ m.length + (1 : Nat) ≤ (4294967296 : Nat))) = true by (simp; omega))
    let t2 : Tp pr := .b (show (decide (m.length + (1 : Nat) ≤ m.length)) = false by simp)
    let t4 : Tp pr := .n .crows (show ((List.take m.length (bcc m)).append (List.take (1 : Nat) (List.drop (0 : Nat) [[C.t (T.int IntKind.i64 (1 : Int)), C.t (T.int IntKind.i64 (E.num n).nm), C.t (T.str (E.num n).text)]]))) = bcc (m ++ [Bc.mk (1 : Int) n (ByteArray.mk #[])]) by simp)
    let t5 : Tp pr := .i (rfl : ((0 : Int) : Int) = (0 : Int))
    let t6 : Tp pr := .a (Ev.castq (congrArg (fun x => Q.loop (lq pr (56 : FuncId) (0 : Nat)) (at_ [((1 : Nat), V.vec (0 : Nat) x (3 : Nat) (0 : Nat) x), ((18 : Nat), V.t (T.seq (4 : Nat) (List.map E.ts ([] ++ [])))), ((19 : Nat), i64 ((↑(0 : Nat) : Int) + (↑(0 : Nat) : Int))), ((20 : Nat), i64 (↑(0 : Nat) : Int))] [Ob.vec true (3 : Nat) (bcc (m ++ [Bc.mk (1 : Int) n e0]))] (1 : Nat))) (show ((m ++ [Bc.mk (1 : Int) n e0]).length) = (m.length + (1 : Nat)) by simp [E.parts, exb])) (hl))
    exact .tpe [.m (rfl : true = true), t1, t2, .c (rfl : (m.length + (1 : Nat)) = _), t4, t5, t6] (Out.val (V.vec (0 : Nat) (m ++ [Bc.mk (1 : Int) n e0] ++ exb (List.map E.parts []).flatten).length (3 : Nat) (0 : Nat) (m ++ [Bc.mk (1 : Int) n e0] ++ exb (List.map E.parts []).flatten).length) [Ob.vec true (3 : Nat) (bcc (m ++ [Bc.mk (1 : Int) n e0] ++ exb (List.map E.parts []).flatten))]) (by kernel_rfl) (((congrArg (fun x => Out.val (V.vec (0 : Nat) x (3 : Nat) (0 : Nat) (m ++ [Bc.mk (1 : Int) n e0] ++ exb (List.map E.parts []).flatten).length) [Ob.vec true (3 : Nat) (bcc (m ++ [Bc.mk (1 : Int) n e0] ++ exb (List.map E.parts []).flatten))]) (show ((m ++ [Bc.mk (1 : Int) n e0] ++ exb (List.map E.parts []).flatten).length) = ((m ++ exb (E.num n).parts).length) by simp [E.parts, exb])).trans (congrArg (fun x => Out.val (V.vec (0 : Nat) (m ++ exb (E.num n).parts).length (3 : Nat) (0 : Nat) x) [Ob.vec true (3 : Nat) (bcc (m ++ [Bc.mk (1 : Int) n e0] ++ exb (List.map E.parts []).flatten))]) (show ((m ++ [Bc.mk (1 : Int) n e0] ++ exb (List.map E.parts []).flatten).length) = ((m ++ exb (E.num n).parts).length) by simp [E.parts, exb]))).trans (congrArg (fun x => Out.val (V.vec (0 : Nat) (m ++ exb (E.num n).parts).length (3 : Nat) (0 : Nat) (m ++ exb (E.num n).parts).length) [Ob.vec true (3 : Nat) x]) (show (bcc (m ++ [Bc.mk (1 : Int) n e0] ++ exb (List.map E.parts []).flatten)) = (bcc (m ++ exb (E.num n).parts)) by simp [E.parts, exb])))
  | .name s, m, h => by
    simp only [E.size] at h
    have hl := fL_ev [] [] (m ++ [⟨2, 0, s⟩]) (by first | (simp; done) | (simp; omega)) (by simp) (fun x hx => by cases hx)
    let t1 : Tp pr := .m (show (decide ((bcc m).length = m.length ∧ (0 : Nat) + m.length ≤ m.length ∧ m.length + (1 : Nat) ≤ (4294967296 : Nat))) = true by (simp; omega))
    let t2 : Tp pr := .b (show (decide (m.length + (1 : Nat) ≤ m.length)) = false by simp)
    let t4 : Tp pr := .n .crows (show ((List.take m.length (bcc m)).append (List.take (1 : Nat) (List.drop (0 : Nat) [[C.t (T.int IntKind.i64 (2 : Int)), C.t (T.int IntKind.i64 (0 : Int)), C.t (T.str (E.name s).text)]]))) = bcc (m ++ [Bc.mk (2 : Int) (0 : Int) s]) by simp)
    let t5 : Tp pr := .i (rfl : ((0 : Int) : Int) = (0 : Int))
    let t6 : Tp pr := .a (Ev.castq (congrArg (fun x => Q.loop (lq pr (56 : FuncId) (0 : Nat)) (at_ [((1 : Nat), V.vec (0 : Nat) x (3 : Nat) (0 : Nat) x), ((18 : Nat), V.t (T.seq (4 : Nat) (List.map E.ts ([] ++ [])))), ((19 : Nat), i64 ((↑(0 : Nat) : Int) + (↑(0 : Nat) : Int))), ((20 : Nat), i64 (↑(0 : Nat) : Int))] [Ob.vec true (3 : Nat) (bcc (m ++ [Bc.mk (2 : Int) (0 : Int) s]))] (1 : Nat))) (show ((m ++ [Bc.mk (2 : Int) (0 : Int) s]).length) = (m.length + (1 : Nat)) by simp [E.parts, exb])) (hl))
    exact .tpe [.m (rfl : true = true), t1, t2, .c (rfl : (m.length + (1 : Nat)) = _), t4, t5, t6] (Out.val (V.vec (0 : Nat) (m ++ [Bc.mk (2 : Int) (0 : Int) s] ++ exb (List.map E.parts []).flatten).length (3 : Nat) (0 : Nat) (m ++ [Bc.mk (2 : Int) (0 : Int) s] ++ exb (List.map E.parts []).flatten).length) [Ob.vec true (3 : Nat) (bcc (m ++ [Bc.mk (2 : Int) (0 : Int) s] ++ exb (List.map E.parts []).flatten))]) (by kernel_rfl) (((congrArg (fun x => Out.val (V.vec (0 : Nat) x (3 : Nat) (0 : Nat) (m ++ [Bc.mk (2 : Int) (0 : Int) s] ++ exb (List.map E.parts []).flatten).length) [Ob.vec true (3 : Nat) (bcc (m ++ [Bc.mk (2 : Int) (0 : Int) s] ++ exb (List.map E.parts []).flatten))]) (show ((m ++ [Bc.mk (2 : Int) (0 : Int) s] ++ exb (List.map E.parts []).flatten).length) = ((m ++ exb (E.name s).parts).length) by simp [E.parts, exb])).trans (congrArg (fun x => Out.val (V.vec (0 : Nat) (m ++ exb (E.name s).parts).length (3 : Nat) (0 : Nat) x) [Ob.vec true (3 : Nat) (bcc (m ++ [Bc.mk (2 : Int) (0 : Int) s] ++ exb (List.map E.parts []).flatten))]) (show ((m ++ [Bc.mk (2 : Int) (0 : Int) s] ++ exb (List.map E.parts []).flatten).length) = ((m ++ exb (E.name s).parts).length) by simp [E.parts, exb]))).trans (congrArg (fun x => Out.val (V.vec (0 : Nat) (m ++ exb (E.name s).parts).length (3 : Nat) (0 : Nat) (m ++ exb (E.name s).parts).length) [Ob.vec true (3 : Nat) x]) (show (bcc (m ++ [Bc.mk (2 : Int) (0 : Int) s] ++ exb (List.map E.parts []).flatten)) = (bcc (m ++ exb (E.name s).parts)) by simp [E.parts, exb])))
  | .neg a, m, h => by
    simp only [E.size] at h
    have hl := fL_ev [a] [] (m ++ [⟨3, 0, e0⟩]) (by first | (simp; done) | (simp; omega)) (by simp) (fun x hx m hm => by
      simp at hx
      rw [hx] at hm ⊢
      exact l2Flat_ev a m hm)
    let t1 : Tp pr := .m (show (decide ((bcc m).length = m.length ∧ (0 : Nat) + m.length ≤ m.length ∧ m.length + (1 : Nat) ≤ (4294967296 : Nat))) = true by (simp; omega))
    let t2 : Tp pr := .b (show (decide (m.length + (1 : Nat) ≤ m.length)) = false by simp)
    let t4 : Tp pr := .n .crows (show ((List.take m.length (bcc m)).append (List.take (1 : Nat) (List.drop (0 : Nat) [[C.t (T.int IntKind.i64 (3 : Int)), C.t (T.int IntKind.i64 (0 : Int)), C.t (T.str a.neg.text)]]))) = bcc (m ++ [Bc.mk (3 : Int) (0 : Int) (ByteArray.mk #[])]) by simp)
    let t5 : Tp pr := .i (rfl : ((1 : Int) : Int) = (1 : Int))
    let t6 : Tp pr := .a (Ev.castq (congrArg (fun x => Q.loop (lq pr (56 : FuncId) (0 : Nat)) (at_ [((1 : Nat), V.vec (0 : Nat) x (3 : Nat) (0 : Nat) x), ((18 : Nat), V.t (T.seq (4 : Nat) (List.map E.ts ([] ++ [a])))), ((19 : Nat), i64 ((↑(0 : Nat) : Int) + (↑[a].length : Int))), ((20 : Nat), i64 (↑(0 : Nat) : Int))] [Ob.vec true (3 : Nat) (bcc (m ++ [Bc.mk (3 : Int) (0 : Int) e0]))] (1 : Nat))) (show ((m ++ [Bc.mk (3 : Int) (0 : Int) e0]).length) = (m.length + (1 : Nat)) by simp [E.parts, exb])) (hl))
    exact .tpe [.m (rfl : true = true), t1, t2, .c (rfl : (m.length + (1 : Nat)) = _), t4, t5, t6] (Out.val (V.vec (0 : Nat) (m ++ [Bc.mk (3 : Int) (0 : Int) e0] ++ exb (List.map E.parts [a]).flatten).length (3 : Nat) (0 : Nat) (m ++ [Bc.mk (3 : Int) (0 : Int) e0] ++ exb (List.map E.parts [a]).flatten).length) [Ob.vec true (3 : Nat) (bcc (m ++ [Bc.mk (3 : Int) (0 : Int) e0] ++ exb (List.map E.parts [a]).flatten))]) (by kernel_rfl) (((congrArg (fun x => Out.val (V.vec (0 : Nat) x (3 : Nat) (0 : Nat) (m ++ [Bc.mk (3 : Int) (0 : Int) e0] ++ exb (List.map E.parts [a]).flatten).length) [Ob.vec true (3 : Nat) (bcc (m ++ [Bc.mk (3 : Int) (0 : Int) e0] ++ exb (List.map E.parts [a]).flatten))]) (show ((m ++ [Bc.mk (3 : Int) (0 : Int) e0] ++ exb (List.map E.parts [a]).flatten).length) = ((m ++ exb a.neg.parts).length) by simp [E.parts, exb])).trans (congrArg (fun x => Out.val (V.vec (0 : Nat) (m ++ exb a.neg.parts).length (3 : Nat) (0 : Nat) x) [Ob.vec true (3 : Nat) (bcc (m ++ [Bc.mk (3 : Int) (0 : Int) e0] ++ exb (List.map E.parts [a]).flatten))]) (show ((m ++ [Bc.mk (3 : Int) (0 : Int) e0] ++ exb (List.map E.parts [a]).flatten).length) = ((m ++ exb a.neg.parts).length) by simp [E.parts, exb]))).trans (congrArg (fun x => Out.val (V.vec (0 : Nat) (m ++ exb a.neg.parts).length (3 : Nat) (0 : Nat) (m ++ exb a.neg.parts).length) [Ob.vec true (3 : Nat) x]) (show (bcc (m ++ [Bc.mk (3 : Int) (0 : Int) e0] ++ exb (List.map E.parts [a]).flatten)) = (bcc (m ++ exb a.neg.parts)) by simp [E.parts, exb])))
  | .not a, m, h => by
    simp only [E.size] at h
    have hl := fL_ev [a] [] (m ++ [⟨4, 0, e0⟩]) (by first | (simp; done) | (simp; omega)) (by simp) (fun x hx m hm => by
      simp at hx
      rw [hx] at hm ⊢
      exact l2Flat_ev a m hm)
    let t1 : Tp pr := .m (show (decide ((bcc m).length = m.length ∧ (0 : Nat) + m.length ≤ m.length ∧ m.length + (1 : Nat) ≤ (4294967296 : Nat))) = true by (simp; omega))
    let t2 : Tp pr := .b (show (decide (m.length + (1 : Nat) ≤ m.length)) = false by simp)
    let t4 : Tp pr := .n .crows (show ((List.take m.length (bcc m)).append (List.take (1 : Nat) (List.drop (0 : Nat) [[C.t (T.int IntKind.i64 (4 : Int)), C.t (T.int IntKind.i64 (0 : Int)), C.t (T.str a.not.text)]]))) = bcc (m ++ [Bc.mk (4 : Int) (0 : Int) (ByteArray.mk #[])]) by simp)
    let t5 : Tp pr := .i (rfl : ((1 : Int) : Int) = (1 : Int))
    let t6 : Tp pr := .a (Ev.castq (congrArg (fun x => Q.loop (lq pr (56 : FuncId) (0 : Nat)) (at_ [((1 : Nat), V.vec (0 : Nat) x (3 : Nat) (0 : Nat) x), ((18 : Nat), V.t (T.seq (4 : Nat) (List.map E.ts ([] ++ [a])))), ((19 : Nat), i64 ((↑(0 : Nat) : Int) + (↑[a].length : Int))), ((20 : Nat), i64 (↑(0 : Nat) : Int))] [Ob.vec true (3 : Nat) (bcc (m ++ [Bc.mk (4 : Int) (0 : Int) e0]))] (1 : Nat))) (show ((m ++ [Bc.mk (4 : Int) (0 : Int) e0]).length) = (m.length + (1 : Nat)) by simp [E.parts, exb])) (hl))
    exact .tpe [.m (rfl : true = true), t1, t2, .c (rfl : (m.length + (1 : Nat)) = _), t4, t5, t6] (Out.val (V.vec (0 : Nat) (m ++ [Bc.mk (4 : Int) (0 : Int) e0] ++ exb (List.map E.parts [a]).flatten).length (3 : Nat) (0 : Nat) (m ++ [Bc.mk (4 : Int) (0 : Int) e0] ++ exb (List.map E.parts [a]).flatten).length) [Ob.vec true (3 : Nat) (bcc (m ++ [Bc.mk (4 : Int) (0 : Int) e0] ++ exb (List.map E.parts [a]).flatten))]) (by kernel_rfl) (((congrArg (fun x => Out.val (V.vec (0 : Nat) x (3 : Nat) (0 : Nat) (m ++ [Bc.mk (4 : Int) (0 : Int) e0] ++ exb (List.map E.parts [a]).flatten).length) [Ob.vec true (3 : Nat) (bcc (m ++ [Bc.mk (4 : Int) (0 : Int) e0] ++ exb (List.map E.parts [a]).flatten))]) (show ((m ++ [Bc.mk (4 : Int) (0 : Int) e0] ++ exb (List.map E.parts [a]).flatten).length) = ((m ++ exb a.not.parts).length) by simp [E.parts, exb])).trans (congrArg (fun x => Out.val (V.vec (0 : Nat) (m ++ exb a.not.parts).length (3 : Nat) (0 : Nat) x) [Ob.vec true (3 : Nat) (bcc (m ++ [Bc.mk (4 : Int) (0 : Int) e0] ++ exb (List.map E.parts [a]).flatten))]) (show ((m ++ [Bc.mk (4 : Int) (0 : Int) e0] ++ exb (List.map E.parts [a]).flatten).length) = ((m ++ exb a.not.parts).length) by simp [E.parts, exb]))).trans (congrArg (fun x => Out.val (V.vec (0 : Nat) (m ++ exb a.not.parts).length (3 : Nat) (0 : Nat) (m ++ exb a.not.parts).length) [Ob.vec true (3 : Nat) x]) (show (bcc (m ++ [Bc.mk (4 : Int) (0 : Int) e0] ++ exb (List.map E.parts [a]).flatten)) = (bcc (m ++ exb a.not.parts)) by simp [E.parts, exb])))
  | .two s a b, m, h => by
    simp only [E.size] at h
    have hl := fL_ev [a, b] [] (m ++ [⟨5, 0, s⟩]) (by first | (simp; done) | (simp; omega)) (by simp) (fun x hx m hm => by
      simp at hx
      rcases hx with hx | hx
      · rw [hx] at hm ⊢; exact l2Flat_ev a m hm
      · rw [hx] at hm ⊢; exact l2Flat_ev b m hm)
    let t1 : Tp pr := .m (show (decide ((bcc m).length = m.length ∧ (0 : Nat) + m.length ≤ m.length ∧ m.length + (1 : Nat) ≤ (4294967296 : Nat))) = true by (simp; omega))
    let t2 : Tp pr := .b (show (decide (m.length + (1 : Nat) ≤ m.length)) = false by simp)
    let t4 : Tp pr := .n .crows (show ((List.take m.length (bcc m)).append (List.take (1 : Nat) (List.drop (0 : Nat) [[C.t (T.int IntKind.i64 (5 : Int)), C.t (T.int IntKind.i64 (0 : Int)), C.t (T.str (E.two s a b).text)]]))) = bcc (m ++ [Bc.mk (5 : Int) (0 : Int) s]) by simp)
    let t5 : Tp pr := .i (rfl : ((2 : Int) : Int) = (2 : Int))
    let t6 : Tp pr := .a (Ev.castq (congrArg (fun x => Q.loop (lq pr (56 : FuncId) (0 : Nat)) (at_ [((1 : Nat), V.vec (0 : Nat) x (3 : Nat) (0 : Nat) x), ((18 : Nat), V.t (T.seq (4 : Nat) (List.map E.ts ([] ++ [a, b])))), ((19 : Nat), i64 ((↑(0 : Nat) : Int) + (↑[a, b].length : Int))), ((20 : Nat), i64 (↑(0 : Nat) : Int))] [Ob.vec true (3 : Nat) (bcc (m ++ [Bc.mk (5 : Int) (0 : Int) s]))] (1 : Nat))) (show ((m ++ [Bc.mk (5 : Int) (0 : Int) s]).length) = (m.length + (1 : Nat)) by simp [E.parts, exb])) (hl))
    exact .tpe [.m (rfl : true = true), t1, t2, .c (rfl : (m.length + (1 : Nat)) = _), t4, t5, t6] (Out.val (V.vec (0 : Nat) (m ++ [Bc.mk (5 : Int) (0 : Int) s] ++ exb (List.map E.parts [a, b]).flatten).length (3 : Nat) (0 : Nat) (m ++ [Bc.mk (5 : Int) (0 : Int) s] ++ exb (List.map E.parts [a, b]).flatten).length) [Ob.vec true (3 : Nat) (bcc (m ++ [Bc.mk (5 : Int) (0 : Int) s] ++ exb (List.map E.parts [a, b]).flatten))]) (by kernel_rfl) (((congrArg (fun x => Out.val (V.vec (0 : Nat) x (3 : Nat) (0 : Nat) (m ++ [Bc.mk (5 : Int) (0 : Int) s] ++ exb (List.map E.parts [a, b]).flatten).length) [Ob.vec true (3 : Nat) (bcc (m ++ [Bc.mk (5 : Int) (0 : Int) s] ++ exb (List.map E.parts [a, b]).flatten))]) (show ((m ++ [Bc.mk (5 : Int) (0 : Int) s] ++ exb (List.map E.parts [a, b]).flatten).length) = ((m ++ exb (E.two s a b).parts).length) by simp [E.parts, exb])).trans (congrArg (fun x => Out.val (V.vec (0 : Nat) (m ++ exb (E.two s a b).parts).length (3 : Nat) (0 : Nat) x) [Ob.vec true (3 : Nat) (bcc (m ++ [Bc.mk (5 : Int) (0 : Int) s] ++ exb (List.map E.parts [a, b]).flatten))]) (show ((m ++ [Bc.mk (5 : Int) (0 : Int) s] ++ exb (List.map E.parts [a, b]).flatten).length) = ((m ++ exb (E.two s a b).parts).length) by simp [E.parts, exb]))).trans (congrArg (fun x => Out.val (V.vec (0 : Nat) (m ++ exb (E.two s a b).parts).length (3 : Nat) (0 : Nat) (m ++ exb (E.two s a b).parts).length) [Ob.vec true (3 : Nat) x]) (show (bcc (m ++ [Bc.mk (5 : Int) (0 : Int) s] ++ exb (List.map E.parts [a, b]).flatten)) = (bcc (m ++ exb (E.two s a b).parts)) by simp [E.parts, exb])))
theorem l2FlatN_ev : ∀ (e : E), e.size ≤ 1000000 → Ev pr (.call 56 [vs e.ts, .t .nils] []) (.val (.vec 0 (exb e.parts).length 3 0 (exb e.parts).length) [.vec true 3 (bcc (exb e.parts))])
  | .num n, h => by
    simp only [E.size] at h
    have hl := fLN_ev [] [] ([⟨1, n, e0⟩]) (by first | (simp; done) | (simp; omega)) (by simp) (fun x hx => by cases hx)
    let t3 : Tp pr := .n .crows (show (List.take (1 : Nat) (List.drop (0 : Nat) [[C.t (T.int IntKind.i64 (1 : Int)), C.t (T.int IntKind.i64 (E.num n).nm), C.t (T.str (E.num n).text)]])) = bcc [Bc.mk (1 : Int) n (ByteArray.mk #[])] by simp)
    let t4 : Tp pr := .i (rfl : ((0 : Int) : Int) = (0 : Int))
    exact .tp [.m (rfl : true = true), .m (rfl : true = true), .c (rfl : ((1 : Nat)) = _), t3, t4, .a (hl)] (by kernel_rfl)
  | .name s, h => by
    simp only [E.size] at h
    have hl := fLN_ev [] [] ([⟨2, 0, s⟩]) (by first | (simp; done) | (simp; omega)) (by simp) (fun x hx => by cases hx)
    let t3 : Tp pr := .n .crows (show (List.take (1 : Nat) (List.drop (0 : Nat) [[C.t (T.int IntKind.i64 (2 : Int)), C.t (T.int IntKind.i64 (0 : Int)), C.t (T.str (E.name s).text)]])) = bcc [Bc.mk (2 : Int) (0 : Int) s] by simp)
    let t4 : Tp pr := .i (rfl : ((0 : Int) : Int) = (0 : Int))
    exact .tp [.m (rfl : true = true), .m (rfl : true = true), .c (rfl : ((1 : Nat)) = _), t3, t4, .a (hl)] (by kernel_rfl)
  | .neg a, h => by
    simp only [E.size] at h
    have hl := fLN_ev [a] [] ([⟨3, 0, e0⟩]) (by first | (simp; done) | (simp; omega)) (by simp) (fun x hx m hm => by
      simp at hx
      rw [hx] at hm ⊢
      exact l2Flat_ev a m hm)
    let t3 : Tp pr := .n .crows (show (List.take (1 : Nat) (List.drop (0 : Nat) [[C.t (T.int IntKind.i64 (3 : Int)), C.t (T.int IntKind.i64 (0 : Int)), C.t (T.str a.neg.text)]])) = bcc [Bc.mk (3 : Int) (0 : Int) (ByteArray.mk #[])] by simp)
    let t4 : Tp pr := .i (rfl : ((1 : Int) : Int) = (1 : Int))
    exact .tpe [.m (rfl : true = true), .m (rfl : true = true), .c (rfl : ((1 : Nat)) = _), t3, t4, .a (hl)] (Out.val (V.vec (0 : Nat) ([Bc.mk (3 : Int) (0 : Int) e0] ++ exb (List.map E.parts [a]).flatten).length (3 : Nat) (0 : Nat) ([Bc.mk (3 : Int) (0 : Int) e0] ++ exb (List.map E.parts [a]).flatten).length) [Ob.vec true (3 : Nat) (bcc ([Bc.mk (3 : Int) (0 : Int) e0] ++ exb (List.map E.parts [a]).flatten))]) (by kernel_rfl) (((congrArg (fun x => Out.val (V.vec (0 : Nat) x (3 : Nat) (0 : Nat) ([Bc.mk (3 : Int) (0 : Int) e0] ++ exb (List.map E.parts [a]).flatten).length) [Ob.vec true (3 : Nat) (bcc ([Bc.mk (3 : Int) (0 : Int) e0] ++ exb (List.map E.parts [a]).flatten))]) (show (([Bc.mk (3 : Int) (0 : Int) e0] ++ exb (List.map E.parts [a]).flatten).length) = ((exb a.neg.parts).length) by simp [E.parts, exb])).trans (congrArg (fun x => Out.val (V.vec (0 : Nat) (exb a.neg.parts).length (3 : Nat) (0 : Nat) x) [Ob.vec true (3 : Nat) (bcc ([Bc.mk (3 : Int) (0 : Int) e0] ++ exb (List.map E.parts [a]).flatten))]) (show (([Bc.mk (3 : Int) (0 : Int) e0] ++ exb (List.map E.parts [a]).flatten).length) = ((exb a.neg.parts).length) by simp [E.parts, exb]))).trans (congrArg (fun x => Out.val (V.vec (0 : Nat) (exb a.neg.parts).length (3 : Nat) (0 : Nat) (exb a.neg.parts).length) [Ob.vec true (3 : Nat) x]) (show (bcc ([Bc.mk (3 : Int) (0 : Int) e0] ++ exb (List.map E.parts [a]).flatten)) = (bcc (exb a.neg.parts)) by simp [E.parts, exb])))
  | .not a, h => by
    simp only [E.size] at h
    have hl := fLN_ev [a] [] ([⟨4, 0, e0⟩]) (by first | (simp; done) | (simp; omega)) (by simp) (fun x hx m hm => by
      simp at hx
      rw [hx] at hm ⊢
      exact l2Flat_ev a m hm)
    let t3 : Tp pr := .n .crows (show (List.take (1 : Nat) (List.drop (0 : Nat) [[C.t (T.int IntKind.i64 (4 : Int)), C.t (T.int IntKind.i64 (0 : Int)), C.t (T.str a.not.text)]])) = bcc [Bc.mk (4 : Int) (0 : Int) (ByteArray.mk #[])] by simp)
    let t4 : Tp pr := .i (rfl : ((1 : Int) : Int) = (1 : Int))
    exact .tpe [.m (rfl : true = true), .m (rfl : true = true), .c (rfl : ((1 : Nat)) = _), t3, t4, .a (hl)] (Out.val (V.vec (0 : Nat) ([Bc.mk (4 : Int) (0 : Int) e0] ++ exb (List.map E.parts [a]).flatten).length (3 : Nat) (0 : Nat) ([Bc.mk (4 : Int) (0 : Int) e0] ++ exb (List.map E.parts [a]).flatten).length) [Ob.vec true (3 : Nat) (bcc ([Bc.mk (4 : Int) (0 : Int) e0] ++ exb (List.map E.parts [a]).flatten))]) (by kernel_rfl) (((congrArg (fun x => Out.val (V.vec (0 : Nat) x (3 : Nat) (0 : Nat) ([Bc.mk (4 : Int) (0 : Int) e0] ++ exb (List.map E.parts [a]).flatten).length) [Ob.vec true (3 : Nat) (bcc ([Bc.mk (4 : Int) (0 : Int) e0] ++ exb (List.map E.parts [a]).flatten))]) (show (([Bc.mk (4 : Int) (0 : Int) e0] ++ exb (List.map E.parts [a]).flatten).length) = ((exb a.not.parts).length) by simp [E.parts, exb])).trans (congrArg (fun x => Out.val (V.vec (0 : Nat) (exb a.not.parts).length (3 : Nat) (0 : Nat) x) [Ob.vec true (3 : Nat) (bcc ([Bc.mk (4 : Int) (0 : Int) e0] ++ exb (List.map E.parts [a]).flatten))]) (show (([Bc.mk (4 : Int) (0 : Int) e0] ++ exb (List.map E.parts [a]).flatten).length) = ((exb a.not.parts).length) by simp [E.parts, exb]))).trans (congrArg (fun x => Out.val (V.vec (0 : Nat) (exb a.not.parts).length (3 : Nat) (0 : Nat) (exb a.not.parts).length) [Ob.vec true (3 : Nat) x]) (show (bcc ([Bc.mk (4 : Int) (0 : Int) e0] ++ exb (List.map E.parts [a]).flatten)) = (bcc (exb a.not.parts)) by simp [E.parts, exb])))
  | .two s a b, h => by
    simp only [E.size] at h
    have hl := fLN_ev [a, b] [] ([⟨5, 0, s⟩]) (by first | (simp; done) | (simp; omega)) (by simp) (fun x hx m hm => by
      simp at hx
      rcases hx with hx | hx
      · rw [hx] at hm ⊢; exact l2Flat_ev a m hm
      · rw [hx] at hm ⊢; exact l2Flat_ev b m hm)
    let t3 : Tp pr := .n .crows (show (List.take (1 : Nat) (List.drop (0 : Nat) [[C.t (T.int IntKind.i64 (5 : Int)), C.t (T.int IntKind.i64 (0 : Int)), C.t (T.str (E.two s a b).text)]])) = bcc [Bc.mk (5 : Int) (0 : Int) s] by simp)
    let t4 : Tp pr := .i (rfl : ((2 : Int) : Int) = (2 : Int))
    exact .tpe [.m (rfl : true = true), .m (rfl : true = true), .c (rfl : ((1 : Nat)) = _), t3, t4, .a (hl)] (Out.val (V.vec (0 : Nat) ([Bc.mk (5 : Int) (0 : Int) s] ++ exb (List.map E.parts [a, b]).flatten).length (3 : Nat) (0 : Nat) ([Bc.mk (5 : Int) (0 : Int) s] ++ exb (List.map E.parts [a, b]).flatten).length) [Ob.vec true (3 : Nat) (bcc ([Bc.mk (5 : Int) (0 : Int) s] ++ exb (List.map E.parts [a, b]).flatten))]) (by kernel_rfl) (((congrArg (fun x => Out.val (V.vec (0 : Nat) x (3 : Nat) (0 : Nat) ([Bc.mk (5 : Int) (0 : Int) s] ++ exb (List.map E.parts [a, b]).flatten).length) [Ob.vec true (3 : Nat) (bcc ([Bc.mk (5 : Int) (0 : Int) s] ++ exb (List.map E.parts [a, b]).flatten))]) (show (([Bc.mk (5 : Int) (0 : Int) s] ++ exb (List.map E.parts [a, b]).flatten).length) = ((exb (E.two s a b).parts).length) by simp [E.parts, exb])).trans (congrArg (fun x => Out.val (V.vec (0 : Nat) (exb (E.two s a b).parts).length (3 : Nat) (0 : Nat) x) [Ob.vec true (3 : Nat) (bcc ([Bc.mk (5 : Int) (0 : Int) s] ++ exb (List.map E.parts [a, b]).flatten))]) (show (([Bc.mk (5 : Int) (0 : Int) s] ++ exb (List.map E.parts [a, b]).flatten).length) = ((exb (E.two s a b).parts).length) by simp [E.parts, exb]))).trans (congrArg (fun x => Out.val (V.vec (0 : Nat) (exb (E.two s a b).parts).length (3 : Nat) (0 : Nat) (exb (E.two s a b).parts).length) [Ob.vec true (3 : Nat) x]) (show (bcc ([Bc.mk (5 : Int) (0 : Int) s] ++ exb (List.map E.parts [a, b]).flatten)) = (bcc (exb (E.two s a b).parts)) by simp [E.parts, exb])))
end Go.Ev

/- FoldExpr, the program's and the reference's. -/
namespace Go.Ev
set_option linter.unusedVariables false
set_option linter.unusedSimpArgs false
open Go.Proofs
set_option maxRecDepth 100000
set_option linter.unusedVariables false
set_option maxHeartbeats 1000000
theorem FoldExprI_ev (l : List Ex) (hl : l.length ≤ 1048576) (hs : ∀ x ∈ l, x.text.size ≤ 9223372036854775807) : Ev pr (.call 24 [exs l] []) (match foldX l with
    | some c => .val (.tup [.vec 0 c.length 3 0 c.length, bl true]) [.vec true 3 (bcc (exb c))]
    | none => .val (.tup [.t .nils, bl false]) []) := by
  have h := exprOf_ev l hl hs
  unfold foldX
  cases hp : parse l with
  | none => rw [hp] at h; simp only [Option.map_none]; exact .tp [.a (h), .b (rfl : true = true)] (by kernel_rfl)
  | some e =>
    rw [hp] at h
    have hz := parse_size hp
    have ho := parse_ok hp
    have h2 := fold_ev e ho
    have h3 := foldE_size e
    have h4 := partsN_ev (foldE e).1 (by omega)
    simp only [Option.map_some]
    exact .tpe [.a (h), .b (rfl : false = false), .a (h2), .a (h4)] (Out.val (V.tup [V.vec (0 : Nat) (exb (foldE e).fst.parts).length (3 : Nat) (0 : Nat) (exb (foldE e).fst.parts).length, V.t (T.bool true)]) [Ob.vec true (3 : Nat) (bcc (exb (foldE e).fst.parts))]) (by kernel_rfl) ((congrArg (fun x => Out.val (V.tup [V.vec (0 : Nat) x (3 : Nat) (0 : Nat) (exb (foldE e).fst.parts).length, V.t (T.bool true)]) [Ob.vec true (3 : Nat) (bcc (exb (foldE e).fst.parts))]) (show ((exb (foldE e).fst.parts).length) = ((foldE e).fst.parts.length) by simp)).trans (congrArg (fun x => Out.val (V.tup [V.vec (0 : Nat) (foldE e).fst.parts.length (3 : Nat) (0 : Nat) x, V.t (T.bool true)]) [Ob.vec true (3 : Nat) (bcc (exb (foldE e).fst.parts))]) (show ((exb (foldE e).fst.parts).length) = ((foldE e).fst.parts.length) by simp)))
theorem FoldExprS_ev (l : List Ex) (hl : l.length ≤ 1048576) (hs : ∀ x ∈ l, x.text.size ≤ 9223372036854775807) : Ev pr (.call 23 [exs l] []) (match foldX l with
    | some c => .val (.tup [exs c, bl true]) []
    | none => .val (.tup [.t (.seq 3 []), bl false]) []) := by
  have h := l2Tree_ev l hl hs
  unfold foldX
  cases hp : parse l with
  | none => rw [hp] at h; simp only [Option.map_none]; exact .tp [.a (h), .b (rfl : true = true)] (by kernel_rfl)
  | some e =>
    rw [hp, parse_tree hp] at h
    have hz := parse_size hp
    have ho := parse_ok hp
    have h2 := l2Fold_ev e ho
    have h3 := foldE_size e
    have h4 := l2FlatN_ev (foldE e).1 (by omega)
    simp only [Option.map_some]
    let t4 : Tp pr := .m (show (decide ((bcc (exb (foldE e).fst.parts)).length = (exb (foldE e).fst.parts).length ∧ (0 : Nat) + (exb (foldE e).fst.parts).length ≤ (exb (foldE e).fst.parts).length)) = true by simp)
    let t5 : Tp pr := .n .rows (show (List.map (fun x => List.map C.fz x) (List.take (exb (foldE e).fst.parts).length (List.drop (0 : Nat) (bcc (exb (foldE e).fst.parts))))) = List.map Ex.ce (foldE e).fst.parts by simp)
    exact .tp [.a (h), .b (rfl : false = false), .a (h2), .a (h4), t4, t5] (by kernel_rfl)
end Go.Ev

/- Marks. -/
namespace Go.Ev
set_option linter.unusedVariables false
set_option linter.unusedSimpArgs false
open Go.Proofs
set_option maxRecDepth 100000
set_option linter.unusedVariables false
set_option maxHeartbeats 1000000
attribute [local simp] e0
theorem markTextL_ev : ∀ (n : Nat) (k : Int) (o : ByteArray), 0 ≤ k → k < 10 ^ n → o.size + n ≤ 1000 → n ≤ 18 →
    Ev pr (.loop (lq pr 54 0) (at_ [(0, i64 k), (3, .t (.str o))] [] 0)) (.exit 0 (at_ [(3, .t (.str (mtGo n k o)))] [] 0))
  | 0, k, o, h0, h1, h2, h3 => by
    have hk : k = 0 := by simp at h1; omega
    subst hk
    exact .tp [.b (rfl : false = false)] (by kernel_rfl)
  | n + 1, k, o, h0, h1, h2, h3 => by
    have hp : (10 : Int) ^ (n + 1) = 10 * 10 ^ n := by rw [Int.pow_succ]; omega
    have hb : (10 : Int) ^ n ≤ 10 ^ 17 := by
      have : n ≤ 17 := by omega
      exact_mod_cast Nat.pow_le_pow_right (by omega) this
    have hb2 : (10 : Int) ^ 17 = 100000000000000000 := by decide
    have hm0 : 0 ≤ k.tmod 10 := Int.tmod_nonneg _ h0
    have hm1 : k.tmod 10 < 10 := Int.tmod_lt_of_pos _ (by omega)
    have hd : k.tdiv 10 = k / 10 := Int.tdiv_eq_ediv_of_nonneg h0
    have hs : (strOf [48 + k.tmod 10]).size = 1 := by simp [strOf_size]
    by_cases hk : k > 0
    · have ih := markTextL_ev n (k.tdiv 10) (strOf [48 + k.tmod 10] ++ o) (by omega) (by omega) (by rw [ByteArray.size_append]; omega) (by omega)
      have e : mtGo (n + 1) k o = mtGo n (k.tdiv 10) (strOf [48 + k.tmod 10] ++ o) := by simp [mtGo, hk]
      rw [e]
      let t0 : Tp pr := .b (show (decide (k > (0 : Int))) = true by (simp; omega))
      let t3 : Tp pr := .i (wrap_i64 (a := (48 : Int) + k.tmod (10 : Int)) (by omega) (by omega))
      let t4 : Tp pr := .i (wrap_u8 (a := (48 : Int) + k.tmod (10 : Int)) (by omega) (by omega))
      let t6 : Tp pr := .n .rows (show (List.map (fun x => List.map C.fz x) (List.take (1 : Nat) (List.drop (0 : Nat) [[C.t (T.int IntKind.u8 ((48 : Int) + k.tmod (10 : Int)))]]))) = [[(C.t (T.int IntKind.u8 ((48 : Int) + k.tmod (10 : Int)))).fz]] by simp)
      let t7 : Tp pr := .m (show (decide ((1 : Nat) + o.size ≤ (9223372036854775807 : Nat))) = true by (simp; omega))
      let t8 : Tp pr := .n .str (show ((ByteArray.mk (Array.mk [UInt8.ofNat ((48 : Int) + k.tmod (10 : Int)).toNat])).append o) = ByteArray.mk (Array.mk [UInt8.ofNat ((48 : Int) + k.tmod (10 : Int)).toNat]) ++ o by simp)
      let t10 : Tp pr := .i (wrap_i64 (a := k.tdiv (10 : Int)) (by omega) (by omega))
      exact .tp [t0, .m (rfl : true = true), .i (rfl : (k.tmod (10 : Int)) = _), t3, t4, .m (rfl : true = true), t6, t7, t8, .m (rfl : true = true), t10, .a (ih)] (by kernel_rfl)
    · have e : mtGo (n + 1) k o = o := by simp [mtGo, hk]
      rw [e]
      let t0 : Tp pr := .b (show (decide (k > (0 : Int))) = false by (simp; omega))
      exact .tp [t0] (by kernel_rfl)
theorem markText_ev (k : Int) (h0 : 0 ≤ k) (h : k ≤ 10000000000) : Ev pr (.call 54 [i64 k] []) (.val (.t (.str (mText k))) []) := by
  unfold mText
  by_cases hk : k ≤ 0
  · rw [if_pos hk]; (
    let t0 : Tp pr := .b (show (decide (k ≤ (0 : Int))) = true by (simp; omega))
    exact .tp [t0] (by kernel_rfl))
  · rw [if_neg hk]
    have hl := markTextL_ev 18 k ⟨#[]⟩ h0 (by omega) (by decide) (by omega)
    have hz : (mtGo 18 k ⟨#[]⟩).size ≤ 1000 := mtGo_size 18 k ⟨#[]⟩ (by decide)
    let t0 : Tp pr := .b (show (decide (k ≤ (0 : Int))) = false by (simp; omega))
    let t2 : Tp pr := .m (show (decide ((1 : Nat) + (mtGo (18 : Nat) k (ByteArray.mk #[])).size ≤ (9223372036854775807 : Nat))) = true by (simp; omega))
    let t3 : Tp pr := .n .str (show ((ByteArray.mk #[(109 : UInt8)]).append (mtGo (18 : Nat) k (ByteArray.mk #[]))) = ByteArray.mk #[(109 : UInt8)] ++ mtGo (18 : Nat) k (ByteArray.mk #[]) by simp)
    exact .tp [t0, .a (hl), t2, t3] (by kernel_rfl)
theorem markBcL_ev (mt : Int → ByteArray) (hmt : ∀ k, 0 ≤ k → k ≤ 10000000000 → Ev pr (.call 54 [i64 k] []) (.val (.t (.str (mt k))) [])) : ∀ (rest m : List Bc) (k : Int), 0 ≤ k → k + 3 * rest.length ≤ 9000000 → m.length + rest.length ≤ 1048576 →
    Ev pr (.loop (lq pr 21 0) (at_ [(0, .vec 0 (m.length + rest.length) 3 0 (m.length + rest.length)), (1, i64 k), (5, i64 m.length)] [.vec true 3 (bcc (m ++ rest))] 1))
      (.exit 0 (at_ [(1, i64 (k + 3 * rest.length))] [.vec true 3 (bcc (m ++ mark3 mt k rest.length))] 1))
  | [], m, k, h0, h1, h2 => by
    let t0 : Tp pr := .i (show ((↑(m.length + (0 : Nat)) : Int) : Int) = (↑m.length : Int) by omega)
    let t1 : Tp pr := .b (show (decide ((↑m.length : Int) < (↑m.length : Int))) = false by simp)
    exact .tpe [t0, t1] (Out.exit (0 : Nat) (at_ [((1 : Nat), V.t (T.int IntKind.i64 k))] [Ob.vec true (3 : Nat) (bcc (m ++ []))] (1 : Nat))) (by kernel_rfl) ((congrArg (fun x => Out.exit (0 : Nat) (at_ [((1 : Nat), V.t (T.int IntKind.i64 x))] [Ob.vec true (3 : Nat) (bcc (m ++ []))] (1 : Nat))) (show (k) = (k + (0 : Int)) by simp [mark3])).trans (congrArg (fun x => Out.exit (0 : Nat) (at_ [((1 : Nat), V.t (T.int IntKind.i64 (k + (0 : Int))))] [Ob.vec true (3 : Nat) x] (1 : Nat))) (show (bcc (m ++ [])) = (bcc (m ++ mark3 mt k (0 : Nat))) by simp [mark3])))
  | x :: rest, m, k, h0, h1, h2 => by
    simp at h1 h2
    have ht := hmt (k + 1 + 1) (by omega) (by omega)
    have ih := markBcL_ev mt hmt rest (m ++ [⟨k, k + 1, mt (k + 1 + 1)⟩]) (k + 1 + 1 + 1) (by omega) (by omega) (by simp; omega)
    let t0 : Tp pr := .i (show ((↑(m.length + (x :: rest).length) : Int) : Int) = (↑m.length : Int) + ((↑rest.length : Int) + (1 : Int)) by simp)
    let t1 : Tp pr := .b (show (decide ((↑m.length : Int) < (↑m.length : Int) + ((↑rest.length : Int) + (1 : Int)))) = true by (simp; omega))
    let t2 : Tp pr := .m (show (decide ((0 : Int) ≤ (↑m.length : Int) ∧ (↑m.length : Int).toNat < m.length + (x :: rest).length)) = true by simp)
    let t3 : Tp pr := .c (show ((0 : Nat) + (↑m.length : Int).toNat : Nat) = m.length by omega)
    let t4 : Tp pr := .m (show (decide ((bcc (m ++ x :: rest)).length = m.length + (x :: rest).length)) = true by simp)
    let t5 : Tp pr := .g .crow (show ((bcc (m ++ x :: rest))[m.length]?) = some ([C.t (T.int IntKind.i64 x.op), C.t (T.int IntKind.i64 x.n), C.t (T.str x.text)]) by simp)
    let t6 : Tp pr := .m (show (decide ((bcc (m ++ x :: rest)).length = m.length + (x :: rest).length)) = true by simp)
    let t7 : Tp pr := .g .crow (show ((bcc (m ++ x :: rest))[m.length]?) = some ([C.t (T.int IntKind.i64 x.op), C.t (T.int IntKind.i64 x.n), C.t (T.str x.text)]) by simp)
    let t8 : Tp pr := .n .crows (show ((bcc (m ++ x :: rest)).set m.length [C.t (T.int IntKind.i64 k), C.t (T.int IntKind.i64 x.n), C.t (T.str x.text)]) = bcc (m ++ Bc.mk k x.n x.text :: rest) by simp)
    let t9 : Tp pr := .i (wrap_i64 (a := k + (1 : Int)) (by omega) (by omega))
    let t10 : Tp pr := .m (show (decide ((0 : Int) ≤ (↑m.length : Int) ∧ (↑m.length : Int).toNat < m.length + (x :: rest).length)) = true by simp)
    let t11 : Tp pr := .c (show ((0 : Nat) + (↑m.length : Int).toNat : Nat) = m.length by omega)
    let t12 : Tp pr := .m (show (decide ((bcc (m ++ Bc.mk k x.n x.text :: rest)).length = m.length + (x :: rest).length)) = true by simp)
    let t13 : Tp pr := .g .crow (show ((bcc (m ++ Bc.mk k x.n x.text :: rest))[m.length]?) = some ([C.t (T.int IntKind.i64 k), C.t (T.int IntKind.i64 x.n), C.t (T.str x.text)]) by simp)
    let t14 : Tp pr := .n .crows (show ((bcc (m ++ Bc.mk k x.n x.text :: rest)).set m.length [C.t (T.int IntKind.i64 k), C.t (T.int IntKind.i64 (k + (1 : Int))), C.t (T.str x.text)]) = bcc (m ++ Bc.mk k (k + (1 : Int)) x.text :: rest) by simp)
    let t15 : Tp pr := .i (wrap_i64 (a := k + (1 : Int) + (1 : Int)) (by omega) (by omega))
    let t16 : Tp pr := .a (hmt (k + (1 : Int) + (1 : Int)) (by omega) (by omega))
    let t17 : Tp pr := .m (show (decide ((0 : Int) ≤ (↑m.length : Int) ∧ (↑m.length : Int).toNat < m.length + (x :: rest).length)) = true by simp)
    let t18 : Tp pr := .c (show ((0 : Nat) + (↑m.length : Int).toNat : Nat) = m.length by omega)
    let t19 : Tp pr := .m (show (decide ((bcc (m ++ Bc.mk k (k + (1 : Int)) x.text :: rest)).length = m.length + (x :: rest).length)) = true by simp)
    let t20 : Tp pr := .g .crow (show ((bcc (m ++ Bc.mk k (k + (1 : Int)) x.text :: rest))[m.length]?) = some ([C.t (T.int IntKind.i64 k), C.t (T.int IntKind.i64 (k + (1 : Int))), C.t (T.str x.text)]) by simp)
    let t21 : Tp pr := .n .crows (show ((bcc (m ++ Bc.mk k (k + (1 : Int)) x.text :: rest)).set m.length [C.t (T.int IntKind.i64 k), C.t (T.int IntKind.i64 (k + (1 : Int))), C.t (T.str (mt (k + (1 : Int) + (1 : Int))))]) = bcc (m ++ Bc.mk k (k + (1 : Int)) (mt (k + (1 : Int) + (1 : Int))) :: rest) by simp)
    let t22 : Tp pr := .i (wrap_i64 (a := k + (1 : Int) + (1 : Int) + (1 : Int)) (by omega) (by omega))
    let t23 : Tp pr := .i (wrap_i64 (a := (↑m.length : Int) + (1 : Int)) (by omega) (by omega))
    let t24 : Tp pr := .a (Ev.castq (((congrArg (fun x => Q.loop (lq pr (21 : FuncId) (0 : Nat)) (at_ [((0 : Nat), V.vec (0 : Nat) x (3 : Nat) (0 : Nat) x), ((1 : Nat), i64 (k + (1 : Int) + (1 : Int) + (1 : Int))), ((5 : Nat), i64 (↑(m ++ [Bc.mk k (k + (1 : Int)) (mt (k + (1 : Int) + (1 : Int)))]).length : Int))] [Ob.vec true (3 : Nat) (bcc (m ++ [Bc.mk k (k + (1 : Int)) (mt (k + (1 : Int) + (1 : Int)))] ++ rest))] (1 : Nat))) (show ((m ++ [Bc.mk k (k + (1 : Int)) (mt (k + (1 : Int) + (1 : Int)))]).length + rest.length) = (m.length + (x :: rest).length) by (simp [mark3] <;> omega))).trans (congrArg (fun x_1 => Q.loop (lq pr (21 : FuncId) (0 : Nat)) (at_ [((0 : Nat), V.vec (0 : Nat) (m.length + (x :: rest).length) (3 : Nat) (0 : Nat) (m.length + (x :: rest).length)), ((1 : Nat), i64 (k + (1 : Int) + (1 : Int) + (1 : Int))), ((5 : Nat), i64 x_1)] [Ob.vec true (3 : Nat) (bcc (m ++ [Bc.mk k (k + (1 : Int)) (mt (k + (1 : Int) + (1 : Int)))] ++ rest))] (1 : Nat))) (show ((↑(m ++ [Bc.mk k (k + (1 : Int)) (mt (k + (1 : Int) + (1 : Int)))]).length : Int)) = ((↑m.length : Int) + (1 : Int)) by (simp [mark3] <;> omega)))).trans (congrArg (fun x_1 => Q.loop (lq pr (21 : FuncId) (0 : Nat)) (at_ [((0 : Nat), V.vec (0 : Nat) (m.length + (x :: rest).length) (3 : Nat) (0 : Nat) (m.length + (x :: rest).length)), ((1 : Nat), i64 (k + (1 : Int) + (1 : Int) + (1 : Int))), ((5 : Nat), i64 ((↑m.length : Int) + (1 : Int)))] [Ob.vec true (3 : Nat) x_1] (1 : Nat))) (show (bcc (m ++ [Bc.mk k (k + (1 : Int)) (mt (k + (1 : Int) + (1 : Int)))] ++ rest)) = (bcc (m ++ Bc.mk k (k + (1 : Int)) (mt (k + (1 : Int) + (1 : Int))) :: rest)) by (simp [mark3] <;> omega)))) (ih))
    exact .tpe [t0, t1, t2, t3, t4, t5, t6, t7, t8, t9, t10, t11, t12, t13, t14, t15, t16, t17, t18, t19, t20, t21, t22, t23, t24] (Out.exit (0 : Nat) (at_ [((1 : Nat), V.t (T.int IntKind.i64 (k + (1 : Int) + (1 : Int) + (1 : Int) + (3 : Int) * (↑rest.length : Int))))] [Ob.vec true (3 : Nat) (bcc (m ++ [Bc.mk k (k + (1 : Int)) (mt (k + (1 : Int) + (1 : Int)))] ++ mark3 mt (k + (1 : Int) + (1 : Int) + (1 : Int)) rest.length))] (1 : Nat))) (by kernel_rfl) ((congrArg (fun x => Out.exit (0 : Nat) (at_ [((1 : Nat), V.t (T.int IntKind.i64 x))] [Ob.vec true (3 : Nat) (bcc (m ++ [Bc.mk k (k + (1 : Int)) (mt (k + (1 : Int) + (1 : Int)))] ++ mark3 mt (k + (1 : Int) + (1 : Int) + (1 : Int)) rest.length))] (1 : Nat))) (show (k + (1 : Int) + (1 : Int) + (1 : Int) + (3 : Int) * (↑rest.length : Int)) = (k + (3 : Int) * (↑(x :: rest).length : Int)) by (simp [mark3] <;> omega))).trans (congrArg (fun x_1 => Out.exit (0 : Nat) (at_ [((1 : Nat), V.t (T.int IntKind.i64 (k + (3 : Int) * (↑(x :: rest).length : Int))))] [Ob.vec true (3 : Nat) x_1] (1 : Nat))) (show (bcc (m ++ [Bc.mk k (k + (1 : Int)) (mt (k + (1 : Int) + (1 : Int)))] ++ mark3 mt (k + (1 : Int) + (1 : Int) + (1 : Int)) rest.length)) = (bcc (m ++ mark3 mt k (x :: rest).length)) by (simp [mark3] <;> omega))))
theorem markBcS_ev (mt : Int → ByteArray) (hmt : ∀ k, 0 ≤ k → k ≤ 10000000000 → Ev pr (.call 54 [i64 k] []) (.val (.t (.str (mt k))) [])) (l : List Bc) (k : Int) (h0 : 0 ≤ k) (h : k + 3 * l.length ≤ 9000000) (h2 : l.length ≤ 1048576) : Ev pr (.call 21 [.vec 0 l.length 3 0 l.length, i64 k] [.vec true 3 (bcc l)]) (.val (i64 (k + 3 * l.length)) [.vec true 3 (bcc (mark3 mt k l.length))]) := by
  have := markBcL_ev mt hmt l [] k h0 h (by simpa using h2)
  let t0 : Tp pr := .a (Ev.castq (congrArg (fun x => Q.loop (lq pr (21 : FuncId) (0 : Nat)) (at_ [((0 : Nat), V.vec (0 : Nat) x (3 : Nat) (0 : Nat) x), ((1 : Nat), i64 k), ((5 : Nat), i64 (↑(0 : Nat) : Int))] [Ob.vec true (3 : Nat) (bcc ([] ++ l))] (1 : Nat))) (show ((0 : Nat) + l.length) = (l.length) by simp)) (this))
  exact .tp [t0] (by kernel_rfl)
theorem markExL_ev (mt : Int → ByteArray) (hmt : ∀ k, 0 ≤ k → k ≤ 10000000000 → Ev pr (.call 54 [i64 k] []) (.val (.t (.str (mt k))) [])) : ∀ (rest m : List Bc) (k : Int), 0 ≤ k → k + 3 * rest.length ≤ 9000000 → m.length + rest.length ≤ 1048576 →
    Ev pr (.loop (lq pr 20 0) (at_ [(0, .vec 0 (m.length + rest.length) 3 0 (m.length + rest.length)), (1, i64 k), (5, i64 m.length)] [.vec true 3 (bcc (m ++ rest))] 1))
      (.exit 0 (at_ [(1, i64 (k + 3 * rest.length))] [.vec true 3 (bcc (m ++ mark3 mt k rest.length))] 1))
  | [], m, k, h0, h1, h2 => by
    let t0 : Tp pr := .i (show ((↑(m.length + (0 : Nat)) : Int) : Int) = (↑m.length : Int) by omega)
    let t1 : Tp pr := .b (show (decide ((↑m.length : Int) < (↑m.length : Int))) = false by simp)
    exact .tpe [t0, t1] (Out.exit (0 : Nat) (at_ [((1 : Nat), V.t (T.int IntKind.i64 k))] [Ob.vec true (3 : Nat) (bcc (m ++ []))] (1 : Nat))) (by kernel_rfl) ((congrArg (fun x => Out.exit (0 : Nat) (at_ [((1 : Nat), V.t (T.int IntKind.i64 x))] [Ob.vec true (3 : Nat) (bcc (m ++ []))] (1 : Nat))) (show (k) = (k + (0 : Int)) by simp [mark3])).trans (congrArg (fun x => Out.exit (0 : Nat) (at_ [((1 : Nat), V.t (T.int IntKind.i64 (k + (0 : Int))))] [Ob.vec true (3 : Nat) x] (1 : Nat))) (show (bcc (m ++ [])) = (bcc (m ++ mark3 mt k (0 : Nat))) by simp [mark3])))
  | x :: rest, m, k, h0, h1, h2 => by
    simp at h1 h2
    have ht := hmt (k + 1 + 1) (by omega) (by omega)
    have ih := markExL_ev mt hmt rest (m ++ [⟨k, k + 1, mt (k + 1 + 1)⟩]) (k + 1 + 1 + 1) (by omega) (by omega) (by simp; omega)
    let t0 : Tp pr := .i (show ((↑(m.length + (x :: rest).length) : Int) : Int) = (↑m.length : Int) + ((↑rest.length : Int) + (1 : Int)) by simp)
    let t1 : Tp pr := .b (show (decide ((↑m.length : Int) < (↑m.length : Int) + ((↑rest.length : Int) + (1 : Int)))) = true by (simp; omega))
    let t2 : Tp pr := .m (show (decide ((0 : Int) ≤ (↑m.length : Int) ∧ (↑m.length : Int).toNat < m.length + (x :: rest).length)) = true by simp)
    let t3 : Tp pr := .c (show ((0 : Nat) + (↑m.length : Int).toNat : Nat) = m.length by omega)
    let t4 : Tp pr := .m (show (decide ((bcc (m ++ x :: rest)).length = m.length + (x :: rest).length)) = true by simp)
    let t5 : Tp pr := .g .crow (show ((bcc (m ++ x :: rest))[m.length]?) = some ([C.t (T.int IntKind.i64 x.op), C.t (T.int IntKind.i64 x.n), C.t (T.str x.text)]) by simp)
    let t6 : Tp pr := .m (show (decide ((bcc (m ++ x :: rest)).length = m.length + (x :: rest).length)) = true by simp)
    let t7 : Tp pr := .g .crow (show ((bcc (m ++ x :: rest))[m.length]?) = some ([C.t (T.int IntKind.i64 x.op), C.t (T.int IntKind.i64 x.n), C.t (T.str x.text)]) by simp)
    let t8 : Tp pr := .n .crows (show ((bcc (m ++ x :: rest)).set m.length [C.t (T.int IntKind.i64 k), C.t (T.int IntKind.i64 x.n), C.t (T.str x.text)]) = bcc (m ++ Bc.mk k x.n x.text :: rest) by simp)
    let t9 : Tp pr := .i (wrap_i64 (a := k + (1 : Int)) (by omega) (by omega))
    let t10 : Tp pr := .m (show (decide ((0 : Int) ≤ (↑m.length : Int) ∧ (↑m.length : Int).toNat < m.length + (x :: rest).length)) = true by simp)
    let t11 : Tp pr := .c (show ((0 : Nat) + (↑m.length : Int).toNat : Nat) = m.length by omega)
    let t12 : Tp pr := .m (show (decide ((bcc (m ++ Bc.mk k x.n x.text :: rest)).length = m.length + (x :: rest).length)) = true by simp)
    let t13 : Tp pr := .g .crow (show ((bcc (m ++ Bc.mk k x.n x.text :: rest))[m.length]?) = some ([C.t (T.int IntKind.i64 k), C.t (T.int IntKind.i64 x.n), C.t (T.str x.text)]) by simp)
    let t14 : Tp pr := .n .crows (show ((bcc (m ++ Bc.mk k x.n x.text :: rest)).set m.length [C.t (T.int IntKind.i64 k), C.t (T.int IntKind.i64 (k + (1 : Int))), C.t (T.str x.text)]) = bcc (m ++ Bc.mk k (k + (1 : Int)) x.text :: rest) by simp)
    let t15 : Tp pr := .i (wrap_i64 (a := k + (1 : Int) + (1 : Int)) (by omega) (by omega))
    let t16 : Tp pr := .a (hmt (k + (1 : Int) + (1 : Int)) (by omega) (by omega))
    let t17 : Tp pr := .m (show (decide ((0 : Int) ≤ (↑m.length : Int) ∧ (↑m.length : Int).toNat < m.length + (x :: rest).length)) = true by simp)
    let t18 : Tp pr := .c (show ((0 : Nat) + (↑m.length : Int).toNat : Nat) = m.length by omega)
    let t19 : Tp pr := .m (show (decide ((bcc (m ++ Bc.mk k (k + (1 : Int)) x.text :: rest)).length = m.length + (x :: rest).length)) = true by simp)
    let t20 : Tp pr := .g .crow (show ((bcc (m ++ Bc.mk k (k + (1 : Int)) x.text :: rest))[m.length]?) = some ([C.t (T.int IntKind.i64 k), C.t (T.int IntKind.i64 (k + (1 : Int))), C.t (T.str x.text)]) by simp)
    let t21 : Tp pr := .n .crows (show ((bcc (m ++ Bc.mk k (k + (1 : Int)) x.text :: rest)).set m.length [C.t (T.int IntKind.i64 k), C.t (T.int IntKind.i64 (k + (1 : Int))), C.t (T.str (mt (k + (1 : Int) + (1 : Int))))]) = bcc (m ++ Bc.mk k (k + (1 : Int)) (mt (k + (1 : Int) + (1 : Int))) :: rest) by simp)
    let t22 : Tp pr := .i (wrap_i64 (a := k + (1 : Int) + (1 : Int) + (1 : Int)) (by omega) (by omega))
    let t23 : Tp pr := .i (wrap_i64 (a := (↑m.length : Int) + (1 : Int)) (by omega) (by omega))
    let t24 : Tp pr := .a (Ev.castq (((congrArg (fun x => Q.loop (lq pr (20 : FuncId) (0 : Nat)) (at_ [((0 : Nat), V.vec (0 : Nat) x (3 : Nat) (0 : Nat) x), ((1 : Nat), i64 (k + (1 : Int) + (1 : Int) + (1 : Int))), ((5 : Nat), i64 (↑(m ++ [Bc.mk k (k + (1 : Int)) (mt (k + (1 : Int) + (1 : Int)))]).length : Int))] [Ob.vec true (3 : Nat) (bcc (m ++ [Bc.mk k (k + (1 : Int)) (mt (k + (1 : Int) + (1 : Int)))] ++ rest))] (1 : Nat))) (show ((m ++ [Bc.mk k (k + (1 : Int)) (mt (k + (1 : Int) + (1 : Int)))]).length + rest.length) = (m.length + (x :: rest).length) by (simp [mark3] <;> omega))).trans (congrArg (fun x_1 => Q.loop (lq pr (20 : FuncId) (0 : Nat)) (at_ [((0 : Nat), V.vec (0 : Nat) (m.length + (x :: rest).length) (3 : Nat) (0 : Nat) (m.length + (x :: rest).length)), ((1 : Nat), i64 (k + (1 : Int) + (1 : Int) + (1 : Int))), ((5 : Nat), i64 x_1)] [Ob.vec true (3 : Nat) (bcc (m ++ [Bc.mk k (k + (1 : Int)) (mt (k + (1 : Int) + (1 : Int)))] ++ rest))] (1 : Nat))) (show ((↑(m ++ [Bc.mk k (k + (1 : Int)) (mt (k + (1 : Int) + (1 : Int)))]).length : Int)) = ((↑m.length : Int) + (1 : Int)) by (simp [mark3] <;> omega)))).trans (congrArg (fun x_1 => Q.loop (lq pr (20 : FuncId) (0 : Nat)) (at_ [((0 : Nat), V.vec (0 : Nat) (m.length + (x :: rest).length) (3 : Nat) (0 : Nat) (m.length + (x :: rest).length)), ((1 : Nat), i64 (k + (1 : Int) + (1 : Int) + (1 : Int))), ((5 : Nat), i64 ((↑m.length : Int) + (1 : Int)))] [Ob.vec true (3 : Nat) x_1] (1 : Nat))) (show (bcc (m ++ [Bc.mk k (k + (1 : Int)) (mt (k + (1 : Int) + (1 : Int)))] ++ rest)) = (bcc (m ++ Bc.mk k (k + (1 : Int)) (mt (k + (1 : Int) + (1 : Int))) :: rest)) by (simp [mark3] <;> omega)))) (ih))
    exact .tpe [t0, t1, t2, t3, t4, t5, t6, t7, t8, t9, t10, t11, t12, t13, t14, t15, t16, t17, t18, t19, t20, t21, t22, t23, t24] (Out.exit (0 : Nat) (at_ [((1 : Nat), V.t (T.int IntKind.i64 (k + (1 : Int) + (1 : Int) + (1 : Int) + (3 : Int) * (↑rest.length : Int))))] [Ob.vec true (3 : Nat) (bcc (m ++ [Bc.mk k (k + (1 : Int)) (mt (k + (1 : Int) + (1 : Int)))] ++ mark3 mt (k + (1 : Int) + (1 : Int) + (1 : Int)) rest.length))] (1 : Nat))) (by kernel_rfl) ((congrArg (fun x => Out.exit (0 : Nat) (at_ [((1 : Nat), V.t (T.int IntKind.i64 x))] [Ob.vec true (3 : Nat) (bcc (m ++ [Bc.mk k (k + (1 : Int)) (mt (k + (1 : Int) + (1 : Int)))] ++ mark3 mt (k + (1 : Int) + (1 : Int) + (1 : Int)) rest.length))] (1 : Nat))) (show (k + (1 : Int) + (1 : Int) + (1 : Int) + (3 : Int) * (↑rest.length : Int)) = (k + (3 : Int) * (↑(x :: rest).length : Int)) by (simp [mark3] <;> omega))).trans (congrArg (fun x_1 => Out.exit (0 : Nat) (at_ [((1 : Nat), V.t (T.int IntKind.i64 (k + (3 : Int) * (↑(x :: rest).length : Int))))] [Ob.vec true (3 : Nat) x_1] (1 : Nat))) (show (bcc (m ++ [Bc.mk k (k + (1 : Int)) (mt (k + (1 : Int) + (1 : Int)))] ++ mark3 mt (k + (1 : Int) + (1 : Int) + (1 : Int)) rest.length)) = (bcc (m ++ mark3 mt k (x :: rest).length)) by (simp [mark3] <;> omega))))
theorem markExS_ev (mt : Int → ByteArray) (hmt : ∀ k, 0 ≤ k → k ≤ 10000000000 → Ev pr (.call 54 [i64 k] []) (.val (.t (.str (mt k))) [])) (l : List Bc) (k : Int) (h0 : 0 ≤ k) (h : k + 3 * l.length ≤ 9000000) (h2 : l.length ≤ 1048576) : Ev pr (.call 20 [.vec 0 l.length 3 0 l.length, i64 k] [.vec true 3 (bcc l)]) (.val (i64 (k + 3 * l.length)) [.vec true 3 (bcc (mark3 mt k l.length))]) := by
  have := markExL_ev mt hmt l [] k h0 h (by simpa using h2)
  let t0 : Tp pr := .a (Ev.castq (congrArg (fun x => Q.loop (lq pr (20 : FuncId) (0 : Nat)) (at_ [((0 : Nat), V.vec (0 : Nat) x (3 : Nat) (0 : Nat) x), ((1 : Nat), i64 k), ((5 : Nat), i64 (↑(0 : Nat) : Int))] [Ob.vec true (3 : Nat) (bcc ([] ++ l))] (1 : Nat))) (show ((0 : Nat) + l.length) = (l.length) by simp)) (this))
  exact .tp [t0] (by kernel_rfl)
theorem heldBcL_ev (mt : Int → ByteArray) (hmt : ∀ k, 0 ≤ k → k ≤ 10000000000 → Ev pr (.call 54 [i64 k] []) (.val (.t (.str (mt k))) [])) : ∀ (n : Nat) (m : List Bc) (k : Int), 0 ≤ k → k + 3 * n ≤ 9000000 → m.length + n ≤ 1048576 →
    Ev pr (.loop (lq pr 22 0) (at_ [(0, bcs (m ++ mark3 mt k n)), (1, i64 k), (5, i64 m.length)] [] 0)) (.exit 0 (at_ [(1, i64 (k + 3 * n))] [] 0))
  | 0, m, k, h0, h1, h2 => by
    let t0 : Tp pr := .i (show ((↑(List.map Bc.ce (m ++ mark3 mt k (0 : Nat))).length : Int) : Int) = (↑m.length : Int) + (↑(mark3 mt k (0 : Nat)).length : Int) by simp)
    let t1 : Tp pr := .b (show (decide ((↑m.length : Int) < (↑m.length : Int) + (0 : Int))) = false by simp)
    exact .tpe [t0, t1] (Out.exit (0 : Nat) (at_ [((1 : Nat), V.t (T.int IntKind.i64 k))] [] (0 : Nat))) (by kernel_rfl) (congrArg (fun x => Out.exit (0 : Nat) (at_ [((1 : Nat), V.t (T.int IntKind.i64 x))] [] (0 : Nat))) (show (k) = (k + (0 : Int)) by simp [mark3]))
  | n + 1, m, k, h0, h1, h2 => by
    have ht := hmt (k + 1 + 1) (by omega) (by omega)
    have ih := heldBcL_ev mt hmt n (m ++ [⟨k, k + 1, mt (k + 1 + 1)⟩]) (k + 1 + 1 + 1) (by omega) (by omega) (by simp; omega)
    have hm := mark3_len mt (k + 1 + 1 + 1) n
    rw [show mark3 mt k (n + 1) = ⟨k, k + 1, mt (k + 1 + 1)⟩ :: mark3 mt (k + 1 + 1 + 1) n from rfl]
    let t0 : Tp pr := .i (show ((↑(List.map Bc.ce (m ++ Bc.mk k (k + (1 : Int)) (mt (k + (1 : Int) + (1 : Int))) :: mark3 mt (k + (1 : Int) + (1 : Int) + (1 : Int)) n)).length : Int) : Int) = (↑m.length : Int) + ((↑(mark3 mt (k + (1 : Int) + (1 : Int) + (1 : Int)) n).length : Int) + (1 : Int)) by simp)
    let t1 : Tp pr := .b (show (decide ((↑m.length : Int) < (↑m.length : Int) + ((↑(mark3 mt (k + (1 : Int) + (1 : Int) + (1 : Int)) n).length : Int) + (1 : Int)))) = true by (simp; omega))
    let t2 : Tp pr := .g .row (show (lkp (List.map Bc.ce (m ++ Bc.mk k (k + (1 : Int)) (mt (k + (1 : Int) + (1 : Int))) :: mark3 mt (k + (1 : Int) + (1 : Int) + (1 : Int)) n)) (↑m.length : Int)) = some ((Bc.mk k (k + (1 : Int)) (mt (k + (1 : Int) + (1 : Int)))).ce) by simp)
    let t4 : Tp pr := .i (wrap_i64 (a := k + (1 : Int)) (by omega) (by omega))
    let t5 : Tp pr := .g .row (show (lkp (List.map Bc.ce (m ++ Bc.mk k (k + (1 : Int)) (mt (k + (1 : Int) + (1 : Int))) :: mark3 mt (k + (1 : Int) + (1 : Int) + (1 : Int)) n)) (↑m.length : Int)) = some ((Bc.mk k (k + (1 : Int)) (mt (k + (1 : Int) + (1 : Int)))).ce) by simp)
    let t6 : Tp pr := .b (show (k + (1 : Int) != k + (1 : Int)) = false by simp)
    let t7 : Tp pr := .i (wrap_i64 (a := k + (1 : Int) + (1 : Int)) (by omega) (by omega))
    let t8 : Tp pr := .g .row (show (lkp (List.map Bc.ce (m ++ Bc.mk k (k + (1 : Int)) (mt (k + (1 : Int) + (1 : Int))) :: mark3 mt (k + (1 : Int) + (1 : Int) + (1 : Int)) n)) (↑m.length : Int)) = some ((Bc.mk k (k + (1 : Int)) (mt (k + (1 : Int) + (1 : Int)))).ce) by simp)
    let t9 : Tp pr := .a (hmt (k + (1 : Int) + (1 : Int)) (by omega) (by omega))
    let t10 : Tp pr := .b (show (!(mt (k + (1 : Int) + (1 : Int))).toList == (mt (k + (1 : Int) + (1 : Int))).toList) = false by simp)
    let t11 : Tp pr := .i (wrap_i64 (a := k + (1 : Int) + (1 : Int) + (1 : Int)) (by omega) (by omega))
    let t12 : Tp pr := .i (wrap_i64 (a := (↑m.length : Int) + (1 : Int)) (by omega) (by omega))
    let t13 : Tp pr := .a (Ev.castq ((congrArg (fun x => Q.loop (lq pr (22 : FuncId) (0 : Nat)) (at_ [((0 : Nat), V.t (T.seq (3 : Nat) x)), ((1 : Nat), V.t (T.int IntKind.i64 (k + (1 : Int) + (1 : Int) + (1 : Int)))), ((5 : Nat), V.t (T.int IntKind.i64 (↑(m ++ [Bc.mk k (k + (1 : Int)) (mt (k + (1 : Int) + (1 : Int)))]).length : Int)))] [] (0 : Nat))) (show (List.map Bc.ce (m ++ [Bc.mk k (k + (1 : Int)) (mt (k + (1 : Int) + (1 : Int)))] ++ mark3 mt (k + (1 : Int) + (1 : Int) + (1 : Int)) n)) = (List.map Bc.ce (m ++ Bc.mk k (k + (1 : Int)) (mt (k + (1 : Int) + (1 : Int))) :: mark3 mt (k + (1 : Int) + (1 : Int) + (1 : Int)) n)) by (simp <;> omega))).trans (congrArg (fun x => Q.loop (lq pr (22 : FuncId) (0 : Nat)) (at_ [((0 : Nat), V.t (T.seq (3 : Nat) (List.map Bc.ce (m ++ Bc.mk k (k + (1 : Int)) (mt (k + (1 : Int) + (1 : Int))) :: mark3 mt (k + (1 : Int) + (1 : Int) + (1 : Int)) n)))), ((1 : Nat), V.t (T.int IntKind.i64 (k + (1 : Int) + (1 : Int) + (1 : Int)))), ((5 : Nat), V.t (T.int IntKind.i64 x))] [] (0 : Nat))) (show ((↑(m ++ [Bc.mk k (k + (1 : Int)) (mt (k + (1 : Int) + (1 : Int)))]).length : Int)) = ((↑m.length : Int) + (1 : Int)) by (simp <;> omega)))) (ih))
    exact .tpe [t0, t1, t2, .b (show (k != k) = false by simp), t4, t5, t6, t7, t8, t9, t10, t11, t12, t13] (Out.exit (0 : Nat) (at_ [((1 : Nat), V.t (T.int IntKind.i64 (k + (1 : Int) + (1 : Int) + (1 : Int) + (3 : Int) * (↑n : Int))))] [] (0 : Nat))) (by kernel_rfl) (congrArg (fun x => Out.exit (0 : Nat) (at_ [((1 : Nat), V.t (T.int IntKind.i64 x))] [] (0 : Nat))) (show (k + (1 : Int) + (1 : Int) + (1 : Int) + (3 : Int) * (↑n : Int)) = (k + (3 : Int) * (↑(n + (1 : Nat)) : Int)) by (simp <;> omega)))
theorem heldBcS_ev (mt : Int → ByteArray) (hmt : ∀ k, 0 ≤ k → k ≤ 10000000000 → Ev pr (.call 54 [i64 k] []) (.val (.t (.str (mt k))) [])) (n : Nat) (k : Int) (h0 : 0 ≤ k) (h : k + 3 * n ≤ 9000000) (h2 : n ≤ 1048576) : Ev pr (.call 22 [bcs (mark3 mt k n), i64 k] []) (.val (i64 (k + 3 * n)) []) := by
  have := heldBcL_ev mt hmt n [] k h0 h (by simpa using h2)
  exact .tp [.a (this)] (by kernel_rfl)
theorem eqBc_ev (x : Bc) : Ev pr (.call 52 [vs x.ce, vs x.ce] []) (.val (bl true) []) := by
  let t0 : Tp pr := .b (show (x.op != x.op) = false by simp)
  let t2 : Tp pr := .b (show (!x.text.toList == x.text.toList) = false by simp)
  exact .tp [t0, .b (show (x.n != x.n) = false by simp), t2] (by kernel_rfl)
theorem eqBcL_ev : ∀ (rest m : List Bc), m.length + rest.length ≤ 1048576 → Ev pr (.loop (lq pr 18 0) (at_ [(0, bcs (m ++ rest)), (1, bcs (m ++ rest)), (5, i64 m.length)] [] 0)) (.exit 0 (at_ [] [] 0))
  | [], m, h => by
    let t0 : Tp pr := .i (show ((↑(List.map Bc.ce (m ++ [])).length : Int) : Int) = (↑m.length : Int) by simp)
    let t1 : Tp pr := .b (show (decide ((↑m.length : Int) < (↑m.length : Int))) = false by simp)
    exact .tp [t0, t1] (by kernel_rfl)
  | x :: rest, m, h => by
    simp at h
    have ih := eqBcL_ev rest (m ++ [x]) (by simp; omega)
    have hx := eqBc_ev x
    let t0 : Tp pr := .i (show ((↑(List.map Bc.ce (m ++ x :: rest)).length : Int) : Int) = (↑m.length : Int) + ((↑rest.length : Int) + (1 : Int)) by simp)
    let t1 : Tp pr := .b (show (decide ((↑m.length : Int) < (↑m.length : Int) + ((↑rest.length : Int) + (1 : Int)))) = true by (simp; omega))
    let t2 : Tp pr := .g .row (show (lkp (List.map Bc.ce (m ++ x :: rest)) (↑m.length : Int)) = some (x.ce) by simp)
    let t3 : Tp pr := .g .row (show (lkp (List.map Bc.ce (m ++ x :: rest)) (↑m.length : Int)) = some (x.ce) by simp)
    let t6 : Tp pr := .i (wrap_i64 (a := (↑m.length : Int) + (1 : Int)) (by omega) (by omega))
    let t7 : Tp pr := .a (Ev.castq ((congrArg (fun x_1 => Q.loop (lq pr (18 : FuncId) (0 : Nat)) (at_ [((0 : Nat), V.t (T.seq (3 : Nat) x_1)), ((1 : Nat), V.t (T.seq (3 : Nat) x_1)), ((5 : Nat), V.t (T.int IntKind.i64 (↑(m ++ [x]).length : Int)))] [] (0 : Nat))) (show (List.map Bc.ce (m ++ [x] ++ rest)) = (List.map Bc.ce (m ++ x :: rest)) by simp)).trans (congrArg (fun x_1 => Q.loop (lq pr (18 : FuncId) (0 : Nat)) (at_ [((0 : Nat), V.t (T.seq (3 : Nat) (List.map Bc.ce (m ++ x :: rest)))), ((1 : Nat), V.t (T.seq (3 : Nat) (List.map Bc.ce (m ++ x :: rest)))), ((5 : Nat), V.t (T.int IntKind.i64 x_1))] [] (0 : Nat))) (show ((↑(m ++ [x]).length : Int)) = ((↑m.length : Int) + (1 : Int)) by simp))) (ih))
    exact .tp [t0, t1, t2, t3, .a (hx), .b (rfl : false = false), t6, t7] (by kernel_rfl)
theorem eqBcS_ev (l : List Bc) (h : l.length ≤ 1048576) : Ev pr (.call 18 [bcs l, bcs l] []) (.val (bl true) []) := by
  have := eqBcL_ev l [] (by simpa using h)
  let t0 : Tp pr := .i (show ((↑(List.map Bc.ce l).length : Int) : Int) = (↑l.length : Int) by simp)
  let t1 : Tp pr := .i (show ((↑(List.map Bc.ce l).length : Int) : Int) = (↑l.length : Int) by simp)
  let t2 : Tp pr := .b (show ((↑l.length : Int) != (↑l.length : Int)) = false by simp)
  exact .tp [t0, t1, t2, .a (this)] (by kernel_rfl)
theorem eqBcNL_ev : Ev pr (.loop (lq pr 18 0) (at_ [(0, .t .nils), (1, .t (.seq 3 [])), (5, i64 0)] [] 0)) (.exit 0 (at_ [] [] 0)) := by
  let t0 : Tp pr := .i (rfl : ((0 : Int) : Int) = (0 : Int))
  exact .tp [t0, .b (rfl : false = false)] (by kernel_rfl)
theorem eqBcN_ev : Ev pr (.call 18 [.t .nils, .t (.seq 3 [])] []) (.val (bl true) []) := by
  let t0 : Tp pr := .i (rfl : ((0 : Int) : Int) = (0 : Int))
  let t1 : Tp pr := .i (rfl : ((0 : Int) : Int) = (0 : Int))
  exact .tp [t0, t1, .b (rfl : false = false), .a (eqBcNL_ev)] (by kernel_rfl)
theorem toEx2_ev (x : Ex) : Ev pr (.call 49 [vs x.ce] []) (.val (vs x.ce) []) := by
  exact .tp [] (by kernel_rfl)
theorem toExL2_ev : ∀ (rest m : List Ex), m.length + rest.length ≤ 1048576 → Ev pr (.loop (lq pr 16 0) (at_ [(0, exs (m ++ rest)), (3, .vec 0 (m.length + rest.length) 3 0 (m.length + rest.length)), (4, i64 m.length)] [.vec true 3 (bcc (exb m ++ List.replicate rest.length ⟨0, 0, e0⟩))] 0))
    (.exit 0 (at_ [(3, .vec 0 (m.length + rest.length) 3 0 (m.length + rest.length))] [.vec true 3 (bcc (exb (m ++ rest)))] 0))
  | [], m, h => by
    let t0 : Tp pr := .i (show ((↑(List.map Ex.ce (m ++ [])).length : Int) : Int) = (↑m.length : Int) by simp)
    let t1 : Tp pr := .b (show (decide ((↑m.length : Int) < (↑m.length : Int))) = false by simp)
    exact .tpe [t0, t1] (Out.exit (0 : Nat) (at_ [((3 : Nat), V.vec (0 : Nat) (m.length + (0 : Nat)) (3 : Nat) (0 : Nat) (m.length + (0 : Nat)))] [Ob.vec true (3 : Nat) (bcc (exb m ++ List.replicate (0 : Nat) (Bc.mk (0 : Int) (0 : Int) e0)))] (0 : Nat))) (by kernel_rfl) (congrArg (fun x => Out.exit (0 : Nat) (at_ [((3 : Nat), V.vec (0 : Nat) (m.length + (0 : Nat)) (3 : Nat) (0 : Nat) (m.length + (0 : Nat)))] [Ob.vec true (3 : Nat) x] (0 : Nat))) (show (bcc (exb m ++ List.replicate (0 : Nat) (Bc.mk (0 : Int) (0 : Int) e0))) = (bcc (exb (m ++ []))) by simp))
  | x :: rest, m, h => by
    simp at h
    have ih := toExL2_ev rest (m ++ [x]) (by simp; omega)
    have hx := toEx2_ev x
    rw [show List.replicate (x :: rest).length (⟨0, 0, e0⟩ : Bc) = ⟨0, 0, e0⟩ :: List.replicate rest.length ⟨0, 0, e0⟩ from rfl]
    have hg : (bcc (exb m ++ ⟨0, 0, e0⟩ :: List.replicate rest.length ⟨0, 0, e0⟩))[m.length]? = some [C.t (.int .i64 0), C.t (.int .i64 0), C.t (.str ⟨#[]⟩)] := by simpa using bcc_get_mid (exb m) ⟨0, 0, e0⟩ (List.replicate rest.length ⟨0, 0, e0⟩)
    let t0 : Tp pr := .i (show ((↑(List.map Ex.ce (m ++ x :: rest)).length : Int) : Int) = (↑m.length : Int) + ((↑rest.length : Int) + (1 : Int)) by simp)
    let t1 : Tp pr := .b (show (decide ((↑m.length : Int) < (↑m.length : Int) + ((↑rest.length : Int) + (1 : Int)))) = true by (simp; omega))
    let t2 : Tp pr := .g .row (show (lkp (List.map Ex.ce (m ++ x :: rest)) (↑m.length : Int)) = some (x.ce) by simp)
    let t4 : Tp pr := .m (show (decide ((0 : Int) ≤ (↑m.length : Int) ∧ (↑m.length : Int).toNat < m.length + (x :: rest).length)) = true by simp)
    let t5 : Tp pr := .c (show ((0 : Nat) + (↑m.length : Int).toNat : Nat) = m.length by omega)
    let t6 : Tp pr := .m (show (decide ((bcc (exb m ++ Bc.mk (0 : Int) (0 : Int) e0 :: List.replicate rest.length (Bc.mk (0 : Int) (0 : Int) e0))).length = m.length + (x :: rest).length)) = true by simp)
    let t7 : Tp pr := .g .crow (show ((bcc (exb m ++ Bc.mk (0 : Int) (0 : Int) e0 :: List.replicate rest.length (Bc.mk (0 : Int) (0 : Int) e0)))[m.length]?) = some ([C.t (T.int IntKind.i64 (0 : Int)), C.t (T.int IntKind.i64 (0 : Int)), C.t (T.str (ByteArray.mk #[]))]) from hg)
    let t8 : Tp pr := .n .crows (show ((bcc (exb m ++ Bc.mk (0 : Int) (0 : Int) e0 :: List.replicate rest.length (Bc.mk (0 : Int) (0 : Int) e0))).set m.length [C.t (T.int IntKind.i64 x.kind), C.t (T.int IntKind.i64 x.num), C.t (T.str x.text)]) = bcc (exb m ++ Bc.mk x.kind x.num x.text :: List.replicate rest.length (Bc.mk (0 : Int) (0 : Int) (ByteArray.mk #[]))) by simp)
    let t9 : Tp pr := .i (wrap_i64 (a := (↑m.length : Int) + (1 : Int)) (by omega) (by omega))
    let t10 : Tp pr := .a (Ev.castq ((((congrArg (fun x_1 => Q.loop (lq pr (16 : FuncId) (0 : Nat)) (at_ [((0 : Nat), V.t (T.seq (3 : Nat) x_1)), ((3 : Nat), V.vec (0 : Nat) ((m ++ [x]).length + rest.length) (3 : Nat) (0 : Nat) ((m ++ [x]).length + rest.length)), ((4 : Nat), V.t (T.int IntKind.i64 (↑(m ++ [x]).length : Int)))] [Ob.vec true (3 : Nat) (bcc (exb (m ++ [x]) ++ List.replicate rest.length (Bc.mk (0 : Int) (0 : Int) e0)))] (0 : Nat))) (show (List.map Ex.ce (m ++ [x] ++ rest)) = (List.map Ex.ce (m ++ x :: rest)) by (simp [exb] <;> omega))).trans (congrArg (fun x_1 => Q.loop (lq pr (16 : FuncId) (0 : Nat)) (at_ [((0 : Nat), V.t (T.seq (3 : Nat) (List.map Ex.ce (m ++ x :: rest)))), ((3 : Nat), V.vec (0 : Nat) x_1 (3 : Nat) (0 : Nat) x_1), ((4 : Nat), V.t (T.int IntKind.i64 (↑(m ++ [x]).length : Int)))] [Ob.vec true (3 : Nat) (bcc (exb (m ++ [x]) ++ List.replicate rest.length (Bc.mk (0 : Int) (0 : Int) e0)))] (0 : Nat))) (show ((m ++ [x]).length + rest.length) = (m.length + (x :: rest).length) by (simp [exb] <;> omega)))).trans (congrArg (fun x_1 => Q.loop (lq pr (16 : FuncId) (0 : Nat)) (at_ [((0 : Nat), V.t (T.seq (3 : Nat) (List.map Ex.ce (m ++ x :: rest)))), ((3 : Nat), V.vec (0 : Nat) (m.length + (x :: rest).length) (3 : Nat) (0 : Nat) (m.length + (x :: rest).length)), ((4 : Nat), V.t (T.int IntKind.i64 x_1))] [Ob.vec true (3 : Nat) (bcc (exb (m ++ [x]) ++ List.replicate rest.length (Bc.mk (0 : Int) (0 : Int) e0)))] (0 : Nat))) (show ((↑(m ++ [x]).length : Int)) = ((↑m.length : Int) + (1 : Int)) by (simp [exb] <;> omega)))).trans (congrArg (fun x_1 => Q.loop (lq pr (16 : FuncId) (0 : Nat)) (at_ [((0 : Nat), V.t (T.seq (3 : Nat) (List.map Ex.ce (m ++ x :: rest)))), ((3 : Nat), V.vec (0 : Nat) (m.length + (x :: rest).length) (3 : Nat) (0 : Nat) (m.length + (x :: rest).length)), ((4 : Nat), V.t (T.int IntKind.i64 ((↑m.length : Int) + (1 : Int))))] [Ob.vec true (3 : Nat) x_1] (0 : Nat))) (show (bcc (exb (m ++ [x]) ++ List.replicate rest.length (Bc.mk (0 : Int) (0 : Int) e0))) = (bcc (exb m ++ Bc.mk x.kind x.num x.text :: List.replicate rest.length (Bc.mk (0 : Int) (0 : Int) (ByteArray.mk #[])))) by (simp [exb] <;> omega)))) (ih))
    exact .tpe [t0, t1, t2, .a (hx), t4, t5, t6, t7, t8, t9, t10] (Out.exit (0 : Nat) (at_ [((3 : Nat), V.vec (0 : Nat) ((m ++ [x]).length + rest.length) (3 : Nat) (0 : Nat) ((m ++ [x]).length + rest.length))] [Ob.vec true (3 : Nat) (bcc (exb (m ++ [x] ++ rest)))] (0 : Nat))) (by kernel_rfl) (((congrArg (fun x_1 => Out.exit (0 : Nat) (at_ [((3 : Nat), V.vec (0 : Nat) x_1 (3 : Nat) (0 : Nat) ((m ++ [x]).length + rest.length))] [Ob.vec true (3 : Nat) (bcc (exb (m ++ [x] ++ rest)))] (0 : Nat))) (show ((m ++ [x]).length + rest.length) = (m.length + (x :: rest).length) by (simp [exb] <;> omega))).trans (congrArg (fun x_1 => Out.exit (0 : Nat) (at_ [((3 : Nat), V.vec (0 : Nat) (m.length + (x :: rest).length) (3 : Nat) (0 : Nat) x_1)] [Ob.vec true (3 : Nat) (bcc (exb (m ++ [x] ++ rest)))] (0 : Nat))) (show ((m ++ [x]).length + rest.length) = (m.length + (x :: rest).length) by (simp [exb] <;> omega)))).trans (congrArg (fun x_1 => Out.exit (0 : Nat) (at_ [((3 : Nat), V.vec (0 : Nat) (m.length + (x :: rest).length) (3 : Nat) (0 : Nat) (m.length + (x :: rest).length))] [Ob.vec true (3 : Nat) x_1] (0 : Nat))) (show (bcc (exb (m ++ [x] ++ rest))) = (bcc (exb (m ++ x :: rest))) by (simp [exb] <;> omega))))
theorem toExS2_ev (l : List Ex) (hl : l.length ≤ 1048576) : Ev pr (.call 16 [exs l] []) (.val (.vec 0 l.length 3 0 l.length) [.vec true 3 (bcc (exb l))]) := by
  have := toExL2_ev l [] (by simpa using hl)
  let t0 : Tp pr := .i (show ((↑(List.map Ex.ce l).length : Int) : Int) = (↑l.length : Int) by simp)
  let t1 : Tp pr := .m (show (decide ((0 : Int) ≤ (↑l.length : Int) ∧ (↑l.length : Int) ≤ (↑l.length : Int) ∧ (↑l.length : Int) ≤ (4294967296 : Int))) = true by (simp; omega))
  let t2 : Tp pr := .c (show ((↑l.length : Int).toNat : Nat) = l.length by omega)
  let t3 : Tp pr := .n .crows (rfl : (List.replicate l.length [C.t (T.int IntKind.i64 (0 : Int)), C.t (T.int IntKind.i64 (0 : Int)), C.t (T.str (ByteArray.mk #[]))]) = _)
  let t4 : Tp pr := .a (Ev.castq ((congrArg (fun x => Q.loop (lq pr (16 : FuncId) (0 : Nat)) (at_ [((0 : Nat), exs ([] ++ l)), ((3 : Nat), V.vec (0 : Nat) x (3 : Nat) (0 : Nat) x), ((4 : Nat), i64 (↑(0 : Nat) : Int))] [Ob.vec true (3 : Nat) (bcc (exb [] ++ List.replicate l.length (Bc.mk (0 : Int) (0 : Int) e0)))] (0 : Nat))) (show ((0 : Nat) + l.length) = (l.length) by simp [exb, bcc, Bc.cc])).trans (congrArg (fun x => Q.loop (lq pr (16 : FuncId) (0 : Nat)) (at_ [((0 : Nat), exs ([] ++ l)), ((3 : Nat), V.vec (0 : Nat) l.length (3 : Nat) (0 : Nat) l.length), ((4 : Nat), i64 (↑(0 : Nat) : Int))] [Ob.vec true (3 : Nat) x] (0 : Nat))) (show (bcc (exb [] ++ List.replicate l.length (Bc.mk (0 : Int) (0 : Int) e0))) = (List.replicate l.length [C.t (T.int IntKind.i64 (0 : Int)), C.t (T.int IntKind.i64 (0 : Int)), C.t (T.str (ByteArray.mk #[]))]) by simp [exb, bcc, Bc.cc]))) (this))
  exact .tpe [t0, t1, t2, t3, t4] (Out.val (V.vec (0 : Nat) ((0 : Nat) + l.length) (3 : Nat) (0 : Nat) ((0 : Nat) + l.length)) [Ob.vec true (3 : Nat) (bcc (exb ([] ++ l)))]) (by kernel_rfl) (((congrArg (fun x => Out.val (V.vec (0 : Nat) x (3 : Nat) (0 : Nat) ((0 : Nat) + l.length)) [Ob.vec true (3 : Nat) (bcc (exb ([] ++ l)))]) (show ((0 : Nat) + l.length) = (l.length) by simp [exb, bcc, Bc.cc])).trans (congrArg (fun x => Out.val (V.vec (0 : Nat) l.length (3 : Nat) (0 : Nat) x) [Ob.vec true (3 : Nat) (bcc (exb ([] ++ l)))]) (show ((0 : Nat) + l.length) = (l.length) by simp [exb, bcc, Bc.cc]))).trans (congrArg (fun x => Out.val (V.vec (0 : Nat) l.length (3 : Nat) (0 : Nat) l.length) [Ob.vec true (3 : Nat) x]) (show (bcc (exb ([] ++ l))) = (bcc (exb l)) by simp [exb, bcc, Bc.cc])))
theorem eqEx2_ev (x : Ex) : Ev pr (.call 53 [vs x.ce, vs x.ce] []) (.val (bl true) []) := by
  let t0 : Tp pr := .b (show (x.kind != x.kind) = false by simp)
  let t1 : Tp pr := .b (show (x.num != x.num) = false by simp)
  let t2 : Tp pr := .b (show (!x.text.toList == x.text.toList) = false by simp)
  exact .tp [t0, t1, t2] (by kernel_rfl)
theorem eqExL2_ev : ∀ (rest m : List Ex), m.length + rest.length ≤ 1048576 → Ev pr (.loop (lq pr 19 0) (at_ [(0, exs (m ++ rest)), (1, exs (m ++ rest)), (5, i64 m.length)] [] 0)) (.exit 0 (at_ [] [] 0))
  | [], m, h => by
    let t0 : Tp pr := .i (show ((↑(List.map Ex.ce (m ++ [])).length : Int) : Int) = (↑m.length : Int) by simp)
    let t1 : Tp pr := .b (show (decide ((↑m.length : Int) < (↑m.length : Int))) = false by simp)
    exact .tp [t0, t1] (by kernel_rfl)
  | x :: rest, m, h => by
    simp at h
    have ih := eqExL2_ev rest (m ++ [x]) (by simp; omega)
    have hx := eqEx2_ev x
    let t0 : Tp pr := .i (show ((↑(List.map Ex.ce (m ++ x :: rest)).length : Int) : Int) = (↑m.length : Int) + ((↑rest.length : Int) + (1 : Int)) by simp)
    let t1 : Tp pr := .b (show (decide ((↑m.length : Int) < (↑m.length : Int) + ((↑rest.length : Int) + (1 : Int)))) = true by (simp; omega))
    let t2 : Tp pr := .g .row (show (lkp (List.map Ex.ce (m ++ x :: rest)) (↑m.length : Int)) = some (x.ce) by simp)
    let t3 : Tp pr := .g .row (show (lkp (List.map Ex.ce (m ++ x :: rest)) (↑m.length : Int)) = some (x.ce) by simp)
    let t6 : Tp pr := .i (wrap_i64 (a := (↑m.length : Int) + (1 : Int)) (by omega) (by omega))
    let t7 : Tp pr := .a (Ev.castq ((congrArg (fun x_1 => Q.loop (lq pr (19 : FuncId) (0 : Nat)) (at_ [((0 : Nat), V.t (T.seq (3 : Nat) x_1)), ((1 : Nat), V.t (T.seq (3 : Nat) x_1)), ((5 : Nat), V.t (T.int IntKind.i64 (↑(m ++ [x]).length : Int)))] [] (0 : Nat))) (show (List.map Ex.ce (m ++ [x] ++ rest)) = (List.map Ex.ce (m ++ x :: rest)) by simp)).trans (congrArg (fun x_1 => Q.loop (lq pr (19 : FuncId) (0 : Nat)) (at_ [((0 : Nat), V.t (T.seq (3 : Nat) (List.map Ex.ce (m ++ x :: rest)))), ((1 : Nat), V.t (T.seq (3 : Nat) (List.map Ex.ce (m ++ x :: rest)))), ((5 : Nat), V.t (T.int IntKind.i64 x_1))] [] (0 : Nat))) (show ((↑(m ++ [x]).length : Int)) = ((↑m.length : Int) + (1 : Int)) by simp))) (ih))
    exact .tp [t0, t1, t2, t3, .a (hx), .b (rfl : false = false), t6, t7] (by kernel_rfl)
theorem eqExS2_ev (l : List Ex) (h : l.length ≤ 1048576) : Ev pr (.call 19 [exs l, exs l] []) (.val (bl true) []) := by
  have := eqExL2_ev l [] (by simpa using h)
  let t0 : Tp pr := .i (show ((↑(List.map Ex.ce l).length : Int) : Int) = (↑l.length : Int) by simp)
  let t1 : Tp pr := .i (show ((↑(List.map Ex.ce l).length : Int) : Int) = (↑l.length : Int) by simp)
  let t2 : Tp pr := .b (show ((↑l.length : Int) != (↑l.length : Int)) = false by simp)
  exact .tp [t0, t1, t2, .a (this)] (by kernel_rfl)
end Go.Ev

/- Sizes of expressions. -/
namespace Go.Ev
set_option linter.unusedVariables false
set_option linter.unusedSimpArgs false
open Go.Proofs
set_option maxRecDepth 100000
set_option linter.unusedVariables false
set_option maxHeartbeats 1000000
/-! Sizes. -/
def szEx (x : Ex) (n : Int) : Int := if n - x.text.size < 0 then -1 else n - x.text.size
theorem szEx_ev (x : Ex) (n : Int) (h0 : 0 ≤ n) (h1 : n ≤ 1048576) (hs : x.text.size ≤ 9223372036854775807) : Ev pr (.call 47 [vs x.ce, i64 n] []) (.val (i64 (szEx x n)) []) := by
  have hw := wrap_i64 (a := n - x.text.size) (by omega) (by omega)
  unfold szEx
  by_cases h : n - x.text.size < 0
  · rw [if_pos h]; exact .tp [.l x.text.size, .i hw, .b (decide_eq_true h)] (by kernel_rfl)
  · rw [if_neg h]; exact .tp [.l x.text.size, .i hw, .b (decide_eq_false h)] (by kernel_rfl)
def szExL : List Ex → Int → Option Int
  | [], n => some n
  | x :: r, n => if szEx x n < 0 then none else szExL r (szEx x n)
theorem szEx_le (x : Ex) (n : Int) (h0 : ¬ szEx x n < 0) : 0 ≤ szEx x n ∧ szEx x n ≤ n := by
  unfold szEx at *
  split at h0 <;> split <;> omega
theorem szExL_ev (l : List Ex) (hl : l.length ≤ 9223372036854775807) (hs : ∀ x ∈ l, x.text.size ≤ 9223372036854775807) : ∀ (rest done : List Ex) (n : Int), l = done ++ rest → 0 ≤ n → n ≤ 1048576 →
    Ev pr (.loop (lq pr 14 0) (at_ [(0, exs l), (1, i64 n), (5, i64 done.length)] [] 0)) (match szExL rest n with
      | some m => .exit 0 (at_ [(1, i64 m)] [] 0)
      | none => .ret (at_ [(4, i64 (-1))] [] 0))
  | [], done, n, he, h0, h1 => by
    have h : ¬ (done.length : Int) < l.length := by subst he; simp
    exact .tp [.ll Ex.ce l, .b (decide_eq_false h)] (by kernel_rfl)
  | x :: rest, done, n, he, h0, h1 => by
    have h : (done.length : Int) < l.length := by subst he; simp; omega
    have hx : x.text.size ≤ 9223372036854775807 := hs x (by subst he; simp)
    have hw := wrap_i64 (a := done.length + 1) (by omega) (by omega)
    unfold szExL
    by_cases h2 : szEx x n < 0
    · rw [if_pos h2]
      exact .tp [.ll Ex.ce l, .b (decide_eq_true h), .e (lkp_at Ex.ce he), .a (szEx_ev x n h0 h1 hx), .b (decide_eq_true h2)] (by kernel_rfl)
    · rw [if_neg h2]
      have hle := szEx_le x n h2
      have ih := szExL_ev l hl hs rest (done ++ [x]) (szEx x n) (by simp [he]) hle.1 (by omega)
      rw [show ((done ++ [x]).length : Int) = done.length + 1 by simp] at ih
      exact .tp [.ll Ex.ce l, .b (decide_eq_true h), .e (lkp_at Ex.ce he), .a (szEx_ev x n h0 h1 hx), .b (decide_eq_false h2), .i hw, .a ih] (by kernel_rfl)
def szExS (l : List Ex) (n : Int) : Int := if n - l.length < 0 then -1 else (szExL l (n - l.length)).getD (-1)
theorem szExS_ev (l : List Ex) (n : Int) (h0 : 0 ≤ n) (h1 : n ≤ 1048576) (hl : l.length ≤ 9223372036854775807) (hs : ∀ x ∈ l, x.text.size ≤ 9223372036854775807) : Ev pr (.call 14 [exs l, i64 n] []) (.val (i64 (szExS l n)) []) := by
  have hw := wrap_i64 (a := n - l.length) (by omega) (by omega)
  unfold szExS
  by_cases h : n - l.length < 0
  · rw [if_pos h]; exact .tp [.ll Ex.ce l, .i hw, .b (decide_eq_true h)] (by kernel_rfl)
  · rw [if_neg h]
    have hL := szExL_ev l hl hs l [] (n - l.length) rfl (by omega) (by omega)
    cases hr : szExL l (n - l.length) with
    | none => rw [hr] at hL; exact .tp [.ll Ex.ce l, .i hw, .b (decide_eq_false h), .a hL] (by kernel_rfl)
    | some m => rw [hr] at hL; exact .tp [.ll Ex.ce l, .i hw, .b (decide_eq_false h), .a hL] (by kernel_rfl)
theorem szExL_le : ∀ (l : List Ex) (n m : Int), 0 ≤ n → szExL l n = some m → 0 ≤ m ∧ m ≤ n
  | [], n, m, h0, h => by obtain rfl := Option.some.inj h; exact ⟨h0, Int.le_refl _⟩
  | x :: l, n, m, h0, h => by
    unfold szExL at h
    split at h
    · cases h
    · rename_i h2
      have h3 := szEx_le x n h2
      have := szExL_le l _ m h3.1 h
      omega
theorem szExS_le (l : List Ex) (n : Int) (h0 : ¬ szExS l n < 0) : 0 ≤ szExS l n ∧ szExS l n ≤ n - l.length := by
  unfold szExS at *
  split at h0
  · omega
  · rename_i h
    rw [if_neg h]
    cases hr : szExL l (n - l.length) with
    | none => rw [hr] at h0; simp at h0
    | some m => have := szExL_le l _ m (by omega) hr; simpa using this
theorem markBcNL_ev (k : Int) : Ev pr (.loop (lq pr 21 0) (at_ [(0, .t .nils), (1, i64 k), (5, i64 0)] [] 0)) (.exit 0 (at_ [(1, i64 k)] [] 0)) := by
  let t0 : Tp pr := .i (rfl : ((0 : Int) : Int) = (0 : Int))
  exact .tp [t0, .b (rfl : false = false)] (by kernel_rfl)
theorem markBcN_ev (k : Int) : Ev pr (.call 21 [.t .nils, i64 k] []) (.val (i64 k) []) := by
  have := markBcNL_ev k
  exact .tp [.a (this)] (by kernel_rfl)
theorem heldBcNL_ev (k : Int) : Ev pr (.loop (lq pr 22 0) (at_ [(0, .t .nils), (1, i64 k), (5, i64 0)] [] 0)) (.exit 0 (at_ [(1, i64 k)] [] 0)) := by
  let t0 : Tp pr := .i (rfl : ((0 : Int) : Int) = (0 : Int))
  exact .tp [t0, .b (rfl : false = false)] (by kernel_rfl)
theorem heldBcN_ev (k : Int) : Ev pr (.call 22 [.t .nils, i64 k] []) (.val (i64 k) []) := by
  have := heldBcNL_ev k
  exact .tp [.a (this)] (by kernel_rfl)
end Go.Ev

/- Results that are lists of parts of an expression: held, and where there are none. -/
namespace Go.Ev
set_option linter.unusedVariables false
set_option linter.unusedSimpArgs false
open Go.Proofs
set_option maxRecDepth 100000
set_option linter.unusedVariables false
set_option maxHeartbeats 1000000
attribute [local simp] e0
theorem heldExL_ev (mt : Int → ByteArray) (hmt : ∀ k, 0 ≤ k → k ≤ 10000000000 → Ev pr (.call 54 [i64 k] []) (.val (.t (.str (mt k))) [])) : ∀ (n : Nat) (m : List Bc) (k : Int), 0 ≤ k → k + 3 * n ≤ 9000000 → m.length + n ≤ 1048576 →
    Ev pr (.loop (lq pr 25 0) (at_ [(0, bcs (m ++ mark3 mt k n)), (1, i64 k), (5, i64 m.length)] [] 0)) (.exit 0 (at_ [(1, i64 (k + 3 * n))] [] 0))
  | 0, m, k, h0, h1, h2 => by
    let t0 : Tp pr := .i (show ((↑(List.map Bc.ce (m ++ mark3 mt k (0 : Nat))).length : Int) : Int) = (↑m.length : Int) + (↑(mark3 mt k (0 : Nat)).length : Int) by simp)
    let t1 : Tp pr := .b (show (decide ((↑m.length : Int) < (↑m.length : Int) + (0 : Int))) = false by simp)
    exact .tpe [t0, t1] (Out.exit (0 : Nat) (at_ [((1 : Nat), V.t (T.int IntKind.i64 k))] [] (0 : Nat))) (by kernel_rfl) (congrArg (fun x => Out.exit (0 : Nat) (at_ [((1 : Nat), V.t (T.int IntKind.i64 x))] [] (0 : Nat))) (show (k) = (k + (0 : Int)) by simp [mark3]))
  | n + 1, m, k, h0, h1, h2 => by
    have ht := hmt (k + 1 + 1) (by omega) (by omega)
    have ih := heldExL_ev mt hmt n (m ++ [⟨k, k + 1, mt (k + 1 + 1)⟩]) (k + 1 + 1 + 1) (by omega) (by omega) (by simp; omega)
    have hm := mark3_len mt (k + 1 + 1 + 1) n
    rw [show mark3 mt k (n + 1) = ⟨k, k + 1, mt (k + 1 + 1)⟩ :: mark3 mt (k + 1 + 1 + 1) n from rfl]
    let t0 : Tp pr := .i (show ((↑(List.map Bc.ce (m ++ Bc.mk k (k + (1 : Int)) (mt (k + (1 : Int) + (1 : Int))) :: mark3 mt (k + (1 : Int) + (1 : Int) + (1 : Int)) n)).length : Int) : Int) = (↑m.length : Int) + ((↑(mark3 mt (k + (1 : Int) + (1 : Int) + (1 : Int)) n).length : Int) + (1 : Int)) by simp)
    let t1 : Tp pr := .b (show (decide ((↑m.length : Int) < (↑m.length : Int) + ((↑(mark3 mt (k + (1 : Int) + (1 : Int) + (1 : Int)) n).length : Int) + (1 : Int)))) = true by (simp; omega))
    let t2 : Tp pr := .g .row (show (lkp (List.map Bc.ce (m ++ Bc.mk k (k + (1 : Int)) (mt (k + (1 : Int) + (1 : Int))) :: mark3 mt (k + (1 : Int) + (1 : Int) + (1 : Int)) n)) (↑m.length : Int)) = some ((Bc.mk k (k + (1 : Int)) (mt (k + (1 : Int) + (1 : Int)))).ce) by simp)
    let t4 : Tp pr := .i (wrap_i64 (a := k + (1 : Int)) (by omega) (by omega))
    let t5 : Tp pr := .g .row (show (lkp (List.map Bc.ce (m ++ Bc.mk k (k + (1 : Int)) (mt (k + (1 : Int) + (1 : Int))) :: mark3 mt (k + (1 : Int) + (1 : Int) + (1 : Int)) n)) (↑m.length : Int)) = some ((Bc.mk k (k + (1 : Int)) (mt (k + (1 : Int) + (1 : Int)))).ce) by simp)
    let t6 : Tp pr := .b (show (k + (1 : Int) != k + (1 : Int)) = false by simp)
    let t7 : Tp pr := .i (wrap_i64 (a := k + (1 : Int) + (1 : Int)) (by omega) (by omega))
    let t8 : Tp pr := .g .row (show (lkp (List.map Bc.ce (m ++ Bc.mk k (k + (1 : Int)) (mt (k + (1 : Int) + (1 : Int))) :: mark3 mt (k + (1 : Int) + (1 : Int) + (1 : Int)) n)) (↑m.length : Int)) = some ((Bc.mk k (k + (1 : Int)) (mt (k + (1 : Int) + (1 : Int)))).ce) by simp)
    let t9 : Tp pr := .a (hmt (k + (1 : Int) + (1 : Int)) (by omega) (by omega))
    let t10 : Tp pr := .b (show (!(mt (k + (1 : Int) + (1 : Int))).toList == (mt (k + (1 : Int) + (1 : Int))).toList) = false by simp)
    let t11 : Tp pr := .i (wrap_i64 (a := k + (1 : Int) + (1 : Int) + (1 : Int)) (by omega) (by omega))
    let t12 : Tp pr := .i (wrap_i64 (a := (↑m.length : Int) + (1 : Int)) (by omega) (by omega))
    let t13 : Tp pr := .a (Ev.castq ((congrArg (fun x => Q.loop (lq pr (25 : FuncId) (0 : Nat)) (at_ [((0 : Nat), V.t (T.seq (3 : Nat) x)), ((1 : Nat), V.t (T.int IntKind.i64 (k + (1 : Int) + (1 : Int) + (1 : Int)))), ((5 : Nat), V.t (T.int IntKind.i64 (↑(m ++ [Bc.mk k (k + (1 : Int)) (mt (k + (1 : Int) + (1 : Int)))]).length : Int)))] [] (0 : Nat))) (show (List.map Bc.ce (m ++ [Bc.mk k (k + (1 : Int)) (mt (k + (1 : Int) + (1 : Int)))] ++ mark3 mt (k + (1 : Int) + (1 : Int) + (1 : Int)) n)) = (List.map Bc.ce (m ++ Bc.mk k (k + (1 : Int)) (mt (k + (1 : Int) + (1 : Int))) :: mark3 mt (k + (1 : Int) + (1 : Int) + (1 : Int)) n)) by (simp <;> omega))).trans (congrArg (fun x => Q.loop (lq pr (25 : FuncId) (0 : Nat)) (at_ [((0 : Nat), V.t (T.seq (3 : Nat) (List.map Bc.ce (m ++ Bc.mk k (k + (1 : Int)) (mt (k + (1 : Int) + (1 : Int))) :: mark3 mt (k + (1 : Int) + (1 : Int) + (1 : Int)) n)))), ((1 : Nat), V.t (T.int IntKind.i64 (k + (1 : Int) + (1 : Int) + (1 : Int)))), ((5 : Nat), V.t (T.int IntKind.i64 x))] [] (0 : Nat))) (show ((↑(m ++ [Bc.mk k (k + (1 : Int)) (mt (k + (1 : Int) + (1 : Int)))]).length : Int)) = ((↑m.length : Int) + (1 : Int)) by (simp <;> omega)))) (ih))
    exact .tpe [t0, t1, t2, .b (show (k != k) = false by simp), t4, t5, t6, t7, t8, t9, t10, t11, t12, t13] (Out.exit (0 : Nat) (at_ [((1 : Nat), V.t (T.int IntKind.i64 (k + (1 : Int) + (1 : Int) + (1 : Int) + (3 : Int) * (↑n : Int))))] [] (0 : Nat))) (by kernel_rfl) (congrArg (fun x => Out.exit (0 : Nat) (at_ [((1 : Nat), V.t (T.int IntKind.i64 x))] [] (0 : Nat))) (show (k + (1 : Int) + (1 : Int) + (1 : Int) + (3 : Int) * (↑n : Int)) = (k + (3 : Int) * (↑(n + (1 : Nat)) : Int)) by (simp <;> omega)))
theorem heldExS_ev (mt : Int → ByteArray) (hmt : ∀ k, 0 ≤ k → k ≤ 10000000000 → Ev pr (.call 54 [i64 k] []) (.val (.t (.str (mt k))) [])) (n : Nat) (k : Int) (h0 : 0 ≤ k) (h : k + 3 * n ≤ 9000000) (h2 : n ≤ 1048576) : Ev pr (.call 25 [bcs (mark3 mt k n), i64 k] []) (.val (i64 (k + 3 * n)) []) := by
  have := heldExL_ev mt hmt n [] k h0 h (by simpa using h2)
  exact .tp [.a (this)] (by kernel_rfl)
theorem eqExNL_ev : Ev pr (.loop (lq pr 19 0) (at_ [(0, .t .nils), (1, .t (.seq 3 [])), (5, i64 0)] [] 0)) (.exit 0 (at_ [] [] 0)) := by
  let t0 : Tp pr := .i (rfl : ((0 : Int) : Int) = (0 : Int))
  exact .tp [t0, .b (rfl : false = false)] (by kernel_rfl)
theorem eqExN_ev : Ev pr (.call 19 [.t .nils, .t (.seq 3 [])] []) (.val (bl true) []) := by
  let t0 : Tp pr := .i (rfl : ((0 : Int) : Int) = (0 : Int))
  let t1 : Tp pr := .i (rfl : ((0 : Int) : Int) = (0 : Int))
  exact .tp [t0, t1, .b (rfl : false = false), .a (eqExNL_ev)] (by kernel_rfl)
theorem markExNL_ev (k : Int) : Ev pr (.loop (lq pr 20 0) (at_ [(0, .t .nils), (1, i64 k), (5, i64 0)] [] 0)) (.exit 0 (at_ [(1, i64 k)] [] 0)) := by
  let t0 : Tp pr := .i (rfl : ((0 : Int) : Int) = (0 : Int))
  exact .tp [t0, .b (rfl : false = false)] (by kernel_rfl)
theorem markExN_ev (k : Int) : Ev pr (.call 20 [.t .nils, i64 k] []) (.val (i64 k) []) := by
  have := markExNL_ev k
  exact .tp [.a (this)] (by kernel_rfl)
theorem heldExNL_ev (k : Int) : Ev pr (.loop (lq pr 25 0) (at_ [(0, .t .nils), (1, i64 k), (5, i64 0)] [] 0)) (.exit 0 (at_ [(1, i64 k)] [] 0)) := by
  let t0 : Tp pr := .i (rfl : ((0 : Int) : Int) = (0 : Int))
  exact .tp [t0, .b (rfl : false = false)] (by kernel_rfl)
theorem heldExN_ev (k : Int) : Ev pr (.call 25 [.t .nils, i64 k] []) (.val (i64 k) []) := by
  have := heldExNL_ev k
  exact .tp [.a (this)] (by kernel_rfl)
end Go.Ev

/- The law: the program's FoldExpr returns what the reference's returns. -/
namespace Go.Ev
set_option linter.unusedVariables false
set_option linter.unusedSimpArgs false
open Go.Proofs
set_option maxRecDepth 100000
set_option linter.unusedVariables false
set_option maxHeartbeats 1000000
@[simp] theorem bcc_flat (fl : Bool) (n : Nat) (l : List Bc) : Ob.flat (.vec fl n (bcc l)) = true := by simp [Ob.flat, bcc, Bc.cc, C.flat, T.flat]
@[simp] theorem mark3_take (mt : Int → ByteArray) (k : Int) (n : Nat) : List.take n (List.map Bc.ce (mark3 mt k n)) = List.map Bc.ce (mark3 mt k n) := List.take_of_length_le (by simp [mark3_len])
theorem foldX_len {l c : List Ex} (h : foldX l = some c) : c.length ≤ 40 := by
  unfold foldX at h
  obtain ⟨e, he, rfl⟩ := Option.map_eq_some_iff.1 h
  have := parse_size he
  have := foldE_size e
  rw [parts_len]
  omega
theorem law0_ev (l : List Ex) (hl : l.length ≤ 9223372036854775807) (hs : ∀ x ∈ l, x.text.size ≤ 9223372036854775807) : Ev pr (.call 5 [exs l] []) (.val (bl true) []) := by
  have h0 := szExS_ev l 1048576 (by omega) (by omega) hl hs
  by_cases hz : szExS l 1048576 < 0
  · let t1 : Tp pr := .b (show (decide (szExS l (1048576 : Int) < (0 : Int))) = true by (simp; omega))
    exact .tp [.a (h0), t1] (by kernel_rfl)
  · have k0 := szExS_le l 1048576 hz
    have k1 : l.length ≤ 1048576 := by omega
    have h1 := toExS2_ev l k1
    have h2 := FoldExprS_ev l k1 hs
    have h3 := FoldExprI_ev l k1 hs
    have h4 := eqExS2_ev l k1
    have h5 := markExS_ev mText markText_ev (exb l) 1 (by omega) (by simp; omega) (by simpa using k1)
    cases hm : foldX l with
    | none =>
      rw [hm] at h2 h3
      have h6 := eqExN_ev
      have h7 := markExN_ev 1
      have h8 := heldExN_ev 1
      let t1 : Tp pr := .b (show (decide (szExS l (1048576 : Int) < (0 : Int))) = false by (simp; omega))
      let t3 : Tp pr := .m (show (decide ((bcc (exb l)).length = l.length ∧ (0 : Nat) + l.length ≤ l.length)) = true by simp)
      let t4 : Tp pr := .n .rows (show (List.map (fun x => List.map C.fz x) (List.take l.length (List.drop (0 : Nat) (bcc (exb l))))) = List.map Ex.ce l by simp)
      let t7 : Tp pr := .m (show (decide ((bcc (exb l)).length = l.length ∧ (0 : Nat) + l.length ≤ l.length)) = true by simp)
      let t8 : Tp pr := .n .rows (show (List.map (fun x => List.map C.fz x) (List.take l.length (List.drop (0 : Nat) (bcc (exb l))))) = List.map Ex.ce l by simp)
      let t15 : Tp pr := .m (show (decide ((bcc (exb l)).length = l.length ∧ (0 : Nat) + l.length ≤ l.length)) = true by simp)
      let t16 : Tp pr := .n .rows (show (List.map (fun x => List.map C.fz x) (List.take l.length (List.drop (0 : Nat) (bcc (exb l))))) = List.map Ex.ce l by simp)
      let t17 : Tp pr := .m (show (decide ((bcc (exb l)).length = l.length ∧ (0 : Nat) + l.length ≤ l.length)) = true by simp)
      let t18 : Tp pr := .n .rows (show (List.map (fun x => List.map C.fz x) (List.take l.length (List.drop (0 : Nat) (bcc (exb l))))) = List.map Ex.ce l by simp)
      let t22 : Tp pr := .a (Ev.castq (congrArg (fun x => Q.call (20 : FuncId) [V.vec (0 : Nat) x (3 : Nat) (0 : Nat) x, i64 (1 : Int)] [Ob.vec true (3 : Nat) (bcc (exb l))]) (show ((exb l).length) = (l.length) by simp)) (h5))
      let t32 : Tp pr := .m (show (decide ((bcc (exb l)).length = l.length ∧ (0 : Nat) + l.length ≤ l.length)) = true by simp)
      let t33 : Tp pr := .n .rows (show (List.map (fun x => List.map C.fz x) (List.take l.length (List.drop (0 : Nat) (bcc (exb l))))) = List.map Ex.ce l by simp)
      exact .tp [.a (h0), t1, .a (h1), t3, t4, .a (h2), .a (h1), t7, t8, .a (h3), .m (rfl : true = true), .a (h6), .b (rfl : false = false), .b (rfl : false = false), .a (h1), t15, t16, t17, t18, .a (h4), .m (rfl : true = true), .b (rfl : false = false), t22, .b (rfl : false = false), .a (h6), .b (rfl : false = false), .b (rfl : false = false), .a (h7), .a (h8), .b (rfl : false = false), .b (rfl : false = false), .a (h1), t32, t33, .a (h3), .m (rfl : true = true), .a (h6), .b (rfl : false = false), .b (rfl : false = false), .a (h8), .b (rfl : false = false), .b (rfl : false = false)] (by kernel_rfl)
    | some c =>
      rw [hm] at h2 h3
      have hc := foldX_len hm
      have h6 := eqExS2_ev c (by omega)
      have h7 := markExS_ev mText markText_ev (exb c) 1 (by omega) (by simp; omega) (by simp; omega)
      have h8 := heldExS_ev mText markText_ev c.length 1 (by omega) (by omega) (by omega)
      have h9 := mark3_len mText 1 c.length
      let t1 : Tp pr := .b (show (decide (szExS l (1048576 : Int) < (0 : Int))) = false by (simp; omega))
      let t3 : Tp pr := .m (show (decide ((bcc (exb l)).length = l.length ∧ (0 : Nat) + l.length ≤ l.length)) = true by simp)
      let t4 : Tp pr := .n .rows (show (List.map (fun x => List.map C.fz x) (List.take l.length (List.drop (0 : Nat) (bcc (exb l))))) = List.map Ex.ce l by simp)
      let t7 : Tp pr := .m (show (decide ((bcc (exb l)).length = l.length ∧ (0 : Nat) + l.length ≤ l.length)) = true by simp)
      let t8 : Tp pr := .n .rows (show (List.map (fun x => List.map C.fz x) (List.take l.length (List.drop (0 : Nat) (bcc (exb l))))) = List.map Ex.ce l by simp)
      let t10 : Tp pr := .m (show (true && [Ob.vec true (3 : Nat) (bcc (exb c))].all Ob.flat) = true by simp)
      let t11 : Tp pr := .m (show (decide ((bcc (exb c)).length = c.length ∧ (0 : Nat) + c.length ≤ c.length)) = true by simp)
      let t12 : Tp pr := .n .rows (show (List.map (fun x => List.map C.fz x) (List.take c.length (List.drop (0 : Nat) (bcc (exb c))))) = List.map Ex.ce c by simp)
      let t18 : Tp pr := .m (show (decide ((bcc (exb l)).length = l.length ∧ (0 : Nat) + l.length ≤ l.length)) = true by simp)
      let t19 : Tp pr := .n .rows (show (List.map (fun x => List.map C.fz x) (List.take l.length (List.drop (0 : Nat) (bcc (exb l))))) = List.map Ex.ce l by simp)
      let t20 : Tp pr := .m (show (decide ((bcc (exb l)).length = l.length ∧ (0 : Nat) + l.length ≤ l.length)) = true by simp)
      let t21 : Tp pr := .n .rows (show (List.map (fun x => List.map C.fz x) (List.take l.length (List.drop (0 : Nat) (bcc (exb l))))) = List.map Ex.ce l by simp)
      let t25 : Tp pr := .a (Ev.castq (congrArg (fun x => Q.call (20 : FuncId) [V.vec (0 : Nat) x (3 : Nat) (0 : Nat) x, i64 (1 : Int)] [Ob.vec true (3 : Nat) (bcc (exb l))]) (show ((exb l).length) = (l.length) by simp)) (h5))
      let t27 : Tp pr := .m (show (decide ((bcc (exb c)).length = c.length ∧ (0 : Nat) + c.length ≤ c.length)) = true by simp)
      let t28 : Tp pr := .n .rows (show (List.map (fun x => List.map C.fz x) (List.take c.length (List.drop (0 : Nat) (bcc (exb c))))) = List.map Ex.ce c by simp)
      let t33 : Tp pr := .a (Ev.castq (congrArg (fun x => Q.call (20 : FuncId) [V.vec (0 : Nat) x (3 : Nat) (0 : Nat) x, i64 (1 : Int)] [Ob.vec true (3 : Nat) (bcc (exb c))]) (show ((exb c).length) = (c.length) by simp)) (h7))
      let t34 : Tp pr := .m (show (decide ((bcc (mark3 mText (1 : Int) (exb c).length)).length = c.length ∧ (0 : Nat) + c.length ≤ c.length)) = true by simp [*])
      let t35 : Tp pr := .n .rows (show (List.map (fun x => List.map C.fz x) (List.take c.length (List.drop (0 : Nat) (bcc (mark3 mText (1 : Int) (exb c).length))))) = List.map Bc.ce (mark3 mText (1 : Int) c.length) by simp)
      let t39 : Tp pr := .b (show ((1 : Int) + (3 : Int) * (↑c.length : Int) != (1 : Int) + (3 : Int) * (↑(exb c).length : Int)) = false by simp)
      let t41 : Tp pr := .m (show (decide ((bcc (exb l)).length = l.length ∧ (0 : Nat) + l.length ≤ l.length)) = true by simp)
      let t42 : Tp pr := .n .rows (show (List.map (fun x => List.map C.fz x) (List.take l.length (List.drop (0 : Nat) (bcc (exb l))))) = List.map Ex.ce l by simp)
      let t44 : Tp pr := .m (show (true && [Ob.vec true (3 : Nat) (bcc (exb c))].all Ob.flat) = true by simp)
      let t45 : Tp pr := .m (show (decide ((bcc (exb c)).length = c.length ∧ (0 : Nat) + c.length ≤ c.length)) = true by simp)
      let t46 : Tp pr := .n .rows (show (List.map (fun x => List.map C.fz x) (List.take c.length (List.drop (0 : Nat) (bcc (exb c))))) = List.map Ex.ce c by simp)
      let t51 : Tp pr := .m (show (decide ((bcc (mark3 mText (1 : Int) (exb c).length)).length = c.length ∧ (0 : Nat) + c.length ≤ c.length)) = true by simp [*])
      let t52 : Tp pr := .n .rows (show (List.map (fun x => List.map C.fz x) (List.take c.length (List.drop (0 : Nat) (bcc (mark3 mText (1 : Int) (exb c).length))))) = List.map Bc.ce (mark3 mText (1 : Int) c.length) by simp)
      let t56 : Tp pr := .b (show ((1 : Int) + (3 : Int) * (↑c.length : Int) != (1 : Int) + (3 : Int) * (↑(exb c).length : Int)) = false by simp)
      exact .tp [.a (h0), t1, .a (h1), t3, t4, .a (h2), .a (h1), t7, t8, .a (h3), t10, t11, t12, .a (h6), .m (rfl : true = true), .b (rfl : false = false), .b (rfl : false = false), .a (h1), t18, t19, t20, t21, .a (h4), .m (rfl : true = true), .b (rfl : false = false), t25, .b (rfl : false = false), t27, t28, .a (h6), .m (rfl : true = true), .b (rfl : false = false), .b (rfl : false = false), t33, t34, t35, .a (h8), .m (rfl : true = true), .b (rfl : false = false), t39, .a (h1), t41, t42, .a (h3), t44, t45, t46, .a (h6), .m (rfl : true = true), .b (rfl : false = false), .b (rfl : false = false), t51, t52, .a (h8), .m (rfl : true = true), .b (rfl : false = false), t56] (by kernel_rfl)
def Ex.wf (x : Ex) : Prop := (Lit.int .i64 x.kind).wf = true ∧ (Lit.int .i64 x.num).wf = true ∧ x.text.size ≤ 9223372036854775807
theorem prim_none : PrimOk pr := fun f p h => by cases h
theorem law_ev (l : List Ex) (h : l.length ≤ 9223372036854775807 ∧ ∀ x ∈ l, x.wf) : Ev pr (.call 5 [exs l] []) (.val (.t (.bool true)) []) := law0_ev l h.1 fun x hx => (h.2 x hx).2.2
end Go.Ev
