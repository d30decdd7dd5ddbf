import Derived.Test.YtcbgiccgiegdbabKFnExactDropRoot3
/- Heaps: what the laws' own functions do with them. -/
namespace Go.Ev
set_option linter.unusedVariables false
set_option linter.unusedSimpArgs false
open Go.Proofs
set_option maxRecDepth 100000
set_option linter.unusedVariables false
set_option maxHeartbeats 2000000
theorem toIntL_ev (l : List Int) : ∀ (rest m : List Int), l = m ++ rest → l.length ≤ 1048576 → Ev pr (.loop (lq pr 24 0) (at_ [(0, .t (.seq 1 (l.map intt))), (3, .vec 0 l.length 1 0 l.length), (4, i64 m.length)] [.vec true 1 (ints (m ++ List.replicate rest.length 0))] 0))
    (.exit 0 (at_ [(3, .vec 0 l.length 1 0 l.length)] [.vec true 1 (ints l)] 0))
  | [], m, he, h => by
    have hll : (l.length : Int) = m.length := by simp [he]
    have he2 : l = m := by simpa using he
    subst he2
    let t0 : Tp pr := .i (show ((↑(List.map intt l).length : Int) : Int) = (↑l.length : Int) by simp)
    let t1 : Tp pr := .b (show (decide ((↑l.length : Int) < (↑l.length : Int))) = false by simp)
    exact .tpe [t0, t1] (Out.exit (0 : Nat) (at_ [((3 : Nat), V.vec (0 : Nat) l.length (1 : Nat) (0 : Nat) l.length)] [Ob.vec true (1 : Nat) (ints (l ++ List.replicate (0 : Nat) (0 : Int)))] (0 : Nat))) (by kernel_rfl) (congrArg (fun x => Out.exit (0 : Nat) (at_ [((3 : Nat), V.vec (0 : Nat) l.length (1 : Nat) (0 : Nat) l.length)] [Ob.vec true (1 : Nat) x] (0 : Nat))) (show (ints (l ++ List.replicate (0 : Nat) (0 : Int))) = (ints l) by simp))
  | x :: rest, m, he, h => by
    have hll : (l.length : Int) = m.length + 1 + rest.length := by simp [he]; omega
    have hg : lkp (l.map intt) (m.length : Int) = some [T.int .i64 x] := by subst he; simp [intt]
    have ih := toIntL_ev l rest (m ++ [x]) (by simp [he]) h
    have hg2 : (ints (m ++ 0 :: List.replicate rest.length 0))[m.length]? = some (intc 0) := by simp [ints]
    rw [show List.replicate (x :: rest).length (0 : Int) = 0 :: List.replicate rest.length 0 from rfl]
    let t0 : Tp pr := .i (show ((↑(List.map intt l).length : Int) : Int) = (↑l.length : Int) by simp)
    let t1 : Tp pr := .b (show (decide ((↑m.length : Int) < (↑l.length : Int))) = true by (simp; omega))
    let t2 : Tp pr := .g .row (show (lkp (List.map intt l) (↑m.length : Int)) = some ([T.int IntKind.i64 x]) from hg)
    let t3 : Tp pr := .m (show (decide ((0 : Int) ≤ (↑m.length : Int) ∧ (↑m.length : Int).toNat < l.length)) = true by simp [*])
    let t4 : Tp pr := .c (show ((0 : Nat) + (↑m.length : Int).toNat : Nat) = m.length by omega)
    let t5 : Tp pr := .m (show (decide ((ints (m ++ (0 : Int) :: List.replicate rest.length (0 : Int))).length = l.length)) = true by simp [*])
    let t6 : Tp pr := .g .crow (show ((ints (m ++ (0 : Int) :: List.replicate rest.length (0 : Int)))[m.length]?) = some (intc (0 : Int)) from hg2)
    let t7 : Tp pr := .n .crows (show ((ints (m ++ (0 : Int) :: List.replicate rest.length (0 : Int))).set m.length [C.t (T.int IntKind.i64 x)]) = ints (m ++ x :: List.replicate rest.length (0 : Int)) by simp)
    let t8 : Tp pr := .i (wrap_i64 (a := (↑m.length : Int) + (1 : Int)) (by omega) (by omega))
    let t9 : Tp pr := .a (Ev.castq ((congrArg (fun x_1 => Q.loop (lq pr (24 : FuncId) (0 : Nat)) (at_ [((0 : Nat), V.t (T.seq (1 : Nat) (List.map intt l))), ((3 : Nat), V.vec (0 : Nat) l.length (1 : Nat) (0 : Nat) l.length), ((4 : Nat), i64 x_1)] [Ob.vec true (1 : Nat) (ints (m ++ [x] ++ List.replicate rest.length (0 : Int)))] (0 : Nat))) (show ((↑(m ++ [x]).length : Int)) = ((↑m.length : Int) + (1 : Int)) by simp [ints, intc])).trans (congrArg (fun x => Q.loop (lq pr (24 : FuncId) (0 : Nat)) (at_ [((0 : Nat), V.t (T.seq (1 : Nat) (List.map intt l))), ((3 : Nat), V.vec (0 : Nat) l.length (1 : Nat) (0 : Nat) l.length), ((4 : Nat), i64 ((↑m.length : Int) + (1 : Int)))] [Ob.vec true (1 : Nat) x] (0 : Nat))) (show (ints (m ++ [x] ++ List.replicate rest.length (0 : Int))) = (ints (m ++ x :: List.replicate rest.length (0 : Int))) by simp [ints, intc]))) (ih))
    exact .tp [t0, t1, t2, t3, t4, t5, t6, t7, t8, t9] (by kernel_rfl)
theorem toIntS_ev (l : List Int) (hl : l.length ≤ 1048576) : Ev pr (.call 24 [.t (.seq 1 (l.map intt))] []) (.val (.vec 0 l.length 1 0 l.length) [.vec true 1 (ints l)]) := by
  have := toIntL_ev l l [] rfl hl
  let t0 : Tp pr := .i (show ((↑(List.map intt l).length : Int) : Int) = (↑l.length : Int) by simp)
  let t1 : Tp pr := .m (show (decide ((0 : Int) ≤ (↑l.length : Int) ∧ (↑l.length : Int) ≤ (↑l.length : Int) ∧ (↑l.length : Int) ≤ (4294967296 : Int))) = true by (simp; omega))
  let t2 : Tp pr := .c (show ((↑l.length : Int).toNat : Nat) = l.length by omega)
  let t3 : Tp pr := .n .crows (rfl : (List.replicate l.length [C.t (T.int IntKind.i64 (0 : Int))]) = _)
  let t4 : Tp pr := .a (Ev.castq (congrArg (fun x => Q.loop (lq pr (24 : FuncId) (0 : Nat)) (at_ [((0 : Nat), V.t (T.seq (1 : Nat) (List.map intt l))), ((3 : Nat), V.vec (0 : Nat) l.length (1 : Nat) (0 : Nat) l.length), ((4 : Nat), i64 (↑(0 : Nat) : Int))] [Ob.vec true (1 : Nat) x] (0 : Nat))) (show (ints ([] ++ List.replicate l.length (0 : Int))) = (List.replicate l.length [C.t (T.int IntKind.i64 (0 : Int))]) by simp [ints, intc])) (this))
  exact .tp [t0, t1, t2, t3, t4] (by kernel_rfl)
theorem eqIntL_ev : ∀ (rest m : List Int), m.length + rest.length ≤ 1048576 → Ev pr (.loop (lq pr 26 0) (at_ [(0, .t (.seq 1 ((m ++ rest).map intt))), (1, .t (.seq 1 ((m ++ rest).map intt))), (5, i64 m.length)] [] 0)) (.exit 0 (at_ [] [] 0))
  | [], m, h => by
    let t0 : Tp pr := .i (show ((↑(List.map intt (m ++ [])).length : Int) : Int) = (↑m.length : Int) by simp)
    let t1 : Tp pr := .b (show (decide ((↑m.length : Int) < (↑m.length : Int))) = false by simp)
    exact .tp [t0, t1] (by kernel_rfl)
  | x :: rest, m, h => by
    simp at h
    have ih := eqIntL_ev rest (m ++ [x]) (by simp; omega)
    have hg : lkp ((m ++ x :: rest).map intt) (m.length : Int) = some [T.int .i64 x] := by simp [intt]
    let t0 : Tp pr := .i (show ((↑(List.map intt (m ++ x :: rest)).length : Int) : Int) = (↑m.length : Int) + ((↑rest.length : Int) + (1 : Int)) by simp)
    let t1 : Tp pr := .b (show (decide ((↑m.length : Int) < (↑m.length : Int) + ((↑rest.length : Int) + (1 : Int)))) = true by (simp; omega))
    let t4 : Tp pr := .g .row (show (lkp (List.map intt (m ++ x :: rest)) (↑m.length : Int)) = some ([T.int IntKind.i64 x]) from hg)
    let t9 : Tp pr := .g .row (show (lkp (List.map intt (m ++ x :: rest)) (↑m.length : Int)) = some ([T.int IntKind.i64 x]) from hg)
    let t14 : Tp pr := .i (wrap_i64 (a := (↑m.length : Int) + (1 : Int)) (by omega) (by omega))
    let t15 : Tp pr := .a (Ev.castq ((congrArg (fun x_1 => Q.loop (lq pr (26 : FuncId) (0 : Nat)) (at_ [((0 : Nat), V.t (T.seq (1 : Nat) x_1)), ((1 : Nat), V.t (T.seq (1 : Nat) x_1)), ((5 : Nat), i64 (↑(m ++ [x]).length : Int))] [] (0 : Nat))) (show (List.map intt (m ++ [x] ++ rest)) = (List.map intt (m ++ x :: rest)) by simp)).trans (congrArg (fun x_1 => Q.loop (lq pr (26 : FuncId) (0 : Nat)) (at_ [((0 : Nat), V.t (T.seq (1 : Nat) (List.map intt (m ++ x :: rest)))), ((1 : Nat), V.t (T.seq (1 : Nat) (List.map intt (m ++ x :: rest)))), ((5 : Nat), i64 x_1)] [] (0 : Nat))) (show ((↑(m ++ [x]).length : Int)) = ((↑m.length : Int) + (1 : Int)) by simp))) (ih))
    exact .tp [t0, t1, .m (rfl : true = true), .m (rfl : true = true), t4, .m (rfl : true = true), .m (rfl : true = true), .m (rfl : true = true), .m (rfl : true = true), t9, .m (rfl : true = true), .m (rfl : true = true), .m (rfl : true = true), .b (show (x != x) = false by simp), t14, t15] (by kernel_rfl)
theorem eqIntS_ev (l : List Int) (h : l.length ≤ 1048576) : Ev pr (.call 26 [.t (.seq 1 (l.map intt)), .t (.seq 1 (l.map intt))] []) (.val (bl true) []) := by
  have := eqIntL_ev l [] (by simpa using h)
  let t0 : Tp pr := .i (show ((↑(List.map intt l).length : Int) : Int) = (↑l.length : Int) by simp)
  let t1 : Tp pr := .i (show ((↑(List.map intt l).length : Int) : Int) = (↑l.length : Int) by simp)
  let t2 : Tp pr := .b (show ((↑l.length : Int) != (↑l.length : Int)) = false by simp)
  exact .tp [t0, t1, t2, .a (this)] (by kernel_rfl)
theorem markIntL_ev : ∀ (rest m : List Int) (k : Int), 0 ≤ k → k + rest.length ≤ 9000000 → m.length + rest.length ≤ 1048576 →
    Ev pr (.loop (lq pr 27 0) (at_ [(0, .vec 0 (m.length + rest.length) 1 0 (m.length + rest.length)), (1, i64 k), (5, i64 m.length)] [.vec true 1 (ints (m ++ rest))] 1))
      (.exit 0 (at_ [(1, i64 (k + rest.length))] [.vec true 1 (ints (m ++ markI k rest.length))] 1))
  | [], m, k, h0, h1, h2 => by
    let t0 : Tp pr := .i (show ((↑(m.length + (0 : Nat)) : Int) : Int) = (↑m.length : Int) by omega)
    let t1 : Tp pr := .b (show (decide ((↑m.length : Int) < (↑m.length : Int))) = false by simp)
    exact .tpe [t0, t1] (Out.exit (0 : Nat) (at_ [((1 : Nat), V.t (T.int IntKind.i64 k))] [Ob.vec true (1 : Nat) (ints (m ++ []))] (1 : Nat))) (by kernel_rfl) ((congrArg (fun x => Out.exit (0 : Nat) (at_ [((1 : Nat), V.t (T.int IntKind.i64 x))] [Ob.vec true (1 : Nat) (ints (m ++ []))] (1 : Nat))) (show (k) = (k + (0 : Int)) by simp [markI])).trans (congrArg (fun x => Out.exit (0 : Nat) (at_ [((1 : Nat), V.t (T.int IntKind.i64 (k + (0 : Int))))] [Ob.vec true (1 : Nat) x] (1 : Nat))) (show (ints (m ++ [])) = (ints (m ++ markI k (0 : Nat))) by simp [markI])))
  | x :: rest, m, k, h0, h1, h2 => by
    simp at h1 h2
    have ih := markIntL_ev rest (m ++ [k]) (k + 1) (by omega) (by omega) (by simp; omega)
    let t0 : Tp pr := .i (show ((↑(m.length + (x :: rest).length) : Int) : Int) = (↑m.length : Int) + ((↑rest.length : Int) + (1 : Int)) by simp)
    let t1 : Tp pr := .b (show (decide ((↑m.length : Int) < (↑m.length : Int) + ((↑rest.length : Int) + (1 : Int)))) = true by (simp; omega))
    let t2 : Tp pr := .m (show (decide ((0 : Int) ≤ (↑m.length : Int) ∧ (↑m.length : Int).toNat < m.length + (x :: rest).length)) = true by simp)
    let t3 : Tp pr := .c (show ((0 : Nat) + (↑m.length : Int).toNat : Nat) = m.length by omega)
    let t4 : Tp pr := .m (show (decide ((ints (m ++ x :: rest)).length = m.length + (x :: rest).length)) = true by simp)
    let t5 : Tp pr := .g .crow (show ((ints (m ++ x :: rest))[m.length]?) = some ([C.t (T.int IntKind.i64 x)]) by simp)
    let t6 : Tp pr := .n .crows (show ((ints (m ++ x :: rest)).set m.length [C.t (T.int IntKind.i64 k)]) = ints (m ++ k :: rest) by simp)
    let t7 : Tp pr := .i (wrap_i64 (a := k + (1 : Int)) (by omega) (by omega))
    let t8 : Tp pr := .i (wrap_i64 (a := (↑m.length : Int) + (1 : Int)) (by omega) (by omega))
    let t9 : Tp pr := .a (Ev.castq (((congrArg (fun x => Q.loop (lq pr (27 : FuncId) (0 : Nat)) (at_ [((0 : Nat), V.vec (0 : Nat) x (1 : Nat) (0 : Nat) x), ((1 : Nat), i64 (k + (1 : Int))), ((5 : Nat), i64 (↑(m ++ [k]).length : Int))] [Ob.vec true (1 : Nat) (ints (m ++ [k] ++ rest))] (1 : Nat))) (show ((m ++ [k]).length + rest.length) = (m.length + (x :: rest).length) by (simp [markI] <;> omega))).trans (congrArg (fun x_1 => Q.loop (lq pr (27 : FuncId) (0 : Nat)) (at_ [((0 : Nat), V.vec (0 : Nat) (m.length + (x :: rest).length) (1 : Nat) (0 : Nat) (m.length + (x :: rest).length)), ((1 : Nat), i64 (k + (1 : Int))), ((5 : Nat), i64 x_1)] [Ob.vec true (1 : Nat) (ints (m ++ [k] ++ rest))] (1 : Nat))) (show ((↑(m ++ [k]).length : Int)) = ((↑m.length : Int) + (1 : Int)) by (simp [markI] <;> omega)))).trans (congrArg (fun x_1 => Q.loop (lq pr (27 : FuncId) (0 : Nat)) (at_ [((0 : Nat), V.vec (0 : Nat) (m.length + (x :: rest).length) (1 : Nat) (0 : Nat) (m.length + (x :: rest).length)), ((1 : Nat), i64 (k + (1 : Int))), ((5 : Nat), i64 ((↑m.length : Int) + (1 : Int)))] [Ob.vec true (1 : Nat) x_1] (1 : Nat))) (show (ints (m ++ [k] ++ rest)) = (ints (m ++ k :: rest)) by (simp [markI] <;> omega)))) (ih))
    exact .tpe [t0, t1, t2, t3, t4, t5, t6, t7, t8, t9] (Out.exit (0 : Nat) (at_ [((1 : Nat), V.t (T.int IntKind.i64 (k + (1 : Int) + (↑rest.length : Int))))] [Ob.vec true (1 : Nat) (ints (m ++ [k] ++ markI (k + (1 : Int)) rest.length))] (1 : Nat))) (by kernel_rfl) ((congrArg (fun x => Out.exit (0 : Nat) (at_ [((1 : Nat), V.t (T.int IntKind.i64 x))] [Ob.vec true (1 : Nat) (ints (m ++ [k] ++ markI (k + (1 : Int)) rest.length))] (1 : Nat))) (show (k + (1 : Int) + (↑rest.length : Int)) = (k + (↑(x :: rest).length : Int)) by (simp [markI] <;> omega))).trans (congrArg (fun x_1 => Out.exit (0 : Nat) (at_ [((1 : Nat), V.t (T.int IntKind.i64 (k + (↑(x :: rest).length : Int))))] [Ob.vec true (1 : Nat) x_1] (1 : Nat))) (show (ints (m ++ [k] ++ markI (k + (1 : Int)) rest.length)) = (ints (m ++ markI k (x :: rest).length)) by (simp [markI] <;> omega))))
theorem markIntS_ev (l : List Int) (k : Int) (h0 : 0 ≤ k) (h : k + l.length ≤ 9000000) (h2 : l.length ≤ 1048576) : Ev pr (.call 27 [.vec 0 l.length 1 0 l.length, i64 k] [.vec true 1 (ints l)]) (.val (i64 (k + l.length)) [.vec true 1 (ints (markI k l.length))]) := by
  have := markIntL_ev l [] k h0 h (by simpa using h2)
  let t0 : Tp pr := .a (Ev.castq (congrArg (fun x => Q.loop (lq pr (27 : FuncId) (0 : Nat)) (at_ [((0 : Nat), V.vec (0 : Nat) x (1 : Nat) (0 : Nat) x), ((1 : Nat), i64 k), ((5 : Nat), i64 (↑(0 : Nat) : Int))] [Ob.vec true (1 : Nat) (ints ([] ++ l))] (1 : Nat))) (show ((0 : Nat) + l.length) = (l.length) by simp)) (this))
  exact .tp [t0] (by kernel_rfl)
theorem heldIntL_ev : ∀ (n : Nat) (m : List Int) (k : Int), 0 ≤ k → k + n ≤ 9000000 → m.length + n ≤ 1048576 →
    Ev pr (.loop (lq pr 34 0) (at_ [(0, .t (.seq 1 ((m ++ markI k n).map intt))), (1, i64 k), (5, i64 m.length)] [] 0)) (.exit 0 (at_ [(1, i64 (k + n))] [] 0))
  | 0, m, k, h0, h1, h2 => by
    let t0 : Tp pr := .i (show ((↑(List.map intt (m ++ markI k (0 : Nat))).length : Int) : Int) = (↑m.length : Int) + (↑(markI k (0 : Nat)).length : Int) by simp)
    let t1 : Tp pr := .b (show (decide ((↑m.length : Int) < (↑m.length : Int) + (0 : Int))) = false by simp)
    exact .tpe [t0, t1] (Out.exit (0 : Nat) (at_ [((1 : Nat), V.t (T.int IntKind.i64 k))] [] (0 : Nat))) (by kernel_rfl) (congrArg (fun x => Out.exit (0 : Nat) (at_ [((1 : Nat), V.t (T.int IntKind.i64 x))] [] (0 : Nat))) (show (k) = (k + (0 : Int)) by simp [markI]))
  | n + 1, m, k, h0, h1, h2 => by
    have ih := heldIntL_ev n (m ++ [k]) (k + 1) (by omega) (by omega) (by simp; omega)
    have hm := markI_len (k + 1) n
    rw [show markI k (n + 1) = k :: markI (k + 1) n from rfl]
    have hg : lkp ((m ++ k :: markI (k + 1) n).map intt) (m.length : Int) = some [T.int .i64 k] := by simp [intt]
    let t0 : Tp pr := .i (show ((↑(List.map intt (m ++ k :: markI (k + (1 : Int)) n)).length : Int) : Int) = (↑m.length : Int) + ((↑(markI (k + (1 : Int)) n).length : Int) + (1 : Int)) by simp)
    let t1 : Tp pr := .b (show (decide ((↑m.length : Int) < (↑m.length : Int) + ((↑(markI (k + (1 : Int)) n).length : Int) + (1 : Int)))) = true by (simp; omega))
    let t2 : Tp pr := .g .row (show (lkp (List.map intt (m ++ k :: markI (k + (1 : Int)) n)) (↑m.length : Int)) = some ([T.int IntKind.i64 k]) from hg)
    let t4 : Tp pr := .i (wrap_i64 (a := k + (1 : Int)) (by omega) (by omega))
    let t5 : Tp pr := .i (wrap_i64 (a := (↑m.length : Int) + (1 : Int)) (by omega) (by omega))
    let t6 : Tp pr := .a (Ev.castq ((congrArg (fun x => Q.loop (lq pr (34 : FuncId) (0 : Nat)) (at_ [((0 : Nat), V.t (T.seq (1 : Nat) x)), ((1 : Nat), i64 (k + (1 : Int))), ((5 : Nat), i64 (↑(m ++ [k]).length : Int))] [] (0 : Nat))) (show (List.map intt (m ++ [k] ++ markI (k + (1 : Int)) n)) = (List.map intt (m ++ k :: markI (k + (1 : Int)) n)) by (simp <;> omega))).trans (congrArg (fun x => Q.loop (lq pr (34 : FuncId) (0 : Nat)) (at_ [((0 : Nat), V.t (T.seq (1 : Nat) (List.map intt (m ++ k :: markI (k + (1 : Int)) n)))), ((1 : Nat), i64 (k + (1 : Int))), ((5 : Nat), i64 x)] [] (0 : Nat))) (show ((↑(m ++ [k]).length : Int)) = ((↑m.length : Int) + (1 : Int)) by (simp <;> omega)))) (ih))
    exact .tpe [t0, t1, t2, .b (show (k != k) = false by simp), t4, t5, t6] (Out.exit (0 : Nat) (at_ [((1 : Nat), V.t (T.int IntKind.i64 (k + (1 : Int) + (↑n : Int))))] [] (0 : Nat))) (by kernel_rfl) (congrArg (fun x => Out.exit (0 : Nat) (at_ [((1 : Nat), V.t (T.int IntKind.i64 x))] [] (0 : Nat))) (show (k + (1 : Int) + (↑n : Int)) = (k + (↑(n + (1 : Nat)) : Int)) by (simp <;> omega)))
theorem heldIntS_ev (n : Nat) (k : Int) (h0 : 0 ≤ k) (h : k + n ≤ 9000000) (h2 : n ≤ 1048576) : Ev pr (.call 34 [.t (.seq 1 ((markI k n).map intt)), i64 k] []) (.val (i64 (k + n)) []) := by
  have := heldIntL_ev n [] k h0 h (by simpa using h2)
  exact .tp [.a (this)] (by kernel_rfl)
theorem eqIntNL_ev : Ev pr (.loop (lq pr 26 0) (at_ [(0, .t .nils), (1, .t (.seq 1 [])), (5, i64 0)] [] 0)) (.exit 0 (at_ [] [] 0)) := by
  let t0 : Tp pr := .i (rfl : ((0 : Int) : Int) = (0 : Int))
  exact .tp [t0, .b (rfl : false = false)] (by kernel_rfl)
theorem eqIntN_ev : Ev pr (.call 26 [.t .nils, .t (.seq 1 [])] []) (.val (bl true) []) := by
  let t0 : Tp pr := .i (rfl : ((0 : Int) : Int) = (0 : Int))
  let t1 : Tp pr := .i (rfl : ((0 : Int) : Int) = (0 : Int))
  exact .tp [t0, t1, .b (rfl : false = false), .a (eqIntNL_ev)] (by kernel_rfl)
theorem markIntNL_ev (k : Int) : Ev pr (.loop (lq pr 27 0) (at_ [(0, .t .nils), (1, i64 k), (5, i64 0)] [] 0)) (.exit 0 (at_ [(1, i64 k)] [] 0)) := by
  let t0 : Tp pr := .i (rfl : ((0 : Int) : Int) = (0 : Int))
  exact .tp [t0, .b (rfl : false = false)] (by kernel_rfl)
theorem markIntN_ev (k : Int) : Ev pr (.call 27 [.t .nils, i64 k] []) (.val (i64 k) []) := by
  have := markIntNL_ev k
  exact .tp [.a (this)] (by kernel_rfl)
theorem heldIntNL_ev (k : Int) : Ev pr (.loop (lq pr 34 0) (at_ [(0, .t .nils), (1, i64 k), (5, i64 0)] [] 0)) (.exit 0 (at_ [(1, i64 k)] [] 0)) := by
  let t0 : Tp pr := .i (rfl : ((0 : Int) : Int) = (0 : Int))
  exact .tp [t0, .b (rfl : false = false)] (by kernel_rfl)
theorem heldIntN_ev (k : Int) : Ev pr (.call 34 [.t .nils, i64 k] []) (.val (i64 k) []) := by
  have := heldIntNL_ev k
  exact .tp [.a (this)] (by kernel_rfl)
theorem szIntS_ev (l : List Int) (n : Int) (h0 : 0 ≤ n) (h1 : n ≤ 1048576) (hl : l.length ≤ 9223372036854775807) : Ev pr (.call 44 [isq l, i64 n] []) (.val (i64 (szI l n)) []) := by
  let t0 : Tp pr := .i (show ((↑(List.map intt l).length : Int) : Int) = (↑l.length : Int) by simp)
  let t1 : Tp pr := .i (wrap_i64 (a := n - (↑l.length : Int)) (by omega) (by omega))
  by_cases hc2 : n - (↑l.length : Int) < (0 : Int)
  · let t2 : Tp pr := .b (show (decide (n - (↑l.length : Int) < (0 : Int))) = true by simpa using hc2)
    exact .tpe [t0, t1, t2] (Out.val (V.t (T.int IntKind.i64 (-1 : Int))) []) (by kernel_rfl) (congrArg (fun x => Out.val (V.t (T.int IntKind.i64 x)) []) (show ((-1 : Int)) = (szI l n) by grind [szI]))
  · let t2 : Tp pr := .b (show (decide (n - (↑l.length : Int) < (0 : Int))) = false by simpa using hc2)
    exact .tpe [t0, t1, t2] (Out.val (V.t (T.int IntKind.i64 (n - (↑l.length : Int)))) []) (by kernel_rfl) (congrArg (fun x => Out.val (V.t (T.int IntKind.i64 x)) []) (show (n - (↑l.length : Int)) = (szI l n) by grind [szI]))
theorem szObject_ev (x : Obj) (n : Int) (h0 : 0 ≤ n) (h1 : n ≤ 1048576) (hl : x.links.length ≤ 9223372036854775807) : Ev pr (.call 70 [vs x.ce, i64 n] []) (.val (i64 (if szI x.links n < 0 then -1 else szI x.links n)) []) := by
  have h := szIntS_ev x.links n h0 h1 hl
  by_cases hz : szI x.links n < 0
  · rw [if_pos hz]; (
    let t1 : Tp pr := .b (show (decide (szI x.links n < (0 : Int))) = true by (simp; omega))
    exact .tp [.a (h), t1] (by kernel_rfl))
  · rw [if_neg hz]; (
    let t1 : Tp pr := .b (show (decide (szI x.links n < (0 : Int))) = false by (simp; omega))
    exact .tp [.a (h), t1] (by kernel_rfl))
def szOut : Option Int → Out
  | some m => .exit 0 (at_ [(1, i64 m)] [] 0)
  | none => .ret (at_ [(4, i64 (-1))] [] 0)
theorem szObjectL_ev (l : List Obj) (hl : l.length ≤ 9223372036854775807) (hs : ∀ x ∈ l, x.links.length ≤ 9223372036854775807) : ∀ (rest done : List Obj) (n : Int), l = done ++ rest → 0 ≤ n → n ≤ 1048576 →
    Ev pr (.loop (lq pr 43 0) (at_ [(0, osq l), (1, i64 n), (5, i64 done.length)] [] 0)) (szOut (szOL rest n))
  | [], done, n, he, h0, h1 => by
    have hll : (l.length : Int) = done.length := by simp [he]
    rw [show szOL [] n = some n from rfl]
    let t0 : Tp pr := .i (show ((↑(List.map Obj.ce l).length : Int) : Int) = (↑l.length : Int) by simp)
    let t1 : Tp pr := .b (show (decide ((↑done.length : Int) < (↑l.length : Int))) = false by (simp; omega))
    exact .tp [t0, t1] (by kernel_rfl)
  | x :: rest, done, n, he, h0, h1 => by
    have hll : (l.length : Int) = done.length + 1 + rest.length := by simp [he]; omega
    have hg : lkp (l.map Obj.ce) (done.length : Int) = some x.ce := by subst he; simp
    have hx := szObject_ev x n h0 h1 (hs x (by simp [he]))
    have e : szOL (x :: rest) n = if szI x.links n < 0 then none else szOL rest (szI x.links n) := rfl
    rw [e]
    by_cases hz : szI x.links n < 0
    · rw [if_pos hz] at hx ⊢
      let t0 : Tp pr := .i (show ((↑(List.map Obj.ce l).length : Int) : Int) = (↑l.length : Int) by simp)
      let t1 : Tp pr := .b (show (decide ((↑done.length : Int) < (↑l.length : Int))) = true by (simp; omega))
      let t2 : Tp pr := .g .row (show (lkp (List.map Obj.ce l) (↑done.length : Int)) = some (x.ce) from hg)
      exact .tp [t0, t1, t2, .a (hx), .b (rfl : true = true)] (by kernel_rfl)
    · rw [if_neg hz] at hx ⊢
      have hle := szI_le hz
      have ih := szObjectL_ev l hl hs rest (done ++ [x]) (szI x.links n) (by simp [he]) hle.1 (by omega)
      cases hr : szOL rest (szI x.links n) with
      | none => rw [hr] at ih; (
        let t0 : Tp pr := .i (show ((↑(List.map Obj.ce l).length : Int) : Int) = (↑l.length : Int) by simp)
        let t1 : Tp pr := .b (show (decide ((↑done.length : Int) < (↑l.length : Int))) = true by (simp; omega))
        let t2 : Tp pr := .g .row (show (lkp (List.map Obj.ce l) (↑done.length : Int)) = some (x.ce) from hg)
        let t4 : Tp pr := .b (show (decide (szI x.links n < (0 : Int))) = false by (simp; omega))
        let t5 : Tp pr := .i (wrap_i64 (a := (↑done.length : Int) + (1 : Int)) (by omega) (by omega))
        let t6 : Tp pr := .a (Ev.castq (congrArg (fun x_1 => Q.loop (lq pr (43 : FuncId) (0 : Nat)) (at_ [((0 : Nat), osq l), ((1 : Nat), i64 (szI x.links n)), ((5 : Nat), i64 x_1)] [] (0 : Nat))) (show ((↑(done ++ [x]).length : Int)) = ((↑done.length : Int) + (1 : Int)) by simp)) (ih))
        exact .tp [t0, t1, t2, .a (hx), t4, t5, t6] (by kernel_rfl))
      | some m => rw [hr] at ih; (
        let t0 : Tp pr := .i (show ((↑(List.map Obj.ce l).length : Int) : Int) = (↑l.length : Int) by simp)
        let t1 : Tp pr := .b (show (decide ((↑done.length : Int) < (↑l.length : Int))) = true by (simp; omega))
        let t2 : Tp pr := .g .row (show (lkp (List.map Obj.ce l) (↑done.length : Int)) = some (x.ce) from hg)
        let t4 : Tp pr := .b (show (decide (szI x.links n < (0 : Int))) = false by (simp; omega))
        let t5 : Tp pr := .i (wrap_i64 (a := (↑done.length : Int) + (1 : Int)) (by omega) (by omega))
        let t6 : Tp pr := .a (Ev.castq (congrArg (fun x_1 => Q.loop (lq pr (43 : FuncId) (0 : Nat)) (at_ [((0 : Nat), osq l), ((1 : Nat), i64 (szI x.links n)), ((5 : Nat), i64 x_1)] [] (0 : Nat))) (show ((↑(done ++ [x]).length : Int)) = ((↑done.length : Int) + (1 : Int)) by simp)) (ih))
        exact .tp [t0, t1, t2, .a (hx), t4, t5, t6] (by kernel_rfl))
theorem szObjectS_ev (l : List Obj) (n : Int) (h0 : 0 ≤ n) (h1 : n ≤ 1048576) (hl : l.length ≤ 9223372036854775807) (hs : ∀ x ∈ l, x.links.length ≤ 9223372036854775807) : Ev pr (.call 43 [osq l, i64 n] []) (.val (i64 (szO l n)) []) := by
  unfold szO
  by_cases h : n - l.length < 0
  · rw [if_pos h]; (
    let t0 : Tp pr := .i (show ((↑(List.map Obj.ce l).length : Int) : Int) = (↑l.length : Int) by simp)
    let t1 : Tp pr := .i (wrap_i64 (a := n - (↑l.length : Int)) (by omega) (by omega))
    let t2 : Tp pr := .b (show (decide (n - (↑l.length : Int) < (0 : Int))) = true by (simp; omega))
    exact .tp [t0, t1, t2] (by kernel_rfl))
  · rw [if_neg h]
    have hL := szObjectL_ev l hl hs l [] (n - l.length) rfl (by omega) (by omega)
    cases hr : szOL l (n - l.length) with
    | none => rw [hr] at hL; unfold szOut at hL; (
      let t0 : Tp pr := .i (show ((↑(List.map Obj.ce l).length : Int) : Int) = (↑l.length : Int) by simp)
      let t1 : Tp pr := .i (wrap_i64 (a := n - (↑l.length : Int)) (by omega) (by omega))
      let t2 : Tp pr := .b (show (decide (n - (↑l.length : Int) < (0 : Int))) = false by (simp; omega))
      exact .tp [t0, t1, t2, .a (hL)] (by kernel_rfl))
    | some m => rw [hr] at hL; unfold szOut at hL; (
      let t0 : Tp pr := .i (show ((↑(List.map Obj.ce l).length : Int) : Int) = (↑l.length : Int) by simp)
      let t1 : Tp pr := .i (wrap_i64 (a := n - (↑l.length : Int)) (by omega) (by omega))
      let t2 : Tp pr := .b (show (decide (n - (↑l.length : Int) < (0 : Int))) = false by (simp; omega))
      exact .tpe [t0, t1, t2, .a (hL)] (Out.val (V.t (T.int IntKind.i64 m)) []) (by kernel_rfl) (rfl))
theorem szHeap_ev (h : Hp) (n : Int) (h0 : 0 ≤ n) (h1 : n ≤ 1048576) (hl : h.objects.length ≤ 9223372036854775807) (hs : ∀ x ∈ h.objects, x.links.length ≤ 9223372036854775807) (hr : h.roots.length ≤ 9223372036854775807) :
    Ev pr (.call 14 [vs h.ce, i64 n] []) (.val (i64 (if szO h.objects n < 0 then -1 else if szI h.roots (szO h.objects n) < 0 then -1 else szI h.roots (szO h.objects n))) []) := by
  have g1 := szObjectS_ev h.objects n h0 h1 hl hs
  by_cases hz : szO h.objects n < 0
  · rw [if_pos hz]; (
    let t1 : Tp pr := .b (show (decide (szO h.objects n < (0 : Int))) = true by (simp; omega))
    exact .tp [.a (g1), t1] (by kernel_rfl))
  · rw [if_neg hz]
    have hle : szO h.objects n ≤ 1048576 := by
      unfold szO at *
      split
      · omega
      · rename_i hh
        rw [if_neg hh] at hz
        cases hr : szOL h.objects (n - h.objects.length) with
        | none => rw [hr] at hz; simp at hz
        | some m =>
          have h2 := szOL_sum _ _ m hr (by omega)
          have h3 : (h.objects.length : Int) ≤ marksO h.objects := by
            generalize h.objects = l
            induction l with
            | nil => simp [marksO]
            | cons x l ih => simp only [marksO, List.length_cons]; omega
          simp only [Option.getD_some]
          omega
    have g2 := szIntS_ev h.roots (szO h.objects n) (by omega) hle hr
    by_cases hz2 : szI h.roots (szO h.objects n) < 0
    · rw [if_pos hz2]; (
      let t1 : Tp pr := .b (show (decide (szO h.objects n < (0 : Int))) = false by (simp; omega))
      let t3 : Tp pr := .b (show (decide (szI h.roots (szO h.objects n) < (0 : Int))) = true by (simp; omega))
      exact .tp [.a (g1), t1, .a (g2), t3] (by kernel_rfl))
    · rw [if_neg hz2]; (
      let t1 : Tp pr := .b (show (decide (szO h.objects n < (0 : Int))) = false by (simp; omega))
      let t3 : Tp pr := .b (show (decide (szI h.roots (szO h.objects n) < (0 : Int))) = false by (simp; omega))
      exact .tp [.a (g1), t1, .a (g2), t3] (by kernel_rfl))
end Go.Ev

/- Heaps with rows of their own: made, compared, marked. -/
namespace Go.Ev
set_option linter.unusedVariables false
set_option linter.unusedSimpArgs false
open Go.Proofs
set_option maxRecDepth 100000
set_option linter.unusedVariables false
set_option maxHeartbeats 2000000
theorem toObject_ev (x : Obj) (hl : x.links.length ≤ 1048576) : Ev pr (.call 72 [vs x.ce] []) (.val (.agg [i64 x.mark, .vec 0 x.links.length 1 0 x.links.length]) [.vec true 1 (ints x.links)]) := by
  have h := toIntS_ev x.links hl
  exact .tp [.a (h)] (by kernel_rfl)
theorem toObjectL_ev (l : List Obj) (hl : l.length ≤ 1048576) (hs : ∀ x ∈ l, x.links.length ≤ 1048576) : ∀ (rest m : List Obj) (fl : Bool), l = m ++ rest →
    Ev pr (.loop (lq pr 47 0) (at_ [(0, osq l), (3, .vec 0 l.length 2 0 l.length), (4, i64 m.length)] [.vec fl 2 (m.map Obj.cc ++ List.replicate rest.length oz)] 0))
      (.exit 0 (at_ [(3, .vec 0 l.length 2 0 l.length)] [.vec (fl && rest.isEmpty) 2 (l.map Obj.cc)] 0))
  | [], m, fl, he => by
    have hll : (l.length : Int) = m.length := by simp [he]
    have he2 : l = m := by simpa using he
    subst he2
    let t0 : Tp pr := .i (show ((↑(List.map Obj.ce l).length : Int) : Int) = (↑l.length : Int) by simp)
    let t1 : Tp pr := .b (show (decide ((↑l.length : Int) < (↑l.length : Int))) = false by simp)
    exact .tpe [t0, t1] (Out.exit (0 : Nat) (at_ [((3 : Nat), V.vec (0 : Nat) l.length (2 : Nat) (0 : Nat) l.length)] [Ob.vec fl (2 : Nat) ((List.map Obj.cc l).append [])] (0 : Nat))) (by kernel_rfl) ((congrArg (fun x => Out.exit (0 : Nat) (at_ [((3 : Nat), V.vec (0 : Nat) l.length (2 : Nat) (0 : Nat) l.length)] [Ob.vec x (2 : Nat) ((List.map Obj.cc l).append [])] (0 : Nat))) (show (fl) = (fl && true) by simp)).trans (congrArg (fun x => Out.exit (0 : Nat) (at_ [((3 : Nat), V.vec (0 : Nat) l.length (2 : Nat) (0 : Nat) l.length)] [Ob.vec (fl && true) (2 : Nat) x] (0 : Nat))) (show ((List.map Obj.cc l).append []) = (List.map Obj.cc l) by simp)))
  | x :: rest, m, fl, he => by
    have hll : (l.length : Int) = m.length + 1 + rest.length := by simp [he]; omega
    have hll2 : l.length = m.length + 1 + rest.length := by omega
    have hg : lkp (l.map Obj.ce) (m.length : Int) = some x.ce := by subst he; simp
    have ht := toObject_ev x (hs x (by simp [he]))
    have ih := toObjectL_ev l hl hs rest (m ++ [x]) false (by simp [he])
    rw [show (m ++ [x]).map Obj.cc ++ List.replicate rest.length oz = m.map Obj.cc ++ [C.t (.int .i64 x.mark), C.row 1 (x.links.map intt)] :: List.replicate rest.length oz by simp [Obj.cc]] at ih
    rw [show List.replicate (x :: rest).length oz = [C.t (.int .i64 0), C.t .nils] :: List.replicate rest.length oz from rfl]
    have hg2 : (m.map Obj.cc ++ [C.t (.int .i64 0), C.t .nils] :: List.replicate rest.length oz)[m.length]? = some [C.t (.int .i64 0), C.t .nils] := by
      have := get_mid (m.map Obj.cc) [C.t (.int .i64 0), C.t .nils] (List.replicate rest.length oz)
      rwa [List.length_map] at this
    let t0 : Tp pr := .i (show ((↑(List.map Obj.ce l).length : Int) : Int) = (↑l.length : Int) by simp)
    let t1 : Tp pr := .b (show (decide ((↑m.length : Int) < (↑l.length : Int))) = true by (simp; omega))
    let t2 : Tp pr := .g .row (show (lkp (List.map Obj.ce l) (↑m.length : Int)) = some (x.ce) from hg)
    let t4 : Tp pr := .m (show (decide ((0 : Int) ≤ (↑m.length : Int) ∧ (↑m.length : Int).toNat < l.length)) = true by simp [*])
    let t5 : Tp pr := .c (show ((0 : Nat) + (↑m.length : Int).toNat : Nat) = m.length by omega)
    let t6 : Tp pr := .m (show (decide (((List.map Obj.cc m).append ([C.t (T.int IntKind.i64 (0 : Int)), C.t T.nils] :: List.replicate rest.length [C.t (T.int IntKind.i64 (0 : Int)), C.t T.nils])).length = l.length)) = true by simp [*])
    let t7 : Tp pr := .g .crow (show (((List.map Obj.cc m).append ([C.t (T.int IntKind.i64 (0 : Int)), C.t T.nils] :: List.replicate rest.length [C.t (T.int IntKind.i64 (0 : Int)), C.t T.nils]))[m.length]?) = some ([C.t (T.int IntKind.i64 (0 : Int)), C.t T.nils]) from hg2)
    let t8 : Tp pr := .n .crows (show (((List.map Obj.cc m).append ([C.t (T.int IntKind.i64 (0 : Int)), C.t T.nils] :: List.replicate rest.length [C.t (T.int IntKind.i64 (0 : Int)), C.t T.nils])).set m.length [C.t (T.int IntKind.i64 x.mark), C.t T.nils]) = List.map Obj.cc m ++ [C.t (T.int IntKind.i64 x.mark), C.t T.nils] :: List.replicate rest.length [C.t (T.int IntKind.i64 (0 : Int)), C.t T.nils] by simp)
    let t9 : Tp pr := .m (show (decide ((ints x.links).length = x.links.length ∧ x.links.length ≤ x.links.length)) = true by simp)
    let t10 : Tp pr := .m (show (decide (((List.map Obj.cc m).append ([C.t (T.int IntKind.i64 x.mark), C.t T.nils] :: List.replicate rest.length [C.t (T.int IntKind.i64 (0 : Int)), C.t T.nils])).length = l.length)) = true by simp [*])
    let t11 : Tp pr := .g .crow (show (((List.map Obj.cc m).append ([C.t (T.int IntKind.i64 x.mark), C.t T.nils] :: List.replicate rest.length [C.t (T.int IntKind.i64 (0 : Int)), C.t T.nils]))[m.length]?) = some ([C.t (T.int IntKind.i64 x.mark), C.t T.nils]) by simp)
    let t12 : Tp pr := .n .rows (show (List.map (fun x => List.map C.fz x) (List.take x.links.length (ints x.links))) = List.map intt x.links by simp)
    let t13 : Tp pr := .n .crows (show (((List.map Obj.cc m).append ([C.t (T.int IntKind.i64 x.mark), C.t T.nils] :: List.replicate rest.length [C.t (T.int IntKind.i64 (0 : Int)), C.t T.nils])).set m.length [C.t (T.int IntKind.i64 x.mark), C.row (1 : Nat) (List.map intt x.links)]) = List.map Obj.cc m ++ [C.t (T.int IntKind.i64 x.mark), C.row (1 : Nat) (List.map intt x.links)] :: List.replicate rest.length [C.t (T.int IntKind.i64 (0 : Int)), C.t T.nils] by simp)
    let t14 : Tp pr := .i (wrap_i64 (a := (↑m.length : Int) + (1 : Int)) (by omega) (by omega))
    let t15 : Tp pr := .a (Ev.castq (congrArg (fun x_1 => Q.loop (lq pr (47 : FuncId) (0 : Nat)) (at_ [((0 : Nat), osq l), ((3 : Nat), V.vec (0 : Nat) l.length (2 : Nat) (0 : Nat) l.length), ((4 : Nat), i64 x_1)] [Ob.vec false (2 : Nat) (List.map Obj.cc m ++ [C.t (T.int IntKind.i64 x.mark), C.row (1 : Nat) (List.map intt x.links)] :: List.replicate rest.length oz)] (0 : Nat))) (show ((↑(m ++ [x]).length : Int)) = ((↑m.length : Int) + (1 : Int)) by simp)) (ih))
    exact .tpe [t0, t1, t2, .a (ht), t4, t5, t6, t7, t8, t9, t10, t11, t12, t13, t14, t15] (Out.exit (0 : Nat) (at_ [((3 : Nat), V.vec (0 : Nat) l.length (2 : Nat) (0 : Nat) l.length)] [Ob.vec false (2 : Nat) (List.map Obj.cc l)] (0 : Nat))) (by kernel_rfl) (congrArg (fun x => Out.exit (0 : Nat) (at_ [((3 : Nat), V.vec (0 : Nat) l.length (2 : Nat) (0 : Nat) l.length)] [Ob.vec x (2 : Nat) (List.map Obj.cc l)] (0 : Nat))) (show (false) = (fl && false) by simp))
theorem toObjectS_ev (l : List Obj) (hl : l.length ≤ 1048576) (hs : ∀ x ∈ l, x.links.length ≤ 1048576) : Ev pr (.call 47 [osq l] []) (.val (.vec 0 l.length 2 0 l.length) [.vec l.isEmpty 2 (l.map Obj.cc)]) := by
  have := toObjectL_ev l hl hs l [] true rfl
  rw [Bool.true_and] at this
  let t0 : Tp pr := .i (show ((↑(List.map Obj.ce l).length : Int) : Int) = (↑l.length : Int) by simp)
  let t1 : Tp pr := .m (show (decide ((0 : Int) ≤ (↑l.length : Int) ∧ (↑l.length : Int) ≤ (↑l.length : Int) ∧ (↑l.length : Int) ≤ (4294967296 : Int))) = true by (simp; omega))
  let t2 : Tp pr := .c (show ((↑l.length : Int).toNat : Nat) = l.length by omega)
  let t3 : Tp pr := .n .crows (rfl : (List.replicate l.length [C.t (T.int IntKind.i64 (0 : Int)), C.t T.nils]) = _)
  exact .tp [t0, t1, t2, t3, .a (this)] (by kernel_rfl)
theorem toHeap_ev (h : Hp) (h1 : h.objects.length ≤ 1048576) (h2 : ∀ x ∈ h.objects, x.links.length ≤ 1048576) (h3 : h.roots.length ≤ 1048576) :
    Ev pr (.call 16 [vs h.ce] []) (.val (.agg [.vec 0 h.objects.length 2 0 h.objects.length, .vec 1 h.roots.length 1 0 h.roots.length]) [.vec h.objects.isEmpty 2 (h.objects.map Obj.cc), .vec true 1 (ints h.roots)]) := by
  have g1 := toObjectS_ev h.objects h1 h2
  have g2 := toIntS_ev h.roots h3
  exact .tp [.a (g1), .a (g2)] (by kernel_rfl)
theorem eqObject_ev (x : Obj) (hl : x.links.length ≤ 1048576) : Ev pr (.call 76 [vs x.ce, vs x.ce] []) (.val (bl true) []) := by
  have h := eqIntS_ev x.links hl
  let t0 : Tp pr := .b (show (x.mark != x.mark) = false by simp)
  exact .tp [t0, .a (h), .b (rfl : false = false)] (by kernel_rfl)
theorem eqObjectL_ev : ∀ (rest m : List Obj), m.length + rest.length ≤ 1048576 → (∀ x ∈ rest, x.links.length ≤ 1048576) → Ev pr (.loop (lq pr 52 0) (at_ [(0, osq (m ++ rest)), (1, osq (m ++ rest)), (5, i64 m.length)] [] 0)) (.exit 0 (at_ [] [] 0))
  | [], m, h, hs => by
    let t0 : Tp pr := .i (show ((↑(List.map Obj.ce (m ++ [])).length : Int) : Int) = (↑m.length : Int) by simp)
    let t1 : Tp pr := .b (show (decide ((↑m.length : Int) < (↑m.length : Int))) = false by simp)
    exact .tp [t0, t1] (by kernel_rfl)
  | x :: rest, m, h, hs => by
    simp at h
    have ih := eqObjectL_ev rest (m ++ [x]) (by simp; omega) (fun y hy => hs y (by simp [hy]))
    have hx := eqObject_ev x (hs x (by simp))
    have hg : lkp ((m ++ x :: rest).map Obj.ce) (m.length : Int) = some x.ce := by simp
    let t0 : Tp pr := .i (show ((↑(List.map Obj.ce (m ++ x :: rest)).length : Int) : Int) = (↑m.length : Int) + ((↑rest.length : Int) + (1 : Int)) by simp)
    let t1 : Tp pr := .b (show (decide ((↑m.length : Int) < (↑m.length : Int) + ((↑rest.length : Int) + (1 : Int)))) = true by (simp; omega))
    let t4 : Tp pr := .g .row (show (lkp (List.map Obj.ce (m ++ x :: rest)) (↑m.length : Int)) = some (x.ce) from hg)
    let t9 : Tp pr := .g .row (show (lkp (List.map Obj.ce (m ++ x :: rest)) (↑m.length : Int)) = some (x.ce) from hg)
    let t16 : Tp pr := .i (wrap_i64 (a := (↑m.length : Int) + (1 : Int)) (by omega) (by omega))
    let t17 : Tp pr := .a (Ev.castq ((congrArg (fun x_1 => Q.loop (lq pr (52 : FuncId) (0 : Nat)) (at_ [((0 : Nat), V.t (T.seq (2 : Nat) x_1)), ((1 : Nat), V.t (T.seq (2 : Nat) x_1)), ((5 : Nat), V.t (T.int IntKind.i64 (↑(m ++ [x]).length : Int)))] [] (0 : Nat))) (show (List.map Obj.ce (m ++ [x] ++ rest)) = (List.map Obj.ce (m ++ x :: rest)) by simp)).trans (congrArg (fun x_1 => Q.loop (lq pr (52 : FuncId) (0 : Nat)) (at_ [((0 : Nat), V.t (T.seq (2 : Nat) (List.map Obj.ce (m ++ x :: rest)))), ((1 : Nat), V.t (T.seq (2 : Nat) (List.map Obj.ce (m ++ x :: rest)))), ((5 : Nat), V.t (T.int IntKind.i64 x_1))] [] (0 : Nat))) (show ((↑(m ++ [x]).length : Int)) = ((↑m.length : Int) + (1 : Int)) by simp))) (ih))
    exact .tp [t0, t1, .m (rfl : true = true), .m (rfl : true = true), t4, .m (rfl : true = true), .m (rfl : true = true), .m (rfl : true = true), .m (rfl : true = true), t9, .m (rfl : true = true), .m (rfl : true = true), .a (hx), .m (rfl : true = true), .m (rfl : true = true), .b (rfl : false = false), t16, t17] (by kernel_rfl)
theorem eqObjectS_ev (l : List Obj) (h : l.length ≤ 1048576) (hs : ∀ x ∈ l, x.links.length ≤ 1048576) : Ev pr (.call 52 [osq l, osq l] []) (.val (bl true) []) := by
  have := eqObjectL_ev l [] (by simpa using h) hs
  let t0 : Tp pr := .i (show ((↑(List.map Obj.ce l).length : Int) : Int) = (↑l.length : Int) by simp)
  let t1 : Tp pr := .i (show ((↑(List.map Obj.ce l).length : Int) : Int) = (↑l.length : Int) by simp)
  let t2 : Tp pr := .b (show ((↑l.length : Int) != (↑l.length : Int)) = false by simp)
  exact .tp [t0, t1, t2, .a (this)] (by kernel_rfl)
theorem eqHeap_ev (h : Hp) (h1 : h.objects.length ≤ 1048576) (h2 : ∀ x ∈ h.objects, x.links.length ≤ 1048576) (h3 : h.roots.length ≤ 1048576) : Ev pr (.call 18 [vs h.ce, vs h.ce] []) (.val (bl true) []) := by
  have g1 := eqObjectS_ev h.objects h1 h2
  have g2 := eqIntS_ev h.roots h3
  exact .tp [.a (g1), .b (rfl : false = false), .a (g2), .b (rfl : false = false)] (by kernel_rfl)
theorem markLinksL_ev (fl : Bool) (P Q : List Obj) (a : Int) (N len : Nat) (hN : N = P.length + 1 + Q.length) (hlen : len ≤ 1048576) :
    ∀ (rest m : List Int) (k : Int), 0 ≤ k → k + rest.length ≤ 9000000 → len = m.length + rest.length →
    Ev pr (.loop (lq pr 27 0) (at_ [(0, .row 0 N P.length 1 1 len), (1, i64 k), (5, i64 m.length)] [.vec fl 2 ((P ++ ⟨a, m ++ rest⟩ :: Q).map Obj.cc)] 1))
      (.exit 0 (at_ [(1, i64 (k + rest.length))] [.vec fl 2 ((P ++ ⟨a, m ++ markI k rest.length⟩ :: Q).map Obj.cc)] 1))
  | [], m, k, h0, h1, h2 => by
    let t1 : Tp pr := .b (show (decide ((↑m.length : Int) < (↑len : Int))) = false by simp [*])
    exact .tpe [.i (rfl : ((↑len : Int)) = _), t1] (Out.exit (0 : Nat) (at_ [((1 : Nat), V.t (T.int IntKind.i64 k))] [Ob.vec fl (2 : Nat) (List.map Obj.cc (P ++ Obj.mk a (m ++ []) :: Q))] (1 : Nat))) (by kernel_rfl) ((congrArg (fun x => Out.exit (0 : Nat) (at_ [((1 : Nat), V.t (T.int IntKind.i64 x))] [Ob.vec fl (2 : Nat) (List.map Obj.cc (P ++ Obj.mk a (m ++ []) :: Q))] (1 : Nat))) (show (k) = (k + (0 : Int)) by simp [markI])).trans (congrArg (fun x => Out.exit (0 : Nat) (at_ [((1 : Nat), V.t (T.int IntKind.i64 (k + (0 : Int))))] [Ob.vec fl (2 : Nat) x] (1 : Nat))) (show (List.map Obj.cc (P ++ Obj.mk a (m ++ []) :: Q)) = (List.map Obj.cc (P ++ Obj.mk a (m ++ markI k (0 : Nat)) :: Q)) by simp [markI])))
  | x :: rest, m, k, h0, h1, h2 => by
    simp at h1 h2
    have ih := markLinksL_ev fl P Q a N len hN hlen rest (m ++ [k]) (k + 1) (by omega) (by omega) (by simp; omega)
    rw [show ((P ++ ⟨a, (m ++ [k]) ++ rest⟩ :: Q).map Obj.cc) = P.map Obj.cc ++ [C.t (.int .i64 a), C.row 1 (m.map intt ++ [T.int .i64 k] :: rest.map intt)] :: Q.map Obj.cc by simp [Obj.cc, intt]] at ih
    let t1 : Tp pr := .b (show (decide ((↑m.length : Int) < (↑len : Int))) = true by (simp; omega))
    let t2 : Tp pr := .m (show (decide ((0 : Int) ≤ (↑m.length : Int) ∧ (↑m.length : Int).toNat < len)) = true by simp [*])
    let t3 : Tp pr := .c (show ((↑m.length : Int).toNat : Nat) = m.length by omega)
    let t4 : Tp pr := .m (show (decide ((List.map Obj.cc (P ++ Obj.mk a (m ++ x :: rest) :: Q)).length = N)) = true by (simp; omega))
    let t5 : Tp pr := .g .crow (show ((List.map Obj.cc (P ++ Obj.mk a (m ++ x :: rest) :: Q))[P.length]?) = some ((Obj.mk a (m ++ x :: rest)).cc) by simp)
    let t6 : Tp pr := .g .row (show ((List.map intt (Obj.mk a (m ++ x :: rest)).links)[m.length]?) = some (intt x) by simp)
    let t8 : Tp pr := .n .crows (show ((List.map Obj.cc (P ++ Obj.mk a (m ++ x :: rest) :: Q)).set P.length [C.t (T.int IntKind.i64 a), C.row (1 : Nat) ((List.map intt (Obj.mk a (m ++ x :: rest)).links).set m.length [T.int IntKind.i64 k])]) = List.map Obj.cc P ++ [C.t (T.int IntKind.i64 a), C.row (1 : Nat) (List.map intt m ++ [T.int IntKind.i64 k] :: List.map intt rest)] :: List.map Obj.cc Q by simp)
    let t9 : Tp pr := .i (wrap_i64 (a := k + (1 : Int)) (by omega) (by omega))
    let t10 : Tp pr := .i (wrap_i64 (a := (↑m.length : Int) + (1 : Int)) (by omega) (by omega))
    let t11 : Tp pr := .a (Ev.castq (congrArg (fun x => Ev.Q.loop (lq pr (27 : FuncId) (0 : Nat)) (at_ [((0 : Nat), V.row (0 : Nat) N P.length (1 : Nat) (1 : Nat) len), ((1 : Nat), i64 (k + (1 : Int))), ((5 : Nat), i64 x)] [Ob.vec fl (2 : Nat) (List.map Obj.cc P ++ [C.t (T.int IntKind.i64 a), C.row (1 : Nat) (List.map intt m ++ [T.int IntKind.i64 k] :: List.map intt rest)] :: List.map Obj.cc Q)] (1 : Nat))) (show ((↑(m ++ [k]).length : Int)) = ((↑m.length : Int) + (1 : Int)) by (simp [markI] <;> omega))) (ih))
    exact .tpe [.i (rfl : ((↑len : Int)) = _), t1, t2, t3, t4, t5, t6, .m (rfl : true = true), t8, t9, t10, t11] (Out.exit (0 : Nat) (at_ [((1 : Nat), V.t (T.int IntKind.i64 (k + (1 : Int) + (↑rest.length : Int))))] [Ob.vec fl (2 : Nat) (List.map Obj.cc (P ++ Obj.mk a (m ++ [k] ++ markI (k + (1 : Int)) rest.length) :: Q))] (1 : Nat))) (by kernel_rfl) ((congrArg (fun x => Out.exit (0 : Nat) (at_ [((1 : Nat), V.t (T.int IntKind.i64 x))] [Ob.vec fl (2 : Nat) (List.map Obj.cc (P ++ Obj.mk a (m ++ [k] ++ markI (k + (1 : Int)) rest.length) :: Q))] (1 : Nat))) (show (k + (1 : Int) + (↑rest.length : Int)) = (k + (↑(x :: rest).length : Int)) by (simp [markI] <;> omega))).trans (congrArg (fun x_1 => Out.exit (0 : Nat) (at_ [((1 : Nat), V.t (T.int IntKind.i64 (k + (↑(x :: rest).length : Int))))] [Ob.vec fl (2 : Nat) x_1] (1 : Nat))) (show (List.map Obj.cc (P ++ Obj.mk a (m ++ [k] ++ markI (k + (1 : Int)) rest.length) :: Q)) = (List.map Obj.cc (P ++ Obj.mk a (m ++ markI k (x :: rest).length) :: Q)) by (simp [markI] <;> omega))))
theorem markLinks_ev (fl : Bool) (P Q : List Obj) (x : Obj) (N : Nat) (hN : N = P.length + 1 + Q.length) (k : Int) (h0 : 0 ≤ k) (h1 : k + x.links.length ≤ 9000000) (h2 : x.links.length ≤ 1048576) :
    Ev pr (.call 27 [.row 0 N P.length 1 1 x.links.length, i64 k] [.vec fl 2 ((P ++ x :: Q).map Obj.cc)]) (.val (i64 (k + x.links.length)) [.vec fl 2 ((P ++ ⟨x.mark, markI k x.links.length⟩ :: Q).map Obj.cc)]) := by
  have := markLinksL_ev fl P Q x.mark N x.links.length hN h2 x.links [] k h0 h1 (by simp)
  exact .tp [.a (this)] (by kernel_rfl)
theorem markObjectL_ev (N : Nat) (hNs : N ≤ 1048576) : ∀ (rest P : List Obj) (fl : Bool) (k : Int), N = P.length + rest.length → (∀ x ∈ rest, x.links.length ≤ 1048576) → 0 ≤ k → k + marksO rest ≤ 9000000 →
    Ev pr (.loop (lq pr 53 0) (at_ [(0, .vec 0 N 2 0 N), (1, i64 k), (5, i64 P.length)] [.vec fl 2 ((P ++ rest).map Obj.cc)] 1))
      (.exit 0 (at_ [(1, i64 (k + marksO rest))] [.vec fl 2 ((P ++ markedO k rest).map Obj.cc)] 1))
  | [], P, fl, k, hN, hx, h0, h1 => by
    let t1 : Tp pr := .b (show (decide ((↑P.length : Int) < (↑N : Int))) = false by simp [*])
    exact .tpe [.i (rfl : ((↑N : Int)) = _), t1] (Out.exit (0 : Nat) (at_ [((1 : Nat), V.t (T.int IntKind.i64 k))] [Ob.vec fl (2 : Nat) (List.map Obj.cc (P ++ []))] (1 : Nat))) (by kernel_rfl) ((congrArg (fun x => Out.exit (0 : Nat) (at_ [((1 : Nat), V.t (T.int IntKind.i64 x))] [Ob.vec fl (2 : Nat) (List.map Obj.cc (P ++ []))] (1 : Nat))) (show (k) = (k + (0 : Int)) by simp [markedO, marksO])).trans (congrArg (fun x => Out.exit (0 : Nat) (at_ [((1 : Nat), V.t (T.int IntKind.i64 (k + (0 : Int))))] [Ob.vec fl (2 : Nat) x] (1 : Nat))) (show (List.map Obj.cc (P ++ [])) = (List.map Obj.cc (P ++ markedO k [])) by simp [markedO, marksO])))
  | x :: rest, P, fl, k, hN, hx, h0, h1 => by
    have hm := marksO_nonneg rest
    simp [marksO] at h1 hN
    have hr := markLinks_ev fl P rest ⟨k, x.links⟩ N (by omega) (k + 1) (by omega) (by simp; omega) (hx x (by simp))
    have ih := markObjectL_ev N hNs rest (P ++ [⟨k, markI (k + 1) x.links.length⟩]) fl (k + 1 + x.links.length) (by simp; omega) (fun y hy => hx y (by simp [hy])) (by omega) (by omega)
    let t1 : Tp pr := .b (show (decide ((↑P.length : Int) < (↑N : Int))) = true by (simp; omega))
    let t2 : Tp pr := .m (show (decide ((0 : Int) ≤ (↑P.length : Int) ∧ (↑P.length : Int).toNat < N)) = true by simp [*])
    let t3 : Tp pr := .c (show ((0 : Nat) + (↑P.length : Int).toNat : Nat) = P.length by omega)
    let t4 : Tp pr := .m (show (decide ((List.map Obj.cc (P ++ x :: rest)).length = N)) = true by simp [*])
    let t5 : Tp pr := .g .crow (show ((List.map Obj.cc (P ++ x :: rest))[P.length]?) = some (x.cc) by simp)
    let t6 : Tp pr := .m (show (decide ((List.map Obj.cc (P ++ x :: rest)).length = N)) = true by simp [*])
    let t7 : Tp pr := .g .crow (show ((List.map Obj.cc (P ++ x :: rest))[P.length]?) = some (x.cc) by simp)
    let t8 : Tp pr := .n .crows (show ((List.map Obj.cc (P ++ x :: rest)).set P.length [C.t (T.int IntKind.i64 k), C.row (1 : Nat) (List.map intt x.links)]) = List.map Obj.cc P ++ [C.t (T.int IntKind.i64 k), C.row (1 : Nat) (List.map intt x.links)] :: List.map Obj.cc rest by simp)
    let t9 : Tp pr := .i (wrap_i64 (a := k + (1 : Int)) (by omega) (by omega))
    let t10 : Tp pr := .m (show (decide ((0 : Int) ≤ (↑P.length : Int) ∧ (↑P.length : Int).toNat < N)) = true by simp [*])
    let t11 : Tp pr := .c (show ((0 : Nat) + (↑P.length : Int).toNat : Nat) = P.length by omega)
    let t12 : Tp pr := .m (show (decide (((List.map Obj.cc P).append ([C.t (T.int IntKind.i64 k), C.row (1 : Nat) (List.map intt x.links)] :: List.map Obj.cc rest)).length = N)) = true by simp [*])
    let t13 : Tp pr := .g .crow (show (((List.map Obj.cc P).append ([C.t (T.int IntKind.i64 k), C.row (1 : Nat) (List.map intt x.links)] :: List.map Obj.cc rest))[P.length]?) = some ([C.t (T.int IntKind.i64 k), C.row (1 : Nat) (List.map intt x.links)]) by simp)
    let t14 : Tp pr := .a (Ev.castq (((congrArg (fun x_1 => Q.call (27 : FuncId) [V.row (0 : Nat) N P.length (1 : Nat) (1 : Nat) x_1, i64 (k + (1 : Int))] [Ob.vec fl (2 : Nat) (List.map Obj.cc (P ++ Obj.mk k x.links :: rest))]) (show ((Obj.mk k x.links).links.length) = ((List.map intt x.links).length) by (simp [markedO, marksO, Obj.cc] <;> omega))).trans (congrArg (fun x_1 => Q.call (27 : FuncId) [V.row (0 : Nat) N P.length (1 : Nat) (1 : Nat) (List.map intt x.links).length, i64 (k + (1 : Int))] [Ob.vec x_1 (2 : Nat) (List.map Obj.cc (P ++ Obj.mk k x.links :: rest))]) (show (fl) = (fl && true) by (simp [markedO, marksO, Obj.cc] <;> omega)))).trans (congrArg (fun x_1 => Q.call (27 : FuncId) [V.row (0 : Nat) N P.length (1 : Nat) (1 : Nat) (List.map intt x.links).length, i64 (k + (1 : Int))] [Ob.vec (fl && true) (2 : Nat) x_1]) (show (List.map Obj.cc (P ++ Obj.mk k x.links :: rest)) = ((List.map Obj.cc P).append ([C.t (T.int IntKind.i64 k), C.row (1 : Nat) (List.map intt x.links)] :: List.map Obj.cc rest)) by (simp [markedO, marksO, Obj.cc] <;> omega)))) (hr))
    let t15 : Tp pr := .i (wrap_i64 (a := (↑P.length : Int) + (1 : Int)) (by omega) (by omega))
    let t16 : Tp pr := .a (Ev.castq ((congrArg (fun x_1 => Q.loop (lq pr (53 : FuncId) (0 : Nat)) (at_ [((0 : Nat), V.vec (0 : Nat) N (2 : Nat) (0 : Nat) N), ((1 : Nat), i64 (k + (1 : Int) + (↑x.links.length : Int))), ((5 : Nat), i64 x_1)] [Ob.vec fl (2 : Nat) (List.map Obj.cc (P ++ [Obj.mk k (markI (k + (1 : Int)) x.links.length)] ++ rest))] (1 : Nat))) (show ((↑(P ++ [Obj.mk k (markI (k + (1 : Int)) x.links.length)]).length : Int)) = ((↑P.length : Int) + (1 : Int)) by (simp [markedO, marksO, Obj.cc] <;> omega))).trans (congrArg (fun x_1 => Q.loop (lq pr (53 : FuncId) (0 : Nat)) (at_ [((0 : Nat), V.vec (0 : Nat) N (2 : Nat) (0 : Nat) N), ((1 : Nat), i64 (k + (1 : Int) + (↑x.links.length : Int))), ((5 : Nat), i64 ((↑P.length : Int) + (1 : Int)))] [Ob.vec fl (2 : Nat) x_1] (1 : Nat))) (show (List.map Obj.cc (P ++ [Obj.mk k (markI (k + (1 : Int)) x.links.length)] ++ rest)) = (List.map Obj.cc (P ++ Obj.mk (Obj.mk k x.links).mark (markI (k + (1 : Int)) (Obj.mk k x.links).links.length) :: rest)) by (simp [markedO, marksO, Obj.cc] <;> omega)))) (ih))
    exact .tpe [.i (rfl : ((↑N : Int)) = _), t1, t2, t3, t4, t5, t6, t7, t8, t9, t10, t11, t12, t13, t14, t15, t16] (Out.exit (0 : Nat) (at_ [((1 : Nat), V.t (T.int IntKind.i64 (k + (1 : Int) + (↑x.links.length : Int) + marksO rest)))] [Ob.vec fl (2 : Nat) (List.map Obj.cc (P ++ [Obj.mk k (markI (k + (1 : Int)) x.links.length)] ++ markedO (k + (1 : Int) + (↑x.links.length : Int)) rest))] (1 : Nat))) (by kernel_rfl) ((congrArg (fun x_1 => Out.exit (0 : Nat) (at_ [((1 : Nat), V.t (T.int IntKind.i64 x_1))] [Ob.vec fl (2 : Nat) (List.map Obj.cc (P ++ [Obj.mk k (markI (k + (1 : Int)) x.links.length)] ++ markedO (k + (1 : Int) + (↑x.links.length : Int)) rest))] (1 : Nat))) (show (k + (1 : Int) + (↑x.links.length : Int) + marksO rest) = (k + marksO (x :: rest)) by (simp [markedO, marksO, Obj.cc] <;> omega))).trans (congrArg (fun x_1 => Out.exit (0 : Nat) (at_ [((1 : Nat), V.t (T.int IntKind.i64 (k + marksO (x :: rest))))] [Ob.vec fl (2 : Nat) x_1] (1 : Nat))) (show (List.map Obj.cc (P ++ [Obj.mk k (markI (k + (1 : Int)) x.links.length)] ++ markedO (k + (1 : Int) + (↑x.links.length : Int)) rest)) = (List.map Obj.cc (P ++ markedO k (x :: rest))) by (simp [markedO, marksO, Obj.cc] <;> omega))))
theorem markObjectS_ev (l : List Obj) (fl : Bool) (h : l.length ≤ 1048576) (hx : ∀ x ∈ l, x.links.length ≤ 1048576) (k : Int) (h0 : 0 ≤ k) (h1 : k + marksO l ≤ 9000000) :
    Ev pr (.call 53 [.vec 0 l.length 2 0 l.length, i64 k] [.vec fl 2 (l.map Obj.cc)]) (.val (i64 (k + marksO l)) [.vec fl 2 ((markedO k l).map Obj.cc)]) := by
  have := markObjectL_ev l.length h l [] fl k (by simp) hx h0 h1
  exact .tp [.a (this)] (by kernel_rfl)
theorem markHeap_ev (h : Hp) (fl : Bool) (g1 : h.objects.length ≤ 1048576) (g2 : ∀ x ∈ h.objects, x.links.length ≤ 1048576) (g3 : h.roots.length ≤ 1048576) (k : Int) (h0 : 0 ≤ k) (h1 : k ≤ 10) (hm : marksO h.objects ≤ 1048576) :
    Ev pr (.call 19 [.agg [.vec 0 h.objects.length 2 0 h.objects.length, .vec 1 h.roots.length 1 0 h.roots.length], i64 k] [.vec fl 2 (h.objects.map Obj.cc), .vec true 1 (ints h.roots)])
      (.val (i64 (k + marksO h.objects + h.roots.length)) [.vec fl 2 ((markedO k h.objects).map Obj.cc), .vec true 1 (ints (markI (k + marksO h.objects) h.roots.length))]) := by
  have hmn := marksO_nonneg h.objects
  have e1 := markObjectS_ev h.objects fl g1 g2 k h0 (by omega)
  have e2 := markIntS_ev h.roots (k + marksO h.objects) (by omega) (by omega) g3
  exact .tp [.a (e1), .a (e2)] (by kernel_rfl)
end Go.Ev

/- slices.Clone: what it makes, by the machine itself and by its contract. -/
namespace Go.Ev
set_option linter.unusedVariables false
set_option linter.unusedSimpArgs false
open Go.Proofs
set_option maxRecDepth 100000
set_option linter.unusedVariables false
set_option maxHeartbeats 1000000
theorem cloneN_ev : Ev pr0 (.call 57 [.t (.sn true)] []) (.val (.t .nils) []) := by
  exact .tp [.b (rfl : true = true)] (by kernel_rfl)
theorem cloneE_ev : Ev pr0 (.call 57 [.t (.sn false)] []) (.val (.vec 0 0 1 0 0) [.vec true 1 []]) := by
  exact .tp [.b (rfl : false = false), .m (rfl : true = true), .b (rfl : true = true), .c (rfl : ((0 : Nat)) = _), .n .crows (rfl : ([]) = _)] (by kernel_rfl)
theorem cloneL_ev (e : List T) (es : List (List T)) (h : es.length + 1 ≤ 1048576) : Ev pr0 (.call 57 [.t (.seq 1 (e :: es))] []) (.val (.vec 0 (es.length + 1) 1 0 (es.length + 1)) [.vec true 1 ((e :: es).map (List.map C.t))]) := by
  let t2 : Tp pr0 := .m (show (decide ((0 : Nat) = (0 : Nat) ∧ (0 : Nat) ≤ (0 : Nat) ∧ (0 : Nat) + (List.map (fun x => List.map C.t x) (e :: es)).length ≤ (4294967296 : Nat))) = true by (simp; omega))
  let t4 : Tp pr0 := .c (show ((0 : Nat) + (List.map (fun x => List.map C.t x) (e :: es)).length : Nat) = es.length + (1 : Nat) by simp)
  let t5 : Tp pr0 := .n .crows (show ([].append (List.map (fun x => List.map C.t x) (e :: es))) = List.map C.t e :: List.map (fun x => List.map C.t x) es by simp)
  exact .tp [.m (rfl : true = true), .b (rfl : false = false), t2, .b (rfl : false = false), t4, t5] (by kernel_rfl)
theorem follows_ok : pr0.P.follows .mixedOrders = true := by kernel_rfl
theorem prim_none : PrimOk pr := by
  intro f p hf
  have hf' : (if f = 57 then some clonePrim else none) = some p := hf
  split at hf'
  · rename_i e
    subst e
    obtain rfl := Option.some.inj hf'
    exact clone_ok (pr0 := pr0) follows_ok (fun _ _ h => by cases h) cloneN_ev cloneE_ev cloneL_ev
  · cases hf'
theorem clone_ev (l : List Int) (h : l.length ≤ 1048576) : Ev pr (.call 57 [isq l] []) (.val (.vec 0 l.length 1 0 l.length) [.vec true 1 (ints l)]) := by
  have h2 : clonePrim [isq l] [] = some (.vec 0 l.length 1 0 l.length, [.vec true 1 (ints l)]) := by
    simp only [clonePrim]
    rw [if_pos (by simpa using h)]
    simp [ints, intt, intc, Function.comp_def]
  exact Ev.prim (p := clonePrim) (by kernel_rfl) rfl h2
end Go.Ev

/- Heaps that are cloned: the program's and the reference's. -/
namespace Go.Ev
set_option linter.unusedVariables false
set_option linter.unusedSimpArgs false
open Go.Proofs
set_option maxRecDepth 100000
set_option linter.unusedVariables false
set_option maxHeartbeats 2000000
theorem cloneHL_ev (h : Hp) (h1 : h.objects.length ≤ 1048576) (h2 : ∀ x ∈ h.objects, x.links.length ≤ 1048576) : ∀ (rest m : List Obj) (fl : Bool), h.objects = m ++ rest →
    Ev pr (.loop (lq pr 50 0) (at_ [(2, .ptr 0 1 0 0), (3, .ptr 1 1 0 0), (15, osq h.objects), (16, i64 h.objects.length), (17, i64 m.length)]
        [.box [.t .nils, .t .nils], .box [.vec 2 h.objects.length 2 0 h.objects.length, .vec 3 h.roots.length 1 0 h.roots.length], .vec fl 2 (m.map Obj.cc ++ List.replicate rest.length oz), .vec true 1 (ints h.roots)] 0))
      (.exit 0 (at_ [(2, .ptr 0 1 0 0), (3, .ptr 1 1 0 0)]
        [.box [.t .nils, .t .nils], .box [.vec 2 h.objects.length 2 0 h.objects.length, .vec 3 h.roots.length 1 0 h.roots.length], .vec (fl && rest.isEmpty) 2 (h.objects.map Obj.cc), .vec true 1 (ints h.roots)] 0))
  | [], m, fl, he => by
    have hll : (h.objects.length : Int) = m.length := by simp [he]
    have he2 : h.objects = m := by simpa using he
    rw [← he2]
    have hll : (h.objects.length : Int) = m.length := by simp [he]
    let t0 : Tp pr := .b (show (decide ((↑h.objects.length : Int) < (↑h.objects.length : Int))) = false by simp)
    exact .tpe [t0] (Out.exit (0 : Nat) (at_ [((2 : Nat), V.ptr (0 : Nat) (1 : Nat) (0 : Nat) (0 : Nat)), ((3 : Nat), V.ptr (1 : Nat) (1 : Nat) (0 : Nat) (0 : Nat))] [Ob.box [V.t T.nils, V.t T.nils], Ob.box [V.vec (2 : Nat) h.objects.length (2 : Nat) (0 : Nat) h.objects.length, V.vec (3 : Nat) h.roots.length (1 : Nat) (0 : Nat) h.roots.length], Ob.vec fl (2 : Nat) ((List.map Obj.cc h.objects).append []), Ob.vec true (1 : Nat) (ints h.roots)] (0 : Nat))) (by kernel_rfl) ((congrArg (fun x => Out.exit (0 : Nat) (at_ [((2 : Nat), V.ptr (0 : Nat) (1 : Nat) (0 : Nat) (0 : Nat)), ((3 : Nat), V.ptr (1 : Nat) (1 : Nat) (0 : Nat) (0 : Nat))] [Ob.box [V.t T.nils, V.t T.nils], Ob.box [V.vec (2 : Nat) h.objects.length (2 : Nat) (0 : Nat) h.objects.length, V.vec (3 : Nat) h.roots.length (1 : Nat) (0 : Nat) h.roots.length], Ob.vec x (2 : Nat) ((List.map Obj.cc h.objects).append []), Ob.vec true (1 : Nat) (ints h.roots)] (0 : Nat))) (show (fl) = (fl && true) by simp)).trans (congrArg (fun x => Out.exit (0 : Nat) (at_ [((2 : Nat), V.ptr (0 : Nat) (1 : Nat) (0 : Nat) (0 : Nat)), ((3 : Nat), V.ptr (1 : Nat) (1 : Nat) (0 : Nat) (0 : Nat))] [Ob.box [V.t T.nils, V.t T.nils], Ob.box [V.vec (2 : Nat) h.objects.length (2 : Nat) (0 : Nat) h.objects.length, V.vec (3 : Nat) h.roots.length (1 : Nat) (0 : Nat) h.roots.length], Ob.vec (fl && true) (2 : Nat) x, Ob.vec true (1 : Nat) (ints h.roots)] (0 : Nat))) (show ((List.map Obj.cc h.objects).append []) = (List.map Obj.cc h.objects) by simp)))
  | x :: rest, m, fl, he => by
    have hll : (h.objects.length : Int) = m.length + 1 + rest.length := by simp [he]; omega
    have hll2 : h.objects.length = m.length + 1 + rest.length := by omega
    have hg : lkp (h.objects.map Obj.ce) (m.length : Int) = some x.ce := by rw [he]; simp
    have hc := clone_ev x.links (h2 x (by simp [he]))
    have ih := cloneHL_ev h h1 h2 rest (m ++ [x]) false (by simp [he])
    rw [show (m ++ [x]).map Obj.cc ++ List.replicate rest.length oz = m.map Obj.cc ++ [C.t (.int .i64 x.mark), C.row 1 (x.links.map intt)] :: List.replicate rest.length oz by simp [Obj.cc]] at ih
    rw [show List.replicate (x :: rest).length oz = [C.t (.int .i64 0), C.t .nils] :: List.replicate rest.length oz from rfl]
    have hg2 : (m.map Obj.cc ++ [C.t (.int .i64 0), C.t .nils] :: List.replicate rest.length oz)[m.length]? = some [C.t (.int .i64 0), C.t .nils] := by
      have := get_mid (m.map Obj.cc) [C.t (.int .i64 0), C.t .nils] (List.replicate rest.length oz)
      rwa [List.length_map] at this
    let t0 : Tp pr := .b (show (decide ((↑m.length : Int) < (↑h.objects.length : Int))) = true by (simp; omega))
    let t1 : Tp pr := .g .row (show (lkp (List.map Obj.ce h.objects) (↑m.length : Int)) = some (x.ce) from hg)
    let t12 : Tp pr := .m (show (decide ((0 : Int) ≤ (↑m.length : Int) ∧ (↑m.length : Int).toNat < h.objects.length)) = true by simp [*])
    let t13 : Tp pr := .c (show ((0 : Nat) + (↑m.length : Int).toNat : Nat) = m.length by omega)
    let t15 : Tp pr := .m (show (decide (((List.map Obj.cc m).append ([C.t (T.int IntKind.i64 (0 : Int)), C.t T.nils] :: List.replicate rest.length [C.t (T.int IntKind.i64 (0 : Int)), C.t T.nils])).length = h.objects.length)) = true by simp [*])
    let t16 : Tp pr := .g .crow (show (((List.map Obj.cc m).append ([C.t (T.int IntKind.i64 (0 : Int)), C.t T.nils] :: List.replicate rest.length [C.t (T.int IntKind.i64 (0 : Int)), C.t T.nils]))[m.length]?) = some ([C.t (T.int IntKind.i64 (0 : Int)), C.t T.nils]) from hg2)
    let t17 : Tp pr := .n .crows (show (((List.map Obj.cc m).append ([C.t (T.int IntKind.i64 (0 : Int)), C.t T.nils] :: List.replicate rest.length [C.t (T.int IntKind.i64 (0 : Int)), C.t T.nils])).set m.length [C.t (T.int IntKind.i64 x.mark), C.t T.nils]) = List.map Obj.cc m ++ [C.t (T.int IntKind.i64 x.mark), C.t T.nils] :: List.replicate rest.length [C.t (T.int IntKind.i64 (0 : Int)), C.t T.nils] by simp)
    let t18 : Tp pr := .m (show (decide ((ints x.links).length = x.links.length ∧ x.links.length ≤ x.links.length)) = true by simp)
    let t19 : Tp pr := .m (show (decide (((List.map Obj.cc m).append ([C.t (T.int IntKind.i64 x.mark), C.t T.nils] :: List.replicate rest.length [C.t (T.int IntKind.i64 (0 : Int)), C.t T.nils])).length = h.objects.length)) = true by simp [*])
    let t20 : Tp pr := .g .crow (show (((List.map Obj.cc m).append ([C.t (T.int IntKind.i64 x.mark), C.t T.nils] :: List.replicate rest.length [C.t (T.int IntKind.i64 (0 : Int)), C.t T.nils]))[m.length]?) = some ([C.t (T.int IntKind.i64 x.mark), C.t T.nils]) by simp)
    let t21 : Tp pr := .n .rows (show (List.map (fun x => List.map C.fz x) (List.take x.links.length (ints x.links))) = List.map intt x.links by simp)
    let t22 : Tp pr := .n .crows (show (((List.map Obj.cc m).append ([C.t (T.int IntKind.i64 x.mark), C.t T.nils] :: List.replicate rest.length [C.t (T.int IntKind.i64 (0 : Int)), C.t T.nils])).set m.length [C.t (T.int IntKind.i64 x.mark), C.row (1 : Nat) (List.map intt x.links)]) = List.map Obj.cc m ++ [C.t (T.int IntKind.i64 x.mark), C.row (1 : Nat) (List.map intt x.links)] :: List.replicate rest.length [C.t (T.int IntKind.i64 (0 : Int)), C.t T.nils] by simp)
    let t24 : Tp pr := .i (wrap_i64 (a := (↑m.length : Int) + (1 : Int)) (by omega) (by omega))
    let t25 : Tp pr := .a (Ev.castq (congrArg (fun x_1 => Q.loop (lq pr (50 : FuncId) (0 : Nat)) (at_ [((2 : Nat), V.ptr (0 : Nat) (1 : Nat) (0 : Nat) (0 : Nat)), ((3 : Nat), V.ptr (1 : Nat) (1 : Nat) (0 : Nat) (0 : Nat)), ((15 : Nat), osq h.objects), ((16 : Nat), i64 (↑h.objects.length : Int)), ((17 : Nat), i64 x_1)] [Ob.box [V.t T.nils, V.t T.nils], Ob.box [V.vec (2 : Nat) h.objects.length (2 : Nat) (0 : Nat) h.objects.length, V.vec (3 : Nat) h.roots.length (1 : Nat) (0 : Nat) h.roots.length], Ob.vec false (2 : Nat) (List.map Obj.cc m ++ [C.t (T.int IntKind.i64 x.mark), C.row (1 : Nat) (List.map intt x.links)] :: List.replicate rest.length oz), Ob.vec true (1 : Nat) (ints h.roots)] (0 : Nat))) (show ((↑(m ++ [x]).length : Int)) = ((↑m.length : Int) + (1 : Int)) by simp)) (ih))
    exact .tpe [t0, t1, .m (rfl : true = true), .m (rfl : true = true), .m (rfl : true = true), .m (rfl : true = true), .m (rfl : true = true), .m (rfl : true = true), .m (rfl : true = true), .a (hc), .m (rfl : true = true), .m (rfl : true = true), t12, t13, .m (rfl : true = true), t15, t16, t17, t18, t19, t20, t21, t22, .m (rfl : true = true), t24, t25] (Out.exit (0 : Nat) (at_ [((2 : Nat), V.ptr (0 : Nat) (1 : Nat) (0 : Nat) (0 : Nat)), ((3 : Nat), V.ptr (1 : Nat) (1 : Nat) (0 : Nat) (0 : Nat))] [Ob.box [V.t T.nils, V.t T.nils], Ob.box [V.vec (2 : Nat) h.objects.length (2 : Nat) (0 : Nat) h.objects.length, V.vec (3 : Nat) h.roots.length (1 : Nat) (0 : Nat) h.roots.length], Ob.vec false (2 : Nat) (List.map Obj.cc h.objects), Ob.vec true (1 : Nat) (ints h.roots)] (0 : Nat))) (by kernel_rfl) (congrArg (fun x => Out.exit (0 : Nat) (at_ [((2 : Nat), V.ptr (0 : Nat) (1 : Nat) (0 : Nat) (0 : Nat)), ((3 : Nat), V.ptr (1 : Nat) (1 : Nat) (0 : Nat) (0 : Nat))] [Ob.box [V.t T.nils, V.t T.nils], Ob.box [V.vec (2 : Nat) h.objects.length (2 : Nat) (0 : Nat) h.objects.length, V.vec (3 : Nat) h.roots.length (1 : Nat) (0 : Nat) h.roots.length], Ob.vec x (2 : Nat) (List.map Obj.cc h.objects), Ob.vec true (1 : Nat) (ints h.roots)] (0 : Nat))) (show (false) = (fl && false) by simp))
theorem cloneHeap_ev (h : Hp) (h1 : h.objects.length ≤ 1048576) (h2 : ∀ x ∈ h.objects, x.links.length ≤ 1048576) (h3 : h.roots.length ≤ 1048576) :
    Ev pr (.call 50 [vs h.ce] []) (.val (.agg [.vec 0 h.objects.length 2 0 h.objects.length, .vec 1 h.roots.length 1 0 h.roots.length]) [.vec h.objects.isEmpty 2 (h.objects.map Obj.cc), .vec true 1 (ints h.roots)]) := by
  have c := clone_ev h.roots h3
  have l := cloneHL_ev h h1 h2 h.objects [] true rfl
  rw [Bool.true_and] at l
  let t2 : Tp pr := .i (show ((↑(List.map Obj.ce h.objects).length : Int) : Int) = (↑h.objects.length : Int) by simp)
  let t4 : Tp pr := .m (show (decide ((0 : Int) ≤ (↑h.objects.length : Int) ∧ (↑h.objects.length : Int) ≤ (↑h.objects.length : Int) ∧ (↑h.objects.length : Int) ≤ (4294967296 : Int))) = true by (simp; omega))
  let t5 : Tp pr := .c (show ((↑h.objects.length : Int).toNat : Nat) = h.objects.length by omega)
  let t6 : Tp pr := .n .crows (rfl : (List.replicate h.objects.length [C.t (T.int IntKind.i64 (0 : Int)), C.t T.nils]) = _)
  let t15 : Tp pr := .i (show ((↑(List.map Obj.ce h.objects).length : Int) : Int) = (↑h.objects.length : Int) by simp)
  exact .tp [.m (rfl : true = true), .m (rfl : true = true), t2, .m (rfl : true = true), t4, t5, t6, .m (rfl : true = true), .m (rfl : true = true), .m (rfl : true = true), .a (c), .m (rfl : true = true), .m (rfl : true = true), .m (rfl : true = true), .m (rfl : true = true), t15, .a (l)] (by kernel_rfl)
theorem ownL_ev (h : Hp) (h1 : h.objects.length ≤ 1048576) (h2 : ∀ x ∈ h.objects, x.links.length ≤ 1048576) : ∀ (rest m : List Obj), h.objects = m ++ rest →
    Ev pr (.loop (lq pr 46 0) (at_ [(2, .ptr 0 1 0 0), (3, .ptr 1 1 0 0), (12, osq h.objects), (13, i64 h.objects.length), (14, i64 m.length)]
        [.box [.t .nils, .t .nils], .box [.vec 2 m.length 2 0 m.length, .vec 3 h.roots.length 1 0 h.roots.length], .vec m.isEmpty 2 (m.map Obj.cc), .vec true 1 (ints h.roots)] 0))
      (.exit 0 (at_ [(2, .ptr 0 1 0 0), (3, .ptr 1 1 0 0)]
        [.box [.t .nils, .t .nils], .box [.vec 2 h.objects.length 2 0 h.objects.length, .vec 3 h.roots.length 1 0 h.roots.length], .vec h.objects.isEmpty 2 (h.objects.map Obj.cc), .vec true 1 (ints h.roots)] 0))
  | [], m, he => by
    have hll : (h.objects.length : Int) = m.length := by simp [he]
    have he2 : h.objects = m := by simpa using he
    rw [← he2]
    let t0 : Tp pr := .b (show (decide ((↑h.objects.length : Int) < (↑h.objects.length : Int))) = false by simp)
    exact .tp [t0] (by kernel_rfl)
  | x :: rest, m, he => by
    have hll : (h.objects.length : Int) = m.length + 1 + rest.length := by simp [he]; omega
    have hll2 : h.objects.length = m.length + 1 + rest.length := by omega
    have hg : lkp (h.objects.map Obj.ce) (m.length : Int) = some x.ce := by rw [he]; simp
    have hx := h2 x (by simp [he])
    have ih := ownL_ev h h1 h2 rest (m ++ [x]) (by simp [he])
    rw [show (m ++ [x]).isEmpty = false by simp, show (m ++ [x]).map Obj.cc = m.map Obj.cc ++ [[C.t (.int .i64 x.mark), C.row 1 (x.links.map intt)]] by simp [Obj.cc], List.length_append, List.length_singleton] at ih
    obtain ⟨k, l⟩ := x
    cases l with
    | nil => (
      let t0 : Tp pr := .b (show (decide ((↑m.length : Int) < (↑h.objects.length : Int))) = true by (simp; omega))
      let t1 : Tp pr := .g .row (show (lkp (List.map Obj.ce h.objects) (↑m.length : Int)) = some ((Obj.mk k []).ce) from hg)
      let t8 : Tp pr := .g .crow (show (some [C.t (T.int IntKind.i64 k), C.t T.nils]) = some ([C.t (T.int IntKind.i64 k), C.t T.nils]) by simp)
      let t10 : Tp pr := .n .crows (show ([[C.t (T.int IntKind.i64 k), C.t T.nils]].set (0 : Nat) [C.t (T.int IntKind.i64 k), C.row (1 : Nat) []]) = [[C.t (T.int IntKind.i64 k), C.row (1 : Nat) []]] by simp)
      let t12 : Tp pr := .m (show (decide ((List.map Obj.cc m).length = m.length ∧ m.length = m.length ∧ m.length + (1 : Nat) ≤ (4294967296 : Nat))) = true by (simp; omega))
      let t14 : Tp pr := .n .crows (show ((List.map Obj.cc m).append [[C.t (T.int IntKind.i64 k), C.row (1 : Nat) []]]) = List.map Obj.cc m ++ [[C.t (T.int IntKind.i64 k), C.row (1 : Nat) []]] by simp)
      let t15 : Tp pr := .i (wrap_i64 (a := (↑m.length : Int) + (1 : Int)) (by omega) (by omega))
      exact .tp [t0, t1, .m (rfl : true = true), .b (rfl : true = true), .c (rfl : ((0 : Nat)) = _), .n .crows (rfl : ([]) = _), .m (rfl : true = true), .m (rfl : true = true), t8, .n .rows (rfl : ([]) = _), t10, .m (rfl : true = true), t12, .c (rfl : (m.length + (1 : Nat)) = _), t14, t15, .a (ih)] (by kernel_rfl))
    | cons y l => (
      let t0 : Tp pr := .b (show (decide ((↑m.length : Int) < (↑h.objects.length : Int))) = true by (simp; omega))
      let t1 : Tp pr := .g .row (show (lkp (List.map Obj.ce h.objects) (↑m.length : Int)) = some ((Obj.mk k (y :: l)).ce) from hg)
      let t2 : Tp pr := .m (show (decide ((0 : Nat) = (0 : Nat) ∧ (0 : Nat) ≤ (0 : Nat) ∧ (0 : Nat) + (List.map (fun x => List.map C.t x) (List.map intt (Obj.mk k (y :: l)).links)).length ≤ (4294967296 : Nat))) = true by (simp at *; omega))
      let t4 : Tp pr := .c (show ((0 : Nat) + (List.map (fun x => List.map C.t x) (List.map intt (Obj.mk k (y :: l)).links)).length : Nat) = l.length + (1 : Nat) by simp)
      let t5 : Tp pr := .n .crows (show ([].append (List.map (fun x => List.map C.t x) (List.map intt (Obj.mk k (y :: l)).links))) = List.map C.t (intt y) :: List.map ((fun x => List.map C.t x) ∘ intt) l by simp)
      let t6 : Tp pr := .m (show (decide (([C.t (T.int IntKind.i64 y)] :: List.map ((fun x => List.map C.t x) ∘ intt) l).length = l.length + (1 : Nat) ∧ l.length + (1 : Nat) ≤ l.length + (1 : Nat))) = true by simp)
      let t8 : Tp pr := .g .crow (show (some [C.t (T.int IntKind.i64 k), C.t T.nils]) = some ([C.t (T.int IntKind.i64 k), C.t T.nils]) by simp)
      let t9 : Tp pr := .n .rows (show (List.map (fun x => List.map C.fz x) (List.take (l.length + (1 : Nat)) ([C.t (T.int IntKind.i64 y)] :: List.map ((fun x => List.map C.t x) ∘ intt) l))) = [(C.t (T.int IntKind.i64 y)).fz] :: List.map ((fun x => List.map C.fz x) ∘ (fun x => List.map C.t x) ∘ intt) l by simp)
      let t10 : Tp pr := .n .crows (show ([[C.t (T.int IntKind.i64 k), C.t T.nils]].set (0 : Nat) [C.t (T.int IntKind.i64 k), C.row (1 : Nat) ([T.int IntKind.i64 y] :: List.map ((fun x => List.map C.fz x) ∘ (fun x => List.map C.t x) ∘ intt) l)]) = [[C.t (T.int IntKind.i64 k), C.row (1 : Nat) ([T.int IntKind.i64 y] :: List.map ((fun x => List.map C.fz x) ∘ (fun x => List.map C.t x) ∘ intt) l)]] by simp)
      let t12 : Tp pr := .m (show (decide ((List.map Obj.cc m).length = m.length ∧ m.length = m.length ∧ m.length + (1 : Nat) ≤ (4294967296 : Nat))) = true by (simp; omega))
      let t14 : Tp pr := .n .crows (show ((List.map Obj.cc m).append [[C.t (T.int IntKind.i64 k), C.row (1 : Nat) ([T.int IntKind.i64 y] :: List.map ((fun x => List.map C.fz x) ∘ (fun x => List.map C.t x) ∘ intt) l)]]) = List.map Obj.cc m ++ [[C.t (T.int IntKind.i64 k), C.row (1 : Nat) ([T.int IntKind.i64 y] :: List.map ((fun x => List.map C.fz x) ∘ (fun x => List.map C.t x) ∘ intt) l)]] by simp)
      let t15 : Tp pr := .i (wrap_i64 (a := (↑m.length : Int) + (1 : Int)) (by omega) (by omega))
      exact .tp [t0, t1, t2, .b (rfl : false = false), t4, t5, t6, .m (rfl : true = true), t8, t9, t10, .m (rfl : true = true), t12, .c (rfl : (m.length + (1 : Nat)) = _), t14, t15, .a (ih)] (by kernel_rfl))
theorem l15Own_ev (h : Hp) (h1 : h.objects.length ≤ 1048576) (h2 : ∀ x ∈ h.objects, x.links.length ≤ 1048576) (h3 : h.roots.length ≤ 1048576) :
    Ev pr (.call 46 [vs h.ce] []) (.val (.agg [.vec 0 h.objects.length 2 0 h.objects.length, .vec 1 h.roots.length 1 0 h.roots.length]) [.vec h.objects.isEmpty 2 (h.objects.map Obj.cc), .vec true 1 (ints h.roots)]) := by
  have l := ownL_ev h h1 h2 h.objects [] rfl
  obtain ⟨os, rs⟩ := h
  cases rs with
  | nil => (
    let t4 : Tp pr := .i (show ((↑(List.map Obj.ce (Hp.mk os []).objects).length : Int) : Int) = (↑os.length : Int) by simp)
    exact .tp [.m (rfl : true = true), .b (rfl : true = true), .c (rfl : ((0 : Nat)) = _), .n .crows (rfl : ([]) = _), t4, .a (l)] (by kernel_rfl))
  | cons y rs => (
    let t0 : Tp pr := .m (show (decide ((0 : Nat) = (0 : Nat) ∧ (0 : Nat) ≤ (0 : Nat) ∧ (0 : Nat) + (List.map (fun x => List.map C.t x) (List.map intt (Hp.mk os (y :: rs)).roots)).length ≤ (4294967296 : Nat))) = true by (simp at *; omega))
    let t2 : Tp pr := .c (show ((0 : Nat) + (List.map (fun x => List.map C.t x) (List.map intt (Hp.mk os (y :: rs)).roots)).length : Nat) = rs.length + (1 : Nat) by simp)
    let t3 : Tp pr := .n .crows (show ([].append (List.map (fun x => List.map C.t x) (List.map intt (Hp.mk os (y :: rs)).roots))) = List.map C.t (intt y) :: List.map ((fun x => List.map C.t x) ∘ intt) rs by simp)
    let t4 : Tp pr := .i (show ((↑(List.map Obj.ce (Hp.mk os (y :: rs)).objects).length : Int) : Int) = (↑os.length : Int) by simp)
    exact .tp [t0, .b (rfl : false = false), t2, t3, t4, .a (l)] (by kernel_rfl))
end Go.Ev

/- Heaps: which are good. -/
namespace Go.Ev
set_option linter.unusedVariables false
set_option linter.unusedSimpArgs false
open Go.Proofs
set_option maxRecDepth 100000
set_option linter.unusedVariables false
set_option maxHeartbeats 2000000
theorem within_ev (x lo hi : Int) : Ev pr (.call 49 [i64 x, i64 lo, i64 hi] []) (.val (bl (decide (x ≥ lo) && decide (x ≤ hi))) []) := by
  by_cases hc0 : lo ≤ x
  · let t0 : Tp pr := .b (show (decide (x ≥ lo)) = true by simpa using hc0)
    exact .tpe [t0] (Out.val (V.t (T.bool (decide (x ≤ hi)))) []) (by kernel_rfl) (congrArg (fun x => Out.val (V.t (T.bool x)) []) (show (decide (x ≤ hi)) = (decide (x ≥ lo) && decide (x ≤ hi)) by simp [*]))
  · let t0 : Tp pr := .b (show (decide (x ≥ lo)) = false by simpa using hc0)
    exact .tpe [t0] (Out.val (V.t (T.bool false)) []) (by kernel_rfl) (congrArg (fun x => Out.val (V.t (T.bool x)) []) (show (false) = (decide (x ≥ lo) && decide (x ≤ hi)) by simp [*]))
theorem l1In_ev (x lo hi : Int) : Ev pr (.call 65 [i64 x, i64 lo, i64 hi] []) (.val (bl (decide (x ≥ lo) && decide (x ≤ hi))) []) := by
  by_cases hc0 : lo ≤ x
  · let t0 : Tp pr := .b (show (decide (x ≥ lo)) = true by simpa using hc0)
    exact .tpe [t0] (Out.val (V.t (T.bool (decide (x ≤ hi)))) []) (by kernel_rfl) (congrArg (fun x => Out.val (V.t (T.bool x)) []) (show (decide (x ≤ hi)) = (decide (x ≥ lo) && decide (x ≤ hi)) by simp [*]))
  · let t0 : Tp pr := .b (show (decide (x ≥ lo)) = false by simpa using hc0)
    exact .tpe [t0] (Out.val (V.t (T.bool false)) []) (by kernel_rfl) (congrArg (fun x => Out.val (V.t (T.bool x)) []) (show (false) = (decide (x ≥ lo) && decide (x ≤ hi)) by simp [*]))
abbrev mnT (many : Nat) : T := .ptr [.int .i64 many] 0
theorem linkF_ev (k : Int) (many : Nat) (h : many ≤ 1048576) : Ev pr (.call 85 [i64 k, .t (mnT many)] []) (.val (bl (!linkOk many k)) []) := by
  let t0 : Tp pr := .i (wrap_i64 (a := (↑many : Int) - (1 : Int)) (by omega) (by omega))
  let t1 : Tp pr := .a (within_ev (k) ((-1 : Int)) ((↑many : Int) - (1 : Int)))
  exact .tp [t0, t1] (by kernel_rfl)
theorem idxLk_ev (l : List Int) (many : Nat) (hm : many ≤ 1048576) (hl : l.length ≤ 1048576) : ∀ (rest done : List Int) (i : Int), l = done ++ rest → i = done.length →
    Ev pr (.loop (lq pr 91 0) (at_ [(0, isq l), (1, .t (.clo 85 [mnT many])), (7, i64 l.length), (8, i64 i)] [] 0))
      (if 0 ≤ idxFrom (fun x => !linkOk many x) i rest then .ret (at_ [(4, i64 (idxFrom (fun x => !linkOk many x) i rest))] [] 0) else .exit 0 (at_ [] [] 0))
  | [], done, i, h, hi => by
    have hll : (l.length : Int) = done.length := by simp [h]
    let t0 : Tp pr := .b (show (decide (i < (↑l.length : Int))) = false by (simp; omega))
    exact .tp [t0] (by kernel_rfl)
  | x :: rest, done, i, h, hi => by
    have hll : (l.length : Int) = done.length + 1 + rest.length := by simp [h]; omega
    have hg : lkp (l.map intt) i = some [T.int .i64 x] := by subst hi; subst h; simp [intt]
    have ih := idxLk_ev l many hm hl rest (done ++ [x]) (i + 1) (by simp [h]) (by simp [hi])
    have hi0 : 0 ≤ i := by omega
    have hx := linkF_ev x many hm
    cases hb : linkOk many x with
    | false => rw [hb] at hx; (
      let t0 : Tp pr := .b (show (decide (i < (↑l.length : Int))) = true by (simp; omega))
      let t1 : Tp pr := .g .row (show (lkp (List.map intt l) i) = some ([T.int IntKind.i64 x]) from hg)
      exact .tpe [t0, t1, .a (hx), .b (rfl : true = true)] (Out.ret (at_ [((4 : Nat), V.t (T.int IntKind.i64 i))] [] (0 : Nat))) (by kernel_rfl) ((rfl).trans (show (Out.ret (at_ [((4 : Nat), V.t (T.int IntKind.i64 i))] [] (0 : Nat))) = if (0 : Int) ≤ idxFrom (fun x => !linkOk many x) i (x :: rest) then Out.ret (at_ [((4 : Nat), i64 (idxFrom (fun x => !linkOk many x) i (x :: rest)))] [] (0 : Nat)) else Out.exit (0 : Nat) (at_ [] [] (0 : Nat)) by simp [idxFrom, hb, hi0])))
    | true =>
      rw [hb] at hx
      have hI : idxFrom (fun x => !linkOk many x) i (x :: rest) = idxFrom (fun x => !linkOk many x) (i + 1) rest := by simp [idxFrom, hb]
      rw [hI]
      by_cases h0 : 0 ≤ idxFrom (fun x => !linkOk many x) (i + 1) rest
      · rw [if_pos h0] at ih ⊢; (
        let t0 : Tp pr := .b (show (decide (i < (↑l.length : Int))) = true by (simp; omega))
        let t1 : Tp pr := .g .row (show (lkp (List.map intt l) i) = some ([T.int IntKind.i64 x]) from hg)
        let t4 : Tp pr := .i (wrap_i64 (a := i + (1 : Int)) (by omega) (by omega))
        exact .tp [t0, t1, .a (hx), .b (rfl : false = false), t4, .a (ih)] (by kernel_rfl))
      · rw [if_neg h0] at ih ⊢; (
        let t0 : Tp pr := .b (show (decide (i < (↑l.length : Int))) = true by (simp; omega))
        let t1 : Tp pr := .g .row (show (lkp (List.map intt l) i) = some ([T.int IntKind.i64 x]) from hg)
        let t4 : Tp pr := .i (wrap_i64 (a := i + (1 : Int)) (by omega) (by omega))
        exact .tp [t0, t1, .a (hx), .b (rfl : false = false), t4, .a (ih)] (by kernel_rfl))
theorem idxLks_ev (l : List Int) (many : Nat) (hm : many ≤ 1048576) (hl : l.length ≤ 1048576) : Ev pr (.call 91 [isq l, .t (.clo 85 [mnT many])] []) (.val (i64 (idxFrom (fun x => !linkOk many x) 0 l)) []) := by
  have h := idxLk_ev l many hm hl l [] 0 rfl rfl
  have h2 := idxFrom_neg (fun x => !linkOk many x) l 0 (Int.le_refl _)
  by_cases h0 : 0 ≤ idxFrom (fun x => !linkOk many x) 0 l
  · rw [if_pos h0] at h; (
    let t0 : Tp pr := .i (show ((↑(List.map intt l).length : Int) : Int) = (↑l.length : Int) by simp)
    exact .tp [t0, .a (h)] (by kernel_rfl))
  · rw [if_neg h0] at h; rw [h2 h0]; (
    let t0 : Tp pr := .i (show ((↑(List.map intt l).length : Int) : Int) = (↑l.length : Int) by simp)
    exact .tp [t0, .a (h)] (by kernel_rfl))
theorem anyLk_ev (l : List Int) (many : Nat) (hm : many ≤ 1048576) (hl : l.length ≤ 1048576) : Ev pr (.call 84 [isq l, .t (.clo 85 [mnT many])] []) (.val (bl (!l.all (linkOk many))) []) := by
  have e : (l.any fun x => !linkOk many x) = !l.all (linkOk many) := by simp [List.any_eq_not_all_not]
  rw [← e, ← idxFrom_any (fun x => !linkOk many x) l 0 (by omega)]
  let t0 : Tp pr := .a (idxLks_ev (l) (many) (by assumption) (by assumption))
  exact .tp [t0] (by kernel_rfl)
theorem linksOk_ev (l : List Int) (many most : Nat) (hm : many ≤ 1048576) (hm2 : most ≤ 100) (hl : l.length ≤ 1048576) : Ev pr (.call 73 [isq l, i64 many, i64 most] []) (.val (bl (decide (l.length ≤ most) && l.all (linkOk many))) []) := by
  have h := anyLk_ev l many hm hl
  let t0 : Tp pr := .i (show ((↑(List.map intt l).length : Int) : Int) = (↑l.length : Int) by simp)
  by_cases hc1 : l.length ≤ most
  · let t1 : Tp pr := .b (show (decide ((↑l.length : Int) ≤ (↑most : Int))) = true by simpa using hc1)
    exact .tpe [t0, t1, .a (h), .m (rfl : true = true)] (Out.val (V.t (T.bool !!l.all (linkOk many))) []) (by kernel_rfl) (congrArg (fun x => Out.val (V.t (T.bool x)) []) (show (!!l.all (linkOk many)) = (decide (l.length ≤ most) && l.all (linkOk many)) by (simp [*] <;> omega)))
  · let t1 : Tp pr := .b (show (decide ((↑l.length : Int) ≤ (↑most : Int))) = false by simpa using hc1)
    exact .tpe [t0, t1] (Out.val (V.t (T.bool false)) []) (by kernel_rfl) (congrArg (fun x => Out.val (V.t (T.bool x)) []) (show (false) = (decide (l.length ≤ most) && l.all (linkOk many)) by (simp [*] <;> omega)))
theorem goodF_ev (o : Obj) (many : Nat) (hm : many ≤ 1048576) (hl : o.links.length ≤ 1048576) : Ev pr (.call 75 [vs o.ce, .t (mnT many)] []) (.val (bl (!objOk many o)) []) := by
  have h := linksOk_ev o.links many 4 hm (by omega) hl
  unfold objOk
  let t0 : Tp pr := .a (within_ev (o.mark) ((0 : Int)) ((1000 : Int)))
  by_cases hc1 : o.mark < (0 : Int) ∨ (1000 : Int) < o.mark
  · let t1 : Tp pr := .b (show (!(decide (o.mark ≥ (0 : Int)) && decide (o.mark ≤ (1000 : Int)))) = true by simpa using hc1)
    exact .tpe [t0, t1] (Out.val (V.t (T.bool true)) []) (by kernel_rfl) (congrArg (fun x => Out.val (V.t (T.bool x)) []) (show (true) = (!(decide (o.mark ≥ (0 : Int)) && decide (o.mark ≤ (1000 : Int)) && (decide (o.links.length ≤ (4 : Nat)) && o.links.all (linkOk many)))) by simp [*]))
  · let t1 : Tp pr := .b (show (!(decide (o.mark ≥ (0 : Int)) && decide (o.mark ≤ (1000 : Int)))) = false by simpa using hc1)
    exact .tpe [t0, t1, .a (h)] (Out.val (V.t (T.bool !(decide (o.links.length ≤ (4 : Nat)) && o.links.all (linkOk many)))) []) (by kernel_rfl) (congrArg (fun x => Out.val (V.t (T.bool x)) []) (show (!(decide (o.links.length ≤ (4 : Nat)) && o.links.all (linkOk many))) = (!(decide (o.mark ≥ (0 : Int)) && decide (o.mark ≤ (1000 : Int)) && (decide (o.links.length ≤ (4 : Nat)) && o.links.all (linkOk many)))) by simp [*]))
theorem idxOb_ev (l : List Obj) (many : Nat) (hm : many ≤ 1048576) (hl : l.length ≤ 1048576) (hs : ∀ x ∈ l, x.links.length ≤ 1048576) : ∀ (rest done : List Obj) (i : Int), l = done ++ rest → i = done.length →
    Ev pr (.loop (lq pr 86 0) (at_ [(0, osq l), (1, .t (.clo 75 [mnT many])), (7, i64 l.length), (8, i64 i)] [] 0))
      (if 0 ≤ idxFrom (fun x => !objOk many x) i rest then .ret (at_ [(4, i64 (idxFrom (fun x => !objOk many x) i rest))] [] 0) else .exit 0 (at_ [] [] 0))
  | [], done, i, h, hi => by
    have hll : (l.length : Int) = done.length := by simp [h]
    let t0 : Tp pr := .b (show (decide (i < (↑l.length : Int))) = false by (simp; omega))
    exact .tp [t0] (by kernel_rfl)
  | x :: rest, done, i, h, hi => by
    have hll : (l.length : Int) = done.length + 1 + rest.length := by simp [h]; omega
    have hg : lkp (l.map Obj.ce) i = some x.ce := by subst hi; subst h; simp
    have ih := idxOb_ev l many hm hl hs rest (done ++ [x]) (i + 1) (by simp [h]) (by simp [hi])
    have hi0 : 0 ≤ i := by omega
    have hx := goodF_ev x many hm (hs x (by simp [h]))
    cases hb : objOk many x with
    | false => rw [hb] at hx; (
      let t0 : Tp pr := .b (show (decide (i < (↑l.length : Int))) = true by (simp; omega))
      let t1 : Tp pr := .g .row (show (lkp (List.map Obj.ce l) i) = some (x.ce) from hg)
      exact .tpe [t0, t1, .a (hx), .b (rfl : true = true)] (Out.ret (at_ [((4 : Nat), V.t (T.int IntKind.i64 i))] [] (0 : Nat))) (by kernel_rfl) ((rfl).trans (show (Out.ret (at_ [((4 : Nat), V.t (T.int IntKind.i64 i))] [] (0 : Nat))) = if (0 : Int) ≤ idxFrom (fun x => !objOk many x) i (x :: rest) then Out.ret (at_ [((4 : Nat), i64 (idxFrom (fun x => !objOk many x) i (x :: rest)))] [] (0 : Nat)) else Out.exit (0 : Nat) (at_ [] [] (0 : Nat)) by simp [idxFrom, hb, hi0])))
    | true =>
      rw [hb] at hx
      have hI : idxFrom (fun x => !objOk many x) i (x :: rest) = idxFrom (fun x => !objOk many x) (i + 1) rest := by simp [idxFrom, hb]
      rw [hI]
      by_cases h0 : 0 ≤ idxFrom (fun x => !objOk many x) (i + 1) rest
      · rw [if_pos h0] at ih ⊢; (
        let t0 : Tp pr := .b (show (decide (i < (↑l.length : Int))) = true by (simp; omega))
        let t1 : Tp pr := .g .row (show (lkp (List.map Obj.ce l) i) = some (x.ce) from hg)
        let t4 : Tp pr := .i (wrap_i64 (a := i + (1 : Int)) (by omega) (by omega))
        exact .tp [t0, t1, .a (hx), .b (rfl : false = false), t4, .a (ih)] (by kernel_rfl))
      · rw [if_neg h0] at ih ⊢; (
        let t0 : Tp pr := .b (show (decide (i < (↑l.length : Int))) = true by (simp; omega))
        let t1 : Tp pr := .g .row (show (lkp (List.map Obj.ce l) i) = some (x.ce) from hg)
        let t4 : Tp pr := .i (wrap_i64 (a := i + (1 : Int)) (by omega) (by omega))
        exact .tp [t0, t1, .a (hx), .b (rfl : false = false), t4, .a (ih)] (by kernel_rfl))
theorem idxObs_ev (l : List Obj) (many : Nat) (hm : many ≤ 1048576) (hl : l.length ≤ 1048576) (hs : ∀ x ∈ l, x.links.length ≤ 1048576) : Ev pr (.call 86 [osq l, .t (.clo 75 [mnT many])] []) (.val (i64 (idxFrom (fun x => !objOk many x) 0 l)) []) := by
  have h := idxOb_ev l many hm hl hs l [] 0 rfl rfl
  have h2 := idxFrom_neg (fun x => !objOk many x) l 0 (Int.le_refl _)
  by_cases h0 : 0 ≤ idxFrom (fun x => !objOk many x) 0 l
  · rw [if_pos h0] at h; (
    let t0 : Tp pr := .i (show ((↑(List.map Obj.ce l).length : Int) : Int) = (↑l.length : Int) by simp)
    exact .tp [t0, .a (h)] (by kernel_rfl))
  · rw [if_neg h0] at h; rw [h2 h0]; (
    let t0 : Tp pr := .i (show ((↑(List.map Obj.ce l).length : Int) : Int) = (↑l.length : Int) by simp)
    exact .tp [t0, .a (h)] (by kernel_rfl))
theorem anyOb_ev (l : List Obj) (many : Nat) (hm : many ≤ 1048576) (hl : l.length ≤ 1048576) (hs : ∀ x ∈ l, x.links.length ≤ 1048576) : Ev pr (.call 74 [osq l, .t (.clo 75 [mnT many])] []) (.val (bl (!l.all (objOk many))) []) := by
  have e : (l.any fun x => !objOk many x) = !l.all (objOk many) := by simp [List.any_eq_not_all_not]
  rw [← e, ← idxFrom_any (fun x => !objOk many x) l 0 (by omega)]
  let t0 : Tp pr := .a (idxObs_ev (l) (many) (by assumption) (by assumption) (by assumption))
  exact .tp [t0] (by kernel_rfl)
theorem GoodHeapI_ev (h : Hp) (h1 : h.objects.length ≤ 1048576) (h2 : ∀ x ∈ h.objects, x.links.length ≤ 1048576) (h3 : h.roots.length ≤ 1048576) : Ev pr (.call 48 [vs h.ce] []) (.val (bl (goodHeap h)) []) := by
  have g1 := anyOb_ev h.objects h.objects.length h1 h1 h2
  have g2 := linksOk_ev h.roots h.objects.length 10 h1 (by omega) h3
  unfold goodHeap
  cases hr : (decide (h.roots.length ≤ 10) && h.roots.all (linkOk h.objects.length)) with
  | false => rw [hr] at g2; (
    let t0 : Tp pr := .i (show ((↑(List.map Obj.ce h.objects).length : Int) : Int) = (↑h.objects.length : Int) by simp)
    by_cases hc1 : (40 : Int) < (↑h.objects.length : Int)
    · let t1 : Tp pr := .b (show (decide ((↑h.objects.length : Int) > (40 : Int))) = true by simpa using hc1)
      exact .tpe [t0, t1, .b (rfl : true = true)] (Out.val (V.t (T.bool false)) []) (by kernel_rfl) (congrArg (fun x => Out.val (V.t (T.bool x)) []) (show (false) = (decide (h.objects.length ≤ (40 : Nat)) && false && h.objects.all (objOk h.objects.length)) by simp))
    · let t1 : Tp pr := .b (show (decide ((↑h.objects.length : Int) > (40 : Int))) = false by simpa using hc1)
      exact .tpe [t0, t1, .a (g2), .b (rfl : true = true)] (Out.val (V.t (T.bool false)) []) (by kernel_rfl) (congrArg (fun x => Out.val (V.t (T.bool x)) []) (show (false) = (decide (h.objects.length ≤ (40 : Nat)) && false && h.objects.all (objOk h.objects.length)) by simp)))
  | true => rw [hr] at g2; (
    let t0 : Tp pr := .i (show ((↑(List.map Obj.ce h.objects).length : Int) : Int) = (↑h.objects.length : Int) by simp)
    by_cases hc1 : (40 : Int) < (↑h.objects.length : Int)
    · let t1 : Tp pr := .b (show (decide ((↑h.objects.length : Int) > (40 : Int))) = true by simpa using hc1)
      exact .tpe [t0, t1, .b (rfl : true = true)] (Out.val (V.t (T.bool false)) []) (by kernel_rfl) (congrArg (fun x => Out.val (V.t (T.bool x)) []) (show (false) = (decide (h.objects.length ≤ (40 : Nat)) && true && h.objects.all (objOk h.objects.length)) by (simp <;> omega)))
    · let t1 : Tp pr := .b (show (decide ((↑h.objects.length : Int) > (40 : Int))) = false by simpa using hc1)
      exact .tpe [t0, t1, .a (g2), .b (rfl : false = false), .a (g1), .m (rfl : true = true)] (Out.val (V.t (T.bool !!h.objects.all (objOk h.objects.length))) []) (by kernel_rfl) (congrArg (fun x => Out.val (V.t (T.bool x)) []) (show (!!h.objects.all (objOk h.objects.length)) = (decide (h.objects.length ≤ (40 : Nat)) && true && h.objects.all (objOk h.objects.length)) by (simp <;> omega))))
theorem l15Object_ev (k : Int) (many : Nat) (h : many ≤ 1048576) : Ev pr (.call 71 [i64 k, i64 many] []) (.val (bl (linkOk many k)) []) := by
  by_cases hc0 : (-1 : Int) ≤ k
  · let t0 : Tp pr := .b (show (decide (k ≥ (-1 : Int))) = true by simpa using hc0)
    exact .tpe [t0] (Out.val (V.t (T.bool (decide (k < (↑many : Int))))) []) (by kernel_rfl) (congrArg (fun x => Out.val (V.t (T.bool x)) []) (show (decide (k < (↑many : Int))) = (linkOk many k) by grind [linkOk]))
  · let t0 : Tp pr := .b (show (decide (k ≥ (-1 : Int))) = false by simpa using hc0)
    exact .tpe [t0] (Out.val (V.t (T.bool false)) []) (by kernel_rfl) (congrArg (fun x => Out.val (V.t (T.bool x)) []) (show (false) = (linkOk many k) by grind [linkOk]))
def gB (h : Hp) : List Ob := [.box [osq h.objects, isq h.roots]]
theorem goodSL_ev (h : Hp) (d : Int) (l : List Int) (h1 : h.objects.length ≤ 1048576) (hl : l.length ≤ 1048576) : ∀ (rest done : List Int), l = done ++ rest →
    Ev pr (.loop (lq pr 45 1) (at_ [(1, .ptr 0 1 0 0), (10, osq h.objects), (11, i64 h.objects.length), (12, i64 d), (27, isq l), (28, i64 l.length), (29, i64 done.length)] (gB h) 0))
      (bif rest.all (linkOk h.objects.length) then .exit 2 (at_ [(1, .ptr 0 1 0 0), (10, osq h.objects), (11, i64 h.objects.length), (12, i64 d)] (gB h) 0) else .ret (at_ [(2, bl false)] [] 0))
  | [], done, he => by
    have hll : (l.length : Int) = done.length := by simp [he]
    let t0 : Tp pr := .b (show (decide ((↑done.length : Int) < (↑l.length : Int))) = false by (simp; omega))
    exact .tp [t0] (by kernel_rfl)
  | x :: rest, done, he => by
    have hll : (l.length : Int) = done.length + 1 + rest.length := by simp [he]; omega
    have hg : lkp (l.map intt) (done.length : Int) = some [T.int .i64 x] := by subst he; simp [intt]
    have ih := goodSL_ev h d l h1 hl rest (done ++ [x]) (by simp [he])
    have hx := l15Object_ev x h.objects.length h1
    cases hb : linkOk h.objects.length x with
    | false =>
      rw [hb] at hx
      simp only [List.all_cons, hb, Bool.false_and]
      let t0 : Tp pr := .b (show (decide ((↑done.length : Int) < (↑l.length : Int))) = true by (simp; omega))
      let t1 : Tp pr := .g .row (show (lkp (List.map intt l) (↑done.length : Int)) = some ([T.int IntKind.i64 x]) from hg)
      let t2 : Tp pr := .i (show ((↑(List.map Obj.ce h.objects).length : Int) : Int) = (↑h.objects.length : Int) by simp)
      exact .tp [t0, t1, t2, .a (hx), .b (rfl : true = true)] (by kernel_rfl)
    | true =>
      rw [hb] at hx
      simp only [List.all_cons, hb, Bool.true_and]
      cases hr : rest.all (linkOk h.objects.length) with
      | true => rw [hr] at ih; (
        let t0 : Tp pr := .b (show (decide ((↑done.length : Int) < (↑l.length : Int))) = true by (simp; omega))
        let t1 : Tp pr := .g .row (show (lkp (List.map intt l) (↑done.length : Int)) = some ([T.int IntKind.i64 x]) from hg)
        let t2 : Tp pr := .i (show ((↑(List.map Obj.ce h.objects).length : Int) : Int) = (↑h.objects.length : Int) by simp)
        let t5 : Tp pr := .i (wrap_i64 (a := (↑done.length : Int) + (1 : Int)) (by omega) (by omega))
        let t6 : Tp pr := .a (Ev.castq (congrArg (fun x => Q.loop (lq pr (45 : FuncId) (1 : Nat)) (at_ [((1 : Nat), V.ptr (0 : Nat) (1 : Nat) (0 : Nat) (0 : Nat)), ((10 : Nat), osq h.objects), ((11 : Nat), i64 (↑h.objects.length : Int)), ((12 : Nat), i64 d), ((27 : Nat), isq l), ((28 : Nat), i64 (↑l.length : Int)), ((29 : Nat), i64 x)] (gB h) (0 : Nat))) (show ((↑(done ++ [x]).length : Int)) = ((↑done.length : Int) + (1 : Int)) by simp)) (ih))
        exact .tp [t0, t1, t2, .a (hx), .b (rfl : false = false), t5, t6] (by kernel_rfl))
      | false => rw [hr] at ih; (
        let t0 : Tp pr := .b (show (decide ((↑done.length : Int) < (↑l.length : Int))) = true by (simp; omega))
        let t1 : Tp pr := .g .row (show (lkp (List.map intt l) (↑done.length : Int)) = some ([T.int IntKind.i64 x]) from hg)
        let t2 : Tp pr := .i (show ((↑(List.map Obj.ce h.objects).length : Int) : Int) = (↑h.objects.length : Int) by simp)
        let t5 : Tp pr := .i (wrap_i64 (a := (↑done.length : Int) + (1 : Int)) (by omega) (by omega))
        let t6 : Tp pr := .a (Ev.castq (congrArg (fun x => Q.loop (lq pr (45 : FuncId) (1 : Nat)) (at_ [((1 : Nat), V.ptr (0 : Nat) (1 : Nat) (0 : Nat) (0 : Nat)), ((10 : Nat), osq h.objects), ((11 : Nat), i64 (↑h.objects.length : Int)), ((12 : Nat), i64 d), ((27 : Nat), isq l), ((28 : Nat), i64 (↑l.length : Int)), ((29 : Nat), i64 x)] (gB h) (0 : Nat))) (show ((↑(done ++ [x]).length : Int)) = ((↑done.length : Int) + (1 : Int)) by simp)) (ih))
        exact .tp [t0, t1, t2, .a (hx), .b (rfl : false = false), t5, t6] (by kernel_rfl))
theorem goodSO_ev (h : Hp) (h1 : h.objects.length ≤ 1048576) (h2 : ∀ x ∈ h.objects, x.links.length ≤ 1048576) : ∀ (rest done : List Obj), h.objects = done ++ rest →
    Ev pr (.loop (lq pr 45 0) (at_ [(1, .ptr 0 1 0 0), (10, osq h.objects), (11, i64 h.objects.length), (12, i64 done.length)] (gB h) 0))
      (bif rest.all (objOk h.objects.length) then .exit 0 (at_ [(1, .ptr 0 1 0 0)] (gB h) 0) else .ret (at_ [(2, bl false)] [] 0))
  | [], done, he => by
    have hll : (h.objects.length : Int) = done.length := by simp [he]
    let t0 : Tp pr := .b (show (decide ((↑done.length : Int) < (↑h.objects.length : Int))) = false by (simp; omega))
    exact .tp [t0] (by kernel_rfl)
  | x :: rest, done, he => by
    have hll : (h.objects.length : Int) = done.length + 1 + rest.length := by simp [he]; omega
    have hg : lkp (h.objects.map Obj.ce) (done.length : Int) = some x.ce := by rw [he]; simp
    have ih := goodSO_ev h h1 h2 rest (done ++ [x]) (by simp [he])
    have hxl := h2 x (by simp [he])
    have hx := goodSL_ev h done.length x.links h1 hxl x.links [] rfl
    have e : objOk h.objects.length x = ((decide (x.mark ≥ 0) && decide (x.mark ≤ 1000)) && (decide (x.links.length ≤ 4) && x.links.all (linkOk h.objects.length))) := rfl
    simp only [List.all_cons]
    by_cases hm : (decide (x.mark ≥ 0) && decide (x.mark ≤ 1000)) = true
    · by_cases hn : x.links.length ≤ 4
      · cases hk : x.links.all (linkOk h.objects.length) with
        | false =>
          rw [hk] at hx
          rw [show objOk h.objects.length x = false by rw [e, hk]; simp, Bool.false_and]
          let t0 : Tp pr := .b (show (decide ((↑done.length : Int) < (↑h.objects.length : Int))) = true by (simp; omega))
          let t1 : Tp pr := .g .row (show (lkp (List.map Obj.ce h.objects) (↑done.length : Int)) = some (x.ce) from hg)
          let t2 : Tp pr := .a (l1In_ev (x.mark) ((0 : Int)) ((1000 : Int)))
          let t3 : Tp pr := .b (show (!(decide (x.mark ≥ (0 : Int)) && decide (x.mark ≤ (1000 : Int)))) = false by simp [*])
          let t4 : Tp pr := .i (show ((↑(List.map intt x.links).length : Int) : Int) = (↑x.links.length : Int) by simp)
          let t5 : Tp pr := .b (show (decide ((↑x.links.length : Int) > (4 : Int))) = false by (simp; omega))
          let t6 : Tp pr := .i (show ((↑(List.map intt x.links).length : Int) : Int) = (↑x.links.length : Int) by simp)
          exact .tp [t0, t1, t2, t3, t4, t5, t6, .a (hx)] (by kernel_rfl)
        | true =>
          rw [hk] at hx
          rw [show objOk h.objects.length x = true by rw [e, hk, hm]; simp [hn], Bool.true_and]
          cases hr : rest.all (objOk h.objects.length) with
          | true => rw [hr] at ih; (
            let t0 : Tp pr := .b (show (decide ((↑done.length : Int) < (↑h.objects.length : Int))) = true by (simp; omega))
            let t1 : Tp pr := .g .row (show (lkp (List.map Obj.ce h.objects) (↑done.length : Int)) = some (x.ce) from hg)
            let t2 : Tp pr := .a (l1In_ev (x.mark) ((0 : Int)) ((1000 : Int)))
            let t3 : Tp pr := .b (show (!(decide (x.mark ≥ (0 : Int)) && decide (x.mark ≤ (1000 : Int)))) = false by simp [*])
            let t4 : Tp pr := .i (show ((↑(List.map intt x.links).length : Int) : Int) = (↑x.links.length : Int) by simp)
            let t5 : Tp pr := .b (show (decide ((↑x.links.length : Int) > (4 : Int))) = false by (simp; omega))
            let t6 : Tp pr := .i (show ((↑(List.map intt x.links).length : Int) : Int) = (↑x.links.length : Int) by simp)
            let t8 : Tp pr := .i (wrap_i64 (a := (↑done.length : Int) + (1 : Int)) (by omega) (by omega))
            let t9 : Tp pr := .a (Ev.castq (congrArg (fun x => Q.loop (lq pr (45 : FuncId) (0 : Nat)) (at_ [((1 : Nat), V.ptr (0 : Nat) (1 : Nat) (0 : Nat) (0 : Nat)), ((10 : Nat), osq h.objects), ((11 : Nat), i64 (↑h.objects.length : Int)), ((12 : Nat), i64 x)] (gB h) (0 : Nat))) (show ((↑(done ++ [x]).length : Int)) = ((↑done.length : Int) + (1 : Int)) by simp)) (ih))
            exact .tp [t0, t1, t2, t3, t4, t5, t6, .a (hx), t8, t9] (by kernel_rfl))
          | false => rw [hr] at ih; (
            let t0 : Tp pr := .b (show (decide ((↑done.length : Int) < (↑h.objects.length : Int))) = true by (simp; omega))
            let t1 : Tp pr := .g .row (show (lkp (List.map Obj.ce h.objects) (↑done.length : Int)) = some (x.ce) from hg)
            let t2 : Tp pr := .a (l1In_ev (x.mark) ((0 : Int)) ((1000 : Int)))
            let t3 : Tp pr := .b (show (!(decide (x.mark ≥ (0 : Int)) && decide (x.mark ≤ (1000 : Int)))) = false by simp [*])
            let t4 : Tp pr := .i (show ((↑(List.map intt x.links).length : Int) : Int) = (↑x.links.length : Int) by simp)
            let t5 : Tp pr := .b (show (decide ((↑x.links.length : Int) > (4 : Int))) = false by (simp; omega))
            let t6 : Tp pr := .i (show ((↑(List.map intt x.links).length : Int) : Int) = (↑x.links.length : Int) by simp)
            let t8 : Tp pr := .i (wrap_i64 (a := (↑done.length : Int) + (1 : Int)) (by omega) (by omega))
            let t9 : Tp pr := .a (Ev.castq (congrArg (fun x => Q.loop (lq pr (45 : FuncId) (0 : Nat)) (at_ [((1 : Nat), V.ptr (0 : Nat) (1 : Nat) (0 : Nat) (0 : Nat)), ((10 : Nat), osq h.objects), ((11 : Nat), i64 (↑h.objects.length : Int)), ((12 : Nat), i64 x)] (gB h) (0 : Nat))) (show ((↑(done ++ [x]).length : Int)) = ((↑done.length : Int) + (1 : Int)) by simp)) (ih))
            exact .tp [t0, t1, t2, t3, t4, t5, t6, .a (hx), t8, t9] (by kernel_rfl))
      · rw [show objOk h.objects.length x = false by rw [e]; simp [hn], Bool.false_and]
        let t0 : Tp pr := .b (show (decide ((↑done.length : Int) < (↑h.objects.length : Int))) = true by (simp; omega))
        let t1 : Tp pr := .g .row (show (lkp (List.map Obj.ce h.objects) (↑done.length : Int)) = some (x.ce) from hg)
        let t2 : Tp pr := .a (l1In_ev (x.mark) ((0 : Int)) ((1000 : Int)))
        let t3 : Tp pr := .b (show (!(decide (x.mark ≥ (0 : Int)) && decide (x.mark ≤ (1000 : Int)))) = false by simp [*])
        let t4 : Tp pr := .i (show ((↑(List.map intt x.links).length : Int) : Int) = (↑x.links.length : Int) by simp)
        let t5 : Tp pr := .b (show (decide ((↑x.links.length : Int) > (4 : Int))) = true by (simp; omega))
        exact .tp [t0, t1, t2, t3, t4, t5] (by kernel_rfl)
    · have hm2 : (decide (x.mark ≥ 0) && decide (x.mark ≤ 1000)) = false := by simpa using hm
      rw [show objOk h.objects.length x = false by rw [e, hm2]; simp, Bool.false_and]
      let t0 : Tp pr := .b (show (decide ((↑done.length : Int) < (↑h.objects.length : Int))) = true by (simp; omega))
      let t1 : Tp pr := .g .row (show (lkp (List.map Obj.ce h.objects) (↑done.length : Int)) = some (x.ce) from hg)
      let t2 : Tp pr := .a (l1In_ev (x.mark) ((0 : Int)) ((1000 : Int)))
      let t3 : Tp pr := .b (show (!(decide (x.mark ≥ (0 : Int)) && decide (x.mark ≤ (1000 : Int)))) = true by simp [*])
      exact .tp [t0, t1, t2, t3, .b (rfl : true = true)] (by kernel_rfl)
end Go.Ev

/- Heaps: which are good, what is reached, by the reference. -/
namespace Go.Ev
set_option linter.unusedVariables false
set_option linter.unusedSimpArgs false
open Go.Proofs
set_option maxRecDepth 100000
set_option linter.unusedVariables false
set_option maxHeartbeats 2000000
@[local simp] theorem ints_takeL (l : List Int) : List.take l.length (ints l) = ints l := List.take_of_length_le (by simp)
theorem goodSR_ev (h : Hp) (h1 : h.objects.length ≤ 1048576) (h3 : h.roots.length ≤ 1048576) : ∀ (rest done : List Int), h.roots = done ++ rest →
    Ev pr (.loop (lq pr 45 2) (at_ [(1, .ptr 0 1 0 0), (42, isq h.roots), (43, i64 h.roots.length), (44, i64 done.length)] (gB h) 0))
      (bif rest.all (linkOk h.objects.length) then .exit 4 (at_ [(1, .ptr 0 1 0 0)] (gB h) 0) else .ret (at_ [(2, bl false)] [] 0))
  | [], done, he => by
    have hll : (h.roots.length : Int) = done.length := by simp [he]
    let t0 : Tp pr := .b (show (decide ((↑done.length : Int) < (↑h.roots.length : Int))) = false by (simp; omega))
    exact .tp [t0] (by kernel_rfl)
  | x :: rest, done, he => by
    have hll : (h.roots.length : Int) = done.length + 1 + rest.length := by simp [he]; omega
    have hg : lkp (h.roots.map intt) (done.length : Int) = some [T.int .i64 x] := by rw [he]; simp [intt]
    have ih := goodSR_ev h h1 h3 rest (done ++ [x]) (by simp [he])
    have hx := l15Object_ev x h.objects.length h1
    cases hb : linkOk h.objects.length x with
    | false =>
      rw [hb] at hx
      simp only [List.all_cons, hb, Bool.false_and]
      let t0 : Tp pr := .b (show (decide ((↑done.length : Int) < (↑h.roots.length : Int))) = true by (simp; omega))
      let t1 : Tp pr := .g .row (show (lkp (List.map intt h.roots) (↑done.length : Int)) = some ([T.int IntKind.i64 x]) from hg)
      let t2 : Tp pr := .i (show ((↑(List.map Obj.ce h.objects).length : Int) : Int) = (↑h.objects.length : Int) by simp)
      exact .tp [t0, t1, t2, .a (hx), .b (rfl : true = true)] (by kernel_rfl)
    | true =>
      rw [hb] at hx
      simp only [List.all_cons, hb, Bool.true_and]
      cases hr : rest.all (linkOk h.objects.length) with
      | true => rw [hr] at ih; (
        let t0 : Tp pr := .b (show (decide ((↑done.length : Int) < (↑h.roots.length : Int))) = true by (simp; omega))
        let t1 : Tp pr := .g .row (show (lkp (List.map intt h.roots) (↑done.length : Int)) = some ([T.int IntKind.i64 x]) from hg)
        let t2 : Tp pr := .i (show ((↑(List.map Obj.ce h.objects).length : Int) : Int) = (↑h.objects.length : Int) by simp)
        let t5 : Tp pr := .i (wrap_i64 (a := (↑done.length : Int) + (1 : Int)) (by omega) (by omega))
        let t6 : Tp pr := .a (Ev.castq (congrArg (fun x => Q.loop (lq pr (45 : FuncId) (2 : Nat)) (at_ [((1 : Nat), V.ptr (0 : Nat) (1 : Nat) (0 : Nat) (0 : Nat)), ((42 : Nat), isq h.roots), ((43 : Nat), i64 (↑h.roots.length : Int)), ((44 : Nat), i64 x)] (gB h) (0 : Nat))) (show ((↑(done ++ [x]).length : Int)) = ((↑done.length : Int) + (1 : Int)) by simp)) (ih))
        exact .tp [t0, t1, t2, .a (hx), .b (rfl : false = false), t5, t6] (by kernel_rfl))
      | false => rw [hr] at ih; (
        let t0 : Tp pr := .b (show (decide ((↑done.length : Int) < (↑h.roots.length : Int))) = true by (simp; omega))
        let t1 : Tp pr := .g .row (show (lkp (List.map intt h.roots) (↑done.length : Int)) = some ([T.int IntKind.i64 x]) from hg)
        let t2 : Tp pr := .i (show ((↑(List.map Obj.ce h.objects).length : Int) : Int) = (↑h.objects.length : Int) by simp)
        let t5 : Tp pr := .i (wrap_i64 (a := (↑done.length : Int) + (1 : Int)) (by omega) (by omega))
        let t6 : Tp pr := .a (Ev.castq (congrArg (fun x => Q.loop (lq pr (45 : FuncId) (2 : Nat)) (at_ [((1 : Nat), V.ptr (0 : Nat) (1 : Nat) (0 : Nat) (0 : Nat)), ((42 : Nat), isq h.roots), ((43 : Nat), i64 (↑h.roots.length : Int)), ((44 : Nat), i64 x)] (gB h) (0 : Nat))) (show ((↑(done ++ [x]).length : Int)) = ((↑done.length : Int) + (1 : Int)) by simp)) (ih))
        exact .tp [t0, t1, t2, .a (hx), .b (rfl : false = false), t5, t6] (by kernel_rfl))
theorem GoodHeapS_ev (h : Hp) (h1 : h.objects.length ≤ 1048576) (h2 : ∀ x ∈ h.objects, x.links.length ≤ 1048576) (h3 : h.roots.length ≤ 1048576) : Ev pr (.call 45 [vs h.ce] []) (.val (bl (goodHeap h)) []) := by
  have g1 := goodSO_ev h h1 h2 h.objects [] rfl
  have g2 := goodSR_ev h h1 h3 h.roots [] rfl
  unfold goodHeap
  cases ho : h.objects.all (objOk h.objects.length) with
  | false => rw [ho] at g1; (
    let t0 : Tp pr := .i (show ((↑(List.map Obj.ce h.objects).length : Int) : Int) = (↑h.objects.length : Int) by simp)
    exact .tpe [t0, .a (g1)] (Out.val (V.t (T.bool false)) []) (by kernel_rfl) (congrArg (fun x => Out.val (V.t (T.bool x)) []) (show (false) = (decide (h.objects.length ≤ (40 : Nat)) && (decide (h.roots.length ≤ (10 : Nat)) && h.roots.all (linkOk h.objects.length)) && false) by simp)))
  | true =>
    rw [ho] at g1
    cases hr : h.roots.all (linkOk h.objects.length) with
    | false => rw [hr] at g2; (
      let t0 : Tp pr := .i (show ((↑(List.map Obj.ce h.objects).length : Int) : Int) = (↑h.objects.length : Int) by simp)
      let t2 : Tp pr := .i (show ((↑(List.map intt h.roots).length : Int) : Int) = (↑h.roots.length : Int) by simp)
      exact .tpe [t0, .a (g1), t2, .a (g2)] (Out.val (V.t (T.bool false)) []) (by kernel_rfl) (congrArg (fun x => Out.val (V.t (T.bool x)) []) (show (false) = (decide (h.objects.length ≤ (40 : Nat)) && (decide (h.roots.length ≤ (10 : Nat)) && false) && true) by simp)))
    | true =>
      rw [hr] at g2
      by_cases h40 : h.objects.length ≤ 40
      · have h40' : (h.objects.length : Int) ≤ 40 := by omega
        by_cases h10 : h.roots.length ≤ 10
        · have h10' : (h.roots.length : Int) ≤ 10 := by omega
          let t0 : Tp pr := .i (show ((↑(List.map Obj.ce h.objects).length : Int) : Int) = (↑h.objects.length : Int) by simp)
          let t2 : Tp pr := .i (show ((↑(List.map intt h.roots).length : Int) : Int) = (↑h.roots.length : Int) by simp)
          let t4 : Tp pr := .i (show ((↑(List.map Obj.ce h.objects).length : Int) : Int) = (↑h.objects.length : Int) by simp)
          let t5 : Tp pr := .b (show (decide ((↑h.objects.length : Int) ≤ (40 : Int))) = true by (simp; omega))
          let t6 : Tp pr := .i (show ((↑(List.map intt h.roots).length : Int) : Int) = (↑h.roots.length : Int) by simp)
          exact .tpe [t0, .a (g1), t2, .a (g2), t4, t5, t6] (Out.val (V.t (T.bool (decide ((↑h.roots.length : Int) ≤ (10 : Int))))) []) (by kernel_rfl) (congrArg (fun x => Out.val (V.t (T.bool x)) []) (show (decide ((↑h.roots.length : Int) ≤ (10 : Int))) = (decide (h.objects.length ≤ (40 : Nat)) && (decide (h.roots.length ≤ (10 : Nat)) && true) && true) by simp [*]))
        · have h10' : ¬ (h.roots.length : Int) ≤ 10 := by omega
          let t0 : Tp pr := .i (show ((↑(List.map Obj.ce h.objects).length : Int) : Int) = (↑h.objects.length : Int) by simp)
          let t2 : Tp pr := .i (show ((↑(List.map intt h.roots).length : Int) : Int) = (↑h.roots.length : Int) by simp)
          let t4 : Tp pr := .i (show ((↑(List.map Obj.ce h.objects).length : Int) : Int) = (↑h.objects.length : Int) by simp)
          let t5 : Tp pr := .b (show (decide ((↑h.objects.length : Int) ≤ (40 : Int))) = true by (simp; omega))
          let t6 : Tp pr := .i (show ((↑(List.map intt h.roots).length : Int) : Int) = (↑h.roots.length : Int) by simp)
          exact .tpe [t0, .a (g1), t2, .a (g2), t4, t5, t6] (Out.val (V.t (T.bool (decide ((↑h.roots.length : Int) ≤ (10 : Int))))) []) (by kernel_rfl) (congrArg (fun x => Out.val (V.t (T.bool x)) []) (show (decide ((↑h.roots.length : Int) ≤ (10 : Int))) = (decide (h.objects.length ≤ (40 : Nat)) && (decide (h.roots.length ≤ (10 : Nat)) && true) && true) by simp [*]))
      · have h40' : ¬ (h.objects.length : Int) ≤ 40 := by omega
        let t0 : Tp pr := .i (show ((↑(List.map Obj.ce h.objects).length : Int) : Int) = (↑h.objects.length : Int) by simp)
        let t2 : Tp pr := .i (show ((↑(List.map intt h.roots).length : Int) : Int) = (↑h.roots.length : Int) by simp)
        let t4 : Tp pr := .i (show ((↑(List.map Obj.ce h.objects).length : Int) : Int) = (↑h.objects.length : Int) by simp)
        let t5 : Tp pr := .b (show (decide ((↑h.objects.length : Int) ≤ (40 : Int))) = false by (simp; omega))
        exact .tpe [t0, .a (g1), t2, .a (g2), t4, t5] (Out.val (V.t (T.bool false)) []) (by kernel_rfl) (congrArg (fun x => Out.val (V.t (T.bool x)) []) (show (false) = (decide (h.objects.length ≤ (40 : Nat)) && (decide (h.roots.length ≤ (10 : Nat)) && true) && true) by simp [*]))
theorem l1HasL_ev (l : List Int) (n : Int) (hl : l.length ≤ 1048576) : ∀ (rest done : List Int), l = done ++ rest →
    Ev pr (.loop (lq pr 77 0) (at_ [(1, i64 n), (7, isq l), (8, i64 l.length), (9, i64 done.length)] [] 0))
      (bif rest.contains n then .ret (at_ [(4, bl true)] [] 0) else .exit 0 (at_ [] [] 0))
  | [], done, he => by
    have hll : (l.length : Int) = done.length := by simp [he]
    let t0 : Tp pr := .b (show (decide ((↑done.length : Int) < (↑l.length : Int))) = false by (simp; omega))
    exact .tp [t0] (by kernel_rfl)
  | x :: rest, done, he => by
    have hll : (l.length : Int) = done.length + 1 + rest.length := by simp [he]; omega
    have hg : lkp (l.map intt) (done.length : Int) = some [T.int .i64 x] := by subst he; simp [intt]
    have ih := l1HasL_ev l n hl rest (done ++ [x]) (by simp [he])
    by_cases hx : x = n
    · subst hx
      rw [show (x :: rest).contains x = true by simp]
      let t0 : Tp pr := .b (show (decide ((↑done.length : Int) < (↑l.length : Int))) = true by (simp; omega))
      let t1 : Tp pr := .g .row (show (lkp (List.map intt l) (↑done.length : Int)) = some ([T.int IntKind.i64 x]) from hg)
      let t2 : Tp pr := .b (show (decide (x = x)) = true by simp)
      exact .tp [t0, t1, t2] (by kernel_rfl)
    · have hx2 : ¬ n = x := fun e => hx e.symm
      rw [show (x :: rest).contains n = rest.contains n by simp [hx2]]
      cases hr : rest.contains n with
      | true => rw [hr] at ih; (
        let t0 : Tp pr := .b (show (decide ((↑done.length : Int) < (↑l.length : Int))) = true by (simp; omega))
        let t1 : Tp pr := .g .row (show (lkp (List.map intt l) (↑done.length : Int)) = some ([T.int IntKind.i64 x]) from hg)
        let t2 : Tp pr := .b (show (decide (x = n)) = false by (simp; omega))
        let t3 : Tp pr := .i (wrap_i64 (a := (↑done.length : Int) + (1 : Int)) (by omega) (by omega))
        let t4 : Tp pr := .a (Ev.castq (congrArg (fun x => Q.loop (lq pr (77 : FuncId) (0 : Nat)) (at_ [((1 : Nat), i64 n), ((7 : Nat), isq l), ((8 : Nat), i64 (↑l.length : Int)), ((9 : Nat), i64 x)] [] (0 : Nat))) (show ((↑(done ++ [x]).length : Int)) = ((↑done.length : Int) + (1 : Int)) by simp)) (ih))
        exact .tp [t0, t1, t2, t3, t4] (by kernel_rfl))
      | false => rw [hr] at ih; (
        let t0 : Tp pr := .b (show (decide ((↑done.length : Int) < (↑l.length : Int))) = true by (simp; omega))
        let t1 : Tp pr := .g .row (show (lkp (List.map intt l) (↑done.length : Int)) = some ([T.int IntKind.i64 x]) from hg)
        let t2 : Tp pr := .b (show (decide (x = n)) = false by (simp; omega))
        let t3 : Tp pr := .i (wrap_i64 (a := (↑done.length : Int) + (1 : Int)) (by omega) (by omega))
        let t4 : Tp pr := .a (Ev.castq (congrArg (fun x => Q.loop (lq pr (77 : FuncId) (0 : Nat)) (at_ [((1 : Nat), i64 n), ((7 : Nat), isq l), ((8 : Nat), i64 (↑l.length : Int)), ((9 : Nat), i64 x)] [] (0 : Nat))) (show ((↑(done ++ [x]).length : Int)) = ((↑done.length : Int) + (1 : Int)) by simp)) (ih))
        exact .tp [t0, t1, t2, t3, t4] (by kernel_rfl))
theorem l1Has_ev (l : List Int) (n : Int) (hl : l.length ≤ 1048576) : Ev pr (.call 77 [isq l, i64 n] []) (.val (bl (l.contains n)) []) := by
  have h := l1HasL_ev l n hl l [] rfl
  cases hr : l.contains n with
  | true => rw [hr] at h; (
    let t0 : Tp pr := .i (show ((↑(List.map intt l).length : Int) : Int) = (↑l.length : Int) by simp)
    exact .tp [t0, .a (h)] (by kernel_rfl))
  | false => rw [hr] at h; (
    let t0 : Tp pr := .i (show ((↑(List.map intt l).length : Int) : Int) = (↑l.length : Int) by simp)
    exact .tp [t0, .a (h)] (by kernel_rfl))
def oB (h : Hp) (out : List Int) : List Ob := [.box [osq h.objects, isq h.roots], .vec true 1 (ints out)]
theorem orderRL_ev (h : Hp) (h3 : h.roots.length ≤ 1048576) : ∀ (rest done out : List Int), h.roots = done ++ rest → out.length ≤ done.length →
    Ev pr (.loop (lq pr 61 0) (at_ [(1, .ptr 0 1 0 0), (3, .vec 1 out.length 1 0 out.length), (10, isq h.roots), (11, i64 h.roots.length), (12, i64 done.length)] (oB h out) 0))
      (.exit 0 (at_ [(1, .ptr 0 1 0 0), (3, .vec 1 (pushAll out rest).length 1 0 (pushAll out rest).length)] (oB h (pushAll out rest)) 0))
  | [], done, out, he, ho => by
    have hll : (h.roots.length : Int) = done.length := by simp [he]
    rw [show pushAll out [] = out from rfl]
    let t0 : Tp pr := .b (show (decide ((↑done.length : Int) < (↑h.roots.length : Int))) = false by (simp; omega))
    exact .tp [t0] (by kernel_rfl)
  | x :: rest, done, out, he, ho => by
    have hll : (h.roots.length : Int) = done.length + 1 + rest.length := by simp [he]; omega
    have hg : lkp (h.roots.map intt) (done.length : Int) = some [T.int .i64 x] := by rw [he]; simp [intt]
    have hh := l1Has_ev out x (by omega)
    rw [show pushAll out (x :: rest) = pushAll (push out x) rest from rfl]
    unfold push
    by_cases hx : x < 0
    · rw [if_pos hx]
      have ih := orderRL_ev h h3 rest (done ++ [x]) out (by simp [he]) (by simp; omega)
      let t0 : Tp pr := .b (show (decide ((↑done.length : Int) < (↑h.roots.length : Int))) = true by (simp; omega))
      let t1 : Tp pr := .g .row (show (lkp (List.map intt h.roots) (↑done.length : Int)) = some ([T.int IntKind.i64 x]) from hg)
      let t2 : Tp pr := .b (show (decide (x ≥ (0 : Int))) = false by (simp; omega))
      let t4 : Tp pr := .i (wrap_i64 (a := (↑done.length : Int) + (1 : Int)) (by omega) (by omega))
      let t5 : Tp pr := .a (Ev.castq (congrArg (fun x => Q.loop (lq pr (61 : FuncId) (0 : Nat)) (at_ [((1 : Nat), V.ptr (0 : Nat) (1 : Nat) (0 : Nat) (0 : Nat)), ((3 : Nat), V.vec (1 : Nat) out.length (1 : Nat) (0 : Nat) out.length), ((10 : Nat), isq h.roots), ((11 : Nat), i64 (↑h.roots.length : Int)), ((12 : Nat), i64 x)] (oB h out) (0 : Nat))) (show ((↑(done ++ [x]).length : Int)) = ((↑done.length : Int) + (1 : Int)) by simp)) (ih))
      exact .tp [t0, t1, t2, .b (rfl : false = false), t4, t5] (by kernel_rfl)
    · rw [if_neg hx]
      cases hc : out.contains x with
      | true =>
        rw [hc] at hh
        rw [if_pos rfl]
        have ih := orderRL_ev h h3 rest (done ++ [x]) out (by simp [he]) (by simp; omega)
        let t0 : Tp pr := .b (show (decide ((↑done.length : Int) < (↑h.roots.length : Int))) = true by (simp; omega))
        let t1 : Tp pr := .g .row (show (lkp (List.map intt h.roots) (↑done.length : Int)) = some ([T.int IntKind.i64 x]) from hg)
        let t2 : Tp pr := .b (show (decide (x ≥ (0 : Int))) = true by (simp; omega))
        let t3 : Tp pr := .m (show (decide ((ints out).length = out.length ∧ (0 : Nat) + out.length ≤ out.length)) = true by simp)
        let t4 : Tp pr := .n .rows (show (List.map (fun x => List.map C.fz x) (List.take out.length (List.drop (0 : Nat) (ints out)))) = List.map intt out by simp)
        let t8 : Tp pr := .i (wrap_i64 (a := (↑done.length : Int) + (1 : Int)) (by omega) (by omega))
        let t9 : Tp pr := .a (Ev.castq (congrArg (fun x => Q.loop (lq pr (61 : FuncId) (0 : Nat)) (at_ [((1 : Nat), V.ptr (0 : Nat) (1 : Nat) (0 : Nat) (0 : Nat)), ((3 : Nat), V.vec (1 : Nat) out.length (1 : Nat) (0 : Nat) out.length), ((10 : Nat), isq h.roots), ((11 : Nat), i64 (↑h.roots.length : Int)), ((12 : Nat), i64 x)] (oB h out) (0 : Nat))) (show ((↑(done ++ [x]).length : Int)) = ((↑done.length : Int) + (1 : Int)) by simp)) (ih))
        exact .tp [t0, t1, t2, t3, t4, .a (hh), .m (rfl : true = true), .b (rfl : false = false), t8, t9] (by kernel_rfl)
      | false =>
        rw [hc] at hh
        rw [if_neg (by simp)]
        have ih := orderRL_ev h h3 rest (done ++ [x]) (out ++ [x]) (by simp [he]) (by simp; omega)
        let t0 : Tp pr := .b (show (decide ((↑done.length : Int) < (↑h.roots.length : Int))) = true by (simp; omega))
        let t1 : Tp pr := .g .row (show (lkp (List.map intt h.roots) (↑done.length : Int)) = some ([T.int IntKind.i64 x]) from hg)
        let t2 : Tp pr := .b (show (decide (x ≥ (0 : Int))) = true by (simp; omega))
        let t3 : Tp pr := .m (show (decide ((ints out).length = out.length ∧ (0 : Nat) + out.length ≤ out.length)) = true by simp)
        let t4 : Tp pr := .n .rows (show (List.map (fun x => List.map C.fz x) (List.take out.length (List.drop (0 : Nat) (ints out)))) = List.map intt out by simp)
        let t9 : Tp pr := .m (show (decide ((ints out).length = out.length ∧ (0 : Nat) + out.length ≤ out.length ∧ out.length + (1 : Nat) ≤ (4294967296 : Nat))) = true by (simp; omega))
        let t10 : Tp pr := .b (show (decide (out.length + (1 : Nat) ≤ out.length)) = false by simp)
        let t12 : Tp pr := .n .crows (show ((List.take out.length (ints out)).append (List.take (1 : Nat) (List.drop (0 : Nat) [[C.t (T.int IntKind.i64 x)]]))) = ints out ++ [[C.t (T.int IntKind.i64 x)]] by simp)
        let t13 : Tp pr := .i (wrap_i64 (a := (↑done.length : Int) + (1 : Int)) (by omega) (by omega))
        let t14 : Tp pr := .a (Ev.castq (((congrArg (fun x_1 => Q.loop (lq pr (61 : FuncId) (0 : Nat)) (at_ [((1 : Nat), V.ptr (0 : Nat) (1 : Nat) (0 : Nat) (0 : Nat)), ((3 : Nat), V.vec (1 : Nat) x_1 (1 : Nat) (0 : Nat) x_1), ((10 : Nat), isq h.roots), ((11 : Nat), i64 (↑h.roots.length : Int)), ((12 : Nat), i64 (↑(done ++ [x]).length : Int))] (oB h (out ++ [x])) (0 : Nat))) (show ((out ++ [x]).length) = (out.length + (1 : Nat)) by simp [ints_app, ints_cons, intc])).trans (congrArg (fun x_1 => Q.loop (lq pr (61 : FuncId) (0 : Nat)) (at_ [((1 : Nat), V.ptr (0 : Nat) (1 : Nat) (0 : Nat) (0 : Nat)), ((3 : Nat), V.vec (1 : Nat) (out.length + (1 : Nat)) (1 : Nat) (0 : Nat) (out.length + (1 : Nat))), ((10 : Nat), isq h.roots), ((11 : Nat), i64 (↑h.roots.length : Int)), ((12 : Nat), i64 x_1)] (oB h (out ++ [x])) (0 : Nat))) (show ((↑(done ++ [x]).length : Int)) = ((↑done.length : Int) + (1 : Int)) by simp [ints_app, ints_cons, intc]))).trans (congrArg (fun x => Q.loop (lq pr (61 : FuncId) (0 : Nat)) (at_ [((1 : Nat), V.ptr (0 : Nat) (1 : Nat) (0 : Nat) (0 : Nat)), ((3 : Nat), V.vec (1 : Nat) (out.length + (1 : Nat)) (1 : Nat) (0 : Nat) (out.length + (1 : Nat))), ((10 : Nat), V.t (T.seq (1 : Nat) (List.map intt h.roots))), ((11 : Nat), V.t (T.int IntKind.i64 (↑h.roots.length : Int))), ((12 : Nat), V.t (T.int IntKind.i64 ((↑done.length : Int) + (1 : Int))))] [Ob.box [V.t (T.seq (2 : Nat) (List.map Obj.ce h.objects)), V.t (T.seq (1 : Nat) (List.map intt h.roots))], Ob.vec true (1 : Nat) x] (0 : Nat))) (show (ints (out ++ [x])) = ((ints out).append [[C.t (T.int IntKind.i64 x)]]) by simp [ints_app, ints_cons, intc]))) (ih))
        exact .tp [t0, t1, t2, t3, t4, .a (hh), .m (rfl : true = true), .b (rfl : true = true), .m (rfl : true = true), t9, t10, .c (rfl : (out.length + (1 : Nat)) = _), t12, t13, t14] (by kernel_rfl)
theorem orderKL_ev (h : Hp) (l : List Int) (i : Int) (hl : l.length ≤ 4) : ∀ (rest dn out : List Int), l = dn ++ rest → out.length ≤ 100 + dn.length →
    Ev pr (.loop (lq pr 61 2) (at_ [(1, .ptr 0 1 0 0), (3, .vec 1 out.length 1 0 out.length), (6, i64 i), (43, isq l), (44, i64 l.length), (45, i64 dn.length)] (oB h out) 0))
      (.exit 4 (at_ [(1, .ptr 0 1 0 0), (3, .vec 1 (pushAll out rest).length 1 0 (pushAll out rest).length), (6, i64 i)] (oB h (pushAll out rest)) 0))
  | [], dn, out, he, ho => by
    have hll : (l.length : Int) = dn.length := by simp [he]
    rw [show pushAll out [] = out from rfl]
    let t0 : Tp pr := .b (show (decide ((↑dn.length : Int) < (↑l.length : Int))) = false by (simp; omega))
    exact .tp [t0] (by kernel_rfl)
  | x :: rest, dn, out, he, ho => by
    have hll : (l.length : Int) = dn.length + 1 + rest.length := by simp [he]; omega
    have hg : lkp (l.map intt) (dn.length : Int) = some [T.int .i64 x] := by rw [he]; simp [intt]
    have hh := l1Has_ev out x (by omega)
    rw [show pushAll out (x :: rest) = pushAll (push out x) rest from rfl]
    unfold push
    by_cases hx : x < 0
    · rw [if_pos hx]
      have ih := orderKL_ev h l i hl rest (dn ++ [x]) out (by simp [he]) (by simp; omega)
      let t0 : Tp pr := .b (show (decide ((↑dn.length : Int) < (↑l.length : Int))) = true by (simp; omega))
      let t1 : Tp pr := .g .row (show (lkp (List.map intt l) (↑dn.length : Int)) = some ([T.int IntKind.i64 x]) from hg)
      let t2 : Tp pr := .b (show (decide (x ≥ (0 : Int))) = false by (simp; omega))
      let t4 : Tp pr := .i (wrap_i64 (a := (↑dn.length : Int) + (1 : Int)) (by omega) (by omega))
      let t5 : Tp pr := .a (Ev.castq (congrArg (fun x => Q.loop (lq pr (61 : FuncId) (2 : Nat)) (at_ [((1 : Nat), V.ptr (0 : Nat) (1 : Nat) (0 : Nat) (0 : Nat)), ((3 : Nat), V.vec (1 : Nat) out.length (1 : Nat) (0 : Nat) out.length), ((6 : Nat), i64 i), ((43 : Nat), isq l), ((44 : Nat), i64 (↑l.length : Int)), ((45 : Nat), i64 x)] (oB h out) (0 : Nat))) (show ((↑(dn ++ [x]).length : Int)) = ((↑dn.length : Int) + (1 : Int)) by simp)) (ih))
      exact .tp [t0, t1, t2, .b (rfl : false = false), t4, t5] (by kernel_rfl)
    · rw [if_neg hx]
      cases hc : out.contains x with
      | true =>
        rw [hc] at hh
        rw [if_pos rfl]
        have ih := orderKL_ev h l i hl rest (dn ++ [x]) out (by simp [he]) (by simp; omega)
        let t0 : Tp pr := .b (show (decide ((↑dn.length : Int) < (↑l.length : Int))) = true by (simp; omega))
        let t1 : Tp pr := .g .row (show (lkp (List.map intt l) (↑dn.length : Int)) = some ([T.int IntKind.i64 x]) from hg)
        let t2 : Tp pr := .b (show (decide (x ≥ (0 : Int))) = true by (simp; omega))
        let t3 : Tp pr := .m (show (decide ((ints out).length = out.length ∧ (0 : Nat) + out.length ≤ out.length)) = true by simp)
        let t4 : Tp pr := .n .rows (show (List.map (fun x => List.map C.fz x) (List.take out.length (List.drop (0 : Nat) (ints out)))) = List.map intt out by simp)
        let t8 : Tp pr := .i (wrap_i64 (a := (↑dn.length : Int) + (1 : Int)) (by omega) (by omega))
        let t9 : Tp pr := .a (Ev.castq (congrArg (fun x => Q.loop (lq pr (61 : FuncId) (2 : Nat)) (at_ [((1 : Nat), V.ptr (0 : Nat) (1 : Nat) (0 : Nat) (0 : Nat)), ((3 : Nat), V.vec (1 : Nat) out.length (1 : Nat) (0 : Nat) out.length), ((6 : Nat), i64 i), ((43 : Nat), isq l), ((44 : Nat), i64 (↑l.length : Int)), ((45 : Nat), i64 x)] (oB h out) (0 : Nat))) (show ((↑(dn ++ [x]).length : Int)) = ((↑dn.length : Int) + (1 : Int)) by simp)) (ih))
        exact .tp [t0, t1, t2, t3, t4, .a (hh), .m (rfl : true = true), .b (rfl : false = false), t8, t9] (by kernel_rfl)
      | false =>
        rw [hc] at hh
        rw [if_neg (by simp)]
        have ih := orderKL_ev h l i hl rest (dn ++ [x]) (out ++ [x]) (by simp [he]) (by simp; omega)
        let t0 : Tp pr := .b (show (decide ((↑dn.length : Int) < (↑l.length : Int))) = true by (simp; omega))
        let t1 : Tp pr := .g .row (show (lkp (List.map intt l) (↑dn.length : Int)) = some ([T.int IntKind.i64 x]) from hg)
        let t2 : Tp pr := .b (show (decide (x ≥ (0 : Int))) = true by (simp; omega))
        let t3 : Tp pr := .m (show (decide ((ints out).length = out.length ∧ (0 : Nat) + out.length ≤ out.length)) = true by simp)
        let t4 : Tp pr := .n .rows (show (List.map (fun x => List.map C.fz x) (List.take out.length (List.drop (0 : Nat) (ints out)))) = List.map intt out by simp)
        let t9 : Tp pr := .m (show (decide ((ints out).length = out.length ∧ (0 : Nat) + out.length ≤ out.length ∧ out.length + (1 : Nat) ≤ (4294967296 : Nat))) = true by (simp; omega))
        let t10 : Tp pr := .b (show (decide (out.length + (1 : Nat) ≤ out.length)) = false by simp)
        let t12 : Tp pr := .n .crows (show ((List.take out.length (ints out)).append (List.take (1 : Nat) (List.drop (0 : Nat) [[C.t (T.int IntKind.i64 x)]]))) = ints out ++ [[C.t (T.int IntKind.i64 x)]] by simp)
        let t13 : Tp pr := .i (wrap_i64 (a := (↑dn.length : Int) + (1 : Int)) (by omega) (by omega))
        let t14 : Tp pr := .a (Ev.castq (((congrArg (fun x_1 => Q.loop (lq pr (61 : FuncId) (2 : Nat)) (at_ [((1 : Nat), V.ptr (0 : Nat) (1 : Nat) (0 : Nat) (0 : Nat)), ((3 : Nat), V.vec (1 : Nat) x_1 (1 : Nat) (0 : Nat) x_1), ((6 : Nat), i64 i), ((43 : Nat), isq l), ((44 : Nat), i64 (↑l.length : Int)), ((45 : Nat), i64 (↑(dn ++ [x]).length : Int))] (oB h (out ++ [x])) (0 : Nat))) (show ((out ++ [x]).length) = (out.length + (1 : Nat)) by simp [ints_app, ints_cons, intc])).trans (congrArg (fun x_1 => Q.loop (lq pr (61 : FuncId) (2 : Nat)) (at_ [((1 : Nat), V.ptr (0 : Nat) (1 : Nat) (0 : Nat) (0 : Nat)), ((3 : Nat), V.vec (1 : Nat) (out.length + (1 : Nat)) (1 : Nat) (0 : Nat) (out.length + (1 : Nat))), ((6 : Nat), i64 i), ((43 : Nat), isq l), ((44 : Nat), i64 (↑l.length : Int)), ((45 : Nat), i64 x_1)] (oB h (out ++ [x])) (0 : Nat))) (show ((↑(dn ++ [x]).length : Int)) = ((↑dn.length : Int) + (1 : Int)) by simp [ints_app, ints_cons, intc]))).trans (congrArg (fun x => Q.loop (lq pr (61 : FuncId) (2 : Nat)) (at_ [((1 : Nat), V.ptr (0 : Nat) (1 : Nat) (0 : Nat) (0 : Nat)), ((3 : Nat), V.vec (1 : Nat) (out.length + (1 : Nat)) (1 : Nat) (0 : Nat) (out.length + (1 : Nat))), ((6 : Nat), V.t (T.int IntKind.i64 i)), ((43 : Nat), V.t (T.seq (1 : Nat) (List.map intt l))), ((44 : Nat), V.t (T.int IntKind.i64 (↑l.length : Int))), ((45 : Nat), V.t (T.int IntKind.i64 ((↑dn.length : Int) + (1 : Int))))] [Ob.box [V.t (T.seq (2 : Nat) (List.map Obj.ce h.objects)), V.t (T.seq (1 : Nat) (List.map intt h.roots))], Ob.vec true (1 : Nat) x] (0 : Nat))) (show (ints (out ++ [x])) = ((ints out).append [[C.t (T.int IntKind.i64 x)]]) by simp [ints_app, ints_cons, intc]))) (ih))
        exact .tp [t0, t1, t2, t3, t4, .a (hh), .m (rfl : true = true), .b (rfl : true = true), .m (rfl : true = true), t9, t10, .c (rfl : (out.length + (1 : Nat)) = _), t12, t13, t14] (by kernel_rfl)
theorem objAt_lkp {h : Hp} {k : Int} (h0 : 0 ≤ k) (h1 : k < h.objects.length) : lkp (h.objects.map Obj.ce) k = some (objAt h k).ce := by
  rw [lkp, if_pos h0]
  simp [objAt, List.getD_eq_getElem?_getD, show k.toNat < h.objects.length by omega]
theorem orderL_ev (h : Hp) (hg : GoodH h) : ∀ (n i : Nat) (l : List Int), l.Nodup → (∀ x ∈ l, 0 ≤ x ∧ x < h.objects.length) → done h n i l → i ≤ l.length →
    Ev pr (.loop (lq pr 61 1) (at_ [(1, .ptr 0 1 0 0), (3, .vec 1 l.length 1 0 l.length), (6, i64 i)] (oB h l) 0))
      (.exit 2 (at_ [(3, .vec 0 (orderGo h n i l).length 1 0 (orderGo h n i l).length)] [.vec true 1 (ints (orderGo h n i l))] 0))
  | 0, i, l, hn, hb, hd, hi => by
    have hd : l.length ≤ i := hd
    have e : i = l.length := by omega
    subst e
    rw [show orderGo h 0 l.length l = l from rfl]
    let t1 : Tp pr := .b (show (decide ((↑l.length : Int) < (↑l.length : Int))) = false by simp)
    exact .tp [.i (rfl : ((↑l.length : Int)) = _), t1] (by kernel_rfl)
  | n + 1, i, l, hn, hb, hd, hi => by
    have hl := nodup_len _ l hn hb
    have hob := hg.objs
    unfold orderGo
    unfold done at hd
    cases hk : l[i]? with
    | none =>
      have e : i = l.length := by have := List.getElem?_eq_none_iff.1 hk; omega
      subst e
      let t1 : Tp pr := .b (show (decide ((↑l.length : Int) < (↑l.length : Int))) = false by simp)
      exact .tp [.i (rfl : ((↑l.length : Int)) = _), t1] (by kernel_rfl)
    | some k =>
      rw [hk] at hd
      dsimp only at hd ⊢
      have hlt := (List.getElem?_eq_some_iff.1 hk).1
      have hkb := hb k (List.mem_of_getElem? hk)
      have hgi : (ints l)[i]? = some (intc k) := by simp [ints, hk]
      have hlk := objAt_lkp hkb.1 hkb.2
      have hmem := objAt_mem hkb.1 hkb.2
      have hin := orderKL_ev h (objAt h k).links i (hg.llen _ hmem) (objAt h k).links [] l rfl (by simp; omega)
      obtain ⟨r, hr⟩ := pushAll_ext (objAt h k).links l
      have hlen2 : l.length ≤ (pushAll l (objAt h k).links).length := by rw [hr]; simp
      have hb2 := pushAll_bd (N := h.objects.length) (objAt h k).links l hb (fun x hx => (hg.links _ hmem x hx).2)
      have ih := orderL_ev h hg n (i + 1) (pushAll l (objAt h k).links) (pushAll_nodup _ _ hn) hb2 hd (by omega)
      let t1 : Tp pr := .b (show (decide ((↑i : Int) < (↑l.length : Int))) = true by (simp; omega))
      let t6 : Tp pr := .m (show (decide ((0 : Int) ≤ (↑i : Int) ∧ (↑i : Int).toNat < l.length)) = true by simp [*])
      let t7 : Tp pr := .c (show ((0 : Nat) + (↑i : Int).toNat : Nat) = i by omega)
      let t9 : Tp pr := .m (show (decide ((ints l).length = l.length)) = true by simp)
      let t10 : Tp pr := .g .crow (show ((ints l)[i]?) = some (intc k) from hgi)
      let t12 : Tp pr := .g .row (show (lkp (List.map Obj.ce h.objects) k) = some ((objAt h k).ce) from hlk)
      let t16 : Tp pr := .i (show ((↑(List.map intt (objAt h k).links).length : Int) : Int) = (↑(objAt h k).links.length : Int) by simp)
      let t20 : Tp pr := .i (wrap_i64 (a := (↑i : Int) + (1 : Int)) (by omega) (by omega))
      exact .tp [.i (rfl : ((↑l.length : Int)) = _), t1, .m (rfl : true = true), .m (rfl : true = true), .m (rfl : true = true), .m (rfl : true = true), t6, t7, .m (rfl : true = true), t9, t10, .m (rfl : true = true), t12, .m (rfl : true = true), .m (rfl : true = true), .m (rfl : true = true), t16, .m (rfl : true = true), .m (rfl : true = true), .a (hin), t20, .a (ih)] (by kernel_rfl)
theorem l15Order_ev (h : Hp) (hg : GoodH h) : Ev pr (.call 61 [vs h.ce] []) (.val (isq (order h)) []) := by
  have h3 := hg.rlen
  have g1 := orderRL_ev h (by omega) h.roots [] [] rfl (by simp)
  have hb := pushAll_bd (N := h.objects.length) h.roots [] (by simp) (fun k hk => (hg.roots k hk).2)
  have g2 := orderL_ev h hg (h.objects.length + 1) 0 (pushAll [] h.roots) (pushAll_nodup _ _ (by simp)) hb (done_ok hg _ _ _ (pushAll_nodup _ _ (by simp)) hb (by omega)) (Nat.zero_le _)
  rw [show orderGo h (h.objects.length + 1) 0 (pushAll [] h.roots) = order h from rfl] at g2
  let t0 : Tp pr := .i (show ((↑(List.map intt h.roots).length : Int) : Int) = (↑h.roots.length : Int) by simp)
  let t3 : Tp pr := .m (show (decide ((ints (order h)).length = (order h).length ∧ (0 : Nat) + (order h).length ≤ (order h).length)) = true by simp)
  let t4 : Tp pr := .n .rows (show (List.map (fun x => List.map C.fz x) (List.take (order h).length (List.drop (0 : Nat) (ints (order h))))) = List.map intt (order h) by simp)
  exact .tp [t0, .a (g1), .a (g2), t3, t4] (by kernel_rfl)
end Go.Ev

/- Heaps: marks that are held; heaps that are nothing; heaps that are checked. -/
namespace Go.Ev
set_option linter.unusedVariables false
set_option linter.unusedSimpArgs false
open Go.Proofs
set_option maxRecDepth 100000
set_option linter.unusedVariables false
set_option maxHeartbeats 2000000
@[simp] theorem markedO_len : ∀ (k : Int) (l : List Obj), (markedO k l).length = l.length
  | _, [] => rfl
  | k, x :: l => by simp [markedO, markedO_len _ l]
attribute [local simp] markI_len
theorem heldObjL_ev : ∀ (l m : List Obj) (k : Int), 0 ≤ k → k + marksO l ≤ 9000000 → m.length + l.length ≤ 1048576 → (∀ x ∈ l, x.links.length ≤ 1048576) →
    Ev pr (.loop (lq pr 54 0) (at_ [(0, osq (m ++ markedO k l)), (1, i64 k), (5, i64 m.length)] [] 0)) (.exit 0 (at_ [(1, i64 (k + marksO l))] [] 0))
  | [], m, k, h0, h1, h2, hx => by
    let t0 : Tp pr := .i (show ((↑(List.map Obj.ce (m ++ markedO k [])).length : Int) : Int) = (↑m.length : Int) by simp)
    let t1 : Tp pr := .b (show (decide ((↑m.length : Int) < (↑m.length : Int))) = false by simp)
    exact .tpe [t0, t1] (Out.exit (0 : Nat) (at_ [((1 : Nat), V.t (T.int IntKind.i64 k))] [] (0 : Nat))) (by kernel_rfl) (congrArg (fun x => Out.exit (0 : Nat) (at_ [((1 : Nat), V.t (T.int IntKind.i64 x))] [] (0 : Nat))) (show (k) = (k + (0 : Int)) by simp [markedO, marksO]))
  | x :: l, m, k, h0, h1, h2, hx => by
    have hm := marksO_nonneg l
    simp [marksO] at h1 h2
    have hr := heldIntS_ev x.links.length (k + 1) (by omega) (by omega) (hx x (by simp))
    have ih := heldObjL_ev l (m ++ [⟨k, markI (k + 1) x.links.length⟩]) (k + 1 + x.links.length) (by omega) (by omega) (by simp; omega) (fun y hy => hx y (by simp [hy]))
    rw [show markedO k (x :: l) = ⟨k, markI (k + 1) x.links.length⟩ :: markedO (k + 1 + x.links.length) l from rfl, show marksO (x :: l) = 1 + x.links.length + marksO l from rfl]
    have hg : lkp ((m ++ ⟨k, markI (k + 1) x.links.length⟩ :: markedO (k + 1 + x.links.length) l).map Obj.ce) (m.length : Int) = some [T.int .i64 k, T.seq 1 ((markI (k + 1) x.links.length).map intt)] := by simp [Obj.ce]
    let t0 : Tp pr := .i (show ((↑(List.map Obj.ce (m ++ Obj.mk k (markI (k + (1 : Int)) x.links.length) :: markedO (k + (1 : Int) + (↑x.links.length : Int)) l)).length : Int) : Int) = (↑m.length : Int) + ((↑l.length : Int) + (1 : Int)) by simp)
    let t1 : Tp pr := .b (show (decide ((↑m.length : Int) < (↑m.length : Int) + ((↑l.length : Int) + (1 : Int)))) = true by (simp; omega))
    let t2 : Tp pr := .g .row (show (lkp (List.map Obj.ce (m ++ Obj.mk k (markI (k + (1 : Int)) x.links.length) :: markedO (k + (1 : Int) + (↑x.links.length : Int)) l)) (↑m.length : Int)) = some ([T.int IntKind.i64 k, T.seq (1 : Nat) (List.map intt (markI (k + (1 : Int)) x.links.length))]) from hg)
    let t4 : Tp pr := .i (wrap_i64 (a := k + (1 : Int)) (by omega) (by omega))
    let t5 : Tp pr := .g .row (show (lkp (List.map Obj.ce (m ++ Obj.mk k (markI (k + (1 : Int)) x.links.length) :: markedO (k + (1 : Int) + (↑x.links.length : Int)) l)) (↑m.length : Int)) = some ([T.int IntKind.i64 k, T.seq (1 : Nat) (List.map intt (markI (k + (1 : Int)) x.links.length))]) from hg)
    let t7 : Tp pr := .b (show (decide (k + (1 : Int) + (↑x.links.length : Int) < (0 : Int))) = false by (simp; omega))
    let t8 : Tp pr := .i (wrap_i64 (a := (↑m.length : Int) + (1 : Int)) (by omega) (by omega))
    let t9 : Tp pr := .a (Ev.castq ((congrArg (fun x_1 => Q.loop (lq pr (54 : FuncId) (0 : Nat)) (at_ [((0 : Nat), V.t (T.seq (2 : Nat) x_1)), ((1 : Nat), V.t (T.int IntKind.i64 (k + (1 : Int) + (↑x.links.length : Int)))), ((5 : Nat), V.t (T.int IntKind.i64 (↑(m ++ [Obj.mk k (markI (k + (1 : Int)) x.links.length)]).length : Int)))] [] (0 : Nat))) (show (List.map Obj.ce (m ++ [Obj.mk k (markI (k + (1 : Int)) x.links.length)] ++ markedO (k + (1 : Int) + (↑x.links.length : Int)) l)) = (List.map Obj.ce (m ++ Obj.mk k (markI (k + (1 : Int)) x.links.length) :: markedO (k + (1 : Int) + (↑x.links.length : Int)) l)) by (simp <;> omega))).trans (congrArg (fun x_1 => Q.loop (lq pr (54 : FuncId) (0 : Nat)) (at_ [((0 : Nat), V.t (T.seq (2 : Nat) (List.map Obj.ce (m ++ Obj.mk k (markI (k + (1 : Int)) x.links.length) :: markedO (k + (1 : Int) + (↑x.links.length : Int)) l)))), ((1 : Nat), V.t (T.int IntKind.i64 (k + (1 : Int) + (↑x.links.length : Int)))), ((5 : Nat), V.t (T.int IntKind.i64 x_1))] [] (0 : Nat))) (show ((↑(m ++ [Obj.mk k (markI (k + (1 : Int)) x.links.length)]).length : Int)) = ((↑m.length : Int) + (1 : Int)) by (simp <;> omega)))) (ih))
    exact .tpe [t0, t1, t2, .b (show (k != k) = false by simp), t4, t5, .a (hr), t7, t8, t9] (Out.exit (0 : Nat) (at_ [((1 : Nat), V.t (T.int IntKind.i64 (k + (1 : Int) + (↑x.links.length : Int) + marksO l)))] [] (0 : Nat))) (by kernel_rfl) (congrArg (fun x => Out.exit (0 : Nat) (at_ [((1 : Nat), V.t (T.int IntKind.i64 x))] [] (0 : Nat))) (show (k + (1 : Int) + (↑x.links.length : Int) + marksO l) = (k + ((1 : Int) + (↑x.links.length : Int) + marksO l)) by omega))
theorem heldObjectS_ev (l : List Obj) (k : Int) (h0 : 0 ≤ k) (h1 : k + marksO l ≤ 9000000) (h2 : l.length ≤ 1048576) (hx : ∀ x ∈ l, x.links.length ≤ 1048576) :
    Ev pr (.call 54 [osq (markedO k l), i64 k] []) (.val (i64 (k + marksO l)) []) := by
  have := heldObjL_ev l [] k h0 h1 (by simpa using h2) hx
  exact .tp [.a (this)] (by kernel_rfl)
def markedH (k : Int) (h : Hp) : Hp := ⟨markedO k h.objects, markI (k + marksO h.objects) h.roots.length⟩
theorem heldHeap_ev (h : Hp) (k : Int) (h0 : 0 ≤ k) (hk : k ≤ 10) (h1 : h.objects.length ≤ 1048576) (h2 : ∀ x ∈ h.objects, x.links.length ≤ 1048576) (h3 : h.roots.length ≤ 1048576) (hm : marksO h.objects ≤ 1048576) :
    Ev pr (.call 20 [vs (markedH k h).ce, i64 k] []) (.val (i64 (k + marksO h.objects + h.roots.length)) []) := by
  have hn := marksO_nonneg h.objects
  have e1 := heldObjectS_ev h.objects k h0 (by omega) h1 h2
  have e2 := heldIntS_ev h.roots.length (k + marksO h.objects) (by omega) (by omega) h3
  unfold markedH
  let t1 : Tp pr := .b (show (decide (k + marksO h.objects < (0 : Int))) = false by (simp; omega))
  let t3 : Tp pr := .b (show (decide (k + marksO h.objects + (↑h.roots.length : Int) < (0 : Int))) = false by (simp; omega))
  exact .tp [.a (e1), t1, .a (e2), t3] (by kernel_rfl)
def nilHp : List V := [.t .nils, .t .nils]
theorem eqObjNL_ev : Ev pr (.loop (lq pr 52 0) (at_ [(0, .t .nils), (1, .t (.seq 2 [])), (5, i64 0)] [] 0)) (.exit 0 (at_ [] [] 0)) := by
  let t0 : Tp pr := .i (rfl : ((0 : Int) : Int) = (0 : Int))
  exact .tp [t0, .b (rfl : false = false)] (by kernel_rfl)
theorem eqObjN_ev : Ev pr (.call 52 [.t .nils, .t (.seq 2 [])] []) (.val (bl true) []) := by
  let t0 : Tp pr := .i (rfl : ((0 : Int) : Int) = (0 : Int))
  let t1 : Tp pr := .i (rfl : ((0 : Int) : Int) = (0 : Int))
  exact .tp [t0, t1, .b (rfl : false = false), .a (eqObjNL_ev)] (by kernel_rfl)
theorem eqHeapN_ev : Ev pr (.call 18 [.agg [.t .nils, .t .nils], vs (Hp.mk [] []).ce] []) (.val (bl true) []) := by
  have e1 := eqObjN_ev
  have e2 := eqIntN_ev
  exact .tp [.a (e1), .b (rfl : false = false), .a (e2), .b (rfl : false = false)] (by kernel_rfl)
theorem markObjNL_ev (k : Int) : Ev pr (.loop (lq pr 53 0) (at_ [(0, .t .nils), (1, i64 k), (5, i64 0)] [] 0)) (.exit 0 (at_ [(1, i64 k)] [] 0)) := by
  let t0 : Tp pr := .i (rfl : ((0 : Int) : Int) = (0 : Int))
  exact .tp [t0, .b (rfl : false = false)] (by kernel_rfl)
theorem markObjN_ev (k : Int) : Ev pr (.call 53 [.t .nils, i64 k] []) (.val (i64 k) []) := by
  have := markObjNL_ev k
  exact .tp [.a (this)] (by kernel_rfl)
theorem markHeapN_ev (k : Int) : Ev pr (.call 19 [.agg [.t .nils, .t .nils], i64 k] []) (.val (i64 k) []) := by
  have e1 := markObjN_ev k
  have e2 := markIntN_ev k
  exact .tp [.a (e1), .a (e2)] (by kernel_rfl)
theorem heldObjNL_ev (k : Int) : Ev pr (.loop (lq pr 54 0) (at_ [(0, .t .nils), (1, i64 k), (5, i64 0)] [] 0)) (.exit 0 (at_ [(1, i64 k)] [] 0)) := by
  let t0 : Tp pr := .i (rfl : ((0 : Int) : Int) = (0 : Int))
  exact .tp [t0, .b (rfl : false = false)] (by kernel_rfl)
theorem heldObjN_ev (k : Int) : Ev pr (.call 54 [.t .nils, i64 k] []) (.val (i64 k) []) := by
  have := heldObjNL_ev k
  exact .tp [.a (this)] (by kernel_rfl)
theorem heldHeapN_ev (k : Int) (h0 : 0 ≤ k) : Ev pr (.call 20 [.agg [.t .nils, .t .nils], i64 k] []) (.val (i64 k) []) := by
  have e1 := heldObjN_ev k
  have e2 := heldIntN_ev k
  let t1 : Tp pr := .b (show (decide (k < (0 : Int))) = false by (simp; omega))
  let t3 : Tp pr := .b (show (decide (k < (0 : Int))) = false by (simp; omega))
  exact .tp [.a (e1), t1, .a (e2), t3] (by kernel_rfl)
@[local simp] theorem obcc_take3 (l : List Obj) : List.take l.length (l.map Obj.cc) = l.map Obj.cc := List.take_of_length_le (by simp)
@[local simp] theorem ints_take3 (l : List Int) : List.take l.length (l.map intt) = l.map intt := List.take_of_length_le (by simp)
@[local simp] theorem obcc_flat3 (fl : Bool) (l : List Obj) : Ob.flat (.vec fl 2 (l.map Obj.cc)) = true := by simp [Ob.flat, Obj.cc, C.flat, T.flat, intt]
@[local simp] theorem ints_flat3 (fl : Bool) (l : List Int) : Ob.flat (.vec fl 1 (ints l)) = true := by simp [Ob.flat, ints, intc, C.flat, T.flat]
abbrev hpV (h : Hp) : V := .agg [.vec 0 h.objects.length 2 0 h.objects.length, .vec 1 h.roots.length 1 0 h.roots.length]
theorem checkedT_ev (h : Hp) (fl : Bool) (h1 : h.objects.length ≤ 1048576) (h2 : ∀ x ∈ h.objects, x.links.length ≤ 1048576) (h3 : h.roots.length ≤ 1048576) (hg : goodHeap h = true) :
    Ev pr (.call 56 [.agg [.vec 0 h.objects.length 2 0 h.objects.length, .vec 1 h.roots.length 1 0 h.roots.length]] [.vec fl 2 (h.objects.map Obj.cc), .vec true 1 (ints h.roots)])
      (.val (.tup [.agg [.vec 0 h.objects.length 2 0 h.objects.length, .vec 1 h.roots.length 1 0 h.roots.length], bl true]) [.vec fl 2 (h.objects.map Obj.cc), .vec true 1 (ints h.roots)]) := by
  have e := GoodHeapI_ev h h1 h2 h3
  rw [hg] at e
  let t0 : Tp pr := .m (show (decide ((List.map Obj.cc h.objects).length = h.objects.length ∧ (0 : Nat) + h.objects.length ≤ h.objects.length)) = true by simp)
  let t1 : Tp pr := .n .rows (show (List.map (fun x => List.map C.fz x) (List.take h.objects.length (List.drop (0 : Nat) (List.map Obj.cc h.objects)))) = List.map Obj.ce h.objects by simp)
  let t2 : Tp pr := .m (show (decide ((ints h.roots).length = h.roots.length ∧ (0 : Nat) + h.roots.length ≤ h.roots.length)) = true by simp)
  let t3 : Tp pr := .n .rows (show (List.map (fun x => List.map C.fz x) (List.take h.roots.length (List.drop (0 : Nat) (ints h.roots)))) = List.map intt h.roots by simp)
  exact .tp [t0, t1, t2, t3, .a (e), .m (rfl : true = true), .b (rfl : false = false)] (by kernel_rfl)
theorem checkedF_ev (h : Hp) (fl : Bool) (h1 : h.objects.length ≤ 1048576) (h2 : ∀ x ∈ h.objects, x.links.length ≤ 1048576) (h3 : h.roots.length ≤ 1048576) (hg : goodHeap h = false) :
    Ev pr (.call 56 [.agg [.vec 0 h.objects.length 2 0 h.objects.length, .vec 1 h.roots.length 1 0 h.roots.length]] [.vec fl 2 (h.objects.map Obj.cc), .vec true 1 (ints h.roots)])
      (.val (.tup [.agg [.t .nils, .t .nils], bl false]) [.vec fl 2 (h.objects.map Obj.cc), .vec true 1 (ints h.roots)]) := by
  have e := GoodHeapI_ev h h1 h2 h3
  rw [hg] at e
  let t0 : Tp pr := .m (show (decide ((List.map Obj.cc h.objects).length = h.objects.length ∧ (0 : Nat) + h.objects.length ≤ h.objects.length)) = true by simp)
  let t1 : Tp pr := .n .rows (show (List.map (fun x => List.map C.fz x) (List.take h.objects.length (List.drop (0 : Nat) (List.map Obj.cc h.objects)))) = List.map Obj.ce h.objects by simp)
  let t2 : Tp pr := .m (show (decide ((ints h.roots).length = h.roots.length ∧ (0 : Nat) + h.roots.length ≤ h.roots.length)) = true by simp)
  let t3 : Tp pr := .n .rows (show (List.map (fun x => List.map C.fz x) (List.take h.roots.length (List.drop (0 : Nat) (ints h.roots)))) = List.map intt h.roots by simp)
  exact .tp [t0, t1, t2, t3, .a (e), .m (rfl : true = true), .b (rfl : true = true)] (by kernel_rfl)
theorem tellT_ev (h : Hp) (fl : Bool) (h1 : h.objects.length ≤ 1048576) (h2 : ∀ x ∈ h.objects, x.links.length ≤ 1048576) (h3 : h.roots.length ≤ 1048576) (hg : goodHeap h = true) :
    Ev pr (.call 55 [.agg [.vec 0 h.objects.length 2 0 h.objects.length, .vec 1 h.roots.length 1 0 h.roots.length]] [.vec fl 2 (h.objects.map Obj.cc), .vec true 1 (ints h.roots)])
      (.val (.tup [.agg [.vec 0 h.objects.length 2 0 h.objects.length, .vec 1 h.roots.length 1 0 h.roots.length], bl true]) [.vec fl 2 (h.objects.map Obj.cc), .vec true 1 (ints h.roots)]) := by
  have e := GoodHeapS_ev h h1 h2 h3
  rw [hg] at e
  let t0 : Tp pr := .m (show (decide ((List.map Obj.cc h.objects).length = h.objects.length ∧ (0 : Nat) + h.objects.length ≤ h.objects.length)) = true by simp)
  let t1 : Tp pr := .n .rows (show (List.map (fun x => List.map C.fz x) (List.take h.objects.length (List.drop (0 : Nat) (List.map Obj.cc h.objects)))) = List.map Obj.ce h.objects by simp)
  let t2 : Tp pr := .m (show (decide ((ints h.roots).length = h.roots.length ∧ (0 : Nat) + h.roots.length ≤ h.roots.length)) = true by simp)
  let t3 : Tp pr := .n .rows (show (List.map (fun x => List.map C.fz x) (List.take h.roots.length (List.drop (0 : Nat) (ints h.roots)))) = List.map intt h.roots by simp)
  exact .tp [t0, t1, t2, t3, .a (e), .m (rfl : true = true), .b (rfl : false = false)] (by kernel_rfl)
theorem tellF_ev (h : Hp) (fl : Bool) (h1 : h.objects.length ≤ 1048576) (h2 : ∀ x ∈ h.objects, x.links.length ≤ 1048576) (h3 : h.roots.length ≤ 1048576) (hg : goodHeap h = false) :
    Ev pr (.call 55 [.agg [.vec 0 h.objects.length 2 0 h.objects.length, .vec 1 h.roots.length 1 0 h.roots.length]] [.vec fl 2 (h.objects.map Obj.cc), .vec true 1 (ints h.roots)])
      (.val (.tup [.agg [.t .nils, .t .nils], bl false]) [.vec fl 2 (h.objects.map Obj.cc), .vec true 1 (ints h.roots)]) := by
  have e := GoodHeapS_ev h h1 h2 h3
  rw [hg] at e
  let t0 : Tp pr := .m (show (decide ((List.map Obj.cc h.objects).length = h.objects.length ∧ (0 : Nat) + h.objects.length ≤ h.objects.length)) = true by simp)
  let t1 : Tp pr := .n .rows (show (List.map (fun x => List.map C.fz x) (List.take h.objects.length (List.drop (0 : Nat) (List.map Obj.cc h.objects)))) = List.map Obj.ce h.objects by simp)
  let t2 : Tp pr := .m (show (decide ((ints h.roots).length = h.roots.length ∧ (0 : Nat) + h.roots.length ≤ h.roots.length)) = true by simp)
  let t3 : Tp pr := .n .rows (show (List.map (fun x => List.map C.fz x) (List.take h.roots.length (List.drop (0 : Nat) (ints h.roots)))) = List.map intt h.roots by simp)
  exact .tp [t0, t1, t2, t3, .a (e), .m (rfl : true = true), .b (rfl : true = true)] (by kernel_rfl)
end Go.Ev

/- DropRoot: the program's and the reference's. -/
namespace Go.Ev
set_option linter.unusedVariables false
set_option linter.unusedSimpArgs false
open Go.Proofs
set_option maxRecDepth 100000
set_option linter.unusedVariables false
set_option maxHeartbeats 2000000
attribute [local simp] obcc_take3 ints_take3 obcc_flat3 ints_flat3
@[local simp] theorem ints_take6 (l : List Int) : List.take l.length (ints l) = ints l := List.take_of_length_le (by simp)
theorem ints_app9 (a b : List Int) : ints (a ++ b) = ints a ++ ints b := by simp [ints]
theorem ints_cons9 (x : Int) (b : List Int) : ints (x :: b) = [C.t (.int .i64 x)] :: ints b := rfl
@[local simp] theorem toNat9 (a b : Nat) : ((a : Int) + (b : Int)).toNat = a + b := by omega
@[local simp] theorem toNat9b (a b : Nat) : ((a : Int) + ((b : Int) + 1)).toNat = a + b + 1 := by omega
@[local simp] theorem sub9 (a b : Nat) : a + b + 1 - (a + 1) = b := by omega
@[local simp] theorem sub9b (a b : Nat) : a + b + 1 - (a + b) = 1 := by omega
@[local simp] theorem take9 (A B : List Int) (y : Int) : List.take A.length (ints (A ++ y :: B)) = ints A := by simp [ints]
@[local simp] theorem drop9 (A B : List Int) (y : Int) : List.drop (A.length + 1) (ints (A ++ y :: B)) = ints B := by
  rw [ints_app9, ints_cons9, List.drop_append]
  simp
@[local simp] theorem drop9b (A B : List Int) (y : Int) : List.drop (A.length + B.length) (ints (A ++ y :: B)) = [intc ((y :: B).getLast (by simp))] := by
  have h := List.dropLast_concat_getLast (l := y :: B) (by simp)
  generalize hz : (y :: B).getLast (by simp) = z at h ⊢
  generalize hd : (y :: B).dropLast = D at h
  have hl : D.length = B.length := by rw [← hd]; simp
  rw [← h, ints_app9, ints_app9, ← hl, ← List.append_assoc]
  exact List.drop_left' (by simp)
@[local simp] theorem take9b (A B : List Int) (w : List C) : List.take (A.length + B.length) (ints A ++ (ints B ++ [w])) = ints A ++ ints B := by
  rw [← List.append_assoc]
  exact List.take_left' (by simp)
@[local simp] theorem take9c (A B : List Int) (w : List C) : List.take (A.length + B.length) ((ints A).append ((ints B).append [w])) = (ints A).append (ints B) := take9b A B w
@[local simp] theorem drop9c (A B : List Int) (w : List C) : List.drop (A.length + B.length + 1) (ints A ++ (ints B ++ [w])) = [] := List.drop_eq_nil_of_le (by simp; omega)
@[local simp] theorem drop9d (A B : List Int) (w : List C) : List.drop (A.length + B.length + 1) ((ints A).append ((ints B).append [w])) = [] := drop9c A B w
theorem Delete_ev (A B : List Int) (y : Int) (hl : A.length + B.length ≤ 1000000) :
    Ev pr (.call 51 [.vec 0 (A ++ y :: B).length 1 0 (A ++ y :: B).length, i64 A.length, i64 (A.length + 1)] [.vec true 1 (ints (A ++ y :: B))])
      (.val (.vec 0 (A ++ y :: B).length 1 0 (A ++ B).length) [.vec true 1 (ints (A ++ B ++ [0]))]) := by
  have e : ints (A ++ B ++ [0]) = ints A ++ (ints B ++ [[C.t (.int .i64 0)]]) := by simp [ints, intc]
  rw [e, show (A ++ B).length = A.length + B.length by simp]
  let t0 : Tp pr := .i (show ((↑(A ++ y :: B).length : Int) : Int) = (↑A.length : Int) + ((↑B.length : Int) + (1 : Int)) by simp)
  let t1 : Tp pr := .m (show (decide (((↑A.length : Int) + ((↑B.length : Int) + (1 : Int))).toNat = (A ++ y :: B).length - (0 : Nat)) && true) = true by (simp; omega))
  let t2 : Tp pr := .m (show (decide ((0 : Int) ≤ (↑A.length : Int) ∧ (↑A.length : Int) ≤ (↑A.length : Int) + (1 : Int) ∧ (0 : Nat) + ((↑A.length : Int) + (1 : Int)).toNat ≤ (A ++ y :: B).length)) = true by (simp; omega))
  let t3 : Tp pr := .c (show ((0 : Nat) + (↑A.length : Int).toNat : Nat) = A.length by omega)
  let t4 : Tp pr := .c (show (((↑A.length : Int) + (1 : Int)).toNat - (↑A.length : Int).toNat : Nat) = (1 : Nat) by omega)
  let t5 : Tp pr := .b (show (decide ((↑A.length : Int) = (↑A.length : Int) + (1 : Int))) = false by (simp; omega))
  let t6 : Tp pr := .i (show ((↑(A ++ y :: B).length : Int) : Int) = (↑A.length : Int) + ((↑B.length : Int) + (1 : Int)) by simp)
  let t9 : Tp pr := .m (show (decide ((0 : Int) ≤ (0 : Int) ∧ (0 : Int) ≤ (↑A.length : Int) ∧ (0 : Nat) + (↑A.length : Int).toNat ≤ (A ++ y :: B).length)) = true by simp)
  let t11 : Tp pr := .c (show ((↑A.length : Int).toNat - (0 : Nat) : Nat) = A.length by omega)
  let t15 : Tp pr := .m (show (decide ((0 : Int) ≤ (↑A.length : Int) + (1 : Int) ∧ (↑A.length : Int) + (1 : Int) ≤ (↑(A ++ y :: B).length : Int) ∧ (0 : Nat) + (↑(A ++ y :: B).length : Int).toNat ≤ (A ++ y :: B).length)) = true by (simp; omega))
  let t16 : Tp pr := .c (show ((0 : Nat) + ((↑A.length : Int) + (1 : Int)).toNat : Nat) = A.length + (1 : Nat) by omega)
  let t17 : Tp pr := .c (show ((↑(A ++ y :: B).length : Int).toNat - ((↑A.length : Int) + (1 : Int)).toNat : Nat) = B.length by simp)
  let t19 : Tp pr := .m (show (decide ((ints (A ++ y :: B)).length = (A ++ y :: B).length ∧ A.length + (1 : Nat) + B.length ≤ (A ++ y :: B).length)) = true by (simp; omega))
  let t20 : Tp pr := .m (show (decide ((ints (A ++ y :: B)).length = (A ++ y :: B).length ∧ (0 : Nat) + A.length ≤ (A ++ y :: B).length ∧ A.length + (List.take B.length (List.drop (A.length + (1 : Nat)) (ints (A ++ y :: B)))).length ≤ (4294967296 : Nat))) = true by (simp; omega))
  let t21 : Tp pr := .b (show (decide (A.length + (List.take B.length (List.drop (A.length + (1 : Nat)) (ints (A ++ y :: B)))).length ≤ (A ++ y :: B).length)) = true by simp)
  let t22 : Tp pr := .c (show (A.length + (List.take B.length (List.drop (A.length + (1 : Nat)) (ints (A ++ y :: B)))).length : Nat) = A.length + B.length by simp)
  let t23 : Tp pr := .n .crows (show (((List.take A.length (ints (A ++ y :: B))).append (List.take B.length (List.drop (A.length + (1 : Nat)) (ints (A ++ y :: B))))).append (List.drop (A.length + (List.take B.length (List.drop (A.length + (1 : Nat)) (ints (A ++ y :: B)))).length) (ints (A ++ y :: B)))) = ints A ++ (ints B ++ [intc ((y :: B).getLast (of_eq_true (Eq.trans (congrArg Not (eq_false' fun h => False.elim (noConfusion_of_Nat List.ctorIdx h))) not_false_eq_true)))]) by simp)
  let t26 : Tp pr := .i (show ((↑(A.length + B.length) : Int) : Int) = (↑A.length : Int) + (↑B.length : Int) by omega)
  let t27 : Tp pr := .m (show (decide ((0 : Int) ≤ (↑A.length : Int) + (↑B.length : Int) ∧ (↑A.length : Int) + (↑B.length : Int) ≤ (↑A.length : Int) + ((↑B.length : Int) + (1 : Int)) ∧ (0 : Nat) + ((↑A.length : Int) + ((↑B.length : Int) + (1 : Int))).toNat ≤ (A ++ y :: B).length)) = true by (simp; omega))
  let t28 : Tp pr := .c (show ((0 : Nat) + ((↑A.length : Int) + (↑B.length : Int)).toNat : Nat) = A.length + B.length by omega)
  let t29 : Tp pr := .c (show (((↑A.length : Int) + ((↑B.length : Int) + (1 : Int))).toNat - ((↑A.length : Int) + (↑B.length : Int)).toNat : Nat) = (1 : Nat) by omega)
  let t30 : Tp pr := .m (show (decide (((ints A).append ((ints B).append [[C.t (T.int IntKind.i64 ((y :: B).getLast (of_eq_true (Eq.trans (congrArg Not (eq_false' fun h => False.elim (noConfusion_of_Nat List.ctorIdx h))) not_false_eq_true))))]])).length = (A ++ y :: B).length ∧ A.length + B.length + (1 : Nat) ≤ (A ++ y :: B).length)) = true by (simp; omega))
  let t31 : Tp pr := .n .crows (show (((List.take (A.length + B.length) ((ints A).append ((ints B).append [[C.t (T.int IntKind.i64 ((y :: B).getLast (of_eq_true (Eq.trans (congrArg Not (eq_false' fun h => False.elim (noConfusion_of_Nat List.ctorIdx h))) not_false_eq_true))))]]))).append (List.replicate (1 : Nat) [C.t (T.int IntKind.i64 (0 : Int))])).append (List.drop (A.length + B.length + (1 : Nat)) ((ints A).append ((ints B).append [[C.t (T.int IntKind.i64 ((y :: B).getLast (of_eq_true (Eq.trans (congrArg Not (eq_false' fun h => False.elim (noConfusion_of_Nat List.ctorIdx h))) not_false_eq_true))))]])))) = ints A ++ (ints B ++ [[C.t (T.int IntKind.i64 (0 : Int))]]) by simp)
  exact .tp [t0, t1, t2, t3, t4, t5, t6, .m (rfl : true = true), .m (rfl : true = true), t9, .c (rfl : ((0 : Nat)) = _), t11, .m (rfl : true = true), .m (rfl : true = true), .m (rfl : true = true), t15, t16, t17, .m (rfl : true = true), t19, t20, t21, t22, t23, .m (rfl : true = true), .m (rfl : true = true), t26, t27, t28, t29, t30, t31] (by kernel_rfl)
end Go.Ev

/- DropRoot: the program's and the reference's. -/
namespace Go.Ev
set_option linter.unusedVariables false
set_option linter.unusedSimpArgs false
open Go.Proofs
set_option maxRecDepth 100000
set_option linter.unusedVariables false
set_option maxHeartbeats 2000000
attribute [local simp] obcc_take3 ints_take3 obcc_flat3 ints_flat3 ints_take6 toNat9 toNat9b sub9 sub9b take9 drop9
theorem DropIA_ev (h : Hp) (k : Int) (h1 : h.objects.length ≤ 1048576) (h2 : ∀ x ∈ h.objects, x.links.length ≤ 1048576) (h3 : h.roots.length ≤ 1048576) (hg : goodHeap h = false) :
    Ev pr (.call 17 [vs h.ce, i64 k] []) (.val (.tup [.agg [.t .nils, .t .nils], bl false]) []) := by
  have e := GoodHeapI_ev h h1 h2 h3
  rw [hg] at e
  exact .tp [.a (e), .b (rfl : true = true), .b (rfl : true = true)] (by kernel_rfl)
theorem DropIB_ev (h : Hp) (k : Int) (h1 : h.objects.length ≤ 1048576) (h2 : ∀ x ∈ h.objects, x.links.length ≤ 1048576) (h3 : h.roots.length ≤ 1048576) (hg : goodHeap h = true) (ho : ¬ (0 ≤ k ∧ k < h.roots.length)) :
    Ev pr (.call 17 [vs h.ce, i64 k] []) (.val (.tup [.agg [.t .nils, .t .nils], bl false]) []) := by
  have e := GoodHeapI_ev h h1 h2 h3
  rw [hg] at e
  have w := within_ev k 0 (h.roots.length - 1)
  rw [show (decide (k ≥ 0) && decide (k ≤ (h.roots.length : Int) - 1)) = false by
    rw [Bool.and_eq_false_iff]; by_cases h0 : 0 ≤ k
    · right; simp; omega
    · left; simpa using h0] at w
  let t2 : Tp pr := .i (show ((↑(List.map intt h.roots).length : Int) : Int) = (↑h.roots.length : Int) by simp)
  let t3 : Tp pr := .i (wrap_i64 (a := (↑h.roots.length : Int) - (1 : Int)) (by omega) (by omega))
  exact .tp [.a (e), .b (rfl : false = false), t2, t3, .a (w), .b (rfl : true = true)] (by kernel_rfl)
theorem DropIT_ev (os : List Obj) (A B : List Int) (y : Int) (h1 : os.length ≤ 1048576) (h2 : ∀ x ∈ os, x.links.length ≤ 1048576) (h3 : (A ++ y :: B).length ≤ 1000000) (hg : goodHeap ⟨os, A ++ y :: B⟩ = true) :
    Ev pr (.call 17 [vs (Hp.mk os (A ++ y :: B)).ce, i64 A.length] []) (.val (.tup [.agg [.vec 0 os.length 2 0 os.length, .vec 1 (A ++ y :: B).length 1 0 (A ++ B).length], bl true]) [.vec os.isEmpty 2 (os.map Obj.cc), .vec true 1 (ints (A ++ B ++ [0]))]) := by
  have h3' : (A ++ y :: B).length ≤ 1048576 := by omega
  have e := GoodHeapI_ev ⟨os, A ++ y :: B⟩ h1 h2 h3'
  rw [hg] at e
  have hlen : ((A ++ y :: B).length : Int) = A.length + 1 + B.length := by simp; omega
  have w := within_ev A.length 0 (((A ++ y :: B).length : Int) - 1)
  rw [show (decide ((A.length : Int) ≥ 0) && decide ((A.length : Int) ≤ ((A ++ y :: B).length : Int) - 1)) = true by
    rw [Bool.and_eq_true]; exact ⟨by simp, by simp; omega⟩] at w
  have c := cloneHeap_ev ⟨os, A ++ y :: B⟩ h1 h2 h3'
  have d := Delete_ev A B y (by simp at h3; omega)
  let t2 : Tp pr := .i (show ((↑(List.map intt (Hp.mk os (A ++ y :: B)).roots).length : Int) : Int) = (↑A.length : Int) + ((↑B.length : Int) + (1 : Int)) by simp)
  let t3 : Tp pr := .i (wrap_i64 (a := (↑A.length : Int) + ((↑B.length : Int) + (1 : Int)) - (1 : Int)) (by omega) (by omega))
  let t4 : Tp pr := .a (Ev.castq (congrArg (fun x => Q.call (49 : FuncId) [i64 (↑A.length : Int), i64 (0 : Int), i64 x] []) (show ((↑(A ++ y :: B).length : Int) - (1 : Int)) = ((↑A.length : Int) + ((↑B.length : Int) + (1 : Int)) - (1 : Int)) by simp)) (w))
  let t7 : Tp pr := .i (wrap_i64 (a := (↑A.length : Int) + (1 : Int)) (by omega) (by omega))
  exact .tp [.a (e), .b (rfl : false = false), t2, t3, t4, .b (rfl : false = false), .a (c), t7, .a (d)] (by kernel_rfl)
theorem DropSA_ev (h : Hp) (k : Int) (h1 : h.objects.length ≤ 1048576) (h2 : ∀ x ∈ h.objects, x.links.length ≤ 1048576) (h3 : h.roots.length ≤ 1048576) (hg : goodHeap h = false) :
    Ev pr (.call 15 [vs h.ce, i64 k] []) (.val (.tup [vs (Hp.mk [] []).ce, bl false]) []) := by
  have e := GoodHeapS_ev h h1 h2 h3
  rw [hg] at e
  exact .tp [.a (e), .b (rfl : true = true), .b (rfl : true = true), .b (rfl : true = true)] (by kernel_rfl)
theorem DropSB_ev (h : Hp) (k : Int) (h1 : h.objects.length ≤ 1048576) (h2 : ∀ x ∈ h.objects, x.links.length ≤ 1048576) (h3 : h.roots.length ≤ 1048576) (hg : goodHeap h = true) (ho : ¬ (0 ≤ k ∧ k < h.roots.length)) :
    Ev pr (.call 15 [vs h.ce, i64 k] []) (.val (.tup [vs (Hp.mk [] []).ce, bl false]) []) := by
  have e := GoodHeapS_ev h h1 h2 h3
  rw [hg] at e
  by_cases hc2 : k < (0 : Int)
  · let t2 : Tp pr := .b (show (decide (k < (0 : Int))) = true by simpa using hc2)
    exact .tp [.a (e), .b (rfl : false = false), t2, .b (rfl : true = true)] (by kernel_rfl)
  · let t2 : Tp pr := .b (show (decide (k < (0 : Int))) = false by simpa using hc2)
    let t3 : Tp pr := .i (show ((↑(List.map intt h.roots).length : Int) : Int) = (↑h.roots.length : Int) by simp)
    let t4 : Tp pr := .b (show (decide (k ≥ (↑h.roots.length : Int))) = true by (simp; omega))
    exact .tp [.a (e), .b (rfl : false = false), t2, t3, t4] (by kernel_rfl)
@[local simp] theorem take10 (A B : List Int) : List.take (A.length + B.length) (ints A ++ ints B) = ints A ++ ints B := List.take_of_length_le (by simp)
@[local simp] theorem take10b (A B : List Int) : List.take (A.length + B.length) ((ints A).append (ints B)) = (ints A).append (ints B) := List.take_of_length_le (by simp)
@[local simp] theorem take10c (A B : List Int) : List.take (A.length + B.length) (A.map intt ++ B.map intt) = A.map intt ++ B.map intt := List.take_of_length_le (by simp)
theorem DropST00_ev (os : List Obj) (y : Int) (h1 : os.length ≤ 1048576) (h2 : ∀ x ∈ os, x.links.length ≤ 1048576) (hg : goodHeap ⟨os, [y]⟩ = true) :
    Ev pr (.call 15 [vs (Hp.mk os [y]).ce, i64 0] []) (.val (.tup [vs (Hp.mk os []).ce, bl true]) []) := by
  have e := GoodHeapS_ev ⟨os, [y]⟩ h1 h2 (by simp)
  rw [hg] at e
  have c := l15Own_ev ⟨os, [y]⟩ h1 h2 (by simp)
  let t3 : Tp pr := .i (rfl : ((1 : Int) : Int) = (1 : Int))
  let t23 : Tp pr := .i (rfl : ((1 : Int) : Int) = (1 : Int))
  let t37 : Tp pr := .m (show (decide ((List.map Obj.cc (Hp.mk os [y]).objects).length = (Hp.mk os [y]).objects.length ∧ (0 : Nat) + (Hp.mk os [y]).objects.length ≤ (Hp.mk os [y]).objects.length)) = true by simp)
  let t38 : Tp pr := .n .rows (show (List.map (fun x => List.map C.fz x) (List.take (Hp.mk os [y]).objects.length (List.drop (0 : Nat) (List.map Obj.cc (Hp.mk os [y]).objects)))) = List.map Obj.ce os by simp)
  exact .tp [.a (e), .b (rfl : false = false), .b (rfl : false = false), t3, .b (rfl : false = false), .a (c), .m (rfl : true = true), .m (rfl : true = true), .m (rfl : true = true), .m (rfl : true = true), .m (rfl : true = true), .c (rfl : ((0 : Nat)) = _), .c (rfl : ((0 : Nat)) = _), .m (rfl : true = true), .m (rfl : true = true), .m (rfl : true = true), .b (rfl : true = true), .c (rfl : ((0 : Nat)) = _), .n .crows (rfl : ([]) = _), .m (rfl : true = true), .m (rfl : true = true), .m (rfl : true = true), .m (rfl : true = true), t23, .m (rfl : true = true), .m (rfl : true = true), .c (rfl : ((1 : Nat)) = _), .c (rfl : ((0 : Nat)) = _), .m (rfl : true = true), .m (rfl : true = true), .m (rfl : true = true), .b (rfl : true = true), .c (rfl : ((0 : Nat)) = _), .n .crows (rfl : ([]) = _), .m (rfl : true = true), .m (rfl : true = true), .m (rfl : true = true), t37, t38, .m (rfl : true = true), .n .rows (rfl : ([]) = _)] (by kernel_rfl)
@[local simp] theorem toNat10 (n : Nat) : ((n : Int) + 1 + 1).toNat = n + 2 := by omega
@[local simp] theorem take10d (B : List Int) : List.take (B.length + 1) (ints B) = ints B := List.take_of_length_le (by simp)
@[local simp] theorem take10e (y : Int) (B : List Int) : List.drop 1 (ints (y :: B)) = ints B := rfl
theorem DropST0_ev (os : List Obj) (B : List Int) (y b : Int) (h1 : os.length ≤ 1048576) (h2 : ∀ x ∈ os, x.links.length ≤ 1048576) (h3 : B.length ≤ 1000000) (hg : goodHeap ⟨os, y :: b :: B⟩ = true) :
    Ev pr (.call 15 [vs (Hp.mk os (y :: b :: B)).ce, i64 0] []) (.val (.tup [vs (Hp.mk os (b :: B)).ce, bl true]) []) := by
  have e := GoodHeapS_ev ⟨os, y :: b :: B⟩ h1 h2 (by simp; omega)
  rw [hg] at e
  have c := l15Own_ev ⟨os, y :: b :: B⟩ h1 h2 (by simp; omega)
  rw [show (Hp.mk os (b :: B)).ce = [.seq 2 (os.map Obj.ce), .seq 1 ((b :: B).map intt)] by simp [Hp.ce]]
  let t3 : Tp pr := .i (show ((↑(List.map intt (Hp.mk os (y :: b :: B)).roots).length : Int) : Int) = (↑B.length : Int) + (1 : Int) + (1 : Int) by simp)
  let t14 : Tp pr := .m (show (decide ((ints (Hp.mk os (y :: b :: B)).roots).length = (Hp.mk os (y :: b :: B)).roots.length ∧ (0 : Nat) ≤ (Hp.mk os (y :: b :: B)).roots.length)) = true by simp)
  let t23 : Tp pr := .i (rfl : ((1 : Int) : Int) = (1 : Int))
  let t25 : Tp pr := .m (show (decide ((0 : Int) ≤ (1 : Int) ∧ (1 : Int) ≤ (↑(Hp.mk os (y :: b :: B)).roots.length : Int) ∧ (0 : Nat) + (↑(Hp.mk os (y :: b :: B)).roots.length : Int).toNat ≤ (Hp.mk os (y :: b :: B)).roots.length)) = true by (simp; omega))
  let t27 : Tp pr := .c (show ((↑(Hp.mk os (y :: b :: B)).roots.length : Int).toNat - (1 : Nat) : Nat) = B.length + (1 : Nat) by simp)
  let t29 : Tp pr := .m (show (decide ((ints (Hp.mk os (y :: b :: B)).roots).length = (Hp.mk os (y :: b :: B)).roots.length ∧ (1 : Nat) + (B.length + (1 : Nat)) ≤ (Hp.mk os (y :: b :: B)).roots.length)) = true by (simp; omega))
  let t30 : Tp pr := .m (show (decide ((0 : Nat) = (0 : Nat) ∧ (0 : Nat) ≤ (0 : Nat) ∧ (0 : Nat) + (List.take (B.length + (1 : Nat)) (List.drop (1 : Nat) (ints (Hp.mk os (y :: b :: B)).roots))).length ≤ (4294967296 : Nat))) = true by (simp; omega))
  let t32 : Tp pr := .c (show ((0 : Nat) + (List.take (B.length + (1 : Nat)) (List.drop (1 : Nat) (ints (Hp.mk os (y :: b :: B)).roots))).length : Nat) = B.length + (1 : Nat) by simp)
  let t33 : Tp pr := .n .crows (show ([].append (List.take (B.length + (1 : Nat)) (List.drop (1 : Nat) (ints (Hp.mk os (y :: b :: B)).roots)))) = List.take (B.length + (1 : Nat)) (ints (y :: b :: B)).tail by simp)
  let t37 : Tp pr := .m (show (decide ((List.map Obj.cc (Hp.mk os (y :: b :: B)).objects).length = (Hp.mk os (y :: b :: B)).objects.length ∧ (0 : Nat) + (Hp.mk os (y :: b :: B)).objects.length ≤ (Hp.mk os (y :: b :: B)).objects.length)) = true by simp)
  let t38 : Tp pr := .n .rows (show (List.map (fun x => List.map C.fz x) (List.take (Hp.mk os (y :: b :: B)).objects.length (List.drop (0 : Nat) (List.map Obj.cc (Hp.mk os (y :: b :: B)).objects)))) = List.map Obj.ce os by simp)
  let t39 : Tp pr := .m (show (decide ((List.take (B.length + (1 : Nat)) (ints (y :: b :: B)).tail).length = B.length + (1 : Nat) ∧ (0 : Nat) + (B.length + (1 : Nat)) ≤ B.length + (1 : Nat))) = true by simp)
  let t40 : Tp pr := .n .rows (show (List.map (fun x => List.map C.fz x) (List.take (B.length + (1 : Nat)) (List.drop (0 : Nat) (List.take (B.length + (1 : Nat)) (ints (y :: b :: B)).tail)))) = intt b :: List.map intt B by simp)
  exact .tp [.a (e), .b (rfl : false = false), .b (rfl : false = false), t3, .b (rfl : false = false), .a (c), .m (rfl : true = true), .m (rfl : true = true), .m (rfl : true = true), .m (rfl : true = true), .m (rfl : true = true), .c (rfl : ((0 : Nat)) = _), .c (rfl : ((0 : Nat)) = _), .m (rfl : true = true), t14, .m (rfl : true = true), .b (rfl : true = true), .c (rfl : ((0 : Nat)) = _), .n .crows (rfl : ([]) = _), .m (rfl : true = true), .m (rfl : true = true), .m (rfl : true = true), .m (rfl : true = true), t23, .m (rfl : true = true), t25, .c (rfl : ((1 : Nat)) = _), t27, .m (rfl : true = true), t29, t30, .b (rfl : false = false), t32, t33, .m (rfl : true = true), .m (rfl : true = true), .m (rfl : true = true), t37, t38, t39, t40] (by kernel_rfl)
theorem DropST1_ev (os : List Obj) (A : List Int) (y : Int) (h0 : 0 < A.length) (h1 : os.length ≤ 1048576) (h2 : ∀ x ∈ os, x.links.length ≤ 1048576) (h3 : A.length ≤ 1000000) (hg : goodHeap ⟨os, A ++ [y]⟩ = true) :
    Ev pr (.call 15 [vs (Hp.mk os (A ++ [y])).ce, i64 A.length] []) (.val (.tup [vs (Hp.mk os A).ce, bl true]) []) := by
  have e := GoodHeapS_ev ⟨os, A ++ [y]⟩ h1 h2 (by simp; omega)
  rw [hg] at e
  have c := l15Own_ev ⟨os, A ++ [y]⟩ h1 h2 (by simp; omega)
  have hlen : ((A ++ [y]).length : Int) = A.length + 1 := by simp
  have hlen2 : (A ++ [y]).length = A.length + 1 := by simp
  rw [show (Hp.mk os A).ce = [.seq 2 (os.map Obj.ce), .seq 1 (A.map intt)] by simp [Hp.ce]]
  have hd := drop9 A [] y
  have ht : List.take 0 (ints []) = [] := rfl
  let t3 : Tp pr := .i (show ((↑(List.map intt (Hp.mk os (A ++ [y])).roots).length : Int) : Int) = (↑A.length : Int) + (1 : Int) by simp)
  let t4 : Tp pr := .b (show (decide ((↑A.length : Int) ≥ (↑A.length : Int) + (1 : Int))) = false by (simp; omega))
  let t10 : Tp pr := .m (show (decide ((0 : Int) ≤ (0 : Int) ∧ (0 : Int) ≤ (↑A.length : Int) ∧ (0 : Nat) + (↑A.length : Int).toNat ≤ (Hp.mk os (A ++ [y])).roots.length)) = true by simp)
  let t12 : Tp pr := .c (show ((↑A.length : Int).toNat - (0 : Nat) : Nat) = A.length by omega)
  let t14 : Tp pr := .m (show (decide ((ints (Hp.mk os (A ++ [y])).roots).length = (Hp.mk os (A ++ [y])).roots.length ∧ (0 : Nat) + A.length ≤ (Hp.mk os (A ++ [y])).roots.length)) = true by simp)
  let t15 : Tp pr := .m (show (decide ((0 : Nat) = (0 : Nat) ∧ (0 : Nat) ≤ (0 : Nat) ∧ (0 : Nat) + (List.take A.length (List.drop (0 : Nat) (ints (Hp.mk os (A ++ [y])).roots))).length ≤ (4294967296 : Nat))) = true by (simp; omega))
  by_cases hc16 : A = []
  · let t16 : Tp pr := .b (show (decide ((0 : Nat) + (List.take A.length (List.drop (0 : Nat) (ints (Hp.mk os (A ++ [y])).roots))).length ≤ (0 : Nat))) = true by simpa using hc16)
    let t17 : Tp pr := .c (show ((0 : Nat) + (List.take A.length (List.drop (0 : Nat) (ints (Hp.mk os (A ++ [y])).roots))).length : Nat) = A.length by simp)
    let t18 : Tp pr := .n .crows (show (([].append (List.take A.length (List.drop (0 : Nat) (ints (Hp.mk os (A ++ [y])).roots)))).append (List.drop ((0 : Nat) + (List.take A.length (List.drop (0 : Nat) (ints (Hp.mk os (A ++ [y])).roots))).length) [])) = ints A by simp)
    let t23 : Tp pr := .i (wrap_i64 (a := (↑A.length : Int) + (1 : Int)) (by omega) (by omega))
    let t25 : Tp pr := .m (show (decide ((0 : Int) ≤ (↑A.length : Int) + (1 : Int) ∧ (↑A.length : Int) + (1 : Int) ≤ (↑(Hp.mk os (A ++ [y])).roots.length : Int) ∧ (0 : Nat) + (↑(Hp.mk os (A ++ [y])).roots.length : Int).toNat ≤ (Hp.mk os (A ++ [y])).roots.length)) = true by simp [*])
    let t26 : Tp pr := .c (show ((0 : Nat) + ((↑A.length : Int) + (1 : Int)).toNat : Nat) = A.length + (1 : Nat) by omega)
    let t27 : Tp pr := .c (show ((↑(Hp.mk os (A ++ [y])).roots.length : Int).toNat - ((↑A.length : Int) + (1 : Int)).toNat : Nat) = (0 : Nat) by simp)
    let t29 : Tp pr := .m (show (decide ((ints (Hp.mk os (A ++ [y])).roots).length = (Hp.mk os (A ++ [y])).roots.length ∧ A.length + (1 : Nat) + (0 : Nat) ≤ (Hp.mk os (A ++ [y])).roots.length)) = true by simp)
    let t30 : Tp pr := .m (show (decide ((ints A).length = (0 : Nat) ∧ (0 : Nat) + A.length ≤ (0 : Nat) ∧ A.length + (0 : Nat) ≤ (4294967296 : Nat))) = true by simp [*])
    let t31 : Tp pr := .b (show (decide (A.length + (0 : Nat) ≤ (0 : Nat))) = true by (simp; omega))
    let t32 : Tp pr := .c (show (A.length + (0 : Nat) : Nat) = A.length by omega)
    let t33 : Tp pr := .n .crows (show (((List.take A.length (ints A)).append []).append (List.drop (A.length + (0 : Nat)) (ints A))) = ints A ++ List.drop A.length (ints A) by simp)
    let t37 : Tp pr := .m (show (decide ((List.map Obj.cc (Hp.mk os (A ++ [y])).objects).length = (Hp.mk os (A ++ [y])).objects.length ∧ (0 : Nat) + (Hp.mk os (A ++ [y])).objects.length ≤ (Hp.mk os (A ++ [y])).objects.length)) = true by simp)
    let t38 : Tp pr := .n .rows (show (List.map (fun x => List.map C.fz x) (List.take (Hp.mk os (A ++ [y])).objects.length (List.drop (0 : Nat) (List.map Obj.cc (Hp.mk os (A ++ [y])).objects)))) = List.map Obj.ce os by simp)
    let t39 : Tp pr := .m (show (decide (((ints A).append (List.drop A.length (ints A))).length = (0 : Nat) ∧ (0 : Nat) + A.length ≤ (0 : Nat))) = true by simp [*])
    let t40 : Tp pr := .n .rows (show (List.map (fun x => List.map C.fz x) (List.take A.length (List.drop (0 : Nat) ((ints A).append (List.drop A.length (ints A)))))) = List.map intt A by simp)
    exact .tp [.a (e), .b (rfl : false = false), .b (rfl : false = false), t3, t4, .a (c), .m (rfl : true = true), .m (rfl : true = true), .m (rfl : true = true), .m (rfl : true = true), t10, .c (rfl : ((0 : Nat)) = _), t12, .m (rfl : true = true), t14, t15, t16, t17, t18, .m (rfl : true = true), .m (rfl : true = true), .m (rfl : true = true), .m (rfl : true = true), t23, .m (rfl : true = true), t25, t26, t27, .m (rfl : true = true), t29, t30, t31, t32, t33, .m (rfl : true = true), .m (rfl : true = true), .m (rfl : true = true), t37, t38, t39, t40] (by kernel_rfl)
  · let t16 : Tp pr := .b (show (decide ((0 : Nat) + (List.take A.length (List.drop (0 : Nat) (ints (Hp.mk os (A ++ [y])).roots))).length ≤ (0 : Nat))) = false by simpa using hc16)
    let t17 : Tp pr := .c (show ((0 : Nat) + (List.take A.length (List.drop (0 : Nat) (ints (Hp.mk os (A ++ [y])).roots))).length : Nat) = A.length by simp)
    let t18 : Tp pr := .n .crows (show ([].append (List.take A.length (List.drop (0 : Nat) (ints (Hp.mk os (A ++ [y])).roots)))) = ints A by simp)
    let t23 : Tp pr := .i (wrap_i64 (a := (↑A.length : Int) + (1 : Int)) (by omega) (by omega))
    let t25 : Tp pr := .m (show (decide ((0 : Int) ≤ (↑A.length : Int) + (1 : Int) ∧ (↑A.length : Int) + (1 : Int) ≤ (↑(Hp.mk os (A ++ [y])).roots.length : Int) ∧ (0 : Nat) + (↑(Hp.mk os (A ++ [y])).roots.length : Int).toNat ≤ (Hp.mk os (A ++ [y])).roots.length)) = true by (simp; omega))
    let t26 : Tp pr := .c (show ((0 : Nat) + ((↑A.length : Int) + (1 : Int)).toNat : Nat) = A.length + (1 : Nat) by omega)
    let t27 : Tp pr := .c (show ((↑(Hp.mk os (A ++ [y])).roots.length : Int).toNat - ((↑A.length : Int) + (1 : Int)).toNat : Nat) = (0 : Nat) by simp)
    let t29 : Tp pr := .m (show (decide ((ints (Hp.mk os (A ++ [y])).roots).length = (Hp.mk os (A ++ [y])).roots.length ∧ A.length + (1 : Nat) + (0 : Nat) ≤ (Hp.mk os (A ++ [y])).roots.length)) = true by simp)
    let t30 : Tp pr := .m (show (decide ((ints A).length = A.length ∧ (0 : Nat) + A.length ≤ A.length ∧ A.length + (0 : Nat) ≤ (4294967296 : Nat))) = true by (simp; omega))
    let t31 : Tp pr := .b (show (decide (A.length + (0 : Nat) ≤ A.length)) = true by simp)
    let t32 : Tp pr := .c (show (A.length + (0 : Nat) : Nat) = A.length by omega)
    let t33 : Tp pr := .n .crows (show (((List.take A.length (ints A)).append []).append (List.drop (A.length + (0 : Nat)) (ints A))) = ints A ++ List.drop A.length (ints A) by simp)
    let t37 : Tp pr := .m (show (decide ((List.map Obj.cc (Hp.mk os (A ++ [y])).objects).length = (Hp.mk os (A ++ [y])).objects.length ∧ (0 : Nat) + (Hp.mk os (A ++ [y])).objects.length ≤ (Hp.mk os (A ++ [y])).objects.length)) = true by simp)
    let t38 : Tp pr := .n .rows (show (List.map (fun x => List.map C.fz x) (List.take (Hp.mk os (A ++ [y])).objects.length (List.drop (0 : Nat) (List.map Obj.cc (Hp.mk os (A ++ [y])).objects)))) = List.map Obj.ce os by simp)
    let t39 : Tp pr := .m (show (decide (((ints A).append (List.drop A.length (ints A))).length = A.length ∧ (0 : Nat) + A.length ≤ A.length)) = true by simp)
    let t40 : Tp pr := .n .rows (show (List.map (fun x => List.map C.fz x) (List.take A.length (List.drop (0 : Nat) ((ints A).append (List.drop A.length (ints A)))))) = List.map intt A by simp)
    exact .tp [.a (e), .b (rfl : false = false), .b (rfl : false = false), t3, t4, .a (c), .m (rfl : true = true), .m (rfl : true = true), .m (rfl : true = true), .m (rfl : true = true), t10, .c (rfl : ((0 : Nat)) = _), t12, .m (rfl : true = true), t14, t15, t16, t17, t18, .m (rfl : true = true), .m (rfl : true = true), .m (rfl : true = true), .m (rfl : true = true), t23, .m (rfl : true = true), t25, t26, t27, .m (rfl : true = true), t29, t30, t31, t32, t33, .m (rfl : true = true), .m (rfl : true = true), .m (rfl : true = true), t37, t38, t39, t40] (by kernel_rfl)
theorem DropST2_ev (os : List Obj) (A B : List Int) (y : Int) (h0 : 0 < A.length) (h0b : 0 < B.length) (h1 : os.length ≤ 1048576) (h2 : ∀ x ∈ os, x.links.length ≤ 1048576) (h3 : (A ++ y :: B).length ≤ 1000000) (hg : goodHeap ⟨os, A ++ y :: B⟩ = true) :
    Ev pr (.call 15 [vs (Hp.mk os (A ++ y :: B)).ce, i64 A.length] []) (.val (.tup [vs (Hp.mk os (A ++ B)).ce, bl true]) []) := by
  have h3' : (A ++ y :: B).length ≤ 1048576 := by omega
  have e := GoodHeapS_ev ⟨os, A ++ y :: B⟩ h1 h2 h3'
  rw [hg] at e
  have hlen : ((A ++ y :: B).length : Int) = A.length + 1 + B.length := by simp; omega
  have hlen2 : (A ++ y :: B).length = A.length + 1 + B.length := by simp; omega
  have c := l15Own_ev ⟨os, A ++ y :: B⟩ h1 h2 h3'
  dsimp only at c
  have q1 : A ≠ [] := by intro h; simp [h] at h0
  have q2 : B ≠ [] := by intro h; simp [h] at h0b
  rw [show (Hp.mk os (A ++ B)).ce = [.seq 2 (os.map Obj.ce), .seq 1 (A.map intt ++ B.map intt)] by simp [Hp.ce]]
  let t3 : Tp pr := .i (show ((↑(List.map intt (Hp.mk os (A ++ y :: B)).roots).length : Int) : Int) = (↑A.length : Int) + ((↑B.length : Int) + (1 : Int)) by simp)
  let t4 : Tp pr := .b (show (decide ((↑A.length : Int) ≥ (↑A.length : Int) + ((↑B.length : Int) + (1 : Int)))) = false by (simp; omega))
  let t10 : Tp pr := .m (show (decide ((0 : Int) ≤ (0 : Int) ∧ (0 : Int) ≤ (↑A.length : Int) ∧ (0 : Nat) + (↑A.length : Int).toNat ≤ (A ++ y :: B).length)) = true by simp)
  let t12 : Tp pr := .c (show ((↑A.length : Int).toNat - (0 : Nat) : Nat) = A.length by omega)
  let t14 : Tp pr := .m (show (decide ((ints (A ++ y :: B)).length = (A ++ y :: B).length ∧ (0 : Nat) + A.length ≤ (A ++ y :: B).length)) = true by simp)
  let t15 : Tp pr := .m (show (decide ((0 : Nat) = (0 : Nat) ∧ (0 : Nat) ≤ (0 : Nat) ∧ (0 : Nat) + (List.take A.length (List.drop (0 : Nat) (ints (A ++ y :: B)))).length ≤ (4294967296 : Nat))) = true by (simp; omega))
  let t16 : Tp pr := .b (show (decide ((0 : Nat) + (List.take A.length (List.drop (0 : Nat) (ints (A ++ y :: B)))).length ≤ (0 : Nat))) = false by (simp; omega))
  let t17 : Tp pr := .c (show ((0 : Nat) + (List.take A.length (List.drop (0 : Nat) (ints (A ++ y :: B)))).length : Nat) = A.length by simp)
  let t18 : Tp pr := .n .crows (show ([].append (List.take A.length (List.drop (0 : Nat) (ints (A ++ y :: B))))) = ints A by simp)
  let t23 : Tp pr := .i (wrap_i64 (a := (↑A.length : Int) + (1 : Int)) (by omega) (by omega))
  let t25 : Tp pr := .m (show (decide ((0 : Int) ≤ (↑A.length : Int) + (1 : Int) ∧ (↑A.length : Int) + (1 : Int) ≤ (↑(A ++ y :: B).length : Int) ∧ (0 : Nat) + (↑(A ++ y :: B).length : Int).toNat ≤ (A ++ y :: B).length)) = true by (simp; omega))
  let t26 : Tp pr := .c (show ((0 : Nat) + ((↑A.length : Int) + (1 : Int)).toNat : Nat) = A.length + (1 : Nat) by omega)
  let t27 : Tp pr := .c (show ((↑(A ++ y :: B).length : Int).toNat - ((↑A.length : Int) + (1 : Int)).toNat : Nat) = B.length by omega)
  let t29 : Tp pr := .m (show (decide ((ints (A ++ y :: B)).length = (A ++ y :: B).length ∧ A.length + (1 : Nat) + B.length ≤ (A ++ y :: B).length)) = true by simp [*])
  let t30 : Tp pr := .m (show (decide ((ints A).length = A.length ∧ (0 : Nat) + A.length ≤ A.length ∧ A.length + (List.take B.length (List.drop (A.length + (1 : Nat)) (ints (A ++ y :: B)))).length ≤ (4294967296 : Nat))) = true by (simp; omega))
  let t31 : Tp pr := .b (show (decide (A.length + (List.take B.length (List.drop (A.length + (1 : Nat)) (ints (A ++ y :: B)))).length ≤ A.length)) = false by (simp; omega))
  let t32 : Tp pr := .c (show (A.length + (List.take B.length (List.drop (A.length + (1 : Nat)) (ints (A ++ y :: B)))).length : Nat) = A.length + B.length by simp)
  let t33 : Tp pr := .n .crows (show ((List.take A.length (ints A)).append (List.take B.length (List.drop (A.length + (1 : Nat)) (ints (A ++ y :: B))))) = ints A ++ ints B by simp)
  let t37 : Tp pr := .m (show (decide ((List.map Obj.cc os).length = os.length ∧ (0 : Nat) + os.length ≤ os.length)) = true by simp)
  let t38 : Tp pr := .n .rows (show (List.map (fun x => List.map C.fz x) (List.take os.length (List.drop (0 : Nat) (List.map Obj.cc os)))) = List.map Obj.ce os by simp)
  let t39 : Tp pr := .m (show (decide (((ints A).append (ints B)).length = A.length + B.length ∧ (0 : Nat) + (A.length + B.length) ≤ A.length + B.length)) = true by simp)
  let t40 : Tp pr := .n .rows (show (List.map (fun x => List.map C.fz x) (List.take (A.length + B.length) (List.drop (0 : Nat) ((ints A).append (ints B))))) = List.map intt A ++ List.map intt B by simp)
  exact .tp [.a (e), .b (rfl : false = false), .b (rfl : false = false), t3, t4, .a (c), .m (rfl : true = true), .m (rfl : true = true), .m (rfl : true = true), .m (rfl : true = true), t10, .c (rfl : ((0 : Nat)) = _), t12, .m (rfl : true = true), t14, t15, t16, t17, t18, .m (rfl : true = true), .m (rfl : true = true), .m (rfl : true = true), .m (rfl : true = true), t23, .m (rfl : true = true), t25, t26, t27, .m (rfl : true = true), t29, t30, t31, t32, t33, .m (rfl : true = true), .m (rfl : true = true), .m (rfl : true = true), t37, t38, t39, t40] (by kernel_rfl)
theorem DropST_ev (os : List Obj) (A B : List Int) (y : Int) (h1 : os.length ≤ 1048576) (h2 : ∀ x ∈ os, x.links.length ≤ 1048576) (h3 : (A ++ y :: B).length ≤ 1000000) (hg : goodHeap ⟨os, A ++ y :: B⟩ = true) :
    Ev pr (.call 15 [vs (Hp.mk os (A ++ y :: B)).ce, i64 A.length] []) (.val (.tup [vs (Hp.mk os (A ++ B)).ce, bl true]) []) := by
  cases A with
  | nil =>
    cases B with
    | nil => exact DropST00_ev os y h1 h2 hg
    | cons b B => exact DropST0_ev os B y b h1 h2 (by simp at h3; omega) hg
  | cons a A =>
    cases B with
    | nil => rw [List.append_nil]; exact DropST1_ev os (a :: A) y (by simp) h1 h2 (by simp at h3 ⊢; omega) hg
    | cons b B => exact DropST2_ev os (a :: A) (b :: B) y (by simp) (by simp) h1 h2 h3 hg
end Go.Ev

/- The law: the program's DropRoot returns what the reference's returns. -/
namespace Go.Ev
set_option linter.unusedVariables false
set_option linter.unusedSimpArgs false
open Go.Proofs
set_option maxRecDepth 100000
set_option linter.unusedVariables false
set_option maxHeartbeats 4000000
attribute [local simp] obcc_take3 ints_take3 obcc_flat3 ints_flat3 markI_len
@[local simp] theorem markI_take (k : Int) (n : Nat) : List.take n (List.map intt (markI k n)) = List.map intt (markI k n) := List.take_of_length_le (by simp [markI_len])
@[local simp] theorem markO_take (k : Int) (l : List Obj) : List.take l.length (List.map Obj.cc (markedO k l)) = List.map Obj.cc (markedO k l) := List.take_of_length_le (by simp)
def Obj.wf (o : Obj) : Prop := (Lit.int .i64 o.mark).wf = true ∧ (o.links.length ≤ 9223372036854775807 ∧ ∀ x ∈ o.links, (Lit.int .i64 x).wf = true)
def Hp.wf (h : Hp) : Prop := (h.objects.length ≤ 9223372036854775807 ∧ ∀ x ∈ h.objects, x.wf) ∧ (h.roots.length ≤ 9223372036854775807 ∧ ∀ x ∈ h.roots, (Lit.int .i64 x).wf = true)
theorem marksO_le : ∀ l : List Obj, (∀ x ∈ l, x.links.length ≤ 4) → marksO l ≤ 5 * l.length
  | [], h => by simp [marksO]
  | x :: l, h => by
    have h1 := marksO_le l fun y hy => h y (by simp [hy])
    have h2 := h x (by simp)
    simp only [marksO, List.length_cons]
    omega
theorem split_at {α : Type} (l : List α) (o : Int) (h0 : 0 ≤ o) (h1 : o < l.length) : ∃ P x Q, l = P ++ x :: Q ∧ o = P.length := by
  have hn : o.toNat < l.length := by omega
  refine ⟨l.take o.toNat, l[o.toNat], l.drop (o.toNat + 1), ?_, by simp; omega⟩
  rw [← List.drop_eq_getElem_cons hn, List.take_append_drop]
theorem markIntZL_ev (z : Int) (N : Nat) : ∀ (rest m : List Int) (k : Int), N = m.length + rest.length → 0 ≤ k → k + rest.length ≤ 9000000 → m.length + rest.length ≤ 1048576 →
    Ev pr (.loop (lq pr 27 0) (at_ [(0, .vec 0 (N + 1) 1 0 N), (1, i64 k), (5, i64 m.length)] [.vec true 1 (ints (m ++ rest ++ [z]))] 1))
      (.exit 0 (at_ [(1, i64 (k + rest.length))] [.vec true 1 (ints (m ++ markI k rest.length ++ [z]))] 1))
  | [], m, k, hN, h0, h1, h2 => by
    have hN2 : N = m.length := by simpa using hN
    let t1 : Tp pr := .b (show (decide ((↑m.length : Int) < (↑N : Int))) = false by (simp; omega))
    exact .tpe [.i (rfl : ((↑N : Int)) = _), t1] (Out.exit (0 : Nat) (at_ [((1 : Nat), V.t (T.int IntKind.i64 k))] [Ob.vec true (1 : Nat) (ints (m ++ [] ++ [z]))] (1 : Nat))) (by kernel_rfl) ((congrArg (fun x => Out.exit (0 : Nat) (at_ [((1 : Nat), V.t (T.int IntKind.i64 x))] [Ob.vec true (1 : Nat) (ints (m ++ [] ++ [z]))] (1 : Nat))) (show (k) = (k + (0 : Int)) by simp [markI])).trans (congrArg (fun x => Out.exit (0 : Nat) (at_ [((1 : Nat), V.t (T.int IntKind.i64 (k + (0 : Int))))] [Ob.vec true (1 : Nat) x] (1 : Nat))) (show (ints (m ++ [] ++ [z])) = (ints (m ++ markI k (0 : Nat) ++ [z])) by simp [markI])))
  | x :: rest, m, k, hN, h0, h1, h2 => by
    simp at h1 h2 hN
    have ih := markIntZL_ev z N rest (m ++ [k]) (k + 1) (by simp; omega) (by omega) (by omega) (by simp; omega)
    rw [List.append_assoc] at ih ⊢
    rw [show m ++ [k] ++ (rest ++ [z]) = m ++ k :: (rest ++ [z]) by simp] at ih
    rw [show m ++ (x :: rest ++ [z]) = m ++ x :: (rest ++ [z]) by simp]
    let t1 : Tp pr := .b (show (decide ((↑m.length : Int) < (↑N : Int))) = true by (simp; omega))
    let t2 : Tp pr := .m (show (decide ((0 : Int) ≤ (↑m.length : Int) ∧ (↑m.length : Int).toNat < N)) = true by simp [*])
    let t3 : Tp pr := .c (show ((0 : Nat) + (↑m.length : Int).toNat : Nat) = m.length by omega)
    let t4 : Tp pr := .m (show (decide ((ints (m ++ x :: (rest ++ [z]))).length = N + (1 : Nat))) = true by (simp; omega))
    let t5 : Tp pr := .g .crow (show ((ints (m ++ x :: (rest ++ [z])))[m.length]?) = some ([C.t (T.int IntKind.i64 x)]) by simp)
    let t6 : Tp pr := .n .crows (show ((ints (m ++ x :: (rest ++ [z]))).set m.length [C.t (T.int IntKind.i64 k)]) = ints (m ++ k :: (rest ++ [z])) by simp)
    let t7 : Tp pr := .i (wrap_i64 (a := k + (1 : Int)) (by omega) (by omega))
    let t8 : Tp pr := .i (wrap_i64 (a := (↑m.length : Int) + (1 : Int)) (by omega) (by omega))
    let t9 : Tp pr := .a (Ev.castq (congrArg (fun x => Q.loop (lq pr (27 : FuncId) (0 : Nat)) (at_ [((0 : Nat), V.vec (0 : Nat) (N + (1 : Nat)) (1 : Nat) (0 : Nat) N), ((1 : Nat), i64 (k + (1 : Int))), ((5 : Nat), i64 x)] [Ob.vec true (1 : Nat) (ints (m ++ k :: (rest ++ [z])))] (1 : Nat))) (show ((↑(m ++ [k]).length : Int)) = ((↑m.length : Int) + (1 : Int)) by (simp [markI] <;> omega))) (ih))
    exact .tpe [.i (rfl : ((↑N : Int)) = _), t1, t2, t3, t4, t5, t6, t7, t8, t9] (Out.exit (0 : Nat) (at_ [((1 : Nat), V.t (T.int IntKind.i64 (k + (1 : Int) + (↑rest.length : Int))))] [Ob.vec true (1 : Nat) (ints (m ++ [k] ++ markI (k + (1 : Int)) rest.length ++ [z]))] (1 : Nat))) (by kernel_rfl) ((congrArg (fun x => Out.exit (0 : Nat) (at_ [((1 : Nat), V.t (T.int IntKind.i64 x))] [Ob.vec true (1 : Nat) (ints (m ++ [k] ++ markI (k + (1 : Int)) rest.length ++ [z]))] (1 : Nat))) (show (k + (1 : Int) + (↑rest.length : Int)) = (k + (↑(x :: rest).length : Int)) by (simp [markI] <;> omega))).trans (congrArg (fun x_1 => Out.exit (0 : Nat) (at_ [((1 : Nat), V.t (T.int IntKind.i64 (k + (↑(x :: rest).length : Int))))] [Ob.vec true (1 : Nat) x_1] (1 : Nat))) (show (ints (m ++ [k] ++ markI (k + (1 : Int)) rest.length ++ [z])) = (ints (m ++ markI k (x :: rest).length ++ [z])) by (simp [markI] <;> omega))))
theorem markIntZ_ev (l : List Int) (z k : Int) (h0 : 0 ≤ k) (h : k + l.length ≤ 9000000) (h2 : l.length ≤ 1048576) : Ev pr (.call 27 [.vec 0 (l.length + 1) 1 0 l.length, i64 k] [.vec true 1 (ints (l ++ [z]))]) (.val (i64 (k + l.length)) [.vec true 1 (ints (markI k l.length ++ [z]))]) := by
  have := markIntZL_ev z l.length l [] k (by simp) h0 h (by simpa using h2)
  exact .tp [.a (this)] (by kernel_rfl)
theorem markHeapZ_ev (h : Hp) (fl : Bool) (z : Int) (g1 : h.objects.length ≤ 1048576) (g2 : ∀ x ∈ h.objects, x.links.length ≤ 1048576) (g3 : h.roots.length ≤ 1048576) (k : Int) (h0 : 0 ≤ k) (h1 : k ≤ 10) (hm : marksO h.objects ≤ 1048576) :
    Ev pr (.call 19 [.agg [.vec 0 h.objects.length 2 0 h.objects.length, .vec 1 (h.roots.length + 1) 1 0 h.roots.length], i64 k] [.vec fl 2 (h.objects.map Obj.cc), .vec true 1 (ints (h.roots ++ [z]))])
      (.val (i64 (k + marksO h.objects + h.roots.length)) [.vec fl 2 ((markedO k h.objects).map Obj.cc), .vec true 1 (ints (markI (k + marksO h.objects) h.roots.length ++ [z]))]) := by
  have hmn := marksO_nonneg h.objects
  have e1 := markObjectS_ev h.objects fl g1 g2 k h0 (by omega)
  have e2 := markIntZ_ev h.roots z (k + marksO h.objects) (by omega) (by omega) g3
  exact .tp [.a (e1), .a (e2)] (by kernel_rfl)
theorem drop_cases (h : Hp) (k : Int) (h1 : h.objects.length ≤ 1048576) (h2 : ∀ x ∈ h.objects, x.links.length ≤ 1048576) (h3 : h.roots.length ≤ 1048576) :
    (∃ g : Hp, (g.objects.length ≤ 40 ∧ (∀ x ∈ g.objects, x.links.length ≤ 4) ∧ g.roots.length ≤ 10) ∧ Ev pr (.call 15 [vs h.ce, i64 k] []) (.val (.tup [vs g.ce, bl true]) []) ∧
      Ev pr (.call 17 [vs h.ce, i64 k] []) (.val (.tup [.agg [.vec 0 g.objects.length 2 0 g.objects.length, .vec 1 (g.roots.length + 1) 1 0 g.roots.length], bl true]) [.vec g.objects.isEmpty 2 (g.objects.map Obj.cc), .vec true 1 (ints (g.roots ++ [0]))])) ∨
    (Ev pr (.call 15 [vs h.ce, i64 k] []) (.val (.tup [vs (Hp.mk [] []).ce, bl false]) []) ∧
      Ev pr (.call 17 [vs h.ce, i64 k] []) (.val (.tup [.agg [.t .nils, .t .nils], bl false]) [])) := by
  by_cases hg : goodHeap h = true
  · by_cases ho : 0 ≤ k ∧ k < h.roots.length
    · obtain ⟨A, y, B, he, rfl⟩ := split_at h.roots k ho.1 ho.2
      have gd := goodHeap_ok hg
      have n1 := gd.objs
      have n3 := gd.rlen
      have n2 := gd.llen
      obtain ⟨os, rs⟩ := h
      dsimp only at he h1 h2 h3 n1 n2 n3
      subst he
      have hlen : (A ++ y :: B).length = (A ++ B).length + 1 := by simp; omega
      have i := DropIT_ev os A B y h1 h2 (by omega) hg
      rw [hlen] at i
      exact .inl ⟨⟨os, A ++ B⟩, ⟨n1, n2, by dsimp only; omega⟩, DropST_ev os A B y h1 h2 (by omega) hg, i⟩
    · exact .inr ⟨DropSB_ev h k h1 h2 h3 hg ho, DropIB_ev h k h1 h2 h3 hg ho⟩
  · have hg : goodHeap h = false := by simpa using hg
    exact .inr ⟨DropSA_ev h k h1 h2 h3 hg, DropIA_ev h k h1 h2 h3 hg⟩
@[local simp] theorem takeZ (l : List Int) (w : List C) : List.take l.length (ints l ++ [w]) = ints l := List.take_left' (by simp)
@[local simp] theorem intsZ (l : List Int) (z : Int) : ints (l ++ [z]) = ints l ++ [[C.t (.int .i64 z)]] := by simp [ints, intc]
@[local simp] theorem flatZ (fl : Bool) (l : List Int) (z : Int) : Ob.flat (.vec fl 1 (ints l ++ [[C.t (.int .i64 z)]])) = true := by rw [← intsZ]; exact ints_flat3 _ _
@[local simp] theorem takeZ2 (l : List Int) (w : List T) : List.take l.length (l.map intt ++ [w]) = l.map intt := List.take_left' (by simp)
@[local simp] theorem takeZ3 (k : Int) (n : Nat) (w : List T) : List.take n ((markI k n).map intt ++ [w]) = (markI k n).map intt := List.take_left' (by simp)
@[local simp] theorem takeZ4 (k : Int) (n : Nat) (w : List C) : List.take n (ints (markI k n) ++ [w]) = ints (markI k n) := List.take_left' (by simp)
theorem law0_ev (h : Hp) (k : Int) (hl : h.objects.length ≤ 9223372036854775807) (hs : ∀ x ∈ h.objects, x.links.length ≤ 9223372036854775807) (hr : h.roots.length ≤ 9223372036854775807) :
    Ev pr (.call 4 [vs h.ce, i64 k] []) (.val (bl true) []) := by
  have h0 := szHeap_ev h 1048576 (by omega) (by omega) hl hs hr
  have e0 : (if szO h.objects 1048576 < 0 then -1 else if szI h.roots (szO h.objects 1048576) < 0 then -1 else szI h.roots (szO h.objects 1048576)) = szH h 1048576 := by
    unfold szH
    split
    · rfl
    · split
      · unfold szI at *; grind
      · rfl
  rw [e0] at h0
  by_cases hz : szH h 1048576 < 0
  · let t1 : Tp pr := .b (show (decide (szH h (1048576 : Int) < (0 : Int))) = true by (simp; omega))
    exact .tp [.a (h0), t1] (by kernel_rfl)
  · obtain ⟨k1, k2, k3, k4⟩ := szH_all hz
    have th := toHeap_ev h k1 k2 k3
    have e1 := eqHeap_ev h k1 k2 k3
    have hm := marksO_nonneg h.objects
    have m1 := markHeap_ev h h.objects.isEmpty k1 k2 k3 1 (by omega) (by omega) k4
    rcases drop_cases h k k1 k2 k3 with ⟨g, ⟨n1, n2, n3⟩, s1, i1⟩ | ⟨s1, i1⟩
    · have n4 := marksO_le g.objects n2
      have n5 := marksO_nonneg g.objects
      have n6 : ∀ x ∈ g.objects, x.links.length ≤ 1048576 := fun x hx => by have := n2 x hx; omega
      have f1 := eqHeap_ev g (by omega) n6 (by omega)
      have f2 := markHeapZ_ev g g.objects.isEmpty 0 (by omega) n6 (by omega) 1 (by omega) (by omega) (by omega)
      have f3 := heldHeap_ev g 1 (by omega) (by omega) (by omega) n6 (by omega) (by omega)
      unfold markedH at f3
      let t1 : Tp pr := .b (show (decide (szH h (1048576 : Int) < (0 : Int))) = false by (simp; omega))
      let t3 : Tp pr := .m (show (decide ((List.map Obj.cc h.objects).length = h.objects.length ∧ (0 : Nat) + h.objects.length ≤ h.objects.length)) = true by simp)
      let t4 : Tp pr := .n .rows (show (List.map (fun x => List.map C.fz x) (List.take h.objects.length (List.drop (0 : Nat) (List.map Obj.cc h.objects)))) = List.map Obj.ce h.objects by simp)
      let t5 : Tp pr := .m (show (decide ((ints h.roots).length = h.roots.length ∧ (0 : Nat) + h.roots.length ≤ h.roots.length)) = true by simp)
      let t6 : Tp pr := .n .rows (show (List.map (fun x => List.map C.fz x) (List.take h.roots.length (List.drop (0 : Nat) (ints h.roots)))) = List.map intt h.roots by simp)
      let t9 : Tp pr := .m (show (decide ((List.map Obj.cc h.objects).length = h.objects.length ∧ (0 : Nat) + h.objects.length ≤ h.objects.length)) = true by simp)
      let t10 : Tp pr := .n .rows (show (List.map (fun x => List.map C.fz x) (List.take h.objects.length (List.drop (0 : Nat) (List.map Obj.cc h.objects)))) = List.map Obj.ce h.objects by simp)
      let t11 : Tp pr := .m (show (decide ((ints h.roots).length = h.roots.length ∧ (0 : Nat) + h.roots.length ≤ h.roots.length)) = true by simp)
      let t12 : Tp pr := .n .rows (show (List.map (fun x => List.map C.fz x) (List.take h.roots.length (List.drop (0 : Nat) (ints h.roots)))) = List.map intt h.roots by simp)
      let t14 : Tp pr := .m (show (true && [Ob.vec g.objects.isEmpty (2 : Nat) (List.map Obj.cc g.objects), Ob.vec true (1 : Nat) (ints (g.roots ++ [(0 : Int)]))].all Ob.flat) = true by simp)
      let t15 : Tp pr := .m (show (decide ((List.map Obj.cc g.objects).length = g.objects.length ∧ (0 : Nat) + g.objects.length ≤ g.objects.length)) = true by simp)
      let t16 : Tp pr := .n .rows (show (List.map (fun x => List.map C.fz x) (List.take g.objects.length (List.drop (0 : Nat) (List.map Obj.cc g.objects)))) = List.map Obj.ce g.objects by simp)
      let t17 : Tp pr := .m (show (decide ((ints (g.roots ++ [(0 : Int)])).length = g.roots.length + (1 : Nat) ∧ (0 : Nat) + g.roots.length ≤ g.roots.length + (1 : Nat))) = true by simp)
      let t18 : Tp pr := .n .rows (show (List.map (fun x => List.map C.fz x) (List.take g.roots.length (List.drop (0 : Nat) (ints (g.roots ++ [(0 : Int)]))))) = List.map intt g.roots by simp)
      let t27 : Tp pr := .m (show (decide ((List.map Obj.cc h.objects).length = h.objects.length ∧ (0 : Nat) + h.objects.length ≤ h.objects.length)) = true by simp)
      let t28 : Tp pr := .n .rows (show (List.map (fun x => List.map C.fz x) (List.take h.objects.length (List.drop (0 : Nat) (List.map Obj.cc h.objects)))) = List.map Obj.ce h.objects by simp)
      let t29 : Tp pr := .m (show (decide ((ints h.roots).length = h.roots.length ∧ (0 : Nat) + h.roots.length ≤ h.roots.length)) = true by simp)
      let t30 : Tp pr := .n .rows (show (List.map (fun x => List.map C.fz x) (List.take h.roots.length (List.drop (0 : Nat) (ints h.roots)))) = List.map intt h.roots by simp)
      let t31 : Tp pr := .m (show (decide ((List.map Obj.cc h.objects).length = h.objects.length ∧ (0 : Nat) + h.objects.length ≤ h.objects.length)) = true by simp)
      let t32 : Tp pr := .n .rows (show (List.map (fun x => List.map C.fz x) (List.take h.objects.length (List.drop (0 : Nat) (List.map Obj.cc h.objects)))) = List.map Obj.ce h.objects by simp)
      let t33 : Tp pr := .m (show (decide ((ints h.roots).length = h.roots.length ∧ (0 : Nat) + h.roots.length ≤ h.roots.length)) = true by simp)
      let t34 : Tp pr := .n .rows (show (List.map (fun x => List.map C.fz x) (List.take h.roots.length (List.drop (0 : Nat) (ints h.roots)))) = List.map intt h.roots by simp)
      let t41 : Tp pr := .b (show (decide ((1 : Int) + marksO h.objects + (↑h.roots.length : Int) < (0 : Int))) = false by (simp; omega))
      let t42 : Tp pr := .m (show (decide ((List.map Obj.cc g.objects).length = g.objects.length ∧ (0 : Nat) + g.objects.length ≤ g.objects.length)) = true by simp)
      let t43 : Tp pr := .n .rows (show (List.map (fun x => List.map C.fz x) (List.take g.objects.length (List.drop (0 : Nat) (List.map Obj.cc g.objects)))) = List.map Obj.ce g.objects by simp)
      let t44 : Tp pr := .m (show (decide ((ints (g.roots ++ [(0 : Int)])).length = g.roots.length + (1 : Nat) ∧ (0 : Nat) + g.roots.length ≤ g.roots.length + (1 : Nat))) = true by simp)
      let t45 : Tp pr := .n .rows (show (List.map (fun x => List.map C.fz x) (List.take g.roots.length (List.drop (0 : Nat) (ints (g.roots ++ [(0 : Int)]))))) = List.map intt g.roots by simp)
      let t51 : Tp pr := .m (show (decide ((List.map Obj.cc (markedO (1 : Int) g.objects)).length = g.objects.length ∧ (0 : Nat) + g.objects.length ≤ g.objects.length)) = true by simp)
      let t52 : Tp pr := .n .rows (show (List.map (fun x => List.map C.fz x) (List.take g.objects.length (List.drop (0 : Nat) (List.map Obj.cc (markedO (1 : Int) g.objects))))) = List.map Obj.ce (markedO (1 : Int) g.objects) by simp)
      let t53 : Tp pr := .m (show (decide ((ints (markI ((1 : Int) + marksO g.objects) g.roots.length ++ [(0 : Int)])).length = g.roots.length + (1 : Nat) ∧ (0 : Nat) + g.roots.length ≤ g.roots.length + (1 : Nat))) = true by simp)
      let t54 : Tp pr := .n .rows (show (List.map (fun x => List.map C.fz x) (List.take g.roots.length (List.drop (0 : Nat) (ints (markI ((1 : Int) + marksO g.objects) g.roots.length ++ [(0 : Int)]))))) = List.map intt (markI ((1 : Int) + marksO g.objects) g.roots.length) by simp)
      let t57 : Tp pr := .b (show (decide ((1 : Int) + marksO g.objects + (↑g.roots.length : Int) < (0 : Int))) = false by (simp; omega))
      let t58 : Tp pr := .b (show ((1 : Int) + marksO g.objects + (↑g.roots.length : Int) != (1 : Int) + marksO g.objects + (↑g.roots.length : Int)) = false by simp)
      let t60 : Tp pr := .m (show (decide ((List.map Obj.cc h.objects).length = h.objects.length ∧ (0 : Nat) + h.objects.length ≤ h.objects.length)) = true by simp)
      let t61 : Tp pr := .n .rows (show (List.map (fun x => List.map C.fz x) (List.take h.objects.length (List.drop (0 : Nat) (List.map Obj.cc h.objects)))) = List.map Obj.ce h.objects by simp)
      let t62 : Tp pr := .m (show (decide ((ints h.roots).length = h.roots.length ∧ (0 : Nat) + h.roots.length ≤ h.roots.length)) = true by simp)
      let t63 : Tp pr := .n .rows (show (List.map (fun x => List.map C.fz x) (List.take h.roots.length (List.drop (0 : Nat) (ints h.roots)))) = List.map intt h.roots by simp)
      let t65 : Tp pr := .m (show (true && [Ob.vec g.objects.isEmpty (2 : Nat) (List.map Obj.cc g.objects), Ob.vec true (1 : Nat) (ints (g.roots ++ [(0 : Int)]))].all Ob.flat) = true by simp)
      let t66 : Tp pr := .m (show (decide ((List.map Obj.cc g.objects).length = g.objects.length ∧ (0 : Nat) + g.objects.length ≤ g.objects.length)) = true by simp)
      let t67 : Tp pr := .n .rows (show (List.map (fun x => List.map C.fz x) (List.take g.objects.length (List.drop (0 : Nat) (List.map Obj.cc g.objects)))) = List.map Obj.ce g.objects by simp)
      let t68 : Tp pr := .m (show (decide ((ints (g.roots ++ [(0 : Int)])).length = g.roots.length + (1 : Nat) ∧ (0 : Nat) + g.roots.length ≤ g.roots.length + (1 : Nat))) = true by simp)
      let t69 : Tp pr := .n .rows (show (List.map (fun x => List.map C.fz x) (List.take g.roots.length (List.drop (0 : Nat) (ints (g.roots ++ [(0 : Int)]))))) = List.map intt g.roots by simp)
      let t74 : Tp pr := .m (show (decide ((List.map Obj.cc (markedO (1 : Int) g.objects)).length = g.objects.length ∧ (0 : Nat) + g.objects.length ≤ g.objects.length)) = true by simp)
      let t75 : Tp pr := .n .rows (show (List.map (fun x => List.map C.fz x) (List.take g.objects.length (List.drop (0 : Nat) (List.map Obj.cc (markedO (1 : Int) g.objects))))) = List.map Obj.ce (markedO (1 : Int) g.objects) by simp)
      let t76 : Tp pr := .m (show (decide ((ints (markI ((1 : Int) + marksO g.objects) g.roots.length ++ [(0 : Int)])).length = g.roots.length + (1 : Nat) ∧ (0 : Nat) + g.roots.length ≤ g.roots.length + (1 : Nat))) = true by simp)
      let t77 : Tp pr := .n .rows (show (List.map (fun x => List.map C.fz x) (List.take g.roots.length (List.drop (0 : Nat) (ints (markI ((1 : Int) + marksO g.objects) g.roots.length ++ [(0 : Int)]))))) = List.map intt (markI ((1 : Int) + marksO g.objects) g.roots.length) by simp)
      let t80 : Tp pr := .b (show (decide ((1 : Int) + marksO g.objects + (↑g.roots.length : Int) < (0 : Int))) = false by (simp; omega))
      let t81 : Tp pr := .b (show ((1 : Int) + marksO g.objects + (↑g.roots.length : Int) != (1 : Int) + marksO g.objects + (↑g.roots.length : Int)) = false by simp)
      exact .tp [.a (h0), t1, .a (th), t3, t4, t5, t6, .a (s1), .a (th), t9, t10, t11, t12, .a (i1), t14, t15, t16, t17, t18, .a (f1), .m (rfl : true = true), .b (rfl : false = false), .b (rfl : false = false), .m (rfl : true = true), .m (rfl : true = true), .a (th), .m (rfl : true = true), t27, t28, t29, t30, t31, t32, t33, t34, .a (e1), .m (rfl : true = true), .m (rfl : true = true), .m (rfl : true = true), .b (rfl : false = false), .a (m1), t41, t42, t43, t44, t45, .a (f1), .m (rfl : true = true), .b (rfl : false = false), .b (rfl : false = false), .a (f2), t51, t52, t53, t54, .a (f3), .m (rfl : true = true), t57, t58, .a (th), t60, t61, t62, t63, .a (i1), t65, t66, t67, t68, t69, .a (f1), .m (rfl : true = true), .b (rfl : false = false), .b (rfl : false = false), t74, t75, t76, t77, .a (f3), .m (rfl : true = true), t80, t81] (by kernel_rfl)
    · have f1 := eqHeapN_ev
      have f2 := markHeapN_ev 1
      have f3 := heldHeapN_ev 1 (by omega)
      let t1 : Tp pr := .b (show (decide (szH h (1048576 : Int) < (0 : Int))) = false by (simp; omega))
      let t3 : Tp pr := .m (show (decide ((List.map Obj.cc h.objects).length = h.objects.length ∧ (0 : Nat) + h.objects.length ≤ h.objects.length)) = true by simp)
      let t4 : Tp pr := .n .rows (show (List.map (fun x => List.map C.fz x) (List.take h.objects.length (List.drop (0 : Nat) (List.map Obj.cc h.objects)))) = List.map Obj.ce h.objects by simp)
      let t5 : Tp pr := .m (show (decide ((ints h.roots).length = h.roots.length ∧ (0 : Nat) + h.roots.length ≤ h.roots.length)) = true by simp)
      let t6 : Tp pr := .n .rows (show (List.map (fun x => List.map C.fz x) (List.take h.roots.length (List.drop (0 : Nat) (ints h.roots)))) = List.map intt h.roots by simp)
      let t9 : Tp pr := .m (show (decide ((List.map Obj.cc h.objects).length = h.objects.length ∧ (0 : Nat) + h.objects.length ≤ h.objects.length)) = true by simp)
      let t10 : Tp pr := .n .rows (show (List.map (fun x => List.map C.fz x) (List.take h.objects.length (List.drop (0 : Nat) (List.map Obj.cc h.objects)))) = List.map Obj.ce h.objects by simp)
      let t11 : Tp pr := .m (show (decide ((ints h.roots).length = h.roots.length ∧ (0 : Nat) + h.roots.length ≤ h.roots.length)) = true by simp)
      let t12 : Tp pr := .n .rows (show (List.map (fun x => List.map C.fz x) (List.take h.roots.length (List.drop (0 : Nat) (ints h.roots)))) = List.map intt h.roots by simp)
      let t22 : Tp pr := .m (show (decide ((List.map Obj.cc h.objects).length = h.objects.length ∧ (0 : Nat) + h.objects.length ≤ h.objects.length)) = true by simp)
      let t23 : Tp pr := .n .rows (show (List.map (fun x => List.map C.fz x) (List.take h.objects.length (List.drop (0 : Nat) (List.map Obj.cc h.objects)))) = List.map Obj.ce h.objects by simp)
      let t24 : Tp pr := .m (show (decide ((ints h.roots).length = h.roots.length ∧ (0 : Nat) + h.roots.length ≤ h.roots.length)) = true by simp)
      let t25 : Tp pr := .n .rows (show (List.map (fun x => List.map C.fz x) (List.take h.roots.length (List.drop (0 : Nat) (ints h.roots)))) = List.map intt h.roots by simp)
      let t26 : Tp pr := .m (show (decide ((List.map Obj.cc h.objects).length = h.objects.length ∧ (0 : Nat) + h.objects.length ≤ h.objects.length)) = true by simp)
      let t27 : Tp pr := .n .rows (show (List.map (fun x => List.map C.fz x) (List.take h.objects.length (List.drop (0 : Nat) (List.map Obj.cc h.objects)))) = List.map Obj.ce h.objects by simp)
      let t28 : Tp pr := .m (show (decide ((ints h.roots).length = h.roots.length ∧ (0 : Nat) + h.roots.length ≤ h.roots.length)) = true by simp)
      let t29 : Tp pr := .n .rows (show (List.map (fun x => List.map C.fz x) (List.take h.roots.length (List.drop (0 : Nat) (ints h.roots)))) = List.map intt h.roots by simp)
      let t36 : Tp pr := .b (show (decide ((1 : Int) + marksO h.objects + (↑h.roots.length : Int) < (0 : Int))) = false by (simp; omega))
      let t45 : Tp pr := .m (show (decide ((List.map Obj.cc h.objects).length = h.objects.length ∧ (0 : Nat) + h.objects.length ≤ h.objects.length)) = true by simp)
      let t46 : Tp pr := .n .rows (show (List.map (fun x => List.map C.fz x) (List.take h.objects.length (List.drop (0 : Nat) (List.map Obj.cc h.objects)))) = List.map Obj.ce h.objects by simp)
      let t47 : Tp pr := .m (show (decide ((ints h.roots).length = h.roots.length ∧ (0 : Nat) + h.roots.length ≤ h.roots.length)) = true by simp)
      let t48 : Tp pr := .n .rows (show (List.map (fun x => List.map C.fz x) (List.take h.roots.length (List.drop (0 : Nat) (ints h.roots)))) = List.map intt h.roots by simp)
      exact .tp [.a (h0), t1, .a (th), t3, t4, t5, t6, .a (s1), .a (th), t9, t10, t11, t12, .a (i1), .m (rfl : true = true), .a (f1), .b (rfl : false = false), .b (rfl : false = false), .m (rfl : true = true), .m (rfl : true = true), .a (th), .m (rfl : true = true), t22, t23, t24, t25, t26, t27, t28, t29, .a (e1), .m (rfl : true = true), .m (rfl : true = true), .m (rfl : true = true), .b (rfl : false = false), .a (m1), t36, .a (f1), .b (rfl : false = false), .b (rfl : false = false), .a (f2), .a (f3), .b (rfl : false = false), .b (rfl : false = false), .a (th), t45, t46, t47, t48, .a (i1), .m (rfl : true = true), .a (f1), .b (rfl : false = false), .b (rfl : false = false), .a (f3), .b (rfl : false = false), .b (rfl : false = false)] (by kernel_rfl)
theorem law_ev (h : Hp) (hw : h.wf) (k : Int) (w2 : (Lit.int .i64 k).wf = true) : Ev pr (.call 4 [vs h.ce, i64 k] []) (.val (.t (.bool true)) []) :=
  law0_ev h k hw.1.1 (fun x hx => (hw.1.2 x hx).2.1) hw.2.1
end Go.Ev
