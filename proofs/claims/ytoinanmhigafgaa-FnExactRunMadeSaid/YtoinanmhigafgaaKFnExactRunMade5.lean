import Derived.Test.YtoinanmhigafgaaKFnExactRunMade4
/- Code that is made of an expression: from nothing; the reference's. -/
namespace Go.Ev
set_option linter.unusedVariables false
set_option linter.unusedSimpArgs false
open Go.Proofs
set_option maxRecDepth 100000
set_option linter.unusedVariables false
set_option maxHeartbeats 1000000
attribute [local simp] e0
theorem l17Not_ev : Ev pr (.call 74 [] []) (.val (.agg [i64 5, i64 0, .t (.str sNot)]) []) := by
  exact .tp [] (by kernel_rfl)
theorem l17Make_ev : ∀ (e : E) (l : List Bc), l.length + 6 * e.size ≤ 1000000 → e.names = true →
    Ev pr (.call 48 [vs e.ts, .vec 0 l.length 3 0 l.length] [.vec true 3 (bcc l)]) (.val (.vec 0 (codeE e l).length 3 0 (codeE e l).length) [.vec true 3 (bcc (codeE e l))])
  | .num n, l, h, hn => by
    let t2 : Tp pr := .m (show (decide ((bcc l).length = l.length ∧ (0 : Nat) + l.length ≤ l.length ∧ l.length + (1 : Nat) ≤ (4294967296 : Nat))) = true by (simp; omega))
    let t3 : Tp pr := .b (show (decide (l.length + (1 : Nat) ≤ l.length)) = false by simp)
    let t5 : Tp pr := .n .crows (show ((List.take l.length (bcc l)).append (List.take (1 : Nat) (List.drop (0 : Nat) [[C.t (T.int IntKind.i64 (1 : Int)), C.t (T.int IntKind.i64 (E.num n).nm), C.t (T.str (ByteArray.mk #[]))]]))) = bcc (l ++ [Bc.mk (1 : Int) n (ByteArray.mk #[])]) by simp)
    exact .tpe [.b (rfl : true = true), .m (rfl : true = true), t2, t3, .c (rfl : (l.length + (1 : Nat)) = _), t5] (Out.val (V.vec (0 : Nat) (l.length + (1 : Nat)) (3 : Nat) (0 : Nat) (l.length + (1 : Nat))) [Ob.vec true (3 : Nat) (bcc (l ++ [Bc.mk (1 : Int) n (ByteArray.mk #[])]))]) (by kernel_rfl) (((congrArg (fun x => Out.val (V.vec (0 : Nat) x (3 : Nat) (0 : Nat) (l.length + (1 : Nat))) [Ob.vec true (3 : Nat) (bcc (l ++ [Bc.mk (1 : Int) n (ByteArray.mk #[])]))]) (show (l.length + (1 : Nat)) = ((codeE (E.num n) l).length) by simp [codeE])).trans (congrArg (fun x => Out.val (V.vec (0 : Nat) (codeE (E.num n) l).length (3 : Nat) (0 : Nat) x) [Ob.vec true (3 : Nat) (bcc (l ++ [Bc.mk (1 : Int) n (ByteArray.mk #[])]))]) (show (l.length + (1 : Nat)) = ((codeE (E.num n) l).length) by simp [codeE]))).trans (congrArg (fun x => Out.val (V.vec (0 : Nat) (codeE (E.num n) l).length (3 : Nat) (0 : Nat) (codeE (E.num n) l).length) [Ob.vec true (3 : Nat) x]) (show (bcc (l ++ [Bc.mk (1 : Int) n (ByteArray.mk #[])])) = (bcc (codeE (E.num n) l)) by simp [codeE])))
  | .name s, l, h, hn => by
    have hk := NameNoS_ev s
    have hk0 : 0 ≤ nameNo s := by simpa [E.names] using hn
    rw [if_neg (by omega)] at hk
    let t4 : Tp pr := .m (show (decide ((bcc l).length = l.length ∧ (0 : Nat) + l.length ≤ l.length ∧ l.length + (1 : Nat) ≤ (4294967296 : Nat))) = true by (simp; omega))
    let t5 : Tp pr := .b (show (decide (l.length + (1 : Nat) ≤ l.length)) = false by simp)
    let t7 : Tp pr := .n .crows (show ((List.take l.length (bcc l)).append (List.take (1 : Nat) (List.drop (0 : Nat) [[C.t (T.int IntKind.i64 (2 : Int)), C.t (T.int IntKind.i64 (nameNo s)), C.t (T.str (ByteArray.mk #[]))]]))) = bcc (l ++ [Bc.mk (2 : Int) (nameNo s) (ByteArray.mk #[])]) by simp)
    exact .tpe [.b (rfl : false = false), .b (rfl : true = true), .a (hk), .m (rfl : true = true), t4, t5, .c (rfl : (l.length + (1 : Nat)) = _), t7] (Out.val (V.vec (0 : Nat) (l.length + (1 : Nat)) (3 : Nat) (0 : Nat) (l.length + (1 : Nat))) [Ob.vec true (3 : Nat) (bcc (l ++ [Bc.mk (2 : Int) (nameNo s) (ByteArray.mk #[])]))]) (by kernel_rfl) (((congrArg (fun x => Out.val (V.vec (0 : Nat) x (3 : Nat) (0 : Nat) (l.length + (1 : Nat))) [Ob.vec true (3 : Nat) (bcc (l ++ [Bc.mk (2 : Int) (nameNo s) (ByteArray.mk #[])]))]) (show (l.length + (1 : Nat)) = ((codeE (E.name s) l).length) by simp [codeE])).trans (congrArg (fun x => Out.val (V.vec (0 : Nat) (codeE (E.name s) l).length (3 : Nat) (0 : Nat) x) [Ob.vec true (3 : Nat) (bcc (l ++ [Bc.mk (2 : Int) (nameNo s) (ByteArray.mk #[])]))]) (show (l.length + (1 : Nat)) = ((codeE (E.name s) l).length) by simp [codeE]))).trans (congrArg (fun x => Out.val (V.vec (0 : Nat) (codeE (E.name s) l).length (3 : Nat) (0 : Nat) (codeE (E.name s) l).length) [Ob.vec true (3 : Nat) x]) (show (bcc (l ++ [Bc.mk (2 : Int) (nameNo s) (ByteArray.mk #[])])) = (bcc (codeE (E.name s) l)) by simp [codeE])))
  | .neg a, l, h, hn => by
    have g0 : lkp (E.neg a).kids 0 = some a.ts := rfl
    have ih := l17Make_ev a l (by simp [E.size] at h; omega) (by simp [E.names] at hn; simp [hn])
    have hl := codeE_len a l
    simp only [E.size] at h
    let t2 : Tp pr := .g .row (show (lkp a.neg.kids (0 : Int)) = some (a.ts) from g0)
    let t6 : Tp pr := .m (show (decide ((bcc (codeE a l)).length = (codeE a l).length ∧ (0 : Nat) + (codeE a l).length ≤ (codeE a l).length ∧ (codeE a l).length + (1 : Nat) ≤ (4294967296 : Nat))) = true by (simp; omega))
    let t7 : Tp pr := .b (show (decide ((codeE a l).length + (1 : Nat) ≤ (codeE a l).length)) = false by simp)
    let t8 : Tp pr := .c (rfl : ((codeE a l).length + (1 : Nat)) = _)
    let t9 : Tp pr := .n .crows (show ((List.take (codeE a l).length (bcc (codeE a l))).append (List.take (1 : Nat) (List.drop (0 : Nat) [[C.t (T.int IntKind.i64 (5 : Int)), C.t (T.int IntKind.i64 (0 : Int)), C.t (T.str (ByteArray.mk #[(45 : UInt8)]))]]))) = bcc (codeE a l ++ [Bc.mk (5 : Int) (0 : Int) (ByteArray.mk #[(45 : UInt8)])]) by simp)
    exact .tpe [.b (rfl : false = false), .b (rfl : false = false), t2, .a (ih), .b (rfl : true = true), .m (rfl : true = true), t6, t7, t8, t9] (Out.val (V.vec (0 : Nat) ((codeE a l).length + (1 : Nat)) (3 : Nat) (0 : Nat) ((codeE a l).length + (1 : Nat))) [Ob.vec true (3 : Nat) (bcc (codeE a l ++ [Bc.mk (5 : Int) (0 : Int) (ByteArray.mk #[(45 : UInt8)])]))]) (by kernel_rfl) (((congrArg (fun x => Out.val (V.vec (0 : Nat) x (3 : Nat) (0 : Nat) ((codeE a l).length + (1 : Nat))) [Ob.vec true (3 : Nat) (bcc (codeE a l ++ [Bc.mk (5 : Int) (0 : Int) (ByteArray.mk #[(45 : UInt8)])]))]) (show ((codeE a l).length + (1 : Nat)) = ((codeE a.neg l).length) by simp [codeE])).trans (congrArg (fun x => Out.val (V.vec (0 : Nat) (codeE a.neg l).length (3 : Nat) (0 : Nat) x) [Ob.vec true (3 : Nat) (bcc (codeE a l ++ [Bc.mk (5 : Int) (0 : Int) (ByteArray.mk #[(45 : UInt8)])]))]) (show ((codeE a l).length + (1 : Nat)) = ((codeE a.neg l).length) by simp [codeE]))).trans (congrArg (fun x => Out.val (V.vec (0 : Nat) (codeE a.neg l).length (3 : Nat) (0 : Nat) (codeE a.neg l).length) [Ob.vec true (3 : Nat) x]) (show (bcc (codeE a l ++ [Bc.mk (5 : Int) (0 : Int) (ByteArray.mk #[(45 : UInt8)])])) = (bcc (codeE a.neg l)) by simp [codeE])))
  | .not a, l, h, hn => by
    have g0 : lkp (E.not a).kids 0 = some a.ts := rfl
    have ih := l17Make_ev a l (by simp [E.size] at h; omega) (by simp [E.names] at hn; simp [hn])
    have hl := codeE_len a l
    simp only [E.size] at h
    let t2 : Tp pr := .g .row (show (lkp a.not.kids (0 : Int)) = some (a.ts) from g0)
    let t8 : Tp pr := .m (show (decide ((bcc (codeE a l)).length = (codeE a l).length ∧ (0 : Nat) + (codeE a l).length ≤ (codeE a l).length ∧ (codeE a l).length + (1 : Nat) ≤ (4294967296 : Nat))) = true by (simp; omega))
    let t9 : Tp pr := .b (show (decide ((codeE a l).length + (1 : Nat) ≤ (codeE a l).length)) = false by simp)
    let t10 : Tp pr := .c (rfl : ((codeE a l).length + (1 : Nat)) = _)
    let t11 : Tp pr := .n .crows (show ((List.take (codeE a l).length (bcc (codeE a l))).append (List.take (1 : Nat) (List.drop (0 : Nat) [[C.t (T.int IntKind.i64 (5 : Int)), C.t (T.int IntKind.i64 (0 : Int)), C.t (T.str (ByteArray.mk #[(33 : UInt8)]))]]))) = bcc (codeE a l ++ [Bc.mk (5 : Int) (0 : Int) (ByteArray.mk #[(33 : UInt8)])]) by simp)
    exact .tpe [.b (rfl : false = false), .b (rfl : false = false), t2, .a (ih), .b (rfl : false = false), .b (rfl : true = true), .a (l17Not_ev), .m (rfl : true = true), t8, t9, t10, t11] (Out.val (V.vec (0 : Nat) ((codeE a l).length + (1 : Nat)) (3 : Nat) (0 : Nat) ((codeE a l).length + (1 : Nat))) [Ob.vec true (3 : Nat) (bcc (codeE a l ++ [Bc.mk (5 : Int) (0 : Int) (ByteArray.mk #[(33 : UInt8)])]))]) (by kernel_rfl) (((congrArg (fun x => Out.val (V.vec (0 : Nat) x (3 : Nat) (0 : Nat) ((codeE a l).length + (1 : Nat))) [Ob.vec true (3 : Nat) (bcc (codeE a l ++ [Bc.mk (5 : Int) (0 : Int) (ByteArray.mk #[(33 : UInt8)])]))]) (show ((codeE a l).length + (1 : Nat)) = ((codeE a.not l).length) by simp [codeE, bNot])).trans (congrArg (fun x => Out.val (V.vec (0 : Nat) (codeE a.not l).length (3 : Nat) (0 : Nat) x) [Ob.vec true (3 : Nat) (bcc (codeE a l ++ [Bc.mk (5 : Int) (0 : Int) (ByteArray.mk #[(33 : UInt8)])]))]) (show ((codeE a l).length + (1 : Nat)) = ((codeE a.not l).length) by simp [codeE, bNot]))).trans (congrArg (fun x => Out.val (V.vec (0 : Nat) (codeE a.not l).length (3 : Nat) (0 : Nat) (codeE a.not l).length) [Ob.vec true (3 : Nat) x]) (show (bcc (codeE a l ++ [Bc.mk (5 : Int) (0 : Int) (ByteArray.mk #[(33 : UInt8)])])) = (bcc (codeE a.not l)) by simp [codeE, bNot])))
  | .two s a b, l, h, hn => by
    have g0 : lkp (E.two s a b).kids 0 = some a.ts := rfl
    have g1 : lkp (E.two s a b).kids 1 = some b.ts := rfl
    have ih := l17Make_ev a l (by simp [E.size] at h; omega) (by simp [E.names] at hn; simp [hn])
    have hl := codeE_len a l
    simp only [E.size] at h
    by_cases h1 : s.toList = [38, 38]
    · have ih2 := l17Make_ev b (codeE a l ++ [⟨7, 0, e0⟩]) (by simp; omega) (by simp [E.names] at hn; simp [hn])
      have hl2 := codeE_len b (codeE a l ++ [⟨7, 0, e0⟩])
      have hg := codeE_get b (codeE a l ++ [⟨7, 0, e0⟩]) (codeE a l).length (by simp)
      have hg2 : (bcc (codeE b (codeE a l ++ [⟨7, 0, e0⟩]) ++ [bNot, bNot]))[(codeE a l).length]? = some (Bc.cc ⟨7, 0, e0⟩) := by
        simp at hl2
        rw [bcc_app, List.getElem?_append_left (by simp; omega)]
        simp [bcc, hg]
      have hg3 : ∀ r : List Bc, (bcc (codeE b ((codeE a l) ++ [⟨7, 0, e0⟩]) ++ r))[(codeE a l).length]? = some (Bc.cc ⟨7, 0, e0⟩) := fun r => by
        simp at hl2
        rw [bcc_app, List.getElem?_append_left (by simp; omega)]
        simp [bcc, hg]
      simp at hl2
      have hlt : (codeE a l).length < (codeE b ((codeE a l) ++ [⟨7, 0, ⟨#[]⟩⟩])).length := by omega
      let t2 : Tp pr := .g .row (show (lkp (E.two s a b).kids (0 : Int)) = some (a.ts) from g0)
      let t6 : Tp pr := .b (show ((E.two s a b).text.toList == [(38 : UInt8), (38 : UInt8)]) = true by (simp; omega))
      let t7 : Tp pr := .i (rfl : ((↑(codeE a l).length : Int)) = _)
      let t9 : Tp pr := .m (show (decide ((bcc (codeE a l)).length = (codeE a l).length ∧ (0 : Nat) + (codeE a l).length ≤ (codeE a l).length ∧ (codeE a l).length + (1 : Nat) ≤ (4294967296 : Nat))) = true by (simp; omega))
      let t10 : Tp pr := .b (show (decide ((codeE a l).length + (1 : Nat) ≤ (codeE a l).length)) = false by simp)
      let t11 : Tp pr := .c (rfl : ((codeE a l).length + (1 : Nat)) = _)
      let t12 : Tp pr := .n .crows (show ((List.take (codeE a l).length (bcc (codeE a l))).append (List.take (1 : Nat) (List.drop (0 : Nat) [[C.t (T.int IntKind.i64 (7 : Int)), C.t (T.int IntKind.i64 (0 : Int)), C.t (T.str (ByteArray.mk #[]))]]))) = bcc (codeE a l ++ [Bc.mk (7 : Int) (0 : Int) (ByteArray.mk #[])]) by simp)
      let t13 : Tp pr := .g .row (show (lkp (E.two s a b).kids (1 : Int)) = some (b.ts) from g1)
      let t14 : Tp pr := .a (Ev.castq (congrArg (fun x => Q.call (48 : FuncId) [vs b.ts, V.vec (0 : Nat) x (3 : Nat) (0 : Nat) x] [Ob.vec true (3 : Nat) (bcc (codeE a l ++ [Bc.mk (7 : Int) (0 : Int) e0]))]) (show ((codeE a l ++ [Bc.mk (7 : Int) (0 : Int) e0]).length) = ((codeE a l).length + (1 : Nat)) by simp [codeE, bNot, h1, List.set_append, hlt])) (ih2))
      let t18 : Tp pr := .m (show (decide ((bcc (codeE b (codeE a l ++ [Bc.mk (7 : Int) (0 : Int) e0]))).length = (codeE b (codeE a l ++ [Bc.mk (7 : Int) (0 : Int) e0])).length ∧ (0 : Nat) + (codeE b (codeE a l ++ [Bc.mk (7 : Int) (0 : Int) e0])).length ≤ (codeE b (codeE a l ++ [Bc.mk (7 : Int) (0 : Int) e0])).length ∧ (codeE b (codeE a l ++ [Bc.mk (7 : Int) (0 : Int) e0])).length + (2 : Nat) ≤ (4294967296 : Nat))) = true by (simp; omega))
      let t19 : Tp pr := .b (show (decide ((codeE b (codeE a l ++ [Bc.mk (7 : Int) (0 : Int) e0])).length + (2 : Nat) ≤ (codeE b (codeE a l ++ [Bc.mk (7 : Int) (0 : Int) e0])).length)) = false by simp)
      let t20 : Tp pr := .c (show ((codeE b (codeE a l ++ [Bc.mk (7 : Int) (0 : Int) e0])).length + (2 : Nat) : Nat) = (codeE b (codeE a l ++ [Bc.mk (7 : Int) (0 : Int) (ByteArray.mk #[])])).length + (2 : Nat) by rfl)
      let t21 : Tp pr := .n .crows (show ((List.take (codeE b (codeE a l ++ [Bc.mk (7 : Int) (0 : Int) e0])).length (bcc (codeE b (codeE a l ++ [Bc.mk (7 : Int) (0 : Int) e0])))).append (List.take (2 : Nat) (List.drop (0 : Nat) [[C.t (T.int IntKind.i64 (5 : Int)), C.t (T.int IntKind.i64 (0 : Int)), C.t (T.str (ByteArray.mk #[(33 : UInt8)]))], [C.t (T.int IntKind.i64 (5 : Int)), C.t (T.int IntKind.i64 (0 : Int)), C.t (T.str (ByteArray.mk #[(33 : UInt8)]))]]))) = bcc (codeE b (codeE a l ++ [Bc.mk (7 : Int) (0 : Int) (ByteArray.mk #[])]) ++ [Bc.mk (5 : Int) (0 : Int) (ByteArray.mk #[(33 : UInt8)]), Bc.mk (5 : Int) (0 : Int) (ByteArray.mk #[(33 : UInt8)])]) by simp)
      let t22 : Tp pr := .i (show ((↑((codeE b (codeE a l ++ [Bc.mk (7 : Int) (0 : Int) (ByteArray.mk #[])])).length + (2 : Nat)) : Int) : Int) = (↑(codeE b (codeE a l ++ [Bc.mk (7 : Int) (0 : Int) (ByteArray.mk #[])])).length : Int) + (2 : Int) by omega)
      let t23 : Tp pr := .i (wrap_i64 (a := (↑(codeE b (codeE a l ++ [Bc.mk (7 : Int) (0 : Int) (ByteArray.mk #[])])).length : Int) + (2 : Int) + (2 : Int)) (by omega) (by omega))
      let t25 : Tp pr := .m (show (decide ((bcc (codeE b (codeE a l ++ [Bc.mk (7 : Int) (0 : Int) (ByteArray.mk #[])]) ++ [Bc.mk (5 : Int) (0 : Int) (ByteArray.mk #[(33 : UInt8)]), Bc.mk (5 : Int) (0 : Int) (ByteArray.mk #[(33 : UInt8)])])).length = (codeE b (codeE a l ++ [Bc.mk (7 : Int) (0 : Int) (ByteArray.mk #[])])).length + (2 : Nat) ∧ (0 : Nat) + ((codeE b (codeE a l ++ [Bc.mk (7 : Int) (0 : Int) (ByteArray.mk #[])])).length + (2 : Nat)) ≤ (codeE b (codeE a l ++ [Bc.mk (7 : Int) (0 : Int) (ByteArray.mk #[])])).length + (2 : Nat) ∧ (codeE b (codeE a l ++ [Bc.mk (7 : Int) (0 : Int) (ByteArray.mk #[])])).length + (2 : Nat) + (2 : Nat) ≤ (4294967296 : Nat))) = true by (simp; omega))
      let t26 : Tp pr := .b (show (decide ((codeE b (codeE a l ++ [Bc.mk (7 : Int) (0 : Int) (ByteArray.mk #[])])).length + (2 : Nat) + (2 : Nat) ≤ (codeE b (codeE a l ++ [Bc.mk (7 : Int) (0 : Int) (ByteArray.mk #[])])).length + (2 : Nat))) = false by simp)
      let t27 : Tp pr := .c (rfl : ((codeE b (codeE a l ++ [Bc.mk (7 : Int) (0 : Int) (ByteArray.mk #[])])).length + (2 : Nat) + (2 : Nat)) = _)
      let t28 : Tp pr := .n .crows (show ((List.take ((codeE b (codeE a l ++ [Bc.mk (7 : Int) (0 : Int) (ByteArray.mk #[])])).length + (2 : Nat)) (bcc (codeE b (codeE a l ++ [Bc.mk (7 : Int) (0 : Int) (ByteArray.mk #[])]) ++ [Bc.mk (5 : Int) (0 : Int) (ByteArray.mk #[(33 : UInt8)]), Bc.mk (5 : Int) (0 : Int) (ByteArray.mk #[(33 : UInt8)])]))).append (List.take (2 : Nat) (List.drop (0 : Nat) [[C.t (T.int IntKind.i64 (6 : Int)), C.t (T.int IntKind.i64 ((↑(codeE b (codeE a l ++ [Bc.mk (7 : Int) (0 : Int) (ByteArray.mk #[])])).length : Int) + (2 : Int) + (2 : Int))), C.t (T.str (ByteArray.mk #[]))], [C.t (T.int IntKind.i64 (1 : Int)), C.t (T.int IntKind.i64 (0 : Int)), C.t (T.str (ByteArray.mk #[]))]]))) = bcc (codeE b (codeE a l ++ [Bc.mk (7 : Int) (0 : Int) (ByteArray.mk #[])]) ++ [Bc.mk (5 : Int) (0 : Int) (ByteArray.mk #[(33 : UInt8)]), Bc.mk (5 : Int) (0 : Int) (ByteArray.mk #[(33 : UInt8)]), Bc.mk (6 : Int) ((↑(codeE b (codeE a l ++ [Bc.mk (7 : Int) (0 : Int) (ByteArray.mk #[])])).length : Int) + (2 : Int) + (2 : Int)) (ByteArray.mk #[]), Bc.mk (1 : Int) (0 : Int) (ByteArray.mk #[])]) by simp)
      let t29 : Tp pr := .i (wrap_i64 (a := (↑(codeE b (codeE a l ++ [Bc.mk (7 : Int) (0 : Int) (ByteArray.mk #[])])).length : Int) + (2 : Int) + (1 : Int)) (by omega) (by omega))
      let t30 : Tp pr := .m (show (decide ((0 : Int) ≤ (↑(codeE a l).length : Int) ∧ (↑(codeE a l).length : Int).toNat < (codeE b (codeE a l ++ [Bc.mk (7 : Int) (0 : Int) (ByteArray.mk #[])])).length + (2 : Nat) + (2 : Nat))) = true by (simp; omega))
      let t31 : Tp pr := .c (show ((0 : Nat) + (↑(codeE a l).length : Int).toNat : Nat) = (codeE a l).length by omega)
      let t32 : Tp pr := .m (show (decide ((bcc (codeE b (codeE a l ++ [Bc.mk (7 : Int) (0 : Int) (ByteArray.mk #[])]) ++ [Bc.mk (5 : Int) (0 : Int) (ByteArray.mk #[(33 : UInt8)]), Bc.mk (5 : Int) (0 : Int) (ByteArray.mk #[(33 : UInt8)]), Bc.mk (6 : Int) ((↑(codeE b (codeE a l ++ [Bc.mk (7 : Int) (0 : Int) (ByteArray.mk #[])])).length : Int) + (2 : Int) + (2 : Int)) (ByteArray.mk #[]), Bc.mk (1 : Int) (0 : Int) (ByteArray.mk #[])])).length = (codeE b (codeE a l ++ [Bc.mk (7 : Int) (0 : Int) (ByteArray.mk #[])])).length + (2 : Nat) + (2 : Nat))) = true by simp)
      let t33 : Tp pr := .g .crow (show ((bcc (codeE b (codeE a l ++ [Bc.mk (7 : Int) (0 : Int) (ByteArray.mk #[])]) ++ [Bc.mk (5 : Int) (0 : Int) (ByteArray.mk #[(33 : UInt8)]), Bc.mk (5 : Int) (0 : Int) (ByteArray.mk #[(33 : UInt8)]), Bc.mk (6 : Int) ((↑(codeE b (codeE a l ++ [Bc.mk (7 : Int) (0 : Int) (ByteArray.mk #[])])).length : Int) + (2 : Int) + (2 : Int)) (ByteArray.mk #[]), Bc.mk (1 : Int) (0 : Int) (ByteArray.mk #[])]))[(codeE a l).length]?) = some ((Bc.mk (7 : Int) (0 : Int) (ByteArray.mk #[])).cc) by simp [*])
      let t34 : Tp pr := .n .crows (show ((bcc (codeE b (codeE a l ++ [Bc.mk (7 : Int) (0 : Int) (ByteArray.mk #[])]) ++ [Bc.mk (5 : Int) (0 : Int) (ByteArray.mk #[(33 : UInt8)]), Bc.mk (5 : Int) (0 : Int) (ByteArray.mk #[(33 : UInt8)]), Bc.mk (6 : Int) ((↑(codeE b (codeE a l ++ [Bc.mk (7 : Int) (0 : Int) (ByteArray.mk #[])])).length : Int) + (2 : Int) + (2 : Int)) (ByteArray.mk #[]), Bc.mk (1 : Int) (0 : Int) (ByteArray.mk #[])])).set (codeE a l).length [C.t (T.int IntKind.i64 (7 : Int)), C.t (T.int IntKind.i64 ((↑(codeE b (codeE a l ++ [Bc.mk (7 : Int) (0 : Int) (ByteArray.mk #[])])).length : Int) + (2 : Int) + (1 : Int))), C.t (T.str (ByteArray.mk #[]))]) = bcc ((codeE b (codeE a l ++ [Bc.mk (7 : Int) (0 : Int) (ByteArray.mk #[])]) ++ [Bc.mk (5 : Int) (0 : Int) (ByteArray.mk #[(33 : UInt8)]), Bc.mk (5 : Int) (0 : Int) (ByteArray.mk #[(33 : UInt8)]), Bc.mk (6 : Int) ((↑(codeE b (codeE a l ++ [Bc.mk (7 : Int) (0 : Int) (ByteArray.mk #[])])).length : Int) + (2 : Int) + (2 : Int)) (ByteArray.mk #[]), Bc.mk (1 : Int) (0 : Int) (ByteArray.mk #[])]).set (codeE a l).length (Bc.mk (7 : Int) ((↑(codeE b (codeE a l ++ [Bc.mk (7 : Int) (0 : Int) (ByteArray.mk #[])])).length : Int) + (2 : Int) + (1 : Int)) (ByteArray.mk #[]))) by simp)
      exact .tpe [.b (rfl : false = false), .b (rfl : false = false), t2, .a (ih), .b (rfl : false = false), .b (rfl : false = false), t6, t7, .m (rfl : true = true), t9, t10, t11, t12, t13, t14, .a (l17Not_ev), .a (l17Not_ev), .m (rfl : true = true), t18, t19, t20, t21, t22, t23, .m (rfl : true = true), t25, t26, t27, t28, t29, t30, t31, t32, t33, t34] (Out.val (V.vec (0 : Nat) ((codeE b (codeE a l ++ [Bc.mk (7 : Int) (0 : Int) (ByteArray.mk #[])])).length + (2 : Nat) + (2 : Nat)) (3 : Nat) (0 : Nat) ((codeE b (codeE a l ++ [Bc.mk (7 : Int) (0 : Int) (ByteArray.mk #[])])).length + (2 : Nat) + (2 : Nat))) [Ob.vec true (3 : Nat) (bcc ((codeE b (codeE a l ++ [Bc.mk (7 : Int) (0 : Int) (ByteArray.mk #[])]) ++ [Bc.mk (5 : Int) (0 : Int) (ByteArray.mk #[(33 : UInt8)]), Bc.mk (5 : Int) (0 : Int) (ByteArray.mk #[(33 : UInt8)]), Bc.mk (6 : Int) ((↑(codeE b (codeE a l ++ [Bc.mk (7 : Int) (0 : Int) (ByteArray.mk #[])])).length : Int) + (2 : Int) + (2 : Int)) (ByteArray.mk #[]), Bc.mk (1 : Int) (0 : Int) (ByteArray.mk #[])]).set (codeE a l).length (Bc.mk (7 : Int) ((↑(codeE b (codeE a l ++ [Bc.mk (7 : Int) (0 : Int) (ByteArray.mk #[])])).length : Int) + (2 : Int) + (1 : Int)) (ByteArray.mk #[]))))]) (by kernel_rfl) (((congrArg (fun x => Out.val (V.vec (0 : Nat) x (3 : Nat) (0 : Nat) ((codeE b (codeE a l ++ [Bc.mk (7 : Int) (0 : Int) (ByteArray.mk #[])])).length + (2 : Nat) + (2 : Nat))) [Ob.vec true (3 : Nat) (bcc ((codeE b (codeE a l ++ [Bc.mk (7 : Int) (0 : Int) (ByteArray.mk #[])]) ++ [Bc.mk (5 : Int) (0 : Int) (ByteArray.mk #[(33 : UInt8)]), Bc.mk (5 : Int) (0 : Int) (ByteArray.mk #[(33 : UInt8)]), Bc.mk (6 : Int) ((↑(codeE b (codeE a l ++ [Bc.mk (7 : Int) (0 : Int) (ByteArray.mk #[])])).length : Int) + (2 : Int) + (2 : Int)) (ByteArray.mk #[]), Bc.mk (1 : Int) (0 : Int) (ByteArray.mk #[])]).set (codeE a l).length (Bc.mk (7 : Int) ((↑(codeE b (codeE a l ++ [Bc.mk (7 : Int) (0 : Int) (ByteArray.mk #[])])).length : Int) + (2 : Int) + (1 : Int)) (ByteArray.mk #[]))))]) (show ((codeE b (codeE a l ++ [Bc.mk (7 : Int) (0 : Int) (ByteArray.mk #[])])).length + (2 : Nat) + (2 : Nat)) = ((codeE (E.two s a b) l).length) by simp [codeE, bNot, h1, List.set_append, hlt])).trans (congrArg (fun x => Out.val (V.vec (0 : Nat) (codeE (E.two s a b) l).length (3 : Nat) (0 : Nat) x) [Ob.vec true (3 : Nat) (bcc ((codeE b (codeE a l ++ [Bc.mk (7 : Int) (0 : Int) (ByteArray.mk #[])]) ++ [Bc.mk (5 : Int) (0 : Int) (ByteArray.mk #[(33 : UInt8)]), Bc.mk (5 : Int) (0 : Int) (ByteArray.mk #[(33 : UInt8)]), Bc.mk (6 : Int) ((↑(codeE b (codeE a l ++ [Bc.mk (7 : Int) (0 : Int) (ByteArray.mk #[])])).length : Int) + (2 : Int) + (2 : Int)) (ByteArray.mk #[]), Bc.mk (1 : Int) (0 : Int) (ByteArray.mk #[])]).set (codeE a l).length (Bc.mk (7 : Int) ((↑(codeE b (codeE a l ++ [Bc.mk (7 : Int) (0 : Int) (ByteArray.mk #[])])).length : Int) + (2 : Int) + (1 : Int)) (ByteArray.mk #[]))))]) (show ((codeE b (codeE a l ++ [Bc.mk (7 : Int) (0 : Int) (ByteArray.mk #[])])).length + (2 : Nat) + (2 : Nat)) = ((codeE (E.two s a b) l).length) by simp [codeE, bNot, h1, List.set_append, hlt]))).trans (congrArg (fun x => Out.val (V.vec (0 : Nat) (codeE (E.two s a b) l).length (3 : Nat) (0 : Nat) (codeE (E.two s a b) l).length) [Ob.vec true (3 : Nat) x]) (show (bcc ((codeE b (codeE a l ++ [Bc.mk (7 : Int) (0 : Int) (ByteArray.mk #[])]) ++ [Bc.mk (5 : Int) (0 : Int) (ByteArray.mk #[(33 : UInt8)]), Bc.mk (5 : Int) (0 : Int) (ByteArray.mk #[(33 : UInt8)]), Bc.mk (6 : Int) ((↑(codeE b (codeE a l ++ [Bc.mk (7 : Int) (0 : Int) (ByteArray.mk #[])])).length : Int) + (2 : Int) + (2 : Int)) (ByteArray.mk #[]), Bc.mk (1 : Int) (0 : Int) (ByteArray.mk #[])]).set (codeE a l).length (Bc.mk (7 : Int) ((↑(codeE b (codeE a l ++ [Bc.mk (7 : Int) (0 : Int) (ByteArray.mk #[])])).length : Int) + (2 : Int) + (1 : Int)) (ByteArray.mk #[])))) = (bcc (codeE (E.two s a b) l)) by simp [codeE, bNot, h1, List.set_append, hlt])))
    · by_cases h2 : s.toList = [124, 124]
      · have ih2 := l17Make_ev b (codeE a l ++ [⟨7, (codeE a l).length + 3, e0⟩, ⟨1, 1, e0⟩, ⟨6, 0, e0⟩]) (by simp; omega) (by simp [E.names] at hn; simp [hn])
        have hl2 := codeE_len b (codeE a l ++ [⟨7, (codeE a l).length + 3, e0⟩, ⟨1, 1, e0⟩, ⟨6, 0, e0⟩])
        have hg := codeE_get b (codeE a l ++ [⟨7, (codeE a l).length + 3, e0⟩, ⟨1, 1, e0⟩, ⟨6, 0, e0⟩]) ((codeE a l).length + 2) (by simp)
        have hg2 : (bcc (codeE b (codeE a l ++ [⟨7, (codeE a l).length + 3, e0⟩, ⟨1, 1, e0⟩, ⟨6, 0, e0⟩]) ++ [bNot, bNot]))[(codeE a l).length + 2]? = some (Bc.cc ⟨6, 0, e0⟩) := by
          simp at hl2
          rw [bcc_app, List.getElem?_append_left (by simp; omega)]
          simp [bcc, hg]
        simp at hl2
        let t2 : Tp pr := .g .row (show (lkp (E.two s a b).kids (0 : Int)) = some (a.ts) from g0)
        let t6 : Tp pr := .b (show ((E.two s a b).text.toList == [(38 : UInt8), (38 : UInt8)]) = false by (simp; omega))
        let t7 : Tp pr := .b (show ((E.two s a b).text.toList == [(124 : UInt8), (124 : UInt8)]) = true by (simp; omega))
        let t8 : Tp pr := .i (rfl : ((↑(codeE a l).length : Int)) = _)
        let t9 : Tp pr := .i (wrap_i64 (a := (↑(codeE a l).length : Int) + (3 : Int)) (by omega) (by omega))
        let t11 : Tp pr := .m (show (decide ((bcc (codeE a l)).length = (codeE a l).length ∧ (0 : Nat) + (codeE a l).length ≤ (codeE a l).length ∧ (codeE a l).length + (3 : Nat) ≤ (4294967296 : Nat))) = true by (simp; omega))
        let t12 : Tp pr := .b (show (decide ((codeE a l).length + (3 : Nat) ≤ (codeE a l).length)) = false by simp)
        let t13 : Tp pr := .c (rfl : ((codeE a l).length + (3 : Nat)) = _)
        let t14 : Tp pr := .n .crows (show ((List.take (codeE a l).length (bcc (codeE a l))).append (List.take (3 : Nat) (List.drop (0 : Nat) [[C.t (T.int IntKind.i64 (7 : Int)), C.t (T.int IntKind.i64 ((↑(codeE a l).length : Int) + (3 : Int))), C.t (T.str (ByteArray.mk #[]))], [C.t (T.int IntKind.i64 (1 : Int)), C.t (T.int IntKind.i64 (1 : Int)), C.t (T.str (ByteArray.mk #[]))], [C.t (T.int IntKind.i64 (6 : Int)), C.t (T.int IntKind.i64 (0 : Int)), C.t (T.str (ByteArray.mk #[]))]]))) = bcc (codeE a l ++ [Bc.mk (7 : Int) ((↑(codeE a l).length : Int) + (3 : Int)) (ByteArray.mk #[]), Bc.mk (1 : Int) (1 : Int) (ByteArray.mk #[]), Bc.mk (6 : Int) (0 : Int) (ByteArray.mk #[])]) by simp)
        let t15 : Tp pr := .g .row (show (lkp (E.two s a b).kids (1 : Int)) = some (b.ts) from g1)
        let t16 : Tp pr := .a (Ev.castq (congrArg (fun x => Q.call (48 : FuncId) [vs b.ts, V.vec (0 : Nat) x (3 : Nat) (0 : Nat) x] [Ob.vec true (3 : Nat) (bcc (codeE a l ++ [Bc.mk (7 : Int) ((↑(codeE a l).length : Int) + (3 : Int)) e0, Bc.mk (1 : Int) (1 : Int) e0, Bc.mk (6 : Int) (0 : Int) e0]))]) (show ((codeE a l ++ [Bc.mk (7 : Int) ((↑(codeE a l).length : Int) + (3 : Int)) e0, Bc.mk (1 : Int) (1 : Int) e0, Bc.mk (6 : Int) (0 : Int) e0]).length) = ((codeE a l).length + (3 : Nat)) by simp [codeE, bNot, h1, h2])) (ih2))
        let t20 : Tp pr := .m (show (decide ((bcc (codeE b (codeE a l ++ [Bc.mk (7 : Int) ((↑(codeE a l).length : Int) + (3 : Int)) e0, Bc.mk (1 : Int) (1 : Int) e0, Bc.mk (6 : Int) (0 : Int) e0]))).length = (codeE b (codeE a l ++ [Bc.mk (7 : Int) ((↑(codeE a l).length : Int) + (3 : Int)) e0, Bc.mk (1 : Int) (1 : Int) e0, Bc.mk (6 : Int) (0 : Int) e0])).length ∧ (0 : Nat) + (codeE b (codeE a l ++ [Bc.mk (7 : Int) ((↑(codeE a l).length : Int) + (3 : Int)) e0, Bc.mk (1 : Int) (1 : Int) e0, Bc.mk (6 : Int) (0 : Int) e0])).length ≤ (codeE b (codeE a l ++ [Bc.mk (7 : Int) ((↑(codeE a l).length : Int) + (3 : Int)) e0, Bc.mk (1 : Int) (1 : Int) e0, Bc.mk (6 : Int) (0 : Int) e0])).length ∧ (codeE b (codeE a l ++ [Bc.mk (7 : Int) ((↑(codeE a l).length : Int) + (3 : Int)) e0, Bc.mk (1 : Int) (1 : Int) e0, Bc.mk (6 : Int) (0 : Int) e0])).length + (2 : Nat) ≤ (4294967296 : Nat))) = true by (simp; omega))
        let t21 : Tp pr := .b (show (decide ((codeE b (codeE a l ++ [Bc.mk (7 : Int) ((↑(codeE a l).length : Int) + (3 : Int)) e0, Bc.mk (1 : Int) (1 : Int) e0, Bc.mk (6 : Int) (0 : Int) e0])).length + (2 : Nat) ≤ (codeE b (codeE a l ++ [Bc.mk (7 : Int) ((↑(codeE a l).length : Int) + (3 : Int)) e0, Bc.mk (1 : Int) (1 : Int) e0, Bc.mk (6 : Int) (0 : Int) e0])).length)) = false by simp)
        let t22 : Tp pr := .c (show ((codeE b (codeE a l ++ [Bc.mk (7 : Int) ((↑(codeE a l).length : Int) + (3 : Int)) e0, Bc.mk (1 : Int) (1 : Int) e0, Bc.mk (6 : Int) (0 : Int) e0])).length + (2 : Nat) : Nat) = (codeE b (codeE a l ++ [Bc.mk (7 : Int) ((↑(codeE a l).length : Int) + (3 : Int)) (ByteArray.mk #[]), Bc.mk (1 : Int) (1 : Int) (ByteArray.mk #[]), Bc.mk (6 : Int) (0 : Int) (ByteArray.mk #[])])).length + (2 : Nat) by rfl)
        let t23 : Tp pr := .n .crows (show ((List.take (codeE b (codeE a l ++ [Bc.mk (7 : Int) ((↑(codeE a l).length : Int) + (3 : Int)) e0, Bc.mk (1 : Int) (1 : Int) e0, Bc.mk (6 : Int) (0 : Int) e0])).length (bcc (codeE b (codeE a l ++ [Bc.mk (7 : Int) ((↑(codeE a l).length : Int) + (3 : Int)) e0, Bc.mk (1 : Int) (1 : Int) e0, Bc.mk (6 : Int) (0 : Int) e0])))).append (List.take (2 : Nat) (List.drop (0 : Nat) [[C.t (T.int IntKind.i64 (5 : Int)), C.t (T.int IntKind.i64 (0 : Int)), C.t (T.str (ByteArray.mk #[(33 : UInt8)]))], [C.t (T.int IntKind.i64 (5 : Int)), C.t (T.int IntKind.i64 (0 : Int)), C.t (T.str (ByteArray.mk #[(33 : UInt8)]))]]))) = bcc (codeE b (codeE a l ++ [Bc.mk (7 : Int) ((↑(codeE a l).length : Int) + (3 : Int)) (ByteArray.mk #[]), Bc.mk (1 : Int) (1 : Int) (ByteArray.mk #[]), Bc.mk (6 : Int) (0 : Int) (ByteArray.mk #[])]) ++ [Bc.mk (5 : Int) (0 : Int) (ByteArray.mk #[(33 : UInt8)]), Bc.mk (5 : Int) (0 : Int) (ByteArray.mk #[(33 : UInt8)])]) by simp)
        let t24 : Tp pr := .i (wrap_i64 (a := (↑(codeE a l).length : Int) + (2 : Int)) (by omega) (by omega))
        let t25 : Tp pr := .i (show ((↑((codeE b (codeE a l ++ [Bc.mk (7 : Int) ((↑(codeE a l).length : Int) + (3 : Int)) (ByteArray.mk #[]), Bc.mk (1 : Int) (1 : Int) (ByteArray.mk #[]), Bc.mk (6 : Int) (0 : Int) (ByteArray.mk #[])])).length + (2 : Nat)) : Int) : Int) = (↑(codeE b (codeE a l ++ [Bc.mk (7 : Int) ((↑(codeE a l).length : Int) + (3 : Int)) (ByteArray.mk #[]), Bc.mk (1 : Int) (1 : Int) (ByteArray.mk #[]), Bc.mk (6 : Int) (0 : Int) (ByteArray.mk #[])])).length : Int) + (2 : Int) by omega)
        let t26 : Tp pr := .m (show (decide ((0 : Int) ≤ (↑(codeE a l).length : Int) + (2 : Int) ∧ ((↑(codeE a l).length : Int) + (2 : Int)).toNat < (codeE b (codeE a l ++ [Bc.mk (7 : Int) ((↑(codeE a l).length : Int) + (3 : Int)) (ByteArray.mk #[]), Bc.mk (1 : Int) (1 : Int) (ByteArray.mk #[]), Bc.mk (6 : Int) (0 : Int) (ByteArray.mk #[])])).length + (2 : Nat))) = true by (simp; omega))
        let t27 : Tp pr := .c (show ((0 : Nat) + ((↑(codeE a l).length : Int) + (2 : Int)).toNat : Nat) = (codeE a l).length + (2 : Nat) by omega)
        let t28 : Tp pr := .m (show (decide ((bcc (codeE b (codeE a l ++ [Bc.mk (7 : Int) ((↑(codeE a l).length : Int) + (3 : Int)) (ByteArray.mk #[]), Bc.mk (1 : Int) (1 : Int) (ByteArray.mk #[]), Bc.mk (6 : Int) (0 : Int) (ByteArray.mk #[])]) ++ [Bc.mk (5 : Int) (0 : Int) (ByteArray.mk #[(33 : UInt8)]), Bc.mk (5 : Int) (0 : Int) (ByteArray.mk #[(33 : UInt8)])])).length = (codeE b (codeE a l ++ [Bc.mk (7 : Int) ((↑(codeE a l).length : Int) + (3 : Int)) (ByteArray.mk #[]), Bc.mk (1 : Int) (1 : Int) (ByteArray.mk #[]), Bc.mk (6 : Int) (0 : Int) (ByteArray.mk #[])])).length + (2 : Nat))) = true by simp)
        let t29 : Tp pr := .g .crow (show ((bcc (codeE b (codeE a l ++ [Bc.mk (7 : Int) ((↑(codeE a l).length : Int) + (3 : Int)) (ByteArray.mk #[]), Bc.mk (1 : Int) (1 : Int) (ByteArray.mk #[]), Bc.mk (6 : Int) (0 : Int) (ByteArray.mk #[])]) ++ [Bc.mk (5 : Int) (0 : Int) (ByteArray.mk #[(33 : UInt8)]), Bc.mk (5 : Int) (0 : Int) (ByteArray.mk #[(33 : UInt8)])]))[(codeE a l).length + (2 : Nat)]?) = some ((Bc.mk (6 : Int) (0 : Int) e0).cc) from hg2)
        let t30 : Tp pr := .n .crows (show ((bcc (codeE b (codeE a l ++ [Bc.mk (7 : Int) ((↑(codeE a l).length : Int) + (3 : Int)) (ByteArray.mk #[]), Bc.mk (1 : Int) (1 : Int) (ByteArray.mk #[]), Bc.mk (6 : Int) (0 : Int) (ByteArray.mk #[])]) ++ [Bc.mk (5 : Int) (0 : Int) (ByteArray.mk #[(33 : UInt8)]), Bc.mk (5 : Int) (0 : Int) (ByteArray.mk #[(33 : UInt8)])])).set ((codeE a l).length + (2 : Nat)) [C.t (T.int IntKind.i64 (6 : Int)), C.t (T.int IntKind.i64 ((↑(codeE b (codeE a l ++ [Bc.mk (7 : Int) ((↑(codeE a l).length : Int) + (3 : Int)) (ByteArray.mk #[]), Bc.mk (1 : Int) (1 : Int) (ByteArray.mk #[]), Bc.mk (6 : Int) (0 : Int) (ByteArray.mk #[])])).length : Int) + (2 : Int))), C.t (T.str (ByteArray.mk #[]))]) = bcc ((codeE b (codeE a l ++ [Bc.mk (7 : Int) ((↑(codeE a l).length : Int) + (3 : Int)) (ByteArray.mk #[]), Bc.mk (1 : Int) (1 : Int) (ByteArray.mk #[]), Bc.mk (6 : Int) (0 : Int) (ByteArray.mk #[])]) ++ [Bc.mk (5 : Int) (0 : Int) (ByteArray.mk #[(33 : UInt8)]), Bc.mk (5 : Int) (0 : Int) (ByteArray.mk #[(33 : UInt8)])]).set ((codeE a l).length + (2 : Nat)) (Bc.mk (6 : Int) ((↑(codeE b (codeE a l ++ [Bc.mk (7 : Int) ((↑(codeE a l).length : Int) + (3 : Int)) (ByteArray.mk #[]), Bc.mk (1 : Int) (1 : Int) (ByteArray.mk #[]), Bc.mk (6 : Int) (0 : Int) (ByteArray.mk #[])])).length : Int) + (2 : Int)) (ByteArray.mk #[]))) by simp)
        exact .tpe [.b (rfl : false = false), .b (rfl : false = false), t2, .a (ih), .b (rfl : false = false), .b (rfl : false = false), t6, t7, t8, t9, .m (rfl : true = true), t11, t12, t13, t14, t15, t16, .a (l17Not_ev), .a (l17Not_ev), .m (rfl : true = true), t20, t21, t22, t23, t24, t25, t26, t27, t28, t29, t30] (Out.val (V.vec (0 : Nat) ((codeE b (codeE a l ++ [Bc.mk (7 : Int) ((↑(codeE a l).length : Int) + (3 : Int)) (ByteArray.mk #[]), Bc.mk (1 : Int) (1 : Int) (ByteArray.mk #[]), Bc.mk (6 : Int) (0 : Int) (ByteArray.mk #[])])).length + (2 : Nat)) (3 : Nat) (0 : Nat) ((codeE b (codeE a l ++ [Bc.mk (7 : Int) ((↑(codeE a l).length : Int) + (3 : Int)) (ByteArray.mk #[]), Bc.mk (1 : Int) (1 : Int) (ByteArray.mk #[]), Bc.mk (6 : Int) (0 : Int) (ByteArray.mk #[])])).length + (2 : Nat))) [Ob.vec true (3 : Nat) (bcc ((codeE b (codeE a l ++ [Bc.mk (7 : Int) ((↑(codeE a l).length : Int) + (3 : Int)) (ByteArray.mk #[]), Bc.mk (1 : Int) (1 : Int) (ByteArray.mk #[]), Bc.mk (6 : Int) (0 : Int) (ByteArray.mk #[])]) ++ [Bc.mk (5 : Int) (0 : Int) (ByteArray.mk #[(33 : UInt8)]), Bc.mk (5 : Int) (0 : Int) (ByteArray.mk #[(33 : UInt8)])]).set ((codeE a l).length + (2 : Nat)) (Bc.mk (6 : Int) ((↑(codeE b (codeE a l ++ [Bc.mk (7 : Int) ((↑(codeE a l).length : Int) + (3 : Int)) (ByteArray.mk #[]), Bc.mk (1 : Int) (1 : Int) (ByteArray.mk #[]), Bc.mk (6 : Int) (0 : Int) (ByteArray.mk #[])])).length : Int) + (2 : Int)) (ByteArray.mk #[]))))]) (by kernel_rfl) (((congrArg (fun x => Out.val (V.vec (0 : Nat) x (3 : Nat) (0 : Nat) ((codeE b (codeE a l ++ [Bc.mk (7 : Int) ((↑(codeE a l).length : Int) + (3 : Int)) (ByteArray.mk #[]), Bc.mk (1 : Int) (1 : Int) (ByteArray.mk #[]), Bc.mk (6 : Int) (0 : Int) (ByteArray.mk #[])])).length + (2 : Nat))) [Ob.vec true (3 : Nat) (bcc ((codeE b (codeE a l ++ [Bc.mk (7 : Int) ((↑(codeE a l).length : Int) + (3 : Int)) (ByteArray.mk #[]), Bc.mk (1 : Int) (1 : Int) (ByteArray.mk #[]), Bc.mk (6 : Int) (0 : Int) (ByteArray.mk #[])]) ++ [Bc.mk (5 : Int) (0 : Int) (ByteArray.mk #[(33 : UInt8)]), Bc.mk (5 : Int) (0 : Int) (ByteArray.mk #[(33 : UInt8)])]).set ((codeE a l).length + (2 : Nat)) (Bc.mk (6 : Int) ((↑(codeE b (codeE a l ++ [Bc.mk (7 : Int) ((↑(codeE a l).length : Int) + (3 : Int)) (ByteArray.mk #[]), Bc.mk (1 : Int) (1 : Int) (ByteArray.mk #[]), Bc.mk (6 : Int) (0 : Int) (ByteArray.mk #[])])).length : Int) + (2 : Int)) (ByteArray.mk #[]))))]) (show ((codeE b (codeE a l ++ [Bc.mk (7 : Int) ((↑(codeE a l).length : Int) + (3 : Int)) (ByteArray.mk #[]), Bc.mk (1 : Int) (1 : Int) (ByteArray.mk #[]), Bc.mk (6 : Int) (0 : Int) (ByteArray.mk #[])])).length + (2 : Nat)) = ((codeE (E.two s a b) l).length) by simp [codeE, bNot, h1, h2])).trans (congrArg (fun x => Out.val (V.vec (0 : Nat) (codeE (E.two s a b) l).length (3 : Nat) (0 : Nat) x) [Ob.vec true (3 : Nat) (bcc ((codeE b (codeE a l ++ [Bc.mk (7 : Int) ((↑(codeE a l).length : Int) + (3 : Int)) (ByteArray.mk #[]), Bc.mk (1 : Int) (1 : Int) (ByteArray.mk #[]), Bc.mk (6 : Int) (0 : Int) (ByteArray.mk #[])]) ++ [Bc.mk (5 : Int) (0 : Int) (ByteArray.mk #[(33 : UInt8)]), Bc.mk (5 : Int) (0 : Int) (ByteArray.mk #[(33 : UInt8)])]).set ((codeE a l).length + (2 : Nat)) (Bc.mk (6 : Int) ((↑(codeE b (codeE a l ++ [Bc.mk (7 : Int) ((↑(codeE a l).length : Int) + (3 : Int)) (ByteArray.mk #[]), Bc.mk (1 : Int) (1 : Int) (ByteArray.mk #[]), Bc.mk (6 : Int) (0 : Int) (ByteArray.mk #[])])).length : Int) + (2 : Int)) (ByteArray.mk #[]))))]) (show ((codeE b (codeE a l ++ [Bc.mk (7 : Int) ((↑(codeE a l).length : Int) + (3 : Int)) (ByteArray.mk #[]), Bc.mk (1 : Int) (1 : Int) (ByteArray.mk #[]), Bc.mk (6 : Int) (0 : Int) (ByteArray.mk #[])])).length + (2 : Nat)) = ((codeE (E.two s a b) l).length) by simp [codeE, bNot, h1, h2]))).trans (congrArg (fun x => Out.val (V.vec (0 : Nat) (codeE (E.two s a b) l).length (3 : Nat) (0 : Nat) (codeE (E.two s a b) l).length) [Ob.vec true (3 : Nat) x]) (show (bcc ((codeE b (codeE a l ++ [Bc.mk (7 : Int) ((↑(codeE a l).length : Int) + (3 : Int)) (ByteArray.mk #[]), Bc.mk (1 : Int) (1 : Int) (ByteArray.mk #[]), Bc.mk (6 : Int) (0 : Int) (ByteArray.mk #[])]) ++ [Bc.mk (5 : Int) (0 : Int) (ByteArray.mk #[(33 : UInt8)]), Bc.mk (5 : Int) (0 : Int) (ByteArray.mk #[(33 : UInt8)])]).set ((codeE a l).length + (2 : Nat)) (Bc.mk (6 : Int) ((↑(codeE b (codeE a l ++ [Bc.mk (7 : Int) ((↑(codeE a l).length : Int) + (3 : Int)) (ByteArray.mk #[]), Bc.mk (1 : Int) (1 : Int) (ByteArray.mk #[]), Bc.mk (6 : Int) (0 : Int) (ByteArray.mk #[])])).length : Int) + (2 : Int)) (ByteArray.mk #[])))) = (bcc (codeE (E.two s a b) l)) by simp [codeE, bNot, h1, h2])))
      · have ih2 := l17Make_ev b (codeE a l) (by omega) (by simp [E.names] at hn; simp [hn])
        have hl2 := codeE_len b (codeE a l)
        let t2 : Tp pr := .g .row (show (lkp (E.two s a b).kids (0 : Int)) = some (a.ts) from g0)
        let t6 : Tp pr := .b (show ((E.two s a b).text.toList == [(38 : UInt8), (38 : UInt8)]) = false by (simp; omega))
        let t7 : Tp pr := .b (show ((E.two s a b).text.toList == [(124 : UInt8), (124 : UInt8)]) = false by (simp; omega))
        let t10 : Tp pr := .g .row (show (lkp (E.two s a b).kids (1 : Int)) = some (b.ts) from g1)
        let t21 : Tp pr := .m (show (decide ((bcc (codeE b (codeE a l))).length = (codeE b (codeE a l)).length ∧ (0 : Nat) + (codeE b (codeE a l)).length ≤ (codeE b (codeE a l)).length ∧ (codeE b (codeE a l)).length + (1 : Nat) ≤ (4294967296 : Nat))) = true by (simp; omega))
        let t22 : Tp pr := .b (show (decide ((codeE b (codeE a l)).length + (1 : Nat) ≤ (codeE b (codeE a l)).length)) = false by simp)
        let t23 : Tp pr := .c (rfl : ((codeE b (codeE a l)).length + (1 : Nat)) = _)
        let t24 : Tp pr := .n .crows (show ((List.take (codeE b (codeE a l)).length (bcc (codeE b (codeE a l)))).append (List.take (1 : Nat) (List.drop (0 : Nat) [[C.t (T.int IntKind.i64 (4 : Int)), C.t (T.int IntKind.i64 (0 : Int)), C.t (T.str (E.two s a b).text)]]))) = bcc (codeE b (codeE a l) ++ [Bc.mk (4 : Int) (0 : Int) s]) by simp)
        exact .tpe [.b (rfl : false = false), .b (rfl : false = false), t2, .a (ih), .b (rfl : false = false), .b (rfl : false = false), t6, t7, .m (rfl : true = true), .m (rfl : true = true), t10, .m (rfl : true = true), .m (rfl : true = true), .m (rfl : true = true), .a (ih2), .m (rfl : true = true), .m (rfl : true = true), .m (rfl : true = true), .m (rfl : true = true), .m (rfl : true = true), .m (rfl : true = true), t21, t22, t23, t24, .m (rfl : true = true), .m (rfl : true = true)] (Out.val (V.vec (0 : Nat) ((codeE b (codeE a l)).length + (1 : Nat)) (3 : Nat) (0 : Nat) ((codeE b (codeE a l)).length + (1 : Nat))) [Ob.vec true (3 : Nat) (bcc (codeE b (codeE a l) ++ [Bc.mk (4 : Int) (0 : Int) s]))]) (by kernel_rfl) (((congrArg (fun x => Out.val (V.vec (0 : Nat) x (3 : Nat) (0 : Nat) ((codeE b (codeE a l)).length + (1 : Nat))) [Ob.vec true (3 : Nat) (bcc (codeE b (codeE a l) ++ [Bc.mk (4 : Int) (0 : Int) s]))]) (show ((codeE b (codeE a l)).length + (1 : Nat)) = ((codeE (E.two s a b) l).length) by simp [codeE, bNot, h1, h2])).trans (congrArg (fun x => Out.val (V.vec (0 : Nat) (codeE (E.two s a b) l).length (3 : Nat) (0 : Nat) x) [Ob.vec true (3 : Nat) (bcc (codeE b (codeE a l) ++ [Bc.mk (4 : Int) (0 : Int) s]))]) (show ((codeE b (codeE a l)).length + (1 : Nat)) = ((codeE (E.two s a b) l).length) by simp [codeE, bNot, h1, h2]))).trans (congrArg (fun x => Out.val (V.vec (0 : Nat) (codeE (E.two s a b) l).length (3 : Nat) (0 : Nat) (codeE (E.two s a b) l).length) [Ob.vec true (3 : Nat) x]) (show (bcc (codeE b (codeE a l) ++ [Bc.mk (4 : Int) (0 : Int) s])) = (bcc (codeE (E.two s a b) l)) by simp [codeE, bNot, h1, h2])))
theorem l17MakeN_ev : ∀ (e : E), 6 * e.size ≤ 1000000 → e.names = true →
    Ev pr (.call 48 [vs e.ts, .t .nils] []) (.val (.vec 0 (codeE e []).length 3 0 (codeE e []).length) [.vec true 3 (bcc (codeE e []))])
  | .num n, h, hn => by
    let t4 : Tp pr := .n .crows (show (List.take (1 : Nat) (List.drop (0 : Nat) [[C.t (T.int IntKind.i64 (1 : Int)), C.t (T.int IntKind.i64 (E.num n).nm), C.t (T.str (ByteArray.mk #[]))]])) = bcc [Bc.mk (1 : Int) n (ByteArray.mk #[])] by simp)
    exact .tp [.b (rfl : true = true), .m (rfl : true = true), .m (rfl : true = true), .c (rfl : ((1 : Nat)) = _), t4] (by kernel_rfl)
  | .name s, h, hn => by
    have hk := NameNoS_ev s
    have hk0 : 0 ≤ nameNo s := by simpa [E.names] using hn
    rw [if_neg (by omega)] at hk
    let t6 : Tp pr := .n .crows (show (List.take (1 : Nat) (List.drop (0 : Nat) [[C.t (T.int IntKind.i64 (2 : Int)), C.t (T.int IntKind.i64 (nameNo s)), C.t (T.str (ByteArray.mk #[]))]])) = bcc [Bc.mk (2 : Int) (nameNo s) (ByteArray.mk #[])] by simp)
    exact .tp [.b (rfl : false = false), .b (rfl : true = true), .a (hk), .m (rfl : true = true), .m (rfl : true = true), .c (rfl : ((1 : Nat)) = _), t6] (by kernel_rfl)
  | .neg a, h, hn => by
    have g0 : lkp (E.neg a).kids 0 = some a.ts := rfl
    have ih := l17MakeN_ev a (by simp [E.size] at h; omega) (by simp [E.names] at hn; simp [hn])
    have hl := codeE_len a []
    simp only [List.length_nil] at hl
    simp only [E.size] at h
    let t2 : Tp pr := .g .row (show (lkp a.neg.kids (0 : Int)) = some (a.ts) from g0)
    let t6 : Tp pr := .m (show (decide ((bcc (codeE a [])).length = (codeE a []).length ∧ (0 : Nat) + (codeE a []).length ≤ (codeE a []).length ∧ (codeE a []).length + (1 : Nat) ≤ (4294967296 : Nat))) = true by (simp; omega))
    let t7 : Tp pr := .b (show (decide ((codeE a []).length + (1 : Nat) ≤ (codeE a []).length)) = false by simp)
    let t8 : Tp pr := .c (rfl : ((codeE a []).length + (1 : Nat)) = _)
    let t9 : Tp pr := .n .crows (show ((List.take (codeE a []).length (bcc (codeE a []))).append (List.take (1 : Nat) (List.drop (0 : Nat) [[C.t (T.int IntKind.i64 (5 : Int)), C.t (T.int IntKind.i64 (0 : Int)), C.t (T.str (ByteArray.mk #[(45 : UInt8)]))]]))) = bcc (codeE a [] ++ [Bc.mk (5 : Int) (0 : Int) (ByteArray.mk #[(45 : UInt8)])]) by simp)
    exact .tpe [.b (rfl : false = false), .b (rfl : false = false), t2, .a (ih), .b (rfl : true = true), .m (rfl : true = true), t6, t7, t8, t9] (Out.val (V.vec (0 : Nat) ((codeE a []).length + (1 : Nat)) (3 : Nat) (0 : Nat) ((codeE a []).length + (1 : Nat))) [Ob.vec true (3 : Nat) (bcc (codeE a [] ++ [Bc.mk (5 : Int) (0 : Int) (ByteArray.mk #[(45 : UInt8)])]))]) (by kernel_rfl) (((congrArg (fun x => Out.val (V.vec (0 : Nat) x (3 : Nat) (0 : Nat) ((codeE a []).length + (1 : Nat))) [Ob.vec true (3 : Nat) (bcc (codeE a [] ++ [Bc.mk (5 : Int) (0 : Int) (ByteArray.mk #[(45 : UInt8)])]))]) (show ((codeE a []).length + (1 : Nat)) = ((codeE a.neg []).length) by simp [codeE])).trans (congrArg (fun x => Out.val (V.vec (0 : Nat) (codeE a.neg []).length (3 : Nat) (0 : Nat) x) [Ob.vec true (3 : Nat) (bcc (codeE a [] ++ [Bc.mk (5 : Int) (0 : Int) (ByteArray.mk #[(45 : UInt8)])]))]) (show ((codeE a []).length + (1 : Nat)) = ((codeE a.neg []).length) by simp [codeE]))).trans (congrArg (fun x => Out.val (V.vec (0 : Nat) (codeE a.neg []).length (3 : Nat) (0 : Nat) (codeE a.neg []).length) [Ob.vec true (3 : Nat) x]) (show (bcc (codeE a [] ++ [Bc.mk (5 : Int) (0 : Int) (ByteArray.mk #[(45 : UInt8)])])) = (bcc (codeE a.neg [])) by simp [codeE])))
  | .not a, h, hn => by
    have g0 : lkp (E.not a).kids 0 = some a.ts := rfl
    have ih := l17MakeN_ev a (by simp [E.size] at h; omega) (by simp [E.names] at hn; simp [hn])
    have hl := codeE_len a []
    simp only [List.length_nil] at hl
    simp only [E.size] at h
    let t2 : Tp pr := .g .row (show (lkp a.not.kids (0 : Int)) = some (a.ts) from g0)
    let t8 : Tp pr := .m (show (decide ((bcc (codeE a [])).length = (codeE a []).length ∧ (0 : Nat) + (codeE a []).length ≤ (codeE a []).length ∧ (codeE a []).length + (1 : Nat) ≤ (4294967296 : Nat))) = true by (simp; omega))
    let t9 : Tp pr := .b (show (decide ((codeE a []).length + (1 : Nat) ≤ (codeE a []).length)) = false by simp)
    let t10 : Tp pr := .c (rfl : ((codeE a []).length + (1 : Nat)) = _)
    let t11 : Tp pr := .n .crows (show ((List.take (codeE a []).length (bcc (codeE a []))).append (List.take (1 : Nat) (List.drop (0 : Nat) [[C.t (T.int IntKind.i64 (5 : Int)), C.t (T.int IntKind.i64 (0 : Int)), C.t (T.str (ByteArray.mk #[(33 : UInt8)]))]]))) = bcc (codeE a [] ++ [Bc.mk (5 : Int) (0 : Int) (ByteArray.mk #[(33 : UInt8)])]) by simp)
    exact .tpe [.b (rfl : false = false), .b (rfl : false = false), t2, .a (ih), .b (rfl : false = false), .b (rfl : true = true), .a (l17Not_ev), .m (rfl : true = true), t8, t9, t10, t11] (Out.val (V.vec (0 : Nat) ((codeE a []).length + (1 : Nat)) (3 : Nat) (0 : Nat) ((codeE a []).length + (1 : Nat))) [Ob.vec true (3 : Nat) (bcc (codeE a [] ++ [Bc.mk (5 : Int) (0 : Int) (ByteArray.mk #[(33 : UInt8)])]))]) (by kernel_rfl) (((congrArg (fun x => Out.val (V.vec (0 : Nat) x (3 : Nat) (0 : Nat) ((codeE a []).length + (1 : Nat))) [Ob.vec true (3 : Nat) (bcc (codeE a [] ++ [Bc.mk (5 : Int) (0 : Int) (ByteArray.mk #[(33 : UInt8)])]))]) (show ((codeE a []).length + (1 : Nat)) = ((codeE a.not []).length) by simp [codeE, bNot])).trans (congrArg (fun x => Out.val (V.vec (0 : Nat) (codeE a.not []).length (3 : Nat) (0 : Nat) x) [Ob.vec true (3 : Nat) (bcc (codeE a [] ++ [Bc.mk (5 : Int) (0 : Int) (ByteArray.mk #[(33 : UInt8)])]))]) (show ((codeE a []).length + (1 : Nat)) = ((codeE a.not []).length) by simp [codeE, bNot]))).trans (congrArg (fun x => Out.val (V.vec (0 : Nat) (codeE a.not []).length (3 : Nat) (0 : Nat) (codeE a.not []).length) [Ob.vec true (3 : Nat) x]) (show (bcc (codeE a [] ++ [Bc.mk (5 : Int) (0 : Int) (ByteArray.mk #[(33 : UInt8)])])) = (bcc (codeE a.not [])) by simp [codeE, bNot])))
  | .two s a b, h, hn => by
    have g0 : lkp (E.two s a b).kids 0 = some a.ts := rfl
    have g1 : lkp (E.two s a b).kids 1 = some b.ts := rfl
    have ih := l17MakeN_ev a (by simp [E.size] at h; omega) (by simp [E.names] at hn; simp [hn])
    have hl := codeE_len a []
    simp only [List.length_nil] at hl
    simp only [E.size] at h
    by_cases h1 : s.toList = [38, 38]
    · have ih2 := l17Make_ev b (codeE a [] ++ [⟨7, 0, e0⟩]) (by simp; omega) (by simp [E.names] at hn; simp [hn])
      have hl2 := codeE_len b (codeE a [] ++ [⟨7, 0, e0⟩])
      have hg := codeE_get b (codeE a [] ++ [⟨7, 0, e0⟩]) (codeE a []).length (by simp)
      have hg2 : (bcc (codeE b (codeE a [] ++ [⟨7, 0, e0⟩]) ++ [bNot, bNot]))[(codeE a []).length]? = some (Bc.cc ⟨7, 0, e0⟩) := by
        simp at hl2
        rw [bcc_app, List.getElem?_append_left (by simp; omega)]
        simp [bcc, hg]
      have hg3 : ∀ r : List Bc, (bcc (codeE b ((codeE a []) ++ [⟨7, 0, e0⟩]) ++ r))[(codeE a []).length]? = some (Bc.cc ⟨7, 0, e0⟩) := fun r => by
        simp at hl2
        rw [bcc_app, List.getElem?_append_left (by simp; omega)]
        simp [bcc, hg]
      simp at hl2
      have hlt : (codeE a []).length < (codeE b ((codeE a []) ++ [⟨7, 0, ⟨#[]⟩⟩])).length := by omega
      let t2 : Tp pr := .g .row (show (lkp (E.two s a b).kids (0 : Int)) = some (a.ts) from g0)
      let t6 : Tp pr := .b (show ((E.two s a b).text.toList == [(38 : UInt8), (38 : UInt8)]) = true by (simp; omega))
      let t7 : Tp pr := .i (rfl : ((↑(codeE a []).length : Int)) = _)
      let t9 : Tp pr := .m (show (decide ((bcc (codeE a [])).length = (codeE a []).length ∧ (0 : Nat) + (codeE a []).length ≤ (codeE a []).length ∧ (codeE a []).length + (1 : Nat) ≤ (4294967296 : Nat))) = true by (simp; omega))
      let t10 : Tp pr := .b (show (decide ((codeE a []).length + (1 : Nat) ≤ (codeE a []).length)) = false by simp)
      let t11 : Tp pr := .c (rfl : ((codeE a []).length + (1 : Nat)) = _)
      let t12 : Tp pr := .n .crows (show ((List.take (codeE a []).length (bcc (codeE a []))).append (List.take (1 : Nat) (List.drop (0 : Nat) [[C.t (T.int IntKind.i64 (7 : Int)), C.t (T.int IntKind.i64 (0 : Int)), C.t (T.str (ByteArray.mk #[]))]]))) = bcc (codeE a [] ++ [Bc.mk (7 : Int) (0 : Int) (ByteArray.mk #[])]) by simp)
      let t13 : Tp pr := .g .row (show (lkp (E.two s a b).kids (1 : Int)) = some (b.ts) from g1)
      let t14 : Tp pr := .a (Ev.castq (congrArg (fun x => Q.call (48 : FuncId) [vs b.ts, V.vec (0 : Nat) x (3 : Nat) (0 : Nat) x] [Ob.vec true (3 : Nat) (bcc (codeE a [] ++ [Bc.mk (7 : Int) (0 : Int) e0]))]) (show ((codeE a [] ++ [Bc.mk (7 : Int) (0 : Int) e0]).length) = ((codeE a []).length + (1 : Nat)) by simp [codeE, bNot, h1, List.set_append, hlt])) (ih2))
      let t18 : Tp pr := .m (show (decide ((bcc (codeE b (codeE a [] ++ [Bc.mk (7 : Int) (0 : Int) e0]))).length = (codeE b (codeE a [] ++ [Bc.mk (7 : Int) (0 : Int) e0])).length ∧ (0 : Nat) + (codeE b (codeE a [] ++ [Bc.mk (7 : Int) (0 : Int) e0])).length ≤ (codeE b (codeE a [] ++ [Bc.mk (7 : Int) (0 : Int) e0])).length ∧ (codeE b (codeE a [] ++ [Bc.mk (7 : Int) (0 : Int) e0])).length + (2 : Nat) ≤ (4294967296 : Nat))) = true by (simp; omega))
      let t19 : Tp pr := .b (show (decide ((codeE b (codeE a [] ++ [Bc.mk (7 : Int) (0 : Int) e0])).length + (2 : Nat) ≤ (codeE b (codeE a [] ++ [Bc.mk (7 : Int) (0 : Int) e0])).length)) = false by simp)
      let t20 : Tp pr := .c (show ((codeE b (codeE a [] ++ [Bc.mk (7 : Int) (0 : Int) e0])).length + (2 : Nat) : Nat) = (codeE b (codeE a [] ++ [Bc.mk (7 : Int) (0 : Int) (ByteArray.mk #[])])).length + (2 : Nat) by rfl)
      let t21 : Tp pr := .n .crows (show ((List.take (codeE b (codeE a [] ++ [Bc.mk (7 : Int) (0 : Int) e0])).length (bcc (codeE b (codeE a [] ++ [Bc.mk (7 : Int) (0 : Int) e0])))).append (List.take (2 : Nat) (List.drop (0 : Nat) [[C.t (T.int IntKind.i64 (5 : Int)), C.t (T.int IntKind.i64 (0 : Int)), C.t (T.str (ByteArray.mk #[(33 : UInt8)]))], [C.t (T.int IntKind.i64 (5 : Int)), C.t (T.int IntKind.i64 (0 : Int)), C.t (T.str (ByteArray.mk #[(33 : UInt8)]))]]))) = bcc (codeE b (codeE a [] ++ [Bc.mk (7 : Int) (0 : Int) (ByteArray.mk #[])]) ++ [Bc.mk (5 : Int) (0 : Int) (ByteArray.mk #[(33 : UInt8)]), Bc.mk (5 : Int) (0 : Int) (ByteArray.mk #[(33 : UInt8)])]) by simp)
      let t22 : Tp pr := .i (show ((↑((codeE b (codeE a [] ++ [Bc.mk (7 : Int) (0 : Int) (ByteArray.mk #[])])).length + (2 : Nat)) : Int) : Int) = (↑(codeE b (codeE a [] ++ [Bc.mk (7 : Int) (0 : Int) (ByteArray.mk #[])])).length : Int) + (2 : Int) by omega)
      let t23 : Tp pr := .i (wrap_i64 (a := (↑(codeE b (codeE a [] ++ [Bc.mk (7 : Int) (0 : Int) (ByteArray.mk #[])])).length : Int) + (2 : Int) + (2 : Int)) (by omega) (by omega))
      let t25 : Tp pr := .m (show (decide ((bcc (codeE b (codeE a [] ++ [Bc.mk (7 : Int) (0 : Int) (ByteArray.mk #[])]) ++ [Bc.mk (5 : Int) (0 : Int) (ByteArray.mk #[(33 : UInt8)]), Bc.mk (5 : Int) (0 : Int) (ByteArray.mk #[(33 : UInt8)])])).length = (codeE b (codeE a [] ++ [Bc.mk (7 : Int) (0 : Int) (ByteArray.mk #[])])).length + (2 : Nat) ∧ (0 : Nat) + ((codeE b (codeE a [] ++ [Bc.mk (7 : Int) (0 : Int) (ByteArray.mk #[])])).length + (2 : Nat)) ≤ (codeE b (codeE a [] ++ [Bc.mk (7 : Int) (0 : Int) (ByteArray.mk #[])])).length + (2 : Nat) ∧ (codeE b (codeE a [] ++ [Bc.mk (7 : Int) (0 : Int) (ByteArray.mk #[])])).length + (2 : Nat) + (2 : Nat) ≤ (4294967296 : Nat))) = true by (simp; omega))
      let t26 : Tp pr := .b (show (decide ((codeE b (codeE a [] ++ [Bc.mk (7 : Int) (0 : Int) (ByteArray.mk #[])])).length + (2 : Nat) + (2 : Nat) ≤ (codeE b (codeE a [] ++ [Bc.mk (7 : Int) (0 : Int) (ByteArray.mk #[])])).length + (2 : Nat))) = false by simp)
      let t27 : Tp pr := .c (rfl : ((codeE b (codeE a [] ++ [Bc.mk (7 : Int) (0 : Int) (ByteArray.mk #[])])).length + (2 : Nat) + (2 : Nat)) = _)
      let t28 : Tp pr := .n .crows (show ((List.take ((codeE b (codeE a [] ++ [Bc.mk (7 : Int) (0 : Int) (ByteArray.mk #[])])).length + (2 : Nat)) (bcc (codeE b (codeE a [] ++ [Bc.mk (7 : Int) (0 : Int) (ByteArray.mk #[])]) ++ [Bc.mk (5 : Int) (0 : Int) (ByteArray.mk #[(33 : UInt8)]), Bc.mk (5 : Int) (0 : Int) (ByteArray.mk #[(33 : UInt8)])]))).append (List.take (2 : Nat) (List.drop (0 : Nat) [[C.t (T.int IntKind.i64 (6 : Int)), C.t (T.int IntKind.i64 ((↑(codeE b (codeE a [] ++ [Bc.mk (7 : Int) (0 : Int) (ByteArray.mk #[])])).length : Int) + (2 : Int) + (2 : Int))), C.t (T.str (ByteArray.mk #[]))], [C.t (T.int IntKind.i64 (1 : Int)), C.t (T.int IntKind.i64 (0 : Int)), C.t (T.str (ByteArray.mk #[]))]]))) = bcc (codeE b (codeE a [] ++ [Bc.mk (7 : Int) (0 : Int) (ByteArray.mk #[])]) ++ [Bc.mk (5 : Int) (0 : Int) (ByteArray.mk #[(33 : UInt8)]), Bc.mk (5 : Int) (0 : Int) (ByteArray.mk #[(33 : UInt8)]), Bc.mk (6 : Int) ((↑(codeE b (codeE a [] ++ [Bc.mk (7 : Int) (0 : Int) (ByteArray.mk #[])])).length : Int) + (2 : Int) + (2 : Int)) (ByteArray.mk #[]), Bc.mk (1 : Int) (0 : Int) (ByteArray.mk #[])]) by simp)
      let t29 : Tp pr := .i (wrap_i64 (a := (↑(codeE b (codeE a [] ++ [Bc.mk (7 : Int) (0 : Int) (ByteArray.mk #[])])).length : Int) + (2 : Int) + (1 : Int)) (by omega) (by omega))
      let t30 : Tp pr := .m (show (decide ((0 : Int) ≤ (↑(codeE a []).length : Int) ∧ (↑(codeE a []).length : Int).toNat < (codeE b (codeE a [] ++ [Bc.mk (7 : Int) (0 : Int) (ByteArray.mk #[])])).length + (2 : Nat) + (2 : Nat))) = true by (simp; omega))
      let t31 : Tp pr := .c (show ((0 : Nat) + (↑(codeE a []).length : Int).toNat : Nat) = (codeE a []).length by omega)
      let t32 : Tp pr := .m (show (decide ((bcc (codeE b (codeE a [] ++ [Bc.mk (7 : Int) (0 : Int) (ByteArray.mk #[])]) ++ [Bc.mk (5 : Int) (0 : Int) (ByteArray.mk #[(33 : UInt8)]), Bc.mk (5 : Int) (0 : Int) (ByteArray.mk #[(33 : UInt8)]), Bc.mk (6 : Int) ((↑(codeE b (codeE a [] ++ [Bc.mk (7 : Int) (0 : Int) (ByteArray.mk #[])])).length : Int) + (2 : Int) + (2 : Int)) (ByteArray.mk #[]), Bc.mk (1 : Int) (0 : Int) (ByteArray.mk #[])])).length = (codeE b (codeE a [] ++ [Bc.mk (7 : Int) (0 : Int) (ByteArray.mk #[])])).length + (2 : Nat) + (2 : Nat))) = true by simp)
      let t33 : Tp pr := .g .crow (show ((bcc (codeE b (codeE a [] ++ [Bc.mk (7 : Int) (0 : Int) (ByteArray.mk #[])]) ++ [Bc.mk (5 : Int) (0 : Int) (ByteArray.mk #[(33 : UInt8)]), Bc.mk (5 : Int) (0 : Int) (ByteArray.mk #[(33 : UInt8)]), Bc.mk (6 : Int) ((↑(codeE b (codeE a [] ++ [Bc.mk (7 : Int) (0 : Int) (ByteArray.mk #[])])).length : Int) + (2 : Int) + (2 : Int)) (ByteArray.mk #[]), Bc.mk (1 : Int) (0 : Int) (ByteArray.mk #[])]))[(codeE a []).length]?) = some ((Bc.mk (7 : Int) (0 : Int) (ByteArray.mk #[])).cc) by simp [*])
      let t34 : Tp pr := .n .crows (show ((bcc (codeE b (codeE a [] ++ [Bc.mk (7 : Int) (0 : Int) (ByteArray.mk #[])]) ++ [Bc.mk (5 : Int) (0 : Int) (ByteArray.mk #[(33 : UInt8)]), Bc.mk (5 : Int) (0 : Int) (ByteArray.mk #[(33 : UInt8)]), Bc.mk (6 : Int) ((↑(codeE b (codeE a [] ++ [Bc.mk (7 : Int) (0 : Int) (ByteArray.mk #[])])).length : Int) + (2 : Int) + (2 : Int)) (ByteArray.mk #[]), Bc.mk (1 : Int) (0 : Int) (ByteArray.mk #[])])).set (codeE a []).length [C.t (T.int IntKind.i64 (7 : Int)), C.t (T.int IntKind.i64 ((↑(codeE b (codeE a [] ++ [Bc.mk (7 : Int) (0 : Int) (ByteArray.mk #[])])).length : Int) + (2 : Int) + (1 : Int))), C.t (T.str (ByteArray.mk #[]))]) = bcc ((codeE b (codeE a [] ++ [Bc.mk (7 : Int) (0 : Int) (ByteArray.mk #[])]) ++ [Bc.mk (5 : Int) (0 : Int) (ByteArray.mk #[(33 : UInt8)]), Bc.mk (5 : Int) (0 : Int) (ByteArray.mk #[(33 : UInt8)]), Bc.mk (6 : Int) ((↑(codeE b (codeE a [] ++ [Bc.mk (7 : Int) (0 : Int) (ByteArray.mk #[])])).length : Int) + (2 : Int) + (2 : Int)) (ByteArray.mk #[]), Bc.mk (1 : Int) (0 : Int) (ByteArray.mk #[])]).set (codeE a []).length (Bc.mk (7 : Int) ((↑(codeE b (codeE a [] ++ [Bc.mk (7 : Int) (0 : Int) (ByteArray.mk #[])])).length : Int) + (2 : Int) + (1 : Int)) (ByteArray.mk #[]))) by simp)
      exact .tpe [.b (rfl : false = false), .b (rfl : false = false), t2, .a (ih), .b (rfl : false = false), .b (rfl : false = false), t6, t7, .m (rfl : true = true), t9, t10, t11, t12, t13, t14, .a (l17Not_ev), .a (l17Not_ev), .m (rfl : true = true), t18, t19, t20, t21, t22, t23, .m (rfl : true = true), t25, t26, t27, t28, t29, t30, t31, t32, t33, t34] (Out.val (V.vec (0 : Nat) ((codeE b (codeE a [] ++ [Bc.mk (7 : Int) (0 : Int) (ByteArray.mk #[])])).length + (2 : Nat) + (2 : Nat)) (3 : Nat) (0 : Nat) ((codeE b (codeE a [] ++ [Bc.mk (7 : Int) (0 : Int) (ByteArray.mk #[])])).length + (2 : Nat) + (2 : Nat))) [Ob.vec true (3 : Nat) (bcc ((codeE b (codeE a [] ++ [Bc.mk (7 : Int) (0 : Int) (ByteArray.mk #[])]) ++ [Bc.mk (5 : Int) (0 : Int) (ByteArray.mk #[(33 : UInt8)]), Bc.mk (5 : Int) (0 : Int) (ByteArray.mk #[(33 : UInt8)]), Bc.mk (6 : Int) ((↑(codeE b (codeE a [] ++ [Bc.mk (7 : Int) (0 : Int) (ByteArray.mk #[])])).length : Int) + (2 : Int) + (2 : Int)) (ByteArray.mk #[]), Bc.mk (1 : Int) (0 : Int) (ByteArray.mk #[])]).set (codeE a []).length (Bc.mk (7 : Int) ((↑(codeE b (codeE a [] ++ [Bc.mk (7 : Int) (0 : Int) (ByteArray.mk #[])])).length : Int) + (2 : Int) + (1 : Int)) (ByteArray.mk #[]))))]) (by kernel_rfl) (((congrArg (fun x => Out.val (V.vec (0 : Nat) x (3 : Nat) (0 : Nat) ((codeE b (codeE a [] ++ [Bc.mk (7 : Int) (0 : Int) (ByteArray.mk #[])])).length + (2 : Nat) + (2 : Nat))) [Ob.vec true (3 : Nat) (bcc ((codeE b (codeE a [] ++ [Bc.mk (7 : Int) (0 : Int) (ByteArray.mk #[])]) ++ [Bc.mk (5 : Int) (0 : Int) (ByteArray.mk #[(33 : UInt8)]), Bc.mk (5 : Int) (0 : Int) (ByteArray.mk #[(33 : UInt8)]), Bc.mk (6 : Int) ((↑(codeE b (codeE a [] ++ [Bc.mk (7 : Int) (0 : Int) (ByteArray.mk #[])])).length : Int) + (2 : Int) + (2 : Int)) (ByteArray.mk #[]), Bc.mk (1 : Int) (0 : Int) (ByteArray.mk #[])]).set (codeE a []).length (Bc.mk (7 : Int) ((↑(codeE b (codeE a [] ++ [Bc.mk (7 : Int) (0 : Int) (ByteArray.mk #[])])).length : Int) + (2 : Int) + (1 : Int)) (ByteArray.mk #[]))))]) (show ((codeE b (codeE a [] ++ [Bc.mk (7 : Int) (0 : Int) (ByteArray.mk #[])])).length + (2 : Nat) + (2 : Nat)) = ((codeE (E.two s a b) []).length) by simp [codeE, bNot, h1, List.set_append, hlt])).trans (congrArg (fun x => Out.val (V.vec (0 : Nat) (codeE (E.two s a b) []).length (3 : Nat) (0 : Nat) x) [Ob.vec true (3 : Nat) (bcc ((codeE b (codeE a [] ++ [Bc.mk (7 : Int) (0 : Int) (ByteArray.mk #[])]) ++ [Bc.mk (5 : Int) (0 : Int) (ByteArray.mk #[(33 : UInt8)]), Bc.mk (5 : Int) (0 : Int) (ByteArray.mk #[(33 : UInt8)]), Bc.mk (6 : Int) ((↑(codeE b (codeE a [] ++ [Bc.mk (7 : Int) (0 : Int) (ByteArray.mk #[])])).length : Int) + (2 : Int) + (2 : Int)) (ByteArray.mk #[]), Bc.mk (1 : Int) (0 : Int) (ByteArray.mk #[])]).set (codeE a []).length (Bc.mk (7 : Int) ((↑(codeE b (codeE a [] ++ [Bc.mk (7 : Int) (0 : Int) (ByteArray.mk #[])])).length : Int) + (2 : Int) + (1 : Int)) (ByteArray.mk #[]))))]) (show ((codeE b (codeE a [] ++ [Bc.mk (7 : Int) (0 : Int) (ByteArray.mk #[])])).length + (2 : Nat) + (2 : Nat)) = ((codeE (E.two s a b) []).length) by simp [codeE, bNot, h1, List.set_append, hlt]))).trans (congrArg (fun x => Out.val (V.vec (0 : Nat) (codeE (E.two s a b) []).length (3 : Nat) (0 : Nat) (codeE (E.two s a b) []).length) [Ob.vec true (3 : Nat) x]) (show (bcc ((codeE b (codeE a [] ++ [Bc.mk (7 : Int) (0 : Int) (ByteArray.mk #[])]) ++ [Bc.mk (5 : Int) (0 : Int) (ByteArray.mk #[(33 : UInt8)]), Bc.mk (5 : Int) (0 : Int) (ByteArray.mk #[(33 : UInt8)]), Bc.mk (6 : Int) ((↑(codeE b (codeE a [] ++ [Bc.mk (7 : Int) (0 : Int) (ByteArray.mk #[])])).length : Int) + (2 : Int) + (2 : Int)) (ByteArray.mk #[]), Bc.mk (1 : Int) (0 : Int) (ByteArray.mk #[])]).set (codeE a []).length (Bc.mk (7 : Int) ((↑(codeE b (codeE a [] ++ [Bc.mk (7 : Int) (0 : Int) (ByteArray.mk #[])])).length : Int) + (2 : Int) + (1 : Int)) (ByteArray.mk #[])))) = (bcc (codeE (E.two s a b) [])) by simp [codeE, bNot, h1, List.set_append, hlt])))
    · by_cases h2 : s.toList = [124, 124]
      · have ih2 := l17Make_ev b (codeE a [] ++ [⟨7, (codeE a []).length + 3, e0⟩, ⟨1, 1, e0⟩, ⟨6, 0, e0⟩]) (by simp; omega) (by simp [E.names] at hn; simp [hn])
        have hl2 := codeE_len b (codeE a [] ++ [⟨7, (codeE a []).length + 3, e0⟩, ⟨1, 1, e0⟩, ⟨6, 0, e0⟩])
        have hg := codeE_get b (codeE a [] ++ [⟨7, (codeE a []).length + 3, e0⟩, ⟨1, 1, e0⟩, ⟨6, 0, e0⟩]) ((codeE a []).length + 2) (by simp)
        have hg2 : (bcc (codeE b (codeE a [] ++ [⟨7, (codeE a []).length + 3, e0⟩, ⟨1, 1, e0⟩, ⟨6, 0, e0⟩]) ++ [bNot, bNot]))[(codeE a []).length + 2]? = some (Bc.cc ⟨6, 0, e0⟩) := by
          simp at hl2
          rw [bcc_app, List.getElem?_append_left (by simp; omega)]
          simp [bcc, hg]
        simp at hl2
        let t2 : Tp pr := .g .row (show (lkp (E.two s a b).kids (0 : Int)) = some (a.ts) from g0)
        let t6 : Tp pr := .b (show ((E.two s a b).text.toList == [(38 : UInt8), (38 : UInt8)]) = false by (simp; omega))
        let t7 : Tp pr := .b (show ((E.two s a b).text.toList == [(124 : UInt8), (124 : UInt8)]) = true by (simp; omega))
        let t8 : Tp pr := .i (rfl : ((↑(codeE a []).length : Int)) = _)
        let t9 : Tp pr := .i (wrap_i64 (a := (↑(codeE a []).length : Int) + (3 : Int)) (by omega) (by omega))
        let t11 : Tp pr := .m (show (decide ((bcc (codeE a [])).length = (codeE a []).length ∧ (0 : Nat) + (codeE a []).length ≤ (codeE a []).length ∧ (codeE a []).length + (3 : Nat) ≤ (4294967296 : Nat))) = true by (simp; omega))
        let t12 : Tp pr := .b (show (decide ((codeE a []).length + (3 : Nat) ≤ (codeE a []).length)) = false by simp)
        let t13 : Tp pr := .c (rfl : ((codeE a []).length + (3 : Nat)) = _)
        let t14 : Tp pr := .n .crows (show ((List.take (codeE a []).length (bcc (codeE a []))).append (List.take (3 : Nat) (List.drop (0 : Nat) [[C.t (T.int IntKind.i64 (7 : Int)), C.t (T.int IntKind.i64 ((↑(codeE a []).length : Int) + (3 : Int))), C.t (T.str (ByteArray.mk #[]))], [C.t (T.int IntKind.i64 (1 : Int)), C.t (T.int IntKind.i64 (1 : Int)), C.t (T.str (ByteArray.mk #[]))], [C.t (T.int IntKind.i64 (6 : Int)), C.t (T.int IntKind.i64 (0 : Int)), C.t (T.str (ByteArray.mk #[]))]]))) = bcc (codeE a [] ++ [Bc.mk (7 : Int) ((↑(codeE a []).length : Int) + (3 : Int)) (ByteArray.mk #[]), Bc.mk (1 : Int) (1 : Int) (ByteArray.mk #[]), Bc.mk (6 : Int) (0 : Int) (ByteArray.mk #[])]) by simp)
        let t15 : Tp pr := .g .row (show (lkp (E.two s a b).kids (1 : Int)) = some (b.ts) from g1)
        let t16 : Tp pr := .a (Ev.castq (congrArg (fun x => Q.call (48 : FuncId) [vs b.ts, V.vec (0 : Nat) x (3 : Nat) (0 : Nat) x] [Ob.vec true (3 : Nat) (bcc (codeE a [] ++ [Bc.mk (7 : Int) ((↑(codeE a []).length : Int) + (3 : Int)) e0, Bc.mk (1 : Int) (1 : Int) e0, Bc.mk (6 : Int) (0 : Int) e0]))]) (show ((codeE a [] ++ [Bc.mk (7 : Int) ((↑(codeE a []).length : Int) + (3 : Int)) e0, Bc.mk (1 : Int) (1 : Int) e0, Bc.mk (6 : Int) (0 : Int) e0]).length) = ((codeE a []).length + (3 : Nat)) by simp [codeE, bNot, h1, h2])) (ih2))
        let t20 : Tp pr := .m (show (decide ((bcc (codeE b (codeE a [] ++ [Bc.mk (7 : Int) ((↑(codeE a []).length : Int) + (3 : Int)) e0, Bc.mk (1 : Int) (1 : Int) e0, Bc.mk (6 : Int) (0 : Int) e0]))).length = (codeE b (codeE a [] ++ [Bc.mk (7 : Int) ((↑(codeE a []).length : Int) + (3 : Int)) e0, Bc.mk (1 : Int) (1 : Int) e0, Bc.mk (6 : Int) (0 : Int) e0])).length ∧ (0 : Nat) + (codeE b (codeE a [] ++ [Bc.mk (7 : Int) ((↑(codeE a []).length : Int) + (3 : Int)) e0, Bc.mk (1 : Int) (1 : Int) e0, Bc.mk (6 : Int) (0 : Int) e0])).length ≤ (codeE b (codeE a [] ++ [Bc.mk (7 : Int) ((↑(codeE a []).length : Int) + (3 : Int)) e0, Bc.mk (1 : Int) (1 : Int) e0, Bc.mk (6 : Int) (0 : Int) e0])).length ∧ (codeE b (codeE a [] ++ [Bc.mk (7 : Int) ((↑(codeE a []).length : Int) + (3 : Int)) e0, Bc.mk (1 : Int) (1 : Int) e0, Bc.mk (6 : Int) (0 : Int) e0])).length + (2 : Nat) ≤ (4294967296 : Nat))) = true by (simp; omega))
        let t21 : Tp pr := .b (show (decide ((codeE b (codeE a [] ++ [Bc.mk (7 : Int) ((↑(codeE a []).length : Int) + (3 : Int)) e0, Bc.mk (1 : Int) (1 : Int) e0, Bc.mk (6 : Int) (0 : Int) e0])).length + (2 : Nat) ≤ (codeE b (codeE a [] ++ [Bc.mk (7 : Int) ((↑(codeE a []).length : Int) + (3 : Int)) e0, Bc.mk (1 : Int) (1 : Int) e0, Bc.mk (6 : Int) (0 : Int) e0])).length)) = false by simp)
        let t22 : Tp pr := .c (show ((codeE b (codeE a [] ++ [Bc.mk (7 : Int) ((↑(codeE a []).length : Int) + (3 : Int)) e0, Bc.mk (1 : Int) (1 : Int) e0, Bc.mk (6 : Int) (0 : Int) e0])).length + (2 : Nat) : Nat) = (codeE b (codeE a [] ++ [Bc.mk (7 : Int) ((↑(codeE a []).length : Int) + (3 : Int)) (ByteArray.mk #[]), Bc.mk (1 : Int) (1 : Int) (ByteArray.mk #[]), Bc.mk (6 : Int) (0 : Int) (ByteArray.mk #[])])).length + (2 : Nat) by rfl)
        let t23 : Tp pr := .n .crows (show ((List.take (codeE b (codeE a [] ++ [Bc.mk (7 : Int) ((↑(codeE a []).length : Int) + (3 : Int)) e0, Bc.mk (1 : Int) (1 : Int) e0, Bc.mk (6 : Int) (0 : Int) e0])).length (bcc (codeE b (codeE a [] ++ [Bc.mk (7 : Int) ((↑(codeE a []).length : Int) + (3 : Int)) e0, Bc.mk (1 : Int) (1 : Int) e0, Bc.mk (6 : Int) (0 : Int) e0])))).append (List.take (2 : Nat) (List.drop (0 : Nat) [[C.t (T.int IntKind.i64 (5 : Int)), C.t (T.int IntKind.i64 (0 : Int)), C.t (T.str (ByteArray.mk #[(33 : UInt8)]))], [C.t (T.int IntKind.i64 (5 : Int)), C.t (T.int IntKind.i64 (0 : Int)), C.t (T.str (ByteArray.mk #[(33 : UInt8)]))]]))) = bcc (codeE b (codeE a [] ++ [Bc.mk (7 : Int) ((↑(codeE a []).length : Int) + (3 : Int)) (ByteArray.mk #[]), Bc.mk (1 : Int) (1 : Int) (ByteArray.mk #[]), Bc.mk (6 : Int) (0 : Int) (ByteArray.mk #[])]) ++ [Bc.mk (5 : Int) (0 : Int) (ByteArray.mk #[(33 : UInt8)]), Bc.mk (5 : Int) (0 : Int) (ByteArray.mk #[(33 : UInt8)])]) by simp)
        let t24 : Tp pr := .i (wrap_i64 (a := (↑(codeE a []).length : Int) + (2 : Int)) (by omega) (by omega))
        let t25 : Tp pr := .i (show ((↑((codeE b (codeE a [] ++ [Bc.mk (7 : Int) ((↑(codeE a []).length : Int) + (3 : Int)) (ByteArray.mk #[]), Bc.mk (1 : Int) (1 : Int) (ByteArray.mk #[]), Bc.mk (6 : Int) (0 : Int) (ByteArray.mk #[])])).length + (2 : Nat)) : Int) : Int) = (↑(codeE b (codeE a [] ++ [Bc.mk (7 : Int) ((↑(codeE a []).length : Int) + (3 : Int)) (ByteArray.mk #[]), Bc.mk (1 : Int) (1 : Int) (ByteArray.mk #[]), Bc.mk (6 : Int) (0 : Int) (ByteArray.mk #[])])).length : Int) + (2 : Int) by omega)
        let t26 : Tp pr := .m (show (decide ((0 : Int) ≤ (↑(codeE a []).length : Int) + (2 : Int) ∧ ((↑(codeE a []).length : Int) + (2 : Int)).toNat < (codeE b (codeE a [] ++ [Bc.mk (7 : Int) ((↑(codeE a []).length : Int) + (3 : Int)) (ByteArray.mk #[]), Bc.mk (1 : Int) (1 : Int) (ByteArray.mk #[]), Bc.mk (6 : Int) (0 : Int) (ByteArray.mk #[])])).length + (2 : Nat))) = true by (simp; omega))
        let t27 : Tp pr := .c (show ((0 : Nat) + ((↑(codeE a []).length : Int) + (2 : Int)).toNat : Nat) = (codeE a []).length + (2 : Nat) by omega)
        let t28 : Tp pr := .m (show (decide ((bcc (codeE b (codeE a [] ++ [Bc.mk (7 : Int) ((↑(codeE a []).length : Int) + (3 : Int)) (ByteArray.mk #[]), Bc.mk (1 : Int) (1 : Int) (ByteArray.mk #[]), Bc.mk (6 : Int) (0 : Int) (ByteArray.mk #[])]) ++ [Bc.mk (5 : Int) (0 : Int) (ByteArray.mk #[(33 : UInt8)]), Bc.mk (5 : Int) (0 : Int) (ByteArray.mk #[(33 : UInt8)])])).length = (codeE b (codeE a [] ++ [Bc.mk (7 : Int) ((↑(codeE a []).length : Int) + (3 : Int)) (ByteArray.mk #[]), Bc.mk (1 : Int) (1 : Int) (ByteArray.mk #[]), Bc.mk (6 : Int) (0 : Int) (ByteArray.mk #[])])).length + (2 : Nat))) = true by simp)
        let t29 : Tp pr := .g .crow (show ((bcc (codeE b (codeE a [] ++ [Bc.mk (7 : Int) ((↑(codeE a []).length : Int) + (3 : Int)) (ByteArray.mk #[]), Bc.mk (1 : Int) (1 : Int) (ByteArray.mk #[]), Bc.mk (6 : Int) (0 : Int) (ByteArray.mk #[])]) ++ [Bc.mk (5 : Int) (0 : Int) (ByteArray.mk #[(33 : UInt8)]), Bc.mk (5 : Int) (0 : Int) (ByteArray.mk #[(33 : UInt8)])]))[(codeE a []).length + (2 : Nat)]?) = some ((Bc.mk (6 : Int) (0 : Int) e0).cc) from hg2)
        let t30 : Tp pr := .n .crows (show ((bcc (codeE b (codeE a [] ++ [Bc.mk (7 : Int) ((↑(codeE a []).length : Int) + (3 : Int)) (ByteArray.mk #[]), Bc.mk (1 : Int) (1 : Int) (ByteArray.mk #[]), Bc.mk (6 : Int) (0 : Int) (ByteArray.mk #[])]) ++ [Bc.mk (5 : Int) (0 : Int) (ByteArray.mk #[(33 : UInt8)]), Bc.mk (5 : Int) (0 : Int) (ByteArray.mk #[(33 : UInt8)])])).set ((codeE a []).length + (2 : Nat)) [C.t (T.int IntKind.i64 (6 : Int)), C.t (T.int IntKind.i64 ((↑(codeE b (codeE a [] ++ [Bc.mk (7 : Int) ((↑(codeE a []).length : Int) + (3 : Int)) (ByteArray.mk #[]), Bc.mk (1 : Int) (1 : Int) (ByteArray.mk #[]), Bc.mk (6 : Int) (0 : Int) (ByteArray.mk #[])])).length : Int) + (2 : Int))), C.t (T.str (ByteArray.mk #[]))]) = bcc ((codeE b (codeE a [] ++ [Bc.mk (7 : Int) ((↑(codeE a []).length : Int) + (3 : Int)) (ByteArray.mk #[]), Bc.mk (1 : Int) (1 : Int) (ByteArray.mk #[]), Bc.mk (6 : Int) (0 : Int) (ByteArray.mk #[])]) ++ [Bc.mk (5 : Int) (0 : Int) (ByteArray.mk #[(33 : UInt8)]), Bc.mk (5 : Int) (0 : Int) (ByteArray.mk #[(33 : UInt8)])]).set ((codeE a []).length + (2 : Nat)) (Bc.mk (6 : Int) ((↑(codeE b (codeE a [] ++ [Bc.mk (7 : Int) ((↑(codeE a []).length : Int) + (3 : Int)) (ByteArray.mk #[]), Bc.mk (1 : Int) (1 : Int) (ByteArray.mk #[]), Bc.mk (6 : Int) (0 : Int) (ByteArray.mk #[])])).length : Int) + (2 : Int)) (ByteArray.mk #[]))) by simp)
        exact .tpe [.b (rfl : false = false), .b (rfl : false = false), t2, .a (ih), .b (rfl : false = false), .b (rfl : false = false), t6, t7, t8, t9, .m (rfl : true = true), t11, t12, t13, t14, t15, t16, .a (l17Not_ev), .a (l17Not_ev), .m (rfl : true = true), t20, t21, t22, t23, t24, t25, t26, t27, t28, t29, t30] (Out.val (V.vec (0 : Nat) ((codeE b (codeE a [] ++ [Bc.mk (7 : Int) ((↑(codeE a []).length : Int) + (3 : Int)) (ByteArray.mk #[]), Bc.mk (1 : Int) (1 : Int) (ByteArray.mk #[]), Bc.mk (6 : Int) (0 : Int) (ByteArray.mk #[])])).length + (2 : Nat)) (3 : Nat) (0 : Nat) ((codeE b (codeE a [] ++ [Bc.mk (7 : Int) ((↑(codeE a []).length : Int) + (3 : Int)) (ByteArray.mk #[]), Bc.mk (1 : Int) (1 : Int) (ByteArray.mk #[]), Bc.mk (6 : Int) (0 : Int) (ByteArray.mk #[])])).length + (2 : Nat))) [Ob.vec true (3 : Nat) (bcc ((codeE b (codeE a [] ++ [Bc.mk (7 : Int) ((↑(codeE a []).length : Int) + (3 : Int)) (ByteArray.mk #[]), Bc.mk (1 : Int) (1 : Int) (ByteArray.mk #[]), Bc.mk (6 : Int) (0 : Int) (ByteArray.mk #[])]) ++ [Bc.mk (5 : Int) (0 : Int) (ByteArray.mk #[(33 : UInt8)]), Bc.mk (5 : Int) (0 : Int) (ByteArray.mk #[(33 : UInt8)])]).set ((codeE a []).length + (2 : Nat)) (Bc.mk (6 : Int) ((↑(codeE b (codeE a [] ++ [Bc.mk (7 : Int) ((↑(codeE a []).length : Int) + (3 : Int)) (ByteArray.mk #[]), Bc.mk (1 : Int) (1 : Int) (ByteArray.mk #[]), Bc.mk (6 : Int) (0 : Int) (ByteArray.mk #[])])).length : Int) + (2 : Int)) (ByteArray.mk #[]))))]) (by kernel_rfl) (((congrArg (fun x => Out.val (V.vec (0 : Nat) x (3 : Nat) (0 : Nat) ((codeE b (codeE a [] ++ [Bc.mk (7 : Int) ((↑(codeE a []).length : Int) + (3 : Int)) (ByteArray.mk #[]), Bc.mk (1 : Int) (1 : Int) (ByteArray.mk #[]), Bc.mk (6 : Int) (0 : Int) (ByteArray.mk #[])])).length + (2 : Nat))) [Ob.vec true (3 : Nat) (bcc ((codeE b (codeE a [] ++ [Bc.mk (7 : Int) ((↑(codeE a []).length : Int) + (3 : Int)) (ByteArray.mk #[]), Bc.mk (1 : Int) (1 : Int) (ByteArray.mk #[]), Bc.mk (6 : Int) (0 : Int) (ByteArray.mk #[])]) ++ [Bc.mk (5 : Int) (0 : Int) (ByteArray.mk #[(33 : UInt8)]), Bc.mk (5 : Int) (0 : Int) (ByteArray.mk #[(33 : UInt8)])]).set ((codeE a []).length + (2 : Nat)) (Bc.mk (6 : Int) ((↑(codeE b (codeE a [] ++ [Bc.mk (7 : Int) ((↑(codeE a []).length : Int) + (3 : Int)) (ByteArray.mk #[]), Bc.mk (1 : Int) (1 : Int) (ByteArray.mk #[]), Bc.mk (6 : Int) (0 : Int) (ByteArray.mk #[])])).length : Int) + (2 : Int)) (ByteArray.mk #[]))))]) (show ((codeE b (codeE a [] ++ [Bc.mk (7 : Int) ((↑(codeE a []).length : Int) + (3 : Int)) (ByteArray.mk #[]), Bc.mk (1 : Int) (1 : Int) (ByteArray.mk #[]), Bc.mk (6 : Int) (0 : Int) (ByteArray.mk #[])])).length + (2 : Nat)) = ((codeE (E.two s a b) []).length) by simp [codeE, bNot, h1, h2])).trans (congrArg (fun x => Out.val (V.vec (0 : Nat) (codeE (E.two s a b) []).length (3 : Nat) (0 : Nat) x) [Ob.vec true (3 : Nat) (bcc ((codeE b (codeE a [] ++ [Bc.mk (7 : Int) ((↑(codeE a []).length : Int) + (3 : Int)) (ByteArray.mk #[]), Bc.mk (1 : Int) (1 : Int) (ByteArray.mk #[]), Bc.mk (6 : Int) (0 : Int) (ByteArray.mk #[])]) ++ [Bc.mk (5 : Int) (0 : Int) (ByteArray.mk #[(33 : UInt8)]), Bc.mk (5 : Int) (0 : Int) (ByteArray.mk #[(33 : UInt8)])]).set ((codeE a []).length + (2 : Nat)) (Bc.mk (6 : Int) ((↑(codeE b (codeE a [] ++ [Bc.mk (7 : Int) ((↑(codeE a []).length : Int) + (3 : Int)) (ByteArray.mk #[]), Bc.mk (1 : Int) (1 : Int) (ByteArray.mk #[]), Bc.mk (6 : Int) (0 : Int) (ByteArray.mk #[])])).length : Int) + (2 : Int)) (ByteArray.mk #[]))))]) (show ((codeE b (codeE a [] ++ [Bc.mk (7 : Int) ((↑(codeE a []).length : Int) + (3 : Int)) (ByteArray.mk #[]), Bc.mk (1 : Int) (1 : Int) (ByteArray.mk #[]), Bc.mk (6 : Int) (0 : Int) (ByteArray.mk #[])])).length + (2 : Nat)) = ((codeE (E.two s a b) []).length) by simp [codeE, bNot, h1, h2]))).trans (congrArg (fun x => Out.val (V.vec (0 : Nat) (codeE (E.two s a b) []).length (3 : Nat) (0 : Nat) (codeE (E.two s a b) []).length) [Ob.vec true (3 : Nat) x]) (show (bcc ((codeE b (codeE a [] ++ [Bc.mk (7 : Int) ((↑(codeE a []).length : Int) + (3 : Int)) (ByteArray.mk #[]), Bc.mk (1 : Int) (1 : Int) (ByteArray.mk #[]), Bc.mk (6 : Int) (0 : Int) (ByteArray.mk #[])]) ++ [Bc.mk (5 : Int) (0 : Int) (ByteArray.mk #[(33 : UInt8)]), Bc.mk (5 : Int) (0 : Int) (ByteArray.mk #[(33 : UInt8)])]).set ((codeE a []).length + (2 : Nat)) (Bc.mk (6 : Int) ((↑(codeE b (codeE a [] ++ [Bc.mk (7 : Int) ((↑(codeE a []).length : Int) + (3 : Int)) (ByteArray.mk #[]), Bc.mk (1 : Int) (1 : Int) (ByteArray.mk #[]), Bc.mk (6 : Int) (0 : Int) (ByteArray.mk #[])])).length : Int) + (2 : Int)) (ByteArray.mk #[])))) = (bcc (codeE (E.two s a b) [])) by simp [codeE, bNot, h1, h2])))
      · have ih2 := l17Make_ev b (codeE a []) (by omega) (by simp [E.names] at hn; simp [hn])
        have hl2 := codeE_len b (codeE a [])
        let t2 : Tp pr := .g .row (show (lkp (E.two s a b).kids (0 : Int)) = some (a.ts) from g0)
        let t6 : Tp pr := .b (show ((E.two s a b).text.toList == [(38 : UInt8), (38 : UInt8)]) = false by (simp; omega))
        let t7 : Tp pr := .b (show ((E.two s a b).text.toList == [(124 : UInt8), (124 : UInt8)]) = false by (simp; omega))
        let t10 : Tp pr := .g .row (show (lkp (E.two s a b).kids (1 : Int)) = some (b.ts) from g1)
        let t21 : Tp pr := .m (show (decide ((bcc (codeE b (codeE a []))).length = (codeE b (codeE a [])).length ∧ (0 : Nat) + (codeE b (codeE a [])).length ≤ (codeE b (codeE a [])).length ∧ (codeE b (codeE a [])).length + (1 : Nat) ≤ (4294967296 : Nat))) = true by (simp; omega))
        let t22 : Tp pr := .b (show (decide ((codeE b (codeE a [])).length + (1 : Nat) ≤ (codeE b (codeE a [])).length)) = false by simp)
        let t23 : Tp pr := .c (rfl : ((codeE b (codeE a [])).length + (1 : Nat)) = _)
        let t24 : Tp pr := .n .crows (show ((List.take (codeE b (codeE a [])).length (bcc (codeE b (codeE a [])))).append (List.take (1 : Nat) (List.drop (0 : Nat) [[C.t (T.int IntKind.i64 (4 : Int)), C.t (T.int IntKind.i64 (0 : Int)), C.t (T.str (E.two s a b).text)]]))) = bcc (codeE b (codeE a []) ++ [Bc.mk (4 : Int) (0 : Int) s]) by simp)
        exact .tpe [.b (rfl : false = false), .b (rfl : false = false), t2, .a (ih), .b (rfl : false = false), .b (rfl : false = false), t6, t7, .m (rfl : true = true), .m (rfl : true = true), t10, .m (rfl : true = true), .m (rfl : true = true), .m (rfl : true = true), .a (ih2), .m (rfl : true = true), .m (rfl : true = true), .m (rfl : true = true), .m (rfl : true = true), .m (rfl : true = true), .m (rfl : true = true), t21, t22, t23, t24, .m (rfl : true = true), .m (rfl : true = true)] (Out.val (V.vec (0 : Nat) ((codeE b (codeE a [])).length + (1 : Nat)) (3 : Nat) (0 : Nat) ((codeE b (codeE a [])).length + (1 : Nat))) [Ob.vec true (3 : Nat) (bcc (codeE b (codeE a []) ++ [Bc.mk (4 : Int) (0 : Int) s]))]) (by kernel_rfl) (((congrArg (fun x => Out.val (V.vec (0 : Nat) x (3 : Nat) (0 : Nat) ((codeE b (codeE a [])).length + (1 : Nat))) [Ob.vec true (3 : Nat) (bcc (codeE b (codeE a []) ++ [Bc.mk (4 : Int) (0 : Int) s]))]) (show ((codeE b (codeE a [])).length + (1 : Nat)) = ((codeE (E.two s a b) []).length) by simp [codeE, bNot, h1, h2])).trans (congrArg (fun x => Out.val (V.vec (0 : Nat) (codeE (E.two s a b) []).length (3 : Nat) (0 : Nat) x) [Ob.vec true (3 : Nat) (bcc (codeE b (codeE a []) ++ [Bc.mk (4 : Int) (0 : Int) s]))]) (show ((codeE b (codeE a [])).length + (1 : Nat)) = ((codeE (E.two s a b) []).length) by simp [codeE, bNot, h1, h2]))).trans (congrArg (fun x => Out.val (V.vec (0 : Nat) (codeE (E.two s a b) []).length (3 : Nat) (0 : Nat) (codeE (E.two s a b) []).length) [Ob.vec true (3 : Nat) x]) (show (bcc (codeE b (codeE a []) ++ [Bc.mk (4 : Int) (0 : Int) s])) = (bcc (codeE (E.two s a b) [])) by simp [codeE, bNot, h1, h2])))
end Go.Ev

/- Code that is made of a program: the program's. -/
namespace Go.Ev
set_option linter.unusedVariables false
set_option linter.unusedSimpArgs false
open Go.Proofs
set_option maxRecDepth 100000
set_option linter.unusedVariables false
set_option maxHeartbeats 1000000
attribute [local simp] e0
theorem mcL_ev (p : List Line) (hl : p.length ≤ 12) (hs : ∀ x ∈ p, x.expr.length ≤ 1048576 ∧ ∀ y ∈ x.expr, y.text.size ≤ 9223372036854775807) (hk : ∀ x ∈ p, lineOk x = true) (W : List Int) (hWl : W.length = p.length) (hW : goodW p W) :
    ∀ (rest done : List Line) (B H : List Int) (o : List Bc), p = done ++ rest → B.length = p.length → H.length = p.length → o.length ≤ 250 * done.length →
    (∀ (j : Nat) (y : Line), j < done.length → p[j]? = some y → y.kind = 2 → ∃ h : Nat, H.getD j 0 = h ∧ h < o.length) →
    Ev pr (.loop (lq pr 27 0) (at_ [(4, .t (.seq 1 (W.map intt))), (6, .vec 0 p.length 1 0 p.length), (7, .vec 1 p.length 1 0 p.length), (8, .vec 2 o.length 3 0 o.length), (26, lines p), (27, i64 p.length), (28, i64 done.length)]
        [.vec true 1 (ints B), .vec true 1 (ints H), .vec true 3 (bcc o)] 0))
      (.exit 0 (at_ [(8, .vec 0 (makeGo W rest done.length B H o).length 3 0 (makeGo W rest done.length B H o).length)] [.vec true 3 (bcc (makeGo W rest done.length B H o))] 0))
  | [], done, B, H, o, hp, hB, hH, ho, hh => by
    have hll : (p.length : Int) = done.length := by simp [hp]
    rw [show makeGo W [] done.length B H o = o from rfl]
    let t0 : Tp pr := .b (show (decide ((↑done.length : Int) < (↑p.length : Int))) = false by (simp; omega))
    exact .tp [t0] (by kernel_rfl)
  | x :: rest, done, B, H, o, hp, hB, hH, ho, hh => by
    have hll : (p.length : Int) = done.length + 1 + rest.length := by simp [hp]; omega
    have hx : p[done.length]? = some x := by simp [hp]
    have hg : lkp (p.map Line.ce) (done.length : Int) = some x.ce := by rw [hp]; simp
    have hdl : (done ++ [x]).length = done.length + 1 := by simp
    have hp' : p = (done ++ [x]) ++ rest := by simp [hp]
    have gB := ints_get (l := B) (k := done.length) (by omega)
    have gH := ints_get (l := H) (k := done.length) (by omega)
    have hxe := localExpr_ev x.expr (hs x (by simp [hp])).1 (hs x (by simp [hp])).2
    have ih := fun B H o => mcL_ev p hl hs hk W hWl hW rest (done ++ [x]) B H o hp'
    simp only [hdl] at ih
    have old : ∀ (j : Nat) (y : Line), j < done.length + 1 → p[j]? = some y → y.kind = 2 → x.kind ≠ 2 → j < done.length := fun j y hj hy h2 hx2 => by
      by_cases e : j = done.length
      · subst e
        rw [hx] at hy
        obtain rfl := Option.some.inj hy
        exact absurd h2 hx2
      · omega
    rcases lineOk_kind (hk x (by simp [hp])) with ⟨h1, hn0, hn9, e, he⟩ | ⟨h2, e, he⟩ | h3
    · rw [he] at hxe
      have hz := parseL_size he
      have hm := made_ev e o (by omega)
      have hcl := codeE_len e o
      rw [show makeGo W (x :: rest) done.length B H o = makeGo W rest (done.length + 1) (B.set done.length o.length) H (codeE e o ++ [⟨3, x.name, e0⟩]) by simp [makeGo, h1, codeL, he]]
      have ih1 := ih (B.set done.length o.length) H (codeE e o ++ [⟨3, x.name, e0⟩]) (by simp [hB]) hH (by simp; omega) (fun j y hj hy h2 => by
        obtain ⟨h, q1, q2⟩ := hh j y (old j y hj hy h2 (by omega)) hy h2
        exact ⟨h, q1, by simp; omega⟩)
      let t0 : Tp pr := .b (show (decide ((↑done.length : Int) < (↑p.length : Int))) = true by (simp; omega))
      let t1 : Tp pr := .g .row (show (lkp (List.map Line.ce p) (↑done.length : Int)) = some (x.ce) from hg)
      let t3 : Tp pr := .m (show (decide ((0 : Int) ≤ (↑done.length : Int) ∧ (↑done.length : Int).toNat < p.length)) = true by simp [*])
      let t4 : Tp pr := .c (show ((0 : Nat) + (↑done.length : Int).toNat : Nat) = done.length by omega)
      let t5 : Tp pr := .m (show (decide ((ints B).length = p.length)) = true by simp [*])
      let t6 : Tp pr := .g .crow (show ((ints B)[done.length]?) = some (intc (B.getD done.length (0 : Int))) from gB)
      let t7 : Tp pr := .n .crows (show ((ints B).set done.length [C.t (T.int IntKind.i64 (↑o.length : Int))]) = ints (B.set done.length (↑o.length : Int)) by simp)
      let t8 : Tp pr := .b (show (decide (x.kind = (3 : Int))) = false by (simp; omega))
      let t9 : Tp pr := .b (show (decide (x.kind = (1 : Int))) = true by (simp; omega))
      let t22 : Tp pr := .m (show (decide ((bcc (codeE e o)).length = (codeE e o).length ∧ (0 : Nat) + (codeE e o).length ≤ (codeE e o).length ∧ (codeE e o).length + (1 : Nat) ≤ (4294967296 : Nat))) = true by (simp; omega))
      let t23 : Tp pr := .b (show (decide ((codeE e o).length + (1 : Nat) ≤ (codeE e o).length)) = false by simp)
      let t24 : Tp pr := .c (rfl : ((codeE e o).length + (1 : Nat)) = _)
      let t25 : Tp pr := .n .crows (show ((List.take (codeE e o).length (bcc (codeE e o))).append (List.take (1 : Nat) (List.drop (0 : Nat) [[C.t (T.int IntKind.i64 (3 : Int)), C.t (T.int IntKind.i64 x.name), C.t (T.str (ByteArray.mk #[]))]]))) = bcc (codeE e o ++ [Bc.mk (3 : Int) x.name (ByteArray.mk #[])]) by simp)
      let t28 : Tp pr := .i (wrap_i64 (a := (↑done.length : Int) + (1 : Int)) (by omega) (by omega))
      let t29 : Tp pr := .a (Ev.castq (congrArg (fun x_1 => Q.loop (lq pr (27 : FuncId) (0 : Nat)) (at_ [((4 : Nat), V.t (T.seq (1 : Nat) (List.map intt W))), ((6 : Nat), V.vec (0 : Nat) p.length (1 : Nat) (0 : Nat) p.length), ((7 : Nat), V.vec (1 : Nat) p.length (1 : Nat) (0 : Nat) p.length), ((8 : Nat), V.vec (2 : Nat) x_1 (3 : Nat) (0 : Nat) x_1), ((26 : Nat), lines p), ((27 : Nat), i64 (↑p.length : Int)), ((28 : Nat), i64 (↑(done.length + (1 : Nat)) : Int))] [Ob.vec true (1 : Nat) (ints (B.set done.length (↑o.length : Int))), Ob.vec true (1 : Nat) (ints H), Ob.vec true (3 : Nat) (bcc (codeE e o ++ [Bc.mk (3 : Int) x.name e0]))] (0 : Nat))) (show ((codeE e o ++ [Bc.mk (3 : Int) x.name e0]).length) = ((codeE e o).length + (1 : Nat)) by simp [intc])) (ih1))
      exact .tp [t0, t1, .i (rfl : ((↑o.length : Int)) = _), t3, t4, t5, t6, t7, t8, t9, .m (rfl : true = true), .m (rfl : true = true), .a (hxe), .m (rfl : true = true), .m (rfl : true = true), .a (hm), .m (rfl : true = true), .m (rfl : true = true), .m (rfl : true = true), .m (rfl : true = true), .m (rfl : true = true), .m (rfl : true = true), t22, t23, t24, t25, .m (rfl : true = true), .m (rfl : true = true), t28, t29] (by kernel_rfl)
    · rw [he] at hxe
      have hz := parseL_size he
      have hm := made_ev e o (by omega)
      have hcl := codeE_len e o
      rw [show makeGo W (x :: rest) done.length B H o = makeGo W rest (done.length + 1) (B.set done.length o.length) (H.set done.length (codeE e o).length) (codeE e o ++ [⟨7, 0, e0⟩]) by simp [makeGo, h2, codeL, he]]
      have ih1 := ih (B.set done.length o.length) (H.set done.length (codeE e o).length) (codeE e o ++ [⟨7, 0, e0⟩]) (by simp [hB]) (by simp [hH]) (by simp; omega) (fun j y hj hy h2 => by
        by_cases ej : j = done.length
        · subst ej
          exact ⟨(codeE e o).length, by rw [List.getD_eq_getElem?_getD, List.getElem?_set, if_pos rfl, if_pos (by omega)]; rfl, by simp⟩
        · obtain ⟨h, q1, q2⟩ := hh j y (by omega) hy h2
          refine ⟨h, ?_, by simp; omega⟩
          rw [← q1]
          simp [List.getD_eq_getElem?_getD, List.getElem?_set, Ne.symm ej])
      let t0 : Tp pr := .b (show (decide ((↑done.length : Int) < (↑p.length : Int))) = true by (simp; omega))
      let t1 : Tp pr := .g .row (show (lkp (List.map Line.ce p) (↑done.length : Int)) = some (x.ce) from hg)
      let t3 : Tp pr := .m (show (decide ((0 : Int) ≤ (↑done.length : Int) ∧ (↑done.length : Int).toNat < p.length)) = true by simp [*])
      let t4 : Tp pr := .c (show ((0 : Nat) + (↑done.length : Int).toNat : Nat) = done.length by omega)
      let t5 : Tp pr := .m (show (decide ((ints B).length = p.length)) = true by simp [*])
      let t6 : Tp pr := .g .crow (show ((ints B)[done.length]?) = some (intc (B.getD done.length (0 : Int))) from gB)
      let t7 : Tp pr := .n .crows (show ((ints B).set done.length [C.t (T.int IntKind.i64 (↑o.length : Int))]) = ints (B.set done.length (↑o.length : Int)) by simp)
      let t8 : Tp pr := .b (show (decide (x.kind = (3 : Int))) = false by (simp; omega))
      let t9 : Tp pr := .b (show (decide (x.kind = (1 : Int))) = false by (simp; omega))
      let t10 : Tp pr := .b (show (decide (x.kind = (2 : Int))) = true by (simp; omega))
      let t13 : Tp pr := .i (rfl : ((↑(codeE e o).length : Int)) = _)
      let t14 : Tp pr := .m (show (decide ((0 : Int) ≤ (↑done.length : Int) ∧ (↑done.length : Int).toNat < p.length)) = true by simp [*])
      let t15 : Tp pr := .c (show ((0 : Nat) + (↑done.length : Int).toNat : Nat) = done.length by omega)
      let t16 : Tp pr := .m (show (decide ((ints H).length = p.length)) = true by simp [*])
      let t17 : Tp pr := .g .crow (show ((ints H)[done.length]?) = some (intc (H.getD done.length (0 : Int))) from gH)
      let t18 : Tp pr := .n .crows (show ((ints H).set done.length [C.t (T.int IntKind.i64 (↑(codeE e o).length : Int))]) = ints (H.set done.length (↑(codeE e o).length : Int)) by simp)
      let t20 : Tp pr := .m (show (decide ((bcc (codeE e o)).length = (codeE e o).length ∧ (0 : Nat) + (codeE e o).length ≤ (codeE e o).length ∧ (codeE e o).length + (1 : Nat) ≤ (4294967296 : Nat))) = true by (simp; omega))
      let t21 : Tp pr := .b (show (decide ((codeE e o).length + (1 : Nat) ≤ (codeE e o).length)) = false by simp)
      let t22 : Tp pr := .c (rfl : ((codeE e o).length + (1 : Nat)) = _)
      let t23 : Tp pr := .n .crows (show ((List.take (codeE e o).length (bcc (codeE e o))).append (List.take (1 : Nat) (List.drop (0 : Nat) [[C.t (T.int IntKind.i64 (7 : Int)), C.t (T.int IntKind.i64 (0 : Int)), C.t (T.str (ByteArray.mk #[]))]]))) = bcc (codeE e o ++ [Bc.mk (7 : Int) (0 : Int) (ByteArray.mk #[])]) by simp)
      let t24 : Tp pr := .i (wrap_i64 (a := (↑done.length : Int) + (1 : Int)) (by omega) (by omega))
      let t25 : Tp pr := .a (Ev.castq (congrArg (fun x => Q.loop (lq pr (27 : FuncId) (0 : Nat)) (at_ [((4 : Nat), V.t (T.seq (1 : Nat) (List.map intt W))), ((6 : Nat), V.vec (0 : Nat) p.length (1 : Nat) (0 : Nat) p.length), ((7 : Nat), V.vec (1 : Nat) p.length (1 : Nat) (0 : Nat) p.length), ((8 : Nat), V.vec (2 : Nat) x (3 : Nat) (0 : Nat) x), ((26 : Nat), lines p), ((27 : Nat), i64 (↑p.length : Int)), ((28 : Nat), i64 (↑(done.length + (1 : Nat)) : Int))] [Ob.vec true (1 : Nat) (ints (B.set done.length (↑o.length : Int))), Ob.vec true (1 : Nat) (ints (H.set done.length (↑(codeE e o).length : Int))), Ob.vec true (3 : Nat) (bcc (codeE e o ++ [Bc.mk (7 : Int) (0 : Int) e0]))] (0 : Nat))) (show ((codeE e o ++ [Bc.mk (7 : Int) (0 : Int) e0]).length) = ((codeE e o).length + (1 : Nat)) by simp [intc])) (ih1))
      exact .tp [t0, t1, .i (rfl : ((↑o.length : Int)) = _), t3, t4, t5, t6, t7, t8, t9, t10, .a (hxe), .a (hm), t13, t14, t15, t16, t17, t18, .m (rfl : true = true), t20, t21, t22, t23, t24, t25] (by kernel_rfl)
    · obtain ⟨j, y, e1, e2, e3, e4⟩ := hW _ x hx h3
      obtain ⟨h, q1, q2⟩ := hh j y e2 e3 e4
      have ej : jOf W done.length = j := by rw [jOf, e1]; simp
      have hgW : lkp (W.map intt) (done.length : Int) = some [T.int .i64 (j : Int)] := by
        rw [← e1, lkp, if_pos (by omega)]
        simp [List.getD_eq_getElem?_getD, intt, show done.length < W.length by omega]
      have g1 := ints_get (l := B.set done.length o.length) (k := j) (by simp; omega)
      have g2 := ints_get (l := H) (k := j) (by omega)
      rw [q1] at g2
      have g3 := bcc_getD (l := o ++ [⟨6, (B.set done.length o.length).getD j 0, e0⟩]) (k := h) (by simp; omega)
      rw [show makeGo W (x :: rest) done.length B H o = makeGo W rest (done.length + 1) (B.set done.length o.length) H (setN (o ++ [⟨6, (B.set done.length o.length).getD j 0, e0⟩]) h (o.length + 1)) by rw [makeGo, if_pos h3, ej, q1, Int.toNat_natCast]]
      have ih1 := ih (B.set done.length o.length) H (setN (o ++ [⟨6, (B.set done.length o.length).getD j 0, e0⟩]) h (o.length + 1)) (by simp [hB]) hH (by simp; omega) (fun j y hj hy h2 => by
        obtain ⟨h, q1, q2⟩ := hh j y (old j y hj hy h2 (by omega)) hy h2
        exact ⟨h, q1, by simp; omega⟩)
      let t0 : Tp pr := .b (show (decide ((↑done.length : Int) < (↑p.length : Int))) = true by (simp; omega))
      let t1 : Tp pr := .g .row (show (lkp (List.map Line.ce p) (↑done.length : Int)) = some (x.ce) from hg)
      let t3 : Tp pr := .m (show (decide ((0 : Int) ≤ (↑done.length : Int) ∧ (↑done.length : Int).toNat < p.length)) = true by simp [*])
      let t4 : Tp pr := .c (show ((0 : Nat) + (↑done.length : Int).toNat : Nat) = done.length by omega)
      let t5 : Tp pr := .m (show (decide ((ints B).length = p.length)) = true by simp [*])
      let t6 : Tp pr := .g .crow (show ((ints B)[done.length]?) = some (intc (B.getD done.length (0 : Int))) from gB)
      let t7 : Tp pr := .n .crows (show ((ints B).set done.length [C.t (T.int IntKind.i64 (↑o.length : Int))]) = ints (B.set done.length (↑o.length : Int)) by simp)
      let t8 : Tp pr := .b (show (decide (x.kind = (3 : Int))) = true by (simp; omega))
      let t9 : Tp pr := .g .row (show (lkp (List.map intt W) (↑done.length : Int)) = some ([T.int IntKind.i64 (↑j : Int)]) from hgW)
      let t10 : Tp pr := .m (show (decide ((0 : Int) ≤ (↑j : Int) ∧ (↑j : Int).toNat < p.length)) = true by (simp; omega))
      let t11 : Tp pr := .c (show ((0 : Nat) + (↑j : Int).toNat : Nat) = j by omega)
      let t12 : Tp pr := .m (show (decide ((ints (B.set done.length (↑o.length : Int))).length = p.length)) = true by simp [*])
      let t13 : Tp pr := .g .crow (show ((ints (B.set done.length (↑o.length : Int)))[j]?) = some (intc ((B.set done.length (↑o.length : Int)).getD j (0 : Int))) from g1)
      let t15 : Tp pr := .m (show (decide ((bcc o).length = o.length ∧ (0 : Nat) + o.length ≤ o.length ∧ o.length + (1 : Nat) ≤ (4294967296 : Nat))) = true by (simp; omega))
      let t16 : Tp pr := .b (show (decide (o.length + (1 : Nat) ≤ o.length)) = false by simp)
      let t18 : Tp pr := .n .crows (show ((List.take o.length (bcc o)).append (List.take (1 : Nat) (List.drop (0 : Nat) [[C.t (T.int IntKind.i64 (6 : Int)), C.t (T.int IntKind.i64 ((B.set done.length (↑o.length : Int)).getD j (0 : Int))), C.t (T.str (ByteArray.mk #[]))]]))) = bcc (o ++ [Bc.mk (6 : Int) ((B.set done.length (↑o.length : Int))[j]?.getD (0 : Int)) (ByteArray.mk #[])]) by simp)
      let t19 : Tp pr := .g .row (show (lkp (List.map intt W) (↑done.length : Int)) = some ([T.int IntKind.i64 (↑j : Int)]) from hgW)
      let t20 : Tp pr := .m (show (decide ((0 : Int) ≤ (↑j : Int) ∧ (↑j : Int).toNat < p.length)) = true by (simp; omega))
      let t21 : Tp pr := .c (show ((0 : Nat) + (↑j : Int).toNat : Nat) = j by omega)
      let t22 : Tp pr := .m (show (decide ((ints H).length = p.length)) = true by simp [*])
      let t23 : Tp pr := .g .crow (show ((ints H)[j]?) = some (intc (↑h : Int)) from g2)
      let t24 : Tp pr := .i (show ((↑(o.length + (1 : Nat)) : Int) : Int) = (↑o.length : Int) + (1 : Int) by omega)
      let t25 : Tp pr := .m (show (decide ((0 : Int) ≤ (↑h : Int) ∧ (↑h : Int).toNat < o.length + (1 : Nat))) = true by (simp; omega))
      let t26 : Tp pr := .c (show ((0 : Nat) + (↑h : Int).toNat : Nat) = h by omega)
      let t27 : Tp pr := .m (show (decide ((bcc (o ++ [Bc.mk (6 : Int) ((B.set done.length (↑o.length : Int))[j]?.getD (0 : Int)) (ByteArray.mk #[])])).length = o.length + (1 : Nat))) = true by simp)
      let t28 : Tp pr := .g .crow (show ((bcc (o ++ [Bc.mk (6 : Int) ((B.set done.length (↑o.length : Int))[j]?.getD (0 : Int)) (ByteArray.mk #[])]))[h]?) = some ([C.t (T.int IntKind.i64 ((o ++ [Bc.mk (6 : Int) ((B.set done.length (↑o.length : Int)).getD j (0 : Int)) e0]).getD h bc0).op), C.t (T.int IntKind.i64 ((o ++ [Bc.mk (6 : Int) ((B.set done.length (↑o.length : Int)).getD j (0 : Int)) e0]).getD h bc0).n), C.t (T.str ((o ++ [Bc.mk (6 : Int) ((B.set done.length (↑o.length : Int)).getD j (0 : Int)) e0]).getD h bc0).text)]) from g3)
      let t29 : Tp pr := .n .crows (show ((bcc (o ++ [Bc.mk (6 : Int) ((B.set done.length (↑o.length : Int))[j]?.getD (0 : Int)) (ByteArray.mk #[])])).set h [C.t (T.int IntKind.i64 ((o ++ [Bc.mk (6 : Int) ((B.set done.length (↑o.length : Int)).getD j (0 : Int)) e0]).getD h (Bc.mk (0 : Int) (0 : Int) (ByteArray.mk #[]))).op), C.t (T.int IntKind.i64 ((↑o.length : Int) + (1 : Int))), C.t (T.str ((o ++ [Bc.mk (6 : Int) ((B.set done.length (↑o.length : Int)).getD j (0 : Int)) e0]).getD h (Bc.mk (0 : Int) (0 : Int) (ByteArray.mk #[]))).text)]) = bcc ((o ++ [Bc.mk (6 : Int) ((B.set done.length (↑o.length : Int))[j]?.getD (0 : Int)) (ByteArray.mk #[])]).set h (Bc.mk ((o ++ [Bc.mk (6 : Int) ((B.set done.length (↑o.length : Int))[j]?.getD (0 : Int)) (ByteArray.mk #[])])[h]?.getD (Bc.mk (0 : Int) (0 : Int) (ByteArray.mk #[]))).op ((↑o.length : Int) + (1 : Int)) ((o ++ [Bc.mk (6 : Int) ((B.set done.length (↑o.length : Int))[j]?.getD (0 : Int)) (ByteArray.mk #[])])[h]?.getD (Bc.mk (0 : Int) (0 : Int) (ByteArray.mk #[]))).text)) by simp)
      let t30 : Tp pr := .i (wrap_i64 (a := (↑done.length : Int) + (1 : Int)) (by omega) (by omega))
      let t31 : Tp pr := .a (Ev.castq (congrArg (fun x => Q.loop (lq pr (27 : FuncId) (0 : Nat)) (at_ [((4 : Nat), V.t (T.seq (1 : Nat) (List.map intt W))), ((6 : Nat), V.vec (0 : Nat) p.length (1 : Nat) (0 : Nat) p.length), ((7 : Nat), V.vec (1 : Nat) p.length (1 : Nat) (0 : Nat) p.length), ((8 : Nat), V.vec (2 : Nat) x (3 : Nat) (0 : Nat) x), ((26 : Nat), lines p), ((27 : Nat), i64 (↑p.length : Int)), ((28 : Nat), i64 (↑(done.length + (1 : Nat)) : Int))] [Ob.vec true (1 : Nat) (ints (B.set done.length (↑o.length : Int))), Ob.vec true (1 : Nat) (ints H), Ob.vec true (3 : Nat) (bcc (setN (o ++ [Bc.mk (6 : Int) ((B.set done.length (↑o.length : Int)).getD j (0 : Int)) e0]) h ((↑o.length : Int) + (1 : Int))))] (0 : Nat))) (show ((setN (o ++ [Bc.mk (6 : Int) ((B.set done.length (↑o.length : Int)).getD j (0 : Int)) e0]) h ((↑o.length : Int) + (1 : Int))).length) = (o.length + (1 : Nat)) by simp [intc, setN])) (ih1))
      exact .tp [t0, t1, .i (rfl : ((↑o.length : Int)) = _), t3, t4, t5, t6, t7, t8, t9, t10, t11, t12, t13, .m (rfl : true = true), t15, t16, .c (rfl : (o.length + (1 : Nat)) = _), t18, t19, t20, t21, t22, t23, t24, t25, t26, t27, t28, t29, t30, t31] (by kernel_rfl)
theorem MakeCodeI_ev (l : List Line) (hl : l.length ≤ 1048576) (hs : ∀ x ∈ l, x.expr.length ≤ 1048576 ∧ ∀ y ∈ x.expr, y.text.size ≤ 9223372036854775807) : Ev pr (.call 27 [lines l] []) (match makeCode l with
    | some c => .val (.tup [.vec 0 c.length 3 0 c.length, bl true]) [.vec true 3 (bcc c)]
    | none => .val (.tup [.t .nils, bl false]) []) := by
  have hg := GoodProgramI_ev l hl hs
  have he := ends_ev l hl
  unfold makeCode
  cases hp : goodProgram l with
  | false => rw [hp] at hg; simp only [Bool.false_eq_true, if_false]; exact .tp [.a (hg), .b (rfl : true = true)] (by kernel_rfl)
  | true =>
    rw [hp] at hg
    obtain ⟨h1, h2, h3, W, junk, hW⟩ := goodProgram_all hp
    rw [hW] at he
    simp only [hW, if_true]
    have hWl := endsGo_len _ _ _ _ _ _ _ _ hW
    have hL := mcL_ev l h2 hs h3 W (by simpa using hWl) (goodW_of hW) l [] (List.replicate l.length 0) (List.replicate l.length 0) [] rfl (by simp) (by simp) (by simp) (by simp)
    have hlen := makeGo_len W l 0 (List.replicate l.length 0) (List.replicate l.length 0) []
    simp only [List.length_nil, Nat.zero_add] at hlen hL
    unfold codeAll
    generalize makeGo W l 0 (List.replicate l.length 0) (List.replicate l.length 0) [] = r at *
    by_cases h120 : (r ++ [(⟨2, 0, e0⟩ : Bc), ⟨9, 0, e0⟩]).length ≤ 120
    · rw [if_pos h120]
      simp at h120
      let t4 : Tp pr := .i (show ((↑(List.map Line.ce l).length : Int) : Int) = (↑l.length : Int) by simp)
      let t6 : Tp pr := .m (show (decide ((0 : Int) ≤ (↑l.length : Int) ∧ (↑l.length : Int) ≤ (↑l.length : Int) ∧ (↑l.length : Int) ≤ (4294967296 : Int))) = true by (simp; omega))
      let t7 : Tp pr := .c (show ((↑l.length : Int).toNat : Nat) = l.length by omega)
      let t8 : Tp pr := .n .crows (rfl : (List.replicate l.length [C.t (T.int IntKind.i64 (0 : Int))]) = _)
      let t11 : Tp pr := .i (show ((↑(List.map Line.ce l).length : Int) : Int) = (↑l.length : Int) by simp)
      let t13 : Tp pr := .m (show (decide ((0 : Int) ≤ (↑l.length : Int) ∧ (↑l.length : Int) ≤ (↑l.length : Int) ∧ (↑l.length : Int) ≤ (4294967296 : Int))) = true by (simp; omega))
      let t14 : Tp pr := .c (show ((↑l.length : Int).toNat : Nat) = l.length by omega)
      let t15 : Tp pr := .n .crows (rfl : (List.replicate l.length [C.t (T.int IntKind.i64 (0 : Int))]) = _)
      let t19 : Tp pr := .i (show ((↑(List.map Line.ce l).length : Int) : Int) = (↑l.length : Int) by simp)
      let t20 : Tp pr := .a (Ev.castq (congrArg (fun x => Q.loop (lq pr (27 : FuncId) (0 : Nat)) (at_ [((4 : Nat), V.t (T.seq (1 : Nat) (List.map intt W))), ((6 : Nat), V.vec (0 : Nat) l.length (1 : Nat) (0 : Nat) l.length), ((7 : Nat), V.vec (1 : Nat) l.length (1 : Nat) (0 : Nat) l.length), ((8 : Nat), V.vec (2 : Nat) (0 : Nat) (3 : Nat) (0 : Nat) (0 : Nat)), ((26 : Nat), lines l), ((27 : Nat), i64 (↑l.length : Int)), ((28 : Nat), i64 (↑(0 : Nat) : Int))] [Ob.vec true (1 : Nat) x, Ob.vec true (1 : Nat) x, Ob.vec true (3 : Nat) (bcc [])] (0 : Nat))) (show (ints (List.replicate l.length (0 : Int))) = (List.replicate l.length [C.t (T.int IntKind.i64 (0 : Int))]) by simp)) (hL))
      let t22 : Tp pr := .m (show (decide ((bcc r).length = r.length ∧ (0 : Nat) + r.length ≤ r.length ∧ r.length + (2 : Nat) ≤ (4294967296 : Nat))) = true by (simp; omega))
      let t23 : Tp pr := .b (show (decide (r.length + (2 : Nat) ≤ r.length)) = false by simp)
      let t25 : Tp pr := .n .crows (show ((List.take r.length (bcc r)).append (List.take (2 : Nat) (List.drop (0 : Nat) [[C.t (T.int IntKind.i64 (2 : Int)), C.t (T.int IntKind.i64 (0 : Int)), C.t (T.str (ByteArray.mk #[]))], [C.t (T.int IntKind.i64 (9 : Int)), C.t (T.int IntKind.i64 (0 : Int)), C.t (T.str (ByteArray.mk #[]))]]))) = bcc (r ++ [Bc.mk (2 : Int) (0 : Int) (ByteArray.mk #[]), Bc.mk (9 : Int) (0 : Int) (ByteArray.mk #[])]) by simp)
      let t26 : Tp pr := .i (show ((↑(r.length + (2 : Nat)) : Int) : Int) = (↑r.length : Int) + (2 : Int) by omega)
      let t27 : Tp pr := .b (show (decide ((↑r.length : Int) + (2 : Int) > (120 : Int))) = false by (simp; omega))
      exact .tpe [.a (hg), .b (rfl : false = false), .a (he), .m (rfl : true = true), t4, .m (rfl : true = true), t6, t7, t8, .m (rfl : true = true), .m (rfl : true = true), t11, .m (rfl : true = true), t13, t14, t15, .m (rfl : true = true), .m (rfl : true = true), .m (rfl : true = true), t19, t20, .m (rfl : true = true), t22, t23, .c (rfl : (r.length + (2 : Nat)) = _), t25, t26, t27] (Out.val (V.tup [V.vec (0 : Nat) (r.length + (2 : Nat)) (3 : Nat) (0 : Nat) (r.length + (2 : Nat)), V.t (T.bool true)]) [Ob.vec true (3 : Nat) (bcc (r ++ [Bc.mk (2 : Int) (0 : Int) (ByteArray.mk #[]), Bc.mk (9 : Int) (0 : Int) (ByteArray.mk #[])]))]) (by kernel_rfl) (((congrArg (fun x => Out.val (V.tup [V.vec (0 : Nat) x (3 : Nat) (0 : Nat) (r.length + (2 : Nat)), V.t (T.bool true)]) [Ob.vec true (3 : Nat) (bcc (r ++ [Bc.mk (2 : Int) (0 : Int) (ByteArray.mk #[]), Bc.mk (9 : Int) (0 : Int) (ByteArray.mk #[])]))]) (show (r.length + (2 : Nat)) = ((r ++ [Bc.mk (2 : Int) (0 : Int) e0, Bc.mk (9 : Int) (0 : Int) e0]).length) by simp)).trans (congrArg (fun x => Out.val (V.tup [V.vec (0 : Nat) (r ++ [Bc.mk (2 : Int) (0 : Int) e0, Bc.mk (9 : Int) (0 : Int) e0]).length (3 : Nat) (0 : Nat) x, V.t (T.bool true)]) [Ob.vec true (3 : Nat) (bcc (r ++ [Bc.mk (2 : Int) (0 : Int) (ByteArray.mk #[]), Bc.mk (9 : Int) (0 : Int) (ByteArray.mk #[])]))]) (show (r.length + (2 : Nat)) = ((r ++ [Bc.mk (2 : Int) (0 : Int) e0, Bc.mk (9 : Int) (0 : Int) e0]).length) by simp))).trans (congrArg (fun x => Out.val (V.tup [V.vec (0 : Nat) (r ++ [Bc.mk (2 : Int) (0 : Int) e0, Bc.mk (9 : Int) (0 : Int) e0]).length (3 : Nat) (0 : Nat) (r ++ [Bc.mk (2 : Int) (0 : Int) e0, Bc.mk (9 : Int) (0 : Int) e0]).length, V.t (T.bool true)]) [Ob.vec true (3 : Nat) x]) (show (bcc (r ++ [Bc.mk (2 : Int) (0 : Int) (ByteArray.mk #[]), Bc.mk (9 : Int) (0 : Int) (ByteArray.mk #[])])) = (bcc (r ++ [Bc.mk (2 : Int) (0 : Int) e0, Bc.mk (9 : Int) (0 : Int) e0])) by simp)))
    · rw [if_neg h120]
      simp at h120
      let t4 : Tp pr := .i (show ((↑(List.map Line.ce l).length : Int) : Int) = (↑l.length : Int) by simp)
      let t6 : Tp pr := .m (show (decide ((0 : Int) ≤ (↑l.length : Int) ∧ (↑l.length : Int) ≤ (↑l.length : Int) ∧ (↑l.length : Int) ≤ (4294967296 : Int))) = true by (simp; omega))
      let t7 : Tp pr := .c (show ((↑l.length : Int).toNat : Nat) = l.length by omega)
      let t8 : Tp pr := .n .crows (rfl : (List.replicate l.length [C.t (T.int IntKind.i64 (0 : Int))]) = _)
      let t11 : Tp pr := .i (show ((↑(List.map Line.ce l).length : Int) : Int) = (↑l.length : Int) by simp)
      let t13 : Tp pr := .m (show (decide ((0 : Int) ≤ (↑l.length : Int) ∧ (↑l.length : Int) ≤ (↑l.length : Int) ∧ (↑l.length : Int) ≤ (4294967296 : Int))) = true by (simp; omega))
      let t14 : Tp pr := .c (show ((↑l.length : Int).toNat : Nat) = l.length by omega)
      let t15 : Tp pr := .n .crows (rfl : (List.replicate l.length [C.t (T.int IntKind.i64 (0 : Int))]) = _)
      let t19 : Tp pr := .i (show ((↑(List.map Line.ce l).length : Int) : Int) = (↑l.length : Int) by simp)
      let t20 : Tp pr := .a (Ev.castq (congrArg (fun x => Q.loop (lq pr (27 : FuncId) (0 : Nat)) (at_ [((4 : Nat), V.t (T.seq (1 : Nat) (List.map intt W))), ((6 : Nat), V.vec (0 : Nat) l.length (1 : Nat) (0 : Nat) l.length), ((7 : Nat), V.vec (1 : Nat) l.length (1 : Nat) (0 : Nat) l.length), ((8 : Nat), V.vec (2 : Nat) (0 : Nat) (3 : Nat) (0 : Nat) (0 : Nat)), ((26 : Nat), lines l), ((27 : Nat), i64 (↑l.length : Int)), ((28 : Nat), i64 (↑(0 : Nat) : Int))] [Ob.vec true (1 : Nat) x, Ob.vec true (1 : Nat) x, Ob.vec true (3 : Nat) (bcc [])] (0 : Nat))) (show (ints (List.replicate l.length (0 : Int))) = (List.replicate l.length [C.t (T.int IntKind.i64 (0 : Int))]) by simp)) (hL))
      let t22 : Tp pr := .m (show (decide ((bcc r).length = r.length ∧ (0 : Nat) + r.length ≤ r.length ∧ r.length + (2 : Nat) ≤ (4294967296 : Nat))) = true by (simp; omega))
      let t23 : Tp pr := .b (show (decide (r.length + (2 : Nat) ≤ r.length)) = false by simp)
      let t25 : Tp pr := .n .crows (show ((List.take r.length (bcc r)).append (List.take (2 : Nat) (List.drop (0 : Nat) [[C.t (T.int IntKind.i64 (2 : Int)), C.t (T.int IntKind.i64 (0 : Int)), C.t (T.str (ByteArray.mk #[]))], [C.t (T.int IntKind.i64 (9 : Int)), C.t (T.int IntKind.i64 (0 : Int)), C.t (T.str (ByteArray.mk #[]))]]))) = bcc (r ++ [Bc.mk (2 : Int) (0 : Int) (ByteArray.mk #[]), Bc.mk (9 : Int) (0 : Int) (ByteArray.mk #[])]) by simp)
      let t26 : Tp pr := .i (show ((↑(r.length + (2 : Nat)) : Int) : Int) = (↑r.length : Int) + (2 : Int) by omega)
      let t27 : Tp pr := .b (show (decide ((↑r.length : Int) + (2 : Int) > (120 : Int))) = true by (simp; omega))
      exact .tp [.a (hg), .b (rfl : false = false), .a (he), .m (rfl : true = true), t4, .m (rfl : true = true), t6, t7, t8, .m (rfl : true = true), .m (rfl : true = true), t11, .m (rfl : true = true), t13, t14, t15, .m (rfl : true = true), .m (rfl : true = true), .m (rfl : true = true), t19, t20, .m (rfl : true = true), t22, t23, .c (rfl : (r.length + (2 : Nat)) = _), t25, t26, t27] (by kernel_rfl)
end Go.Ev

/- Code that is made of a program: the reference's. -/
namespace Go.Ev
set_option linter.unusedVariables false
set_option linter.unusedSimpArgs false
open Go.Proofs
set_option maxRecDepth 100000
set_option linter.unusedVariables false
set_option maxHeartbeats 1000000
attribute [local simp] e0
theorem l17EndsL_ev (l : List Line) (hl : l.length ≤ 1048576) (W st' junk' : List Int) : ∀ (rest done : List Line) (i : Int) (out st junk : List Int), l = done ++ rest → i = done.length → out.length = l.length → (∀ k ∈ st, 0 ≤ k ∧ k < l.length) → st.length ≤ done.length →
    endsGo rest i out st junk = some (W, st', junk') →
    Ev pr (.loop (lq pr 81 0) (at_ [(3, .vec 0 l.length 1 0 l.length), (4, .vec 1 (st.length + junk.length) 1 0 st.length), (11, lines l), (12, i64 l.length), (13, i64 i)] [.vec true 1 (ints out), .vec true 1 (ints (st.reverse ++ junk))] 0))
      (.exit 0 (at_ [(3, .vec 0 l.length 1 0 l.length)] [.vec true 1 (ints W)] 0))
  | [], done, i, out, st, junk, h, hi, ho, hs, hd, he => by
    have hll : (l.length : Int) = done.length := by simp [h]
    simp [endsGo] at he
    rw [← he.1]
    let t0 : Tp pr := .b (show (decide (i < (↑l.length : Int))) = false by (simp; omega))
    exact .tp [t0] (by kernel_rfl)
  | x :: rest, done, i, out, st, junk, h, hi, ho, hs, hd, he => by
    have hll : (l.length : Int) = done.length + 1 + rest.length := by simp [h]; omega
    have hg : lkp (l.map Line.ce) i = some x.ce := by subst hi; subst h; simp
    have hdl : (done ++ [x]).length = done.length + 1 := by simp
    unfold endsGo at he
    by_cases h2 : x.kind = 2
    · rw [if_pos h2] at he
      have ih := l17EndsL_ev l hl W st' junk' rest (done ++ [x]) (i + 1) out (i :: st) junk.tail (by simp [h]) (by simp [hi]) ho (List.forall_mem_cons.2 ⟨by omega, hs⟩) (by simp; omega) he
      clear he
      cases junk with
      | nil => 
        let t0 : Tp pr := .b (show (decide (i < (↑l.length : Int))) = true by (simp; omega))
        let t1 : Tp pr := .g .row (show (lkp (List.map Line.ce l) i) = some (x.ce) from hg)
        let t2 : Tp pr := .b (show (decide (x.kind = (2 : Int))) = true by (simp; omega))
        let t4 : Tp pr := .m (show (decide ((ints (st.reverse ++ [])).length = st.length + (0 : Nat) ∧ (0 : Nat) + st.length ≤ st.length + (0 : Nat) ∧ st.length + (1 : Nat) ≤ (4294967296 : Nat))) = true by (simp; omega))
        let t5 : Tp pr := .b (show (decide (st.length + (1 : Nat) ≤ st.length + (0 : Nat))) = false by simp)
        let t7 : Tp pr := .n .crows (show ((List.take st.length (ints (st.reverse ++ []))).append (List.take (1 : Nat) (List.drop (0 : Nat) [[C.t (T.int IntKind.i64 i)]]))) = ints st.reverse ++ [[C.t (T.int IntKind.i64 i)]] by simp)
        let t8 : Tp pr := .i (wrap_i64 (a := i + (1 : Int)) (by omega) (by omega))
        let t9 : Tp pr := .a (Ev.castq (congrArg (fun x => Q.loop (lq pr (81 : FuncId) (0 : Nat)) (at_ [((3 : Nat), V.vec (0 : Nat) l.length (1 : Nat) (0 : Nat) l.length), ((4 : Nat), V.vec (1 : Nat) ((i :: st).length + [].tail.length) (1 : Nat) (0 : Nat) (i :: st).length), ((11 : Nat), lines l), ((12 : Nat), i64 (↑l.length : Int)), ((13 : Nat), i64 (i + (1 : Int)))] [Ob.vec true (1 : Nat) (ints out), Ob.vec true (1 : Nat) x] (0 : Nat))) (show (ints ((i :: st).reverse ++ [].tail)) = ((ints st.reverse).append [[C.t (T.int IntKind.i64 i)]]) by simp [ints_app, ints_cons, intc])) (ih))
        exact .tp [t0, t1, t2, .m (rfl : true = true), t4, t5, .c (rfl : (st.length + (1 : Nat)) = _), t7, t8, t9] (by kernel_rfl)
      | cons j junk => 
        let t0 : Tp pr := .b (show (decide (i < (↑l.length : Int))) = true by (simp; omega))
        let t1 : Tp pr := .g .row (show (lkp (List.map Line.ce l) i) = some (x.ce) from hg)
        let t2 : Tp pr := .b (show (decide (x.kind = (2 : Int))) = true by (simp; omega))
        let t4 : Tp pr := .m (show (decide ((ints (st.reverse ++ j :: junk)).length = st.length + (j :: junk).length ∧ (0 : Nat) + st.length ≤ st.length + (j :: junk).length ∧ st.length + (1 : Nat) ≤ (4294967296 : Nat))) = true by (simp; omega))
        let t5 : Tp pr := .b (show (decide (st.length + (1 : Nat) ≤ st.length + (j :: junk).length)) = true by simp)
        let t7 : Tp pr := .n .crows (show (((List.take st.length (ints (st.reverse ++ j :: junk))).append (List.take (1 : Nat) (List.drop (0 : Nat) [[C.t (T.int IntKind.i64 i)]]))).append (List.drop (st.length + (1 : Nat)) (ints (st.reverse ++ j :: junk)))) = ints st.reverse ++ [C.t (T.int IntKind.i64 i)] :: ints junk by simp)
        let t8 : Tp pr := .i (wrap_i64 (a := i + (1 : Int)) (by omega) (by omega))
        let t9 : Tp pr := .a (Ev.castq ((congrArg (fun x => Q.loop (lq pr (81 : FuncId) (0 : Nat)) (at_ [((3 : Nat), V.vec (0 : Nat) l.length (1 : Nat) (0 : Nat) l.length), ((4 : Nat), V.vec (1 : Nat) x (1 : Nat) (0 : Nat) (i :: st).length), ((11 : Nat), lines l), ((12 : Nat), i64 (↑l.length : Int)), ((13 : Nat), i64 (i + (1 : Int)))] [Ob.vec true (1 : Nat) (ints out), Ob.vec true (1 : Nat) (ints ((i :: st).reverse ++ (j :: junk).tail))] (0 : Nat))) (show ((i :: st).length + (j :: junk).tail.length) = (st.length + (j :: junk).length) by (simp; omega))).trans (congrArg (fun x => Q.loop (lq pr (81 : FuncId) (0 : Nat)) (at_ [((3 : Nat), V.vec (0 : Nat) l.length (1 : Nat) (0 : Nat) l.length), ((4 : Nat), V.vec (1 : Nat) (st.length + (j :: junk).length) (1 : Nat) (0 : Nat) (i :: st).length), ((11 : Nat), lines l), ((12 : Nat), i64 (↑l.length : Int)), ((13 : Nat), i64 (i + (1 : Int)))] [Ob.vec true (1 : Nat) (ints out), Ob.vec true (1 : Nat) x] (0 : Nat))) (show (ints ((i :: st).reverse ++ (j :: junk).tail)) = ((ints st.reverse).append ([C.t (T.int IntKind.i64 i)] :: ints junk)) by simp [ints_app, ints_cons, intc]))) (ih))
        exact .tp [t0, t1, t2, .m (rfl : true = true), t4, t5, .c (rfl : (st.length + (1 : Nat)) = _), t7, t8, t9] (by kernel_rfl)
    · rw [if_neg h2] at he
      by_cases h3 : x.kind = 3
      · rw [if_pos h3] at he
        cases st with
        | nil => cases he
        | cons j st0 =>
          dsimp only at he
          have hj := hs j (by simp)
          have ih := l17EndsL_ev l hl W st' junk' rest (done ++ [x]) (i + 1) ((out.set i.toNat j).set j.toNat i) st0 (j :: junk) (by simp [h]) (by simp [hi]) (by simp [ho]) (by intro k hk; exact hs k (by simp [hk])) (by simp at hd ⊢; omega) he
          have g1 := ints_get (l := out) (k := i.toNat) (by omega)
          have g2 := ints_get (l := out.set i.toNat j) (k := j.toNat) (by simp; omega)
          clear he
          let t0 : Tp pr := .b (show (decide (i < (↑l.length : Int))) = true by (simp; omega))
          let t1 : Tp pr := .g .row (show (lkp (List.map Line.ce l) i) = some (x.ce) from hg)
          let t2 : Tp pr := .b (show (decide (x.kind = (2 : Int))) = false by (simp; omega))
          let t3 : Tp pr := .b (show (decide (x.kind = (3 : Int))) = true by (simp; omega))
          let t4 : Tp pr := .i (show ((↑(j :: st0).length : Int) : Int) = (↑st0.length : Int) + (1 : Int) by simp)
          let t5 : Tp pr := .i (wrap_i64 (a := (↑st0.length : Int) + (1 : Int) - (1 : Int)) (by omega) (by (simp at *; omega)))
          let t6 : Tp pr := .m (show (decide ((0 : Int) ≤ (↑st0.length : Int) + (1 : Int) - (1 : Int) ∧ ((↑st0.length : Int) + (1 : Int) - (1 : Int)).toNat < (j :: st0).length)) = true by simp)
          let t7 : Tp pr := .c (show ((0 : Nat) + ((↑st0.length : Int) + (1 : Int) - (1 : Int)).toNat : Nat) = st0.length by omega)
          let t8 : Tp pr := .m (show (decide ((ints ((j :: st0).reverse ++ junk)).length = (j :: st0).length + junk.length)) = true by (simp; omega))
          let t9 : Tp pr := .g .crow (show ((ints ((j :: st0).reverse ++ junk))[st0.length]?) = some (intc j) by simp)
          let t10 : Tp pr := .m (show (decide ((0 : Int) ≤ i ∧ i.toNat < l.length)) = true by simp [*])
          let t11 : Tp pr := .c (show ((0 : Nat) + i.toNat : Nat) = i.toNat by omega)
          let t12 : Tp pr := .m (show (decide ((ints out).length = l.length)) = true by simp [*])
          let t13 : Tp pr := .g .crow (show ((ints out)[i.toNat]?) = some (intc (out.getD i.toNat (0 : Int))) from g1)
          let t14 : Tp pr := .n .crows (show ((ints out).set i.toNat [C.t (T.int IntKind.i64 j)]) = ints (out.set i.toNat j) by simp)
          let t15 : Tp pr := .m (show (decide ((0 : Int) ≤ (↑st0.length : Int) + (1 : Int) - (1 : Int) ∧ ((↑st0.length : Int) + (1 : Int) - (1 : Int)).toNat < (j :: st0).length)) = true by simp)
          let t16 : Tp pr := .c (show ((0 : Nat) + ((↑st0.length : Int) + (1 : Int) - (1 : Int)).toNat : Nat) = st0.length by omega)
          let t17 : Tp pr := .m (show (decide ((ints ((j :: st0).reverse ++ junk)).length = (j :: st0).length + junk.length)) = true by (simp; omega))
          let t18 : Tp pr := .g .crow (show ((ints ((j :: st0).reverse ++ junk))[st0.length]?) = some (intc j) by simp)
          let t19 : Tp pr := .m (show (decide ((0 : Int) ≤ j ∧ j.toNat < l.length)) = true by (simp; omega))
          let t20 : Tp pr := .c (show ((0 : Nat) + j.toNat : Nat) = j.toNat by omega)
          let t21 : Tp pr := .m (show (decide ((ints (out.set i.toNat j)).length = l.length)) = true by simp [*])
          let t22 : Tp pr := .g .crow (show ((ints (out.set i.toNat j))[j.toNat]?) = some (intc ((out.set i.toNat j).getD j.toNat (0 : Int))) from g2)
          let t23 : Tp pr := .n .crows (show ((ints (out.set i.toNat j)).set j.toNat [C.t (T.int IntKind.i64 i)]) = ints ((out.set i.toNat j).set j.toNat i) by simp)
          let t24 : Tp pr := .m (show (decide ((0 : Int) ≤ (0 : Int) ∧ (0 : Int) ≤ (↑st0.length : Int) + (1 : Int) - (1 : Int) ∧ (0 : Nat) + ((↑st0.length : Int) + (1 : Int) - (1 : Int)).toNat ≤ (j :: st0).length + junk.length)) = true by (simp; omega))
          let t26 : Tp pr := .c (show (((↑st0.length : Int) + (1 : Int) - (1 : Int)).toNat - (0 : Nat) : Nat) = st0.length by omega)
          let t27 : Tp pr := .i (wrap_i64 (a := i + (1 : Int)) (by omega) (by omega))
          let t28 : Tp pr := .a (Ev.castq ((congrArg (fun x => Q.loop (lq pr (81 : FuncId) (0 : Nat)) (at_ [((3 : Nat), V.vec (0 : Nat) l.length (1 : Nat) (0 : Nat) l.length), ((4 : Nat), V.vec (1 : Nat) x (1 : Nat) (0 : Nat) st0.length), ((11 : Nat), lines l), ((12 : Nat), i64 (↑l.length : Int)), ((13 : Nat), i64 (i + (1 : Int)))] [Ob.vec true (1 : Nat) (ints ((out.set i.toNat j).set j.toNat i)), Ob.vec true (1 : Nat) (ints (st0.reverse ++ j :: junk))] (0 : Nat))) (show (st0.length + (j :: junk).length) = ((j :: st0).length + junk.length) by (simp; omega))).trans (congrArg (fun x => Q.loop (lq pr (81 : FuncId) (0 : Nat)) (at_ [((3 : Nat), V.vec (0 : Nat) l.length (1 : Nat) (0 : Nat) l.length), ((4 : Nat), V.vec (1 : Nat) ((j :: st0).length + junk.length) (1 : Nat) (0 : Nat) st0.length), ((11 : Nat), lines l), ((12 : Nat), i64 (↑l.length : Int)), ((13 : Nat), i64 (i + (1 : Int)))] [Ob.vec true (1 : Nat) (ints ((out.set i.toNat j).set j.toNat i)), Ob.vec true (1 : Nat) x] (0 : Nat))) (show (ints (st0.reverse ++ j :: junk)) = (ints ((j :: st0).reverse ++ junk)) by simp [ints_app, ints_cons, intc]))) (ih))
          exact .tp [t0, t1, t2, t3, t4, t5, t6, t7, t8, t9, t10, t11, t12, t13, t14, t15, t16, t17, t18, t19, t20, t21, t22, t23, t24, .c (rfl : ((0 : Nat)) = _), t26, t27, t28] (by kernel_rfl)
      · rw [if_neg h3] at he
        have ih := l17EndsL_ev l hl W st' junk' rest (done ++ [x]) (i + 1) out st junk (by simp [h]) (by simp [hi]) ho hs (by simp; omega) he
        clear he
        let t0 : Tp pr := .b (show (decide (i < (↑l.length : Int))) = true by (simp; omega))
        let t1 : Tp pr := .g .row (show (lkp (List.map Line.ce l) i) = some (x.ce) from hg)
        let t2 : Tp pr := .b (show (decide (x.kind = (2 : Int))) = false by (simp; omega))
        let t3 : Tp pr := .b (show (decide (x.kind = (3 : Int))) = false by (simp; omega))
        let t4 : Tp pr := .i (wrap_i64 (a := i + (1 : Int)) (by omega) (by omega))
        exact .tp [t0, t1, t2, t3, t4, .a (ih)] (by kernel_rfl)
theorem l17Ends_ev (l : List Line) (hl : l.length ≤ 1048576) (W junk : List Int) (h : endsGo l 0 (List.replicate l.length 0) [] [] = some (W, [], junk)) : Ev pr (.call 81 [lines l] []) (.val (.t (.seq 1 (W.map intt))) []) := by
  have hL := l17EndsL_ev l hl W [] junk l [] 0 (List.replicate l.length 0) [] [] rfl rfl (by simp) (by simp) (by simp) h
  have hol := endsGo_len _ _ _ _ _ _ _ _ h
  simp at hol
  clear h
  let t0 : Tp pr := .i (show ((↑(List.map Line.ce l).length : Int) : Int) = (↑l.length : Int) by simp)
  let t1 : Tp pr := .m (show (decide ((0 : Int) ≤ (↑l.length : Int) ∧ (↑l.length : Int) ≤ (↑l.length : Int) ∧ (↑l.length : Int) ≤ (4294967296 : Int))) = true by (simp; omega))
  let t2 : Tp pr := .c (show ((↑l.length : Int).toNat : Nat) = l.length by omega)
  let t3 : Tp pr := .n .crows (rfl : (List.replicate l.length [C.t (T.int IntKind.i64 (0 : Int))]) = _)
  let t4 : Tp pr := .i (show ((↑(List.map Line.ce l).length : Int) : Int) = (↑l.length : Int) by simp)
  let t5 : Tp pr := .a (Ev.castq (congrArg (fun x => Q.loop (lq pr (81 : FuncId) (0 : Nat)) (at_ [((3 : Nat), V.vec (0 : Nat) l.length (1 : Nat) (0 : Nat) l.length), ((4 : Nat), V.vec (1 : Nat) ((0 : Nat) + (0 : Nat)) (1 : Nat) (0 : Nat) (0 : Nat)), ((11 : Nat), lines l), ((12 : Nat), i64 (↑l.length : Int)), ((13 : Nat), i64 (0 : Int))] [Ob.vec true (1 : Nat) x, Ob.vec true (1 : Nat) (ints ([].reverse ++ []))] (0 : Nat))) (show (ints (List.replicate l.length (0 : Int))) = (List.replicate l.length [C.t (T.int IntKind.i64 (0 : Int))]) by simp [intt, ← hol])) (hL))
  let t6 : Tp pr := .m (show (decide ((ints W).length = l.length ∧ (0 : Nat) + l.length ≤ l.length)) = true by simp [*])
  let t7 : Tp pr := .n .rows (show (List.map (fun x => List.map C.fz x) (List.take l.length (List.drop (0 : Nat) (ints W)))) = List.take l.length (List.map intt W) by simp)
  exact .tpe [t0, t1, t2, t3, t4, t5, t6, t7] (Out.val (V.t (T.seq (1 : Nat) (List.take l.length (List.map intt W)))) []) (by kernel_rfl) (congrArg (fun x => Out.val (V.t (T.seq (1 : Nat) x)) []) (show (List.take l.length (List.map intt W)) = (List.map intt W) by simp [intt, ← hol]))
theorem mcSL_ev (p : List Line) (hl : p.length ≤ 12) (hs : ∀ x ∈ p, x.expr.length ≤ 1048576 ∧ ∀ y ∈ x.expr, y.text.size ≤ 9223372036854775807) (hk : ∀ x ∈ p, lineOk x = true) (W : List Int) (hWl : W.length = p.length) (hW : goodW p W) :
    ∀ (rest done : List Line) (B H : List Int) (o : List Bc), p = done ++ rest → B.length = p.length → H.length = p.length → o.length ≤ 250 * done.length →
    (∀ (j : Nat) (y : Line), j < done.length → p[j]? = some y → y.kind = 2 → ∃ h : Nat, H.getD j 0 = h ∧ h < o.length) →
    Ev pr (.loop (lq pr 61 0) (at_ [(3, .vec 0 o.length 3 0 o.length), (4, .vec 1 p.length 1 0 p.length), (5, .vec 2 p.length 1 0 p.length), (6, .t (.seq 1 (W.map intt))), (19, lines p), (20, i64 p.length), (21, i64 done.length)]
        [.vec true 3 (bcc o), .vec true 1 (ints B), .vec true 1 (ints H)] 0))
      (.exit 0 (at_ [(3, .vec 0 (makeGoS W rest done.length B H o).length 3 0 (makeGoS W rest done.length B H o).length)] [.vec true 3 (bcc (makeGoS W rest done.length B H o))] 0))
  | [], done, B, H, o, hp, hB, hH, ho, hh => by
    have hll : (p.length : Int) = done.length := by simp [hp]
    rw [show makeGoS W [] done.length B H o = o from rfl]
    let t0 : Tp pr := .b (show (decide ((↑done.length : Int) < (↑p.length : Int))) = false by (simp; omega))
    exact .tp [t0] (by kernel_rfl)
  | x :: rest, done, B, H, o, hp, hB, hH, ho, hh => by
    have hll : (p.length : Int) = done.length + 1 + rest.length := by simp [hp]; omega
    have hx : p[done.length]? = some x := by simp [hp]
    have hg : lkp (p.map Line.ce) (done.length : Int) = some x.ce := by rw [hp]; simp
    have hdl : (done ++ [x]).length = done.length + 1 := by simp
    have hp' : p = (done ++ [x]) ++ rest := by simp [hp]
    have gB := ints_get (l := B) (k := done.length) (by omega)
    have gH := ints_get (l := H) (k := done.length) (by omega)
    have hxe := l2Tree_ev x.expr (hs x (by simp [hp])).1 (hs x (by simp [hp])).2
    have ih := fun B H o => mcSL_ev p hl hs hk W hWl hW rest (done ++ [x]) B H o hp'
    simp only [hdl] at ih
    have old : ∀ (j : Nat) (y : Line), j < done.length + 1 → p[j]? = some y → y.kind = 2 → x.kind ≠ 2 → j < done.length := fun j y hj hy h2 hx2 => by
      by_cases e : j = done.length
      · subst e
        rw [hx] at hy
        obtain rfl := Option.some.inj hy
        exact absurd h2 hx2
      · omega
    rcases lineOk_kind (hk x (by simp [hp])) with ⟨h1, hn0, hn9, e, he⟩ | ⟨h2, e, he⟩ | h3
    · rw [parse_tree (parseL_parse he), parseL_parse he] at hxe
      have hz := parseL_size he
      have hm := l17Make_ev e o (by omega) (parseL_names he)
      have hcl := codeE_len e o
      rw [show makeGoS W (x :: rest) done.length B H o = makeGoS W rest (done.length + 1) (B.set done.length o.length) (H.set done.length (codeE e o).length) (codeE e o ++ [⟨3, x.name, e0⟩]) by simp [makeGoS, h1, codeL, he]]
      have ih1 := ih (B.set done.length o.length) (H.set done.length (codeE e o).length) (codeE e o ++ [⟨3, x.name, e0⟩]) (by simp [hB]) (by simp [hH]) (by simp; omega) (fun j y hj hy h2 => by
        by_cases ej : j = done.length
        · subst ej
          exact ⟨(codeE e o).length, by rw [List.getD_eq_getElem?_getD, List.getElem?_set, if_pos rfl, if_pos (by omega)]; rfl, by simp⟩
        · obtain ⟨h, q1, q2⟩ := hh j y (by omega) hy h2
          refine ⟨h, ?_, by simp; omega⟩
          rw [← q1]
          simp [List.getD_eq_getElem?_getD, List.getElem?_set, Ne.symm ej])
      let t0 : Tp pr := .b (show (decide ((↑done.length : Int) < (↑p.length : Int))) = true by (simp; omega))
      let t1 : Tp pr := .g .row (show (lkp (List.map Line.ce p) (↑done.length : Int)) = some (x.ce) from hg)
      let t3 : Tp pr := .m (show (decide ((0 : Int) ≤ (↑done.length : Int) ∧ (↑done.length : Int).toNat < p.length)) = true by simp [*])
      let t4 : Tp pr := .c (show ((0 : Nat) + (↑done.length : Int).toNat : Nat) = done.length by omega)
      let t5 : Tp pr := .m (show (decide ((ints B).length = p.length)) = true by simp [*])
      let t6 : Tp pr := .g .crow (show ((ints B)[done.length]?) = some (intc (B.getD done.length (0 : Int))) from gB)
      let t7 : Tp pr := .n .crows (show ((ints B).set done.length [C.t (T.int IntKind.i64 (↑o.length : Int))]) = ints (B.set done.length (↑o.length : Int)) by simp)
      let t8 : Tp pr := .b (show (decide (x.kind = (3 : Int))) = false by (simp; omega))
      let t11 : Tp pr := .i (rfl : ((↑(codeE e o).length : Int)) = _)
      let t12 : Tp pr := .m (show (decide ((0 : Int) ≤ (↑done.length : Int) ∧ (↑done.length : Int).toNat < p.length)) = true by simp [*])
      let t13 : Tp pr := .c (show ((0 : Nat) + (↑done.length : Int).toNat : Nat) = done.length by omega)
      let t14 : Tp pr := .m (show (decide ((ints H).length = p.length)) = true by simp [*])
      let t15 : Tp pr := .g .crow (show ((ints H)[done.length]?) = some (intc (H.getD done.length (0 : Int))) from gH)
      let t16 : Tp pr := .n .crows (show ((ints H).set done.length [C.t (T.int IntKind.i64 (↑(codeE e o).length : Int))]) = ints (H.set done.length (↑(codeE e o).length : Int)) by simp)
      let t17 : Tp pr := .b (show (decide (x.kind = (1 : Int))) = true by (simp; omega))
      let t19 : Tp pr := .m (show (decide ((bcc (codeE e o)).length = (codeE e o).length ∧ (0 : Nat) + (codeE e o).length ≤ (codeE e o).length ∧ (codeE e o).length + (1 : Nat) ≤ (4294967296 : Nat))) = true by (simp; omega))
      let t20 : Tp pr := .b (show (decide ((codeE e o).length + (1 : Nat) ≤ (codeE e o).length)) = false by simp)
      let t21 : Tp pr := .c (rfl : ((codeE e o).length + (1 : Nat)) = _)
      let t22 : Tp pr := .n .crows (show ((List.take (codeE e o).length (bcc (codeE e o))).append (List.take (1 : Nat) (List.drop (0 : Nat) [[C.t (T.int IntKind.i64 (3 : Int)), C.t (T.int IntKind.i64 x.name), C.t (T.str (ByteArray.mk #[]))]]))) = bcc (codeE e o ++ [Bc.mk (3 : Int) x.name (ByteArray.mk #[])]) by simp)
      let t23 : Tp pr := .i (wrap_i64 (a := (↑done.length : Int) + (1 : Int)) (by omega) (by omega))
      let t24 : Tp pr := .a (Ev.castq (congrArg (fun x_1 => Q.loop (lq pr (61 : FuncId) (0 : Nat)) (at_ [((3 : Nat), V.vec (0 : Nat) x_1 (3 : Nat) (0 : Nat) x_1), ((4 : Nat), V.vec (1 : Nat) p.length (1 : Nat) (0 : Nat) p.length), ((5 : Nat), V.vec (2 : Nat) p.length (1 : Nat) (0 : Nat) p.length), ((6 : Nat), V.t (T.seq (1 : Nat) (List.map intt W))), ((19 : Nat), lines p), ((20 : Nat), i64 (↑p.length : Int)), ((21 : Nat), i64 (↑(done.length + (1 : Nat)) : Int))] [Ob.vec true (3 : Nat) (bcc (codeE e o ++ [Bc.mk (3 : Int) x.name e0])), Ob.vec true (1 : Nat) (ints (B.set done.length (↑o.length : Int))), Ob.vec true (1 : Nat) (ints (H.set done.length (↑(codeE e o).length : Int)))] (0 : Nat))) (show ((codeE e o ++ [Bc.mk (3 : Int) x.name e0]).length) = ((codeE e o).length + (1 : Nat)) by simp [intc])) (ih1))
      exact .tp [t0, t1, .i (rfl : ((↑o.length : Int)) = _), t3, t4, t5, t6, t7, t8, .a (hxe), .a (hm), t11, t12, t13, t14, t15, t16, t17, .m (rfl : true = true), t19, t20, t21, t22, t23, t24] (by kernel_rfl)
    · rw [parse_tree (parseL_parse he), parseL_parse he] at hxe
      have hz := parseL_size he
      have hm := l17Make_ev e o (by omega) (parseL_names he)
      have hcl := codeE_len e o
      rw [show makeGoS W (x :: rest) done.length B H o = makeGoS W rest (done.length + 1) (B.set done.length o.length) (H.set done.length (codeE e o).length) (codeE e o ++ [⟨7, 0, e0⟩]) by simp [makeGoS, h2, codeL, he]]
      have ih1 := ih (B.set done.length o.length) (H.set done.length (codeE e o).length) (codeE e o ++ [⟨7, 0, e0⟩]) (by simp [hB]) (by simp [hH]) (by simp; omega) (fun j y hj hy h2 => by
        by_cases ej : j = done.length
        · subst ej
          exact ⟨(codeE e o).length, by rw [List.getD_eq_getElem?_getD, List.getElem?_set, if_pos rfl, if_pos (by omega)]; rfl, by simp⟩
        · obtain ⟨h, q1, q2⟩ := hh j y (by omega) hy h2
          refine ⟨h, ?_, by simp; omega⟩
          rw [← q1]
          simp [List.getD_eq_getElem?_getD, List.getElem?_set, Ne.symm ej])
      let t0 : Tp pr := .b (show (decide ((↑done.length : Int) < (↑p.length : Int))) = true by (simp; omega))
      let t1 : Tp pr := .g .row (show (lkp (List.map Line.ce p) (↑done.length : Int)) = some (x.ce) from hg)
      let t3 : Tp pr := .m (show (decide ((0 : Int) ≤ (↑done.length : Int) ∧ (↑done.length : Int).toNat < p.length)) = true by simp [*])
      let t4 : Tp pr := .c (show ((0 : Nat) + (↑done.length : Int).toNat : Nat) = done.length by omega)
      let t5 : Tp pr := .m (show (decide ((ints B).length = p.length)) = true by simp [*])
      let t6 : Tp pr := .g .crow (show ((ints B)[done.length]?) = some (intc (B.getD done.length (0 : Int))) from gB)
      let t7 : Tp pr := .n .crows (show ((ints B).set done.length [C.t (T.int IntKind.i64 (↑o.length : Int))]) = ints (B.set done.length (↑o.length : Int)) by simp)
      let t8 : Tp pr := .b (show (decide (x.kind = (3 : Int))) = false by (simp; omega))
      let t11 : Tp pr := .i (rfl : ((↑(codeE e o).length : Int)) = _)
      let t12 : Tp pr := .m (show (decide ((0 : Int) ≤ (↑done.length : Int) ∧ (↑done.length : Int).toNat < p.length)) = true by simp [*])
      let t13 : Tp pr := .c (show ((0 : Nat) + (↑done.length : Int).toNat : Nat) = done.length by omega)
      let t14 : Tp pr := .m (show (decide ((ints H).length = p.length)) = true by simp [*])
      let t15 : Tp pr := .g .crow (show ((ints H)[done.length]?) = some (intc (H.getD done.length (0 : Int))) from gH)
      let t16 : Tp pr := .n .crows (show ((ints H).set done.length [C.t (T.int IntKind.i64 (↑(codeE e o).length : Int))]) = ints (H.set done.length (↑(codeE e o).length : Int)) by simp)
      let t17 : Tp pr := .b (show (decide (x.kind = (1 : Int))) = false by (simp; omega))
      let t19 : Tp pr := .m (show (decide ((bcc (codeE e o)).length = (codeE e o).length ∧ (0 : Nat) + (codeE e o).length ≤ (codeE e o).length ∧ (codeE e o).length + (1 : Nat) ≤ (4294967296 : Nat))) = true by (simp; omega))
      let t20 : Tp pr := .b (show (decide ((codeE e o).length + (1 : Nat) ≤ (codeE e o).length)) = false by simp)
      let t21 : Tp pr := .c (rfl : ((codeE e o).length + (1 : Nat)) = _)
      let t22 : Tp pr := .n .crows (show ((List.take (codeE e o).length (bcc (codeE e o))).append (List.take (1 : Nat) (List.drop (0 : Nat) [[C.t (T.int IntKind.i64 (7 : Int)), C.t (T.int IntKind.i64 (0 : Int)), C.t (T.str (ByteArray.mk #[]))]]))) = bcc (codeE e o ++ [Bc.mk (7 : Int) (0 : Int) (ByteArray.mk #[])]) by simp)
      let t23 : Tp pr := .i (wrap_i64 (a := (↑done.length : Int) + (1 : Int)) (by omega) (by omega))
      let t24 : Tp pr := .a (Ev.castq (congrArg (fun x => Q.loop (lq pr (61 : FuncId) (0 : Nat)) (at_ [((3 : Nat), V.vec (0 : Nat) x (3 : Nat) (0 : Nat) x), ((4 : Nat), V.vec (1 : Nat) p.length (1 : Nat) (0 : Nat) p.length), ((5 : Nat), V.vec (2 : Nat) p.length (1 : Nat) (0 : Nat) p.length), ((6 : Nat), V.t (T.seq (1 : Nat) (List.map intt W))), ((19 : Nat), lines p), ((20 : Nat), i64 (↑p.length : Int)), ((21 : Nat), i64 (↑(done.length + (1 : Nat)) : Int))] [Ob.vec true (3 : Nat) (bcc (codeE e o ++ [Bc.mk (7 : Int) (0 : Int) e0])), Ob.vec true (1 : Nat) (ints (B.set done.length (↑o.length : Int))), Ob.vec true (1 : Nat) (ints (H.set done.length (↑(codeE e o).length : Int)))] (0 : Nat))) (show ((codeE e o ++ [Bc.mk (7 : Int) (0 : Int) e0]).length) = ((codeE e o).length + (1 : Nat)) by simp [intc])) (ih1))
      exact .tp [t0, t1, .i (rfl : ((↑o.length : Int)) = _), t3, t4, t5, t6, t7, t8, .a (hxe), .a (hm), t11, t12, t13, t14, t15, t16, t17, .m (rfl : true = true), t19, t20, t21, t22, t23, t24] (by kernel_rfl)
    · obtain ⟨j, y, e1, e2, e3, e4⟩ := hW _ x hx h3
      obtain ⟨h, q1, q2⟩ := hh j y e2 e3 e4
      have ej : jOf W done.length = j := by rw [jOf, e1]; simp
      have hgW : lkp (W.map intt) (done.length : Int) = some [T.int .i64 (j : Int)] := by
        rw [← e1, lkp, if_pos (by omega)]
        simp [List.getD_eq_getElem?_getD, intt, show done.length < W.length by omega]
      have g1 := ints_get (l := B.set done.length o.length) (k := j) (by simp; omega)
      have g2 := ints_get (l := H) (k := j) (by omega)
      rw [q1] at g2
      have g3 := bcc_getD (l := o ++ [⟨6, (B.set done.length o.length).getD j 0, e0⟩]) (k := h) (by simp; omega)
      rw [show makeGoS W (x :: rest) done.length B H o = makeGoS W rest (done.length + 1) (B.set done.length o.length) H (setN (o ++ [⟨6, (B.set done.length o.length).getD j 0, e0⟩]) h (o.length + 1)) by rw [makeGoS, if_pos h3, ej, q1, Int.toNat_natCast]]
      have ih1 := ih (B.set done.length o.length) H (setN (o ++ [⟨6, (B.set done.length o.length).getD j 0, e0⟩]) h (o.length + 1)) (by simp [hB]) hH (by simp; omega) (fun j y hj hy h2 => by
        obtain ⟨h, q1, q2⟩ := hh j y (old j y hj hy h2 (by omega)) hy h2
        exact ⟨h, q1, by simp; omega⟩)
      let t0 : Tp pr := .b (show (decide ((↑done.length : Int) < (↑p.length : Int))) = true by (simp; omega))
      let t1 : Tp pr := .g .row (show (lkp (List.map Line.ce p) (↑done.length : Int)) = some (x.ce) from hg)
      let t3 : Tp pr := .m (show (decide ((0 : Int) ≤ (↑done.length : Int) ∧ (↑done.length : Int).toNat < p.length)) = true by simp [*])
      let t4 : Tp pr := .c (show ((0 : Nat) + (↑done.length : Int).toNat : Nat) = done.length by omega)
      let t5 : Tp pr := .m (show (decide ((ints B).length = p.length)) = true by simp [*])
      let t6 : Tp pr := .g .crow (show ((ints B)[done.length]?) = some (intc (B.getD done.length (0 : Int))) from gB)
      let t7 : Tp pr := .n .crows (show ((ints B).set done.length [C.t (T.int IntKind.i64 (↑o.length : Int))]) = ints (B.set done.length (↑o.length : Int)) by simp)
      let t8 : Tp pr := .b (show (decide (x.kind = (3 : Int))) = true by (simp; omega))
      let t9 : Tp pr := .g .row (show (lkp (List.map intt W) (↑done.length : Int)) = some ([T.int IntKind.i64 (↑j : Int)]) from hgW)
      let t10 : Tp pr := .m (show (decide ((0 : Int) ≤ (↑j : Int) ∧ (↑j : Int).toNat < p.length)) = true by (simp; omega))
      let t11 : Tp pr := .c (show ((0 : Nat) + (↑j : Int).toNat : Nat) = j by omega)
      let t12 : Tp pr := .m (show (decide ((ints (B.set done.length (↑o.length : Int))).length = p.length)) = true by simp [*])
      let t13 : Tp pr := .g .crow (show ((ints (B.set done.length (↑o.length : Int)))[j]?) = some (intc ((B.set done.length (↑o.length : Int)).getD j (0 : Int))) from g1)
      let t15 : Tp pr := .m (show (decide ((bcc o).length = o.length ∧ (0 : Nat) + o.length ≤ o.length ∧ o.length + (1 : Nat) ≤ (4294967296 : Nat))) = true by (simp; omega))
      let t16 : Tp pr := .b (show (decide (o.length + (1 : Nat) ≤ o.length)) = false by simp)
      let t18 : Tp pr := .n .crows (show ((List.take o.length (bcc o)).append (List.take (1 : Nat) (List.drop (0 : Nat) [[C.t (T.int IntKind.i64 (6 : Int)), C.t (T.int IntKind.i64 ((B.set done.length (↑o.length : Int)).getD j (0 : Int))), C.t (T.str (ByteArray.mk #[]))]]))) = bcc (o ++ [Bc.mk (6 : Int) ((B.set done.length (↑o.length : Int))[j]?.getD (0 : Int)) (ByteArray.mk #[])]) by simp)
      let t19 : Tp pr := .g .row (show (lkp (List.map intt W) (↑done.length : Int)) = some ([T.int IntKind.i64 (↑j : Int)]) from hgW)
      let t20 : Tp pr := .m (show (decide ((0 : Int) ≤ (↑j : Int) ∧ (↑j : Int).toNat < p.length)) = true by (simp; omega))
      let t21 : Tp pr := .c (show ((0 : Nat) + (↑j : Int).toNat : Nat) = j by omega)
      let t22 : Tp pr := .m (show (decide ((ints H).length = p.length)) = true by simp [*])
      let t23 : Tp pr := .g .crow (show ((ints H)[j]?) = some (intc (↑h : Int)) from g2)
      let t24 : Tp pr := .i (show ((↑(o.length + (1 : Nat)) : Int) : Int) = (↑o.length : Int) + (1 : Int) by omega)
      let t25 : Tp pr := .m (show (decide ((0 : Int) ≤ (↑h : Int) ∧ (↑h : Int).toNat < o.length + (1 : Nat))) = true by (simp; omega))
      let t26 : Tp pr := .c (show ((0 : Nat) + (↑h : Int).toNat : Nat) = h by omega)
      let t27 : Tp pr := .m (show (decide ((bcc (o ++ [Bc.mk (6 : Int) ((B.set done.length (↑o.length : Int))[j]?.getD (0 : Int)) (ByteArray.mk #[])])).length = o.length + (1 : Nat))) = true by simp)
      let t28 : Tp pr := .g .crow (show ((bcc (o ++ [Bc.mk (6 : Int) ((B.set done.length (↑o.length : Int))[j]?.getD (0 : Int)) (ByteArray.mk #[])]))[h]?) = some ([C.t (T.int IntKind.i64 ((o ++ [Bc.mk (6 : Int) ((B.set done.length (↑o.length : Int)).getD j (0 : Int)) e0]).getD h bc0).op), C.t (T.int IntKind.i64 ((o ++ [Bc.mk (6 : Int) ((B.set done.length (↑o.length : Int)).getD j (0 : Int)) e0]).getD h bc0).n), C.t (T.str ((o ++ [Bc.mk (6 : Int) ((B.set done.length (↑o.length : Int)).getD j (0 : Int)) e0]).getD h bc0).text)]) from g3)
      let t29 : Tp pr := .n .crows (show ((bcc (o ++ [Bc.mk (6 : Int) ((B.set done.length (↑o.length : Int))[j]?.getD (0 : Int)) (ByteArray.mk #[])])).set h [C.t (T.int IntKind.i64 ((o ++ [Bc.mk (6 : Int) ((B.set done.length (↑o.length : Int)).getD j (0 : Int)) e0]).getD h (Bc.mk (0 : Int) (0 : Int) (ByteArray.mk #[]))).op), C.t (T.int IntKind.i64 ((↑o.length : Int) + (1 : Int))), C.t (T.str ((o ++ [Bc.mk (6 : Int) ((B.set done.length (↑o.length : Int)).getD j (0 : Int)) e0]).getD h (Bc.mk (0 : Int) (0 : Int) (ByteArray.mk #[]))).text)]) = bcc ((o ++ [Bc.mk (6 : Int) ((B.set done.length (↑o.length : Int))[j]?.getD (0 : Int)) (ByteArray.mk #[])]).set h (Bc.mk ((o ++ [Bc.mk (6 : Int) ((B.set done.length (↑o.length : Int))[j]?.getD (0 : Int)) (ByteArray.mk #[])])[h]?.getD (Bc.mk (0 : Int) (0 : Int) (ByteArray.mk #[]))).op ((↑o.length : Int) + (1 : Int)) ((o ++ [Bc.mk (6 : Int) ((B.set done.length (↑o.length : Int))[j]?.getD (0 : Int)) (ByteArray.mk #[])])[h]?.getD (Bc.mk (0 : Int) (0 : Int) (ByteArray.mk #[]))).text)) by simp)
      let t30 : Tp pr := .i (wrap_i64 (a := (↑done.length : Int) + (1 : Int)) (by omega) (by omega))
      let t31 : Tp pr := .a (Ev.castq (congrArg (fun x => Q.loop (lq pr (61 : FuncId) (0 : Nat)) (at_ [((3 : Nat), V.vec (0 : Nat) x (3 : Nat) (0 : Nat) x), ((4 : Nat), V.vec (1 : Nat) p.length (1 : Nat) (0 : Nat) p.length), ((5 : Nat), V.vec (2 : Nat) p.length (1 : Nat) (0 : Nat) p.length), ((6 : Nat), V.t (T.seq (1 : Nat) (List.map intt W))), ((19 : Nat), lines p), ((20 : Nat), i64 (↑p.length : Int)), ((21 : Nat), i64 (↑(done.length + (1 : Nat)) : Int))] [Ob.vec true (3 : Nat) (bcc (setN (o ++ [Bc.mk (6 : Int) ((B.set done.length (↑o.length : Int)).getD j (0 : Int)) e0]) h ((↑o.length : Int) + (1 : Int)))), Ob.vec true (1 : Nat) (ints (B.set done.length (↑o.length : Int))), Ob.vec true (1 : Nat) (ints H)] (0 : Nat))) (show ((setN (o ++ [Bc.mk (6 : Int) ((B.set done.length (↑o.length : Int)).getD j (0 : Int)) e0]) h ((↑o.length : Int) + (1 : Int))).length) = (o.length + (1 : Nat)) by simp [intc, setN])) (ih1))
      exact .tp [t0, t1, .i (rfl : ((↑o.length : Int)) = _), t3, t4, t5, t6, t7, t8, t9, t10, t11, t12, t13, .m (rfl : true = true), t15, t16, .c (rfl : (o.length + (1 : Nat)) = _), t18, t19, t20, t21, t22, t23, t24, t25, t26, t27, t28, t29, t30, t31] (by kernel_rfl)
theorem makeGoS_of (p : List Line) (W : List Int) (hW : goodW p W) : makeGoS W p 0 (List.replicate p.length 0) (List.replicate p.length 0) [] = makeGo W p 0 (List.replicate p.length 0) (List.replicate p.length 0) [] :=
  (makeGo_eq p W hW p [] _ _ _ _ rfl (by simp) (by simp) (fun _ _ h => by simp at h)).symm
theorem l17Code_ev (l : List Line) (h2 : l.length ≤ 12) (hs : ∀ x ∈ l, x.expr.length ≤ 1048576 ∧ ∀ y ∈ x.expr, y.text.size ≤ 9223372036854775807) (h3 : ∀ x ∈ l, lineOk x = true) (W junk : List Int) (hW : endsGo l 0 (List.replicate l.length 0) [] [] = some (W, [], junk)) :
    Ev pr (.call 61 [lines l] []) (.val (bcs (codeAll l W)) []) := by
  have he := l17Ends_ev l (by omega) W junk hW
  have hWl := endsGo_len _ _ _ _ _ _ _ _ hW
  have hL := mcSL_ev l h2 hs h3 W (by simpa using hWl) (goodW_of hW) l [] (List.replicate l.length 0) (List.replicate l.length 0) [] rfl (by simp) (by simp) (by simp) (by simp)
  have hlen := makeGo_len W l 0 (List.replicate l.length 0) (List.replicate l.length 0) []
  simp only [List.length_nil, Nat.zero_add] at hlen hL
  rw [makeGoS_of l W (goodW_of hW)] at hL
  unfold codeAll
  generalize makeGo W l 0 (List.replicate l.length 0) (List.replicate l.length 0) [] = r at *
  let t0 : Tp pr := .i (show ((↑(List.map Line.ce l).length : Int) : Int) = (↑l.length : Int) by simp)
  let t1 : Tp pr := .m (show (decide ((0 : Int) ≤ (↑l.length : Int) ∧ (↑l.length : Int) ≤ (↑l.length : Int) ∧ (↑l.length : Int) ≤ (4294967296 : Int))) = true by (simp; omega))
  let t2 : Tp pr := .c (show ((↑l.length : Int).toNat : Nat) = l.length by omega)
  let t3 : Tp pr := .n .crows (rfl : (List.replicate l.length [C.t (T.int IntKind.i64 (0 : Int))]) = _)
  let t4 : Tp pr := .i (show ((↑(List.map Line.ce l).length : Int) : Int) = (↑l.length : Int) by simp)
  let t5 : Tp pr := .m (show (decide ((0 : Int) ≤ (↑l.length : Int) ∧ (↑l.length : Int) ≤ (↑l.length : Int) ∧ (↑l.length : Int) ≤ (4294967296 : Int))) = true by (simp; omega))
  let t6 : Tp pr := .c (show ((↑l.length : Int).toNat : Nat) = l.length by omega)
  let t7 : Tp pr := .n .crows (rfl : (List.replicate l.length [C.t (T.int IntKind.i64 (0 : Int))]) = _)
  let t9 : Tp pr := .i (show ((↑(List.map Line.ce l).length : Int) : Int) = (↑l.length : Int) by simp)
  let t10 : Tp pr := .a (Ev.castq (congrArg (fun x => Q.loop (lq pr (61 : FuncId) (0 : Nat)) (at_ [((3 : Nat), V.vec (0 : Nat) (0 : Nat) (3 : Nat) (0 : Nat) (0 : Nat)), ((4 : Nat), V.vec (1 : Nat) l.length (1 : Nat) (0 : Nat) l.length), ((5 : Nat), V.vec (2 : Nat) l.length (1 : Nat) (0 : Nat) l.length), ((6 : Nat), V.t (T.seq (1 : Nat) (List.map intt W))), ((19 : Nat), lines l), ((20 : Nat), i64 (↑l.length : Int)), ((21 : Nat), i64 (↑(0 : Nat) : Int))] [Ob.vec true (3 : Nat) (bcc []), Ob.vec true (1 : Nat) x, Ob.vec true (1 : Nat) x] (0 : Nat))) (show (ints (List.replicate l.length (0 : Int))) = (List.replicate l.length [C.t (T.int IntKind.i64 (0 : Int))]) by simp [Bc.ce])) (hL))
  let t12 : Tp pr := .m (show (decide ((bcc r).length = r.length ∧ (0 : Nat) + r.length ≤ r.length ∧ r.length + (2 : Nat) ≤ (4294967296 : Nat))) = true by (simp; omega))
  let t13 : Tp pr := .b (show (decide (r.length + (2 : Nat) ≤ r.length)) = false by simp)
  let t15 : Tp pr := .n .crows (show ((List.take r.length (bcc r)).append (List.take (2 : Nat) (List.drop (0 : Nat) [[C.t (T.int IntKind.i64 (2 : Int)), C.t (T.int IntKind.i64 (0 : Int)), C.t (T.str (ByteArray.mk #[]))], [C.t (T.int IntKind.i64 (9 : Int)), C.t (T.int IntKind.i64 (0 : Int)), C.t (T.str (ByteArray.mk #[]))]]))) = bcc (r ++ [Bc.mk (2 : Int) (0 : Int) (ByteArray.mk #[]), Bc.mk (9 : Int) (0 : Int) (ByteArray.mk #[])]) by simp)
  let t16 : Tp pr := .m (show (decide ((bcc (r ++ [Bc.mk (2 : Int) (0 : Int) (ByteArray.mk #[]), Bc.mk (9 : Int) (0 : Int) (ByteArray.mk #[])])).length = r.length + (2 : Nat) ∧ (0 : Nat) + (r.length + (2 : Nat)) ≤ r.length + (2 : Nat))) = true by simp)
  let t17 : Tp pr := .n .rows (show (List.map (fun x => List.map C.fz x) (List.take (r.length + (2 : Nat)) (List.drop (0 : Nat) (bcc (r ++ [Bc.mk (2 : Int) (0 : Int) (ByteArray.mk #[]), Bc.mk (9 : Int) (0 : Int) (ByteArray.mk #[])]))))) = List.map Bc.ce r ++ [(Bc.mk (2 : Int) (0 : Int) (ByteArray.mk #[])).ce, (Bc.mk (9 : Int) (0 : Int) (ByteArray.mk #[])).ce] by simp)
  exact .tpe [t0, t1, t2, t3, t4, t5, t6, t7, .a (he), t9, t10, .m (rfl : true = true), t12, t13, .c (rfl : (r.length + (2 : Nat)) = _), t15, t16, t17] (Out.val (V.t (T.seq (3 : Nat) ((List.map Bc.ce r).append [[T.int IntKind.i64 (2 : Int), T.int IntKind.i64 (0 : Int), T.str (ByteArray.mk #[])], [T.int IntKind.i64 (9 : Int), T.int IntKind.i64 (0 : Int), T.str (ByteArray.mk #[])]]))) []) (by kernel_rfl) (congrArg (fun x => Out.val (V.t (T.seq (3 : Nat) x)) []) (show ((List.map Bc.ce r).append [[T.int IntKind.i64 (2 : Int), T.int IntKind.i64 (0 : Int), T.str (ByteArray.mk #[])], [T.int IntKind.i64 (9 : Int), T.int IntKind.i64 (0 : Int), T.str (ByteArray.mk #[])]]) = (List.map Bc.ce (r ++ [Bc.mk (2 : Int) (0 : Int) e0, Bc.mk (9 : Int) (0 : Int) e0])) by simp [Bc.ce]))
theorem MakeCodeS_ev (l : List Line) (hl : l.length ≤ 1048576) (hs : ∀ x ∈ l, x.expr.length ≤ 1048576 ∧ ∀ y ∈ x.expr, y.text.size ≤ 9223372036854775807) : Ev pr (.call 26 [lines l] []) (match makeCode l with
    | some c => .val (.tup [bcs c, bl true]) []
    | none => .val (.tup [.t (.seq 3 []), bl false]) []) := by
  have hg := GoodProgramS_ev l hl hs
  unfold makeCode
  cases hp : goodProgram l with
  | false => rw [hp] at hg; simp only [Bool.false_eq_true, if_false]; exact .tp [.a (hg), .b (rfl : true = true)] (by kernel_rfl)
  | true =>
    rw [hp] at hg
    obtain ⟨h1, h2, h3, W, junk, hW⟩ := goodProgram_all hp
    have hc := l17Code_ev l h2 hs h3 W junk hW
    simp only [hW, if_true]
    by_cases h120 : (codeAll l W).length ≤ 120
    · rw [if_pos h120]
      let t3 : Tp pr := .i (show ((↑(List.map Bc.ce (codeAll l W)).length : Int) : Int) = (↑(codeAll l W).length : Int) by simp)
      let t4 : Tp pr := .b (show (decide ((↑(codeAll l W).length : Int) > (120 : Int))) = false by (simp; omega))
      exact .tp [.a (hg), .b (rfl : false = false), .a (hc), t3, t4] (by kernel_rfl)
    · rw [if_neg h120]
      let t3 : Tp pr := .i (show ((↑(List.map Bc.ce (codeAll l W)).length : Int) : Int) = (↑(codeAll l W).length : Int) by simp)
      let t4 : Tp pr := .b (show (decide ((↑(codeAll l W).length : Int) > (120 : Int))) = true by (simp; omega))
      exact .tp [.a (hg), .b (rfl : false = false), .a (hc), t3, t4] (by kernel_rfl)
end Go.Ev

/- Numbers of two. -/
namespace Go.Ev
set_option linter.unusedVariables false
set_option linter.unusedSimpArgs false
open Go.Proofs
set_option maxRecDepth 100000
set_option linter.unusedVariables false
set_option maxHeartbeats 1000000
theorem boolNum_ev (b : Bool) : Ev pr (.call 87 [bl b] []) (.val (i64 (tru b)) []) := by
  cases b with
  | true => exact .tp [.b (rfl : true = true)] (by kernel_rfl)
  | false => exact .tp [.b (rfl : false = false)] (by kernel_rfl)
theorem l2Truth_ev (b : Bool) : Ev pr (.call 97 [bl b] []) (.val (i64 (tru b)) []) := by
  cases b with
  | true => exact .tp [.b (rfl : true = true)] (by kernel_rfl)
  | false => exact .tp [.b (rfl : false = false)] (by kernel_rfl)
theorem bounded_ev (n : Int) : Ev pr (.call 102 [i64 n] []) (.val (.tup [i64 (inB n).1, i64 (inB n).2]) []) := by
  let t0 : Tp pr := .a (within_ev (n) ((-1000000000 : Int)) ((1000000000 : Int)))
  by_cases hc1 : n < (-1000000000 : Int) ∨ (1000000000 : Int) < n
  · let t1 : Tp pr := .b (show (!(decide (n ≥ (-1000000000 : Int)) && decide (n ≤ (1000000000 : Int)))) = true by simpa using hc1)
    exact .tpe [t0, t1] (Out.val (V.tup [V.t (T.int IntKind.i64 (0 : Int)), V.t (T.int IntKind.i64 (3 : Int))]) []) (by kernel_rfl) ((congrArg (fun x => Out.val (V.tup [V.t (T.int IntKind.i64 x), V.t (T.int IntKind.i64 (3 : Int))]) []) (show ((0 : Int)) = ((inB n).fst) by grind [inB])).trans (congrArg (fun x => Out.val (V.tup [V.t (T.int IntKind.i64 (inB n).fst), V.t (T.int IntKind.i64 x)]) []) (show ((3 : Int)) = ((inB n).snd) by grind [inB])))
  · let t1 : Tp pr := .b (show (!(decide (n ≥ (-1000000000 : Int)) && decide (n ≤ (1000000000 : Int)))) = false by simpa using hc1)
    exact .tpe [t0, t1] (Out.val (V.tup [V.t (T.int IntKind.i64 n), V.t (T.int IntKind.i64 (0 : Int))]) []) (by kernel_rfl) ((congrArg (fun x => Out.val (V.tup [V.t (T.int IntKind.i64 x), V.t (T.int IntKind.i64 (0 : Int))]) []) (show (n) = ((inB n).fst) by grind [inB])).trans (congrArg (fun x => Out.val (V.tup [V.t (T.int IntKind.i64 (inB n).fst), V.t (T.int IntKind.i64 x)]) []) (show ((0 : Int)) = ((inB n).snd) by grind [inB])))
theorem l2Bound_ev (n : Int) : Ev pr (.call 82 [i64 n] []) (.val (bl (decide (n ≥ -1000000000) && decide (n ≤ 1000000000))) []) := by
  let t0 : Tp pr := .a (l1In_ev (n) ((-1000000000 : Int)) ((1000000000 : Int)))
  exact .tp [t0] (by kernel_rfl)
theorem two_ev (s : ByteArray) (a b : Int) (ha : -1000000000 ≤ a) (ha2 : a ≤ 1000000000) (hb : -1000000000 ≤ b) (hb2 : b ≤ 1000000000) : Ev pr (.call 88 [.t (.str s), i64 a, i64 b] []) (.val (.tup [i64 (two2 s.toList a b).1, i64 (two2 s.toList a b).2]) []) := by
  have hm := mul_bd ha ha2 hb hb2
  have hq := tdiv_bd b ha ha2
  have hr := tmod_bd b ha ha2
  by_cases hs : 0 ≤ b ∧ b ≤ 20
  · have hp : pow2 b 64 = 2 ^ b.toNat := by
      have := pow2_eq (n := b.toNat) (by omega)
      rwa [Int.toNat_of_nonneg hs.1] at this
    have hp2 := pow_bd (n := b.toNat) (by omega)
    rw [← hp] at hp2
    have hp3 := mulp_bd ha ha2 hp2
    have hp4 : (1 : Int) * pow2 b 64 = pow2 b 64 := by omega
    by_cases hc0 : s.toList = [(43 : UInt8)]
    · let t0 : Tp pr := .b (show (s.toList == [(43 : UInt8)]) = true by simpa using hc0)
      let t1 : Tp pr := .i (wrap_i64 (a := a + b) (by omega) (by omega))
      exact .tpe [t0, t1, .a (bounded_ev (a + b))] (Out.val (V.tup [V.t (T.int IntKind.i64 (inB (a + b)).fst), V.t (T.int IntKind.i64 (inB (a + b)).snd)]) []) (by kernel_rfl) ((congrArg (fun x => Out.val (V.tup [V.t (T.int IntKind.i64 x), V.t (T.int IntKind.i64 (inB (a + b)).snd)]) []) (show ((inB (a + b)).fst) = ((two2 s.toList a b).fst) by grind [two2])).trans (congrArg (fun x => Out.val (V.tup [V.t (T.int IntKind.i64 (two2 s.toList a b).fst), V.t (T.int IntKind.i64 x)]) []) (show ((inB (a + b)).snd) = ((two2 s.toList a b).snd) by grind [two2])))
    · let t0 : Tp pr := .b (show (s.toList == [(43 : UInt8)]) = false by simpa using hc0)
      by_cases hc1 : s.toList = [(45 : UInt8)]
      · let t1 : Tp pr := .b (show (s.toList == [(45 : UInt8)]) = true by simpa using hc1)
        let t2 : Tp pr := .i (wrap_i64 (a := a - b) (by omega) (by omega))
        exact .tpe [t0, t1, t2, .a (bounded_ev (a - b))] (Out.val (V.tup [V.t (T.int IntKind.i64 (inB (a - b)).fst), V.t (T.int IntKind.i64 (inB (a - b)).snd)]) []) (by kernel_rfl) ((congrArg (fun x => Out.val (V.tup [V.t (T.int IntKind.i64 x), V.t (T.int IntKind.i64 (inB (a - b)).snd)]) []) (show ((inB (a - b)).fst) = ((two2 s.toList a b).fst) by grind [two2])).trans (congrArg (fun x => Out.val (V.tup [V.t (T.int IntKind.i64 (two2 s.toList a b).fst), V.t (T.int IntKind.i64 x)]) []) (show ((inB (a - b)).snd) = ((two2 s.toList a b).snd) by grind [two2])))
      · let t1 : Tp pr := .b (show (s.toList == [(45 : UInt8)]) = false by simpa using hc1)
        by_cases hc2 : s.toList = [(42 : UInt8)]
        · let t2 : Tp pr := .b (show (s.toList == [(42 : UInt8)]) = true by simpa using hc2)
          let t3 : Tp pr := .i (wrap_i64 (a := a * b) (by omega) (by omega))
          exact .tpe [t0, t1, t2, t3, .a (bounded_ev (a * b))] (Out.val (V.tup [V.t (T.int IntKind.i64 (inB (a * b)).fst), V.t (T.int IntKind.i64 (inB (a * b)).snd)]) []) (by kernel_rfl) ((congrArg (fun x => Out.val (V.tup [V.t (T.int IntKind.i64 x), V.t (T.int IntKind.i64 (inB (a * b)).snd)]) []) (show ((inB (a * b)).fst) = ((two2 s.toList a b).fst) by grind [two2])).trans (congrArg (fun x => Out.val (V.tup [V.t (T.int IntKind.i64 (two2 s.toList a b).fst), V.t (T.int IntKind.i64 x)]) []) (show ((inB (a * b)).snd) = ((two2 s.toList a b).snd) by grind [two2])))
        · let t2 : Tp pr := .b (show (s.toList == [(42 : UInt8)]) = false by simpa using hc2)
          by_cases hc3 : s.toList = [(47 : UInt8)]
          · let t3 : Tp pr := .b (show (s.toList == [(47 : UInt8)]) = true by simpa using hc3)
            let t4 : Tp pr := .b (show (s.toList == [(47 : UInt8)]) = true by (simp; omega))
            by_cases hc5 : b = (0 : Int)
            · let t5 : Tp pr := .b (show (decide (b = (0 : Int))) = true by simpa using hc5)
              exact .tpe [t0, t1, t2, t3, t4, t5] (Out.val (V.tup [V.t (T.int IntKind.i64 (0 : Int)), V.t (T.int IntKind.i64 (2 : Int))]) []) (by kernel_rfl) ((congrArg (fun x => Out.val (V.tup [V.t (T.int IntKind.i64 x), V.t (T.int IntKind.i64 (2 : Int))]) []) (show ((0 : Int)) = ((two2 s.toList a b).fst) by grind [two2])).trans (congrArg (fun x => Out.val (V.tup [V.t (T.int IntKind.i64 (two2 s.toList a b).fst), V.t (T.int IntKind.i64 x)]) []) (show ((2 : Int)) = ((two2 s.toList a b).snd) by grind [two2])))
            · let t5 : Tp pr := .b (show (decide (b = (0 : Int))) = false by simpa using hc5)
              let t6 : Tp pr := .b (show (s.toList == [(47 : UInt8)]) = true by (simp; omega))
              let t7 : Tp pr := .m (show (decide (b ≠ (0 : Int))) = true by simp [*])
              let t8 : Tp pr := .i (wrap_i64 (a := a.tdiv b) (by omega) (by omega))
              exact .tpe [t0, t1, t2, t3, t4, t5, t6, t7, t8] (Out.val (V.tup [V.t (T.int IntKind.i64 (a.tdiv b)), V.t (T.int IntKind.i64 (0 : Int))]) []) (by kernel_rfl) ((congrArg (fun x => Out.val (V.tup [V.t (T.int IntKind.i64 x), V.t (T.int IntKind.i64 (0 : Int))]) []) (show (a.tdiv b) = ((two2 s.toList a b).fst) by grind [two2])).trans (congrArg (fun x => Out.val (V.tup [V.t (T.int IntKind.i64 (two2 s.toList a b).fst), V.t (T.int IntKind.i64 x)]) []) (show ((0 : Int)) = ((two2 s.toList a b).snd) by grind [two2])))
          · let t3 : Tp pr := .b (show (s.toList == [(47 : UInt8)]) = false by simpa using hc3)
            by_cases hc4 : s.toList = [(37 : UInt8)]
            · let t4 : Tp pr := .b (show (s.toList == [(37 : UInt8)]) = true by simpa using hc4)
              by_cases hc5 : b = (0 : Int)
              · let t5 : Tp pr := .b (show (decide (b = (0 : Int))) = true by simpa using hc5)
                exact .tpe [t0, t1, t2, t3, t4, t5] (Out.val (V.tup [V.t (T.int IntKind.i64 (0 : Int)), V.t (T.int IntKind.i64 (2 : Int))]) []) (by kernel_rfl) ((congrArg (fun x => Out.val (V.tup [V.t (T.int IntKind.i64 x), V.t (T.int IntKind.i64 (2 : Int))]) []) (show ((0 : Int)) = ((two2 s.toList a b).fst) by grind [two2])).trans (congrArg (fun x => Out.val (V.tup [V.t (T.int IntKind.i64 (two2 s.toList a b).fst), V.t (T.int IntKind.i64 x)]) []) (show ((2 : Int)) = ((two2 s.toList a b).snd) by grind [two2])))
              · let t5 : Tp pr := .b (show (decide (b = (0 : Int))) = false by simpa using hc5)
                let t6 : Tp pr := .b (show (s.toList == [(47 : UInt8)]) = false by (simp; omega))
                let t7 : Tp pr := .m (show (decide (b ≠ (0 : Int))) = true by simp [*])
                exact .tpe [t0, t1, t2, t3, t4, t5, t6, t7, .i (rfl : (a.tmod b) = _)] (Out.val (V.tup [V.t (T.int IntKind.i64 (a.tmod b)), V.t (T.int IntKind.i64 (0 : Int))]) []) (by kernel_rfl) ((congrArg (fun x => Out.val (V.tup [V.t (T.int IntKind.i64 x), V.t (T.int IntKind.i64 (0 : Int))]) []) (show (a.tmod b) = ((two2 s.toList a b).fst) by grind [two2])).trans (congrArg (fun x => Out.val (V.tup [V.t (T.int IntKind.i64 (two2 s.toList a b).fst), V.t (T.int IntKind.i64 x)]) []) (show ((0 : Int)) = ((two2 s.toList a b).snd) by grind [two2])))
            · let t4 : Tp pr := .b (show (s.toList == [(37 : UInt8)]) = false by simpa using hc4)
              by_cases hc5 : s.toList = [(60 : UInt8), (60 : UInt8)]
              · let t5 : Tp pr := .b (show (s.toList == [(60 : UInt8), (60 : UInt8)]) = true by simpa using hc5)
                let t6 : Tp pr := .a (within_ev (b) ((0 : Int)) ((20 : Int)))
                let t7 : Tp pr := .b (show (!(decide (b ≥ (0 : Int)) && decide (b ≤ (20 : Int)))) = false by (simp; omega))
                let t8 : Tp pr := .m (show (decide ((0 : Int) ≤ b)) = true by simp [*])
                let t9 : Tp pr := .i (wrap_i64 (a := (1 : Int) * pow2 b (64 : Nat)) (by omega) (by omega))
                let t10 : Tp pr := .i (wrap_i64 (a := a * ((1 : Int) * pow2 b (64 : Nat))) (by (simp; omega)) (by (simp; omega)))
                let t11 : Tp pr := .a (bounded_ev (a * ((1 : Int) * pow2 b (64 : Nat))))
                exact .tpe [t0, t1, t2, t3, t4, t5, t6, t7, t8, t9, t10, t11] (Out.val (V.tup [V.t (T.int IntKind.i64 (inB (a * ((1 : Int) * pow2 b (64 : Nat)))).fst), V.t (T.int IntKind.i64 (inB (a * ((1 : Int) * pow2 b (64 : Nat)))).snd)]) []) (by kernel_rfl) ((congrArg (fun x => Out.val (V.tup [V.t (T.int IntKind.i64 x), V.t (T.int IntKind.i64 (inB (a * ((1 : Int) * pow2 b (64 : Nat)))).snd)]) []) (show ((inB (a * ((1 : Int) * pow2 b (64 : Nat)))).fst) = ((two2 s.toList a b).fst) by grind [two2])).trans (congrArg (fun x => Out.val (V.tup [V.t (T.int IntKind.i64 (two2 s.toList a b).fst), V.t (T.int IntKind.i64 x)]) []) (show ((inB (a * ((1 : Int) * pow2 b (64 : Nat)))).snd) = ((two2 s.toList a b).snd) by grind [two2])))
              · let t5 : Tp pr := .b (show (s.toList == [(60 : UInt8), (60 : UInt8)]) = false by simpa using hc5)
                by_cases hc6 : s.toList = [(60 : UInt8)]
                · let t6 : Tp pr := .b (show (s.toList == [(60 : UInt8)]) = true by simpa using hc6)
                  exact .tpe [t0, t1, t2, t3, t4, t5, t6, .a (boolNum_ev (decide (a < b)))] (Out.val (V.tup [V.t (T.int IntKind.i64 (tru (decide (a < b)))), V.t (T.int IntKind.i64 (0 : Int))]) []) (by kernel_rfl) ((congrArg (fun x => Out.val (V.tup [V.t (T.int IntKind.i64 x), V.t (T.int IntKind.i64 (0 : Int))]) []) (show (tru (decide (a < b))) = ((two2 s.toList a b).fst) by grind [two2])).trans (congrArg (fun x => Out.val (V.tup [V.t (T.int IntKind.i64 (two2 s.toList a b).fst), V.t (T.int IntKind.i64 x)]) []) (show ((0 : Int)) = ((two2 s.toList a b).snd) by grind [two2])))
                · let t6 : Tp pr := .b (show (s.toList == [(60 : UInt8)]) = false by simpa using hc6)
                  by_cases hc7 : s.toList = [(60 : UInt8), (61 : UInt8)]
                  · let t7 : Tp pr := .b (show (s.toList == [(60 : UInt8), (61 : UInt8)]) = true by simpa using hc7)
                    exact .tpe [t0, t1, t2, t3, t4, t5, t6, t7, .a (boolNum_ev (decide (a ≤ b)))] (Out.val (V.tup [V.t (T.int IntKind.i64 (tru (decide (a ≤ b)))), V.t (T.int IntKind.i64 (0 : Int))]) []) (by kernel_rfl) ((congrArg (fun x => Out.val (V.tup [V.t (T.int IntKind.i64 x), V.t (T.int IntKind.i64 (0 : Int))]) []) (show (tru (decide (a ≤ b))) = ((two2 s.toList a b).fst) by grind [two2])).trans (congrArg (fun x => Out.val (V.tup [V.t (T.int IntKind.i64 (two2 s.toList a b).fst), V.t (T.int IntKind.i64 x)]) []) (show ((0 : Int)) = ((two2 s.toList a b).snd) by grind [two2])))
                  · let t7 : Tp pr := .b (show (s.toList == [(60 : UInt8), (61 : UInt8)]) = false by simpa using hc7)
                    by_cases hc8 : s.toList = [(61 : UInt8), (61 : UInt8)]
                    · let t8 : Tp pr := .b (show (s.toList == [(61 : UInt8), (61 : UInt8)]) = true by simpa using hc8)
                      exact .tpe [t0, t1, t2, t3, t4, t5, t6, t7, t8, .a (boolNum_ev (decide (a = b)))] (Out.val (V.tup [V.t (T.int IntKind.i64 (tru (decide (a = b)))), V.t (T.int IntKind.i64 (0 : Int))]) []) (by kernel_rfl) ((congrArg (fun x => Out.val (V.tup [V.t (T.int IntKind.i64 x), V.t (T.int IntKind.i64 (0 : Int))]) []) (show (tru (decide (a = b))) = ((two2 s.toList a b).fst) by grind [two2])).trans (congrArg (fun x => Out.val (V.tup [V.t (T.int IntKind.i64 (two2 s.toList a b).fst), V.t (T.int IntKind.i64 x)]) []) (show ((0 : Int)) = ((two2 s.toList a b).snd) by grind [two2])))
                    · let t8 : Tp pr := .b (show (s.toList == [(61 : UInt8), (61 : UInt8)]) = false by simpa using hc8)
                      exact .tpe [t0, t1, t2, t3, t4, t5, t6, t7, t8, .a (boolNum_ev (a != b))] (Out.val (V.tup [V.t (T.int IntKind.i64 (tru (a != b))), V.t (T.int IntKind.i64 (0 : Int))]) []) (by kernel_rfl) ((congrArg (fun x => Out.val (V.tup [V.t (T.int IntKind.i64 x), V.t (T.int IntKind.i64 (0 : Int))]) []) (show (tru (a != b)) = ((two2 s.toList a b).fst) by grind [two2])).trans (congrArg (fun x => Out.val (V.tup [V.t (T.int IntKind.i64 (two2 s.toList a b).fst), V.t (T.int IntKind.i64 x)]) []) (show ((0 : Int)) = ((two2 s.toList a b).snd) by grind [two2])))
  · by_cases hc0 : s.toList = [(43 : UInt8)]
    · let t0 : Tp pr := .b (show (s.toList == [(43 : UInt8)]) = true by simpa using hc0)
      let t1 : Tp pr := .i (wrap_i64 (a := a + b) (by omega) (by omega))
      exact .tpe [t0, t1, .a (bounded_ev (a + b))] (Out.val (V.tup [V.t (T.int IntKind.i64 (inB (a + b)).fst), V.t (T.int IntKind.i64 (inB (a + b)).snd)]) []) (by kernel_rfl) ((congrArg (fun x => Out.val (V.tup [V.t (T.int IntKind.i64 x), V.t (T.int IntKind.i64 (inB (a + b)).snd)]) []) (show ((inB (a + b)).fst) = ((two2 s.toList a b).fst) by grind [two2])).trans (congrArg (fun x => Out.val (V.tup [V.t (T.int IntKind.i64 (two2 s.toList a b).fst), V.t (T.int IntKind.i64 x)]) []) (show ((inB (a + b)).snd) = ((two2 s.toList a b).snd) by grind [two2])))
    · let t0 : Tp pr := .b (show (s.toList == [(43 : UInt8)]) = false by simpa using hc0)
      by_cases hc1 : s.toList = [(45 : UInt8)]
      · let t1 : Tp pr := .b (show (s.toList == [(45 : UInt8)]) = true by simpa using hc1)
        let t2 : Tp pr := .i (wrap_i64 (a := a - b) (by omega) (by omega))
        exact .tpe [t0, t1, t2, .a (bounded_ev (a - b))] (Out.val (V.tup [V.t (T.int IntKind.i64 (inB (a - b)).fst), V.t (T.int IntKind.i64 (inB (a - b)).snd)]) []) (by kernel_rfl) ((congrArg (fun x => Out.val (V.tup [V.t (T.int IntKind.i64 x), V.t (T.int IntKind.i64 (inB (a - b)).snd)]) []) (show ((inB (a - b)).fst) = ((two2 s.toList a b).fst) by grind [two2])).trans (congrArg (fun x => Out.val (V.tup [V.t (T.int IntKind.i64 (two2 s.toList a b).fst), V.t (T.int IntKind.i64 x)]) []) (show ((inB (a - b)).snd) = ((two2 s.toList a b).snd) by grind [two2])))
      · let t1 : Tp pr := .b (show (s.toList == [(45 : UInt8)]) = false by simpa using hc1)
        by_cases hc2 : s.toList = [(42 : UInt8)]
        · let t2 : Tp pr := .b (show (s.toList == [(42 : UInt8)]) = true by simpa using hc2)
          let t3 : Tp pr := .i (wrap_i64 (a := a * b) (by omega) (by omega))
          exact .tpe [t0, t1, t2, t3, .a (bounded_ev (a * b))] (Out.val (V.tup [V.t (T.int IntKind.i64 (inB (a * b)).fst), V.t (T.int IntKind.i64 (inB (a * b)).snd)]) []) (by kernel_rfl) ((congrArg (fun x => Out.val (V.tup [V.t (T.int IntKind.i64 x), V.t (T.int IntKind.i64 (inB (a * b)).snd)]) []) (show ((inB (a * b)).fst) = ((two2 s.toList a b).fst) by grind [two2])).trans (congrArg (fun x => Out.val (V.tup [V.t (T.int IntKind.i64 (two2 s.toList a b).fst), V.t (T.int IntKind.i64 x)]) []) (show ((inB (a * b)).snd) = ((two2 s.toList a b).snd) by grind [two2])))
        · let t2 : Tp pr := .b (show (s.toList == [(42 : UInt8)]) = false by simpa using hc2)
          by_cases hc3 : s.toList = [(47 : UInt8)]
          · let t3 : Tp pr := .b (show (s.toList == [(47 : UInt8)]) = true by simpa using hc3)
            let t4 : Tp pr := .b (show (s.toList == [(47 : UInt8)]) = true by (simp; omega))
            let t5 : Tp pr := .b (show (decide (b = (0 : Int))) = false by (simp; omega))
            let t6 : Tp pr := .b (show (s.toList == [(47 : UInt8)]) = true by (simp; omega))
            let t7 : Tp pr := .m (show (decide (b ≠ (0 : Int))) = true by (simp; omega))
            let t8 : Tp pr := .i (wrap_i64 (a := a.tdiv b) (by omega) (by omega))
            exact .tpe [t0, t1, t2, t3, t4, t5, t6, t7, t8] (Out.val (V.tup [V.t (T.int IntKind.i64 (a.tdiv b)), V.t (T.int IntKind.i64 (0 : Int))]) []) (by kernel_rfl) ((congrArg (fun x => Out.val (V.tup [V.t (T.int IntKind.i64 x), V.t (T.int IntKind.i64 (0 : Int))]) []) (show (a.tdiv b) = ((two2 s.toList a b).fst) by grind [two2])).trans (congrArg (fun x => Out.val (V.tup [V.t (T.int IntKind.i64 (two2 s.toList a b).fst), V.t (T.int IntKind.i64 x)]) []) (show ((0 : Int)) = ((two2 s.toList a b).snd) by grind [two2])))
          · let t3 : Tp pr := .b (show (s.toList == [(47 : UInt8)]) = false by simpa using hc3)
            by_cases hc4 : s.toList = [(37 : UInt8)]
            · let t4 : Tp pr := .b (show (s.toList == [(37 : UInt8)]) = true by simpa using hc4)
              let t5 : Tp pr := .b (show (decide (b = (0 : Int))) = false by (simp; omega))
              let t6 : Tp pr := .b (show (s.toList == [(47 : UInt8)]) = false by (simp; omega))
              let t7 : Tp pr := .m (show (decide (b ≠ (0 : Int))) = true by (simp; omega))
              exact .tpe [t0, t1, t2, t3, t4, t5, t6, t7, .i (rfl : (a.tmod b) = _)] (Out.val (V.tup [V.t (T.int IntKind.i64 (a.tmod b)), V.t (T.int IntKind.i64 (0 : Int))]) []) (by kernel_rfl) ((congrArg (fun x => Out.val (V.tup [V.t (T.int IntKind.i64 x), V.t (T.int IntKind.i64 (0 : Int))]) []) (show (a.tmod b) = ((two2 s.toList a b).fst) by grind [two2])).trans (congrArg (fun x => Out.val (V.tup [V.t (T.int IntKind.i64 (two2 s.toList a b).fst), V.t (T.int IntKind.i64 x)]) []) (show ((0 : Int)) = ((two2 s.toList a b).snd) by grind [two2])))
            · let t4 : Tp pr := .b (show (s.toList == [(37 : UInt8)]) = false by simpa using hc4)
              by_cases hc5 : s.toList = [(60 : UInt8), (60 : UInt8)]
              · let t5 : Tp pr := .b (show (s.toList == [(60 : UInt8), (60 : UInt8)]) = true by simpa using hc5)
                let t6 : Tp pr := .a (within_ev (b) ((0 : Int)) ((20 : Int)))
                let t7 : Tp pr := .b (show (!(decide (b ≥ (0 : Int)) && decide (b ≤ (20 : Int)))) = true by (simp; omega))
                exact .tpe [t0, t1, t2, t3, t4, t5, t6, t7] (Out.val (V.tup [V.t (T.int IntKind.i64 (0 : Int)), V.t (T.int IntKind.i64 (3 : Int))]) []) (by kernel_rfl) ((congrArg (fun x => Out.val (V.tup [V.t (T.int IntKind.i64 x), V.t (T.int IntKind.i64 (3 : Int))]) []) (show ((0 : Int)) = ((two2 s.toList a b).fst) by grind [two2])).trans (congrArg (fun x => Out.val (V.tup [V.t (T.int IntKind.i64 (two2 s.toList a b).fst), V.t (T.int IntKind.i64 x)]) []) (show ((3 : Int)) = ((two2 s.toList a b).snd) by grind [two2])))
              · let t5 : Tp pr := .b (show (s.toList == [(60 : UInt8), (60 : UInt8)]) = false by simpa using hc5)
                by_cases hc6 : s.toList = [(60 : UInt8)]
                · let t6 : Tp pr := .b (show (s.toList == [(60 : UInt8)]) = true by simpa using hc6)
                  exact .tpe [t0, t1, t2, t3, t4, t5, t6, .a (boolNum_ev (decide (a < b)))] (Out.val (V.tup [V.t (T.int IntKind.i64 (tru (decide (a < b)))), V.t (T.int IntKind.i64 (0 : Int))]) []) (by kernel_rfl) ((congrArg (fun x => Out.val (V.tup [V.t (T.int IntKind.i64 x), V.t (T.int IntKind.i64 (0 : Int))]) []) (show (tru (decide (a < b))) = ((two2 s.toList a b).fst) by grind [two2])).trans (congrArg (fun x => Out.val (V.tup [V.t (T.int IntKind.i64 (two2 s.toList a b).fst), V.t (T.int IntKind.i64 x)]) []) (show ((0 : Int)) = ((two2 s.toList a b).snd) by grind [two2])))
                · let t6 : Tp pr := .b (show (s.toList == [(60 : UInt8)]) = false by simpa using hc6)
                  by_cases hc7 : s.toList = [(60 : UInt8), (61 : UInt8)]
                  · let t7 : Tp pr := .b (show (s.toList == [(60 : UInt8), (61 : UInt8)]) = true by simpa using hc7)
                    exact .tpe [t0, t1, t2, t3, t4, t5, t6, t7, .a (boolNum_ev (decide (a ≤ b)))] (Out.val (V.tup [V.t (T.int IntKind.i64 (tru (decide (a ≤ b)))), V.t (T.int IntKind.i64 (0 : Int))]) []) (by kernel_rfl) ((congrArg (fun x => Out.val (V.tup [V.t (T.int IntKind.i64 x), V.t (T.int IntKind.i64 (0 : Int))]) []) (show (tru (decide (a ≤ b))) = ((two2 s.toList a b).fst) by grind [two2])).trans (congrArg (fun x => Out.val (V.tup [V.t (T.int IntKind.i64 (two2 s.toList a b).fst), V.t (T.int IntKind.i64 x)]) []) (show ((0 : Int)) = ((two2 s.toList a b).snd) by grind [two2])))
                  · let t7 : Tp pr := .b (show (s.toList == [(60 : UInt8), (61 : UInt8)]) = false by simpa using hc7)
                    by_cases hc8 : s.toList = [(61 : UInt8), (61 : UInt8)]
                    · let t8 : Tp pr := .b (show (s.toList == [(61 : UInt8), (61 : UInt8)]) = true by simpa using hc8)
                      exact .tpe [t0, t1, t2, t3, t4, t5, t6, t7, t8, .a (boolNum_ev (decide (a = b)))] (Out.val (V.tup [V.t (T.int IntKind.i64 (tru (decide (a = b)))), V.t (T.int IntKind.i64 (0 : Int))]) []) (by kernel_rfl) ((congrArg (fun x => Out.val (V.tup [V.t (T.int IntKind.i64 x), V.t (T.int IntKind.i64 (0 : Int))]) []) (show (tru (decide (a = b))) = ((two2 s.toList a b).fst) by grind [two2])).trans (congrArg (fun x => Out.val (V.tup [V.t (T.int IntKind.i64 (two2 s.toList a b).fst), V.t (T.int IntKind.i64 x)]) []) (show ((0 : Int)) = ((two2 s.toList a b).snd) by grind [two2])))
                    · let t8 : Tp pr := .b (show (s.toList == [(61 : UInt8), (61 : UInt8)]) = false by simpa using hc8)
                      exact .tpe [t0, t1, t2, t3, t4, t5, t6, t7, t8, .a (boolNum_ev (a != b))] (Out.val (V.tup [V.t (T.int IntKind.i64 (tru (a != b))), V.t (T.int IntKind.i64 (0 : Int))]) []) (by kernel_rfl) ((congrArg (fun x => Out.val (V.tup [V.t (T.int IntKind.i64 x), V.t (T.int IntKind.i64 (0 : Int))]) []) (show (tru (a != b)) = ((two2 s.toList a b).fst) by grind [two2])).trans (congrArg (fun x => Out.val (V.tup [V.t (T.int IntKind.i64 (two2 s.toList a b).fst), V.t (T.int IntKind.i64 x)]) []) (show ((0 : Int)) = ((two2 s.toList a b).snd) by grind [two2])))
theorem l2Do_ev (s : ByteArray) (a b : Int) (ha : -1000000000 ≤ a) (ha2 : a ≤ 1000000000) (hb : -1000000000 ≤ b) (hb2 : b ≤ 1000000000) : Ev pr (.call 98 [.t (.str s), i64 a, i64 b] []) (.val (.tup [i64 (do2 s.toList a b).1, i64 (do2 s.toList a b).2]) []) := by
  have hm := mul_bd ha ha2 hb hb2
  have hq := tdiv_bd b ha ha2
  have hr := tmod_bd b ha ha2
  by_cases hs : 0 ≤ b ∧ b ≤ 20
  · have hp : pow2 b 64 = 2 ^ b.toNat := by
      have := pow2_eq (n := b.toNat) (by omega)
      rwa [Int.toNat_of_nonneg hs.1] at this
    have hp2 := pow_bd (n := b.toNat) (by omega)
    rw [← hp] at hp2
    have hp3 := mulp_bd ha ha2 hp2
    by_cases hc0 : s.toList = [(43 : UInt8)]
    · let t0 : Tp pr := .b (show (s.toList == [(43 : UInt8)]) = true by simpa using hc0)
      let t1 : Tp pr := .i (wrap_i64 (a := a + b) (by omega) (by omega))
      exact .tpe [t0, t1] (Out.val (V.tup [V.t (T.int IntKind.i64 (a + b)), V.t (T.int IntKind.i64 (0 : Int))]) []) (by kernel_rfl) ((congrArg (fun x => Out.val (V.tup [V.t (T.int IntKind.i64 x), V.t (T.int IntKind.i64 (0 : Int))]) []) (show (a + b) = ((do2 s.toList a b).fst) by grind [do2])).trans (congrArg (fun x => Out.val (V.tup [V.t (T.int IntKind.i64 (do2 s.toList a b).fst), V.t (T.int IntKind.i64 x)]) []) (show ((0 : Int)) = ((do2 s.toList a b).snd) by grind [do2])))
    · let t0 : Tp pr := .b (show (s.toList == [(43 : UInt8)]) = false by simpa using hc0)
      by_cases hc1 : s.toList = [(45 : UInt8)]
      · let t1 : Tp pr := .b (show (s.toList == [(45 : UInt8)]) = true by simpa using hc1)
        let t2 : Tp pr := .i (wrap_i64 (a := a - b) (by omega) (by omega))
        exact .tpe [t0, t1, t2] (Out.val (V.tup [V.t (T.int IntKind.i64 (a - b)), V.t (T.int IntKind.i64 (0 : Int))]) []) (by kernel_rfl) ((congrArg (fun x => Out.val (V.tup [V.t (T.int IntKind.i64 x), V.t (T.int IntKind.i64 (0 : Int))]) []) (show (a - b) = ((do2 s.toList a b).fst) by grind [do2])).trans (congrArg (fun x => Out.val (V.tup [V.t (T.int IntKind.i64 (do2 s.toList a b).fst), V.t (T.int IntKind.i64 x)]) []) (show ((0 : Int)) = ((do2 s.toList a b).snd) by grind [do2])))
      · let t1 : Tp pr := .b (show (s.toList == [(45 : UInt8)]) = false by simpa using hc1)
        by_cases hc2 : s.toList = [(42 : UInt8)]
        · let t2 : Tp pr := .b (show (s.toList == [(42 : UInt8)]) = true by simpa using hc2)
          let t3 : Tp pr := .i (wrap_i64 (a := a * b) (by omega) (by omega))
          exact .tpe [t0, t1, t2, t3] (Out.val (V.tup [V.t (T.int IntKind.i64 (a * b)), V.t (T.int IntKind.i64 (0 : Int))]) []) (by kernel_rfl) ((congrArg (fun x => Out.val (V.tup [V.t (T.int IntKind.i64 x), V.t (T.int IntKind.i64 (0 : Int))]) []) (show (a * b) = ((do2 s.toList a b).fst) by grind [do2])).trans (congrArg (fun x => Out.val (V.tup [V.t (T.int IntKind.i64 (do2 s.toList a b).fst), V.t (T.int IntKind.i64 x)]) []) (show ((0 : Int)) = ((do2 s.toList a b).snd) by grind [do2])))
        · let t2 : Tp pr := .b (show (s.toList == [(42 : UInt8)]) = false by simpa using hc2)
          by_cases hc3 : s.toList = [(60 : UInt8)]
          · let t3 : Tp pr := .b (show (s.toList == [(60 : UInt8)]) = true by simpa using hc3)
            exact .tpe [t0, t1, t2, t3, .a (l2Truth_ev (decide (a < b)))] (Out.val (V.tup [V.t (T.int IntKind.i64 (tru (decide (a < b)))), V.t (T.int IntKind.i64 (0 : Int))]) []) (by kernel_rfl) ((congrArg (fun x => Out.val (V.tup [V.t (T.int IntKind.i64 x), V.t (T.int IntKind.i64 (0 : Int))]) []) (show (tru (decide (a < b))) = ((do2 s.toList a b).fst) by grind [do2])).trans (congrArg (fun x => Out.val (V.tup [V.t (T.int IntKind.i64 (do2 s.toList a b).fst), V.t (T.int IntKind.i64 x)]) []) (show ((0 : Int)) = ((do2 s.toList a b).snd) by grind [do2])))
          · let t3 : Tp pr := .b (show (s.toList == [(60 : UInt8)]) = false by simpa using hc3)
            by_cases hc4 : s.toList = [(60 : UInt8), (61 : UInt8)]
            · let t4 : Tp pr := .b (show (s.toList == [(60 : UInt8), (61 : UInt8)]) = true by simpa using hc4)
              exact .tpe [t0, t1, t2, t3, t4, .a (l2Truth_ev (decide (a ≤ b)))] (Out.val (V.tup [V.t (T.int IntKind.i64 (tru (decide (a ≤ b)))), V.t (T.int IntKind.i64 (0 : Int))]) []) (by kernel_rfl) ((congrArg (fun x => Out.val (V.tup [V.t (T.int IntKind.i64 x), V.t (T.int IntKind.i64 (0 : Int))]) []) (show (tru (decide (a ≤ b))) = ((do2 s.toList a b).fst) by grind [do2])).trans (congrArg (fun x => Out.val (V.tup [V.t (T.int IntKind.i64 (do2 s.toList a b).fst), V.t (T.int IntKind.i64 x)]) []) (show ((0 : Int)) = ((do2 s.toList a b).snd) by grind [do2])))
            · let t4 : Tp pr := .b (show (s.toList == [(60 : UInt8), (61 : UInt8)]) = false by simpa using hc4)
              by_cases hc5 : s.toList = [(61 : UInt8), (61 : UInt8)]
              · let t5 : Tp pr := .b (show (s.toList == [(61 : UInt8), (61 : UInt8)]) = true by simpa using hc5)
                exact .tpe [t0, t1, t2, t3, t4, t5, .a (l2Truth_ev (decide (a = b)))] (Out.val (V.tup [V.t (T.int IntKind.i64 (tru (decide (a = b)))), V.t (T.int IntKind.i64 (0 : Int))]) []) (by kernel_rfl) ((congrArg (fun x => Out.val (V.tup [V.t (T.int IntKind.i64 x), V.t (T.int IntKind.i64 (0 : Int))]) []) (show (tru (decide (a = b))) = ((do2 s.toList a b).fst) by grind [do2])).trans (congrArg (fun x => Out.val (V.tup [V.t (T.int IntKind.i64 (do2 s.toList a b).fst), V.t (T.int IntKind.i64 x)]) []) (show ((0 : Int)) = ((do2 s.toList a b).snd) by grind [do2])))
              · let t5 : Tp pr := .b (show (s.toList == [(61 : UInt8), (61 : UInt8)]) = false by simpa using hc5)
                by_cases hc6 : s.toList = [(33 : UInt8), (61 : UInt8)]
                · let t6 : Tp pr := .b (show (s.toList == [(33 : UInt8), (61 : UInt8)]) = true by simpa using hc6)
                  exact .tpe [t0, t1, t2, t3, t4, t5, t6, .a (l2Truth_ev (a != b))] (Out.val (V.tup [V.t (T.int IntKind.i64 (tru (a != b))), V.t (T.int IntKind.i64 (0 : Int))]) []) (by kernel_rfl) ((congrArg (fun x => Out.val (V.tup [V.t (T.int IntKind.i64 x), V.t (T.int IntKind.i64 (0 : Int))]) []) (show (tru (a != b)) = ((do2 s.toList a b).fst) by grind [do2])).trans (congrArg (fun x => Out.val (V.tup [V.t (T.int IntKind.i64 (do2 s.toList a b).fst), V.t (T.int IntKind.i64 x)]) []) (show ((0 : Int)) = ((do2 s.toList a b).snd) by grind [do2])))
                · let t6 : Tp pr := .b (show (s.toList == [(33 : UInt8), (61 : UInt8)]) = false by simpa using hc6)
                  by_cases hc7 : s.toList = [(60 : UInt8), (60 : UInt8)]
                  · let t7 : Tp pr := .b (show (s.toList == [(60 : UInt8), (60 : UInt8)]) = true by simpa using hc7)
                    let t8 : Tp pr := .a (l1In_ev (b) ((0 : Int)) ((20 : Int)))
                    let t9 : Tp pr := .b (show (!(decide (b ≥ (0 : Int)) && decide (b ≤ (20 : Int)))) = false by (simp; omega))
                    let t10 : Tp pr := .i (wrap_u64 (a := b) (by omega) (by omega))
                    let t11 : Tp pr := .m (show (decide ((0 : Int) ≤ b)) = true by simp [*])
                    let t12 : Tp pr := .i (wrap_i64 (a := a * pow2 b (64 : Nat)) (by omega) (by omega))
                    exact .tpe [t0, t1, t2, t3, t4, t5, t6, t7, t8, t9, t10, t11, t12] (Out.val (V.tup [V.t (T.int IntKind.i64 (a * pow2 b (64 : Nat))), V.t (T.int IntKind.i64 (0 : Int))]) []) (by kernel_rfl) ((congrArg (fun x => Out.val (V.tup [V.t (T.int IntKind.i64 x), V.t (T.int IntKind.i64 (0 : Int))]) []) (show (a * pow2 b (64 : Nat)) = ((do2 s.toList a b).fst) by grind [do2])).trans (congrArg (fun x => Out.val (V.tup [V.t (T.int IntKind.i64 (do2 s.toList a b).fst), V.t (T.int IntKind.i64 x)]) []) (show ((0 : Int)) = ((do2 s.toList a b).snd) by grind [do2])))
                  · let t7 : Tp pr := .b (show (s.toList == [(60 : UInt8), (60 : UInt8)]) = false by simpa using hc7)
                    by_cases hc8 : b = (0 : Int)
                    · let t8 : Tp pr := .b (show (decide (b = (0 : Int))) = true by simpa using hc8)
                      exact .tpe [t0, t1, t2, t3, t4, t5, t6, t7, t8] (Out.val (V.tup [V.t (T.int IntKind.i64 (0 : Int)), V.t (T.int IntKind.i64 (2 : Int))]) []) (by kernel_rfl) ((congrArg (fun x => Out.val (V.tup [V.t (T.int IntKind.i64 x), V.t (T.int IntKind.i64 (2 : Int))]) []) (show ((0 : Int)) = ((do2 s.toList a b).fst) by grind [do2])).trans (congrArg (fun x => Out.val (V.tup [V.t (T.int IntKind.i64 (do2 s.toList a b).fst), V.t (T.int IntKind.i64 x)]) []) (show ((2 : Int)) = ((do2 s.toList a b).snd) by grind [do2])))
                    · let t8 : Tp pr := .b (show (decide (b = (0 : Int))) = false by simpa using hc8)
                      by_cases hc9 : s.toList = [(47 : UInt8)]
                      · let t9 : Tp pr := .b (show (s.toList == [(47 : UInt8)]) = true by simpa using hc9)
                        let t10 : Tp pr := .m (show (decide (b ≠ (0 : Int))) = true by simp [*])
                        let t11 : Tp pr := .i (wrap_i64 (a := a.tdiv b) (by omega) (by omega))
                        exact .tpe [t0, t1, t2, t3, t4, t5, t6, t7, t8, t9, t10, t11] (Out.val (V.tup [V.t (T.int IntKind.i64 (a.tdiv b)), V.t (T.int IntKind.i64 (0 : Int))]) []) (by kernel_rfl) ((congrArg (fun x => Out.val (V.tup [V.t (T.int IntKind.i64 x), V.t (T.int IntKind.i64 (0 : Int))]) []) (show (a.tdiv b) = ((do2 s.toList a b).fst) by grind [do2])).trans (congrArg (fun x => Out.val (V.tup [V.t (T.int IntKind.i64 (do2 s.toList a b).fst), V.t (T.int IntKind.i64 x)]) []) (show ((0 : Int)) = ((do2 s.toList a b).snd) by grind [do2])))
                      · let t9 : Tp pr := .b (show (s.toList == [(47 : UInt8)]) = false by simpa using hc9)
                        let t10 : Tp pr := .m (show (decide (b ≠ (0 : Int))) = true by simp [*])
                        exact .tpe [t0, t1, t2, t3, t4, t5, t6, t7, t8, t9, t10, .i (rfl : (a.tmod b) = _)] (Out.val (V.tup [V.t (T.int IntKind.i64 (a.tmod b)), V.t (T.int IntKind.i64 (0 : Int))]) []) (by kernel_rfl) ((congrArg (fun x => Out.val (V.tup [V.t (T.int IntKind.i64 x), V.t (T.int IntKind.i64 (0 : Int))]) []) (show (a.tmod b) = ((do2 s.toList a b).fst) by grind [do2])).trans (congrArg (fun x => Out.val (V.tup [V.t (T.int IntKind.i64 (do2 s.toList a b).fst), V.t (T.int IntKind.i64 x)]) []) (show ((0 : Int)) = ((do2 s.toList a b).snd) by grind [do2])))
  · by_cases hc0 : s.toList = [(43 : UInt8)]
    · let t0 : Tp pr := .b (show (s.toList == [(43 : UInt8)]) = true by simpa using hc0)
      let t1 : Tp pr := .i (wrap_i64 (a := a + b) (by omega) (by omega))
      exact .tpe [t0, t1] (Out.val (V.tup [V.t (T.int IntKind.i64 (a + b)), V.t (T.int IntKind.i64 (0 : Int))]) []) (by kernel_rfl) ((congrArg (fun x => Out.val (V.tup [V.t (T.int IntKind.i64 x), V.t (T.int IntKind.i64 (0 : Int))]) []) (show (a + b) = ((do2 s.toList a b).fst) by grind [do2])).trans (congrArg (fun x => Out.val (V.tup [V.t (T.int IntKind.i64 (do2 s.toList a b).fst), V.t (T.int IntKind.i64 x)]) []) (show ((0 : Int)) = ((do2 s.toList a b).snd) by grind [do2])))
    · let t0 : Tp pr := .b (show (s.toList == [(43 : UInt8)]) = false by simpa using hc0)
      by_cases hc1 : s.toList = [(45 : UInt8)]
      · let t1 : Tp pr := .b (show (s.toList == [(45 : UInt8)]) = true by simpa using hc1)
        let t2 : Tp pr := .i (wrap_i64 (a := a - b) (by omega) (by omega))
        exact .tpe [t0, t1, t2] (Out.val (V.tup [V.t (T.int IntKind.i64 (a - b)), V.t (T.int IntKind.i64 (0 : Int))]) []) (by kernel_rfl) ((congrArg (fun x => Out.val (V.tup [V.t (T.int IntKind.i64 x), V.t (T.int IntKind.i64 (0 : Int))]) []) (show (a - b) = ((do2 s.toList a b).fst) by grind [do2])).trans (congrArg (fun x => Out.val (V.tup [V.t (T.int IntKind.i64 (do2 s.toList a b).fst), V.t (T.int IntKind.i64 x)]) []) (show ((0 : Int)) = ((do2 s.toList a b).snd) by grind [do2])))
      · let t1 : Tp pr := .b (show (s.toList == [(45 : UInt8)]) = false by simpa using hc1)
        by_cases hc2 : s.toList = [(42 : UInt8)]
        · let t2 : Tp pr := .b (show (s.toList == [(42 : UInt8)]) = true by simpa using hc2)
          let t3 : Tp pr := .i (wrap_i64 (a := a * b) (by omega) (by omega))
          exact .tpe [t0, t1, t2, t3] (Out.val (V.tup [V.t (T.int IntKind.i64 (a * b)), V.t (T.int IntKind.i64 (0 : Int))]) []) (by kernel_rfl) ((congrArg (fun x => Out.val (V.tup [V.t (T.int IntKind.i64 x), V.t (T.int IntKind.i64 (0 : Int))]) []) (show (a * b) = ((do2 s.toList a b).fst) by grind [do2])).trans (congrArg (fun x => Out.val (V.tup [V.t (T.int IntKind.i64 (do2 s.toList a b).fst), V.t (T.int IntKind.i64 x)]) []) (show ((0 : Int)) = ((do2 s.toList a b).snd) by grind [do2])))
        · let t2 : Tp pr := .b (show (s.toList == [(42 : UInt8)]) = false by simpa using hc2)
          by_cases hc3 : s.toList = [(60 : UInt8)]
          · let t3 : Tp pr := .b (show (s.toList == [(60 : UInt8)]) = true by simpa using hc3)
            exact .tpe [t0, t1, t2, t3, .a (l2Truth_ev (decide (a < b)))] (Out.val (V.tup [V.t (T.int IntKind.i64 (tru (decide (a < b)))), V.t (T.int IntKind.i64 (0 : Int))]) []) (by kernel_rfl) ((congrArg (fun x => Out.val (V.tup [V.t (T.int IntKind.i64 x), V.t (T.int IntKind.i64 (0 : Int))]) []) (show (tru (decide (a < b))) = ((do2 s.toList a b).fst) by grind [do2])).trans (congrArg (fun x => Out.val (V.tup [V.t (T.int IntKind.i64 (do2 s.toList a b).fst), V.t (T.int IntKind.i64 x)]) []) (show ((0 : Int)) = ((do2 s.toList a b).snd) by grind [do2])))
          · let t3 : Tp pr := .b (show (s.toList == [(60 : UInt8)]) = false by simpa using hc3)
            by_cases hc4 : s.toList = [(60 : UInt8), (61 : UInt8)]
            · let t4 : Tp pr := .b (show (s.toList == [(60 : UInt8), (61 : UInt8)]) = true by simpa using hc4)
              exact .tpe [t0, t1, t2, t3, t4, .a (l2Truth_ev (decide (a ≤ b)))] (Out.val (V.tup [V.t (T.int IntKind.i64 (tru (decide (a ≤ b)))), V.t (T.int IntKind.i64 (0 : Int))]) []) (by kernel_rfl) ((congrArg (fun x => Out.val (V.tup [V.t (T.int IntKind.i64 x), V.t (T.int IntKind.i64 (0 : Int))]) []) (show (tru (decide (a ≤ b))) = ((do2 s.toList a b).fst) by grind [do2])).trans (congrArg (fun x => Out.val (V.tup [V.t (T.int IntKind.i64 (do2 s.toList a b).fst), V.t (T.int IntKind.i64 x)]) []) (show ((0 : Int)) = ((do2 s.toList a b).snd) by grind [do2])))
            · let t4 : Tp pr := .b (show (s.toList == [(60 : UInt8), (61 : UInt8)]) = false by simpa using hc4)
              by_cases hc5 : s.toList = [(61 : UInt8), (61 : UInt8)]
              · let t5 : Tp pr := .b (show (s.toList == [(61 : UInt8), (61 : UInt8)]) = true by simpa using hc5)
                exact .tpe [t0, t1, t2, t3, t4, t5, .a (l2Truth_ev (decide (a = b)))] (Out.val (V.tup [V.t (T.int IntKind.i64 (tru (decide (a = b)))), V.t (T.int IntKind.i64 (0 : Int))]) []) (by kernel_rfl) ((congrArg (fun x => Out.val (V.tup [V.t (T.int IntKind.i64 x), V.t (T.int IntKind.i64 (0 : Int))]) []) (show (tru (decide (a = b))) = ((do2 s.toList a b).fst) by grind [do2])).trans (congrArg (fun x => Out.val (V.tup [V.t (T.int IntKind.i64 (do2 s.toList a b).fst), V.t (T.int IntKind.i64 x)]) []) (show ((0 : Int)) = ((do2 s.toList a b).snd) by grind [do2])))
              · let t5 : Tp pr := .b (show (s.toList == [(61 : UInt8), (61 : UInt8)]) = false by simpa using hc5)
                by_cases hc6 : s.toList = [(33 : UInt8), (61 : UInt8)]
                · let t6 : Tp pr := .b (show (s.toList == [(33 : UInt8), (61 : UInt8)]) = true by simpa using hc6)
                  exact .tpe [t0, t1, t2, t3, t4, t5, t6, .a (l2Truth_ev (a != b))] (Out.val (V.tup [V.t (T.int IntKind.i64 (tru (a != b))), V.t (T.int IntKind.i64 (0 : Int))]) []) (by kernel_rfl) ((congrArg (fun x => Out.val (V.tup [V.t (T.int IntKind.i64 x), V.t (T.int IntKind.i64 (0 : Int))]) []) (show (tru (a != b)) = ((do2 s.toList a b).fst) by grind [do2])).trans (congrArg (fun x => Out.val (V.tup [V.t (T.int IntKind.i64 (do2 s.toList a b).fst), V.t (T.int IntKind.i64 x)]) []) (show ((0 : Int)) = ((do2 s.toList a b).snd) by grind [do2])))
                · let t6 : Tp pr := .b (show (s.toList == [(33 : UInt8), (61 : UInt8)]) = false by simpa using hc6)
                  by_cases hc7 : s.toList = [(60 : UInt8), (60 : UInt8)]
                  · let t7 : Tp pr := .b (show (s.toList == [(60 : UInt8), (60 : UInt8)]) = true by simpa using hc7)
                    let t8 : Tp pr := .a (l1In_ev (b) ((0 : Int)) ((20 : Int)))
                    let t9 : Tp pr := .b (show (!(decide (b ≥ (0 : Int)) && decide (b ≤ (20 : Int)))) = true by (simp; omega))
                    exact .tpe [t0, t1, t2, t3, t4, t5, t6, t7, t8, t9] (Out.val (V.tup [V.t (T.int IntKind.i64 (0 : Int)), V.t (T.int IntKind.i64 (3 : Int))]) []) (by kernel_rfl) ((congrArg (fun x => Out.val (V.tup [V.t (T.int IntKind.i64 x), V.t (T.int IntKind.i64 (3 : Int))]) []) (show ((0 : Int)) = ((do2 s.toList a b).fst) by grind [do2])).trans (congrArg (fun x => Out.val (V.tup [V.t (T.int IntKind.i64 (do2 s.toList a b).fst), V.t (T.int IntKind.i64 x)]) []) (show ((3 : Int)) = ((do2 s.toList a b).snd) by grind [do2])))
                  · let t7 : Tp pr := .b (show (s.toList == [(60 : UInt8), (60 : UInt8)]) = false by simpa using hc7)
                    let t8 : Tp pr := .b (show (decide (b = (0 : Int))) = false by (simp; omega))
                    by_cases hc9 : s.toList = [(47 : UInt8)]
                    · let t9 : Tp pr := .b (show (s.toList == [(47 : UInt8)]) = true by simpa using hc9)
                      let t10 : Tp pr := .m (show (decide (b ≠ (0 : Int))) = true by (simp; omega))
                      let t11 : Tp pr := .i (wrap_i64 (a := a.tdiv b) (by omega) (by omega))
                      exact .tpe [t0, t1, t2, t3, t4, t5, t6, t7, t8, t9, t10, t11] (Out.val (V.tup [V.t (T.int IntKind.i64 (a.tdiv b)), V.t (T.int IntKind.i64 (0 : Int))]) []) (by kernel_rfl) ((congrArg (fun x => Out.val (V.tup [V.t (T.int IntKind.i64 x), V.t (T.int IntKind.i64 (0 : Int))]) []) (show (a.tdiv b) = ((do2 s.toList a b).fst) by grind [do2])).trans (congrArg (fun x => Out.val (V.tup [V.t (T.int IntKind.i64 (do2 s.toList a b).fst), V.t (T.int IntKind.i64 x)]) []) (show ((0 : Int)) = ((do2 s.toList a b).snd) by grind [do2])))
                    · let t9 : Tp pr := .b (show (s.toList == [(47 : UInt8)]) = false by simpa using hc9)
                      let t10 : Tp pr := .m (show (decide (b ≠ (0 : Int))) = true by (simp; omega))
                      exact .tpe [t0, t1, t2, t3, t4, t5, t6, t7, t8, t9, t10, .i (rfl : (a.tmod b) = _)] (Out.val (V.tup [V.t (T.int IntKind.i64 (a.tmod b)), V.t (T.int IntKind.i64 (0 : Int))]) []) (by kernel_rfl) ((congrArg (fun x => Out.val (V.tup [V.t (T.int IntKind.i64 x), V.t (T.int IntKind.i64 (0 : Int))]) []) (show (a.tmod b) = ((do2 s.toList a b).fst) by grind [do2])).trans (congrArg (fun x => Out.val (V.tup [V.t (T.int IntKind.i64 (do2 s.toList a b).fst), V.t (T.int IntKind.i64 x)]) []) (show ((0 : Int)) = ((do2 s.toList a b).snd) by grind [do2])))
end Go.Ev

/- Code: which is good. -/
namespace Go.Ev
set_option linter.unusedVariables false
set_option linter.unusedSimpArgs false
open Go.Proofs
set_option maxRecDepth 100000
set_option linter.unusedVariables false
set_option maxHeartbeats 1000000
attribute [local simp] e0
theorem isTwo_ev (s : ByteArray) : Ev pr (.call 117 [.t (.str s)] []) (.val (bl (decide (strength s.toList > 2))) []) := by
  by_cases hc1 : strength s.toList = (0 : Int)
  · let t1 : Tp pr := .b (show (strength s.toList != (0 : Int)) = false by simpa using hc1)
    exact .tpe [.a (StrengthOf_ev (s)), t1, .b (rfl : false = false)] (Out.val (V.t (T.bool false)) []) (by kernel_rfl) (congrArg (fun x => Out.val (V.t (T.bool x)) []) (show (false) = (decide (strength s.toList > (2 : Int))) by grind [strength]))
  · let t1 : Tp pr := .b (show (strength s.toList != (0 : Int)) = true by simpa using hc1)
    by_cases hc2 : s.toList = [(38 : UInt8), (38 : UInt8)]
    · let t2 : Tp pr := .b (show (!s.toList == [(38 : UInt8), (38 : UInt8)]) = false by simpa using hc2)
      exact .tpe [.a (StrengthOf_ev (s)), t1, t2] (Out.val (V.t (T.bool false)) []) (by kernel_rfl) (congrArg (fun x => Out.val (V.t (T.bool x)) []) (show (false) = (decide (strength s.toList > (2 : Int))) by grind [strength]))
    · let t2 : Tp pr := .b (show (!s.toList == [(38 : UInt8), (38 : UInt8)]) = true by simpa using hc2)
      exact .tpe [.a (StrengthOf_ev (s)), t1, t2] (Out.val (V.t (T.bool !s.toList == [(124 : UInt8), (124 : UInt8)])) []) (by kernel_rfl) (congrArg (fun x => Out.val (V.t (T.bool x)) []) (show (!s.toList == [(124 : UInt8), (124 : UInt8)]) = (decide (strength s.toList > (2 : Int))) by grind [strength]))
theorem l16Two_ev (s : ByteArray) : Ev pr (.call 114 [.t (.str s)] []) (.val (bl (decide (strength s.toList > 2))) []) := by
  exact .tp [.a (l2Strength_ev (s))] (by kernel_rfl)
theorem bcOk_ev (x : Bc) (n : Int) (h : 0 ≤ n ∧ n ≤ 1000000) : Ev pr (.call 107 [vs x.ce, i64 n] []) (.val (bl (bcOk x n)) []) := by
  have hz : x.text.toList = [] ↔ x.text = e0 := toList_nil x.text
  by_cases hc0 : x.op = (4 : Int)
  · let t0 : Tp pr := .b (show (decide (x.op = (4 : Int))) = true by simpa using hc0)
    by_cases hc1 : x.n = (0 : Int)
    · let t1 : Tp pr := .b (show (decide (x.n = (0 : Int))) = true by simpa using hc1)
      exact .tpe [t0, t1, .a (isTwo_ev (x.text))] (Out.val (V.t (T.bool (decide (strength x.text.toList > (2 : Int))))) []) (by kernel_rfl) (congrArg (fun x => Out.val (V.t (T.bool x)) []) (show (decide (strength x.text.toList > (2 : Int))) = (bcOk x n) by (first | grind [bcOk] | (simp [bcOk, *]; done) | (simp [bcOk, *]; grind))))
    · let t1 : Tp pr := .b (show (decide (x.n = (0 : Int))) = false by simpa using hc1)
      exact .tpe [t0, t1] (Out.val (V.t (T.bool false)) []) (by kernel_rfl) (congrArg (fun x => Out.val (V.t (T.bool x)) []) (show (false) = (bcOk x n) by (first | grind [bcOk] | (simp [bcOk, *]; done) | (simp [bcOk, *]; grind))))
  · let t0 : Tp pr := .b (show (decide (x.op = (4 : Int))) = false by simpa using hc0)
    by_cases hc1 : x.op = (5 : Int)
    · let t1 : Tp pr := .b (show (decide (x.op = (5 : Int))) = true by simpa using hc1)
      by_cases hc2 : x.n = (0 : Int)
      · let t2 : Tp pr := .b (show (decide (x.n = (0 : Int))) = true by simpa using hc2)
        by_cases hc3 : x.text.toList = [(45 : UInt8)]
        · let t3 : Tp pr := .b (show (x.text.toList == [(45 : UInt8)]) = true by simpa using hc3)
          exact .tpe [t0, t1, t2, t3] (Out.val (V.t (T.bool true)) []) (by kernel_rfl) (congrArg (fun x => Out.val (V.t (T.bool x)) []) (show (true) = (bcOk x n) by (first | grind [bcOk] | (simp [bcOk, *]; done) | (simp [bcOk, *]; grind))))
        · let t3 : Tp pr := .b (show (x.text.toList == [(45 : UInt8)]) = false by simpa using hc3)
          exact .tpe [t0, t1, t2, t3] (Out.val (V.t (T.bool (x.text.toList == [(33 : UInt8)]))) []) (by kernel_rfl) (congrArg (fun x => Out.val (V.t (T.bool x)) []) (show (x.text.toList == [(33 : UInt8)]) = (bcOk x n) by (first | grind [bcOk] | (simp [bcOk, *]; done) | (simp [bcOk, *]; grind))))
      · let t2 : Tp pr := .b (show (decide (x.n = (0 : Int))) = false by simpa using hc2)
        exact .tpe [t0, t1, t2] (Out.val (V.t (T.bool false)) []) (by kernel_rfl) (congrArg (fun x => Out.val (V.t (T.bool x)) []) (show (false) = (bcOk x n) by (first | grind [bcOk] | (simp [bcOk, *]; done) | (simp [bcOk, *]; grind))))
    · let t1 : Tp pr := .b (show (decide (x.op = (5 : Int))) = false by simpa using hc1)
      by_cases hc2 : x.text = ByteArray.mk #[]
      · let t2 : Tp pr := .b (show (!x.text.toList == []) = false by simpa using hc2)
        by_cases hc3 : x.op = (1 : Int)
        · let t3 : Tp pr := .b (show (decide (x.op = (1 : Int))) = true by simpa using hc3)
          let t4 : Tp pr := .a (within_ev (x.n) ((-1000000000 : Int)) ((1000000000 : Int)))
          exact .tpe [t0, t1, t2, t3, t4] (Out.val (V.t (T.bool (decide (x.n ≥ (-1000000000 : Int)) && decide (x.n ≤ (1000000000 : Int))))) []) (by kernel_rfl) (congrArg (fun x => Out.val (V.t (T.bool x)) []) (show (decide (x.n ≥ (-1000000000 : Int)) && decide (x.n ≤ (1000000000 : Int))) = (bcOk x n) by (first | grind [bcOk] | (simp [bcOk, *]; done) | (simp [bcOk, *]; grind))))
        · let t3 : Tp pr := .b (show (decide (x.op = (1 : Int))) = false by simpa using hc3)
          by_cases hc4 : x.op = (2 : Int)
          · let t4 : Tp pr := .b (show (decide (x.op = (2 : Int))) = true by simpa using hc4)
            let t5 : Tp pr := .b (show (decide (x.op = (2 : Int))) = true by (simp; omega))
            let t6 : Tp pr := .a (within_ev (x.n) ((0 : Int)) ((9 : Int)))
            exact .tpe [t0, t1, t2, t3, t4, t5, t6] (Out.val (V.t (T.bool (decide (x.n ≥ (0 : Int)) && decide (x.n ≤ (9 : Int))))) []) (by kernel_rfl) (congrArg (fun x => Out.val (V.t (T.bool x)) []) (show (decide (x.n ≥ (0 : Int)) && decide (x.n ≤ (9 : Int))) = (bcOk x n) by (first | grind [bcOk] | (simp [bcOk, *]; done) | (simp [bcOk, *]; grind))))
          · let t4 : Tp pr := .b (show (decide (x.op = (2 : Int))) = false by simpa using hc4)
            by_cases hc5 : x.op = (3 : Int)
            · let t5 : Tp pr := .b (show (decide (x.op = (3 : Int))) = true by simpa using hc5)
              let t6 : Tp pr := .a (within_ev (x.n) ((0 : Int)) ((9 : Int)))
              exact .tpe [t0, t1, t2, t3, t4, t5, t6] (Out.val (V.t (T.bool (decide (x.n ≥ (0 : Int)) && decide (x.n ≤ (9 : Int))))) []) (by kernel_rfl) (congrArg (fun x => Out.val (V.t (T.bool x)) []) (show (decide (x.n ≥ (0 : Int)) && decide (x.n ≤ (9 : Int))) = (bcOk x n) by (first | grind [bcOk] | (simp [bcOk, *]; done) | (simp [bcOk, *]; grind))))
            · let t5 : Tp pr := .b (show (decide (x.op = (3 : Int))) = false by simpa using hc5)
              by_cases hc6 : x.op = (6 : Int)
              · let t6 : Tp pr := .b (show (decide (x.op = (6 : Int))) = true by simpa using hc6)
                let t7 : Tp pr := .b (show (decide (x.op = (6 : Int))) = true by (simp; omega))
                let t8 : Tp pr := .i (wrap_i64 (a := n - (1 : Int)) (by omega) (by omega))
                let t9 : Tp pr := .a (within_ev (x.n) ((0 : Int)) (n - (1 : Int)))
                exact .tpe [t0, t1, t2, t3, t4, t5, t6, t7, t8, t9] (Out.val (V.t (T.bool (decide (x.n ≥ (0 : Int)) && decide (x.n ≤ n - (1 : Int))))) []) (by kernel_rfl) (congrArg (fun x => Out.val (V.t (T.bool x)) []) (show (decide (x.n ≥ (0 : Int)) && decide (x.n ≤ n - (1 : Int))) = (bcOk x n) by (first | grind [bcOk] | (simp [bcOk, *]; done) | (simp [bcOk, *]; grind))))
              · let t6 : Tp pr := .b (show (decide (x.op = (6 : Int))) = false by simpa using hc6)
                by_cases hc7 : x.op = (7 : Int)
                · let t7 : Tp pr := .b (show (decide (x.op = (7 : Int))) = true by simpa using hc7)
                  let t8 : Tp pr := .i (wrap_i64 (a := n - (1 : Int)) (by omega) (by omega))
                  let t9 : Tp pr := .a (within_ev (x.n) ((0 : Int)) (n - (1 : Int)))
                  exact .tpe [t0, t1, t2, t3, t4, t5, t6, t7, t8, t9] (Out.val (V.t (T.bool (decide (x.n ≥ (0 : Int)) && decide (x.n ≤ n - (1 : Int))))) []) (by kernel_rfl) (congrArg (fun x => Out.val (V.t (T.bool x)) []) (show (decide (x.n ≥ (0 : Int)) && decide (x.n ≤ n - (1 : Int))) = (bcOk x n) by (first | grind [bcOk] | (simp [bcOk, *]; done) | (simp [bcOk, *]; grind))))
                · let t7 : Tp pr := .b (show (decide (x.op = (7 : Int))) = false by simpa using hc7)
                  by_cases hc8 : x.op = (8 : Int)
                  · let t8 : Tp pr := .b (show (decide (x.op = (8 : Int))) = true by simpa using hc8)
                    exact .tpe [t0, t1, t2, t3, t4, t5, t6, t7, t8, .b (rfl : true = true)] (Out.val (V.t (T.bool (decide (x.n = (0 : Int))))) []) (by kernel_rfl) (congrArg (fun x => Out.val (V.t (T.bool x)) []) (show (decide (x.n = (0 : Int))) = (bcOk x n) by (first | grind [bcOk] | (simp [bcOk, *]; done) | (simp [bcOk, *]; grind))))
                  · let t8 : Tp pr := .b (show (decide (x.op = (8 : Int))) = false by simpa using hc8)
                    by_cases hc9 : x.op = (9 : Int)
                    · let t9 : Tp pr := .b (show (decide (x.op = (9 : Int))) = true by simpa using hc9)
                      exact .tpe [t0, t1, t2, t3, t4, t5, t6, t7, t8, t9] (Out.val (V.t (T.bool (decide (x.n = (0 : Int))))) []) (by kernel_rfl) (congrArg (fun x => Out.val (V.t (T.bool x)) []) (show (decide (x.n = (0 : Int))) = (bcOk x n) by (first | grind [bcOk] | (simp [bcOk, *]; done) | (simp [bcOk, *]; grind))))
                    · let t9 : Tp pr := .b (show (decide (x.op = (9 : Int))) = false by simpa using hc9)
                      exact .tpe [t0, t1, t2, t3, t4, t5, t6, t7, t8, t9] (Out.val (V.t (T.bool false)) []) (by kernel_rfl) (congrArg (fun x => Out.val (V.t (T.bool x)) []) (show (false) = (bcOk x n) by (first | grind [bcOk] | (simp [bcOk, *]; done) | (simp [bcOk, *]; grind))))
      · let t2 : Tp pr := .b (show (!x.text.toList == []) = true by simpa using hc2)
        exact .tpe [t0, t1, t2] (Out.val (V.t (T.bool false)) []) (by kernel_rfl) (congrArg (fun x => Out.val (V.t (T.bool x)) []) (show (false) = (bcOk x n) by (first | grind [bcOk] | (simp [bcOk, *]; done) | (simp [bcOk, *]; grind))))
theorem l16One_ev (x : Bc) (n : Int) (h : 0 ≤ n ∧ n ≤ 1000000) : Ev pr (.call 103 [vs x.ce, i64 n] []) (.val (bl (bcOk x n)) []) := by
  by_cases hc0 : x.op = (1 : Int)
  · let t0 : Tp pr := .b (show (decide (x.op = (1 : Int))) = true by simpa using hc0)
    by_cases hc2 : (-1000000000 : Int) ≤ x.n ∧ x.n ≤ (1000000000 : Int)
    · let t2 : Tp pr := .b (show (decide (x.n ≥ (-1000000000 : Int)) && decide (x.n ≤ (1000000000 : Int))) = true by simpa using hc2)
      exact .tpe [t0, .a (l2Bound_ev (x.n)), t2] (Out.val (V.t (T.bool (x.text.toList == []))) []) (by kernel_rfl) (congrArg (fun x => Out.val (V.t (T.bool x)) []) (show (x.text.toList == []) = (bcOk x n) by grind [bcOk]))
    · let t2 : Tp pr := .b (show (decide (x.n ≥ (-1000000000 : Int)) && decide (x.n ≤ (1000000000 : Int))) = false by simpa using hc2)
      exact .tpe [t0, .a (l2Bound_ev (x.n)), t2] (Out.val (V.t (T.bool false)) []) (by kernel_rfl) (congrArg (fun x => Out.val (V.t (T.bool x)) []) (show (false) = (bcOk x n) by grind [bcOk]))
  · let t0 : Tp pr := .b (show (decide (x.op = (1 : Int))) = false by simpa using hc0)
    by_cases hc1 : x.op = (2 : Int)
    · let t1 : Tp pr := .b (show (decide (x.op = (2 : Int))) = true by simpa using hc1)
      let t2 : Tp pr := .b (show (decide (x.op = (2 : Int))) = true by (simp; omega))
      let t3 : Tp pr := .a (l1In_ev (x.n) ((0 : Int)) ((9 : Int)))
      by_cases hc4 : (0 : Int) ≤ x.n ∧ x.n ≤ (9 : Int)
      · let t4 : Tp pr := .b (show (decide (x.n ≥ (0 : Int)) && decide (x.n ≤ (9 : Int))) = true by simpa using hc4)
        exact .tpe [t0, t1, t2, t3, t4] (Out.val (V.t (T.bool (x.text.toList == []))) []) (by kernel_rfl) (congrArg (fun x => Out.val (V.t (T.bool x)) []) (show (x.text.toList == []) = (bcOk x n) by grind [bcOk]))
      · let t4 : Tp pr := .b (show (decide (x.n ≥ (0 : Int)) && decide (x.n ≤ (9 : Int))) = false by simpa using hc4)
        exact .tpe [t0, t1, t2, t3, t4] (Out.val (V.t (T.bool false)) []) (by kernel_rfl) (congrArg (fun x => Out.val (V.t (T.bool x)) []) (show (false) = (bcOk x n) by grind [bcOk]))
    · let t1 : Tp pr := .b (show (decide (x.op = (2 : Int))) = false by simpa using hc1)
      by_cases hc2 : x.op = (3 : Int)
      · let t2 : Tp pr := .b (show (decide (x.op = (3 : Int))) = true by simpa using hc2)
        let t3 : Tp pr := .a (l1In_ev (x.n) ((0 : Int)) ((9 : Int)))
        by_cases hc4 : (0 : Int) ≤ x.n ∧ x.n ≤ (9 : Int)
        · let t4 : Tp pr := .b (show (decide (x.n ≥ (0 : Int)) && decide (x.n ≤ (9 : Int))) = true by simpa using hc4)
          exact .tpe [t0, t1, t2, t3, t4] (Out.val (V.t (T.bool (x.text.toList == []))) []) (by kernel_rfl) (congrArg (fun x => Out.val (V.t (T.bool x)) []) (show (x.text.toList == []) = (bcOk x n) by grind [bcOk]))
        · let t4 : Tp pr := .b (show (decide (x.n ≥ (0 : Int)) && decide (x.n ≤ (9 : Int))) = false by simpa using hc4)
          exact .tpe [t0, t1, t2, t3, t4] (Out.val (V.t (T.bool false)) []) (by kernel_rfl) (congrArg (fun x => Out.val (V.t (T.bool x)) []) (show (false) = (bcOk x n) by grind [bcOk]))
      · let t2 : Tp pr := .b (show (decide (x.op = (3 : Int))) = false by simpa using hc2)
        by_cases hc3 : x.op = (4 : Int)
        · let t3 : Tp pr := .b (show (decide (x.op = (4 : Int))) = true by simpa using hc3)
          by_cases hc4 : x.n = (0 : Int)
          · let t4 : Tp pr := .b (show (decide (x.n = (0 : Int))) = true by simpa using hc4)
            exact .tpe [t0, t1, t2, t3, t4, .a (l16Two_ev (x.text))] (Out.val (V.t (T.bool (decide (strength x.text.toList > (2 : Int))))) []) (by kernel_rfl) (congrArg (fun x => Out.val (V.t (T.bool x)) []) (show (decide (strength x.text.toList > (2 : Int))) = (bcOk x n) by grind [bcOk]))
          · let t4 : Tp pr := .b (show (decide (x.n = (0 : Int))) = false by simpa using hc4)
            exact .tpe [t0, t1, t2, t3, t4] (Out.val (V.t (T.bool false)) []) (by kernel_rfl) (congrArg (fun x => Out.val (V.t (T.bool x)) []) (show (false) = (bcOk x n) by grind [bcOk]))
        · let t3 : Tp pr := .b (show (decide (x.op = (4 : Int))) = false by simpa using hc3)
          by_cases hc4 : x.op = (5 : Int)
          · let t4 : Tp pr := .b (show (decide (x.op = (5 : Int))) = true by simpa using hc4)
            by_cases hc5 : x.n = (0 : Int)
            · let t5 : Tp pr := .b (show (decide (x.n = (0 : Int))) = true by simpa using hc5)
              by_cases hc6 : x.text.toList = [(45 : UInt8)]
              · let t6 : Tp pr := .b (show (x.text.toList == [(45 : UInt8)]) = true by simpa using hc6)
                exact .tpe [t0, t1, t2, t3, t4, t5, t6] (Out.val (V.t (T.bool true)) []) (by kernel_rfl) (congrArg (fun x => Out.val (V.t (T.bool x)) []) (show (true) = (bcOk x n) by grind [bcOk]))
              · let t6 : Tp pr := .b (show (x.text.toList == [(45 : UInt8)]) = false by simpa using hc6)
                exact .tpe [t0, t1, t2, t3, t4, t5, t6] (Out.val (V.t (T.bool (x.text.toList == [(33 : UInt8)]))) []) (by kernel_rfl) (congrArg (fun x => Out.val (V.t (T.bool x)) []) (show (x.text.toList == [(33 : UInt8)]) = (bcOk x n) by grind [bcOk]))
            · let t5 : Tp pr := .b (show (decide (x.n = (0 : Int))) = false by simpa using hc5)
              exact .tpe [t0, t1, t2, t3, t4, t5] (Out.val (V.t (T.bool false)) []) (by kernel_rfl) (congrArg (fun x => Out.val (V.t (T.bool x)) []) (show (false) = (bcOk x n) by grind [bcOk]))
          · let t4 : Tp pr := .b (show (decide (x.op = (5 : Int))) = false by simpa using hc4)
            by_cases hc5 : x.op = (6 : Int)
            · let t5 : Tp pr := .b (show (decide (x.op = (6 : Int))) = true by simpa using hc5)
              let t6 : Tp pr := .b (show (decide (x.op = (6 : Int))) = true by (simp; omega))
              by_cases hc7 : (0 : Int) ≤ x.n
              · let t7 : Tp pr := .b (show (decide (x.n ≥ (0 : Int))) = true by simpa using hc7)
                by_cases hc8 : x.n < n
                · let t8 : Tp pr := .b (show (decide (x.n < n)) = true by simpa using hc8)
                  exact .tpe [t0, t1, t2, t3, t4, t5, t6, t7, t8] (Out.val (V.t (T.bool (x.text.toList == []))) []) (by kernel_rfl) (congrArg (fun x => Out.val (V.t (T.bool x)) []) (show (x.text.toList == []) = (bcOk x n) by grind [bcOk]))
                · let t8 : Tp pr := .b (show (decide (x.n < n)) = false by simpa using hc8)
                  exact .tpe [t0, t1, t2, t3, t4, t5, t6, t7, t8] (Out.val (V.t (T.bool false)) []) (by kernel_rfl) (congrArg (fun x => Out.val (V.t (T.bool x)) []) (show (false) = (bcOk x n) by grind [bcOk]))
              · let t7 : Tp pr := .b (show (decide (x.n ≥ (0 : Int))) = false by simpa using hc7)
                exact .tpe [t0, t1, t2, t3, t4, t5, t6, t7, .b (rfl : false = false)] (Out.val (V.t (T.bool false)) []) (by kernel_rfl) (congrArg (fun x => Out.val (V.t (T.bool x)) []) (show (false) = (bcOk x n) by grind [bcOk]))
            · let t5 : Tp pr := .b (show (decide (x.op = (6 : Int))) = false by simpa using hc5)
              by_cases hc6 : x.op = (7 : Int)
              · let t6 : Tp pr := .b (show (decide (x.op = (7 : Int))) = true by simpa using hc6)
                by_cases hc7 : (0 : Int) ≤ x.n
                · let t7 : Tp pr := .b (show (decide (x.n ≥ (0 : Int))) = true by simpa using hc7)
                  by_cases hc8 : x.n < n
                  · let t8 : Tp pr := .b (show (decide (x.n < n)) = true by simpa using hc8)
                    exact .tpe [t0, t1, t2, t3, t4, t5, t6, t7, t8] (Out.val (V.t (T.bool (x.text.toList == []))) []) (by kernel_rfl) (congrArg (fun x => Out.val (V.t (T.bool x)) []) (show (x.text.toList == []) = (bcOk x n) by grind [bcOk]))
                  · let t8 : Tp pr := .b (show (decide (x.n < n)) = false by simpa using hc8)
                    exact .tpe [t0, t1, t2, t3, t4, t5, t6, t7, t8] (Out.val (V.t (T.bool false)) []) (by kernel_rfl) (congrArg (fun x => Out.val (V.t (T.bool x)) []) (show (false) = (bcOk x n) by grind [bcOk]))
                · let t7 : Tp pr := .b (show (decide (x.n ≥ (0 : Int))) = false by simpa using hc7)
                  exact .tpe [t0, t1, t2, t3, t4, t5, t6, t7, .b (rfl : false = false)] (Out.val (V.t (T.bool false)) []) (by kernel_rfl) (congrArg (fun x => Out.val (V.t (T.bool x)) []) (show (false) = (bcOk x n) by grind [bcOk]))
              · let t6 : Tp pr := .b (show (decide (x.op = (7 : Int))) = false by simpa using hc6)
                by_cases hc7 : x.op = (8 : Int)
                · let t7 : Tp pr := .b (show (decide (x.op = (8 : Int))) = true by simpa using hc7)
                  let t8 : Tp pr := .b (show (decide (x.op = (8 : Int))) = true by (simp; omega))
                  by_cases hc9 : x.n = (0 : Int)
                  · let t9 : Tp pr := .b (show (decide (x.n = (0 : Int))) = true by simpa using hc9)
                    exact .tpe [t0, t1, t2, t3, t4, t5, t6, t7, t8, t9] (Out.val (V.t (T.bool (x.text.toList == []))) []) (by kernel_rfl) (congrArg (fun x => Out.val (V.t (T.bool x)) []) (show (x.text.toList == []) = (bcOk x n) by grind [bcOk]))
                  · let t9 : Tp pr := .b (show (decide (x.n = (0 : Int))) = false by simpa using hc9)
                    exact .tpe [t0, t1, t2, t3, t4, t5, t6, t7, t8, t9] (Out.val (V.t (T.bool false)) []) (by kernel_rfl) (congrArg (fun x => Out.val (V.t (T.bool x)) []) (show (false) = (bcOk x n) by grind [bcOk]))
                · let t7 : Tp pr := .b (show (decide (x.op = (8 : Int))) = false by simpa using hc7)
                  by_cases hc8 : x.op = (9 : Int)
                  · let t8 : Tp pr := .b (show (decide (x.op = (9 : Int))) = true by simpa using hc8)
                    by_cases hc9 : x.n = (0 : Int)
                    · let t9 : Tp pr := .b (show (decide (x.n = (0 : Int))) = true by simpa using hc9)
                      exact .tpe [t0, t1, t2, t3, t4, t5, t6, t7, t8, t9] (Out.val (V.t (T.bool (x.text.toList == []))) []) (by kernel_rfl) (congrArg (fun x => Out.val (V.t (T.bool x)) []) (show (x.text.toList == []) = (bcOk x n) by grind [bcOk]))
                    · let t9 : Tp pr := .b (show (decide (x.n = (0 : Int))) = false by simpa using hc9)
                      exact .tpe [t0, t1, t2, t3, t4, t5, t6, t7, t8, t9] (Out.val (V.t (T.bool false)) []) (by kernel_rfl) (congrArg (fun x => Out.val (V.t (T.bool x)) []) (show (false) = (bcOk x n) by grind [bcOk]))
                  · let t8 : Tp pr := .b (show (decide (x.op = (9 : Int))) = false by simpa using hc8)
                    exact .tpe [t0, t1, t2, t3, t4, t5, t6, t7, t8] (Out.val (V.t (T.bool false)) []) (by kernel_rfl) (congrArg (fun x => Out.val (V.t (T.bool x)) []) (show (false) = (bcOk x n) by grind [bcOk]))
theorem moves_ev (x : Bc) : Ev pr (.call 108 [vs x.ce] []) (.val (.tup [i64 (mvOff x.op), i64 (mvOn x.op)]) []) := by
  by_cases hc0 : x.op = (1 : Int)
  · let t0 : Tp pr := .b (show (decide (x.op = (1 : Int))) = true by simpa using hc0)
    let t1 : Tp pr := .b (show (decide (x.op = (1 : Int))) = true by (simp; omega))
    exact .tpe [t0, t1] (Out.val (V.tup [V.t (T.int IntKind.i64 (0 : Int)), V.t (T.int IntKind.i64 (1 : Int))]) []) (by kernel_rfl) ((congrArg (fun x => Out.val (V.tup [V.t (T.int IntKind.i64 x), V.t (T.int IntKind.i64 (1 : Int))]) []) (show ((0 : Int)) = (mvOff x.op) by grind [mvOff, mvOn])).trans (congrArg (fun x_1 => Out.val (V.tup [V.t (T.int IntKind.i64 (mvOff x.op)), V.t (T.int IntKind.i64 x_1)]) []) (show ((1 : Int)) = (mvOn x.op) by grind [mvOff, mvOn])))
  · let t0 : Tp pr := .b (show (decide (x.op = (1 : Int))) = false by simpa using hc0)
    by_cases hc1 : x.op = (2 : Int)
    · let t1 : Tp pr := .b (show (decide (x.op = (2 : Int))) = true by simpa using hc1)
      exact .tpe [t0, t1] (Out.val (V.tup [V.t (T.int IntKind.i64 (0 : Int)), V.t (T.int IntKind.i64 (1 : Int))]) []) (by kernel_rfl) ((congrArg (fun x => Out.val (V.tup [V.t (T.int IntKind.i64 x), V.t (T.int IntKind.i64 (1 : Int))]) []) (show ((0 : Int)) = (mvOff x.op) by grind [mvOff, mvOn])).trans (congrArg (fun x_1 => Out.val (V.tup [V.t (T.int IntKind.i64 (mvOff x.op)), V.t (T.int IntKind.i64 x_1)]) []) (show ((1 : Int)) = (mvOn x.op) by grind [mvOff, mvOn])))
    · let t1 : Tp pr := .b (show (decide (x.op = (2 : Int))) = false by simpa using hc1)
      by_cases hc2 : x.op = (3 : Int)
      · let t2 : Tp pr := .b (show (decide (x.op = (3 : Int))) = true by simpa using hc2)
        let t3 : Tp pr := .b (show (decide (x.op = (3 : Int))) = true by (simp; omega))
        exact .tpe [t0, t1, t2, t3] (Out.val (V.tup [V.t (T.int IntKind.i64 (1 : Int)), V.t (T.int IntKind.i64 (0 : Int))]) []) (by kernel_rfl) ((congrArg (fun x => Out.val (V.tup [V.t (T.int IntKind.i64 x), V.t (T.int IntKind.i64 (0 : Int))]) []) (show ((1 : Int)) = (mvOff x.op) by grind [mvOff, mvOn])).trans (congrArg (fun x_1 => Out.val (V.tup [V.t (T.int IntKind.i64 (mvOff x.op)), V.t (T.int IntKind.i64 x_1)]) []) (show ((0 : Int)) = (mvOn x.op) by grind [mvOff, mvOn])))
      · let t2 : Tp pr := .b (show (decide (x.op = (3 : Int))) = false by simpa using hc2)
        by_cases hc3 : x.op = (7 : Int)
        · let t3 : Tp pr := .b (show (decide (x.op = (7 : Int))) = true by simpa using hc3)
          let t4 : Tp pr := .b (show (decide (x.op = (7 : Int))) = true by (simp; omega))
          exact .tpe [t0, t1, t2, t3, t4] (Out.val (V.tup [V.t (T.int IntKind.i64 (1 : Int)), V.t (T.int IntKind.i64 (0 : Int))]) []) (by kernel_rfl) ((congrArg (fun x => Out.val (V.tup [V.t (T.int IntKind.i64 x), V.t (T.int IntKind.i64 (0 : Int))]) []) (show ((1 : Int)) = (mvOff x.op) by grind [mvOff, mvOn])).trans (congrArg (fun x_1 => Out.val (V.tup [V.t (T.int IntKind.i64 (mvOff x.op)), V.t (T.int IntKind.i64 x_1)]) []) (show ((0 : Int)) = (mvOn x.op) by grind [mvOff, mvOn])))
        · let t3 : Tp pr := .b (show (decide (x.op = (7 : Int))) = false by simpa using hc3)
          by_cases hc4 : x.op = (8 : Int)
          · let t4 : Tp pr := .b (show (decide (x.op = (8 : Int))) = true by simpa using hc4)
            exact .tpe [t0, t1, t2, t3, t4] (Out.val (V.tup [V.t (T.int IntKind.i64 (1 : Int)), V.t (T.int IntKind.i64 (0 : Int))]) []) (by kernel_rfl) ((congrArg (fun x => Out.val (V.tup [V.t (T.int IntKind.i64 x), V.t (T.int IntKind.i64 (0 : Int))]) []) (show ((1 : Int)) = (mvOff x.op) by grind [mvOff, mvOn])).trans (congrArg (fun x_1 => Out.val (V.tup [V.t (T.int IntKind.i64 (mvOff x.op)), V.t (T.int IntKind.i64 x_1)]) []) (show ((0 : Int)) = (mvOn x.op) by grind [mvOff, mvOn])))
          · let t4 : Tp pr := .b (show (decide (x.op = (8 : Int))) = false by simpa using hc4)
            by_cases hc5 : x.op = (4 : Int)
            · let t5 : Tp pr := .b (show (decide (x.op = (4 : Int))) = true by simpa using hc5)
              exact .tpe [t0, t1, t2, t3, t4, t5] (Out.val (V.tup [V.t (T.int IntKind.i64 (2 : Int)), V.t (T.int IntKind.i64 (1 : Int))]) []) (by kernel_rfl) ((congrArg (fun x => Out.val (V.tup [V.t (T.int IntKind.i64 x), V.t (T.int IntKind.i64 (1 : Int))]) []) (show ((2 : Int)) = (mvOff x.op) by grind [mvOff, mvOn])).trans (congrArg (fun x_1 => Out.val (V.tup [V.t (T.int IntKind.i64 (mvOff x.op)), V.t (T.int IntKind.i64 x_1)]) []) (show ((1 : Int)) = (mvOn x.op) by grind [mvOff, mvOn])))
            · let t5 : Tp pr := .b (show (decide (x.op = (4 : Int))) = false by simpa using hc5)
              by_cases hc6 : x.op = (5 : Int)
              · let t6 : Tp pr := .b (show (decide (x.op = (5 : Int))) = true by simpa using hc6)
                let t7 : Tp pr := .b (show (decide (x.op = (5 : Int))) = true by (simp; omega))
                exact .tpe [t0, t1, t2, t3, t4, t5, t6, t7] (Out.val (V.tup [V.t (T.int IntKind.i64 (1 : Int)), V.t (T.int IntKind.i64 (1 : Int))]) []) (by kernel_rfl) ((congrArg (fun x => Out.val (V.tup [V.t (T.int IntKind.i64 x), V.t (T.int IntKind.i64 (1 : Int))]) []) (show ((1 : Int)) = (mvOff x.op) by grind [mvOff, mvOn])).trans (congrArg (fun x_1 => Out.val (V.tup [V.t (T.int IntKind.i64 (mvOff x.op)), V.t (T.int IntKind.i64 x_1)]) []) (show ((1 : Int)) = (mvOn x.op) by grind [mvOff, mvOn])))
              · let t6 : Tp pr := .b (show (decide (x.op = (5 : Int))) = false by simpa using hc6)
                by_cases hc7 : x.op = (9 : Int)
                · let t7 : Tp pr := .b (show (decide (x.op = (9 : Int))) = true by simpa using hc7)
                  exact .tpe [t0, t1, t2, t3, t4, t5, t6, t7] (Out.val (V.tup [V.t (T.int IntKind.i64 (1 : Int)), V.t (T.int IntKind.i64 (1 : Int))]) []) (by kernel_rfl) ((congrArg (fun x => Out.val (V.tup [V.t (T.int IntKind.i64 x), V.t (T.int IntKind.i64 (1 : Int))]) []) (show ((1 : Int)) = (mvOff x.op) by grind [mvOff, mvOn])).trans (congrArg (fun x_1 => Out.val (V.tup [V.t (T.int IntKind.i64 (mvOff x.op)), V.t (T.int IntKind.i64 x_1)]) []) (show ((1 : Int)) = (mvOn x.op) by grind [mvOff, mvOn])))
                · let t7 : Tp pr := .b (show (decide (x.op = (9 : Int))) = false by simpa using hc7)
                  exact .tpe [t0, t1, t2, t3, t4, t5, t6, t7] (Out.val (V.tup [V.t (T.int IntKind.i64 (0 : Int)), V.t (T.int IntKind.i64 (0 : Int))]) []) (by kernel_rfl) ((congrArg (fun x => Out.val (V.tup [V.t (T.int IntKind.i64 x), V.t (T.int IntKind.i64 (0 : Int))]) []) (show ((0 : Int)) = (mvOff x.op) by grind [mvOff, mvOn])).trans (congrArg (fun x_1 => Out.val (V.tup [V.t (T.int IntKind.i64 (mvOff x.op)), V.t (T.int IntKind.i64 x_1)]) []) (show ((0 : Int)) = (mvOn x.op) by grind [mvOff, mvOn])))
theorem l16Takes_ev (x : Bc) : Ev pr (.call 115 [vs x.ce] []) (.val (.tup [i64 (mvOff x.op), i64 (mvOn x.op)]) []) := by
  by_cases hc0 : x.op = (1 : Int)
  · let t0 : Tp pr := .b (show (decide (x.op = (1 : Int))) = true by simpa using hc0)
    let t1 : Tp pr := .b (show (decide (x.op = (1 : Int))) = true by (simp; omega))
    exact .tpe [t0, t1] (Out.val (V.tup [V.t (T.int IntKind.i64 (0 : Int)), V.t (T.int IntKind.i64 (1 : Int))]) []) (by kernel_rfl) ((congrArg (fun x => Out.val (V.tup [V.t (T.int IntKind.i64 x), V.t (T.int IntKind.i64 (1 : Int))]) []) (show ((0 : Int)) = (mvOff x.op) by grind [mvOff, mvOn])).trans (congrArg (fun x_1 => Out.val (V.tup [V.t (T.int IntKind.i64 (mvOff x.op)), V.t (T.int IntKind.i64 x_1)]) []) (show ((1 : Int)) = (mvOn x.op) by grind [mvOff, mvOn])))
  · let t0 : Tp pr := .b (show (decide (x.op = (1 : Int))) = false by simpa using hc0)
    by_cases hc1 : x.op = (2 : Int)
    · let t1 : Tp pr := .b (show (decide (x.op = (2 : Int))) = true by simpa using hc1)
      exact .tpe [t0, t1] (Out.val (V.tup [V.t (T.int IntKind.i64 (0 : Int)), V.t (T.int IntKind.i64 (1 : Int))]) []) (by kernel_rfl) ((congrArg (fun x => Out.val (V.tup [V.t (T.int IntKind.i64 x), V.t (T.int IntKind.i64 (1 : Int))]) []) (show ((0 : Int)) = (mvOff x.op) by grind [mvOff, mvOn])).trans (congrArg (fun x_1 => Out.val (V.tup [V.t (T.int IntKind.i64 (mvOff x.op)), V.t (T.int IntKind.i64 x_1)]) []) (show ((1 : Int)) = (mvOn x.op) by grind [mvOff, mvOn])))
    · let t1 : Tp pr := .b (show (decide (x.op = (2 : Int))) = false by simpa using hc1)
      by_cases hc2 : x.op = (3 : Int)
      · let t2 : Tp pr := .b (show (decide (x.op = (3 : Int))) = true by simpa using hc2)
        let t3 : Tp pr := .b (show (decide (x.op = (3 : Int))) = true by (simp; omega))
        exact .tpe [t0, t1, t2, t3] (Out.val (V.tup [V.t (T.int IntKind.i64 (1 : Int)), V.t (T.int IntKind.i64 (0 : Int))]) []) (by kernel_rfl) ((congrArg (fun x => Out.val (V.tup [V.t (T.int IntKind.i64 x), V.t (T.int IntKind.i64 (0 : Int))]) []) (show ((1 : Int)) = (mvOff x.op) by grind [mvOff, mvOn])).trans (congrArg (fun x_1 => Out.val (V.tup [V.t (T.int IntKind.i64 (mvOff x.op)), V.t (T.int IntKind.i64 x_1)]) []) (show ((0 : Int)) = (mvOn x.op) by grind [mvOff, mvOn])))
      · let t2 : Tp pr := .b (show (decide (x.op = (3 : Int))) = false by simpa using hc2)
        by_cases hc3 : x.op = (7 : Int)
        · let t3 : Tp pr := .b (show (decide (x.op = (7 : Int))) = true by simpa using hc3)
          let t4 : Tp pr := .b (show (decide (x.op = (7 : Int))) = true by (simp; omega))
          exact .tpe [t0, t1, t2, t3, t4] (Out.val (V.tup [V.t (T.int IntKind.i64 (1 : Int)), V.t (T.int IntKind.i64 (0 : Int))]) []) (by kernel_rfl) ((congrArg (fun x => Out.val (V.tup [V.t (T.int IntKind.i64 x), V.t (T.int IntKind.i64 (0 : Int))]) []) (show ((1 : Int)) = (mvOff x.op) by grind [mvOff, mvOn])).trans (congrArg (fun x_1 => Out.val (V.tup [V.t (T.int IntKind.i64 (mvOff x.op)), V.t (T.int IntKind.i64 x_1)]) []) (show ((0 : Int)) = (mvOn x.op) by grind [mvOff, mvOn])))
        · let t3 : Tp pr := .b (show (decide (x.op = (7 : Int))) = false by simpa using hc3)
          by_cases hc4 : x.op = (8 : Int)
          · let t4 : Tp pr := .b (show (decide (x.op = (8 : Int))) = true by simpa using hc4)
            exact .tpe [t0, t1, t2, t3, t4] (Out.val (V.tup [V.t (T.int IntKind.i64 (1 : Int)), V.t (T.int IntKind.i64 (0 : Int))]) []) (by kernel_rfl) ((congrArg (fun x => Out.val (V.tup [V.t (T.int IntKind.i64 x), V.t (T.int IntKind.i64 (0 : Int))]) []) (show ((1 : Int)) = (mvOff x.op) by grind [mvOff, mvOn])).trans (congrArg (fun x_1 => Out.val (V.tup [V.t (T.int IntKind.i64 (mvOff x.op)), V.t (T.int IntKind.i64 x_1)]) []) (show ((0 : Int)) = (mvOn x.op) by grind [mvOff, mvOn])))
          · let t4 : Tp pr := .b (show (decide (x.op = (8 : Int))) = false by simpa using hc4)
            by_cases hc5 : x.op = (4 : Int)
            · let t5 : Tp pr := .b (show (decide (x.op = (4 : Int))) = true by simpa using hc5)
              exact .tpe [t0, t1, t2, t3, t4, t5] (Out.val (V.tup [V.t (T.int IntKind.i64 (2 : Int)), V.t (T.int IntKind.i64 (1 : Int))]) []) (by kernel_rfl) ((congrArg (fun x => Out.val (V.tup [V.t (T.int IntKind.i64 x), V.t (T.int IntKind.i64 (1 : Int))]) []) (show ((2 : Int)) = (mvOff x.op) by grind [mvOff, mvOn])).trans (congrArg (fun x_1 => Out.val (V.tup [V.t (T.int IntKind.i64 (mvOff x.op)), V.t (T.int IntKind.i64 x_1)]) []) (show ((1 : Int)) = (mvOn x.op) by grind [mvOff, mvOn])))
            · let t5 : Tp pr := .b (show (decide (x.op = (4 : Int))) = false by simpa using hc5)
              by_cases hc6 : x.op = (5 : Int)
              · let t6 : Tp pr := .b (show (decide (x.op = (5 : Int))) = true by simpa using hc6)
                let t7 : Tp pr := .b (show (decide (x.op = (5 : Int))) = true by (simp; omega))
                exact .tpe [t0, t1, t2, t3, t4, t5, t6, t7] (Out.val (V.tup [V.t (T.int IntKind.i64 (1 : Int)), V.t (T.int IntKind.i64 (1 : Int))]) []) (by kernel_rfl) ((congrArg (fun x => Out.val (V.tup [V.t (T.int IntKind.i64 x), V.t (T.int IntKind.i64 (1 : Int))]) []) (show ((1 : Int)) = (mvOff x.op) by grind [mvOff, mvOn])).trans (congrArg (fun x_1 => Out.val (V.tup [V.t (T.int IntKind.i64 (mvOff x.op)), V.t (T.int IntKind.i64 x_1)]) []) (show ((1 : Int)) = (mvOn x.op) by grind [mvOff, mvOn])))
              · let t6 : Tp pr := .b (show (decide (x.op = (5 : Int))) = false by simpa using hc6)
                by_cases hc7 : x.op = (9 : Int)
                · let t7 : Tp pr := .b (show (decide (x.op = (9 : Int))) = true by simpa using hc7)
                  exact .tpe [t0, t1, t2, t3, t4, t5, t6, t7] (Out.val (V.tup [V.t (T.int IntKind.i64 (1 : Int)), V.t (T.int IntKind.i64 (1 : Int))]) []) (by kernel_rfl) ((congrArg (fun x => Out.val (V.tup [V.t (T.int IntKind.i64 x), V.t (T.int IntKind.i64 (1 : Int))]) []) (show ((1 : Int)) = (mvOff x.op) by grind [mvOff, mvOn])).trans (congrArg (fun x_1 => Out.val (V.tup [V.t (T.int IntKind.i64 (mvOff x.op)), V.t (T.int IntKind.i64 x_1)]) []) (show ((1 : Int)) = (mvOn x.op) by grind [mvOff, mvOn])))
                · let t7 : Tp pr := .b (show (decide (x.op = (9 : Int))) = false by simpa using hc7)
                  exact .tpe [t0, t1, t2, t3, t4, t5, t6, t7] (Out.val (V.tup [V.t (T.int IntKind.i64 (0 : Int)), V.t (T.int IntKind.i64 (0 : Int))]) []) (by kernel_rfl) ((congrArg (fun x => Out.val (V.tup [V.t (T.int IntKind.i64 x), V.t (T.int IntKind.i64 (0 : Int))]) []) (show ((0 : Int)) = (mvOff x.op) by grind [mvOff, mvOn])).trans (congrArg (fun x_1 => Out.val (V.tup [V.t (T.int IntKind.i64 (mvOff x.op)), V.t (T.int IntKind.i64 x_1)]) []) (show ((0 : Int)) = (mvOn x.op) by grind [mvOff, mvOn])))
theorem endOf_ev (c : Int) : Ev pr (.call 68 [i64 c] []) (.val (i64 (endOf c)) []) := by
  by_cases hc0 : c = (2 : Int)
  · let t0 : Tp pr := .b (show (decide (c = (2 : Int))) = true by simpa using hc0)
    exact .tpe [t0] (Out.val (V.t (T.int IntKind.i64 (2 : Int))) []) (by kernel_rfl) (congrArg (fun x => Out.val (V.t (T.int IntKind.i64 x)) []) (show ((2 : Int)) = (endOf c) by grind [endOf]))
  · let t0 : Tp pr := .b (show (decide (c = (2 : Int))) = false by simpa using hc0)
    by_cases hc1 : c = (3 : Int)
    · let t1 : Tp pr := .b (show (decide (c = (3 : Int))) = true by simpa using hc1)
      exact .tpe [t0, t1] (Out.val (V.t (T.int IntKind.i64 (3 : Int))) []) (by kernel_rfl) (congrArg (fun x => Out.val (V.t (T.int IntKind.i64 x)) []) (show ((3 : Int)) = (endOf c) by grind [endOf]))
    · let t1 : Tp pr := .b (show (decide (c = (3 : Int))) = false by simpa using hc1)
      exact .tpe [t0, t1] (Out.val (V.t (T.int IntKind.i64 (0 : Int))) []) (by kernel_rfl) (congrArg (fun x => Out.val (V.t (T.int IntKind.i64 x)) []) (show ((0 : Int)) = (endOf c) by grind [endOf]))
end Go.Ev

/- Code that is good; how it runs, step by step. -/
namespace Go.Ev
set_option linter.unusedVariables false
set_option linter.unusedSimpArgs false
open Go.Proofs
set_option maxRecDepth 100000
set_option linter.unusedVariables false
set_option maxHeartbeats 1000000
attribute [local simp] e0
abbrev lCl (l : List Bc) : T := .ptr [.seq 3 (l.map Bc.ce)] 0
theorem GoodCodeF_ev (x : Bc) (l : List Bc) (h : l.length ≤ 1000000) : Ev pr (.call 106 [vs x.ce, .t (lCl l)] []) (.val (bl (!bcOk x l.length)) []) := by
  have := bcOk_ev x l.length (by omega)
  let t0 : Tp pr := .i (show ((↑(List.map Bc.ce l).length : Int) : Int) = (↑l.length : Int) by simp)
  exact .tp [t0, .a (this)] (by kernel_rfl)
theorem idxBc_ev (l : List Bc) (hl : l.length ≤ 1000000) : ∀ (rest done : List Bc) (i : Int), l = done ++ rest → i = done.length →
    Ev pr (.loop (lq pr 116 0) (at_ [(0, bcs l), (1, .t (.clo 106 [lCl l])), (7, i64 l.length), (8, i64 i)] [] 0))
      (if 0 ≤ idxFrom (fun x => !bcOk x l.length) i rest then .ret (at_ [(4, i64 (idxFrom (fun x => !bcOk x l.length) i rest))] [] 0) else .exit 0 (at_ [] [] 0))
  | [], done, i, h, hi => by
    have hll : (l.length : Int) = done.length := by simp [h]
    let t0 : Tp pr := .b (show (decide (i < (↑l.length : Int))) = false by (simp; omega))
    exact .tp [t0] (by kernel_rfl)
  | x :: rest, done, i, h, hi => by
    have hll : (l.length : Int) = done.length + 1 + rest.length := by simp [h]; omega
    have hg : lkp (l.map Bc.ce) i = some x.ce := by subst hi; subst h; simp
    have ih := idxBc_ev l hl rest (done ++ [x]) (i + 1) (by simp [h]) (by simp [hi])
    have hi0 : 0 ≤ i := by omega
    have hx := GoodCodeF_ev x l hl
    cases hb : bcOk x l.length with
    | false => rw [hb] at hx; (
      let t0 : Tp pr := .b (show (decide (i < (↑l.length : Int))) = true by (simp; omega))
      let t1 : Tp pr := .g .row (show (lkp (List.map Bc.ce l) i) = some (x.ce) from hg)
      exact .tpe [t0, t1, .a (hx), .b (rfl : true = true)] (Out.ret (at_ [((4 : Nat), V.t (T.int IntKind.i64 i))] [] (0 : Nat))) (by kernel_rfl) ((rfl).trans (show (Out.ret (at_ [((4 : Nat), V.t (T.int IntKind.i64 i))] [] (0 : Nat))) = if (0 : Int) ≤ idxFrom (fun x => !bcOk x (↑l.length : Int)) i (x :: rest) then Out.ret (at_ [((4 : Nat), i64 (idxFrom (fun x => !bcOk x (↑l.length : Int)) i (x :: rest)))] [] (0 : Nat)) else Out.exit (0 : Nat) (at_ [] [] (0 : Nat)) by simp [idxFrom, hb, hi0])))
    | true =>
      rw [hb] at hx
      have hI : idxFrom (fun x => !bcOk x l.length) i (x :: rest) = idxFrom (fun x => !bcOk x l.length) (i + 1) rest := by simp [idxFrom, hb]
      rw [hI]
      by_cases h0 : 0 ≤ idxFrom (fun x => !bcOk x l.length) (i + 1) rest
      · rw [if_pos h0] at ih ⊢; (
        let t0 : Tp pr := .b (show (decide (i < (↑l.length : Int))) = true by (simp; omega))
        let t1 : Tp pr := .g .row (show (lkp (List.map Bc.ce l) i) = some (x.ce) from hg)
        let t4 : Tp pr := .i (wrap_i64 (a := i + (1 : Int)) (by omega) (by omega))
        exact .tp [t0, t1, .a (hx), .b (rfl : false = false), t4, .a (ih)] (by kernel_rfl))
      · rw [if_neg h0] at ih ⊢; (
        let t0 : Tp pr := .b (show (decide (i < (↑l.length : Int))) = true by (simp; omega))
        let t1 : Tp pr := .g .row (show (lkp (List.map Bc.ce l) i) = some (x.ce) from hg)
        let t4 : Tp pr := .i (wrap_i64 (a := i + (1 : Int)) (by omega) (by omega))
        exact .tp [t0, t1, .a (hx), .b (rfl : false = false), t4, .a (ih)] (by kernel_rfl))
theorem idxBcs_ev (l : List Bc) (hl : l.length ≤ 1000000) : Ev pr (.call 116 [bcs l, .t (.clo 106 [lCl l])] []) (.val (i64 (idxFrom (fun x => !bcOk x l.length) 0 l)) []) := by
  have h := idxBc_ev l hl l [] 0 rfl rfl
  have h2 := idxFrom_neg (fun x => !bcOk x l.length) l 0 (Int.le_refl _)
  by_cases h0 : 0 ≤ idxFrom (fun x => !bcOk x l.length) 0 l
  · rw [if_pos h0] at h; (
    let t0 : Tp pr := .i (show ((↑(List.map Bc.ce l).length : Int) : Int) = (↑l.length : Int) by simp)
    exact .tp [t0, .a (h)] (by kernel_rfl))
  · rw [if_neg h0] at h; rw [h2 h0]; (
    let t0 : Tp pr := .i (show ((↑(List.map Bc.ce l).length : Int) : Int) = (↑l.length : Int) by simp)
    exact .tp [t0, .a (h)] (by kernel_rfl))
theorem anyBc_ev (l : List Bc) (hl : l.length ≤ 1000000) : Ev pr (.call 105 [bcs l, .t (.clo 106 [lCl l])] []) (.val (bl (l.any fun x => !bcOk x l.length)) []) := by
  rw [← idxFrom_any (fun x => !bcOk x l.length) l 0 (by omega)]
  exact .tp [.a (idxBcs_ev (l) (by assumption))] (by kernel_rfl)
theorem GoodCodeI_ev (l : List Bc) (hl : l.length ≤ 1000000) : Ev pr (.call 91 [bcs l] []) (.val (bl (goodCode l)) []) := by
  have h := anyBc_ev l hl
  unfold goodCode
  let t0 : Tp pr := .i (show ((↑(List.map Bc.ce l).length : Int) : Int) = (↑l.length : Int) by simp)
  let t1 : Tp pr := .a (within_ev ((↑l.length : Int)) ((1 : Int)) ((120 : Int)))
  by_cases hc2 : (↑l.length : Int) < (1 : Int) ∨ (120 : Int) < (↑l.length : Int)
  · let t2 : Tp pr := .b (show (!(decide ((↑l.length : Int) ≥ (1 : Int)) && decide ((↑l.length : Int) ≤ (120 : Int)))) = true by simpa using hc2)
    exact .tpe [t0, t1, t2] (Out.val (V.t (T.bool false)) []) (by kernel_rfl) (congrArg (fun x => Out.val (V.t (T.bool x)) []) (show (false) = (decide ((↑l.length : Int) ≥ (1 : Int)) && decide ((↑l.length : Int) ≤ (120 : Int)) && !l.any fun x => !bcOk x (↑l.length : Int)) by (simp [*] <;> omega)))
  · let t2 : Tp pr := .b (show (!(decide ((↑l.length : Int) ≥ (1 : Int)) && decide ((↑l.length : Int) ≤ (120 : Int)))) = false by simpa using hc2)
    exact .tpe [t0, t1, t2, .a (h), .m (rfl : true = true)] (Out.val (V.t (T.bool !l.any fun x => !bcOk x (↑l.length : Int))) []) (by kernel_rfl) (congrArg (fun x => Out.val (V.t (T.bool x)) []) (show (!l.any fun x => !bcOk x (↑l.length : Int)) = (decide ((↑l.length : Int) ≥ (1 : Int)) && decide ((↑l.length : Int) ≤ (120 : Int)) && !l.any fun x => !bcOk x (↑l.length : Int)) by (simp [*] <;> omega)))
theorem goodSL_ev (l : List Bc) (hl : l.length ≤ 1000000) : ∀ (rest done : List Bc) (i : Int), l = done ++ rest → i = done.length →
    Ev pr (.loop (lq pr 89 0) (at_ [(0, bcs l), (5, bcs l), (6, i64 l.length), (7, i64 i)] [] 0))
      (bif rest.any (fun x => !bcOk x l.length) then .ret (at_ [(2, bl false)] [] 0) else .exit 0 (at_ [(0, bcs l)] [] 0))
  | [], done, i, h, hi => by
    have hll : (l.length : Int) = done.length := by simp [h]
    let t0 : Tp pr := .b (show (decide (i < (↑l.length : Int))) = false by (simp; omega))
    exact .tp [t0] (by kernel_rfl)
  | x :: rest, done, i, h, hi => by
    have hll : (l.length : Int) = done.length + 1 + rest.length := by simp [h]; omega
    have hg : lkp (l.map Bc.ce) i = some x.ce := by subst hi; subst h; simp
    have ih := goodSL_ev l hl rest (done ++ [x]) (i + 1) (by simp [h]) (by simp [hi])
    have hx := l16One_ev x l.length (by omega)
    cases hb : bcOk x l.length with
    | false =>
      rw [hb] at hx
      simp only [List.any_cons, hb, Bool.not_false, Bool.true_or]
      let t0 : Tp pr := .b (show (decide (i < (↑l.length : Int))) = true by (simp; omega))
      let t1 : Tp pr := .g .row (show (lkp (List.map Bc.ce l) i) = some (x.ce) from hg)
      let t2 : Tp pr := .i (show ((↑(List.map Bc.ce l).length : Int) : Int) = (↑l.length : Int) by simp)
      exact .tp [t0, t1, t2, .a (hx), .b (rfl : true = true)] (by kernel_rfl)
    | true =>
      rw [hb] at hx
      simp only [List.any_cons, hb, Bool.not_true, Bool.false_or]
      cases hr : rest.any (fun x => !bcOk x l.length) with
      | true => rw [hr] at ih; (
        let t0 : Tp pr := .b (show (decide (i < (↑l.length : Int))) = true by (simp; omega))
        let t1 : Tp pr := .g .row (show (lkp (List.map Bc.ce l) i) = some (x.ce) from hg)
        let t2 : Tp pr := .i (show ((↑(List.map Bc.ce l).length : Int) : Int) = (↑l.length : Int) by simp)
        let t5 : Tp pr := .i (wrap_i64 (a := i + (1 : Int)) (by omega) (by omega))
        exact .tp [t0, t1, t2, .a (hx), .b (rfl : false = false), t5, .a (ih)] (by kernel_rfl))
      | false => rw [hr] at ih; (
        let t0 : Tp pr := .b (show (decide (i < (↑l.length : Int))) = true by (simp; omega))
        let t1 : Tp pr := .g .row (show (lkp (List.map Bc.ce l) i) = some (x.ce) from hg)
        let t2 : Tp pr := .i (show ((↑(List.map Bc.ce l).length : Int) : Int) = (↑l.length : Int) by simp)
        let t5 : Tp pr := .i (wrap_i64 (a := i + (1 : Int)) (by omega) (by omega))
        exact .tp [t0, t1, t2, .a (hx), .b (rfl : false = false), t5, .a (ih)] (by kernel_rfl))
theorem GoodCodeS_ev (l : List Bc) (hl : l.length ≤ 1000000) : Ev pr (.call 89 [bcs l] []) (.val (bl (goodCode l)) []) := by
  have h := goodSL_ev l hl l [] 0 rfl rfl
  unfold goodCode
  cases hr : l.any (fun x => !bcOk x l.length) with
  | true => rw [hr] at h; (
    let t0 : Tp pr := .i (show ((↑(List.map Bc.ce l).length : Int) : Int) = (↑l.length : Int) by simp)
    exact .tpe [t0, .a (h)] (Out.val (V.t (T.bool false)) []) (by kernel_rfl) (congrArg (fun x => Out.val (V.t (T.bool x)) []) (show (false) = (decide ((↑l.length : Int) ≥ (1 : Int)) && decide ((↑l.length : Int) ≤ (120 : Int)) && false) by simp)))
  | false => rw [hr] at h; (
    let t0 : Tp pr := .i (show ((↑(List.map Bc.ce l).length : Int) : Int) = (↑l.length : Int) by simp)
    let t2 : Tp pr := .i (show ((↑(List.map Bc.ce l).length : Int) : Int) = (↑l.length : Int) by simp)
    let t3 : Tp pr := .a (l1In_ev ((↑l.length : Int)) ((1 : Int)) ((120 : Int)))
    exact .tpe [t0, .a (h), t2, t3] (Out.val (V.t (T.bool (decide ((↑l.length : Int) ≥ (1 : Int)) && decide ((↑l.length : Int) ≤ (120 : Int))))) []) (by kernel_rfl) (congrArg (fun x => Out.val (V.t (T.bool x)) []) (show (decide ((↑l.length : Int) ≥ (1 : Int)) && decide ((↑l.length : Int) ≤ (120 : Int))) = (decide ((↑l.length : Int) ≥ (1 : Int)) && decide ((↑l.length : Int) ≤ (120 : Int)) && true) by simp)))
end Go.Ev
