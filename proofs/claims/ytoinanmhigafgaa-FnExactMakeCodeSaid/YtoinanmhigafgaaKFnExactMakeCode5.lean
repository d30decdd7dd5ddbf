import Derived.Test.YtoinanmhigafgaaKFnExactMakeCode4
/- Code that is made of an expression: from nothing; the reference's. -/
namespace Go.Ev
set_option linter.unusedVariables false
set_option linter.unusedSimpArgs false
open Go.Proofs
set_option maxRecDepth 100000
set_option linter.unusedVariables false
set_option maxHeartbeats 1000000
attribute [local simp] e0
theorem l17Not_ev : Ev pr (.call 74 [] []) (.val (.agg [i64 5, i64 0, .t (.str sNot)]) []) := by
  exact .tp [] (by kernel_rfl)
theorem l17Make_ev : ∀ (e : E) (l : List Bc), l.length + 6 * e.size ≤ 1000000 → e.names = true →
    Ev pr (.call 48 [vs e.ts, .vec 0 l.length 3 0 l.length] [.vec true 3 (bcc l)]) (.val (.vec 0 (codeE e l).length 3 0 (codeE e l).length) [.vec true 3 (bcc (codeE e l))])
  | .num n, l, h, hn => by
    let t2 : Tp pr := .m (show (decide ((bcc l).length = l.length ∧ (0 : Nat) + l.length ≤ l.length ∧ l.length + (1 : Nat) ≤ (4294967296 : Nat))) = true by (simp; omega))
    let t3 : Tp pr := .b (show (decide (l.length + (1 : Nat) ≤ l.length)) = false by simp)
    let t5 : Tp pr := .n .crows (show ((List.take l.length (bcc l)).append (List.take (1 : Nat) (List.drop (0 : Nat) [[C.t (T.int IntKind.i64 (1 : Int)), C.t (T.int IntKind.i64 (E.num n).nm), C.t (T.str (ByteArray.mk #[]))]]))) = bcc (l ++ [Bc.mk (1 : Int) n (ByteArray.mk #[])]) by simp)
    exact .tpe [.b (rfl : true = true), .m (rfl : true = true), t2, t3, .c (rfl : (l.length + (1 : Nat)) = _), t5] (Out.val (V.vec (0 : Nat) (l.length + (1 : Nat)) (3 : Nat) (0 : Nat) (l.length + (1 : Nat))) [Ob.vec true (3 : Nat) (bcc (l ++ [Bc.mk (1 : Int) n (ByteArray.mk #[])]))]) (by kernel_rfl) (((congrArg (fun x => Out.val (V.vec (0 : Nat) x (3 : Nat) (0 : Nat) (l.length + (1 : Nat))) [Ob.vec true (3 : Nat) (bcc (l ++ [Bc.mk (1 : Int) n (ByteArray.mk #[])]))]) (show (l.length + (1 : Nat)) = ((codeE (E.num n) l).length) by simp [codeE])).trans (congrArg (fun x => Out.val (V.vec (0 : Nat) (codeE (E.num n) l).length (3 : Nat) (0 : Nat) x) [Ob.vec true (3 : Nat) (bcc (l ++ [Bc.mk (1 : Int) n (ByteArray.mk #[])]))]) (show (l.length + (1 : Nat)) = ((codeE (E.num n) l).length) by simp [codeE]))).trans (congrArg (fun x => Out.val (V.vec (0 : Nat) (codeE (E.num n) l).length (3 : Nat) (0 : Nat) (codeE (E.num n) l).length) [Ob.vec true (3 : Nat) x]) (show (bcc (l ++ [Bc.mk (1 : Int) n (ByteArray.mk #[])])) = (bcc (codeE (E.num n) l)) by simp [codeE])))
  | .name s, l, h, hn => by
    have hk := NameNoS_ev s
    have hk0 : 0 ≤ nameNo s := by simpa [E.names] using hn
    rw [if_neg (by omega)] at hk
    let t4 : Tp pr := .m (show (decide ((bcc l).length = l.length ∧ (0 : Nat) + l.length ≤ l.length ∧ l.length + (1 : Nat) ≤ (4294967296 : Nat))) = true by (simp; omega))
    let t5 : Tp pr := .b (show (decide (l.length + (1 : Nat) ≤ l.length)) = false by simp)
    let t7 : Tp pr := .n .crows (show ((List.take l.length (bcc l)).append (List.take (1 : Nat) (List.drop (0 : Nat) [[C.t (T.int IntKind.i64 (2 : Int)), C.t (T.int IntKind.i64 (nameNo s)), C.t (T.str (ByteArray.mk #[]))]]))) = bcc (l ++ [Bc.mk (2 : Int) (nameNo s) (ByteArray.mk #[])]) by simp)
    exact .tpe [.b (rfl : false = false), .b (rfl : true = true), .a (hk), .m (rfl : true = true), t4, t5, .c (rfl : (l.length + (1 : Nat)) = _), t7] (Out.val (V.vec (0 : Nat) (l.length + (1 : Nat)) (3 : Nat) (0 : Nat) (l.length + (1 : Nat))) [Ob.vec true (3 : Nat) (bcc (l ++ [Bc.mk (2 : Int) (nameNo s) (ByteArray.mk #[])]))]) (by kernel_rfl) (((congrArg (fun x => Out.val (V.vec (0 : Nat) x (3 : Nat) (0 : Nat) (l.length + (1 : Nat))) [Ob.vec true (3 : Nat) (bcc (l ++ [Bc.mk (2 : Int) (nameNo s) (ByteArray.mk #[])]))]) (show (l.length + (1 : Nat)) = ((codeE (E.name s) l).length) by simp [codeE])).trans (congrArg (fun x => Out.val (V.vec (0 : Nat) (codeE (E.name s) l).length (3 : Nat) (0 : Nat) x) [Ob.vec true (3 : Nat) (bcc (l ++ [Bc.mk (2 : Int) (nameNo s) (ByteArray.mk #[])]))]) (show (l.length + (1 : Nat)) = ((codeE (E.name s) l).length) by simp [codeE]))).trans (congrArg (fun x => Out.val (V.vec (0 : Nat) (codeE (E.name s) l).length (3 : Nat) (0 : Nat) (codeE (E.name s) l).length) [Ob.vec true (3 : Nat) x]) (show (bcc (l ++ [Bc.mk (2 : Int) (nameNo s) (ByteArray.mk #[])])) = (bcc (codeE (E.name s) l)) by simp [codeE])))
  | .neg a, l, h, hn => by
    have g0 : lkp (E.neg a).kids 0 = some a.ts := rfl
    have ih := l17Make_ev a l (by simp [E.size] at h; omega) (by simp [E.names] at hn; simp [hn])
    have hl := codeE_len a l
    simp only [E.size] at h
    let t2 : Tp pr := .g .row (show (lkp a.neg.kids (0 : Int)) = some (a.ts) from g0)
    let t6 : Tp pr := .m (show (decide ((bcc (codeE a l)).length = (codeE a l).length ∧ (0 : Nat) + (codeE a l).length ≤ (codeE a l).length ∧ (codeE a l).length + (1 : Nat) ≤ (4294967296 : Nat))) = true by (simp; omega))
    let t7 : Tp pr := .b (show (decide ((codeE a l).length + (1 : Nat) ≤ (codeE a l).length)) = false by simp)
    let t8 : Tp pr := .c (rfl : ((codeE a l).length + (1 : Nat)) = _)
    let t9 : Tp pr := .n .crows (show ((List.take (codeE a l).length (bcc (codeE a l))).append (List.take (1 : Nat) (List.drop (0 : Nat) [[C.t (T.int IntKind.i64 (5 : Int)), C.t (T.int IntKind.i64 (0 : Int)), C.t (T.str (ByteArray.mk #[(45 : UInt8)]))]]))) = bcc (codeE a l ++ [Bc.mk (5 : Int) (0 : Int) (ByteArray.mk #[(45 : UInt8)])]) by simp)
    exact .tpe [.b (rfl : false = false), .b (rfl : false = false), t2, .a (ih), .b (rfl : true = true), .m (rfl : true = true), t6, t7, t8, t9] (Out.val (V.vec (0 : Nat) ((codeE a l).length + (1 : Nat)) (3 : Nat) (0 : Nat) ((codeE a l).length + (1 : Nat))) [Ob.vec true (3 : Nat) (bcc (codeE a l ++ [Bc.mk (5 : Int) (0 : Int) (ByteArray.mk #[(45 : UInt8)])]))]) (by kernel_rfl) (((congrArg (fun x => Out.val (V.vec (0 : Nat) x (3 : Nat) (0 : Nat) ((codeE a l).length + (1 : Nat))) [Ob.vec true (3 : Nat) (bcc (codeE a l ++ [Bc.mk (5 : Int) (0 : Int) (ByteArray.mk #[(45 : UInt8)])]))]) (show ((codeE a l).length + (1 : Nat)) = ((codeE a.neg l).length) by simp [codeE])).trans (congrArg (fun x => Out.val (V.vec (0 : Nat) (codeE a.neg l).length (3 : Nat) (0 : Nat) x) [Ob.vec true (3 : Nat) (bcc (codeE a l ++ [Bc.mk (5 : Int) (0 : Int) (ByteArray.mk #[(45 : UInt8)])]))]) (show ((codeE a l).length + (1 : Nat)) = ((codeE a.neg l).length) by simp [codeE]))).trans (congrArg (fun x => Out.val (V.vec (0 : Nat) (codeE a.neg l).length (3 : Nat) (0 : Nat) (codeE a.neg l).length) [Ob.vec true (3 : Nat) x]) (show (bcc (codeE a l ++ [Bc.mk (5 : Int) (0 : Int) (ByteArray.mk #[(45 : UInt8)])])) = (bcc (codeE a.neg l)) by simp [codeE])))
  | .not a, l, h, hn => by
    have g0 : lkp (E.not a).kids 0 = some a.ts := rfl
    have ih := l17Make_ev a l (by simp [E.size] at h; omega) (by simp [E.names] at hn; simp [hn])
    have hl := codeE_len a l
    simp only [E.size] at h
    let t2 : Tp pr := .g .row (show (lkp a.not.kids (0 : Int)) = some (a.ts) from g0)
    let t8 : Tp pr := .m (show (decide ((bcc (codeE a l)).length = (codeE a l).length ∧ (0 : Nat) + (codeE a l).length ≤ (codeE a l).length ∧ (codeE a l).length + (1 : Nat) ≤ (4294967296 : Nat))) = true by (simp; omega))
    let t9 : Tp pr := .b (show (decide ((codeE a l).length + (1 : Nat) ≤ (codeE a l).length)) = false by simp)
    let t10 : Tp pr := .c (rfl : ((codeE a l).length + (1 : Nat)) = _)
    let t11 : Tp pr := .n .crows (show ((List.take (codeE a l).length (bcc (codeE a l))).append (List.take (1 : Nat) (List.drop (0 : Nat) [[C.t (T.int IntKind.i64 (5 : Int)), C.t (T.int IntKind.i64 (0 : Int)), C.t (T.str (ByteArray.mk #[(33 : UInt8)]))]]))) = bcc (codeE a l ++ [Bc.mk (5 : Int) (0 : Int) (ByteArray.mk #[(33 : UInt8)])]) by simp)
    exact .tpe [.b (rfl : false = false), .b (rfl : false = false), t2, .a (ih), .b (rfl : false = false), .b (rfl : true = true), .a (l17Not_ev), .m (rfl : true = true), t8, t9, t10, t11] (Out.val (V.vec (0 : Nat) ((codeE a l).length + (1 : Nat)) (3 : Nat) (0 : Nat) ((codeE a l).length + (1 : Nat))) [Ob.vec true (3 : Nat) (bcc (codeE a l ++ [Bc.mk (5 : Int) (0 : Int) (ByteArray.mk #[(33 : UInt8)])]))]) (by kernel_rfl) (((congrArg (fun x => Out.val (V.vec (0 : Nat) x (3 : Nat) (0 : Nat) ((codeE a l).length + (1 : Nat))) [Ob.vec true (3 : Nat) (bcc (codeE a l ++ [Bc.mk (5 : Int) (0 : Int) (ByteArray.mk #[(33 : UInt8)])]))]) (show ((codeE a l).length + (1 : Nat)) = ((codeE a.not l).length) by simp [codeE, bNot])).trans (congrArg (fun x => Out.val (V.vec (0 : Nat) (codeE a.not l).length (3 : Nat) (0 : Nat) x) [Ob.vec true (3 : Nat) (bcc (codeE a l ++ [Bc.mk (5 : Int) (0 : Int) (ByteArray.mk #[(33 : UInt8)])]))]) (show ((codeE a l).length + (1 : Nat)) = ((codeE a.not l).length) by simp [codeE, bNot]))).trans (congrArg (fun x => Out.val (V.vec (0 : Nat) (codeE a.not l).length (3 : Nat) (0 : Nat) (codeE a.not l).length) [Ob.vec true (3 : Nat) x]) (show (bcc (codeE a l ++ [Bc.mk (5 : Int) (0 : Int) (ByteArray.mk #[(33 : UInt8)])])) = (bcc (codeE a.not l)) by simp [codeE, bNot])))
  | .two s a b, l, h, hn => by
    have g0 : lkp (E.two s a b).kids 0 = some a.ts := rfl
    have g1 : lkp (E.two s a b).kids 1 = some b.ts := rfl
    have ih := l17Make_ev a l (by simp [E.size] at h; omega) (by simp [E.names] at hn; simp [hn])
    have hl := codeE_len a l
    simp only [E.size] at h
    by_cases h1 : s.toList = [38, 38]
    · have ih2 := l17Make_ev b (codeE a l ++ [⟨7, 0, e0⟩]) (by simp; omega) (by simp [E.names] at hn; simp [hn])
      have hl2 := codeE_len b (codeE a l ++ [⟨7, 0, e0⟩])
      have hg := codeE_get b (codeE a l ++ [⟨7, 0, e0⟩]) (codeE a l).length (by simp)
      have hg2 : (bcc (codeE b (codeE a l ++ [⟨7, 0, e0⟩]) ++ [bNot, bNot]))[(codeE a l).length]? = some (Bc.cc ⟨7, 0, e0⟩) := by
        simp at hl2
        rw [bcc_app, List.getElem?_append_left (by simp; omega)]
        simp [bcc, hg]
      have hg3 : ∀ r : List Bc, (bcc (codeE b ((codeE a l) ++ [⟨7, 0, e0⟩]) ++ r))[(codeE a l).length]? = some (Bc.cc ⟨7, 0, e0⟩) := fun r => by
        simp at hl2
        rw [bcc_app, List.getElem?_append_left (by simp; omega)]
        simp [bcc, hg]
      simp at hl2
      have hlt : (codeE a l).length < (codeE b ((codeE a l) ++ [⟨7, 0, ⟨#[]⟩⟩])).length := by omega
      let t2 : Tp pr := .g .row (show (lkp (E.two s a b).kids (0 : Int)) = some (a.ts) from g0)
      let t6 : Tp pr := .b (show ((E.two s a b).text.toList == [(38 : UInt8), (38 : UInt8)]) = true by (simp; omega))
      let t7 : Tp pr := .i (rfl : ((↑(codeE a l).length : Int)) = _)
      let t9 : Tp pr := .m (show (decide ((bcc (codeE a l)).length = (codeE a l).length ∧ (0 : Nat) + (codeE a l).length ≤ (codeE a l).length ∧ (codeE a l).length + (1 : Nat) ≤ (4294967296 : Nat))) = true by (simp; omega))
      let t10 : Tp pr := .b (show (decide ((codeE a l).length + (1 : Nat) ≤ (codeE a l).length)) = false by simp)
      let t11 : Tp pr := .c (rfl : ((codeE a l).length + (1 : Nat)) = _)
      let t12 : Tp pr := .n .crows (show ((List.take (codeE a l).length (bcc (codeE a l))).append (List.take (1 : Nat) (List.drop (0 : Nat) [[C.t (T.int IntKind.i64 (7 : Int)), C.t (T.int IntKind.i64 (0 : Int)), C.t (T.str (ByteArray.mk #[]))]]))) = bcc (codeE a l ++ [Bc.mk (7 : Int) (0 : Int) (ByteArray.mk #[])]) by simp)
      let t13 : Tp pr := .g .row (show (lkp (E.two s a b).kids (1 : Int)) = some (b.ts) from g1)
      let t14 : Tp pr := .a (Ev.castq (congrArg (fun x => Q.call (48 : FuncId) [vs b.ts, V.vec (0 : Nat) x (3 : Nat) (0 : Nat) x] [Ob.vec true (3 : Nat) (bcc (codeE a l ++ [Bc.mk (7 : Int) (0 : Int) e0]))]) (show ((codeE a l ++ [Bc.mk (7 : Int) (0 : Int) e0]).length) = ((codeE a l).length + (1 : Nat)) by simp [codeE, bNot, h1, List.set_append, hlt])) (ih2))
      let t18 : Tp pr := .m (show (decide ((bcc (codeE b (codeE a l ++ [Bc.mk (7 : Int) (0 : Int) e0]))).length = (codeE b (codeE a l ++ [Bc.mk (7 : Int) (0 : Int) e0])).length ∧ (0 : Nat) + (codeE b (codeE a l ++ [Bc.mk (7 : Int) (0 : Int) e0])).length ≤ (codeE b (codeE a l ++ [Bc.mk (7 : Int) (0 : Int) e0])).length ∧ (codeE b (codeE a l ++ [Bc.mk (7 : Int) (0 : Int) e0])).length + (2 : Nat) ≤ (4294967296 : Nat))) = true by (simp; omega))
      let t19 : Tp pr := .b (show (decide ((codeE b (codeE a l ++ [Bc.mk (7 : Int) (0 : Int) e0])).length + (2 : Nat) ≤ (codeE b (codeE a l ++ [Bc.mk (7 : Int) (0 : Int) e0])).length)) = false by simp)
      let t20 : Tp pr := .c (show ((codeE b (codeE a l ++ [Bc.mk (7 : Int) (0 : Int) e0])).length + (2 : Nat) : Nat) = (codeE b (codeE a l ++ [Bc.mk (7 : Int) (0 : Int) (ByteArray.mk #[])])).length + (2 : Nat) by rfl)
      let t21 : Tp pr := .n .crows (show ((List.take (codeE b (codeE a l ++ [Bc.mk (7 : Int) (0 : Int) e0])).length (bcc (codeE b (codeE a l ++ [Bc.mk (7 : Int) (0 : Int) e0])))).append (List.take (2 : Nat) (List.drop (0 : Nat) [[C.t (T.int IntKind.i64 (5 : Int)), C.t (T.int IntKind.i64 (0 : Int)), C.t (T.str (ByteArray.mk #[(33 : UInt8)]))], [C.t (T.int IntKind.i64 (5 : Int)), C.t (T.int IntKind.i64 (0 : Int)), C.t (T.str (ByteArray.mk #[(33 : UInt8)]))]]))) = bcc (codeE b (codeE a l ++ [Bc.mk (7 : Int) (0 : Int) (ByteArray.mk #[])]) ++ [Bc.mk (5 : Int) (0 : Int) (ByteArray.mk #[(33 : UInt8)]), Bc.mk (5 : Int) (0 : Int) (ByteArray.mk #[(33 : UInt8)])]) by simp)
      let t22 : Tp pr := .i (show ((↑((codeE b (codeE a l ++ [Bc.mk (7 : Int) (0 : Int) (ByteArray.mk #[])])).length + (2 : Nat)) : Int) : Int) = (↑(codeE b (codeE a l ++ [Bc.mk (7 : Int) (0 : Int) (ByteArray.mk #[])])).length : Int) + (2 : Int) by omega)
      let t23 : Tp pr := .i (wrap_i64 (a := (↑(codeE b (codeE a l ++ [Bc.mk (7 : Int) (0 : Int) (ByteArray.mk #[])])).length : Int) + (2 : Int) + (2 : Int)) (by omega) (by omega))
      let t25 : Tp pr := .m (show (decide ((bcc (codeE b (codeE a l ++ [Bc.mk (7 : Int) (0 : Int) (ByteArray.mk #[])]) ++ [Bc.mk (5 : Int) (0 : Int) (ByteArray.mk #[(33 : UInt8)]), Bc.mk (5 : Int) (0 : Int) (ByteArray.mk #[(33 : UInt8)])])).length = (codeE b (codeE a l ++ [Bc.mk (7 : Int) (0 : Int) (ByteArray.mk #[])])).length + (2 : Nat) ∧ (0 : Nat) + ((codeE b (codeE a l ++ [Bc.mk (7 : Int) (0 : Int) (ByteArray.mk #[])])).length + (2 : Nat)) ≤ (codeE b (codeE a l ++ [Bc.mk (7 : Int) (0 : Int) (ByteArray.mk #[])])).length + (2 : Nat) ∧ (codeE b (codeE a l ++ [Bc.mk (7 : Int) (0 : Int) (ByteArray.mk #[])])).length + (2 : Nat) + (2 : Nat) ≤ (4294967296 : Nat))) = true by (simp; omega))
      let t26 : Tp pr := .b (show (decide ((codeE b (codeE a l ++ [Bc.mk (7 : Int) (0 : Int) (ByteArray.mk #[])])).length + (2 : Nat) + (2 : Nat) ≤ (codeE b (codeE a l ++ [Bc.mk (7 : Int) (0 : Int) (ByteArray.mk #[])])).length + (2 : Nat))) = false by simp)
      let t27 : Tp pr := .c (rfl : ((codeE b (codeE a l ++ [Bc.mk (7 : Int) (0 : Int) (ByteArray.mk #[])])).length + (2 : Nat) + (2 : Nat)) = _)
      let t28 : Tp pr := .n .crows (show ((List.take ((codeE b (codeE a l ++ [Bc.mk (7 : Int) (0 : Int) (ByteArray.mk #[])])).length + (2 : Nat)) (bcc (codeE b (codeE a l ++ [Bc.mk (7 : Int) (0 : Int) (ByteArray.mk #[])]) ++ [Bc.mk (5 : Int) (0 : Int) (ByteArray.mk #[(33 : UInt8)]), Bc.mk (5 : Int) (0 : Int) (ByteArray.mk #[(33 : UInt8)])]))).append (List.take (2 : Nat) (List.drop (0 : Nat) [[C.t (T.int IntKind.i64 (6 : Int)), C.t (T.int IntKind.i64 ((↑(codeE b (codeE a l ++ [Bc.mk (7 : Int) (0 : Int) (ByteArray.mk #[])])).length : Int) + (2 : Int) + (2 : Int))), C.t (T.str (ByteArray.mk #[]))], [C.t (T.int IntKind.i64 (1 : Int)), C.t (T.int IntKind.i64 (0 : Int)), C.t (T.str (ByteArray.mk #[]))]]))) = bcc (codeE b (codeE a l ++ [Bc.mk (7 : Int) (0 : Int) (ByteArray.mk #[])]) ++ [Bc.mk (5 : Int) (0 : Int) (ByteArray.mk #[(33 : UInt8)]), Bc.mk (5 : Int) (0 : Int) (ByteArray.mk #[(33 : UInt8)]), Bc.mk (6 : Int) ((↑(codeE b (codeE a l ++ [Bc.mk (7 : Int) (0 : Int) (ByteArray.mk #[])])).length : Int) + (2 : Int) + (2 : Int)) (ByteArray.mk #[]), Bc.mk (1 : Int) (0 : Int) (ByteArray.mk #[])]) by simp)
      let t29 : Tp pr := .i (wrap_i64 (a := (↑(codeE b (codeE a l ++ [Bc.mk (7 : Int) (0 : Int) (ByteArray.mk #[])])).length : Int) + (2 : Int) + (1 : Int)) (by omega) (by omega))
      let t30 : Tp pr := .m (show (decide ((0 : Int) ≤ (↑(codeE a l).length : Int) ∧ (↑(codeE a l).length : Int).toNat < (codeE b (codeE a l ++ [Bc.mk (7 : Int) (0 : Int) (ByteArray.mk #[])])).length + (2 : Nat) + (2 : Nat))) = true by (simp; omega))
      let t31 : Tp pr := .c (show ((0 : Nat) + (↑(codeE a l).length : Int).toNat : Nat) = (codeE a l).length by omega)
      let t32 : Tp pr := .m (show (decide ((bcc (codeE b (codeE a l ++ [Bc.mk (7 : Int) (0 : Int) (ByteArray.mk #[])]) ++ [Bc.mk (5 : Int) (0 : Int) (ByteArray.mk #[(33 : UInt8)]), Bc.mk (5 : Int) (0 : Int) (ByteArray.mk #[(33 : UInt8)]), Bc.mk (6 : Int) ((↑(codeE b (codeE a l ++ [Bc.mk (7 : Int) (0 : Int) (ByteArray.mk #[])])).length : Int) + (2 : Int) + (2 : Int)) (ByteArray.mk #[]), Bc.mk (1 : Int) (0 : Int) (ByteArray.mk #[])])).length = (codeE b (codeE a l ++ [Bc.mk (7 : Int) (0 : Int) (ByteArray.mk #[])])).length + (2 : Nat) + (2 : Nat))) = true by simp)
      let t33 : Tp pr := .g .crow (show ((bcc (codeE b (codeE a l ++ [Bc.mk (7 : Int) (0 : Int) (ByteArray.mk #[])]) ++ [Bc.mk (5 : Int) (0 : Int) (ByteArray.mk #[(33 : UInt8)]), Bc.mk (5 : Int) (0 : Int) (ByteArray.mk #[(33 : UInt8)]), Bc.mk (6 : Int) ((↑(codeE b (codeE a l ++ [Bc.mk (7 : Int) (0 : Int) (ByteArray.mk #[])])).length : Int) + (2 : Int) + (2 : Int)) (ByteArray.mk #[]), Bc.mk (1 : Int) (0 : Int) (ByteArray.mk #[])]))[(codeE a l).length]?) = some ((Bc.mk (7 : Int) (0 : Int) (ByteArray.mk #[])).cc) by simp [*])
      let t34 : Tp pr := .n .crows (show ((bcc (codeE b (codeE a l ++ [Bc.mk (7 : Int) (0 : Int) (ByteArray.mk #[])]) ++ [Bc.mk (5 : Int) (0 : Int) (ByteArray.mk #[(33 : UInt8)]), Bc.mk (5 : Int) (0 : Int) (ByteArray.mk #[(33 : UInt8)]), Bc.mk (6 : Int) ((↑(codeE b (codeE a l ++ [Bc.mk (7 : Int) (0 : Int) (ByteArray.mk #[])])).length : Int) + (2 : Int) + (2 : Int)) (ByteArray.mk #[]), Bc.mk (1 : Int) (0 : Int) (ByteArray.mk #[])])).set (codeE a l).length [C.t (T.int IntKind.i64 (7 : Int)), C.t (T.int IntKind.i64 ((↑(codeE b (codeE a l ++ [Bc.mk (7 : Int) (0 : Int) (ByteArray.mk #[])])).length : Int) + (2 : Int) + (1 : Int))), C.t (T.str (ByteArray.mk #[]))]) = bcc ((codeE b (codeE a l ++ [Bc.mk (7 : Int) (0 : Int) (ByteArray.mk #[])]) ++ [Bc.mk (5 : Int) (0 : Int) (ByteArray.mk #[(33 : UInt8)]), Bc.mk (5 : Int) (0 : Int) (ByteArray.mk #[(33 : UInt8)]), Bc.mk (6 : Int) ((↑(codeE b (codeE a l ++ [Bc.mk (7 : Int) (0 : Int) (ByteArray.mk #[])])).length : Int) + (2 : Int) + (2 : Int)) (ByteArray.mk #[]), Bc.mk (1 : Int) (0 : Int) (ByteArray.mk #[])]).set (codeE a l).length (Bc.mk (7 : Int) ((↑(codeE b (codeE a l ++ [Bc.mk (7 : Int) (0 : Int) (ByteArray.mk #[])])).length : Int) + (2 : Int) + (1 : Int)) (ByteArray.mk #[]))) by simp)
      exact .tpe [.b (rfl : false = false), .b (rfl : false = false), t2, .a (ih), .b (rfl : false = false), .b (rfl : false = false), t6, t7, .m (rfl : true = true), t9, t10, t11, t12, t13, t14, .a (l17Not_ev), .a (l17Not_ev), .m (rfl : true = true), t18, t19, t20, t21, t22, t23, .m (rfl : true = true), t25, t26, t27, t28, t29, t30, t31, t32, t33, t34] (Out.val (V.vec (0 : Nat) ((codeE b (codeE a l ++ [Bc.mk (7 : Int) (0 : Int) (ByteArray.mk #[])])).length + (2 : Nat) + (2 : Nat)) (3 : Nat) (0 : Nat) ((codeE b (codeE a l ++ [Bc.mk (7 : Int) (0 : Int) (ByteArray.mk #[])])).length + (2 : Nat) + (2 : Nat))) [Ob.vec true (3 : Nat) (bcc ((codeE b (codeE a l ++ [Bc.mk (7 : Int) (0 : Int) (ByteArray.mk #[])]) ++ [Bc.mk (5 : Int) (0 : Int) (ByteArray.mk #[(33 : UInt8)]), Bc.mk (5 : Int) (0 : Int) (ByteArray.mk #[(33 : UInt8)]), Bc.mk (6 : Int) ((↑(codeE b (codeE a l ++ [Bc.mk (7 : Int) (0 : Int) (ByteArray.mk #[])])).length : Int) + (2 : Int) + (2 : Int)) (ByteArray.mk #[]), Bc.mk (1 : Int) (0 : Int) (ByteArray.mk #[])]).set (codeE a l).length (Bc.mk (7 : Int) ((↑(codeE b (codeE a l ++ [Bc.mk (7 : Int) (0 : Int) (ByteArray.mk #[])])).length : Int) + (2 : Int) + (1 : Int)) (ByteArray.mk #[]))))]) (by kernel_rfl) (((congrArg (fun x => Out.val (V.vec (0 : Nat) x (3 : Nat) (0 : Nat) ((codeE b (codeE a l ++ [Bc.mk (7 : Int) (0 : Int) (ByteArray.mk #[])])).length + (2 : Nat) + (2 : Nat))) [Ob.vec true (3 : Nat) (bcc ((codeE b (codeE a l ++ [Bc.mk (7 : Int) (0 : Int) (ByteArray.mk #[])]) ++ [Bc.mk (5 : Int) (0 : Int) (ByteArray.mk #[(33 : UInt8)]), Bc.mk (5 : Int) (0 : Int) (ByteArray.mk #[(33 : UInt8)]), Bc.mk (6 : Int) ((↑(codeE b (codeE a l ++ [Bc.mk (7 : Int) (0 : Int) (ByteArray.mk #[])])).length : Int) + (2 : Int) + (2 : Int)) (ByteArray.mk #[]), Bc.mk (1 : Int) (0 : Int) (ByteArray.mk #[])]).set (codeE a l).length (Bc.mk (7 : Int) ((↑(codeE b (codeE a l ++ [Bc.mk (7 : Int) (0 : Int) (ByteArray.mk #[])])).length : Int) + (2 : Int) + (1 : Int)) (ByteArray.mk #[]))))]) (show ((codeE b (codeE a l ++ [Bc.mk (7 : Int) (0 : Int) (ByteArray.mk #[])])).length + (2 : Nat) + (2 : Nat)) = ((codeE (E.two s a b) l).length) by simp [codeE, bNot, h1, List.set_append, hlt])).trans (congrArg (fun x => Out.val (V.vec (0 : Nat) (codeE (E.two s a b) l).length (3 : Nat) (0 : Nat) x) [Ob.vec true (3 : Nat) (bcc ((codeE b (codeE a l ++ [Bc.mk (7 : Int) (0 : Int) (ByteArray.mk #[])]) ++ [Bc.mk (5 : Int) (0 : Int) (ByteArray.mk #[(33 : UInt8)]), Bc.mk (5 : Int) (0 : Int) (ByteArray.mk #[(33 : UInt8)]), Bc.mk (6 : Int) ((↑(codeE b (codeE a l ++ [Bc.mk (7 : Int) (0 : Int) (ByteArray.mk #[])])).length : Int) + (2 : Int) + (2 : Int)) (ByteArray.mk #[]), Bc.mk (1 : Int) (0 : Int) (ByteArray.mk #[])]).set (codeE a l).length (Bc.mk (7 : Int) ((↑(codeE b (codeE a l ++ [Bc.mk (7 : Int) (0 : Int) (ByteArray.mk #[])])).length : Int) + (2 : Int) + (1 : Int)) (ByteArray.mk #[]))))]) (show ((codeE b (codeE a l ++ [Bc.mk (7 : Int) (0 : Int) (ByteArray.mk #[])])).length + (2 : Nat) + (2 : Nat)) = ((codeE (E.two s a b) l).length) by simp [codeE, bNot, h1, List.set_append, hlt]))).trans (congrArg (fun x => Out.val (V.vec (0 : Nat) (codeE (E.two s a b) l).length (3 : Nat) (0 : Nat) (codeE (E.two s a b) l).length) [Ob.vec true (3 : Nat) x]) (show (bcc ((codeE b (codeE a l ++ [Bc.mk (7 : Int) (0 : Int) (ByteArray.mk #[])]) ++ [Bc.mk (5 : Int) (0 : Int) (ByteArray.mk #[(33 : UInt8)]), Bc.mk (5 : Int) (0 : Int) (ByteArray.mk #[(33 : UInt8)]), Bc.mk (6 : Int) ((↑(codeE b (codeE a l ++ [Bc.mk (7 : Int) (0 : Int) (ByteArray.mk #[])])).length : Int) + (2 : Int) + (2 : Int)) (ByteArray.mk #[]), Bc.mk (1 : Int) (0 : Int) (ByteArray.mk #[])]).set (codeE a l).length (Bc.mk (7 : Int) ((↑(codeE b (codeE a l ++ [Bc.mk (7 : Int) (0 : Int) (ByteArray.mk #[])])).length : Int) + (2 : Int) + (1 : Int)) (ByteArray.mk #[])))) = (bcc (codeE (E.two s a b) l)) by simp [codeE, bNot, h1, List.set_append, hlt])))
    · by_cases h2 : s.toList = [124, 124]
      · have ih2 := l17Make_ev b (codeE a l ++ [⟨7, (codeE a l).length + 3, e0⟩, ⟨1, 1, e0⟩, ⟨6, 0, e0⟩]) (by simp; omega) (by simp [E.names] at hn; simp [hn])
        have hl2 := codeE_len b (codeE a l ++ [⟨7, (codeE a l).length + 3, e0⟩, ⟨1, 1, e0⟩, ⟨6, 0, e0⟩])
        have hg := codeE_get b (codeE a l ++ [⟨7, (codeE a l).length + 3, e0⟩, ⟨1, 1, e0⟩, ⟨6, 0, e0⟩]) ((codeE a l).length + 2) (by simp)
        have hg2 : (bcc (codeE b (codeE a l ++ [⟨7, (codeE a l).length + 3, e0⟩, ⟨1, 1, e0⟩, ⟨6, 0, e0⟩]) ++ [bNot, bNot]))[(codeE a l).length + 2]? = some (Bc.cc ⟨6, 0, e0⟩) := by
          simp at hl2
          rw [bcc_app, List.getElem?_append_left (by simp; omega)]
          simp [bcc, hg]
        simp at hl2
        let t2 : Tp pr := .g .row (show (lkp (E.two s a b).kids (0 : Int)) = some (a.ts) from g0)
        let t6 : Tp pr := .b (show ((E.two s a b).text.toList == [(38 : UInt8), (38 : UInt8)]) = false by (simp; omega))
        let t7 : Tp pr := .b (show ((E.two s a b).text.toList == [(124 : UInt8), (124 : UInt8)]) = true by (simp; omega))
        let t8 : Tp pr := .i (rfl : ((↑(codeE a l).length : Int)) = _)
        let t9 : Tp pr := .i (wrap_i64 (a := (↑(codeE a l).length : Int) + (3 : Int)) (by omega) (by omega))
        let t11 : Tp pr := .m (show (decide ((bcc (codeE a l)).length = (codeE a l).length ∧ (0 : Nat) + (codeE a l).length ≤ (codeE a l).length ∧ (codeE a l).length + (3 : Nat) ≤ (4294967296 : Nat))) = true by (simp; omega))
        let t12 : Tp pr := .b (show (decide ((codeE a l).length + (3 : Nat) ≤ (codeE a l).length)) = false by simp)
        let t13 : Tp pr := .c (rfl : ((codeE a l).length + (3 : Nat)) = _)
        let t14 : Tp pr := .n .crows (show ((List.take (codeE a l).length (bcc (codeE a l))).append (List.take (3 : Nat) (List.drop (0 : Nat) [[C.t (T.int IntKind.i64 (7 : Int)), C.t (T.int IntKind.i64 ((↑(codeE a l).length : Int) + (3 : Int))), C.t (T.str (ByteArray.mk #[]))], [C.t (T.int IntKind.i64 (1 : Int)), C.t (T.int IntKind.i64 (1 : Int)), C.t (T.str (ByteArray.mk #[]))], [C.t (T.int IntKind.i64 (6 : Int)), C.t (T.int IntKind.i64 (0 : Int)), C.t (T.str (ByteArray.mk #[]))]]))) = bcc (codeE a l ++ [Bc.mk (7 : Int) ((↑(codeE a l).length : Int) + (3 : Int)) (ByteArray.mk #[]), Bc.mk (1 : Int) (1 : Int) (ByteArray.mk #[]), Bc.mk (6 : Int) (0 : Int) (ByteArray.mk #[])]) by simp)
        let t15 : Tp pr := .g .row (show (lkp (E.two s a b).kids (1 : Int)) = some (b.ts) from g1)
        let t16 : Tp pr := .a (Ev.castq (congrArg (fun x => Q.call (48 : FuncId) [vs b.ts, V.vec (0 : Nat) x (3 : Nat) (0 : Nat) x] [Ob.vec true (3 : Nat) (bcc (codeE a l ++ [Bc.mk (7 : Int) ((↑(codeE a l).length : Int) + (3 : Int)) e0, Bc.mk (1 : Int) (1 : Int) e0, Bc.mk (6 : Int) (0 : Int) e0]))]) (show ((codeE a l ++ [Bc.mk (7 : Int) ((↑(codeE a l).length : Int) + (3 : Int)) e0, Bc.mk (1 : Int) (1 : Int) e0, Bc.mk (6 : Int) (0 : Int) e0]).length) = ((codeE a l).length + (3 : Nat)) by simp [codeE, bNot, h1, h2])) (ih2))
        let t20 : Tp pr := .m (show (decide ((bcc (codeE b (codeE a l ++ [Bc.mk (7 : Int) ((↑(codeE a l).length : Int) + (3 : Int)) e0, Bc.mk (1 : Int) (1 : Int) e0, Bc.mk (6 : Int) (0 : Int) e0]))).length = (codeE b (codeE a l ++ [Bc.mk (7 : Int) ((↑(codeE a l).length : Int) + (3 : Int)) e0, Bc.mk (1 : Int) (1 : Int) e0, Bc.mk (6 : Int) (0 : Int) e0])).length ∧ (0 : Nat) + (codeE b (codeE a l ++ [Bc.mk (7 : Int) ((↑(codeE a l).length : Int) + (3 : Int)) e0, Bc.mk (1 : Int) (1 : Int) e0, Bc.mk (6 : Int) (0 : Int) e0])).length ≤ (codeE b (codeE a l ++ [Bc.mk (7 : Int) ((↑(codeE a l).length : Int) + (3 : Int)) e0, Bc.mk (1 : Int) (1 : Int) e0, Bc.mk (6 : Int) (0 : Int) e0])).length ∧ (codeE b (codeE a l ++ [Bc.mk (7 : Int) ((↑(codeE a l).length : Int) + (3 : Int)) e0, Bc.mk (1 : Int) (1 : Int) e0, Bc.mk (6 : Int) (0 : Int) e0])).length + (2 : Nat) ≤ (4294967296 : Nat))) = true by (simp; omega))
        let t21 : Tp pr := .b (show (decide ((codeE b (codeE a l ++ [Bc.mk (7 : Int) ((↑(codeE a l).length : Int) + (3 : Int)) e0, Bc.mk (1 : Int) (1 : Int) e0, Bc.mk (6 : Int) (0 : Int) e0])).length + (2 : Nat) ≤ (codeE b (codeE a l ++ [Bc.mk (7 : Int) ((↑(codeE a l).length : Int) + (3 : Int)) e0, Bc.mk (1 : Int) (1 : Int) e0, Bc.mk (6 : Int) (0 : Int) e0])).length)) = false by simp)
        let t22 : Tp pr := .c (show ((codeE b (codeE a l ++ [Bc.mk (7 : Int) ((↑(codeE a l).length : Int) + (3 : Int)) e0, Bc.mk (1 : Int) (1 : Int) e0, Bc.mk (6 : Int) (0 : Int) e0])).length + (2 : Nat) : Nat) = (codeE b (codeE a l ++ [Bc.mk (7 : Int) ((↑(codeE a l).length : Int) + (3 : Int)) (ByteArray.mk #[]), Bc.mk (1 : Int) (1 : Int) (ByteArray.mk #[]), Bc.mk (6 : Int) (0 : Int) (ByteArray.mk #[])])).length + (2 : Nat) by rfl)
        let t23 : Tp pr := .n .crows (show ((List.take (codeE b (codeE a l ++ [Bc.mk (7 : Int) ((↑(codeE a l).length : Int) + (3 : Int)) e0, Bc.mk (1 : Int) (1 : Int) e0, Bc.mk (6 : Int) (0 : Int) e0])).length (bcc (codeE b (codeE a l ++ [Bc.mk (7 : Int) ((↑(codeE a l).length : Int) + (3 : Int)) e0, Bc.mk (1 : Int) (1 : Int) e0, Bc.mk (6 : Int) (0 : Int) e0])))).append (List.take (2 : Nat) (List.drop (0 : Nat) [[C.t (T.int IntKind.i64 (5 : Int)), C.t (T.int IntKind.i64 (0 : Int)), C.t (T.str (ByteArray.mk #[(33 : UInt8)]))], [C.t (T.int IntKind.i64 (5 : Int)), C.t (T.int IntKind.i64 (0 : Int)), C.t (T.str (ByteArray.mk #[(33 : UInt8)]))]]))) = bcc (codeE b (codeE a l ++ [Bc.mk (7 : Int) ((↑(codeE a l).length : Int) + (3 : Int)) (ByteArray.mk #[]), Bc.mk (1 : Int) (1 : Int) (ByteArray.mk #[]), Bc.mk (6 : Int) (0 : Int) (ByteArray.mk #[])]) ++ [Bc.mk (5 : Int) (0 : Int) (ByteArray.mk #[(33 : UInt8)]), Bc.mk (5 : Int) (0 : Int) (ByteArray.mk #[(33 : UInt8)])]) by simp)
        let t24 : Tp pr := .i (wrap_i64 (a := (↑(codeE a l).length : Int) + (2 : Int)) (by omega) (by omega))
        let t25 : Tp pr := .i (show ((↑((codeE b (codeE a l ++ [Bc.mk (7 : Int) ((↑(codeE a l).length : Int) + (3 : Int)) (ByteArray.mk #[]), Bc.mk (1 : Int) (1 : Int) (ByteArray.mk #[]), Bc.mk (6 : Int) (0 : Int) (ByteArray.mk #[])])).length + (2 : Nat)) : Int) : Int) = (↑(codeE b (codeE a l ++ [Bc.mk (7 : Int) ((↑(codeE a l).length : Int) + (3 : Int)) (ByteArray.mk #[]), Bc.mk (1 : Int) (1 : Int) (ByteArray.mk #[]), Bc.mk (6 : Int) (0 : Int) (ByteArray.mk #[])])).length : Int) + (2 : Int) by omega)
        let t26 : Tp pr := .m (show (decide ((0 : Int) ≤ (↑(codeE a l).length : Int) + (2 : Int) ∧ ((↑(codeE a l).length : Int) + (2 : Int)).toNat < (codeE b (codeE a l ++ [Bc.mk (7 : Int) ((↑(codeE a l).length : Int) + (3 : Int)) (ByteArray.mk #[]), Bc.mk (1 : Int) (1 : Int) (ByteArray.mk #[]), Bc.mk (6 : Int) (0 : Int) (ByteArray.mk #[])])).length + (2 : Nat))) = true by (simp; omega))
        let t27 : Tp pr := .c (show ((0 : Nat) + ((↑(codeE a l).length : Int) + (2 : Int)).toNat : Nat) = (codeE a l).length + (2 : Nat) by omega)
        let t28 : Tp pr := .m (show (decide ((bcc (codeE b (codeE a l ++ [Bc.mk (7 : Int) ((↑(codeE a l).length : Int) + (3 : Int)) (ByteArray.mk #[]), Bc.mk (1 : Int) (1 : Int) (ByteArray.mk #[]), Bc.mk (6 : Int) (0 : Int) (ByteArray.mk #[])]) ++ [Bc.mk (5 : Int) (0 : Int) (ByteArray.mk #[(33 : UInt8)]), Bc.mk (5 : Int) (0 : Int) (ByteArray.mk #[(33 : UInt8)])])).length = (codeE b (codeE a l ++ [Bc.mk (7 : Int) ((↑(codeE a l).length : Int) + (3 : Int)) (ByteArray.mk #[]), Bc.mk (1 : Int) (1 : Int) (ByteArray.mk #[]), Bc.mk (6 : Int) (0 : Int) (ByteArray.mk #[])])).length + (2 : Nat))) = true by simp)
        let t29 : Tp pr := .g .crow (show ((bcc (codeE b (codeE a l ++ [Bc.mk (7 : Int) ((↑(codeE a l).length : Int) + (3 : Int)) (ByteArray.mk #[]), Bc.mk (1 : Int) (1 : Int) (ByteArray.mk #[]), Bc.mk (6 : Int) (0 : Int) (ByteArray.mk #[])]) ++ [Bc.mk (5 : Int) (0 : Int) (ByteArray.mk #[(33 : UInt8)]), Bc.mk (5 : Int) (0 : Int) (ByteArray.mk #[(33 : UInt8)])]))[(codeE a l).length + (2 : Nat)]?) = some ((Bc.mk (6 : Int) (0 : Int) e0).cc) from hg2)
        let t30 : Tp pr := .n .crows (show ((bcc (codeE b (codeE a l ++ [Bc.mk (7 : Int) ((↑(codeE a l).length : Int) + (3 : Int)) (ByteArray.mk #[]), Bc.mk (1 : Int) (1 : Int) (ByteArray.mk #[]), Bc.mk (6 : Int) (0 : Int) (ByteArray.mk #[])]) ++ [Bc.mk (5 : Int) (0 : Int) (ByteArray.mk #[(33 : UInt8)]), Bc.mk (5 : Int) (0 : Int) (ByteArray.mk #[(33 : UInt8)])])).set ((codeE a l).length + (2 : Nat)) [C.t (T.int IntKind.i64 (6 : Int)), C.t (T.int IntKind.i64 ((↑(codeE b (codeE a l ++ [Bc.mk (7 : Int) ((↑(codeE a l).length : Int) + (3 : Int)) (ByteArray.mk #[]), Bc.mk (1 : Int) (1 : Int) (ByteArray.mk #[]), Bc.mk (6 : Int) (0 : Int) (ByteArray.mk #[])])).length : Int) + (2 : Int))), C.t (T.str (ByteArray.mk #[]))]) = bcc ((codeE b (codeE a l ++ [Bc.mk (7 : Int) ((↑(codeE a l).length : Int) + (3 : Int)) (ByteArray.mk #[]), Bc.mk (1 : Int) (1 : Int) (ByteArray.mk #[]), Bc.mk (6 : Int) (0 : Int) (ByteArray.mk #[])]) ++ [Bc.mk (5 : Int) (0 : Int) (ByteArray.mk #[(33 : UInt8)]), Bc.mk (5 : Int) (0 : Int) (ByteArray.mk #[(33 : UInt8)])]).set ((codeE a l).length + (2 : Nat)) (Bc.mk (6 : Int) ((↑(codeE b (codeE a l ++ [Bc.mk (7 : Int) ((↑(codeE a l).length : Int) + (3 : Int)) (ByteArray.mk #[]), Bc.mk (1 : Int) (1 : Int) (ByteArray.mk #[]), Bc.mk (6 : Int) (0 : Int) (ByteArray.mk #[])])).length : Int) + (2 : Int)) (ByteArray.mk #[]))) by simp)
        exact .tpe [.b (rfl : false = false), .b (rfl : false = false), t2, .a (ih), .b (rfl : false = false), .b (rfl : false = false), t6, t7, t8, t9, .m (rfl : true = true), t11, t12, t13, t14, t15, t16, .a (l17Not_ev), .a (l17Not_ev), .m (rfl : true = true), t20, t21, t22, t23, t24, t25, t26, t27, t28, t29, t30] (Out.val (V.vec (0 : Nat) ((codeE b (codeE a l ++ [Bc.mk (7 : Int) ((↑(codeE a l).length : Int) + (3 : Int)) (ByteArray.mk #[]), Bc.mk (1 : Int) (1 : Int) (ByteArray.mk #[]), Bc.mk (6 : Int) (0 : Int) (ByteArray.mk #[])])).length + (2 : Nat)) (3 : Nat) (0 : Nat) ((codeE b (codeE a l ++ [Bc.mk (7 : Int) ((↑(codeE a l).length : Int) + (3 : Int)) (ByteArray.mk #[]), Bc.mk (1 : Int) (1 : Int) (ByteArray.mk #[]), Bc.mk (6 : Int) (0 : Int) (ByteArray.mk #[])])).length + (2 : Nat))) [Ob.vec true (3 : Nat) (bcc ((codeE b (codeE a l ++ [Bc.mk (7 : Int) ((↑(codeE a l).length : Int) + (3 : Int)) (ByteArray.mk #[]), Bc.mk (1 : Int) (1 : Int) (ByteArray.mk #[]), Bc.mk (6 : Int) (0 : Int) (ByteArray.mk #[])]) ++ [Bc.mk (5 : Int) (0 : Int) (ByteArray.mk #[(33 : UInt8)]), Bc.mk (5 : Int) (0 : Int) (ByteArray.mk #[(33 : UInt8)])]).set ((codeE a l).length + (2 : Nat)) (Bc.mk (6 : Int) ((↑(codeE b (codeE a l ++ [Bc.mk (7 : Int) ((↑(codeE a l).length : Int) + (3 : Int)) (ByteArray.mk #[]), Bc.mk (1 : Int) (1 : Int) (ByteArray.mk #[]), Bc.mk (6 : Int) (0 : Int) (ByteArray.mk #[])])).length : Int) + (2 : Int)) (ByteArray.mk #[]))))]) (by kernel_rfl) (((congrArg (fun x => Out.val (V.vec (0 : Nat) x (3 : Nat) (0 : Nat) ((codeE b (codeE a l ++ [Bc.mk (7 : Int) ((↑(codeE a l).length : Int) + (3 : Int)) (ByteArray.mk #[]), Bc.mk (1 : Int) (1 : Int) (ByteArray.mk #[]), Bc.mk (6 : Int) (0 : Int) (ByteArray.mk #[])])).length + (2 : Nat))) [Ob.vec true (3 : Nat) (bcc ((codeE b (codeE a l ++ [Bc.mk (7 : Int) ((↑(codeE a l).length : Int) + (3 : Int)) (ByteArray.mk #[]), Bc.mk (1 : Int) (1 : Int) (ByteArray.mk #[]), Bc.mk (6 : Int) (0 : Int) (ByteArray.mk #[])]) ++ [Bc.mk (5 : Int) (0 : Int) (ByteArray.mk #[(33 : UInt8)]), Bc.mk (5 : Int) (0 : Int) (ByteArray.mk #[(33 : UInt8)])]).set ((codeE a l).length + (2 : Nat)) (Bc.mk (6 : Int) ((↑(codeE b (codeE a l ++ [Bc.mk (7 : Int) ((↑(codeE a l).length : Int) + (3 : Int)) (ByteArray.mk #[]), Bc.mk (1 : Int) (1 : Int) (ByteArray.mk #[]), Bc.mk (6 : Int) (0 : Int) (ByteArray.mk #[])])).length : Int) + (2 : Int)) (ByteArray.mk #[]))))]) (show ((codeE b (codeE a l ++ [Bc.mk (7 : Int) ((↑(codeE a l).length : Int) + (3 : Int)) (ByteArray.mk #[]), Bc.mk (1 : Int) (1 : Int) (ByteArray.mk #[]), Bc.mk (6 : Int) (0 : Int) (ByteArray.mk #[])])).length + (2 : Nat)) = ((codeE (E.two s a b) l).length) by simp [codeE, bNot, h1, h2])).trans (congrArg (fun x => Out.val (V.vec (0 : Nat) (codeE (E.two s a b) l).length (3 : Nat) (0 : Nat) x) [Ob.vec true (3 : Nat) (bcc ((codeE b (codeE a l ++ [Bc.mk (7 : Int) ((↑(codeE a l).length : Int) + (3 : Int)) (ByteArray.mk #[]), Bc.mk (1 : Int) (1 : Int) (ByteArray.mk #[]), Bc.mk (6 : Int) (0 : Int) (ByteArray.mk #[])]) ++ [Bc.mk (5 : Int) (0 : Int) (ByteArray.mk #[(33 : UInt8)]), Bc.mk (5 : Int) (0 : Int) (ByteArray.mk #[(33 : UInt8)])]).set ((codeE a l).length + (2 : Nat)) (Bc.mk (6 : Int) ((↑(codeE b (codeE a l ++ [Bc.mk (7 : Int) ((↑(codeE a l).length : Int) + (3 : Int)) (ByteArray.mk #[]), Bc.mk (1 : Int) (1 : Int) (ByteArray.mk #[]), Bc.mk (6 : Int) (0 : Int) (ByteArray.mk #[])])).length : Int) + (2 : Int)) (ByteArray.mk #[]))))]) (show ((codeE b (codeE a l ++ [Bc.mk (7 : Int) ((↑(codeE a l).length : Int) + (3 : Int)) (ByteArray.mk #[]), Bc.mk (1 : Int) (1 : Int) (ByteArray.mk #[]), Bc.mk (6 : Int) (0 : Int) (ByteArray.mk #[])])).length + (2 : Nat)) = ((codeE (E.two s a b) l).length) by simp [codeE, bNot, h1, h2]))).trans (congrArg (fun x => Out.val (V.vec (0 : Nat) (codeE (E.two s a b) l).length (3 : Nat) (0 : Nat) (codeE (E.two s a b) l).length) [Ob.vec true (3 : Nat) x]) (show (bcc ((codeE b (codeE a l ++ [Bc.mk (7 : Int) ((↑(codeE a l).length : Int) + (3 : Int)) (ByteArray.mk #[]), Bc.mk (1 : Int) (1 : Int) (ByteArray.mk #[]), Bc.mk (6 : Int) (0 : Int) (ByteArray.mk #[])]) ++ [Bc.mk (5 : Int) (0 : Int) (ByteArray.mk #[(33 : UInt8)]), Bc.mk (5 : Int) (0 : Int) (ByteArray.mk #[(33 : UInt8)])]).set ((codeE a l).length + (2 : Nat)) (Bc.mk (6 : Int) ((↑(codeE b (codeE a l ++ [Bc.mk (7 : Int) ((↑(codeE a l).length : Int) + (3 : Int)) (ByteArray.mk #[]), Bc.mk (1 : Int) (1 : Int) (ByteArray.mk #[]), Bc.mk (6 : Int) (0 : Int) (ByteArray.mk #[])])).length : Int) + (2 : Int)) (ByteArray.mk #[])))) = (bcc (codeE (E.two s a b) l)) by simp [codeE, bNot, h1, h2])))
      · have ih2 := l17Make_ev b (codeE a l) (by omega) (by simp [E.names] at hn; simp [hn])
        have hl2 := codeE_len b (codeE a l)
        let t2 : Tp pr := .g .row (show (lkp (E.two s a b).kids (0 : Int)) = some (a.ts) from g0)
        let t6 : Tp pr := .b (show ((E.two s a b).text.toList == [(38 : UInt8), (38 : UInt8)]) = false by (simp; omega))
        let t7 : Tp pr := .b (show ((E.two s a b).text.toList == [(124 : UInt8), (124 : UInt8)]) = false by (simp; omega))
        let t10 : Tp pr := .g .row (show (lkp (E.two s a b).kids (1 : Int)) = some (b.ts) from g1)
        let t21 : Tp pr := .m (show (decide ((bcc (codeE b (codeE a l))).length = (codeE b (codeE a l)).length ∧ (0 : Nat) + (codeE b (codeE a l)).length ≤ (codeE b (codeE a l)).length ∧ (codeE b (codeE a l)).length + (1 : Nat) ≤ (4294967296 : Nat))) = true by (simp; omega))
        let t22 : Tp pr := .b (show (decide ((codeE b (codeE a l)).length + (1 : Nat) ≤ (codeE b (codeE a l)).length)) = false by simp)
        let t23 : Tp pr := .c (rfl : ((codeE b (codeE a l)).length + (1 : Nat)) = _)
        let t24 : Tp pr := .n .crows (show ((List.take (codeE b (codeE a l)).length (bcc (codeE b (codeE a l)))).append (List.take (1 : Nat) (List.drop (0 : Nat) [[C.t (T.int IntKind.i64 (4 : Int)), C.t (T.int IntKind.i64 (0 : Int)), C.t (T.str (E.two s a b).text)]]))) = bcc (codeE b (codeE a l) ++ [Bc.mk (4 : Int) (0 : Int) s]) by simp)
        exact .tpe [.b (rfl : false = false), .b (rfl : false = false), t2, .a (ih), .b (rfl : false = false), .b (rfl : false = false), t6, t7, .m (rfl : true = true), .m (rfl : true = true), t10, .m (rfl : true = true), .m (rfl : true = true), .m (rfl : true = true), .a (ih2), .m (rfl : true = true), .m (rfl : true = true), .m (rfl : true = true), .m (rfl : true = true), .m (rfl : true = true), .m (rfl : true = true), t21, t22, t23, t24, .m (rfl : true = true), .m (rfl : true = true)] (Out.val (V.vec (0 : Nat) ((codeE b (codeE a l)).length + (1 : Nat)) (3 : Nat) (0 : Nat) ((codeE b (codeE a l)).length + (1 : Nat))) [Ob.vec true (3 : Nat) (bcc (codeE b (codeE a l) ++ [Bc.mk (4 : Int) (0 : Int) s]))]) (by kernel_rfl) (((congrArg (fun x => Out.val (V.vec (0 : Nat) x (3 : Nat) (0 : Nat) ((codeE b (codeE a l)).length + (1 : Nat))) [Ob.vec true (3 : Nat) (bcc (codeE b (codeE a l) ++ [Bc.mk (4 : Int) (0 : Int) s]))]) (show ((codeE b (codeE a l)).length + (1 : Nat)) = ((codeE (E.two s a b) l).length) by simp [codeE, bNot, h1, h2])).trans (congrArg (fun x => Out.val (V.vec (0 : Nat) (codeE (E.two s a b) l).length (3 : Nat) (0 : Nat) x) [Ob.vec true (3 : Nat) (bcc (codeE b (codeE a l) ++ [Bc.mk (4 : Int) (0 : Int) s]))]) (show ((codeE b (codeE a l)).length + (1 : Nat)) = ((codeE (E.two s a b) l).length) by simp [codeE, bNot, h1, h2]))).trans (congrArg (fun x => Out.val (V.vec (0 : Nat) (codeE (E.two s a b) l).length (3 : Nat) (0 : Nat) (codeE (E.two s a b) l).length) [Ob.vec true (3 : Nat) x]) (show (bcc (codeE b (codeE a l) ++ [Bc.mk (4 : Int) (0 : Int) s])) = (bcc (codeE (E.two s a b) l)) by simp [codeE, bNot, h1, h2])))
theorem l17MakeN_ev : ∀ (e : E), 6 * e.size ≤ 1000000 → e.names = true →
    Ev pr (.call 48 [vs e.ts, .t .nils] []) (.val (.vec 0 (codeE e []).length 3 0 (codeE e []).length) [.vec true 3 (bcc (codeE e []))])
  | .num n, h, hn => by
    let t4 : Tp pr := .n .crows (show (List.take (1 : Nat) (List.drop (0 : Nat) [[C.t (T.int IntKind.i64 (1 : Int)), C.t (T.int IntKind.i64 (E.num n).nm), C.t (T.str (ByteArray.mk #[]))]])) = bcc [Bc.mk (1 : Int) n (ByteArray.mk #[])] by simp)
    exact .tp [.b (rfl : true = true), .m (rfl : true = true), .m (rfl : true = true), .c (rfl : ((1 : Nat)) = _), t4] (by kernel_rfl)
  | .name s, h, hn => by
    have hk := NameNoS_ev s
    have hk0 : 0 ≤ nameNo s := by simpa [E.names] using hn
    rw [if_neg (by omega)] at hk
    let t6 : Tp pr := .n .crows (show (List.take (1 : Nat) (List.drop (0 : Nat) [[C.t (T.int IntKind.i64 (2 : Int)), C.t (T.int IntKind.i64 (nameNo s)), C.t (T.str (ByteArray.mk #[]))]])) = bcc [Bc.mk (2 : Int) (nameNo s) (ByteArray.mk #[])] by simp)
    exact .tp [.b (rfl : false = false), .b (rfl : true = true), .a (hk), .m (rfl : true = true), .m (rfl : true = true), .c (rfl : ((1 : Nat)) = _), t6] (by kernel_rfl)
  | .neg a, h, hn => by
    have g0 : lkp (E.neg a).kids 0 = some a.ts := rfl
    have ih := l17MakeN_ev a (by simp [E.size] at h; omega) (by simp [E.names] at hn; simp [hn])
    have hl := codeE_len a []
    simp only [List.length_nil] at hl
    simp only [E.size] at h
    let t2 : Tp pr := .g .row (show (lkp a.neg.kids (0 : Int)) = some (a.ts) from g0)
    let t6 : Tp pr := .m (show (decide ((bcc (codeE a [])).length = (codeE a []).length ∧ (0 : Nat) + (codeE a []).length ≤ (codeE a []).length ∧ (codeE a []).length + (1 : Nat) ≤ (4294967296 : Nat))) = true by (simp; omega))
    let t7 : Tp pr := .b (show (decide ((codeE a []).length + (1 : Nat) ≤ (codeE a []).length)) = false by simp)
    let t8 : Tp pr := .c (rfl : ((codeE a []).length + (1 : Nat)) = _)
    let t9 : Tp pr := .n .crows (show ((List.take (codeE a []).length (bcc (codeE a []))).append (List.take (1 : Nat) (List.drop (0 : Nat) [[C.t (T.int IntKind.i64 (5 : Int)), C.t (T.int IntKind.i64 (0 : Int)), C.t (T.str (ByteArray.mk #[(45 : UInt8)]))]]))) = bcc (codeE a [] ++ [Bc.mk (5 : Int) (0 : Int) (ByteArray.mk #[(45 : UInt8)])]) by simp)
    exact .tpe [.b (rfl : false = false), .b (rfl : false = false), t2, .a (ih), .b (rfl : true = true), .m (rfl : true = true), t6, t7, t8, t9] (Out.val (V.vec (0 : Nat) ((codeE a []).length + (1 : Nat)) (3 : Nat) (0 : Nat) ((codeE a []).length + (1 : Nat))) [Ob.vec true (3 : Nat) (bcc (codeE a [] ++ [Bc.mk (5 : Int) (0 : Int) (ByteArray.mk #[(45 : UInt8)])]))]) (by kernel_rfl) (((congrArg (fun x => Out.val (V.vec (0 : Nat) x (3 : Nat) (0 : Nat) ((codeE a []).length + (1 : Nat))) [Ob.vec true (3 : Nat) (bcc (codeE a [] ++ [Bc.mk (5 : Int) (0 : Int) (ByteArray.mk #[(45 : UInt8)])]))]) (show ((codeE a []).length + (1 : Nat)) = ((codeE a.neg []).length) by simp [codeE])).trans (congrArg (fun x => Out.val (V.vec (0 : Nat) (codeE a.neg []).length (3 : Nat) (0 : Nat) x) [Ob.vec true (3 : Nat) (bcc (codeE a [] ++ [Bc.mk (5 : Int) (0 : Int) (ByteArray.mk #[(45 : UInt8)])]))]) (show ((codeE a []).length + (1 : Nat)) = ((codeE a.neg []).length) by simp [codeE]))).trans (congrArg (fun x => Out.val (V.vec (0 : Nat) (codeE a.neg []).length (3 : Nat) (0 : Nat) (codeE a.neg []).length) [Ob.vec true (3 : Nat) x]) (show (bcc (codeE a [] ++ [Bc.mk (5 : Int) (0 : Int) (ByteArray.mk #[(45 : UInt8)])])) = (bcc (codeE a.neg [])) by simp [codeE])))
  | .not a, h, hn => by
    have g0 : lkp (E.not a).kids 0 = some a.ts := rfl
    have ih := l17MakeN_ev a (by simp [E.size] at h; omega) (by simp [E.names] at hn; simp [hn])
    have hl := codeE_len a []
    simp only [List.length_nil] at hl
    simp only [E.size] at h
    let t2 : Tp pr := .g .row (show (lkp a.not.kids (0 : Int)) = some (a.ts) from g0)
    let t8 : Tp pr := .m (show (decide ((bcc (codeE a [])).length = (codeE a []).length ∧ (0 : Nat) + (codeE a []).length ≤ (codeE a []).length ∧ (codeE a []).length + (1 : Nat) ≤ (4294967296 : Nat))) = true by (simp; omega))
    let t9 : Tp pr := .b (show (decide ((codeE a []).length + (1 : Nat) ≤ (codeE a []).length)) = false by simp)
    let t10 : Tp pr := .c (rfl : ((codeE a []).length + (1 : Nat)) = _)
    let t11 : Tp pr := .n .crows (show ((List.take (codeE a []).length (bcc (codeE a []))).append (List.take (1 : Nat) (List.drop (0 : Nat) [[C.t (T.int IntKind.i64 (5 : Int)), C.t (T.int IntKind.i64 (0 : Int)), C.t (T.str (ByteArray.mk #[(33 : UInt8)]))]]))) = bcc (codeE a [] ++ [Bc.mk (5 : Int) (0 : Int) (ByteArray.mk #[(33 : UInt8)])]) by simp)
    exact .tpe [.b (rfl : false = false), .b (rfl : false = false), t2, .a (ih), .b (rfl : false = false), .b (rfl : true = true), .a (l17Not_ev), .m (rfl : true = true), t8, t9, t10, t11] (Out.val (V.vec (0 : Nat) ((codeE a []).length + (1 : Nat)) (3 : Nat) (0 : Nat) ((codeE a []).length + (1 : Nat))) [Ob.vec true (3 : Nat) (bcc (codeE a [] ++ [Bc.mk (5 : Int) (0 : Int) (ByteArray.mk #[(33 : UInt8)])]))]) (by kernel_rfl) (((congrArg (fun x => Out.val (V.vec (0 : Nat) x (3 : Nat) (0 : Nat) ((codeE a []).length + (1 : Nat))) [Ob.vec true (3 : Nat) (bcc (codeE a [] ++ [Bc.mk (5 : Int) (0 : Int) (ByteArray.mk #[(33 : UInt8)])]))]) (show ((codeE a []).length + (1 : Nat)) = ((codeE a.not []).length) by simp [codeE, bNot])).trans (congrArg (fun x => Out.val (V.vec (0 : Nat) (codeE a.not []).length (3 : Nat) (0 : Nat) x) [Ob.vec true (3 : Nat) (bcc (codeE a [] ++ [Bc.mk (5 : Int) (0 : Int) (ByteArray.mk #[(33 : UInt8)])]))]) (show ((codeE a []).length + (1 : Nat)) = ((codeE a.not []).length) by simp [codeE, bNot]))).trans (congrArg (fun x => Out.val (V.vec (0 : Nat) (codeE a.not []).length (3 : Nat) (0 : Nat) (codeE a.not []).length) [Ob.vec true (3 : Nat) x]) (show (bcc (codeE a [] ++ [Bc.mk (5 : Int) (0 : Int) (ByteArray.mk #[(33 : UInt8)])])) = (bcc (codeE a.not [])) by simp [codeE, bNot])))
  | .two s a b, h, hn => by
    have g0 : lkp (E.two s a b).kids 0 = some a.ts := rfl
    have g1 : lkp (E.two s a b).kids 1 = some b.ts := rfl
    have ih := l17MakeN_ev a (by simp [E.size] at h; omega) (by simp [E.names] at hn; simp [hn])
    have hl := codeE_len a []
    simp only [List.length_nil] at hl
    simp only [E.size] at h
    by_cases h1 : s.toList = [38, 38]
    · have ih2 := l17Make_ev b (codeE a [] ++ [⟨7, 0, e0⟩]) (by simp; omega) (by simp [E.names] at hn; simp [hn])
      have hl2 := codeE_len b (codeE a [] ++ [⟨7, 0, e0⟩])
      have hg := codeE_get b (codeE a [] ++ [⟨7, 0, e0⟩]) (codeE a []).length (by simp)
      have hg2 : (bcc (codeE b (codeE a [] ++ [⟨7, 0, e0⟩]) ++ [bNot, bNot]))[(codeE a []).length]? = some (Bc.cc ⟨7, 0, e0⟩) := by
        simp at hl2
        rw [bcc_app, List.getElem?_append_left (by simp; omega)]
        simp [bcc, hg]
      have hg3 : ∀ r : List Bc, (bcc (codeE b ((codeE a []) ++ [⟨7, 0, e0⟩]) ++ r))[(codeE a []).length]? = some (Bc.cc ⟨7, 0, e0⟩) := fun r => by
        simp at hl2
        rw [bcc_app, List.getElem?_append_left (by simp; omega)]
        simp [bcc, hg]
      simp at hl2
      have hlt : (codeE a []).length < (codeE b ((codeE a []) ++ [⟨7, 0, ⟨#[]⟩⟩])).length := by omega
      let t2 : Tp pr := .g .row (show (lkp (E.two s a b).kids (0 : Int)) = some (a.ts) from g0)
      let t6 : Tp pr := .b (show ((E.two s a b).text.toList == [(38 : UInt8), (38 : UInt8)]) = true by (simp; omega))
      let t7 : Tp pr := .i (rfl : ((↑(codeE a []).length : Int)) = _)
      let t9 : Tp pr := .m (show (decide ((bcc (codeE a [])).length = (codeE a []).length ∧ (0 : Nat) + (codeE a []).length ≤ (codeE a []).length ∧ (codeE a []).length + (1 : Nat) ≤ (4294967296 : Nat))) = true by (simp; omega))
      let t10 : Tp pr := .b (show (decide ((codeE a []).length + (1 : Nat) ≤ (codeE a []).length)) = false by simp)
      let t11 : Tp pr := .c (rfl : ((codeE a []).length + (1 : Nat)) = _)
      let t12 : Tp pr := .n .crows (show ((List.take (codeE a []).length (bcc (codeE a []))).append (List.take (1 : Nat) (List.drop (0 : Nat) [[C.t (T.int IntKind.i64 (7 : Int)), C.t (T.int IntKind.i64 (0 : Int)), C.t (T.str (ByteArray.mk #[]))]]))) = bcc (codeE a [] ++ [Bc.mk (7 : Int) (0 : Int) (ByteArray.mk #[])]) by simp)
      let t13 : Tp pr := .g .row (show (lkp (E.two s a b).kids (1 : Int)) = some (b.ts) from g1)
      let t14 : Tp pr := .a (Ev.castq (congrArg (fun x => Q.call (48 : FuncId) [vs b.ts, V.vec (0 : Nat) x (3 : Nat) (0 : Nat) x] [Ob.vec true (3 : Nat) (bcc (codeE a [] ++ [Bc.mk (7 : Int) (0 : Int) e0]))]) (show ((codeE a [] ++ [Bc.mk (7 : Int) (0 : Int) e0]).length) = ((codeE a []).length + (1 : Nat)) by simp [codeE, bNot, h1, List.set_append, hlt])) (ih2))
      let t18 : Tp pr := .m (show (decide ((bcc (codeE b (codeE a [] ++ [Bc.mk (7 : Int) (0 : Int) e0]))).length = (codeE b (codeE a [] ++ [Bc.mk (7 : Int) (0 : Int) e0])).length ∧ (0 : Nat) + (codeE b (codeE a [] ++ [Bc.mk (7 : Int) (0 : Int) e0])).length ≤ (codeE b (codeE a [] ++ [Bc.mk (7 : Int) (0 : Int) e0])).length ∧ (codeE b (codeE a [] ++ [Bc.mk (7 : Int) (0 : Int) e0])).length + (2 : Nat) ≤ (4294967296 : Nat))) = true by (simp; omega))
      let t19 : Tp pr := .b (show (decide ((codeE b (codeE a [] ++ [Bc.mk (7 : Int) (0 : Int) e0])).length + (2 : Nat) ≤ (codeE b (codeE a [] ++ [Bc.mk (7 : Int) (0 : Int) e0])).length)) = false by simp)
      let t20 : Tp pr := .c (show ((codeE b (codeE a [] ++ [Bc.mk (7 : Int) (0 : Int) e0])).length + (2 : Nat) : Nat) = (codeE b (codeE a [] ++ [Bc.mk (7 : Int) (0 : Int) (ByteArray.mk #[])])).length + (2 : Nat) by rfl)
      let t21 : Tp pr := .n .crows (show ((List.take (codeE b (codeE a [] ++ [Bc.mk (7 : Int) (0 : Int) e0])).length (bcc (codeE b (codeE a [] ++ [Bc.mk (7 : Int) (0 : Int) e0])))).append (List.take (2 : Nat) (List.drop (0 : Nat) [[C.t (T.int IntKind.i64 (5 : Int)), C.t (T.int IntKind.i64 (0 : Int)), C.t (T.str (ByteArray.mk #[(33 : UInt8)]))], [C.t (T.int IntKind.i64 (5 : Int)), C.t (T.int IntKind.i64 (0 : Int)), C.t (T.str (ByteArray.mk #[(33 : UInt8)]))]]))) = bcc (codeE b (codeE a [] ++ [Bc.mk (7 : Int) (0 : Int) (ByteArray.mk #[])]) ++ [Bc.mk (5 : Int) (0 : Int) (ByteArray.mk #[(33 : UInt8)]), Bc.mk (5 : Int) (0 : Int) (ByteArray.mk #[(33 : UInt8)])]) by simp)
      let t22 : Tp pr := .i (show ((↑((codeE b (codeE a [] ++ [Bc.mk (7 : Int) (0 : Int) (ByteArray.mk #[])])).length + (2 : Nat)) : Int) : Int) = (↑(codeE b (codeE a [] ++ [Bc.mk (7 : Int) (0 : Int) (ByteArray.mk #[])])).length : Int) + (2 : Int) by omega)
      let t23 : Tp pr := .i (wrap_i64 (a := (↑(codeE b (codeE a [] ++ [Bc.mk (7 : Int) (0 : Int) (ByteArray.mk #[])])).length : Int) + (2 : Int) + (2 : Int)) (by omega) (by omega))
      let t25 : Tp pr := .m (show (decide ((bcc (codeE b (codeE a [] ++ [Bc.mk (7 : Int) (0 : Int) (ByteArray.mk #[])]) ++ [Bc.mk (5 : Int) (0 : Int) (ByteArray.mk #[(33 : UInt8)]), Bc.mk (5 : Int) (0 : Int) (ByteArray.mk #[(33 : UInt8)])])).length = (codeE b (codeE a [] ++ [Bc.mk (7 : Int) (0 : Int) (ByteArray.mk #[])])).length + (2 : Nat) ∧ (0 : Nat) + ((codeE b (codeE a [] ++ [Bc.mk (7 : Int) (0 : Int) (ByteArray.mk #[])])).length + (2 : Nat)) ≤ (codeE b (codeE a [] ++ [Bc.mk (7 : Int) (0 : Int) (ByteArray.mk #[])])).length + (2 : Nat) ∧ (codeE b (codeE a [] ++ [Bc.mk (7 : Int) (0 : Int) (ByteArray.mk #[])])).length + (2 : Nat) + (2 : Nat) ≤ (4294967296 : Nat))) = true by (simp; omega))
      let t26 : Tp pr := .b (show (decide ((codeE b (codeE a [] ++ [Bc.mk (7 : Int) (0 : Int) (ByteArray.mk #[])])).length + (2 : Nat) + (2 : Nat) ≤ (codeE b (codeE a [] ++ [Bc.mk (7 : Int) (0 : Int) (ByteArray.mk #[])])).length + (2 : Nat))) = false by simp)
      let t27 : Tp pr := .c (rfl : ((codeE b (codeE a [] ++ [Bc.mk (7 : Int) (0 : Int) (ByteArray.mk #[])])).length + (2 : Nat) + (2 : Nat)) = _)
      let t28 : Tp pr := .n .crows (show ((List.take ((codeE b (codeE a [] ++ [Bc.mk (7 : Int) (0 : Int) (ByteArray.mk #[])])).length + (2 : Nat)) (bcc (codeE b (codeE a [] ++ [Bc.mk (7 : Int) (0 : Int) (ByteArray.mk #[])]) ++ [Bc.mk (5 : Int) (0 : Int) (ByteArray.mk #[(33 : UInt8)]), Bc.mk (5 : Int) (0 : Int) (ByteArray.mk #[(33 : UInt8)])]))).append (List.take (2 : Nat) (List.drop (0 : Nat) [[C.t (T.int IntKind.i64 (6 : Int)), C.t (T.int IntKind.i64 ((↑(codeE b (codeE a [] ++ [Bc.mk (7 : Int) (0 : Int) (ByteArray.mk #[])])).length : Int) + (2 : Int) + (2 : Int))), C.t (T.str (ByteArray.mk #[]))], [C.t (T.int IntKind.i64 (1 : Int)), C.t (T.int IntKind.i64 (0 : Int)), C.t (T.str (ByteArray.mk #[]))]]))) = bcc (codeE b (codeE a [] ++ [Bc.mk (7 : Int) (0 : Int) (ByteArray.mk #[])]) ++ [Bc.mk (5 : Int) (0 : Int) (ByteArray.mk #[(33 : UInt8)]), Bc.mk (5 : Int) (0 : Int) (ByteArray.mk #[(33 : UInt8)]), Bc.mk (6 : Int) ((↑(codeE b (codeE a [] ++ [Bc.mk (7 : Int) (0 : Int) (ByteArray.mk #[])])).length : Int) + (2 : Int) + (2 : Int)) (ByteArray.mk #[]), Bc.mk (1 : Int) (0 : Int) (ByteArray.mk #[])]) by simp)
      let t29 : Tp pr := .i (wrap_i64 (a := (↑(codeE b (codeE a [] ++ [Bc.mk (7 : Int) (0 : Int) (ByteArray.mk #[])])).length : Int) + (2 : Int) + (1 : Int)) (by omega) (by omega))
      let t30 : Tp pr := .m (show (decide ((0 : Int) ≤ (↑(codeE a []).length : Int) ∧ (↑(codeE a []).length : Int).toNat < (codeE b (codeE a [] ++ [Bc.mk (7 : Int) (0 : Int) (ByteArray.mk #[])])).length + (2 : Nat) + (2 : Nat))) = true by (simp; omega))
      let t31 : Tp pr := .c (show ((0 : Nat) + (↑(codeE a []).length : Int).toNat : Nat) = (codeE a []).length by omega)
      let t32 : Tp pr := .m (show (decide ((bcc (codeE b (codeE a [] ++ [Bc.mk (7 : Int) (0 : Int) (ByteArray.mk #[])]) ++ [Bc.mk (5 : Int) (0 : Int) (ByteArray.mk #[(33 : UInt8)]), Bc.mk (5 : Int) (0 : Int) (ByteArray.mk #[(33 : UInt8)]), Bc.mk (6 : Int) ((↑(codeE b (codeE a [] ++ [Bc.mk (7 : Int) (0 : Int) (ByteArray.mk #[])])).length : Int) + (2 : Int) + (2 : Int)) (ByteArray.mk #[]), Bc.mk (1 : Int) (0 : Int) (ByteArray.mk #[])])).length = (codeE b (codeE a [] ++ [Bc.mk (7 : Int) (0 : Int) (ByteArray.mk #[])])).length + (2 : Nat) + (2 : Nat))) = true by simp)
      let t33 : Tp pr := .g .crow (show ((bcc (codeE b (codeE a [] ++ [Bc.mk (7 : Int) (0 : Int) (ByteArray.mk #[])]) ++ [Bc.mk (5 : Int) (0 : Int) (ByteArray.mk #[(33 : UInt8)]), Bc.mk (5 : Int) (0 : Int) (ByteArray.mk #[(33 : UInt8)]), Bc.mk (6 : Int) ((↑(codeE b (codeE a [] ++ [Bc.mk (7 : Int) (0 : Int) (ByteArray.mk #[])])).length : Int) + (2 : Int) + (2 : Int)) (ByteArray.mk #[]), Bc.mk (1 : Int) (0 : Int) (ByteArray.mk #[])]))[(codeE a []).length]?) = some ((Bc.mk (7 : Int) (0 : Int) (ByteArray.mk #[])).cc) by simp [*])
      let t34 : Tp pr := .n .crows (show ((bcc (codeE b (codeE a [] ++ [Bc.mk (7 : Int) (0 : Int) (ByteArray.mk #[])]) ++ [Bc.mk (5 : Int) (0 : Int) (ByteArray.mk #[(33 : UInt8)]), Bc.mk (5 : Int) (0 : Int) (ByteArray.mk #[(33 : UInt8)]), Bc.mk (6 : Int) ((↑(codeE b (codeE a [] ++ [Bc.mk (7 : Int) (0 : Int) (ByteArray.mk #[])])).length : Int) + (2 : Int) + (2 : Int)) (ByteArray.mk #[]), Bc.mk (1 : Int) (0 : Int) (ByteArray.mk #[])])).set (codeE a []).length [C.t (T.int IntKind.i64 (7 : Int)), C.t (T.int IntKind.i64 ((↑(codeE b (codeE a [] ++ [Bc.mk (7 : Int) (0 : Int) (ByteArray.mk #[])])).length : Int) + (2 : Int) + (1 : Int))), C.t (T.str (ByteArray.mk #[]))]) = bcc ((codeE b (codeE a [] ++ [Bc.mk (7 : Int) (0 : Int) (ByteArray.mk #[])]) ++ [Bc.mk (5 : Int) (0 : Int) (ByteArray.mk #[(33 : UInt8)]), Bc.mk (5 : Int) (0 : Int) (ByteArray.mk #[(33 : UInt8)]), Bc.mk (6 : Int) ((↑(codeE b (codeE a [] ++ [Bc.mk (7 : Int) (0 : Int) (ByteArray.mk #[])])).length : Int) + (2 : Int) + (2 : Int)) (ByteArray.mk #[]), Bc.mk (1 : Int) (0 : Int) (ByteArray.mk #[])]).set (codeE a []).length (Bc.mk (7 : Int) ((↑(codeE b (codeE a [] ++ [Bc.mk (7 : Int) (0 : Int) (ByteArray.mk #[])])).length : Int) + (2 : Int) + (1 : Int)) (ByteArray.mk #[]))) by simp)
      exact .tpe [.b (rfl : false = false), .b (rfl : false = false), t2, .a (ih), .b (rfl : false = false), .b (rfl : false = false), t6, t7, .m (rfl : true = true), t9, t10, t11, t12, t13, t14, .a (l17Not_ev), .a (l17Not_ev), .m (rfl : true = true), t18, t19, t20, t21, t22, t23, .m (rfl : true = true), t25, t26, t27, t28, t29, t30, t31, t32, t33, t34] (Out.val (V.vec (0 : Nat) ((codeE b (codeE a [] ++ [Bc.mk (7 : Int) (0 : Int) (ByteArray.mk #[])])).length + (2 : Nat) + (2 : Nat)) (3 : Nat) (0 : Nat) ((codeE b (codeE a [] ++ [Bc.mk (7 : Int) (0 : Int) (ByteArray.mk #[])])).length + (2 : Nat) + (2 : Nat))) [Ob.vec true (3 : Nat) (bcc ((codeE b (codeE a [] ++ [Bc.mk (7 : Int) (0 : Int) (ByteArray.mk #[])]) ++ [Bc.mk (5 : Int) (0 : Int) (ByteArray.mk #[(33 : UInt8)]), Bc.mk (5 : Int) (0 : Int) (ByteArray.mk #[(33 : UInt8)]), Bc.mk (6 : Int) ((↑(codeE b (codeE a [] ++ [Bc.mk (7 : Int) (0 : Int) (ByteArray.mk #[])])).length : Int) + (2 : Int) + (2 : Int)) (ByteArray.mk #[]), Bc.mk (1 : Int) (0 : Int) (ByteArray.mk #[])]).set (codeE a []).length (Bc.mk (7 : Int) ((↑(codeE b (codeE a [] ++ [Bc.mk (7 : Int) (0 : Int) (ByteArray.mk #[])])).length : Int) + (2 : Int) + (1 : Int)) (ByteArray.mk #[]))))]) (by kernel_rfl) (((congrArg (fun x => Out.val (V.vec (0 : Nat) x (3 : Nat) (0 : Nat) ((codeE b (codeE a [] ++ [Bc.mk (7 : Int) (0 : Int) (ByteArray.mk #[])])).length + (2 : Nat) + (2 : Nat))) [Ob.vec true (3 : Nat) (bcc ((codeE b (codeE a [] ++ [Bc.mk (7 : Int) (0 : Int) (ByteArray.mk #[])]) ++ [Bc.mk (5 : Int) (0 : Int) (ByteArray.mk #[(33 : UInt8)]), Bc.mk (5 : Int) (0 : Int) (ByteArray.mk #[(33 : UInt8)]), Bc.mk (6 : Int) ((↑(codeE b (codeE a [] ++ [Bc.mk (7 : Int) (0 : Int) (ByteArray.mk #[])])).length : Int) + (2 : Int) + (2 : Int)) (ByteArray.mk #[]), Bc.mk (1 : Int) (0 : Int) (ByteArray.mk #[])]).set (codeE a []).length (Bc.mk (7 : Int) ((↑(codeE b (codeE a [] ++ [Bc.mk (7 : Int) (0 : Int) (ByteArray.mk #[])])).length : Int) + (2 : Int) + (1 : Int)) (ByteArray.mk #[]))))]) (show ((codeE b (codeE a [] ++ [Bc.mk (7 : Int) (0 : Int) (ByteArray.mk #[])])).length + (2 : Nat) + (2 : Nat)) = ((codeE (E.two s a b) []).length) by simp [codeE, bNot, h1, List.set_append, hlt])).trans (congrArg (fun x => Out.val (V.vec (0 : Nat) (codeE (E.two s a b) []).length (3 : Nat) (0 : Nat) x) [Ob.vec true (3 : Nat) (bcc ((codeE b (codeE a [] ++ [Bc.mk (7 : Int) (0 : Int) (ByteArray.mk #[])]) ++ [Bc.mk (5 : Int) (0 : Int) (ByteArray.mk #[(33 : UInt8)]), Bc.mk (5 : Int) (0 : Int) (ByteArray.mk #[(33 : UInt8)]), Bc.mk (6 : Int) ((↑(codeE b (codeE a [] ++ [Bc.mk (7 : Int) (0 : Int) (ByteArray.mk #[])])).length : Int) + (2 : Int) + (2 : Int)) (ByteArray.mk #[]), Bc.mk (1 : Int) (0 : Int) (ByteArray.mk #[])]).set (codeE a []).length (Bc.mk (7 : Int) ((↑(codeE b (codeE a [] ++ [Bc.mk (7 : Int) (0 : Int) (ByteArray.mk #[])])).length : Int) + (2 : Int) + (1 : Int)) (ByteArray.mk #[]))))]) (show ((codeE b (codeE a [] ++ [Bc.mk (7 : Int) (0 : Int) (ByteArray.mk #[])])).length + (2 : Nat) + (2 : Nat)) = ((codeE (E.two s a b) []).length) by simp [codeE, bNot, h1, List.set_append, hlt]))).trans (congrArg (fun x => Out.val (V.vec (0 : Nat) (codeE (E.two s a b) []).length (3 : Nat) (0 : Nat) (codeE (E.two s a b) []).length) [Ob.vec true (3 : Nat) x]) (show (bcc ((codeE b (codeE a [] ++ [Bc.mk (7 : Int) (0 : Int) (ByteArray.mk #[])]) ++ [Bc.mk (5 : Int) (0 : Int) (ByteArray.mk #[(33 : UInt8)]), Bc.mk (5 : Int) (0 : Int) (ByteArray.mk #[(33 : UInt8)]), Bc.mk (6 : Int) ((↑(codeE b (codeE a [] ++ [Bc.mk (7 : Int) (0 : Int) (ByteArray.mk #[])])).length : Int) + (2 : Int) + (2 : Int)) (ByteArray.mk #[]), Bc.mk (1 : Int) (0 : Int) (ByteArray.mk #[])]).set (codeE a []).length (Bc.mk (7 : Int) ((↑(codeE b (codeE a [] ++ [Bc.mk (7 : Int) (0 : Int) (ByteArray.mk #[])])).length : Int) + (2 : Int) + (1 : Int)) (ByteArray.mk #[])))) = (bcc (codeE (E.two s a b) [])) by simp [codeE, bNot, h1, List.set_append, hlt])))
    · by_cases h2 : s.toList = [124, 124]
      · have ih2 := l17Make_ev b (codeE a [] ++ [⟨7, (codeE a []).length + 3, e0⟩, ⟨1, 1, e0⟩, ⟨6, 0, e0⟩]) (by simp; omega) (by simp [E.names] at hn; simp [hn])
        have hl2 := codeE_len b (codeE a [] ++ [⟨7, (codeE a []).length + 3, e0⟩, ⟨1, 1, e0⟩, ⟨6, 0, e0⟩])
        have hg := codeE_get b (codeE a [] ++ [⟨7, (codeE a []).length + 3, e0⟩, ⟨1, 1, e0⟩, ⟨6, 0, e0⟩]) ((codeE a []).length + 2) (by simp)
        have hg2 : (bcc (codeE b (codeE a [] ++ [⟨7, (codeE a []).length + 3, e0⟩, ⟨1, 1, e0⟩, ⟨6, 0, e0⟩]) ++ [bNot, bNot]))[(codeE a []).length + 2]? = some (Bc.cc ⟨6, 0, e0⟩) := by
          simp at hl2
          rw [bcc_app, List.getElem?_append_left (by simp; omega)]
          simp [bcc, hg]
        simp at hl2
        let t2 : Tp pr := .g .row (show (lkp (E.two s a b).kids (0 : Int)) = some (a.ts) from g0)
        let t6 : Tp pr := .b (show ((E.two s a b).text.toList == [(38 : UInt8), (38 : UInt8)]) = false by (simp; omega))
        let t7 : Tp pr := .b (show ((E.two s a b).text.toList == [(124 : UInt8), (124 : UInt8)]) = true by (simp; omega))
        let t8 : Tp pr := .i (rfl : ((↑(codeE a []).length : Int)) = _)
        let t9 : Tp pr := .i (wrap_i64 (a := (↑(codeE a []).length : Int) + (3 : Int)) (by omega) (by omega))
        let t11 : Tp pr := .m (show (decide ((bcc (codeE a [])).length = (codeE a []).length ∧ (0 : Nat) + (codeE a []).length ≤ (codeE a []).length ∧ (codeE a []).length + (3 : Nat) ≤ (4294967296 : Nat))) = true by (simp; omega))
        let t12 : Tp pr := .b (show (decide ((codeE a []).length + (3 : Nat) ≤ (codeE a []).length)) = false by simp)
        let t13 : Tp pr := .c (rfl : ((codeE a []).length + (3 : Nat)) = _)
        let t14 : Tp pr := .n .crows (show ((List.take (codeE a []).length (bcc (codeE a []))).append (List.take (3 : Nat) (List.drop (0 : Nat) [[C.t (T.int IntKind.i64 (7 : Int)), C.t (T.int IntKind.i64 ((↑(codeE a []).length : Int) + (3 : Int))), C.t (T.str (ByteArray.mk #[]))], [C.t (T.int IntKind.i64 (1 : Int)), C.t (T.int IntKind.i64 (1 : Int)), C.t (T.str (ByteArray.mk #[]))], [C.t (T.int IntKind.i64 (6 : Int)), C.t (T.int IntKind.i64 (0 : Int)), C.t (T.str (ByteArray.mk #[]))]]))) = bcc (codeE a [] ++ [Bc.mk (7 : Int) ((↑(codeE a []).length : Int) + (3 : Int)) (ByteArray.mk #[]), Bc.mk (1 : Int) (1 : Int) (ByteArray.mk #[]), Bc.mk (6 : Int) (0 : Int) (ByteArray.mk #[])]) by simp)
        let t15 : Tp pr := .g .row (show (lkp (E.two s a b).kids (1 : Int)) = some (b.ts) from g1)
        let t16 : Tp pr := .a (Ev.castq (congrArg (fun x => Q.call (48 : FuncId) [vs b.ts, V.vec (0 : Nat) x (3 : Nat) (0 : Nat) x] [Ob.vec true (3 : Nat) (bcc (codeE a [] ++ [Bc.mk (7 : Int) ((↑(codeE a []).length : Int) + (3 : Int)) e0, Bc.mk (1 : Int) (1 : Int) e0, Bc.mk (6 : Int) (0 : Int) e0]))]) (show ((codeE a [] ++ [Bc.mk (7 : Int) ((↑(codeE a []).length : Int) + (3 : Int)) e0, Bc.mk (1 : Int) (1 : Int) e0, Bc.mk (6 : Int) (0 : Int) e0]).length) = ((codeE a []).length + (3 : Nat)) by simp [codeE, bNot, h1, h2])) (ih2))
        let t20 : Tp pr := .m (show (decide ((bcc (codeE b (codeE a [] ++ [Bc.mk (7 : Int) ((↑(codeE a []).length : Int) + (3 : Int)) e0, Bc.mk (1 : Int) (1 : Int) e0, Bc.mk (6 : Int) (0 : Int) e0]))).length = (codeE b (codeE a [] ++ [Bc.mk (7 : Int) ((↑(codeE a []).length : Int) + (3 : Int)) e0, Bc.mk (1 : Int) (1 : Int) e0, Bc.mk (6 : Int) (0 : Int) e0])).length ∧ (0 : Nat) + (codeE b (codeE a [] ++ [Bc.mk (7 : Int) ((↑(codeE a []).length : Int) + (3 : Int)) e0, Bc.mk (1 : Int) (1 : Int) e0, Bc.mk (6 : Int) (0 : Int) e0])).length ≤ (codeE b (codeE a [] ++ [Bc.mk (7 : Int) ((↑(codeE a []).length : Int) + (3 : Int)) e0, Bc.mk (1 : Int) (1 : Int) e0, Bc.mk (6 : Int) (0 : Int) e0])).length ∧ (codeE b (codeE a [] ++ [Bc.mk (7 : Int) ((↑(codeE a []).length : Int) + (3 : Int)) e0, Bc.mk (1 : Int) (1 : Int) e0, Bc.mk (6 : Int) (0 : Int) e0])).length + (2 : Nat) ≤ (4294967296 : Nat))) = true by (simp; omega))
        let t21 : Tp pr := .b (show (decide ((codeE b (codeE a [] ++ [Bc.mk (7 : Int) ((↑(codeE a []).length : Int) + (3 : Int)) e0, Bc.mk (1 : Int) (1 : Int) e0, Bc.mk (6 : Int) (0 : Int) e0])).length + (2 : Nat) ≤ (codeE b (codeE a [] ++ [Bc.mk (7 : Int) ((↑(codeE a []).length : Int) + (3 : Int)) e0, Bc.mk (1 : Int) (1 : Int) e0, Bc.mk (6 : Int) (0 : Int) e0])).length)) = false by simp)
        let t22 : Tp pr := .c (show ((codeE b (codeE a [] ++ [Bc.mk (7 : Int) ((↑(codeE a []).length : Int) + (3 : Int)) e0, Bc.mk (1 : Int) (1 : Int) e0, Bc.mk (6 : Int) (0 : Int) e0])).length + (2 : Nat) : Nat) = (codeE b (codeE a [] ++ [Bc.mk (7 : Int) ((↑(codeE a []).length : Int) + (3 : Int)) (ByteArray.mk #[]), Bc.mk (1 : Int) (1 : Int) (ByteArray.mk #[]), Bc.mk (6 : Int) (0 : Int) (ByteArray.mk #[])])).length + (2 : Nat) by rfl)
        let t23 : Tp pr := .n .crows (show ((List.take (codeE b (codeE a [] ++ [Bc.mk (7 : Int) ((↑(codeE a []).length : Int) + (3 : Int)) e0, Bc.mk (1 : Int) (1 : Int) e0, Bc.mk (6 : Int) (0 : Int) e0])).length (bcc (codeE b (codeE a [] ++ [Bc.mk (7 : Int) ((↑(codeE a []).length : Int) + (3 : Int)) e0, Bc.mk (1 : Int) (1 : Int) e0, Bc.mk (6 : Int) (0 : Int) e0])))).append (List.take (2 : Nat) (List.drop (0 : Nat) [[C.t (T.int IntKind.i64 (5 : Int)), C.t (T.int IntKind.i64 (0 : Int)), C.t (T.str (ByteArray.mk #[(33 : UInt8)]))], [C.t (T.int IntKind.i64 (5 : Int)), C.t (T.int IntKind.i64 (0 : Int)), C.t (T.str (ByteArray.mk #[(33 : UInt8)]))]]))) = bcc (codeE b (codeE a [] ++ [Bc.mk (7 : Int) ((↑(codeE a []).length : Int) + (3 : Int)) (ByteArray.mk #[]), Bc.mk (1 : Int) (1 : Int) (ByteArray.mk #[]), Bc.mk (6 : Int) (0 : Int) (ByteArray.mk #[])]) ++ [Bc.mk (5 : Int) (0 : Int) (ByteArray.mk #[(33 : UInt8)]), Bc.mk (5 : Int) (0 : Int) (ByteArray.mk #[(33 : UInt8)])]) by simp)
        let t24 : Tp pr := .i (wrap_i64 (a := (↑(codeE a []).length : Int) + (2 : Int)) (by omega) (by omega))
        let t25 : Tp pr := .i (show ((↑((codeE b (codeE a [] ++ [Bc.mk (7 : Int) ((↑(codeE a []).length : Int) + (3 : Int)) (ByteArray.mk #[]), Bc.mk (1 : Int) (1 : Int) (ByteArray.mk #[]), Bc.mk (6 : Int) (0 : Int) (ByteArray.mk #[])])).length + (2 : Nat)) : Int) : Int) = (↑(codeE b (codeE a [] ++ [Bc.mk (7 : Int) ((↑(codeE a []).length : Int) + (3 : Int)) (ByteArray.mk #[]), Bc.mk (1 : Int) (1 : Int) (ByteArray.mk #[]), Bc.mk (6 : Int) (0 : Int) (ByteArray.mk #[])])).length : Int) + (2 : Int) by omega)
        let t26 : Tp pr := .m (show (decide ((0 : Int) ≤ (↑(codeE a []).length : Int) + (2 : Int) ∧ ((↑(codeE a []).length : Int) + (2 : Int)).toNat < (codeE b (codeE a [] ++ [Bc.mk (7 : Int) ((↑(codeE a []).length : Int) + (3 : Int)) (ByteArray.mk #[]), Bc.mk (1 : Int) (1 : Int) (ByteArray.mk #[]), Bc.mk (6 : Int) (0 : Int) (ByteArray.mk #[])])).length + (2 : Nat))) = true by (simp; omega))
        let t27 : Tp pr := .c (show ((0 : Nat) + ((↑(codeE a []).length : Int) + (2 : Int)).toNat : Nat) = (codeE a []).length + (2 : Nat) by omega)
        let t28 : Tp pr := .m (show (decide ((bcc (codeE b (codeE a [] ++ [Bc.mk (7 : Int) ((↑(codeE a []).length : Int) + (3 : Int)) (ByteArray.mk #[]), Bc.mk (1 : Int) (1 : Int) (ByteArray.mk #[]), Bc.mk (6 : Int) (0 : Int) (ByteArray.mk #[])]) ++ [Bc.mk (5 : Int) (0 : Int) (ByteArray.mk #[(33 : UInt8)]), Bc.mk (5 : Int) (0 : Int) (ByteArray.mk #[(33 : UInt8)])])).length = (codeE b (codeE a [] ++ [Bc.mk (7 : Int) ((↑(codeE a []).length : Int) + (3 : Int)) (ByteArray.mk #[]), Bc.mk (1 : Int) (1 : Int) (ByteArray.mk #[]), Bc.mk (6 : Int) (0 : Int) (ByteArray.mk #[])])).length + (2 : Nat))) = true by simp)
        let t29 : Tp pr := .g .crow (show ((bcc (codeE b (codeE a [] ++ [Bc.mk (7 : Int) ((↑(codeE a []).length : Int) + (3 : Int)) (ByteArray.mk #[]), Bc.mk (1 : Int) (1 : Int) (ByteArray.mk #[]), Bc.mk (6 : Int) (0 : Int) (ByteArray.mk #[])]) ++ [Bc.mk (5 : Int) (0 : Int) (ByteArray.mk #[(33 : UInt8)]), Bc.mk (5 : Int) (0 : Int) (ByteArray.mk #[(33 : UInt8)])]))[(codeE a []).length + (2 : Nat)]?) = some ((Bc.mk (6 : Int) (0 : Int) e0).cc) from hg2)
        let t30 : Tp pr := .n .crows (show ((bcc (codeE b (codeE a [] ++ [Bc.mk (7 : Int) ((↑(codeE a []).length : Int) + (3 : Int)) (ByteArray.mk #[]), Bc.mk (1 : Int) (1 : Int) (ByteArray.mk #[]), Bc.mk (6 : Int) (0 : Int) (ByteArray.mk #[])]) ++ [Bc.mk (5 : Int) (0 : Int) (ByteArray.mk #[(33 : UInt8)]), Bc.mk (5 : Int) (0 : Int) (ByteArray.mk #[(33 : UInt8)])])).set ((codeE a []).length + (2 : Nat)) [C.t (T.int IntKind.i64 (6 : Int)), C.t (T.int IntKind.i64 ((↑(codeE b (codeE a [] ++ [Bc.mk (7 : Int) ((↑(codeE a []).length : Int) + (3 : Int)) (ByteArray.mk #[]), Bc.mk (1 : Int) (1 : Int) (ByteArray.mk #[]), Bc.mk (6 : Int) (0 : Int) (ByteArray.mk #[])])).length : Int) + (2 : Int))), C.t (T.str (ByteArray.mk #[]))]) = bcc ((codeE b (codeE a [] ++ [Bc.mk (7 : Int) ((↑(codeE a []).length : Int) + (3 : Int)) (ByteArray.mk #[]), Bc.mk (1 : Int) (1 : Int) (ByteArray.mk #[]), Bc.mk (6 : Int) (0 : Int) (ByteArray.mk #[])]) ++ [Bc.mk (5 : Int) (0 : Int) (ByteArray.mk #[(33 : UInt8)]), Bc.mk (5 : Int) (0 : Int) (ByteArray.mk #[(33 : UInt8)])]).set ((codeE a []).length + (2 : Nat)) (Bc.mk (6 : Int) ((↑(codeE b (codeE a [] ++ [Bc.mk (7 : Int) ((↑(codeE a []).length : Int) + (3 : Int)) (ByteArray.mk #[]), Bc.mk (1 : Int) (1 : Int) (ByteArray.mk #[]), Bc.mk (6 : Int) (0 : Int) (ByteArray.mk #[])])).length : Int) + (2 : Int)) (ByteArray.mk #[]))) by simp)
        exact .tpe [.b (rfl : false = false), .b (rfl : false = false), t2, .a (ih), .b (rfl : false = false), .b (rfl : false = false), t6, t7, t8, t9, .m (rfl : true = true), t11, t12, t13, t14, t15, t16, .a (l17Not_ev), .a (l17Not_ev), .m (rfl : true = true), t20, t21, t22, t23, t24, t25, t26, t27, t28, t29, t30] (Out.val (V.vec (0 : Nat) ((codeE b (codeE a [] ++ [Bc.mk (7 : Int) ((↑(codeE a []).length : Int) + (3 : Int)) (ByteArray.mk #[]), Bc.mk (1 : Int) (1 : Int) (ByteArray.mk #[]), Bc.mk (6 : Int) (0 : Int) (ByteArray.mk #[])])).length + (2 : Nat)) (3 : Nat) (0 : Nat) ((codeE b (codeE a [] ++ [Bc.mk (7 : Int) ((↑(codeE a []).length : Int) + (3 : Int)) (ByteArray.mk #[]), Bc.mk (1 : Int) (1 : Int) (ByteArray.mk #[]), Bc.mk (6 : Int) (0 : Int) (ByteArray.mk #[])])).length + (2 : Nat))) [Ob.vec true (3 : Nat) (bcc ((codeE b (codeE a [] ++ [Bc.mk (7 : Int) ((↑(codeE a []).length : Int) + (3 : Int)) (ByteArray.mk #[]), Bc.mk (1 : Int) (1 : Int) (ByteArray.mk #[]), Bc.mk (6 : Int) (0 : Int) (ByteArray.mk #[])]) ++ [Bc.mk (5 : Int) (0 : Int) (ByteArray.mk #[(33 : UInt8)]), Bc.mk (5 : Int) (0 : Int) (ByteArray.mk #[(33 : UInt8)])]).set ((codeE a []).length + (2 : Nat)) (Bc.mk (6 : Int) ((↑(codeE b (codeE a [] ++ [Bc.mk (7 : Int) ((↑(codeE a []).length : Int) + (3 : Int)) (ByteArray.mk #[]), Bc.mk (1 : Int) (1 : Int) (ByteArray.mk #[]), Bc.mk (6 : Int) (0 : Int) (ByteArray.mk #[])])).length : Int) + (2 : Int)) (ByteArray.mk #[]))))]) (by kernel_rfl) (((congrArg (fun x => Out.val (V.vec (0 : Nat) x (3 : Nat) (0 : Nat) ((codeE b (codeE a [] ++ [Bc.mk (7 : Int) ((↑(codeE a []).length : Int) + (3 : Int)) (ByteArray.mk #[]), Bc.mk (1 : Int) (1 : Int) (ByteArray.mk #[]), Bc.mk (6 : Int) (0 : Int) (ByteArray.mk #[])])).length + (2 : Nat))) [Ob.vec true (3 : Nat) (bcc ((codeE b (codeE a [] ++ [Bc.mk (7 : Int) ((↑(codeE a []).length : Int) + (3 : Int)) (ByteArray.mk #[]), Bc.mk (1 : Int) (1 : Int) (ByteArray.mk #[]), Bc.mk (6 : Int) (0 : Int) (ByteArray.mk #[])]) ++ [Bc.mk (5 : Int) (0 : Int) (ByteArray.mk #[(33 : UInt8)]), Bc.mk (5 : Int) (0 : Int) (ByteArray.mk #[(33 : UInt8)])]).set ((codeE a []).length + (2 : Nat)) (Bc.mk (6 : Int) ((↑(codeE b (codeE a [] ++ [Bc.mk (7 : Int) ((↑(codeE a []).length : Int) + (3 : Int)) (ByteArray.mk #[]), Bc.mk (1 : Int) (1 : Int) (ByteArray.mk #[]), Bc.mk (6 : Int) (0 : Int) (ByteArray.mk #[])])).length : Int) + (2 : Int)) (ByteArray.mk #[]))))]) (show ((codeE b (codeE a [] ++ [Bc.mk (7 : Int) ((↑(codeE a []).length : Int) + (3 : Int)) (ByteArray.mk #[]), Bc.mk (1 : Int) (1 : Int) (ByteArray.mk #[]), Bc.mk (6 : Int) (0 : Int) (ByteArray.mk #[])])).length + (2 : Nat)) = ((codeE (E.two s a b) []).length) by simp [codeE, bNot, h1, h2])).trans (congrArg (fun x => Out.val (V.vec (0 : Nat) (codeE (E.two s a b) []).length (3 : Nat) (0 : Nat) x) [Ob.vec true (3 : Nat) (bcc ((codeE b (codeE a [] ++ [Bc.mk (7 : Int) ((↑(codeE a []).length : Int) + (3 : Int)) (ByteArray.mk #[]), Bc.mk (1 : Int) (1 : Int) (ByteArray.mk #[]), Bc.mk (6 : Int) (0 : Int) (ByteArray.mk #[])]) ++ [Bc.mk (5 : Int) (0 : Int) (ByteArray.mk #[(33 : UInt8)]), Bc.mk (5 : Int) (0 : Int) (ByteArray.mk #[(33 : UInt8)])]).set ((codeE a []).length + (2 : Nat)) (Bc.mk (6 : Int) ((↑(codeE b (codeE a [] ++ [Bc.mk (7 : Int) ((↑(codeE a []).length : Int) + (3 : Int)) (ByteArray.mk #[]), Bc.mk (1 : Int) (1 : Int) (ByteArray.mk #[]), Bc.mk (6 : Int) (0 : Int) (ByteArray.mk #[])])).length : Int) + (2 : Int)) (ByteArray.mk #[]))))]) (show ((codeE b (codeE a [] ++ [Bc.mk (7 : Int) ((↑(codeE a []).length : Int) + (3 : Int)) (ByteArray.mk #[]), Bc.mk (1 : Int) (1 : Int) (ByteArray.mk #[]), Bc.mk (6 : Int) (0 : Int) (ByteArray.mk #[])])).length + (2 : Nat)) = ((codeE (E.two s a b) []).length) by simp [codeE, bNot, h1, h2]))).trans (congrArg (fun x => Out.val (V.vec (0 : Nat) (codeE (E.two s a b) []).length (3 : Nat) (0 : Nat) (codeE (E.two s a b) []).length) [Ob.vec true (3 : Nat) x]) (show (bcc ((codeE b (codeE a [] ++ [Bc.mk (7 : Int) ((↑(codeE a []).length : Int) + (3 : Int)) (ByteArray.mk #[]), Bc.mk (1 : Int) (1 : Int) (ByteArray.mk #[]), Bc.mk (6 : Int) (0 : Int) (ByteArray.mk #[])]) ++ [Bc.mk (5 : Int) (0 : Int) (ByteArray.mk #[(33 : UInt8)]), Bc.mk (5 : Int) (0 : Int) (ByteArray.mk #[(33 : UInt8)])]).set ((codeE a []).length + (2 : Nat)) (Bc.mk (6 : Int) ((↑(codeE b (codeE a [] ++ [Bc.mk (7 : Int) ((↑(codeE a []).length : Int) + (3 : Int)) (ByteArray.mk #[]), Bc.mk (1 : Int) (1 : Int) (ByteArray.mk #[]), Bc.mk (6 : Int) (0 : Int) (ByteArray.mk #[])])).length : Int) + (2 : Int)) (ByteArray.mk #[])))) = (bcc (codeE (E.two s a b) [])) by simp [codeE, bNot, h1, h2])))
      · have ih2 := l17Make_ev b (codeE a []) (by omega) (by simp [E.names] at hn; simp [hn])
        have hl2 := codeE_len b (codeE a [])
        let t2 : Tp pr := .g .row (show (lkp (E.two s a b).kids (0 : Int)) = some (a.ts) from g0)
        let t6 : Tp pr := .b (show ((E.two s a b).text.toList == [(38 : UInt8), (38 : UInt8)]) = false by (simp; omega))
        let t7 : Tp pr := .b (show ((E.two s a b).text.toList == [(124 : UInt8), (124 : UInt8)]) = false by (simp; omega))
        let t10 : Tp pr := .g .row (show (lkp (E.two s a b).kids (1 : Int)) = some (b.ts) from g1)
        let t21 : Tp pr := .m (show (decide ((bcc (codeE b (codeE a []))).length = (codeE b (codeE a [])).length ∧ (0 : Nat) + (codeE b (codeE a [])).length ≤ (codeE b (codeE a [])).length ∧ (codeE b (codeE a [])).length + (1 : Nat) ≤ (4294967296 : Nat))) = true by (simp; omega))
        let t22 : Tp pr := .b (show (decide ((codeE b (codeE a [])).length + (1 : Nat) ≤ (codeE b (codeE a [])).length)) = false by simp)
        let t23 : Tp pr := .c (rfl : ((codeE b (codeE a [])).length + (1 : Nat)) = _)
        let t24 : Tp pr := .n .crows (show ((List.take (codeE b (codeE a [])).length (bcc (codeE b (codeE a [])))).append (List.take (1 : Nat) (List.drop (0 : Nat) [[C.t (T.int IntKind.i64 (4 : Int)), C.t (T.int IntKind.i64 (0 : Int)), C.t (T.str (E.two s a b).text)]]))) = bcc (codeE b (codeE a []) ++ [Bc.mk (4 : Int) (0 : Int) s]) by simp)
        exact .tpe [.b (rfl : false = false), .b (rfl : false = false), t2, .a (ih), .b (rfl : false = false), .b (rfl : false = false), t6, t7, .m (rfl : true = true), .m (rfl : true = true), t10, .m (rfl : true = true), .m (rfl : true = true), .m (rfl : true = true), .a (ih2), .m (rfl : true = true), .m (rfl : true = true), .m (rfl : true = true), .m (rfl : true = true), .m (rfl : true = true), .m (rfl : true = true), t21, t22, t23, t24, .m (rfl : true = true), .m (rfl : true = true)] (Out.val (V.vec (0 : Nat) ((codeE b (codeE a [])).length + (1 : Nat)) (3 : Nat) (0 : Nat) ((codeE b (codeE a [])).length + (1 : Nat))) [Ob.vec true (3 : Nat) (bcc (codeE b (codeE a []) ++ [Bc.mk (4 : Int) (0 : Int) s]))]) (by kernel_rfl) (((congrArg (fun x => Out.val (V.vec (0 : Nat) x (3 : Nat) (0 : Nat) ((codeE b (codeE a [])).length + (1 : Nat))) [Ob.vec true (3 : Nat) (bcc (codeE b (codeE a []) ++ [Bc.mk (4 : Int) (0 : Int) s]))]) (show ((codeE b (codeE a [])).length + (1 : Nat)) = ((codeE (E.two s a b) []).length) by simp [codeE, bNot, h1, h2])).trans (congrArg (fun x => Out.val (V.vec (0 : Nat) (codeE (E.two s a b) []).length (3 : Nat) (0 : Nat) x) [Ob.vec true (3 : Nat) (bcc (codeE b (codeE a []) ++ [Bc.mk (4 : Int) (0 : Int) s]))]) (show ((codeE b (codeE a [])).length + (1 : Nat)) = ((codeE (E.two s a b) []).length) by simp [codeE, bNot, h1, h2]))).trans (congrArg (fun x => Out.val (V.vec (0 : Nat) (codeE (E.two s a b) []).length (3 : Nat) (0 : Nat) (codeE (E.two s a b) []).length) [Ob.vec true (3 : Nat) x]) (show (bcc (codeE b (codeE a []) ++ [Bc.mk (4 : Int) (0 : Int) s])) = (bcc (codeE (E.two s a b) [])) by simp [codeE, bNot, h1, h2])))
end Go.Ev

/- Code that is made of a program: the program's. -/
namespace Go.Ev
set_option linter.unusedVariables false
set_option linter.unusedSimpArgs false
open Go.Proofs
set_option maxRecDepth 100000
set_option linter.unusedVariables false
set_option maxHeartbeats 1000000
attribute [local simp] e0
theorem mcL_ev (p : List Line) (hl : p.length ≤ 12) (hs : ∀ x ∈ p, x.expr.length ≤ 1048576 ∧ ∀ y ∈ x.expr, y.text.size ≤ 9223372036854775807) (hk : ∀ x ∈ p, lineOk x = true) (W : List Int) (hWl : W.length = p.length) (hW : goodW p W) :
    ∀ (rest done : List Line) (B H : List Int) (o : List Bc), p = done ++ rest → B.length = p.length → H.length = p.length → o.length ≤ 250 * done.length →
    (∀ (j : Nat) (y : Line), j < done.length → p[j]? = some y → y.kind = 2 → ∃ h : Nat, H.getD j 0 = h ∧ h < o.length) →
    Ev pr (.loop (lq pr 27 0) (at_ [(4, .t (.seq 1 (W.map intt))), (6, .vec 0 p.length 1 0 p.length), (7, .vec 1 p.length 1 0 p.length), (8, .vec 2 o.length 3 0 o.length), (26, lines p), (27, i64 p.length), (28, i64 done.length)]
        [.vec true 1 (ints B), .vec true 1 (ints H), .vec true 3 (bcc o)] 0))
      (.exit 0 (at_ [(8, .vec 0 (makeGo W rest done.length B H o).length 3 0 (makeGo W rest done.length B H o).length)] [.vec true 3 (bcc (makeGo W rest done.length B H o))] 0))
  | [], done, B, H, o, hp, hB, hH, ho, hh => by
    have hll : (p.length : Int) = done.length := by simp [hp]
    rw [show makeGo W [] done.length B H o = o from rfl]
    let t0 : Tp pr := .b (show (decide ((↑done.length : Int) < (↑p.length : Int))) = false by (simp; omega))
    exact .tp [t0] (by kernel_rfl)
  | x :: rest, done, B, H, o, hp, hB, hH, ho, hh => by
    have hll : (p.length : Int) = done.length + 1 + rest.length := by simp [hp]; omega
    have hx : p[done.length]? = some x := by simp [hp]
    have hg : lkp (p.map Line.ce) (done.length : Int) = some x.ce := by rw [hp]; simp
    have hdl : (done ++ [x]).length = done.length + 1 := by simp
    have hp' : p = (done ++ [x]) ++ rest := by simp [hp]
    have gB := ints_get (l := B) (k := done.length) (by omega)
    have gH := ints_get (l := H) (k := done.length) (by omega)
    have hxe := localExpr_ev x.expr (hs x (by simp [hp])).1 (hs x (by simp [hp])).2
    have ih := fun B H o => mcL_ev p hl hs hk W hWl hW rest (done ++ [x]) B H o hp'
    simp only [hdl] at ih
    have old : ∀ (j : Nat) (y : Line), j < done.length + 1 → p[j]? = some y → y.kind = 2 → x.kind ≠ 2 → j < done.length := fun j y hj hy h2 hx2 => by
      by_cases e : j = done.length
      · subst e
        rw [hx] at hy
        obtain rfl := Option.some.inj hy
        exact absurd h2 hx2
      · omega
    rcases lineOk_kind (hk x (by simp [hp])) with ⟨h1, hn0, hn9, e, he⟩ | ⟨h2, e, he⟩ | h3
    · rw [he] at hxe
      have hz := parseL_size he
      have hm := made_ev e o (by omega)
      have hcl := codeE_len e o
      rw [show makeGo W (x :: rest) done.length B H o = makeGo W rest (done.length + 1) (B.set done.length o.length) H (codeE e o ++ [⟨3, x.name, e0⟩]) by simp [makeGo, h1, codeL, he]]
      have ih1 := ih (B.set done.length o.length) H (codeE e o ++ [⟨3, x.name, e0⟩]) (by simp [hB]) hH (by simp; omega) (fun j y hj hy h2 => by
        obtain ⟨h, q1, q2⟩ := hh j y (old j y hj hy h2 (by omega)) hy h2
        exact ⟨h, q1, by simp; omega⟩)
      let t0 : Tp pr := .b (show (decide ((↑done.length : Int) < (↑p.length : Int))) = true by (simp; omega))
      let t1 : Tp pr := .g .row (show (lkp (List.map Line.ce p) (↑done.length : Int)) = some (x.ce) from hg)
      let t3 : Tp pr := .m (show (decide ((0 : Int) ≤ (↑done.length : Int) ∧ (↑done.length : Int).toNat < p.length)) = true by simp [*])
      let t4 : Tp pr := .c (show ((0 : Nat) + (↑done.length : Int).toNat : Nat) = done.length by omega)
      let t5 : Tp pr := .m (show (decide ((ints B).length = p.length)) = true by simp [*])
      let t6 : Tp pr := .g .crow (show ((ints B)[done.length]?) = some (intc (B.getD done.length (0 : Int))) from gB)
      let t7 : Tp pr := .n .crows (show ((ints B).set done.length [C.t (T.int IntKind.i64 (↑o.length : Int))]) = ints (B.set done.length (↑o.length : Int)) by simp)
      let t8 : Tp pr := .b (show (decide (x.kind = (3 : Int))) = false by (simp; omega))
      let t9 : Tp pr := .b (show (decide (x.kind = (1 : Int))) = true by (simp; omega))
      let t22 : Tp pr := .m (show (decide ((bcc (codeE e o)).length = (codeE e o).length ∧ (0 : Nat) + (codeE e o).length ≤ (codeE e o).length ∧ (codeE e o).length + (1 : Nat) ≤ (4294967296 : Nat))) = true by (simp; omega))
      let t23 : Tp pr := .b (show (decide ((codeE e o).length + (1 : Nat) ≤ (codeE e o).length)) = false by simp)
      let t24 : Tp pr := .c (rfl : ((codeE e o).length + (1 : Nat)) = _)
      let t25 : Tp pr := .n .crows (show ((List.take (codeE e o).length (bcc (codeE e o))).append (List.take (1 : Nat) (List.drop (0 : Nat) [[C.t (T.int IntKind.i64 (3 : Int)), C.t (T.int IntKind.i64 x.name), C.t (T.str (ByteArray.mk #[]))]]))) = bcc (codeE e o ++ [Bc.mk (3 : Int) x.name (ByteArray.mk #[])]) by simp)
      let t28 : Tp pr := .i (wrap_i64 (a := (↑done.length : Int) + (1 : Int)) (by omega) (by omega))
      let t29 : Tp pr := .a (Ev.castq (congrArg (fun x_1 => Q.loop (lq pr (27 : FuncId) (0 : Nat)) (at_ [((4 : Nat), V.t (T.seq (1 : Nat) (List.map intt W))), ((6 : Nat), V.vec (0 : Nat) p.length (1 : Nat) (0 : Nat) p.length), ((7 : Nat), V.vec (1 : Nat) p.length (1 : Nat) (0 : Nat) p.length), ((8 : Nat), V.vec (2 : Nat) x_1 (3 : Nat) (0 : Nat) x_1), ((26 : Nat), lines p), ((27 : Nat), i64 (↑p.length : Int)), ((28 : Nat), i64 (↑(done.length + (1 : Nat)) : Int))] [Ob.vec true (1 : Nat) (ints (B.set done.length (↑o.length : Int))), Ob.vec true (1 : Nat) (ints H), Ob.vec true (3 : Nat) (bcc (codeE e o ++ [Bc.mk (3 : Int) x.name e0]))] (0 : Nat))) (show ((codeE e o ++ [Bc.mk (3 : Int) x.name e0]).length) = ((codeE e o).length + (1 : Nat)) by simp [intc])) (ih1))
      exact .tp [t0, t1, .i (rfl : ((↑o.length : Int)) = _), t3, t4, t5, t6, t7, t8, t9, .m (rfl : true = true), .m (rfl : true = true), .a (hxe), .m (rfl : true = true), .m (rfl : true = true), .a (hm), .m (rfl : true = true), .m (rfl : true = true), .m (rfl : true = true), .m (rfl : true = true), .m (rfl : true = true), .m (rfl : true = true), t22, t23, t24, t25, .m (rfl : true = true), .m (rfl : true = true), t28, t29] (by kernel_rfl)
    · rw [he] at hxe
      have hz := parseL_size he
      have hm := made_ev e o (by omega)
      have hcl := codeE_len e o
      rw [show makeGo W (x :: rest) done.length B H o = makeGo W rest (done.length + 1) (B.set done.length o.length) (H.set done.length (codeE e o).length) (codeE e o ++ [⟨7, 0, e0⟩]) by simp [makeGo, h2, codeL, he]]
      have ih1 := ih (B.set done.length o.length) (H.set done.length (codeE e o).length) (codeE e o ++ [⟨7, 0, e0⟩]) (by simp [hB]) (by simp [hH]) (by simp; omega) (fun j y hj hy h2 => by
        by_cases ej : j = done.length
        · subst ej
          exact ⟨(codeE e o).length, by rw [List.getD_eq_getElem?_getD, List.getElem?_set, if_pos rfl, if_pos (by omega)]; rfl, by simp⟩
        · obtain ⟨h, q1, q2⟩ := hh j y (by omega) hy h2
          refine ⟨h, ?_, by simp; omega⟩
          rw [← q1]
          simp [List.getD_eq_getElem?_getD, List.getElem?_set, Ne.symm ej])
      let t0 : Tp pr := .b (show (decide ((↑done.length : Int) < (↑p.length : Int))) = true by (simp; omega))
      let t1 : Tp pr := .g .row (show (lkp (List.map Line.ce p) (↑done.length : Int)) = some (x.ce) from hg)
      let t3 : Tp pr := .m (show (decide ((0 : Int) ≤ (↑done.length : Int) ∧ (↑done.length : Int).toNat < p.length)) = true by simp [*])
      let t4 : Tp pr := .c (show ((0 : Nat) + (↑done.length : Int).toNat : Nat) = done.length by omega)
      let t5 : Tp pr := .m (show (decide ((ints B).length = p.length)) = true by simp [*])
      let t6 : Tp pr := .g .crow (show ((ints B)[done.length]?) = some (intc (B.getD done.length (0 : Int))) from gB)
      let t7 : Tp pr := .n .crows (show ((ints B).set done.length [C.t (T.int IntKind.i64 (↑o.length : Int))]) = ints (B.set done.length (↑o.length : Int)) by simp)
      let t8 : Tp pr := .b (show (decide (x.kind = (3 : Int))) = false by (simp; omega))
      let t9 : Tp pr := .b (show (decide (x.kind = (1 : Int))) = false by (simp; omega))
      let t10 : Tp pr := .b (show (decide (x.kind = (2 : Int))) = true by (simp; omega))
      let t13 : Tp pr := .i (rfl : ((↑(codeE e o).length : Int)) = _)
      let t14 : Tp pr := .m (show (decide ((0 : Int) ≤ (↑done.length : Int) ∧ (↑done.length : Int).toNat < p.length)) = true by simp [*])
      let t15 : Tp pr := .c (show ((0 : Nat) + (↑done.length : Int).toNat : Nat) = done.length by omega)
      let t16 : Tp pr := .m (show (decide ((ints H).length = p.length)) = true by simp [*])
      let t17 : Tp pr := .g .crow (show ((ints H)[done.length]?) = some (intc (H.getD done.length (0 : Int))) from gH)
      let t18 : Tp pr := .n .crows (show ((ints H).set done.length [C.t (T.int IntKind.i64 (↑(codeE e o).length : Int))]) = ints (H.set done.length (↑(codeE e o).length : Int)) by simp)
      let t20 : Tp pr := .m (show (decide ((bcc (codeE e o)).length = (codeE e o).length ∧ (0 : Nat) + (codeE e o).length ≤ (codeE e o).length ∧ (codeE e o).length + (1 : Nat) ≤ (4294967296 : Nat))) = true by (simp; omega))
      let t21 : Tp pr := .b (show (decide ((codeE e o).length + (1 : Nat) ≤ (codeE e o).length)) = false by simp)
      let t22 : Tp pr := .c (rfl : ((codeE e o).length + (1 : Nat)) = _)
      let t23 : Tp pr := .n .crows (show ((List.take (codeE e o).length (bcc (codeE e o))).append (List.take (1 : Nat) (List.drop (0 : Nat) [[C.t (T.int IntKind.i64 (7 : Int)), C.t (T.int IntKind.i64 (0 : Int)), C.t (T.str (ByteArray.mk #[]))]]))) = bcc (codeE e o ++ [Bc.mk (7 : Int) (0 : Int) (ByteArray.mk #[])]) by simp)
      let t24 : Tp pr := .i (wrap_i64 (a := (↑done.length : Int) + (1 : Int)) (by omega) (by omega))
      let t25 : Tp pr := .a (Ev.castq (congrArg (fun x => Q.loop (lq pr (27 : FuncId) (0 : Nat)) (at_ [((4 : Nat), V.t (T.seq (1 : Nat) (List.map intt W))), ((6 : Nat), V.vec (0 : Nat) p.length (1 : Nat) (0 : Nat) p.length), ((7 : Nat), V.vec (1 : Nat) p.length (1 : Nat) (0 : Nat) p.length), ((8 : Nat), V.vec (2 : Nat) x (3 : Nat) (0 : Nat) x), ((26 : Nat), lines p), ((27 : Nat), i64 (↑p.length : Int)), ((28 : Nat), i64 (↑(done.length + (1 : Nat)) : Int))] [Ob.vec true (1 : Nat) (ints (B.set done.length (↑o.length : Int))), Ob.vec true (1 : Nat) (ints (H.set done.length (↑(codeE e o).length : Int))), Ob.vec true (3 : Nat) (bcc (codeE e o ++ [Bc.mk (7 : Int) (0 : Int) e0]))] (0 : Nat))) (show ((codeE e o ++ [Bc.mk (7 : Int) (0 : Int) e0]).length) = ((codeE e o).length + (1 : Nat)) by simp [intc])) (ih1))
      exact .tp [t0, t1, .i (rfl : ((↑o.length : Int)) = _), t3, t4, t5, t6, t7, t8, t9, t10, .a (hxe), .a (hm), t13, t14, t15, t16, t17, t18, .m (rfl : true = true), t20, t21, t22, t23, t24, t25] (by kernel_rfl)
    · obtain ⟨j, y, e1, e2, e3, e4⟩ := hW _ x hx h3
      obtain ⟨h, q1, q2⟩ := hh j y e2 e3 e4
      have ej : jOf W done.length = j := by rw [jOf, e1]; simp
      have hgW : lkp (W.map intt) (done.length : Int) = some [T.int .i64 (j : Int)] := by
        rw [← e1, lkp, if_pos (by omega)]
        simp [List.getD_eq_getElem?_getD, intt, show done.length < W.length by omega]
      have g1 := ints_get (l := B.set done.length o.length) (k := j) (by simp; omega)
      have g2 := ints_get (l := H) (k := j) (by omega)
      rw [q1] at g2
      have g3 := bcc_getD (l := o ++ [⟨6, (B.set done.length o.length).getD j 0, e0⟩]) (k := h) (by simp; omega)
      rw [show makeGo W (x :: rest) done.length B H o = makeGo W rest (done.length + 1) (B.set done.length o.length) H (setN (o ++ [⟨6, (B.set done.length o.length).getD j 0, e0⟩]) h (o.length + 1)) by rw [makeGo, if_pos h3, ej, q1, Int.toNat_natCast]]
      have ih1 := ih (B.set done.length o.length) H (setN (o ++ [⟨6, (B.set done.length o.length).getD j 0, e0⟩]) h (o.length + 1)) (by simp [hB]) hH (by simp; omega) (fun j y hj hy h2 => by
        obtain ⟨h, q1, q2⟩ := hh j y (old j y hj hy h2 (by omega)) hy h2
        exact ⟨h, q1, by simp; omega⟩)
      let t0 : Tp pr := .b (show (decide ((↑done.length : Int) < (↑p.length : Int))) = true by (simp; omega))
      let t1 : Tp pr := .g .row (show (lkp (List.map Line.ce p) (↑done.length : Int)) = some (x.ce) from hg)
      let t3 : Tp pr := .m (show (decide ((0 : Int) ≤ (↑done.length : Int) ∧ (↑done.length : Int).toNat < p.length)) = true by simp [*])
      let t4 : Tp pr := .c (show ((0 : Nat) + (↑done.length : Int).toNat : Nat) = done.length by omega)
      let t5 : Tp pr := .m (show (decide ((ints B).length = p.length)) = true by simp [*])
      let t6 : Tp pr := .g .crow (show ((ints B)[done.length]?) = some (intc (B.getD done.length (0 : Int))) from gB)
      let t7 : Tp pr := .n .crows (show ((ints B).set done.length [C.t (T.int IntKind.i64 (↑o.length : Int))]) = ints (B.set done.length (↑o.length : Int)) by simp)
      let t8 : Tp pr := .b (show (decide (x.kind = (3 : Int))) = true by (simp; omega))
      let t9 : Tp pr := .g .row (show (lkp (List.map intt W) (↑done.length : Int)) = some ([T.int IntKind.i64 (↑j : Int)]) from hgW)
      let t10 : Tp pr := .m (show (decide ((0 : Int) ≤ (↑j : Int) ∧ (↑j : Int).toNat < p.length)) = true by (simp; omega))
      let t11 : Tp pr := .c (show ((0 : Nat) + (↑j : Int).toNat : Nat) = j by omega)
      let t12 : Tp pr := .m (show (decide ((ints (B.set done.length (↑o.length : Int))).length = p.length)) = true by simp [*])
      let t13 : Tp pr := .g .crow (show ((ints (B.set done.length (↑o.length : Int)))[j]?) = some (intc ((B.set done.length (↑o.length : Int)).getD j (0 : Int))) from g1)
      let t15 : Tp pr := .m (show (decide ((bcc o).length = o.length ∧ (0 : Nat) + o.length ≤ o.length ∧ o.length + (1 : Nat) ≤ (4294967296 : Nat))) = true by (simp; omega))
      let t16 : Tp pr := .b (show (decide (o.length + (1 : Nat) ≤ o.length)) = false by simp)
      let t18 : Tp pr := .n .crows (show ((List.take o.length (bcc o)).append (List.take (1 : Nat) (List.drop (0 : Nat) [[C.t (T.int IntKind.i64 (6 : Int)), C.t (T.int IntKind.i64 ((B.set done.length (↑o.length : Int)).getD j (0 : Int))), C.t (T.str (ByteArray.mk #[]))]]))) = bcc (o ++ [Bc.mk (6 : Int) ((B.set done.length (↑o.length : Int))[j]?.getD (0 : Int)) (ByteArray.mk #[])]) by simp)
      let t19 : Tp pr := .g .row (show (lkp (List.map intt W) (↑done.length : Int)) = some ([T.int IntKind.i64 (↑j : Int)]) from hgW)
      let t20 : Tp pr := .m (show (decide ((0 : Int) ≤ (↑j : Int) ∧ (↑j : Int).toNat < p.length)) = true by (simp; omega))
      let t21 : Tp pr := .c (show ((0 : Nat) + (↑j : Int).toNat : Nat) = j by omega)
      let t22 : Tp pr := .m (show (decide ((ints H).length = p.length)) = true by simp [*])
      let t23 : Tp pr := .g .crow (show ((ints H)[j]?) = some (intc (↑h : Int)) from g2)
      let t24 : Tp pr := .i (show ((↑(o.length + (1 : Nat)) : Int) : Int) = (↑o.length : Int) + (1 : Int) by omega)
      let t25 : Tp pr := .m (show (decide ((0 : Int) ≤ (↑h : Int) ∧ (↑h : Int).toNat < o.length + (1 : Nat))) = true by (simp; omega))
      let t26 : Tp pr := .c (show ((0 : Nat) + (↑h : Int).toNat : Nat) = h by omega)
      let t27 : Tp pr := .m (show (decide ((bcc (o ++ [Bc.mk (6 : Int) ((B.set done.length (↑o.length : Int))[j]?.getD (0 : Int)) (ByteArray.mk #[])])).length = o.length + (1 : Nat))) = true by simp)
      let t28 : Tp pr := .g .crow (show ((bcc (o ++ [Bc.mk (6 : Int) ((B.set done.length (↑o.length : Int))[j]?.getD (0 : Int)) (ByteArray.mk #[])]))[h]?) = some ([C.t (T.int IntKind.i64 ((o ++ [Bc.mk (6 : Int) ((B.set done.length (↑o.length : Int)).getD j (0 : Int)) e0]).getD h bc0).op), C.t (T.int IntKind.i64 ((o ++ [Bc.mk (6 : Int) ((B.set done.length (↑o.length : Int)).getD j (0 : Int)) e0]).getD h bc0).n), C.t (T.str ((o ++ [Bc.mk (6 : Int) ((B.set done.length (↑o.length : Int)).getD j (0 : Int)) e0]).getD h bc0).text)]) from g3)
      let t29 : Tp pr := .n .crows (show ((bcc (o ++ [Bc.mk (6 : Int) ((B.set done.length (↑o.length : Int))[j]?.getD (0 : Int)) (ByteArray.mk #[])])).set h [C.t (T.int IntKind.i64 ((o ++ [Bc.mk (6 : Int) ((B.set done.length (↑o.length : Int)).getD j (0 : Int)) e0]).getD h (Bc.mk (0 : Int) (0 : Int) (ByteArray.mk #[]))).op), C.t (T.int IntKind.i64 ((↑o.length : Int) + (1 : Int))), C.t (T.str ((o ++ [Bc.mk (6 : Int) ((B.set done.length (↑o.length : Int)).getD j (0 : Int)) e0]).getD h (Bc.mk (0 : Int) (0 : Int) (ByteArray.mk #[]))).text)]) = bcc ((o ++ [Bc.mk (6 : Int) ((B.set done.length (↑o.length : Int))[j]?.getD (0 : Int)) (ByteArray.mk #[])]).set h (Bc.mk ((o ++ [Bc.mk (6 : Int) ((B.set done.length (↑o.length : Int))[j]?.getD (0 : Int)) (ByteArray.mk #[])])[h]?.getD (Bc.mk (0 : Int) (0 : Int) (ByteArray.mk #[]))).op ((↑o.length : Int) + (1 : Int)) ((o ++ [Bc.mk (6 : Int) ((B.set done.length (↑o.length : Int))[j]?.getD (0 : Int)) (ByteArray.mk #[])])[h]?.getD (Bc.mk (0 : Int) (0 : Int) (ByteArray.mk #[]))).text)) by simp)
      let t30 : Tp pr := .i (wrap_i64 (a := (↑done.length : Int) + (1 : Int)) (by omega) (by omega))
      let t31 : Tp pr := .a (Ev.castq (congrArg (fun x => Q.loop (lq pr (27 : FuncId) (0 : Nat)) (at_ [((4 : Nat), V.t (T.seq (1 : Nat) (List.map intt W))), ((6 : Nat), V.vec (0 : Nat) p.length (1 : Nat) (0 : Nat) p.length), ((7 : Nat), V.vec (1 : Nat) p.length (1 : Nat) (0 : Nat) p.length), ((8 : Nat), V.vec (2 : Nat) x (3 : Nat) (0 : Nat) x), ((26 : Nat), lines p), ((27 : Nat), i64 (↑p.length : Int)), ((28 : Nat), i64 (↑(done.length + (1 : Nat)) : Int))] [Ob.vec true (1 : Nat) (ints (B.set done.length (↑o.length : Int))), Ob.vec true (1 : Nat) (ints H), Ob.vec true (3 : Nat) (bcc (setN (o ++ [Bc.mk (6 : Int) ((B.set done.length (↑o.length : Int)).getD j (0 : Int)) e0]) h ((↑o.length : Int) + (1 : Int))))] (0 : Nat))) (show ((setN (o ++ [Bc.mk (6 : Int) ((B.set done.length (↑o.length : Int)).getD j (0 : Int)) e0]) h ((↑o.length : Int) + (1 : Int))).length) = (o.length + (1 : Nat)) by simp [intc, setN])) (ih1))
      exact .tp [t0, t1, .i (rfl : ((↑o.length : Int)) = _), t3, t4, t5, t6, t7, t8, t9, t10, t11, t12, t13, .m (rfl : true = true), t15, t16, .c (rfl : (o.length + (1 : Nat)) = _), t18, t19, t20, t21, t22, t23, t24, t25, t26, t27, t28, t29, t30, t31] (by kernel_rfl)
theorem MakeCodeI_ev (l : List Line) (hl : l.length ≤ 1048576) (hs : ∀ x ∈ l, x.expr.length ≤ 1048576 ∧ ∀ y ∈ x.expr, y.text.size ≤ 9223372036854775807) : Ev pr (.call 27 [lines l] []) (match makeCode l with
    | some c => .val (.tup [.vec 0 c.length 3 0 c.length, bl true]) [.vec true 3 (bcc c)]
    | none => .val (.tup [.t .nils, bl false]) []) := by
  have hg := GoodProgramI_ev l hl hs
  have he := ends_ev l hl
  unfold makeCode
  cases hp : goodProgram l with
  | false => rw [hp] at hg; simp only [Bool.false_eq_true, if_false]; exact .tp [.a (hg), .b (rfl : true = true)] (by kernel_rfl)
  | true =>
    rw [hp] at hg
    obtain ⟨h1, h2, h3, W, junk, hW⟩ := goodProgram_all hp
    rw [hW] at he
    simp only [hW, if_true]
    have hWl := endsGo_len _ _ _ _ _ _ _ _ hW
    have hL := mcL_ev l h2 hs h3 W (by simpa using hWl) (goodW_of hW) l [] (List.replicate l.length 0) (List.replicate l.length 0) [] rfl (by simp) (by simp) (by simp) (by simp)
    have hlen := makeGo_len W l 0 (List.replicate l.length 0) (List.replicate l.length 0) []
    simp only [List.length_nil, Nat.zero_add] at hlen hL
    unfold codeAll
    generalize makeGo W l 0 (List.replicate l.length 0) (List.replicate l.length 0) [] = r at *
    by_cases h120 : (r ++ [(⟨2, 0, e0⟩ : Bc), ⟨9, 0, e0⟩]).length ≤ 120
    · rw [if_pos h120]
      simp at h120
      let t4 : Tp pr := .i (show ((↑(List.map Line.ce l).length : Int) : Int) = (↑l.length : Int) by simp)
      let t6 : Tp pr := .m (show (decide ((0 : Int) ≤ (↑l.length : Int) ∧ (↑l.length : Int) ≤ (↑l.length : Int) ∧ (↑l.length : Int) ≤ (4294967296 : Int))) = true by (simp; omega))
      let t7 : Tp pr := .c (show ((↑l.length : Int).toNat : Nat) = l.length by omega)
      let t8 : Tp pr := .n .crows (rfl : (List.replicate l.length [C.t (T.int IntKind.i64 (0 : Int))]) = _)
      let t11 : Tp pr := .i (show ((↑(List.map Line.ce l).length : Int) : Int) = (↑l.length : Int) by simp)
      let t13 : Tp pr := .m (show (decide ((0 : Int) ≤ (↑l.length : Int) ∧ (↑l.length : Int) ≤ (↑l.length : Int) ∧ (↑l.length : Int) ≤ (4294967296 : Int))) = true by (simp; omega))
      let t14 : Tp pr := .c (show ((↑l.length : Int).toNat : Nat) = l.length by omega)
      let t15 : Tp pr := .n .crows (rfl : (List.replicate l.length [C.t (T.int IntKind.i64 (0 : Int))]) = _)
      let t19 : Tp pr := .i (show ((↑(List.map Line.ce l).length : Int) : Int) = (↑l.length : Int) by simp)
      let t20 : Tp pr := .a (Ev.castq (congrArg (fun x => Q.loop (lq pr (27 : FuncId) (0 : Nat)) (at_ [((4 : Nat), V.t (T.seq (1 : Nat) (List.map intt W))), ((6 : Nat), V.vec (0 : Nat) l.length (1 : Nat) (0 : Nat) l.length), ((7 : Nat), V.vec (1 : Nat) l.length (1 : Nat) (0 : Nat) l.length), ((8 : Nat), V.vec (2 : Nat) (0 : Nat) (3 : Nat) (0 : Nat) (0 : Nat)), ((26 : Nat), lines l), ((27 : Nat), i64 (↑l.length : Int)), ((28 : Nat), i64 (↑(0 : Nat) : Int))] [Ob.vec true (1 : Nat) x, Ob.vec true (1 : Nat) x, Ob.vec true (3 : Nat) (bcc [])] (0 : Nat))) (show (ints (List.replicate l.length (0 : Int))) = (List.replicate l.length [C.t (T.int IntKind.i64 (0 : Int))]) by simp)) (hL))
      let t22 : Tp pr := .m (show (decide ((bcc r).length = r.length ∧ (0 : Nat) + r.length ≤ r.length ∧ r.length + (2 : Nat) ≤ (4294967296 : Nat))) = true by (simp; omega))
      let t23 : Tp pr := .b (show (decide (r.length + (2 : Nat) ≤ r.length)) = false by simp)
      let t25 : Tp pr := .n .crows (show ((List.take r.length (bcc r)).append (List.take (2 : Nat) (List.drop (0 : Nat) [[C.t (T.int IntKind.i64 (2 : Int)), C.t (T.int IntKind.i64 (0 : Int)), C.t (T.str (ByteArray.mk #[]))], [C.t (T.int IntKind.i64 (9 : Int)), C.t (T.int IntKind.i64 (0 : Int)), C.t (T.str (ByteArray.mk #[]))]]))) = bcc (r ++ [Bc.mk (2 : Int) (0 : Int) (ByteArray.mk #[]), Bc.mk (9 : Int) (0 : Int) (ByteArray.mk #[])]) by simp)
      let t26 : Tp pr := .i (show ((↑(r.length + (2 : Nat)) : Int) : Int) = (↑r.length : Int) + (2 : Int) by omega)
      let t27 : Tp pr := .b (show (decide ((↑r.length : Int) + (2 : Int) > (120 : Int))) = false by (simp; omega))
      exact .tpe [.a (hg), .b (rfl : false = false), .a (he), .m (rfl : true = true), t4, .m (rfl : true = true), t6, t7, t8, .m (rfl : true = true), .m (rfl : true = true), t11, .m (rfl : true = true), t13, t14, t15, .m (rfl : true = true), .m (rfl : true = true), .m (rfl : true = true), t19, t20, .m (rfl : true = true), t22, t23, .c (rfl : (r.length + (2 : Nat)) = _), t25, t26, t27] (Out.val (V.tup [V.vec (0 : Nat) (r.length + (2 : Nat)) (3 : Nat) (0 : Nat) (r.length + (2 : Nat)), V.t (T.bool true)]) [Ob.vec true (3 : Nat) (bcc (r ++ [Bc.mk (2 : Int) (0 : Int) (ByteArray.mk #[]), Bc.mk (9 : Int) (0 : Int) (ByteArray.mk #[])]))]) (by kernel_rfl) (((congrArg (fun x => Out.val (V.tup [V.vec (0 : Nat) x (3 : Nat) (0 : Nat) (r.length + (2 : Nat)), V.t (T.bool true)]) [Ob.vec true (3 : Nat) (bcc (r ++ [Bc.mk (2 : Int) (0 : Int) (ByteArray.mk #[]), Bc.mk (9 : Int) (0 : Int) (ByteArray.mk #[])]))]) (show (r.length + (2 : Nat)) = ((r ++ [Bc.mk (2 : Int) (0 : Int) e0, Bc.mk (9 : Int) (0 : Int) e0]).length) by simp)).trans (congrArg (fun x => Out.val (V.tup [V.vec (0 : Nat) (r ++ [Bc.mk (2 : Int) (0 : Int) e0, Bc.mk (9 : Int) (0 : Int) e0]).length (3 : Nat) (0 : Nat) x, V.t (T.bool true)]) [Ob.vec true (3 : Nat) (bcc (r ++ [Bc.mk (2 : Int) (0 : Int) (ByteArray.mk #[]), Bc.mk (9 : Int) (0 : Int) (ByteArray.mk #[])]))]) (show (r.length + (2 : Nat)) = ((r ++ [Bc.mk (2 : Int) (0 : Int) e0, Bc.mk (9 : Int) (0 : Int) e0]).length) by simp))).trans (congrArg (fun x => Out.val (V.tup [V.vec (0 : Nat) (r ++ [Bc.mk (2 : Int) (0 : Int) e0, Bc.mk (9 : Int) (0 : Int) e0]).length (3 : Nat) (0 : Nat) (r ++ [Bc.mk (2 : Int) (0 : Int) e0, Bc.mk (9 : Int) (0 : Int) e0]).length, V.t (T.bool true)]) [Ob.vec true (3 : Nat) x]) (show (bcc (r ++ [Bc.mk (2 : Int) (0 : Int) (ByteArray.mk #[]), Bc.mk (9 : Int) (0 : Int) (ByteArray.mk #[])])) = (bcc (r ++ [Bc.mk (2 : Int) (0 : Int) e0, Bc.mk (9 : Int) (0 : Int) e0])) by simp)))
    · rw [if_neg h120]
      simp at h120
      let t4 : Tp pr := .i (show ((↑(List.map Line.ce l).length : Int) : Int) = (↑l.length : Int) by simp)
      let t6 : Tp pr := .m (show (decide ((0 : Int) ≤ (↑l.length : Int) ∧ (↑l.length : Int) ≤ (↑l.length : Int) ∧ (↑l.length : Int) ≤ (4294967296 : Int))) = true by (simp; omega))
      let t7 : Tp pr := .c (show ((↑l.length : Int).toNat : Nat) = l.length by omega)
      let t8 : Tp pr := .n .crows (rfl : (List.replicate l.length [C.t (T.int IntKind.i64 (0 : Int))]) = _)
      let t11 : Tp pr := .i (show ((↑(List.map Line.ce l).length : Int) : Int) = (↑l.length : Int) by simp)
      let t13 : Tp pr := .m (show (decide ((0 : Int) ≤ (↑l.length : Int) ∧ (↑l.length : Int) ≤ (↑l.length : Int) ∧ (↑l.length : Int) ≤ (4294967296 : Int))) = true by (simp; omega))
      let t14 : Tp pr := .c (show ((↑l.length : Int).toNat : Nat) = l.length by omega)
      let t15 : Tp pr := .n .crows (rfl : (List.replicate l.length [C.t (T.int IntKind.i64 (0 : Int))]) = _)
      let t19 : Tp pr := .i (show ((↑(List.map Line.ce l).length : Int) : Int) = (↑l.length : Int) by simp)
      let t20 : Tp pr := .a (Ev.castq (congrArg (fun x => Q.loop (lq pr (27 : FuncId) (0 : Nat)) (at_ [((4 : Nat), V.t (T.seq (1 : Nat) (List.map intt W))), ((6 : Nat), V.vec (0 : Nat) l.length (1 : Nat) (0 : Nat) l.length), ((7 : Nat), V.vec (1 : Nat) l.length (1 : Nat) (0 : Nat) l.length), ((8 : Nat), V.vec (2 : Nat) (0 : Nat) (3 : Nat) (0 : Nat) (0 : Nat)), ((26 : Nat), lines l), ((27 : Nat), i64 (↑l.length : Int)), ((28 : Nat), i64 (↑(0 : Nat) : Int))] [Ob.vec true (1 : Nat) x, Ob.vec true (1 : Nat) x, Ob.vec true (3 : Nat) (bcc [])] (0 : Nat))) (show (ints (List.replicate l.length (0 : Int))) = (List.replicate l.length [C.t (T.int IntKind.i64 (0 : Int))]) by simp)) (hL))
      let t22 : Tp pr := .m (show (decide ((bcc r).length = r.length ∧ (0 : Nat) + r.length ≤ r.length ∧ r.length + (2 : Nat) ≤ (4294967296 : Nat))) = true by (simp; omega))
      let t23 : Tp pr := .b (show (decide (r.length + (2 : Nat) ≤ r.length)) = false by simp)
      let t25 : Tp pr := .n .crows (show ((List.take r.length (bcc r)).append (List.take (2 : Nat) (List.drop (0 : Nat) [[C.t (T.int IntKind.i64 (2 : Int)), C.t (T.int IntKind.i64 (0 : Int)), C.t (T.str (ByteArray.mk #[]))], [C.t (T.int IntKind.i64 (9 : Int)), C.t (T.int IntKind.i64 (0 : Int)), C.t (T.str (ByteArray.mk #[]))]]))) = bcc (r ++ [Bc.mk (2 : Int) (0 : Int) (ByteArray.mk #[]), Bc.mk (9 : Int) (0 : Int) (ByteArray.mk #[])]) by simp)
      let t26 : Tp pr := .i (show ((↑(r.length + (2 : Nat)) : Int) : Int) = (↑r.length : Int) + (2 : Int) by omega)
      let t27 : Tp pr := .b (show (decide ((↑r.length : Int) + (2 : Int) > (120 : Int))) = true by (simp; omega))
      exact .tp [.a (hg), .b (rfl : false = false), .a (he), .m (rfl : true = true), t4, .m (rfl : true = true), t6, t7, t8, .m (rfl : true = true), .m (rfl : true = true), t11, .m (rfl : true = true), t13, t14, t15, .m (rfl : true = true), .m (rfl : true = true), .m (rfl : true = true), t19, t20, .m (rfl : true = true), t22, t23, .c (rfl : (r.length + (2 : Nat)) = _), t25, t26, t27] (by kernel_rfl)
end Go.Ev

/- Code that is made of a program: the reference's. -/
namespace Go.Ev
set_option linter.unusedVariables false
set_option linter.unusedSimpArgs false
open Go.Proofs
set_option maxRecDepth 100000
set_option linter.unusedVariables false
set_option maxHeartbeats 1000000
attribute [local simp] e0
theorem l17EndsL_ev (l : List Line) (hl : l.length ≤ 1048576) (W st' junk' : List Int) : ∀ (rest done : List Line) (i : Int) (out st junk : List Int), l = done ++ rest → i = done.length → out.length = l.length → (∀ k ∈ st, 0 ≤ k ∧ k < l.length) → st.length ≤ done.length →
    endsGo rest i out st junk = some (W, st', junk') →
    Ev pr (.loop (lq pr 81 0) (at_ [(3, .vec 0 l.length 1 0 l.length), (4, .vec 1 (st.length + junk.length) 1 0 st.length), (11, lines l), (12, i64 l.length), (13, i64 i)] [.vec true 1 (ints out), .vec true 1 (ints (st.reverse ++ junk))] 0))
      (.exit 0 (at_ [(3, .vec 0 l.length 1 0 l.length)] [.vec true 1 (ints W)] 0))
  | [], done, i, out, st, junk, h, hi, ho, hs, hd, he => by
    have hll : (l.length : Int) = done.length := by simp [h]
    simp [endsGo] at he
    rw [← he.1]
    let t0 : Tp pr := .b (show (decide (i < (↑l.length : Int))) = false by (simp; omega))
    exact .tp [t0] (by kernel_rfl)
  | x :: rest, done, i, out, st, junk, h, hi, ho, hs, hd, he => by
    have hll : (l.length : Int) = done.length + 1 + rest.length := by simp [h]; omega
    have hg : lkp (l.map Line.ce) i = some x.ce := by subst hi; subst h; simp
    have hdl : (done ++ [x]).length = done.length + 1 := by simp
    unfold endsGo at he
    by_cases h2 : x.kind = 2
    · rw [if_pos h2] at he
      have ih := l17EndsL_ev l hl W st' junk' rest (done ++ [x]) (i + 1) out (i :: st) junk.tail (by simp [h]) (by simp [hi]) ho (List.forall_mem_cons.2 ⟨by omega, hs⟩) (by simp; omega) he
      clear he
      cases junk with
      | nil => 
        let t0 : Tp pr := .b (show (decide (i < (↑l.length : Int))) = true by (simp; omega))
        let t1 : Tp pr := .g .row (show (lkp (List.map Line.ce l) i) = some (x.ce) from hg)
        let t2 : Tp pr := .b (show (decide (x.kind = (2 : Int))) = true by (simp; omega))
        let t4 : Tp pr := .m (show (decide ((ints (st.reverse ++ [])).length = st.length + (0 : Nat) ∧ (0 : Nat) + st.length ≤ st.length + (0 : Nat) ∧ st.length + (1 : Nat) ≤ (4294967296 : Nat))) = true by (simp; omega))
        let t5 : Tp pr := .b (show (decide (st.length + (1 : Nat) ≤ st.length + (0 : Nat))) = false by simp)
        let t7 : Tp pr := .n .crows (show ((List.take st.length (ints (st.reverse ++ []))).append (List.take (1 : Nat) (List.drop (0 : Nat) [[C.t (T.int IntKind.i64 i)]]))) = ints st.reverse ++ [[C.t (T.int IntKind.i64 i)]] by simp)
        let t8 : Tp pr := .i (wrap_i64 (a := i + (1 : Int)) (by omega) (by omega))
        let t9 : Tp pr := .a (Ev.castq (congrArg (fun x => Q.loop (lq pr (81 : FuncId) (0 : Nat)) (at_ [((3 : Nat), V.vec (0 : Nat) l.length (1 : Nat) (0 : Nat) l.length), ((4 : Nat), V.vec (1 : Nat) ((i :: st).length + [].tail.length) (1 : Nat) (0 : Nat) (i :: st).length), ((11 : Nat), lines l), ((12 : Nat), i64 (↑l.length : Int)), ((13 : Nat), i64 (i + (1 : Int)))] [Ob.vec true (1 : Nat) (ints out), Ob.vec true (1 : Nat) x] (0 : Nat))) (show (ints ((i :: st).reverse ++ [].tail)) = ((ints st.reverse).append [[C.t (T.int IntKind.i64 i)]]) by simp [ints_app, ints_cons, intc])) (ih))
        exact .tp [t0, t1, t2, .m (rfl : true = true), t4, t5, .c (rfl : (st.length + (1 : Nat)) = _), t7, t8, t9] (by kernel_rfl)
      | cons j junk => 
        let t0 : Tp pr := .b (show (decide (i < (↑l.length : Int))) = true by (simp; omega))
        let t1 : Tp pr := .g .row (show (lkp (List.map Line.ce l) i) = some (x.ce) from hg)
        let t2 : Tp pr := .b (show (decide (x.kind = (2 : Int))) = true by (simp; omega))
        let t4 : Tp pr := .m (show (decide ((ints (st.reverse ++ j :: junk)).length = st.length + (j :: junk).length ∧ (0 : Nat) + st.length ≤ st.length + (j :: junk).length ∧ st.length + (1 : Nat) ≤ (4294967296 : Nat))) = true by (simp; omega))
        let t5 : Tp pr := .b (show (decide (st.length + (1 : Nat) ≤ st.length + (j :: junk).length)) = true by simp)
        let t7 : Tp pr := .n .crows (show (((List.take st.length (ints (st.reverse ++ j :: junk))).append (List.take (1 : Nat) (List.drop (0 : Nat) [[C.t (T.int IntKind.i64 i)]]))).append (List.drop (st.length + (1 : Nat)) (ints (st.reverse ++ j :: junk)))) = ints st.reverse ++ [C.t (T.int IntKind.i64 i)] :: ints junk by simp)
        let t8 : Tp pr := .i (wrap_i64 (a := i + (1 : Int)) (by omega) (by omega))
        let t9 : Tp pr := .a (Ev.castq ((congrArg (fun x => Q.loop (lq pr (81 : FuncId) (0 : Nat)) (at_ [((3 : Nat), V.vec (0 : Nat) l.length (1 : Nat) (0 : Nat) l.length), ((4 : Nat), V.vec (1 : Nat) x (1 : Nat) (0 : Nat) (i :: st).length), ((11 : Nat), lines l), ((12 : Nat), i64 (↑l.length : Int)), ((13 : Nat), i64 (i + (1 : Int)))] [Ob.vec true (1 : Nat) (ints out), Ob.vec true (1 : Nat) (ints ((i :: st).reverse ++ (j :: junk).tail))] (0 : Nat))) (show ((i :: st).length + (j :: junk).tail.length) = (st.length + (j :: junk).length) by (simp; omega))).trans (congrArg (fun x => Q.loop (lq pr (81 : FuncId) (0 : Nat)) (at_ [((3 : Nat), V.vec (0 : Nat) l.length (1 : Nat) (0 : Nat) l.length), ((4 : Nat), V.vec (1 : Nat) (st.length + (j :: junk).length) (1 : Nat) (0 : Nat) (i :: st).length), ((11 : Nat), lines l), ((12 : Nat), i64 (↑l.length : Int)), ((13 : Nat), i64 (i + (1 : Int)))] [Ob.vec true (1 : Nat) (ints out), Ob.vec true (1 : Nat) x] (0 : Nat))) (show (ints ((i :: st).reverse ++ (j :: junk).tail)) = ((ints st.reverse).append ([C.t (T.int IntKind.i64 i)] :: ints junk)) by simp [ints_app, ints_cons, intc]))) (ih))
        exact .tp [t0, t1, t2, .m (rfl : true = true), t4, t5, .c (rfl : (st.length + (1 : Nat)) = _), t7, t8, t9] (by kernel_rfl)
    · rw [if_neg h2] at he
      by_cases h3 : x.kind = 3
      · rw [if_pos h3] at he
        cases st with
        | nil => cases he
        | cons j st0 =>
          dsimp only at he
          have hj := hs j (by simp)
          have ih := l17EndsL_ev l hl W st' junk' rest (done ++ [x]) (i + 1) ((out.set i.toNat j).set j.toNat i) st0 (j :: junk) (by simp [h]) (by simp [hi]) (by simp [ho]) (by intro k hk; exact hs k (by simp [hk])) (by simp at hd ⊢; omega) he
          have g1 := ints_get (l := out) (k := i.toNat) (by omega)
          have g2 := ints_get (l := out.set i.toNat j) (k := j.toNat) (by simp; omega)
          clear he
          let t0 : Tp pr := .b (show (decide (i < (↑l.length : Int))) = true by (simp; omega))
          let t1 : Tp pr := .g .row (show (lkp (List.map Line.ce l) i) = some (x.ce) from hg)
          let t2 : Tp pr := .b (show (decide (x.kind = (2 : Int))) = false by (simp; omega))
          let t3 : Tp pr := .b (show (decide (x.kind = (3 : Int))) = true by (simp; omega))
          let t4 : Tp pr := .i (show ((↑(j :: st0).length : Int) : Int) = (↑st0.length : Int) + (1 : Int) by simp)
          let t5 : Tp pr := .i (wrap_i64 (a := (↑st0.length : Int) + (1 : Int) - (1 : Int)) (by omega) (by (simp at *; omega)))
          let t6 : Tp pr := .m (show (decide ((0 : Int) ≤ (↑st0.length : Int) + (1 : Int) - (1 : Int) ∧ ((↑st0.length : Int) + (1 : Int) - (1 : Int)).toNat < (j :: st0).length)) = true by simp)
          let t7 : Tp pr := .c (show ((0 : Nat) + ((↑st0.length : Int) + (1 : Int) - (1 : Int)).toNat : Nat) = st0.length by omega)
          let t8 : Tp pr := .m (show (decide ((ints ((j :: st0).reverse ++ junk)).length = (j :: st0).length + junk.length)) = true by (simp; omega))
          let t9 : Tp pr := .g .crow (show ((ints ((j :: st0).reverse ++ junk))[st0.length]?) = some (intc j) by simp)
          let t10 : Tp pr := .m (show (decide ((0 : Int) ≤ i ∧ i.toNat < l.length)) = true by simp [*])
          let t11 : Tp pr := .c (show ((0 : Nat) + i.toNat : Nat) = i.toNat by omega)
          let t12 : Tp pr := .m (show (decide ((ints out).length = l.length)) = true by simp [*])
          let t13 : Tp pr := .g .crow (show ((ints out)[i.toNat]?) = some (intc (out.getD i.toNat (0 : Int))) from g1)
          let t14 : Tp pr := .n .crows (show ((ints out).set i.toNat [C.t (T.int IntKind.i64 j)]) = ints (out.set i.toNat j) by simp)
          let t15 : Tp pr := .m (show (decide ((0 : Int) ≤ (↑st0.length : Int) + (1 : Int) - (1 : Int) ∧ ((↑st0.length : Int) + (1 : Int) - (1 : Int)).toNat < (j :: st0).length)) = true by simp)
          let t16 : Tp pr := .c (show ((0 : Nat) + ((↑st0.length : Int) + (1 : Int) - (1 : Int)).toNat : Nat) = st0.length by omega)
          let t17 : Tp pr := .m (show (decide ((ints ((j :: st0).reverse ++ junk)).length = (j :: st0).length + junk.length)) = true by (simp; omega))
          let t18 : Tp pr := .g .crow (show ((ints ((j :: st0).reverse ++ junk))[st0.length]?) = some (intc j) by simp)
          let t19 : Tp pr := .m (show (decide ((0 : Int) ≤ j ∧ j.toNat < l.length)) = true by (simp; omega))
          let t20 : Tp pr := .c (show ((0 : Nat) + j.toNat : Nat) = j.toNat by omega)
          let t21 : Tp pr := .m (show (decide ((ints (out.set i.toNat j)).length = l.length)) = true by simp [*])
          let t22 : Tp pr := .g .crow (show ((ints (out.set i.toNat j))[j.toNat]?) = some (intc ((out.set i.toNat j).getD j.toNat (0 : Int))) from g2)
          let t23 : Tp pr := .n .crows (show ((ints (out.set i.toNat j)).set j.toNat [C.t (T.int IntKind.i64 i)]) = ints ((out.set i.toNat j).set j.toNat i) by simp)
          let t24 : Tp pr := .m (show (decide ((0 : Int) ≤ (0 : Int) ∧ (0 : Int) ≤ (↑st0.length : Int) + (1 : Int) - (1 : Int) ∧ (0 : Nat) + ((↑st0.length : Int) + (1 : Int) - (1 : Int)).toNat ≤ (j :: st0).length + junk.length)) = true by (simp; omega))
          let t26 : Tp pr := .c (show (((↑st0.length : Int) + (1 : Int) - (1 : Int)).toNat - (0 : Nat) : Nat) = st0.length by omega)
          let t27 : Tp pr := .i (wrap_i64 (a := i + (1 : Int)) (by omega) (by omega))
          let t28 : Tp pr := .a (Ev.castq ((congrArg (fun x => Q.loop (lq pr (81 : FuncId) (0 : Nat)) (at_ [((3 : Nat), V.vec (0 : Nat) l.length (1 : Nat) (0 : Nat) l.length), ((4 : Nat), V.vec (1 : Nat) x (1 : Nat) (0 : Nat) st0.length), ((11 : Nat), lines l), ((12 : Nat), i64 (↑l.length : Int)), ((13 : Nat), i64 (i + (1 : Int)))] [Ob.vec true (1 : Nat) (ints ((out.set i.toNat j).set j.toNat i)), Ob.vec true (1 : Nat) (ints (st0.reverse ++ j :: junk))] (0 : Nat))) (show (st0.length + (j :: junk).length) = ((j :: st0).length + junk.length) by (simp; omega))).trans (congrArg (fun x => Q.loop (lq pr (81 : FuncId) (0 : Nat)) (at_ [((3 : Nat), V.vec (0 : Nat) l.length (1 : Nat) (0 : Nat) l.length), ((4 : Nat), V.vec (1 : Nat) ((j :: st0).length + junk.length) (1 : Nat) (0 : Nat) st0.length), ((11 : Nat), lines l), ((12 : Nat), i64 (↑l.length : Int)), ((13 : Nat), i64 (i + (1 : Int)))] [Ob.vec true (1 : Nat) (ints ((out.set i.toNat j).set j.toNat i)), Ob.vec true (1 : Nat) x] (0 : Nat))) (show (ints (st0.reverse ++ j :: junk)) = (ints ((j :: st0).reverse ++ junk)) by simp [ints_app, ints_cons, intc]))) (ih))
          exact .tp [t0, t1, t2, t3, t4, t5, t6, t7, t8, t9, t10, t11, t12, t13, t14, t15, t16, t17, t18, t19, t20, t21, t22, t23, t24, .c (rfl : ((0 : Nat)) = _), t26, t27, t28] (by kernel_rfl)
      · rw [if_neg h3] at he
        have ih := l17EndsL_ev l hl W st' junk' rest (done ++ [x]) (i + 1) out st junk (by simp [h]) (by simp [hi]) ho hs (by simp; omega) he
        clear he
        let t0 : Tp pr := .b (show (decide (i < (↑l.length : Int))) = true by (simp; omega))
        let t1 : Tp pr := .g .row (show (lkp (List.map Line.ce l) i) = some (x.ce) from hg)
        let t2 : Tp pr := .b (show (decide (x.kind = (2 : Int))) = false by (simp; omega))
        let t3 : Tp pr := .b (show (decide (x.kind = (3 : Int))) = false by (simp; omega))
        let t4 : Tp pr := .i (wrap_i64 (a := i + (1 : Int)) (by omega) (by omega))
        exact .tp [t0, t1, t2, t3, t4, .a (ih)] (by kernel_rfl)
theorem l17Ends_ev (l : List Line) (hl : l.length ≤ 1048576) (W junk : List Int) (h : endsGo l 0 (List.replicate l.length 0) [] [] = some (W, [], junk)) : Ev pr (.call 81 [lines l] []) (.val (.t (.seq 1 (W.map intt))) []) := by
  have hL := l17EndsL_ev l hl W [] junk l [] 0 (List.replicate l.length 0) [] [] rfl rfl (by simp) (by simp) (by simp) h
  have hol := endsGo_len _ _ _ _ _ _ _ _ h
  simp at hol
  clear h
  let t0 : Tp pr := .i (show ((↑(List.map Line.ce l).length : Int) : Int) = (↑l.length : Int) by simp)
  let t1 : Tp pr := .m (show (decide ((0 : Int) ≤ (↑l.length : Int) ∧ (↑l.length : Int) ≤ (↑l.length : Int) ∧ (↑l.length : Int) ≤ (4294967296 : Int))) = true by (simp; omega))
  let t2 : Tp pr := .c (show ((↑l.length : Int).toNat : Nat) = l.length by omega)
  let t3 : Tp pr := .n .crows (rfl : (List.replicate l.length [C.t (T.int IntKind.i64 (0 : Int))]) = _)
  let t4 : Tp pr := .i (show ((↑(List.map Line.ce l).length : Int) : Int) = (↑l.length : Int) by simp)
  let t5 : Tp pr := .a (Ev.castq (congrArg (fun x => Q.loop (lq pr (81 : FuncId) (0 : Nat)) (at_ [((3 : Nat), V.vec (0 : Nat) l.length (1 : Nat) (0 : Nat) l.length), ((4 : Nat), V.vec (1 : Nat) ((0 : Nat) + (0 : Nat)) (1 : Nat) (0 : Nat) (0 : Nat)), ((11 : Nat), lines l), ((12 : Nat), i64 (↑l.length : Int)), ((13 : Nat), i64 (0 : Int))] [Ob.vec true (1 : Nat) x, Ob.vec true (1 : Nat) (ints ([].reverse ++ []))] (0 : Nat))) (show (ints (List.replicate l.length (0 : Int))) = (List.replicate l.length [C.t (T.int IntKind.i64 (0 : Int))]) by simp [intt, ← hol])) (hL))
  let t6 : Tp pr := .m (show (decide ((ints W).length = l.length ∧ (0 : Nat) + l.length ≤ l.length)) = true by simp [*])
  let t7 : Tp pr := .n .rows (show (List.map (fun x => List.map C.fz x) (List.take l.length (List.drop (0 : Nat) (ints W)))) = List.take l.length (List.map intt W) by simp)
  exact .tpe [t0, t1, t2, t3, t4, t5, t6, t7] (Out.val (V.t (T.seq (1 : Nat) (List.take l.length (List.map intt W)))) []) (by kernel_rfl) (congrArg (fun x => Out.val (V.t (T.seq (1 : Nat) x)) []) (show (List.take l.length (List.map intt W)) = (List.map intt W) by simp [intt, ← hol]))
theorem mcSL_ev (p : List Line) (hl : p.length ≤ 12) (hs : ∀ x ∈ p, x.expr.length ≤ 1048576 ∧ ∀ y ∈ x.expr, y.text.size ≤ 9223372036854775807) (hk : ∀ x ∈ p, lineOk x = true) (W : List Int) (hWl : W.length = p.length) (hW : goodW p W) :
    ∀ (rest done : List Line) (B H : List Int) (o : List Bc), p = done ++ rest → B.length = p.length → H.length = p.length → o.length ≤ 250 * done.length →
    (∀ (j : Nat) (y : Line), j < done.length → p[j]? = some y → y.kind = 2 → ∃ h : Nat, H.getD j 0 = h ∧ h < o.length) →
    Ev pr (.loop (lq pr 61 0) (at_ [(3, .vec 0 o.length 3 0 o.length), (4, .vec 1 p.length 1 0 p.length), (5, .vec 2 p.length 1 0 p.length), (6, .t (.seq 1 (W.map intt))), (19, lines p), (20, i64 p.length), (21, i64 done.length)]
        [.vec true 3 (bcc o), .vec true 1 (ints B), .vec true 1 (ints H)] 0))
      (.exit 0 (at_ [(3, .vec 0 (makeGoS W rest done.length B H o).length 3 0 (makeGoS W rest done.length B H o).length)] [.vec true 3 (bcc (makeGoS W rest done.length B H o))] 0))
  | [], done, B, H, o, hp, hB, hH, ho, hh => by
    have hll : (p.length : Int) = done.length := by simp [hp]
    rw [show makeGoS W [] done.length B H o = o from rfl]
    let t0 : Tp pr := .b (show (decide ((↑done.length : Int) < (↑p.length : Int))) = false by (simp; omega))
    exact .tp [t0] (by kernel_rfl)
  | x :: rest, done, B, H, o, hp, hB, hH, ho, hh => by
    have hll : (p.length : Int) = done.length + 1 + rest.length := by simp [hp]; omega
    have hx : p[done.length]? = some x := by simp [hp]
    have hg : lkp (p.map Line.ce) (done.length : Int) = some x.ce := by rw [hp]; simp
    have hdl : (done ++ [x]).length = done.length + 1 := by simp
    have hp' : p = (done ++ [x]) ++ rest := by simp [hp]
    have gB := ints_get (l := B) (k := done.length) (by omega)
    have gH := ints_get (l := H) (k := done.length) (by omega)
    have hxe := l2Tree_ev x.expr (hs x (by simp [hp])).1 (hs x (by simp [hp])).2
    have ih := fun B H o => mcSL_ev p hl hs hk W hWl hW rest (done ++ [x]) B H o hp'
    simp only [hdl] at ih
    have old : ∀ (j : Nat) (y : Line), j < done.length + 1 → p[j]? = some y → y.kind = 2 → x.kind ≠ 2 → j < done.length := fun j y hj hy h2 hx2 => by
      by_cases e : j = done.length
      · subst e
        rw [hx] at hy
        obtain rfl := Option.some.inj hy
        exact absurd h2 hx2
      · omega
    rcases lineOk_kind (hk x (by simp [hp])) with ⟨h1, hn0, hn9, e, he⟩ | ⟨h2, e, he⟩ | h3
    · rw [parse_tree (parseL_parse he), parseL_parse he] at hxe
      have hz := parseL_size he
      have hm := l17Make_ev e o (by omega) (parseL_names he)
      have hcl := codeE_len e o
      rw [show makeGoS W (x :: rest) done.length B H o = makeGoS W rest (done.length + 1) (B.set done.length o.length) (H.set done.length (codeE e o).length) (codeE e o ++ [⟨3, x.name, e0⟩]) by simp [makeGoS, h1, codeL, he]]
      have ih1 := ih (B.set done.length o.length) (H.set done.length (codeE e o).length) (codeE e o ++ [⟨3, x.name, e0⟩]) (by simp [hB]) (by simp [hH]) (by simp; omega) (fun j y hj hy h2 => by
        by_cases ej : j = done.length
        · subst ej
          exact ⟨(codeE e o).length, by rw [List.getD_eq_getElem?_getD, List.getElem?_set, if_pos rfl, if_pos (by omega)]; rfl, by simp⟩
        · obtain ⟨h, q1, q2⟩ := hh j y (by omega) hy h2
          refine ⟨h, ?_, by simp; omega⟩
          rw [← q1]
          simp [List.getD_eq_getElem?_getD, List.getElem?_set, Ne.symm ej])
      let t0 : Tp pr := .b (show (decide ((↑done.length : Int) < (↑p.length : Int))) = true by (simp; omega))
      let t1 : Tp pr := .g .row (show (lkp (List.map Line.ce p) (↑done.length : Int)) = some (x.ce) from hg)
      let t3 : Tp pr := .m (show (decide ((0 : Int) ≤ (↑done.length : Int) ∧ (↑done.length : Int).toNat < p.length)) = true by simp [*])
      let t4 : Tp pr := .c (show ((0 : Nat) + (↑done.length : Int).toNat : Nat) = done.length by omega)
      let t5 : Tp pr := .m (show (decide ((ints B).length = p.length)) = true by simp [*])
      let t6 : Tp pr := .g .crow (show ((ints B)[done.length]?) = some (intc (B.getD done.length (0 : Int))) from gB)
      let t7 : Tp pr := .n .crows (show ((ints B).set done.length [C.t (T.int IntKind.i64 (↑o.length : Int))]) = ints (B.set done.length (↑o.length : Int)) by simp)
      let t8 : Tp pr := .b (show (decide (x.kind = (3 : Int))) = false by (simp; omega))
      let t11 : Tp pr := .i (rfl : ((↑(codeE e o).length : Int)) = _)
      let t12 : Tp pr := .m (show (decide ((0 : Int) ≤ (↑done.length : Int) ∧ (↑done.length : Int).toNat < p.length)) = true by simp [*])
      let t13 : Tp pr := .c (show ((0 : Nat) + (↑done.length : Int).toNat : Nat) = done.length by omega)
      let t14 : Tp pr := .m (show (decide ((ints H).length = p.length)) = true by simp [*])
      let t15 : Tp pr := .g .crow (show ((ints H)[done.length]?) = some (intc (H.getD done.length (0 : Int))) from gH)
      let t16 : Tp pr := .n .crows (show ((ints H).set done.length [C.t (T.int IntKind.i64 (↑(codeE e o).length : Int))]) = ints (H.set done.length (↑(codeE e o).length : Int)) by simp)
      let t17 : Tp pr := .b (show (decide (x.kind = (1 : Int))) = true by (simp; omega))
      let t19 : Tp pr := .m (show (decide ((bcc (codeE e o)).length = (codeE e o).length ∧ (0 : Nat) + (codeE e o).length ≤ (codeE e o).length ∧ (codeE e o).length + (1 : Nat) ≤ (4294967296 : Nat))) = true by (simp; omega))
      let t20 : Tp pr := .b (show (decide ((codeE e o).length + (1 : Nat) ≤ (codeE e o).length)) = false by simp)
      let t21 : Tp pr := .c (rfl : ((codeE e o).length + (1 : Nat)) = _)
      let t22 : Tp pr := .n .crows (show ((List.take (codeE e o).length (bcc (codeE e o))).append (List.take (1 : Nat) (List.drop (0 : Nat) [[C.t (T.int IntKind.i64 (3 : Int)), C.t (T.int IntKind.i64 x.name), C.t (T.str (ByteArray.mk #[]))]]))) = bcc (codeE e o ++ [Bc.mk (3 : Int) x.name (ByteArray.mk #[])]) by simp)
      let t23 : Tp pr := .i (wrap_i64 (a := (↑done.length : Int) + (1 : Int)) (by omega) (by omega))
      let t24 : Tp pr := .a (Ev.castq (congrArg (fun x_1 => Q.loop (lq pr (61 : FuncId) (0 : Nat)) (at_ [((3 : Nat), V.vec (0 : Nat) x_1 (3 : Nat) (0 : Nat) x_1), ((4 : Nat), V.vec (1 : Nat) p.length (1 : Nat) (0 : Nat) p.length), ((5 : Nat), V.vec (2 : Nat) p.length (1 : Nat) (0 : Nat) p.length), ((6 : Nat), V.t (T.seq (1 : Nat) (List.map intt W))), ((19 : Nat), lines p), ((20 : Nat), i64 (↑p.length : Int)), ((21 : Nat), i64 (↑(done.length + (1 : Nat)) : Int))] [Ob.vec true (3 : Nat) (bcc (codeE e o ++ [Bc.mk (3 : Int) x.name e0])), Ob.vec true (1 : Nat) (ints (B.set done.length (↑o.length : Int))), Ob.vec true (1 : Nat) (ints (H.set done.length (↑(codeE e o).length : Int)))] (0 : Nat))) (show ((codeE e o ++ [Bc.mk (3 : Int) x.name e0]).length) = ((codeE e o).length + (1 : Nat)) by simp [intc])) (ih1))
      exact .tp [t0, t1, .i (rfl : ((↑o.length : Int)) = _), t3, t4, t5, t6, t7, t8, .a (hxe), .a (hm), t11, t12, t13, t14, t15, t16, t17, .m (rfl : true = true), t19, t20, t21, t22, t23, t24] (by kernel_rfl)
    · rw [parse_tree (parseL_parse he), parseL_parse he] at hxe
      have hz := parseL_size he
      have hm := l17Make_ev e o (by omega) (parseL_names he)
      have hcl := codeE_len e o
      rw [show makeGoS W (x :: rest) done.length B H o = makeGoS W rest (done.length + 1) (B.set done.length o.length) (H.set done.length (codeE e o).length) (codeE e o ++ [⟨7, 0, e0⟩]) by simp [makeGoS, h2, codeL, he]]
      have ih1 := ih (B.set done.length o.length) (H.set done.length (codeE e o).length) (codeE e o ++ [⟨7, 0, e0⟩]) (by simp [hB]) (by simp [hH]) (by simp; omega) (fun j y hj hy h2 => by
        by_cases ej : j = done.length
        · subst ej
          exact ⟨(codeE e o).length, by rw [List.getD_eq_getElem?_getD, List.getElem?_set, if_pos rfl, if_pos (by omega)]; rfl, by simp⟩
        · obtain ⟨h, q1, q2⟩ := hh j y (by omega) hy h2
          refine ⟨h, ?_, by simp; omega⟩
          rw [← q1]
          simp [List.getD_eq_getElem?_getD, List.getElem?_set, Ne.symm ej])
      let t0 : Tp pr := .b (show (decide ((↑done.length : Int) < (↑p.length : Int))) = true by (simp; omega))
      let t1 : Tp pr := .g .row (show (lkp (List.map Line.ce p) (↑done.length : Int)) = some (x.ce) from hg)
      let t3 : Tp pr := .m (show (decide ((0 : Int) ≤ (↑done.length : Int) ∧ (↑done.length : Int).toNat < p.length)) = true by simp [*])
      let t4 : Tp pr := .c (show ((0 : Nat) + (↑done.length : Int).toNat : Nat) = done.length by omega)
      let t5 : Tp pr := .m (show (decide ((ints B).length = p.length)) = true by simp [*])
      let t6 : Tp pr := .g .crow (show ((ints B)[done.length]?) = some (intc (B.getD done.length (0 : Int))) from gB)
      let t7 : Tp pr := .n .crows (show ((ints B).set done.length [C.t (T.int IntKind.i64 (↑o.length : Int))]) = ints (B.set done.length (↑o.length : Int)) by simp)
      let t8 : Tp pr := .b (show (decide (x.kind = (3 : Int))) = false by (simp; omega))
      let t11 : Tp pr := .i (rfl : ((↑(codeE e o).length : Int)) = _)
      let t12 : Tp pr := .m (show (decide ((0 : Int) ≤ (↑done.length : Int) ∧ (↑done.length : Int).toNat < p.length)) = true by simp [*])
      let t13 : Tp pr := .c (show ((0 : Nat) + (↑done.length : Int).toNat : Nat) = done.length by omega)
      let t14 : Tp pr := .m (show (decide ((ints H).length = p.length)) = true by simp [*])
      let t15 : Tp pr := .g .crow (show ((ints H)[done.length]?) = some (intc (H.getD done.length (0 : Int))) from gH)
      let t16 : Tp pr := .n .crows (show ((ints H).set done.length [C.t (T.int IntKind.i64 (↑(codeE e o).length : Int))]) = ints (H.set done.length (↑(codeE e o).length : Int)) by simp)
      let t17 : Tp pr := .b (show (decide (x.kind = (1 : Int))) = false by (simp; omega))
      let t19 : Tp pr := .m (show (decide ((bcc (codeE e o)).length = (codeE e o).length ∧ (0 : Nat) + (codeE e o).length ≤ (codeE e o).length ∧ (codeE e o).length + (1 : Nat) ≤ (4294967296 : Nat))) = true by (simp; omega))
      let t20 : Tp pr := .b (show (decide ((codeE e o).length + (1 : Nat) ≤ (codeE e o).length)) = false by simp)
      let t21 : Tp pr := .c (rfl : ((codeE e o).length + (1 : Nat)) = _)
      let t22 : Tp pr := .n .crows (show ((List.take (codeE e o).length (bcc (codeE e o))).append (List.take (1 : Nat) (List.drop (0 : Nat) [[C.t (T.int IntKind.i64 (7 : Int)), C.t (T.int IntKind.i64 (0 : Int)), C.t (T.str (ByteArray.mk #[]))]]))) = bcc (codeE e o ++ [Bc.mk (7 : Int) (0 : Int) (ByteArray.mk #[])]) by simp)
      let t23 : Tp pr := .i (wrap_i64 (a := (↑done.length : Int) + (1 : Int)) (by omega) (by omega))
      let t24 : Tp pr := .a (Ev.castq (congrArg (fun x => Q.loop (lq pr (61 : FuncId) (0 : Nat)) (at_ [((3 : Nat), V.vec (0 : Nat) x (3 : Nat) (0 : Nat) x), ((4 : Nat), V.vec (1 : Nat) p.length (1 : Nat) (0 : Nat) p.length), ((5 : Nat), V.vec (2 : Nat) p.length (1 : Nat) (0 : Nat) p.length), ((6 : Nat), V.t (T.seq (1 : Nat) (List.map intt W))), ((19 : Nat), lines p), ((20 : Nat), i64 (↑p.length : Int)), ((21 : Nat), i64 (↑(done.length + (1 : Nat)) : Int))] [Ob.vec true (3 : Nat) (bcc (codeE e o ++ [Bc.mk (7 : Int) (0 : Int) e0])), Ob.vec true (1 : Nat) (ints (B.set done.length (↑o.length : Int))), Ob.vec true (1 : Nat) (ints (H.set done.length (↑(codeE e o).length : Int)))] (0 : Nat))) (show ((codeE e o ++ [Bc.mk (7 : Int) (0 : Int) e0]).length) = ((codeE e o).length + (1 : Nat)) by simp [intc])) (ih1))
      exact .tp [t0, t1, .i (rfl : ((↑o.length : Int)) = _), t3, t4, t5, t6, t7, t8, .a (hxe), .a (hm), t11, t12, t13, t14, t15, t16, t17, .m (rfl : true = true), t19, t20, t21, t22, t23, t24] (by kernel_rfl)
    · obtain ⟨j, y, e1, e2, e3, e4⟩ := hW _ x hx h3
      obtain ⟨h, q1, q2⟩ := hh j y e2 e3 e4
      have ej : jOf W done.length = j := by rw [jOf, e1]; simp
      have hgW : lkp (W.map intt) (done.length : Int) = some [T.int .i64 (j : Int)] := by
        rw [← e1, lkp, if_pos (by omega)]
        simp [List.getD_eq_getElem?_getD, intt, show done.length < W.length by omega]
      have g1 := ints_get (l := B.set done.length o.length) (k := j) (by simp; omega)
      have g2 := ints_get (l := H) (k := j) (by omega)
      rw [q1] at g2
      have g3 := bcc_getD (l := o ++ [⟨6, (B.set done.length o.length).getD j 0, e0⟩]) (k := h) (by simp; omega)
      rw [show makeGoS W (x :: rest) done.length B H o = makeGoS W rest (done.length + 1) (B.set done.length o.length) H (setN (o ++ [⟨6, (B.set done.length o.length).getD j 0, e0⟩]) h (o.length + 1)) by rw [makeGoS, if_pos h3, ej, q1, Int.toNat_natCast]]
      have ih1 := ih (B.set done.length o.length) H (setN (o ++ [⟨6, (B.set done.length o.length).getD j 0, e0⟩]) h (o.length + 1)) (by simp [hB]) hH (by simp; omega) (fun j y hj hy h2 => by
        obtain ⟨h, q1, q2⟩ := hh j y (old j y hj hy h2 (by omega)) hy h2
        exact ⟨h, q1, by simp; omega⟩)
      let t0 : Tp pr := .b (show (decide ((↑done.length : Int) < (↑p.length : Int))) = true by (simp; omega))
      let t1 : Tp pr := .g .row (show (lkp (List.map Line.ce p) (↑done.length : Int)) = some (x.ce) from hg)
      let t3 : Tp pr := .m (show (decide ((0 : Int) ≤ (↑done.length : Int) ∧ (↑done.length : Int).toNat < p.length)) = true by simp [*])
      let t4 : Tp pr := .c (show ((0 : Nat) + (↑done.length : Int).toNat : Nat) = done.length by omega)
      let t5 : Tp pr := .m (show (decide ((ints B).length = p.length)) = true by simp [*])
      let t6 : Tp pr := .g .crow (show ((ints B)[done.length]?) = some (intc (B.getD done.length (0 : Int))) from gB)
      let t7 : Tp pr := .n .crows (show ((ints B).set done.length [C.t (T.int IntKind.i64 (↑o.length : Int))]) = ints (B.set done.length (↑o.length : Int)) by simp)
      let t8 : Tp pr := .b (show (decide (x.kind = (3 : Int))) = true by (simp; omega))
      let t9 : Tp pr := .g .row (show (lkp (List.map intt W) (↑done.length : Int)) = some ([T.int IntKind.i64 (↑j : Int)]) from hgW)
      let t10 : Tp pr := .m (show (decide ((0 : Int) ≤ (↑j : Int) ∧ (↑j : Int).toNat < p.length)) = true by (simp; omega))
      let t11 : Tp pr := .c (show ((0 : Nat) + (↑j : Int).toNat : Nat) = j by omega)
      let t12 : Tp pr := .m (show (decide ((ints (B.set done.length (↑o.length : Int))).length = p.length)) = true by simp [*])
      let t13 : Tp pr := .g .crow (show ((ints (B.set done.length (↑o.length : Int)))[j]?) = some (intc ((B.set done.length (↑o.length : Int)).getD j (0 : Int))) from g1)
      let t15 : Tp pr := .m (show (decide ((bcc o).length = o.length ∧ (0 : Nat) + o.length ≤ o.length ∧ o.length + (1 : Nat) ≤ (4294967296 : Nat))) = true by (simp; omega))
      let t16 : Tp pr := .b (show (decide (o.length + (1 : Nat) ≤ o.length)) = false by simp)
      let t18 : Tp pr := .n .crows (show ((List.take o.length (bcc o)).append (List.take (1 : Nat) (List.drop (0 : Nat) [[C.t (T.int IntKind.i64 (6 : Int)), C.t (T.int IntKind.i64 ((B.set done.length (↑o.length : Int)).getD j (0 : Int))), C.t (T.str (ByteArray.mk #[]))]]))) = bcc (o ++ [Bc.mk (6 : Int) ((B.set done.length (↑o.length : Int))[j]?.getD (0 : Int)) (ByteArray.mk #[])]) by simp)
      let t19 : Tp pr := .g .row (show (lkp (List.map intt W) (↑done.length : Int)) = some ([T.int IntKind.i64 (↑j : Int)]) from hgW)
      let t20 : Tp pr := .m (show (decide ((0 : Int) ≤ (↑j : Int) ∧ (↑j : Int).toNat < p.length)) = true by (simp; omega))
      let t21 : Tp pr := .c (show ((0 : Nat) + (↑j : Int).toNat : Nat) = j by omega)
      let t22 : Tp pr := .m (show (decide ((ints H).length = p.length)) = true by simp [*])
      let t23 : Tp pr := .g .crow (show ((ints H)[j]?) = some (intc (↑h : Int)) from g2)
      let t24 : Tp pr := .i (show ((↑(o.length + (1 : Nat)) : Int) : Int) = (↑o.length : Int) + (1 : Int) by omega)
      let t25 : Tp pr := .m (show (decide ((0 : Int) ≤ (↑h : Int) ∧ (↑h : Int).toNat < o.length + (1 : Nat))) = true by (simp; omega))
      let t26 : Tp pr := .c (show ((0 : Nat) + (↑h : Int).toNat : Nat) = h by omega)
      let t27 : Tp pr := .m (show (decide ((bcc (o ++ [Bc.mk (6 : Int) ((B.set done.length (↑o.length : Int))[j]?.getD (0 : Int)) (ByteArray.mk #[])])).length = o.length + (1 : Nat))) = true by simp)
      let t28 : Tp pr := .g .crow (show ((bcc (o ++ [Bc.mk (6 : Int) ((B.set done.length (↑o.length : Int))[j]?.getD (0 : Int)) (ByteArray.mk #[])]))[h]?) = some ([C.t (T.int IntKind.i64 ((o ++ [Bc.mk (6 : Int) ((B.set done.length (↑o.length : Int)).getD j (0 : Int)) e0]).getD h bc0).op), C.t (T.int IntKind.i64 ((o ++ [Bc.mk (6 : Int) ((B.set done.length (↑o.length : Int)).getD j (0 : Int)) e0]).getD h bc0).n), C.t (T.str ((o ++ [Bc.mk (6 : Int) ((B.set done.length (↑o.length : Int)).getD j (0 : Int)) e0]).getD h bc0).text)]) from g3)
      let t29 : Tp pr := .n .crows (show ((bcc (o ++ [Bc.mk (6 : Int) ((B.set done.length (↑o.length : Int))[j]?.getD (0 : Int)) (ByteArray.mk #[])])).set h [C.t (T.int IntKind.i64 ((o ++ [Bc.mk (6 : Int) ((B.set done.length (↑o.length : Int)).getD j (0 : Int)) e0]).getD h (Bc.mk (0 : Int) (0 : Int) (ByteArray.mk #[]))).op), C.t (T.int IntKind.i64 ((↑o.length : Int) + (1 : Int))), C.t (T.str ((o ++ [Bc.mk (6 : Int) ((B.set done.length (↑o.length : Int)).getD j (0 : Int)) e0]).getD h (Bc.mk (0 : Int) (0 : Int) (ByteArray.mk #[]))).text)]) = bcc ((o ++ [Bc.mk (6 : Int) ((B.set done.length (↑o.length : Int))[j]?.getD (0 : Int)) (ByteArray.mk #[])]).set h (Bc.mk ((o ++ [Bc.mk (6 : Int) ((B.set done.length (↑o.length : Int))[j]?.getD (0 : Int)) (ByteArray.mk #[])])[h]?.getD (Bc.mk (0 : Int) (0 : Int) (ByteArray.mk #[]))).op ((↑o.length : Int) + (1 : Int)) ((o ++ [Bc.mk (6 : Int) ((B.set done.length (↑o.length : Int))[j]?.getD (0 : Int)) (ByteArray.mk #[])])[h]?.getD (Bc.mk (0 : Int) (0 : Int) (ByteArray.mk #[]))).text)) by simp)
      let t30 : Tp pr := .i (wrap_i64 (a := (↑done.length : Int) + (1 : Int)) (by omega) (by omega))
      let t31 : Tp pr := .a (Ev.castq (congrArg (fun x => Q.loop (lq pr (61 : FuncId) (0 : Nat)) (at_ [((3 : Nat), V.vec (0 : Nat) x (3 : Nat) (0 : Nat) x), ((4 : Nat), V.vec (1 : Nat) p.length (1 : Nat) (0 : Nat) p.length), ((5 : Nat), V.vec (2 : Nat) p.length (1 : Nat) (0 : Nat) p.length), ((6 : Nat), V.t (T.seq (1 : Nat) (List.map intt W))), ((19 : Nat), lines p), ((20 : Nat), i64 (↑p.length : Int)), ((21 : Nat), i64 (↑(done.length + (1 : Nat)) : Int))] [Ob.vec true (3 : Nat) (bcc (setN (o ++ [Bc.mk (6 : Int) ((B.set done.length (↑o.length : Int)).getD j (0 : Int)) e0]) h ((↑o.length : Int) + (1 : Int)))), Ob.vec true (1 : Nat) (ints (B.set done.length (↑o.length : Int))), Ob.vec true (1 : Nat) (ints H)] (0 : Nat))) (show ((setN (o ++ [Bc.mk (6 : Int) ((B.set done.length (↑o.length : Int)).getD j (0 : Int)) e0]) h ((↑o.length : Int) + (1 : Int))).length) = (o.length + (1 : Nat)) by simp [intc, setN])) (ih1))
      exact .tp [t0, t1, .i (rfl : ((↑o.length : Int)) = _), t3, t4, t5, t6, t7, t8, t9, t10, t11, t12, t13, .m (rfl : true = true), t15, t16, .c (rfl : (o.length + (1 : Nat)) = _), t18, t19, t20, t21, t22, t23, t24, t25, t26, t27, t28, t29, t30, t31] (by kernel_rfl)
theorem makeGoS_of (p : List Line) (W : List Int) (hW : goodW p W) : makeGoS W p 0 (List.replicate p.length 0) (List.replicate p.length 0) [] = makeGo W p 0 (List.replicate p.length 0) (List.replicate p.length 0) [] :=
  (makeGo_eq p W hW p [] _ _ _ _ rfl (by simp) (by simp) (fun _ _ h => by simp at h)).symm
theorem l17Code_ev (l : List Line) (h2 : l.length ≤ 12) (hs : ∀ x ∈ l, x.expr.length ≤ 1048576 ∧ ∀ y ∈ x.expr, y.text.size ≤ 9223372036854775807) (h3 : ∀ x ∈ l, lineOk x = true) (W junk : List Int) (hW : endsGo l 0 (List.replicate l.length 0) [] [] = some (W, [], junk)) :
    Ev pr (.call 61 [lines l] []) (.val (bcs (codeAll l W)) []) := by
  have he := l17Ends_ev l (by omega) W junk hW
  have hWl := endsGo_len _ _ _ _ _ _ _ _ hW
  have hL := mcSL_ev l h2 hs h3 W (by simpa using hWl) (goodW_of hW) l [] (List.replicate l.length 0) (List.replicate l.length 0) [] rfl (by simp) (by simp) (by simp) (by simp)
  have hlen := makeGo_len W l 0 (List.replicate l.length 0) (List.replicate l.length 0) []
  simp only [List.length_nil, Nat.zero_add] at hlen hL
  rw [makeGoS_of l W (goodW_of hW)] at hL
  unfold codeAll
  generalize makeGo W l 0 (List.replicate l.length 0) (List.replicate l.length 0) [] = r at *
  let t0 : Tp pr := .i (show ((↑(List.map Line.ce l).length : Int) : Int) = (↑l.length : Int) by simp)
  let t1 : Tp pr := .m (show (decide ((0 : Int) ≤ (↑l.length : Int) ∧ (↑l.length : Int) ≤ (↑l.length : Int) ∧ (↑l.length : Int) ≤ (4294967296 : Int))) = true by (simp; omega))
  let t2 : Tp pr := .c (show ((↑l.length : Int).toNat : Nat) = l.length by omega)
  let t3 : Tp pr := .n .crows (rfl : (List.replicate l.length [C.t (T.int IntKind.i64 (0 : Int))]) = _)
  let t4 : Tp pr := .i (show ((↑(List.map Line.ce l).length : Int) : Int) = (↑l.length : Int) by simp)
  let t5 : Tp pr := .m (show (decide ((0 : Int) ≤ (↑l.length : Int) ∧ (↑l.length : Int) ≤ (↑l.length : Int) ∧ (↑l.length : Int) ≤ (4294967296 : Int))) = true by (simp; omega))
  let t6 : Tp pr := .c (show ((↑l.length : Int).toNat : Nat) = l.length by omega)
  let t7 : Tp pr := .n .crows (rfl : (List.replicate l.length [C.t (T.int IntKind.i64 (0 : Int))]) = _)
  let t9 : Tp pr := .i (show ((↑(List.map Line.ce l).length : Int) : Int) = (↑l.length : Int) by simp)
  let t10 : Tp pr := .a (Ev.castq (congrArg (fun x => Q.loop (lq pr (61 : FuncId) (0 : Nat)) (at_ [((3 : Nat), V.vec (0 : Nat) (0 : Nat) (3 : Nat) (0 : Nat) (0 : Nat)), ((4 : Nat), V.vec (1 : Nat) l.length (1 : Nat) (0 : Nat) l.length), ((5 : Nat), V.vec (2 : Nat) l.length (1 : Nat) (0 : Nat) l.length), ((6 : Nat), V.t (T.seq (1 : Nat) (List.map intt W))), ((19 : Nat), lines l), ((20 : Nat), i64 (↑l.length : Int)), ((21 : Nat), i64 (↑(0 : Nat) : Int))] [Ob.vec true (3 : Nat) (bcc []), Ob.vec true (1 : Nat) x, Ob.vec true (1 : Nat) x] (0 : Nat))) (show (ints (List.replicate l.length (0 : Int))) = (List.replicate l.length [C.t (T.int IntKind.i64 (0 : Int))]) by simp [Bc.ce])) (hL))
  let t12 : Tp pr := .m (show (decide ((bcc r).length = r.length ∧ (0 : Nat) + r.length ≤ r.length ∧ r.length + (2 : Nat) ≤ (4294967296 : Nat))) = true by (simp; omega))
  let t13 : Tp pr := .b (show (decide (r.length + (2 : Nat) ≤ r.length)) = false by simp)
  let t15 : Tp pr := .n .crows (show ((List.take r.length (bcc r)).append (List.take (2 : Nat) (List.drop (0 : Nat) [[C.t (T.int IntKind.i64 (2 : Int)), C.t (T.int IntKind.i64 (0 : Int)), C.t (T.str (ByteArray.mk #[]))], [C.t (T.int IntKind.i64 (9 : Int)), C.t (T.int IntKind.i64 (0 : Int)), C.t (T.str (ByteArray.mk #[]))]]))) = bcc (r ++ [Bc.mk (2 : Int) (0 : Int) (ByteArray.mk #[]), Bc.mk (9 : Int) (0 : Int) (ByteArray.mk #[])]) by simp)
  let t16 : Tp pr := .m (show (decide ((bcc (r ++ [Bc.mk (2 : Int) (0 : Int) (ByteArray.mk #[]), Bc.mk (9 : Int) (0 : Int) (ByteArray.mk #[])])).length = r.length + (2 : Nat) ∧ (0 : Nat) + (r.length + (2 : Nat)) ≤ r.length + (2 : Nat))) = true by simp)
  let t17 : Tp pr := .n .rows (show (List.map (fun x => List.map C.fz x) (List.take (r.length + (2 : Nat)) (List.drop (0 : Nat) (bcc (r ++ [Bc.mk (2 : Int) (0 : Int) (ByteArray.mk #[]), Bc.mk (9 : Int) (0 : Int) (ByteArray.mk #[])]))))) = List.map Bc.ce r ++ [(Bc.mk (2 : Int) (0 : Int) (ByteArray.mk #[])).ce, (Bc.mk (9 : Int) (0 : Int) (ByteArray.mk #[])).ce] by simp)
  exact .tpe [t0, t1, t2, t3, t4, t5, t6, t7, .a (he), t9, t10, .m (rfl : true = true), t12, t13, .c (rfl : (r.length + (2 : Nat)) = _), t15, t16, t17] (Out.val (V.t (T.seq (3 : Nat) ((List.map Bc.ce r).append [[T.int IntKind.i64 (2 : Int), T.int IntKind.i64 (0 : Int), T.str (ByteArray.mk #[])], [T.int IntKind.i64 (9 : Int), T.int IntKind.i64 (0 : Int), T.str (ByteArray.mk #[])]]))) []) (by kernel_rfl) (congrArg (fun x => Out.val (V.t (T.seq (3 : Nat) x)) []) (show ((List.map Bc.ce r).append [[T.int IntKind.i64 (2 : Int), T.int IntKind.i64 (0 : Int), T.str (ByteArray.mk #[])], [T.int IntKind.i64 (9 : Int), T.int IntKind.i64 (0 : Int), T.str (ByteArray.mk #[])]]) = (List.map Bc.ce (r ++ [Bc.mk (2 : Int) (0 : Int) e0, Bc.mk (9 : Int) (0 : Int) e0])) by simp [Bc.ce]))
theorem MakeCodeS_ev (l : List Line) (hl : l.length ≤ 1048576) (hs : ∀ x ∈ l, x.expr.length ≤ 1048576 ∧ ∀ y ∈ x.expr, y.text.size ≤ 9223372036854775807) : Ev pr (.call 26 [lines l] []) (match makeCode l with
    | some c => .val (.tup [bcs c, bl true]) []
    | none => .val (.tup [.t (.seq 3 []), bl false]) []) := by
  have hg := GoodProgramS_ev l hl hs
  unfold makeCode
  cases hp : goodProgram l with
  | false => rw [hp] at hg; simp only [Bool.false_eq_true, if_false]; exact .tp [.a (hg), .b (rfl : true = true)] (by kernel_rfl)
  | true =>
    rw [hp] at hg
    obtain ⟨h1, h2, h3, W, junk, hW⟩ := goodProgram_all hp
    have hc := l17Code_ev l h2 hs h3 W junk hW
    simp only [hW, if_true]
    by_cases h120 : (codeAll l W).length ≤ 120
    · rw [if_pos h120]
      let t3 : Tp pr := .i (show ((↑(List.map Bc.ce (codeAll l W)).length : Int) : Int) = (↑(codeAll l W).length : Int) by simp)
      let t4 : Tp pr := .b (show (decide ((↑(codeAll l W).length : Int) > (120 : Int))) = false by (simp; omega))
      exact .tp [.a (hg), .b (rfl : false = false), .a (hc), t3, t4] (by kernel_rfl)
    · rw [if_neg h120]
      let t3 : Tp pr := .i (show ((↑(List.map Bc.ce (codeAll l W)).length : Int) : Int) = (↑(codeAll l W).length : Int) by simp)
      let t4 : Tp pr := .b (show (decide ((↑(codeAll l W).length : Int) > (120 : Int))) = true by (simp; omega))
      exact .tp [.a (hg), .b (rfl : false = false), .a (hc), t3, t4] (by kernel_rfl)
end Go.Ev

/- Marks. -/
namespace Go.Ev
set_option linter.unusedVariables false
set_option linter.unusedSimpArgs false
open Go.Proofs
set_option maxRecDepth 100000
set_option linter.unusedVariables false
set_option maxHeartbeats 1000000
attribute [local simp] e0
theorem markTextL_ev : ∀ (n : Nat) (k : Int) (o : ByteArray), 0 ≤ k → k < 10 ^ n → o.size + n ≤ 1000 → n ≤ 18 →
    Ev pr (.loop (lq pr 54 0) (at_ [(0, i64 k), (3, .t (.str o))] [] 0)) (.exit 0 (at_ [(3, .t (.str (mtGo n k o)))] [] 0))
  | 0, k, o, h0, h1, h2, h3 => by
    have hk : k = 0 := by simp at h1; omega
    subst hk
    exact .tp [.b (rfl : false = false)] (by kernel_rfl)
  | n + 1, k, o, h0, h1, h2, h3 => by
    have hp : (10 : Int) ^ (n + 1) = 10 * 10 ^ n := by rw [Int.pow_succ]; omega
    have hb : (10 : Int) ^ n ≤ 10 ^ 17 := by
      have : n ≤ 17 := by omega
      exact_mod_cast Nat.pow_le_pow_right (by omega) this
    have hb2 : (10 : Int) ^ 17 = 100000000000000000 := by decide
    have hm0 : 0 ≤ k.tmod 10 := Int.tmod_nonneg _ h0
    have hm1 : k.tmod 10 < 10 := Int.tmod_lt_of_pos _ (by omega)
    have hd : k.tdiv 10 = k / 10 := Int.tdiv_eq_ediv_of_nonneg h0
    have hs : (strOf [48 + k.tmod 10]).size = 1 := by simp [strOf_size]
    by_cases hk : k > 0
    · have ih := markTextL_ev n (k.tdiv 10) (strOf [48 + k.tmod 10] ++ o) (by omega) (by omega) (by rw [ByteArray.size_append]; omega) (by omega)
      have e : mtGo (n + 1) k o = mtGo n (k.tdiv 10) (strOf [48 + k.tmod 10] ++ o) := by simp [mtGo, hk]
      rw [e]
      let t0 : Tp pr := .b (show (decide (k > (0 : Int))) = true by (simp; omega))
      let t3 : Tp pr := .i (wrap_i64 (a := (48 : Int) + k.tmod (10 : Int)) (by omega) (by omega))
      let t4 : Tp pr := .i (wrap_u8 (a := (48 : Int) + k.tmod (10 : Int)) (by omega) (by omega))
      let t6 : Tp pr := .n .rows (show (List.map (fun x => List.map C.fz x) (List.take (1 : Nat) (List.drop (0 : Nat) [[C.t (T.int IntKind.u8 ((48 : Int) + k.tmod (10 : Int)))]]))) = [[(C.t (T.int IntKind.u8 ((48 : Int) + k.tmod (10 : Int)))).fz]] by simp)
      let t7 : Tp pr := .m (show (decide ((1 : Nat) + o.size ≤ (9223372036854775807 : Nat))) = true by (simp; omega))
      let t8 : Tp pr := .n .str (show ((ByteArray.mk (Array.mk [UInt8.ofNat ((48 : Int) + k.tmod (10 : Int)).toNat])).append o) = ByteArray.mk (Array.mk [UInt8.ofNat ((48 : Int) + k.tmod (10 : Int)).toNat]) ++ o by simp)
      let t10 : Tp pr := .i (wrap_i64 (a := k.tdiv (10 : Int)) (by omega) (by omega))
      exact .tp [t0, .m (rfl : true = true), .i (rfl : (k.tmod (10 : Int)) = _), t3, t4, .m (rfl : true = true), t6, t7, t8, .m (rfl : true = true), t10, .a (ih)] (by kernel_rfl)
    · have e : mtGo (n + 1) k o = o := by simp [mtGo, hk]
      rw [e]
      let t0 : Tp pr := .b (show (decide (k > (0 : Int))) = false by (simp; omega))
      exact .tp [t0] (by kernel_rfl)
theorem markText_ev (k : Int) (h0 : 0 ≤ k) (h : k ≤ 10000000000) : Ev pr (.call 54 [i64 k] []) (.val (.t (.str (mText k))) []) := by
  unfold mText
  by_cases hk : k ≤ 0
  · rw [if_pos hk]; (
    let t0 : Tp pr := .b (show (decide (k ≤ (0 : Int))) = true by (simp; omega))
    exact .tp [t0] (by kernel_rfl))
  · rw [if_neg hk]
    have hl := markTextL_ev 18 k ⟨#[]⟩ h0 (by omega) (by decide) (by omega)
    have hz : (mtGo 18 k ⟨#[]⟩).size ≤ 1000 := mtGo_size 18 k ⟨#[]⟩ (by decide)
    let t0 : Tp pr := .b (show (decide (k ≤ (0 : Int))) = false by (simp; omega))
    let t2 : Tp pr := .m (show (decide ((1 : Nat) + (mtGo (18 : Nat) k (ByteArray.mk #[])).size ≤ (9223372036854775807 : Nat))) = true by (simp; omega))
    let t3 : Tp pr := .n .str (show ((ByteArray.mk #[(109 : UInt8)]).append (mtGo (18 : Nat) k (ByteArray.mk #[]))) = ByteArray.mk #[(109 : UInt8)] ++ mtGo (18 : Nat) k (ByteArray.mk #[]) by simp)
    exact .tp [t0, .a (hl), t2, t3] (by kernel_rfl)
theorem markBcL_ev (mt : Int → ByteArray) (hmt : ∀ k, 0 ≤ k → k ≤ 10000000000 → Ev pr (.call 54 [i64 k] []) (.val (.t (.str (mt k))) [])) : ∀ (rest m : List Bc) (k : Int), 0 ≤ k → k + 3 * rest.length ≤ 9000000 → m.length + rest.length ≤ 1048576 →
    Ev pr (.loop (lq pr 21 0) (at_ [(0, .vec 0 (m.length + rest.length) 3 0 (m.length + rest.length)), (1, i64 k), (5, i64 m.length)] [.vec true 3 (bcc (m ++ rest))] 1))
      (.exit 0 (at_ [(1, i64 (k + 3 * rest.length))] [.vec true 3 (bcc (m ++ mark3 mt k rest.length))] 1))
  | [], m, k, h0, h1, h2 => by
    let t0 : Tp pr := .i (show ((↑(m.length + (0 : Nat)) : Int) : Int) = (↑m.length : Int) by omega)
    let t1 : Tp pr := .b (show (decide ((↑m.length : Int) < (↑m.length : Int))) = false by simp)
    exact .tpe [t0, t1] (Out.exit (0 : Nat) (at_ [((1 : Nat), V.t (T.int IntKind.i64 k))] [Ob.vec true (3 : Nat) (bcc (m ++ []))] (1 : Nat))) (by kernel_rfl) ((congrArg (fun x => Out.exit (0 : Nat) (at_ [((1 : Nat), V.t (T.int IntKind.i64 x))] [Ob.vec true (3 : Nat) (bcc (m ++ []))] (1 : Nat))) (show (k) = (k + (0 : Int)) by simp [mark3])).trans (congrArg (fun x => Out.exit (0 : Nat) (at_ [((1 : Nat), V.t (T.int IntKind.i64 (k + (0 : Int))))] [Ob.vec true (3 : Nat) x] (1 : Nat))) (show (bcc (m ++ [])) = (bcc (m ++ mark3 mt k (0 : Nat))) by simp [mark3])))
  | x :: rest, m, k, h0, h1, h2 => by
    simp at h1 h2
    have ht := hmt (k + 1 + 1) (by omega) (by omega)
    have ih := markBcL_ev mt hmt rest (m ++ [⟨k, k + 1, mt (k + 1 + 1)⟩]) (k + 1 + 1 + 1) (by omega) (by omega) (by simp; omega)
    let t0 : Tp pr := .i (show ((↑(m.length + (x :: rest).length) : Int) : Int) = (↑m.length : Int) + ((↑rest.length : Int) + (1 : Int)) by simp)
    let t1 : Tp pr := .b (show (decide ((↑m.length : Int) < (↑m.length : Int) + ((↑rest.length : Int) + (1 : Int)))) = true by (simp; omega))
    let t2 : Tp pr := .m (show (decide ((0 : Int) ≤ (↑m.length : Int) ∧ (↑m.length : Int).toNat < m.length + (x :: rest).length)) = true by simp)
    let t3 : Tp pr := .c (show ((0 : Nat) + (↑m.length : Int).toNat : Nat) = m.length by omega)
    let t4 : Tp pr := .m (show (decide ((bcc (m ++ x :: rest)).length = m.length + (x :: rest).length)) = true by simp)
    let t5 : Tp pr := .g .crow (show ((bcc (m ++ x :: rest))[m.length]?) = some ([C.t (T.int IntKind.i64 x.op), C.t (T.int IntKind.i64 x.n), C.t (T.str x.text)]) by simp)
    let t6 : Tp pr := .m (show (decide ((bcc (m ++ x :: rest)).length = m.length + (x :: rest).length)) = true by simp)
    let t7 : Tp pr := .g .crow (show ((bcc (m ++ x :: rest))[m.length]?) = some ([C.t (T.int IntKind.i64 x.op), C.t (T.int IntKind.i64 x.n), C.t (T.str x.text)]) by simp)
    let t8 : Tp pr := .n .crows (show ((bcc (m ++ x :: rest)).set m.length [C.t (T.int IntKind.i64 k), C.t (T.int IntKind.i64 x.n), C.t (T.str x.text)]) = bcc (m ++ Bc.mk k x.n x.text :: rest) by simp)
    let t9 : Tp pr := .i (wrap_i64 (a := k + (1 : Int)) (by omega) (by omega))
    let t10 : Tp pr := .m (show (decide ((0 : Int) ≤ (↑m.length : Int) ∧ (↑m.length : Int).toNat < m.length + (x :: rest).length)) = true by simp)
    let t11 : Tp pr := .c (show ((0 : Nat) + (↑m.length : Int).toNat : Nat) = m.length by omega)
    let t12 : Tp pr := .m (show (decide ((bcc (m ++ Bc.mk k x.n x.text :: rest)).length = m.length + (x :: rest).length)) = true by simp)
    let t13 : Tp pr := .g .crow (show ((bcc (m ++ Bc.mk k x.n x.text :: rest))[m.length]?) = some ([C.t (T.int IntKind.i64 k), C.t (T.int IntKind.i64 x.n), C.t (T.str x.text)]) by simp)
    let t14 : Tp pr := .n .crows (show ((bcc (m ++ Bc.mk k x.n x.text :: rest)).set m.length [C.t (T.int IntKind.i64 k), C.t (T.int IntKind.i64 (k + (1 : Int))), C.t (T.str x.text)]) = bcc (m ++ Bc.mk k (k + (1 : Int)) x.text :: rest) by simp)
    let t15 : Tp pr := .i (wrap_i64 (a := k + (1 : Int) + (1 : Int)) (by omega) (by omega))
    let t16 : Tp pr := .a (hmt (k + (1 : Int) + (1 : Int)) (by omega) (by omega))
    let t17 : Tp pr := .m (show (decide ((0 : Int) ≤ (↑m.length : Int) ∧ (↑m.length : Int).toNat < m.length + (x :: rest).length)) = true by simp)
    let t18 : Tp pr := .c (show ((0 : Nat) + (↑m.length : Int).toNat : Nat) = m.length by omega)
    let t19 : Tp pr := .m (show (decide ((bcc (m ++ Bc.mk k (k + (1 : Int)) x.text :: rest)).length = m.length + (x :: rest).length)) = true by simp)
    let t20 : Tp pr := .g .crow (show ((bcc (m ++ Bc.mk k (k + (1 : Int)) x.text :: rest))[m.length]?) = some ([C.t (T.int IntKind.i64 k), C.t (T.int IntKind.i64 (k + (1 : Int))), C.t (T.str x.text)]) by simp)
    let t21 : Tp pr := .n .crows (show ((bcc (m ++ Bc.mk k (k + (1 : Int)) x.text :: rest)).set m.length [C.t (T.int IntKind.i64 k), C.t (T.int IntKind.i64 (k + (1 : Int))), C.t (T.str (mt (k + (1 : Int) + (1 : Int))))]) = bcc (m ++ Bc.mk k (k + (1 : Int)) (mt (k + (1 : Int) + (1 : Int))) :: rest) by simp)
    let t22 : Tp pr := .i (wrap_i64 (a := k + (1 : Int) + (1 : Int) + (1 : Int)) (by omega) (by omega))
    let t23 : Tp pr := .i (wrap_i64 (a := (↑m.length : Int) + (1 : Int)) (by omega) (by omega))
    let t24 : Tp pr := .a (Ev.castq (((congrArg (fun x => Q.loop (lq pr (21 : FuncId) (0 : Nat)) (at_ [((0 : Nat), V.vec (0 : Nat) x (3 : Nat) (0 : Nat) x), ((1 : Nat), i64 (k + (1 : Int) + (1 : Int) + (1 : Int))), ((5 : Nat), i64 (↑(m ++ [Bc.mk k (k + (1 : Int)) (mt (k + (1 : Int) + (1 : Int)))]).length : Int))] [Ob.vec true (3 : Nat) (bcc (m ++ [Bc.mk k (k + (1 : Int)) (mt (k + (1 : Int) + (1 : Int)))] ++ rest))] (1 : Nat))) (show ((m ++ [Bc.mk k (k + (1 : Int)) (mt (k + (1 : Int) + (1 : Int)))]).length + rest.length) = (m.length + (x :: rest).length) by (simp [mark3] <;> omega))).trans (congrArg (fun x_1 => Q.loop (lq pr (21 : FuncId) (0 : Nat)) (at_ [((0 : Nat), V.vec (0 : Nat) (m.length + (x :: rest).length) (3 : Nat) (0 : Nat) (m.length + (x :: rest).length)), ((1 : Nat), i64 (k + (1 : Int) + (1 : Int) + (1 : Int))), ((5 : Nat), i64 x_1)] [Ob.vec true (3 : Nat) (bcc (m ++ [Bc.mk k (k + (1 : Int)) (mt (k + (1 : Int) + (1 : Int)))] ++ rest))] (1 : Nat))) (show ((↑(m ++ [Bc.mk k (k + (1 : Int)) (mt (k + (1 : Int) + (1 : Int)))]).length : Int)) = ((↑m.length : Int) + (1 : Int)) by (simp [mark3] <;> omega)))).trans (congrArg (fun x_1 => Q.loop (lq pr (21 : FuncId) (0 : Nat)) (at_ [((0 : Nat), V.vec (0 : Nat) (m.length + (x :: rest).length) (3 : Nat) (0 : Nat) (m.length + (x :: rest).length)), ((1 : Nat), i64 (k + (1 : Int) + (1 : Int) + (1 : Int))), ((5 : Nat), i64 ((↑m.length : Int) + (1 : Int)))] [Ob.vec true (3 : Nat) x_1] (1 : Nat))) (show (bcc (m ++ [Bc.mk k (k + (1 : Int)) (mt (k + (1 : Int) + (1 : Int)))] ++ rest)) = (bcc (m ++ Bc.mk k (k + (1 : Int)) (mt (k + (1 : Int) + (1 : Int))) :: rest)) by (simp [mark3] <;> omega)))) (ih))
    exact .tpe [t0, t1, t2, t3, t4, t5, t6, t7, t8, t9, t10, t11, t12, t13, t14, t15, t16, t17, t18, t19, t20, t21, t22, t23, t24] (Out.exit (0 : Nat) (at_ [((1 : Nat), V.t (T.int IntKind.i64 (k + (1 : Int) + (1 : Int) + (1 : Int) + (3 : Int) * (↑rest.length : Int))))] [Ob.vec true (3 : Nat) (bcc (m ++ [Bc.mk k (k + (1 : Int)) (mt (k + (1 : Int) + (1 : Int)))] ++ mark3 mt (k + (1 : Int) + (1 : Int) + (1 : Int)) rest.length))] (1 : Nat))) (by kernel_rfl) ((congrArg (fun x => Out.exit (0 : Nat) (at_ [((1 : Nat), V.t (T.int IntKind.i64 x))] [Ob.vec true (3 : Nat) (bcc (m ++ [Bc.mk k (k + (1 : Int)) (mt (k + (1 : Int) + (1 : Int)))] ++ mark3 mt (k + (1 : Int) + (1 : Int) + (1 : Int)) rest.length))] (1 : Nat))) (show (k + (1 : Int) + (1 : Int) + (1 : Int) + (3 : Int) * (↑rest.length : Int)) = (k + (3 : Int) * (↑(x :: rest).length : Int)) by (simp [mark3] <;> omega))).trans (congrArg (fun x_1 => Out.exit (0 : Nat) (at_ [((1 : Nat), V.t (T.int IntKind.i64 (k + (3 : Int) * (↑(x :: rest).length : Int))))] [Ob.vec true (3 : Nat) x_1] (1 : Nat))) (show (bcc (m ++ [Bc.mk k (k + (1 : Int)) (mt (k + (1 : Int) + (1 : Int)))] ++ mark3 mt (k + (1 : Int) + (1 : Int) + (1 : Int)) rest.length)) = (bcc (m ++ mark3 mt k (x :: rest).length)) by (simp [mark3] <;> omega))))
theorem markBcS_ev (mt : Int → ByteArray) (hmt : ∀ k, 0 ≤ k → k ≤ 10000000000 → Ev pr (.call 54 [i64 k] []) (.val (.t (.str (mt k))) [])) (l : List Bc) (k : Int) (h0 : 0 ≤ k) (h : k + 3 * l.length ≤ 9000000) (h2 : l.length ≤ 1048576) : Ev pr (.call 21 [.vec 0 l.length 3 0 l.length, i64 k] [.vec true 3 (bcc l)]) (.val (i64 (k + 3 * l.length)) [.vec true 3 (bcc (mark3 mt k l.length))]) := by
  have := markBcL_ev mt hmt l [] k h0 h (by simpa using h2)
  let t0 : Tp pr := .a (Ev.castq (congrArg (fun x => Q.loop (lq pr (21 : FuncId) (0 : Nat)) (at_ [((0 : Nat), V.vec (0 : Nat) x (3 : Nat) (0 : Nat) x), ((1 : Nat), i64 k), ((5 : Nat), i64 (↑(0 : Nat) : Int))] [Ob.vec true (3 : Nat) (bcc ([] ++ l))] (1 : Nat))) (show ((0 : Nat) + l.length) = (l.length) by simp)) (this))
  exact .tp [t0] (by kernel_rfl)
theorem markExL_ev (mt : Int → ByteArray) (hmt : ∀ k, 0 ≤ k → k ≤ 10000000000 → Ev pr (.call 54 [i64 k] []) (.val (.t (.str (mt k))) [])) : ∀ (rest m : List Bc) (k : Int), 0 ≤ k → k + 3 * rest.length ≤ 9000000 → m.length + rest.length ≤ 1048576 →
    Ev pr (.loop (lq pr 20 0) (at_ [(0, .vec 0 (m.length + rest.length) 3 0 (m.length + rest.length)), (1, i64 k), (5, i64 m.length)] [.vec true 3 (bcc (m ++ rest))] 1))
      (.exit 0 (at_ [(1, i64 (k + 3 * rest.length))] [.vec true 3 (bcc (m ++ mark3 mt k rest.length))] 1))
  | [], m, k, h0, h1, h2 => by
    let t0 : Tp pr := .i (show ((↑(m.length + (0 : Nat)) : Int) : Int) = (↑m.length : Int) by omega)
    let t1 : Tp pr := .b (show (decide ((↑m.length : Int) < (↑m.length : Int))) = false by simp)
    exact .tpe [t0, t1] (Out.exit (0 : Nat) (at_ [((1 : Nat), V.t (T.int IntKind.i64 k))] [Ob.vec true (3 : Nat) (bcc (m ++ []))] (1 : Nat))) (by kernel_rfl) ((congrArg (fun x => Out.exit (0 : Nat) (at_ [((1 : Nat), V.t (T.int IntKind.i64 x))] [Ob.vec true (3 : Nat) (bcc (m ++ []))] (1 : Nat))) (show (k) = (k + (0 : Int)) by simp [mark3])).trans (congrArg (fun x => Out.exit (0 : Nat) (at_ [((1 : Nat), V.t (T.int IntKind.i64 (k + (0 : Int))))] [Ob.vec true (3 : Nat) x] (1 : Nat))) (show (bcc (m ++ [])) = (bcc (m ++ mark3 mt k (0 : Nat))) by simp [mark3])))
  | x :: rest, m, k, h0, h1, h2 => by
    simp at h1 h2
    have ht := hmt (k + 1 + 1) (by omega) (by omega)
    have ih := markExL_ev mt hmt rest (m ++ [⟨k, k + 1, mt (k + 1 + 1)⟩]) (k + 1 + 1 + 1) (by omega) (by omega) (by simp; omega)
    let t0 : Tp pr := .i (show ((↑(m.length + (x :: rest).length) : Int) : Int) = (↑m.length : Int) + ((↑rest.length : Int) + (1 : Int)) by simp)
    let t1 : Tp pr := .b (show (decide ((↑m.length : Int) < (↑m.length : Int) + ((↑rest.length : Int) + (1 : Int)))) = true by (simp; omega))
    let t2 : Tp pr := .m (show (decide ((0 : Int) ≤ (↑m.length : Int) ∧ (↑m.length : Int).toNat < m.length + (x :: rest).length)) = true by simp)
    let t3 : Tp pr := .c (show ((0 : Nat) + (↑m.length : Int).toNat : Nat) = m.length by omega)
    let t4 : Tp pr := .m (show (decide ((bcc (m ++ x :: rest)).length = m.length + (x :: rest).length)) = true by simp)
    let t5 : Tp pr := .g .crow (show ((bcc (m ++ x :: rest))[m.length]?) = some ([C.t (T.int IntKind.i64 x.op), C.t (T.int IntKind.i64 x.n), C.t (T.str x.text)]) by simp)
    let t6 : Tp pr := .m (show (decide ((bcc (m ++ x :: rest)).length = m.length + (x :: rest).length)) = true by simp)
    let t7 : Tp pr := .g .crow (show ((bcc (m ++ x :: rest))[m.length]?) = some ([C.t (T.int IntKind.i64 x.op), C.t (T.int IntKind.i64 x.n), C.t (T.str x.text)]) by simp)
    let t8 : Tp pr := .n .crows (show ((bcc (m ++ x :: rest)).set m.length [C.t (T.int IntKind.i64 k), C.t (T.int IntKind.i64 x.n), C.t (T.str x.text)]) = bcc (m ++ Bc.mk k x.n x.text :: rest) by simp)
    let t9 : Tp pr := .i (wrap_i64 (a := k + (1 : Int)) (by omega) (by omega))
    let t10 : Tp pr := .m (show (decide ((0 : Int) ≤ (↑m.length : Int) ∧ (↑m.length : Int).toNat < m.length + (x :: rest).length)) = true by simp)
    let t11 : Tp pr := .c (show ((0 : Nat) + (↑m.length : Int).toNat : Nat) = m.length by omega)
    let t12 : Tp pr := .m (show (decide ((bcc (m ++ Bc.mk k x.n x.text :: rest)).length = m.length + (x :: rest).length)) = true by simp)
    let t13 : Tp pr := .g .crow (show ((bcc (m ++ Bc.mk k x.n x.text :: rest))[m.length]?) = some ([C.t (T.int IntKind.i64 k), C.t (T.int IntKind.i64 x.n), C.t (T.str x.text)]) by simp)
    let t14 : Tp pr := .n .crows (show ((bcc (m ++ Bc.mk k x.n x.text :: rest)).set m.length [C.t (T.int IntKind.i64 k), C.t (T.int IntKind.i64 (k + (1 : Int))), C.t (T.str x.text)]) = bcc (m ++ Bc.mk k (k + (1 : Int)) x.text :: rest) by simp)
    let t15 : Tp pr := .i (wrap_i64 (a := k + (1 : Int) + (1 : Int)) (by omega) (by omega))
    let t16 : Tp pr := .a (hmt (k + (1 : Int) + (1 : Int)) (by omega) (by omega))
    let t17 : Tp pr := .m (show (decide ((0 : Int) ≤ (↑m.length : Int) ∧ (↑m.length : Int).toNat < m.length + (x :: rest).length)) = true by simp)
    let t18 : Tp pr := .c (show ((0 : Nat) + (↑m.length : Int).toNat : Nat) = m.length by omega)
    let t19 : Tp pr := .m (show (decide ((bcc (m ++ Bc.mk k (k + (1 : Int)) x.text :: rest)).length = m.length + (x :: rest).length)) = true by simp)
    let t20 : Tp pr := .g .crow (show ((bcc (m ++ Bc.mk k (k + (1 : Int)) x.text :: rest))[m.length]?) = some ([C.t (T.int IntKind.i64 k), C.t (T.int IntKind.i64 (k + (1 : Int))), C.t (T.str x.text)]) by simp)
    let t21 : Tp pr := .n .crows (show ((bcc (m ++ Bc.mk k (k + (1 : Int)) x.text :: rest)).set m.length [C.t (T.int IntKind.i64 k), C.t (T.int IntKind.i64 (k + (1 : Int))), C.t (T.str (mt (k + (1 : Int) + (1 : Int))))]) = bcc (m ++ Bc.mk k (k + (1 : Int)) (mt (k + (1 : Int) + (1 : Int))) :: rest) by simp)
    let t22 : Tp pr := .i (wrap_i64 (a := k + (1 : Int) + (1 : Int) + (1 : Int)) (by omega) (by omega))
    let t23 : Tp pr := .i (wrap_i64 (a := (↑m.length : Int) + (1 : Int)) (by omega) (by omega))
    let t24 : Tp pr := .a (Ev.castq (((congrArg (fun x => Q.loop (lq pr (20 : FuncId) (0 : Nat)) (at_ [((0 : Nat), V.vec (0 : Nat) x (3 : Nat) (0 : Nat) x), ((1 : Nat), i64 (k + (1 : Int) + (1 : Int) + (1 : Int))), ((5 : Nat), i64 (↑(m ++ [Bc.mk k (k + (1 : Int)) (mt (k + (1 : Int) + (1 : Int)))]).length : Int))] [Ob.vec true (3 : Nat) (bcc (m ++ [Bc.mk k (k + (1 : Int)) (mt (k + (1 : Int) + (1 : Int)))] ++ rest))] (1 : Nat))) (show ((m ++ [Bc.mk k (k + (1 : Int)) (mt (k + (1 : Int) + (1 : Int)))]).length + rest.length) = (m.length + (x :: rest).length) by (simp [mark3] <;> omega))).trans (congrArg (fun x_1 => Q.loop (lq pr (20 : FuncId) (0 : Nat)) (at_ [((0 : Nat), V.vec (0 : Nat) (m.length + (x :: rest).length) (3 : Nat) (0 : Nat) (m.length + (x :: rest).length)), ((1 : Nat), i64 (k + (1 : Int) + (1 : Int) + (1 : Int))), ((5 : Nat), i64 x_1)] [Ob.vec true (3 : Nat) (bcc (m ++ [Bc.mk k (k + (1 : Int)) (mt (k + (1 : Int) + (1 : Int)))] ++ rest))] (1 : Nat))) (show ((↑(m ++ [Bc.mk k (k + (1 : Int)) (mt (k + (1 : Int) + (1 : Int)))]).length : Int)) = ((↑m.length : Int) + (1 : Int)) by (simp [mark3] <;> omega)))).trans (congrArg (fun x_1 => Q.loop (lq pr (20 : FuncId) (0 : Nat)) (at_ [((0 : Nat), V.vec (0 : Nat) (m.length + (x :: rest).length) (3 : Nat) (0 : Nat) (m.length + (x :: rest).length)), ((1 : Nat), i64 (k + (1 : Int) + (1 : Int) + (1 : Int))), ((5 : Nat), i64 ((↑m.length : Int) + (1 : Int)))] [Ob.vec true (3 : Nat) x_1] (1 : Nat))) (show (bcc (m ++ [Bc.mk k (k + (1 : Int)) (mt (k + (1 : Int) + (1 : Int)))] ++ rest)) = (bcc (m ++ Bc.mk k (k + (1 : Int)) (mt (k + (1 : Int) + (1 : Int))) :: rest)) by (simp [mark3] <;> omega)))) (ih))
    exact .tpe [t0, t1, t2, t3, t4, t5, t6, t7, t8, t9, t10, t11, t12, t13, t14, t15, t16, t17, t18, t19, t20, t21, t22, t23, t24] (Out.exit (0 : Nat) (at_ [((1 : Nat), V.t (T.int IntKind.i64 (k + (1 : Int) + (1 : Int) + (1 : Int) + (3 : Int) * (↑rest.length : Int))))] [Ob.vec true (3 : Nat) (bcc (m ++ [Bc.mk k (k + (1 : Int)) (mt (k + (1 : Int) + (1 : Int)))] ++ mark3 mt (k + (1 : Int) + (1 : Int) + (1 : Int)) rest.length))] (1 : Nat))) (by kernel_rfl) ((congrArg (fun x => Out.exit (0 : Nat) (at_ [((1 : Nat), V.t (T.int IntKind.i64 x))] [Ob.vec true (3 : Nat) (bcc (m ++ [Bc.mk k (k + (1 : Int)) (mt (k + (1 : Int) + (1 : Int)))] ++ mark3 mt (k + (1 : Int) + (1 : Int) + (1 : Int)) rest.length))] (1 : Nat))) (show (k + (1 : Int) + (1 : Int) + (1 : Int) + (3 : Int) * (↑rest.length : Int)) = (k + (3 : Int) * (↑(x :: rest).length : Int)) by (simp [mark3] <;> omega))).trans (congrArg (fun x_1 => Out.exit (0 : Nat) (at_ [((1 : Nat), V.t (T.int IntKind.i64 (k + (3 : Int) * (↑(x :: rest).length : Int))))] [Ob.vec true (3 : Nat) x_1] (1 : Nat))) (show (bcc (m ++ [Bc.mk k (k + (1 : Int)) (mt (k + (1 : Int) + (1 : Int)))] ++ mark3 mt (k + (1 : Int) + (1 : Int) + (1 : Int)) rest.length)) = (bcc (m ++ mark3 mt k (x :: rest).length)) by (simp [mark3] <;> omega))))
theorem markExS_ev (mt : Int → ByteArray) (hmt : ∀ k, 0 ≤ k → k ≤ 10000000000 → Ev pr (.call 54 [i64 k] []) (.val (.t (.str (mt k))) [])) (l : List Bc) (k : Int) (h0 : 0 ≤ k) (h : k + 3 * l.length ≤ 9000000) (h2 : l.length ≤ 1048576) : Ev pr (.call 20 [.vec 0 l.length 3 0 l.length, i64 k] [.vec true 3 (bcc l)]) (.val (i64 (k + 3 * l.length)) [.vec true 3 (bcc (mark3 mt k l.length))]) := by
  have := markExL_ev mt hmt l [] k h0 h (by simpa using h2)
  let t0 : Tp pr := .a (Ev.castq (congrArg (fun x => Q.loop (lq pr (20 : FuncId) (0 : Nat)) (at_ [((0 : Nat), V.vec (0 : Nat) x (3 : Nat) (0 : Nat) x), ((1 : Nat), i64 k), ((5 : Nat), i64 (↑(0 : Nat) : Int))] [Ob.vec true (3 : Nat) (bcc ([] ++ l))] (1 : Nat))) (show ((0 : Nat) + l.length) = (l.length) by simp)) (this))
  exact .tp [t0] (by kernel_rfl)
theorem heldBcL_ev (mt : Int → ByteArray) (hmt : ∀ k, 0 ≤ k → k ≤ 10000000000 → Ev pr (.call 54 [i64 k] []) (.val (.t (.str (mt k))) [])) : ∀ (n : Nat) (m : List Bc) (k : Int), 0 ≤ k → k + 3 * n ≤ 9000000 → m.length + n ≤ 1048576 →
    Ev pr (.loop (lq pr 22 0) (at_ [(0, bcs (m ++ mark3 mt k n)), (1, i64 k), (5, i64 m.length)] [] 0)) (.exit 0 (at_ [(1, i64 (k + 3 * n))] [] 0))
  | 0, m, k, h0, h1, h2 => by
    let t0 : Tp pr := .i (show ((↑(List.map Bc.ce (m ++ mark3 mt k (0 : Nat))).length : Int) : Int) = (↑m.length : Int) + (↑(mark3 mt k (0 : Nat)).length : Int) by simp)
    let t1 : Tp pr := .b (show (decide ((↑m.length : Int) < (↑m.length : Int) + (0 : Int))) = false by simp)
    exact .tpe [t0, t1] (Out.exit (0 : Nat) (at_ [((1 : Nat), V.t (T.int IntKind.i64 k))] [] (0 : Nat))) (by kernel_rfl) (congrArg (fun x => Out.exit (0 : Nat) (at_ [((1 : Nat), V.t (T.int IntKind.i64 x))] [] (0 : Nat))) (show (k) = (k + (0 : Int)) by simp [mark3]))
  | n + 1, m, k, h0, h1, h2 => by
    have ht := hmt (k + 1 + 1) (by omega) (by omega)
    have ih := heldBcL_ev mt hmt n (m ++ [⟨k, k + 1, mt (k + 1 + 1)⟩]) (k + 1 + 1 + 1) (by omega) (by omega) (by simp; omega)
    have hm := mark3_len mt (k + 1 + 1 + 1) n
    rw [show mark3 mt k (n + 1) = ⟨k, k + 1, mt (k + 1 + 1)⟩ :: mark3 mt (k + 1 + 1 + 1) n from rfl]
    let t0 : Tp pr := .i (show ((↑(List.map Bc.ce (m ++ Bc.mk k (k + (1 : Int)) (mt (k + (1 : Int) + (1 : Int))) :: mark3 mt (k + (1 : Int) + (1 : Int) + (1 : Int)) n)).length : Int) : Int) = (↑m.length : Int) + ((↑(mark3 mt (k + (1 : Int) + (1 : Int) + (1 : Int)) n).length : Int) + (1 : Int)) by simp)
    let t1 : Tp pr := .b (show (decide ((↑m.length : Int) < (↑m.length : Int) + ((↑(mark3 mt (k + (1 : Int) + (1 : Int) + (1 : Int)) n).length : Int) + (1 : Int)))) = true by (simp; omega))
    let t2 : Tp pr := .g .row (show (lkp (List.map Bc.ce (m ++ Bc.mk k (k + (1 : Int)) (mt (k + (1 : Int) + (1 : Int))) :: mark3 mt (k + (1 : Int) + (1 : Int) + (1 : Int)) n)) (↑m.length : Int)) = some ((Bc.mk k (k + (1 : Int)) (mt (k + (1 : Int) + (1 : Int)))).ce) by simp)
    let t4 : Tp pr := .i (wrap_i64 (a := k + (1 : Int)) (by omega) (by omega))
    let t5 : Tp pr := .g .row (show (lkp (List.map Bc.ce (m ++ Bc.mk k (k + (1 : Int)) (mt (k + (1 : Int) + (1 : Int))) :: mark3 mt (k + (1 : Int) + (1 : Int) + (1 : Int)) n)) (↑m.length : Int)) = some ((Bc.mk k (k + (1 : Int)) (mt (k + (1 : Int) + (1 : Int)))).ce) by simp)
    let t6 : Tp pr := .b (show (k + (1 : Int) != k + (1 : Int)) = false by simp)
    let t7 : Tp pr := .i (wrap_i64 (a := k + (1 : Int) + (1 : Int)) (by omega) (by omega))
    let t10 : Tp pr := .g .row (show (lkp (List.map Bc.ce (m ++ Bc.mk k (k + (1 : Int)) (mt (k + (1 : Int) + (1 : Int))) :: mark3 mt (k + (1 : Int) + (1 : Int) + (1 : Int)) n)) (↑m.length : Int)) = some ((Bc.mk k (k + (1 : Int)) (mt (k + (1 : Int) + (1 : Int)))).ce) by simp)
    let t15 : Tp pr := .a (hmt (k + (1 : Int) + (1 : Int)) (by omega) (by omega))
    let t18 : Tp pr := .b (show (!(mt (k + (1 : Int) + (1 : Int))).toList == (mt (k + (1 : Int) + (1 : Int))).toList) = false by simp)
    let t19 : Tp pr := .i (wrap_i64 (a := k + (1 : Int) + (1 : Int) + (1 : Int)) (by omega) (by omega))
    let t20 : Tp pr := .i (wrap_i64 (a := (↑m.length : Int) + (1 : Int)) (by omega) (by omega))
    let t21 : Tp pr := .a (Ev.castq ((congrArg (fun x => Q.loop (lq pr (22 : FuncId) (0 : Nat)) (at_ [((0 : Nat), V.t (T.seq (3 : Nat) x)), ((1 : Nat), V.t (T.int IntKind.i64 (k + (1 : Int) + (1 : Int) + (1 : Int)))), ((5 : Nat), V.t (T.int IntKind.i64 (↑(m ++ [Bc.mk k (k + (1 : Int)) (mt (k + (1 : Int) + (1 : Int)))]).length : Int)))] [] (0 : Nat))) (show (List.map Bc.ce (m ++ [Bc.mk k (k + (1 : Int)) (mt (k + (1 : Int) + (1 : Int)))] ++ mark3 mt (k + (1 : Int) + (1 : Int) + (1 : Int)) n)) = (List.map Bc.ce (m ++ Bc.mk k (k + (1 : Int)) (mt (k + (1 : Int) + (1 : Int))) :: mark3 mt (k + (1 : Int) + (1 : Int) + (1 : Int)) n)) by (simp <;> omega))).trans (congrArg (fun x => Q.loop (lq pr (22 : FuncId) (0 : Nat)) (at_ [((0 : Nat), V.t (T.seq (3 : Nat) (List.map Bc.ce (m ++ Bc.mk k (k + (1 : Int)) (mt (k + (1 : Int) + (1 : Int))) :: mark3 mt (k + (1 : Int) + (1 : Int) + (1 : Int)) n)))), ((1 : Nat), V.t (T.int IntKind.i64 (k + (1 : Int) + (1 : Int) + (1 : Int)))), ((5 : Nat), V.t (T.int IntKind.i64 x))] [] (0 : Nat))) (show ((↑(m ++ [Bc.mk k (k + (1 : Int)) (mt (k + (1 : Int) + (1 : Int)))]).length : Int)) = ((↑m.length : Int) + (1 : Int)) by (simp <;> omega)))) (ih))
    exact .tpe [t0, t1, t2, .b (show (k != k) = false by simp), t4, t5, t6, t7, .m (rfl : true = true), .m (rfl : true = true), t10, .m (rfl : true = true), .m (rfl : true = true), .m (rfl : true = true), .m (rfl : true = true), t15, .m (rfl : true = true), .m (rfl : true = true), t18, t19, t20, t21] (Out.exit (0 : Nat) (at_ [((1 : Nat), V.t (T.int IntKind.i64 (k + (1 : Int) + (1 : Int) + (1 : Int) + (3 : Int) * (↑n : Int))))] [] (0 : Nat))) (by kernel_rfl) (congrArg (fun x => Out.exit (0 : Nat) (at_ [((1 : Nat), V.t (T.int IntKind.i64 x))] [] (0 : Nat))) (show (k + (1 : Int) + (1 : Int) + (1 : Int) + (3 : Int) * (↑n : Int)) = (k + (3 : Int) * (↑(n + (1 : Nat)) : Int)) by (simp <;> omega)))
theorem heldBcS_ev (mt : Int → ByteArray) (hmt : ∀ k, 0 ≤ k → k ≤ 10000000000 → Ev pr (.call 54 [i64 k] []) (.val (.t (.str (mt k))) [])) (n : Nat) (k : Int) (h0 : 0 ≤ k) (h : k + 3 * n ≤ 9000000) (h2 : n ≤ 1048576) : Ev pr (.call 22 [bcs (mark3 mt k n), i64 k] []) (.val (i64 (k + 3 * n)) []) := by
  have := heldBcL_ev mt hmt n [] k h0 h (by simpa using h2)
  exact .tp [.a (this)] (by kernel_rfl)
theorem eqBc_ev (x : Bc) : Ev pr (.call 52 [vs x.ce, vs x.ce] []) (.val (bl true) []) := by
  let t0 : Tp pr := .b (show (x.op != x.op) = false by simp)
  let t2 : Tp pr := .b (show (!x.text.toList == x.text.toList) = false by simp)
  exact .tp [t0, .b (show (x.n != x.n) = false by simp), t2] (by kernel_rfl)
theorem eqBcL_ev : ∀ (rest m : List Bc), m.length + rest.length ≤ 1048576 → Ev pr (.loop (lq pr 18 0) (at_ [(0, bcs (m ++ rest)), (1, bcs (m ++ rest)), (5, i64 m.length)] [] 0)) (.exit 0 (at_ [] [] 0))
  | [], m, h => by
    let t0 : Tp pr := .i (show ((↑(List.map Bc.ce (m ++ [])).length : Int) : Int) = (↑m.length : Int) by simp)
    let t1 : Tp pr := .b (show (decide ((↑m.length : Int) < (↑m.length : Int))) = false by simp)
    exact .tp [t0, t1] (by kernel_rfl)
  | x :: rest, m, h => by
    simp at h
    have ih := eqBcL_ev rest (m ++ [x]) (by simp; omega)
    have hx := eqBc_ev x
    let t0 : Tp pr := .i (show ((↑(List.map Bc.ce (m ++ x :: rest)).length : Int) : Int) = (↑m.length : Int) + ((↑rest.length : Int) + (1 : Int)) by simp)
    let t1 : Tp pr := .b (show (decide ((↑m.length : Int) < (↑m.length : Int) + ((↑rest.length : Int) + (1 : Int)))) = true by (simp; omega))
    let t4 : Tp pr := .g .row (show (lkp (List.map Bc.ce (m ++ x :: rest)) (↑m.length : Int)) = some (x.ce) by simp)
    let t9 : Tp pr := .g .row (show (lkp (List.map Bc.ce (m ++ x :: rest)) (↑m.length : Int)) = some (x.ce) by simp)
    let t16 : Tp pr := .i (wrap_i64 (a := (↑m.length : Int) + (1 : Int)) (by omega) (by omega))
    let t17 : Tp pr := .a (Ev.castq ((congrArg (fun x_1 => Q.loop (lq pr (18 : FuncId) (0 : Nat)) (at_ [((0 : Nat), V.t (T.seq (3 : Nat) x_1)), ((1 : Nat), V.t (T.seq (3 : Nat) x_1)), ((5 : Nat), V.t (T.int IntKind.i64 (↑(m ++ [x]).length : Int)))] [] (0 : Nat))) (show (List.map Bc.ce (m ++ [x] ++ rest)) = (List.map Bc.ce (m ++ x :: rest)) by simp)).trans (congrArg (fun x_1 => Q.loop (lq pr (18 : FuncId) (0 : Nat)) (at_ [((0 : Nat), V.t (T.seq (3 : Nat) (List.map Bc.ce (m ++ x :: rest)))), ((1 : Nat), V.t (T.seq (3 : Nat) (List.map Bc.ce (m ++ x :: rest)))), ((5 : Nat), V.t (T.int IntKind.i64 x_1))] [] (0 : Nat))) (show ((↑(m ++ [x]).length : Int)) = ((↑m.length : Int) + (1 : Int)) by simp))) (ih))
    exact .tp [t0, t1, .m (rfl : true = true), .m (rfl : true = true), t4, .m (rfl : true = true), .m (rfl : true = true), .m (rfl : true = true), .m (rfl : true = true), t9, .m (rfl : true = true), .m (rfl : true = true), .a (hx), .m (rfl : true = true), .m (rfl : true = true), .b (rfl : false = false), t16, t17] (by kernel_rfl)
theorem eqBcS_ev (l : List Bc) (h : l.length ≤ 1048576) : Ev pr (.call 18 [bcs l, bcs l] []) (.val (bl true) []) := by
  have := eqBcL_ev l [] (by simpa using h)
  let t0 : Tp pr := .i (show ((↑(List.map Bc.ce l).length : Int) : Int) = (↑l.length : Int) by simp)
  let t1 : Tp pr := .i (show ((↑(List.map Bc.ce l).length : Int) : Int) = (↑l.length : Int) by simp)
  let t2 : Tp pr := .b (show ((↑l.length : Int) != (↑l.length : Int)) = false by simp)
  exact .tp [t0, t1, t2, .a (this)] (by kernel_rfl)
theorem eqBcNL_ev : Ev pr (.loop (lq pr 18 0) (at_ [(0, .t .nils), (1, .t (.seq 3 [])), (5, i64 0)] [] 0)) (.exit 0 (at_ [] [] 0)) := by
  let t0 : Tp pr := .i (rfl : ((0 : Int) : Int) = (0 : Int))
  exact .tp [t0, .b (rfl : false = false)] (by kernel_rfl)
theorem eqBcN_ev : Ev pr (.call 18 [.t .nils, .t (.seq 3 [])] []) (.val (bl true) []) := by
  let t0 : Tp pr := .i (rfl : ((0 : Int) : Int) = (0 : Int))
  let t1 : Tp pr := .i (rfl : ((0 : Int) : Int) = (0 : Int))
  exact .tp [t0, t1, .b (rfl : false = false), .a (eqBcNL_ev)] (by kernel_rfl)
theorem toEx2_ev (x : Ex) : Ev pr (.call 49 [vs x.ce] []) (.val (vs x.ce) []) := by
  exact .tp [] (by kernel_rfl)
theorem toExL2_ev : ∀ (rest m : List Ex), m.length + rest.length ≤ 1048576 → Ev pr (.loop (lq pr 16 0) (at_ [(0, exs (m ++ rest)), (3, .vec 0 (m.length + rest.length) 3 0 (m.length + rest.length)), (4, i64 m.length)] [.vec true 3 (bcc (exb m ++ List.replicate rest.length ⟨0, 0, e0⟩))] 0))
    (.exit 0 (at_ [(3, .vec 0 (m.length + rest.length) 3 0 (m.length + rest.length))] [.vec true 3 (bcc (exb (m ++ rest)))] 0))
  | [], m, h => by
    let t0 : Tp pr := .i (show ((↑(List.map Ex.ce (m ++ [])).length : Int) : Int) = (↑m.length : Int) by simp)
    let t1 : Tp pr := .b (show (decide ((↑m.length : Int) < (↑m.length : Int))) = false by simp)
    exact .tpe [t0, t1] (Out.exit (0 : Nat) (at_ [((3 : Nat), V.vec (0 : Nat) (m.length + (0 : Nat)) (3 : Nat) (0 : Nat) (m.length + (0 : Nat)))] [Ob.vec true (3 : Nat) (bcc (exb m ++ List.replicate (0 : Nat) (Bc.mk (0 : Int) (0 : Int) e0)))] (0 : Nat))) (by kernel_rfl) (congrArg (fun x => Out.exit (0 : Nat) (at_ [((3 : Nat), V.vec (0 : Nat) (m.length + (0 : Nat)) (3 : Nat) (0 : Nat) (m.length + (0 : Nat)))] [Ob.vec true (3 : Nat) x] (0 : Nat))) (show (bcc (exb m ++ List.replicate (0 : Nat) (Bc.mk (0 : Int) (0 : Int) e0))) = (bcc (exb (m ++ []))) by simp))
  | x :: rest, m, h => by
    simp at h
    have ih := toExL2_ev rest (m ++ [x]) (by simp; omega)
    have hx := toEx2_ev x
    rw [show List.replicate (x :: rest).length (⟨0, 0, e0⟩ : Bc) = ⟨0, 0, e0⟩ :: List.replicate rest.length ⟨0, 0, e0⟩ from rfl]
    have hg : (bcc (exb m ++ ⟨0, 0, e0⟩ :: List.replicate rest.length ⟨0, 0, e0⟩))[m.length]? = some [C.t (.int .i64 0), C.t (.int .i64 0), C.t (.str ⟨#[]⟩)] := by simpa using bcc_get_mid (exb m) ⟨0, 0, e0⟩ (List.replicate rest.length ⟨0, 0, e0⟩)
    let t0 : Tp pr := .i (show ((↑(List.map Ex.ce (m ++ x :: rest)).length : Int) : Int) = (↑m.length : Int) + ((↑rest.length : Int) + (1 : Int)) by simp)
    let t1 : Tp pr := .b (show (decide ((↑m.length : Int) < (↑m.length : Int) + ((↑rest.length : Int) + (1 : Int)))) = true by (simp; omega))
    let t2 : Tp pr := .g .row (show (lkp (List.map Ex.ce (m ++ x :: rest)) (↑m.length : Int)) = some (x.ce) by simp)
    let t4 : Tp pr := .m (show (decide ((0 : Int) ≤ (↑m.length : Int) ∧ (↑m.length : Int).toNat < m.length + (x :: rest).length)) = true by simp)
    let t5 : Tp pr := .c (show ((0 : Nat) + (↑m.length : Int).toNat : Nat) = m.length by omega)
    let t6 : Tp pr := .m (show (decide ((bcc (exb m ++ Bc.mk (0 : Int) (0 : Int) e0 :: List.replicate rest.length (Bc.mk (0 : Int) (0 : Int) e0))).length = m.length + (x :: rest).length)) = true by simp)
    let t7 : Tp pr := .g .crow (show ((bcc (exb m ++ Bc.mk (0 : Int) (0 : Int) e0 :: List.replicate rest.length (Bc.mk (0 : Int) (0 : Int) e0)))[m.length]?) = some ([C.t (T.int IntKind.i64 (0 : Int)), C.t (T.int IntKind.i64 (0 : Int)), C.t (T.str (ByteArray.mk #[]))]) from hg)
    let t8 : Tp pr := .n .crows (show ((bcc (exb m ++ Bc.mk (0 : Int) (0 : Int) e0 :: List.replicate rest.length (Bc.mk (0 : Int) (0 : Int) e0))).set m.length [C.t (T.int IntKind.i64 x.kind), C.t (T.int IntKind.i64 x.num), C.t (T.str x.text)]) = bcc (exb m ++ Bc.mk x.kind x.num x.text :: List.replicate rest.length (Bc.mk (0 : Int) (0 : Int) (ByteArray.mk #[]))) by simp)
    let t9 : Tp pr := .i (wrap_i64 (a := (↑m.length : Int) + (1 : Int)) (by omega) (by omega))
    let t10 : Tp pr := .a (Ev.castq ((((congrArg (fun x_1 => Q.loop (lq pr (16 : FuncId) (0 : Nat)) (at_ [((0 : Nat), V.t (T.seq (3 : Nat) x_1)), ((3 : Nat), V.vec (0 : Nat) ((m ++ [x]).length + rest.length) (3 : Nat) (0 : Nat) ((m ++ [x]).length + rest.length)), ((4 : Nat), V.t (T.int IntKind.i64 (↑(m ++ [x]).length : Int)))] [Ob.vec true (3 : Nat) (bcc (exb (m ++ [x]) ++ List.replicate rest.length (Bc.mk (0 : Int) (0 : Int) e0)))] (0 : Nat))) (show (List.map Ex.ce (m ++ [x] ++ rest)) = (List.map Ex.ce (m ++ x :: rest)) by (simp [exb] <;> omega))).trans (congrArg (fun x_1 => Q.loop (lq pr (16 : FuncId) (0 : Nat)) (at_ [((0 : Nat), V.t (T.seq (3 : Nat) (List.map Ex.ce (m ++ x :: rest)))), ((3 : Nat), V.vec (0 : Nat) x_1 (3 : Nat) (0 : Nat) x_1), ((4 : Nat), V.t (T.int IntKind.i64 (↑(m ++ [x]).length : Int)))] [Ob.vec true (3 : Nat) (bcc (exb (m ++ [x]) ++ List.replicate rest.length (Bc.mk (0 : Int) (0 : Int) e0)))] (0 : Nat))) (show ((m ++ [x]).length + rest.length) = (m.length + (x :: rest).length) by (simp [exb] <;> omega)))).trans (congrArg (fun x_1 => Q.loop (lq pr (16 : FuncId) (0 : Nat)) (at_ [((0 : Nat), V.t (T.seq (3 : Nat) (List.map Ex.ce (m ++ x :: rest)))), ((3 : Nat), V.vec (0 : Nat) (m.length + (x :: rest).length) (3 : Nat) (0 : Nat) (m.length + (x :: rest).length)), ((4 : Nat), V.t (T.int IntKind.i64 x_1))] [Ob.vec true (3 : Nat) (bcc (exb (m ++ [x]) ++ List.replicate rest.length (Bc.mk (0 : Int) (0 : Int) e0)))] (0 : Nat))) (show ((↑(m ++ [x]).length : Int)) = ((↑m.length : Int) + (1 : Int)) by (simp [exb] <;> omega)))).trans (congrArg (fun x_1 => Q.loop (lq pr (16 : FuncId) (0 : Nat)) (at_ [((0 : Nat), V.t (T.seq (3 : Nat) (List.map Ex.ce (m ++ x :: rest)))), ((3 : Nat), V.vec (0 : Nat) (m.length + (x :: rest).length) (3 : Nat) (0 : Nat) (m.length + (x :: rest).length)), ((4 : Nat), V.t (T.int IntKind.i64 ((↑m.length : Int) + (1 : Int))))] [Ob.vec true (3 : Nat) x_1] (0 : Nat))) (show (bcc (exb (m ++ [x]) ++ List.replicate rest.length (Bc.mk (0 : Int) (0 : Int) e0))) = (bcc (exb m ++ Bc.mk x.kind x.num x.text :: List.replicate rest.length (Bc.mk (0 : Int) (0 : Int) (ByteArray.mk #[])))) by (simp [exb] <;> omega)))) (ih))
    exact .tpe [t0, t1, t2, .a (hx), t4, t5, t6, t7, t8, t9, t10] (Out.exit (0 : Nat) (at_ [((3 : Nat), V.vec (0 : Nat) ((m ++ [x]).length + rest.length) (3 : Nat) (0 : Nat) ((m ++ [x]).length + rest.length))] [Ob.vec true (3 : Nat) (bcc (exb (m ++ [x] ++ rest)))] (0 : Nat))) (by kernel_rfl) (((congrArg (fun x_1 => Out.exit (0 : Nat) (at_ [((3 : Nat), V.vec (0 : Nat) x_1 (3 : Nat) (0 : Nat) ((m ++ [x]).length + rest.length))] [Ob.vec true (3 : Nat) (bcc (exb (m ++ [x] ++ rest)))] (0 : Nat))) (show ((m ++ [x]).length + rest.length) = (m.length + (x :: rest).length) by (simp [exb] <;> omega))).trans (congrArg (fun x_1 => Out.exit (0 : Nat) (at_ [((3 : Nat), V.vec (0 : Nat) (m.length + (x :: rest).length) (3 : Nat) (0 : Nat) x_1)] [Ob.vec true (3 : Nat) (bcc (exb (m ++ [x] ++ rest)))] (0 : Nat))) (show ((m ++ [x]).length + rest.length) = (m.length + (x :: rest).length) by (simp [exb] <;> omega)))).trans (congrArg (fun x_1 => Out.exit (0 : Nat) (at_ [((3 : Nat), V.vec (0 : Nat) (m.length + (x :: rest).length) (3 : Nat) (0 : Nat) (m.length + (x :: rest).length))] [Ob.vec true (3 : Nat) x_1] (0 : Nat))) (show (bcc (exb (m ++ [x] ++ rest))) = (bcc (exb (m ++ x :: rest))) by (simp [exb] <;> omega))))
theorem toExS2_ev (l : List Ex) (hl : l.length ≤ 1048576) : Ev pr (.call 16 [exs l] []) (.val (.vec 0 l.length 3 0 l.length) [.vec true 3 (bcc (exb l))]) := by
  have := toExL2_ev l [] (by simpa using hl)
  let t0 : Tp pr := .i (show ((↑(List.map Ex.ce l).length : Int) : Int) = (↑l.length : Int) by simp)
  let t1 : Tp pr := .m (show (decide ((0 : Int) ≤ (↑l.length : Int) ∧ (↑l.length : Int) ≤ (↑l.length : Int) ∧ (↑l.length : Int) ≤ (4294967296 : Int))) = true by (simp; omega))
  let t2 : Tp pr := .c (show ((↑l.length : Int).toNat : Nat) = l.length by omega)
  let t3 : Tp pr := .n .crows (rfl : (List.replicate l.length [C.t (T.int IntKind.i64 (0 : Int)), C.t (T.int IntKind.i64 (0 : Int)), C.t (T.str (ByteArray.mk #[]))]) = _)
  let t4 : Tp pr := .a (Ev.castq ((congrArg (fun x => Q.loop (lq pr (16 : FuncId) (0 : Nat)) (at_ [((0 : Nat), exs ([] ++ l)), ((3 : Nat), V.vec (0 : Nat) x (3 : Nat) (0 : Nat) x), ((4 : Nat), i64 (↑(0 : Nat) : Int))] [Ob.vec true (3 : Nat) (bcc (exb [] ++ List.replicate l.length (Bc.mk (0 : Int) (0 : Int) e0)))] (0 : Nat))) (show ((0 : Nat) + l.length) = (l.length) by simp [exb, bcc, Bc.cc])).trans (congrArg (fun x => Q.loop (lq pr (16 : FuncId) (0 : Nat)) (at_ [((0 : Nat), exs ([] ++ l)), ((3 : Nat), V.vec (0 : Nat) l.length (3 : Nat) (0 : Nat) l.length), ((4 : Nat), i64 (↑(0 : Nat) : Int))] [Ob.vec true (3 : Nat) x] (0 : Nat))) (show (bcc (exb [] ++ List.replicate l.length (Bc.mk (0 : Int) (0 : Int) e0))) = (List.replicate l.length [C.t (T.int IntKind.i64 (0 : Int)), C.t (T.int IntKind.i64 (0 : Int)), C.t (T.str (ByteArray.mk #[]))]) by simp [exb, bcc, Bc.cc]))) (this))
  exact .tpe [t0, t1, t2, t3, t4] (Out.val (V.vec (0 : Nat) ((0 : Nat) + l.length) (3 : Nat) (0 : Nat) ((0 : Nat) + l.length)) [Ob.vec true (3 : Nat) (bcc (exb ([] ++ l)))]) (by kernel_rfl) (((congrArg (fun x => Out.val (V.vec (0 : Nat) x (3 : Nat) (0 : Nat) ((0 : Nat) + l.length)) [Ob.vec true (3 : Nat) (bcc (exb ([] ++ l)))]) (show ((0 : Nat) + l.length) = (l.length) by simp [exb, bcc, Bc.cc])).trans (congrArg (fun x => Out.val (V.vec (0 : Nat) l.length (3 : Nat) (0 : Nat) x) [Ob.vec true (3 : Nat) (bcc (exb ([] ++ l)))]) (show ((0 : Nat) + l.length) = (l.length) by simp [exb, bcc, Bc.cc]))).trans (congrArg (fun x => Out.val (V.vec (0 : Nat) l.length (3 : Nat) (0 : Nat) l.length) [Ob.vec true (3 : Nat) x]) (show (bcc (exb ([] ++ l))) = (bcc (exb l)) by simp [exb, bcc, Bc.cc])))
theorem eqEx2_ev (x : Ex) : Ev pr (.call 53 [vs x.ce, vs x.ce] []) (.val (bl true) []) := by
  let t0 : Tp pr := .b (show (x.kind != x.kind) = false by simp)
  let t1 : Tp pr := .b (show (x.num != x.num) = false by simp)
  let t2 : Tp pr := .b (show (!x.text.toList == x.text.toList) = false by simp)
  exact .tp [t0, t1, t2] (by kernel_rfl)
theorem eqExL2_ev : ∀ (rest m : List Ex), m.length + rest.length ≤ 1048576 → Ev pr (.loop (lq pr 19 0) (at_ [(0, exs (m ++ rest)), (1, exs (m ++ rest)), (5, i64 m.length)] [] 0)) (.exit 0 (at_ [] [] 0))
  | [], m, h => by
    let t0 : Tp pr := .i (show ((↑(List.map Ex.ce (m ++ [])).length : Int) : Int) = (↑m.length : Int) by simp)
    let t1 : Tp pr := .b (show (decide ((↑m.length : Int) < (↑m.length : Int))) = false by simp)
    exact .tp [t0, t1] (by kernel_rfl)
  | x :: rest, m, h => by
    simp at h
    have ih := eqExL2_ev rest (m ++ [x]) (by simp; omega)
    have hx := eqEx2_ev x
    let t0 : Tp pr := .i (show ((↑(List.map Ex.ce (m ++ x :: rest)).length : Int) : Int) = (↑m.length : Int) + ((↑rest.length : Int) + (1 : Int)) by simp)
    let t1 : Tp pr := .b (show (decide ((↑m.length : Int) < (↑m.length : Int) + ((↑rest.length : Int) + (1 : Int)))) = true by (simp; omega))
    let t4 : Tp pr := .g .row (show (lkp (List.map Ex.ce (m ++ x :: rest)) (↑m.length : Int)) = some (x.ce) by simp)
    let t9 : Tp pr := .g .row (show (lkp (List.map Ex.ce (m ++ x :: rest)) (↑m.length : Int)) = some (x.ce) by simp)
    let t16 : Tp pr := .i (wrap_i64 (a := (↑m.length : Int) + (1 : Int)) (by omega) (by omega))
    let t17 : Tp pr := .a (Ev.castq ((congrArg (fun x_1 => Q.loop (lq pr (19 : FuncId) (0 : Nat)) (at_ [((0 : Nat), V.t (T.seq (3 : Nat) x_1)), ((1 : Nat), V.t (T.seq (3 : Nat) x_1)), ((5 : Nat), V.t (T.int IntKind.i64 (↑(m ++ [x]).length : Int)))] [] (0 : Nat))) (show (List.map Ex.ce (m ++ [x] ++ rest)) = (List.map Ex.ce (m ++ x :: rest)) by simp)).trans (congrArg (fun x_1 => Q.loop (lq pr (19 : FuncId) (0 : Nat)) (at_ [((0 : Nat), V.t (T.seq (3 : Nat) (List.map Ex.ce (m ++ x :: rest)))), ((1 : Nat), V.t (T.seq (3 : Nat) (List.map Ex.ce (m ++ x :: rest)))), ((5 : Nat), V.t (T.int IntKind.i64 x_1))] [] (0 : Nat))) (show ((↑(m ++ [x]).length : Int)) = ((↑m.length : Int) + (1 : Int)) by simp))) (ih))
    exact .tp [t0, t1, .m (rfl : true = true), .m (rfl : true = true), t4, .m (rfl : true = true), .m (rfl : true = true), .m (rfl : true = true), .m (rfl : true = true), t9, .m (rfl : true = true), .m (rfl : true = true), .a (hx), .m (rfl : true = true), .m (rfl : true = true), .b (rfl : false = false), t16, t17] (by kernel_rfl)
theorem eqExS2_ev (l : List Ex) (h : l.length ≤ 1048576) : Ev pr (.call 19 [exs l, exs l] []) (.val (bl true) []) := by
  have := eqExL2_ev l [] (by simpa using h)
  let t0 : Tp pr := .i (show ((↑(List.map Ex.ce l).length : Int) : Int) = (↑l.length : Int) by simp)
  let t1 : Tp pr := .i (show ((↑(List.map Ex.ce l).length : Int) : Int) = (↑l.length : Int) by simp)
  let t2 : Tp pr := .b (show ((↑l.length : Int) != (↑l.length : Int)) = false by simp)
  exact .tp [t0, t1, t2, .a (this)] (by kernel_rfl)
end Go.Ev

/- Sizes of expressions. -/
namespace Go.Ev
set_option linter.unusedVariables false
set_option linter.unusedSimpArgs false
open Go.Proofs
set_option maxRecDepth 100000
set_option linter.unusedVariables false
set_option maxHeartbeats 1000000
/-! Sizes. -/
def szEx (x : Ex) (n : Int) : Int := if n - x.text.size < 0 then -1 else n - x.text.size
theorem szEx_ev (x : Ex) (n : Int) (h0 : 0 ≤ n) (h1 : n ≤ 1048576) (hs : x.text.size ≤ 9223372036854775807) : Ev pr (.call 47 [vs x.ce, i64 n] []) (.val (i64 (szEx x n)) []) := by
  have hw := wrap_i64 (a := n - x.text.size) (by omega) (by omega)
  unfold szEx
  by_cases h : n - x.text.size < 0
  · rw [if_pos h]; exact .tp [.l x.text.size, .i hw, .b (decide_eq_true h)] (by kernel_rfl)
  · rw [if_neg h]; exact .tp [.l x.text.size, .i hw, .b (decide_eq_false h)] (by kernel_rfl)
def szExL : List Ex → Int → Option Int
  | [], n => some n
  | x :: r, n => if szEx x n < 0 then none else szExL r (szEx x n)
theorem szEx_le (x : Ex) (n : Int) (h0 : ¬ szEx x n < 0) : 0 ≤ szEx x n ∧ szEx x n ≤ n := by
  unfold szEx at *
  split at h0 <;> split <;> omega
theorem szExL_ev (l : List Ex) (hl : l.length ≤ 9223372036854775807) (hs : ∀ x ∈ l, x.text.size ≤ 9223372036854775807) : ∀ (rest done : List Ex) (n : Int), l = done ++ rest → 0 ≤ n → n ≤ 1048576 →
    Ev pr (.loop (lq pr 14 0) (at_ [(0, exs l), (1, i64 n), (5, i64 done.length)] [] 0)) (match szExL rest n with
      | some m => .exit 0 (at_ [(1, i64 m)] [] 0)
      | none => .ret (at_ [(4, i64 (-1))] [] 0))
  | [], done, n, he, h0, h1 => by
    have h : ¬ (done.length : Int) < l.length := by subst he; simp
    exact .tp [.ll Ex.ce l, .b (decide_eq_false h)] (by kernel_rfl)
  | x :: rest, done, n, he, h0, h1 => by
    have h : (done.length : Int) < l.length := by subst he; simp; omega
    have hx : x.text.size ≤ 9223372036854775807 := hs x (by subst he; simp)
    have hw := wrap_i64 (a := done.length + 1) (by omega) (by omega)
    unfold szExL
    by_cases h2 : szEx x n < 0
    · rw [if_pos h2]
      exact .tp [.ll Ex.ce l, .b (decide_eq_true h), .e (lkp_at Ex.ce he), .a (szEx_ev x n h0 h1 hx), .b (decide_eq_true h2)] (by kernel_rfl)
    · rw [if_neg h2]
      have hle := szEx_le x n h2
      have ih := szExL_ev l hl hs rest (done ++ [x]) (szEx x n) (by simp [he]) hle.1 (by omega)
      rw [show ((done ++ [x]).length : Int) = done.length + 1 by simp] at ih
      exact .tp [.ll Ex.ce l, .b (decide_eq_true h), .e (lkp_at Ex.ce he), .a (szEx_ev x n h0 h1 hx), .b (decide_eq_false h2), .i hw, .a ih] (by kernel_rfl)
def szExS (l : List Ex) (n : Int) : Int := if n - l.length < 0 then -1 else (szExL l (n - l.length)).getD (-1)
theorem szExS_ev (l : List Ex) (n : Int) (h0 : 0 ≤ n) (h1 : n ≤ 1048576) (hl : l.length ≤ 9223372036854775807) (hs : ∀ x ∈ l, x.text.size ≤ 9223372036854775807) : Ev pr (.call 14 [exs l, i64 n] []) (.val (i64 (szExS l n)) []) := by
  have hw := wrap_i64 (a := n - l.length) (by omega) (by omega)
  unfold szExS
  by_cases h : n - l.length < 0
  · rw [if_pos h]; exact .tp [.ll Ex.ce l, .i hw, .b (decide_eq_true h)] (by kernel_rfl)
  · rw [if_neg h]
    have hL := szExL_ev l hl hs l [] (n - l.length) rfl (by omega) (by omega)
    cases hr : szExL l (n - l.length) with
    | none => rw [hr] at hL; exact .tp [.ll Ex.ce l, .i hw, .b (decide_eq_false h), .a hL] (by kernel_rfl)
    | some m => rw [hr] at hL; exact .tp [.ll Ex.ce l, .i hw, .b (decide_eq_false h), .a hL] (by kernel_rfl)
theorem szExL_le : ∀ (l : List Ex) (n m : Int), 0 ≤ n → szExL l n = some m → 0 ≤ m ∧ m ≤ n
  | [], n, m, h0, h => by obtain rfl := Option.some.inj h; exact ⟨h0, Int.le_refl _⟩
  | x :: l, n, m, h0, h => by
    unfold szExL at h
    split at h
    · cases h
    · rename_i h2
      have h3 := szEx_le x n h2
      have := szExL_le l _ m h3.1 h
      omega
theorem szExS_le (l : List Ex) (n : Int) (h0 : ¬ szExS l n < 0) : 0 ≤ szExS l n ∧ szExS l n ≤ n - l.length := by
  unfold szExS at *
  split at h0
  · omega
  · rename_i h
    rw [if_neg h]
    cases hr : szExL l (n - l.length) with
    | none => rw [hr] at h0; simp at h0
    | some m => have := szExL_le l _ m (by omega) hr; simpa using this
theorem markBcNL_ev (k : Int) : Ev pr (.loop (lq pr 21 0) (at_ [(0, .t .nils), (1, i64 k), (5, i64 0)] [] 0)) (.exit 0 (at_ [(1, i64 k)] [] 0)) := by
  let t0 : Tp pr := .i (rfl : ((0 : Int) : Int) = (0 : Int))
  exact .tp [t0, .b (rfl : false = false)] (by kernel_rfl)
theorem markBcN_ev (k : Int) : Ev pr (.call 21 [.t .nils, i64 k] []) (.val (i64 k) []) := by
  have := markBcNL_ev k
  exact .tp [.a (this)] (by kernel_rfl)
theorem heldBcNL_ev (k : Int) : Ev pr (.loop (lq pr 22 0) (at_ [(0, .t .nils), (1, i64 k), (5, i64 0)] [] 0)) (.exit 0 (at_ [(1, i64 k)] [] 0)) := by
  let t0 : Tp pr := .i (rfl : ((0 : Int) : Int) = (0 : Int))
  exact .tp [t0, .b (rfl : false = false)] (by kernel_rfl)
theorem heldBcN_ev (k : Int) : Ev pr (.call 22 [.t .nils, i64 k] []) (.val (i64 k) []) := by
  have := heldBcNL_ev k
  exact .tp [.a (this)] (by kernel_rfl)
end Go.Ev

/- Sizes of lines. -/
namespace Go.Ev
set_option linter.unusedVariables false
set_option linter.unusedSimpArgs false
open Go.Proofs
set_option maxRecDepth 100000
set_option linter.unusedVariables false
set_option maxHeartbeats 1000000
theorem szLine_ev (x : Line) (n : Int) (h0 : 0 ≤ n) (h1 : n ≤ 1048576) (hl : x.expr.length ≤ 9223372036854775807) (hs : ∀ y ∈ x.expr, y.text.size ≤ 9223372036854775807) : Ev pr (.call 37 [vs x.ce, i64 n] []) (.val (i64 (if szExS x.expr n < 0 then -1 else szExS x.expr n)) []) := by
  have hE := szExS_ev x.expr n h0 h1 hl hs
  by_cases h : szExS x.expr n < 0
  · rw [if_pos h]; exact .tp [.a hE, .b (decide_eq_true h)] (by kernel_rfl)
  · rw [if_neg h]; exact .tp [.a hE, .b (decide_eq_false h)] (by kernel_rfl)
def szLine (x : Line) (n : Int) : Int := if szExS x.expr n < 0 then -1 else szExS x.expr n
def szLineL : List Line → Int → Option Int
  | [], n => some n
  | x :: r, n => if szLine x n < 0 then none else szLineL r (szLine x n)
theorem szLine_le (x : Line) (n : Int) (h0 : ¬ szLine x n < 0) : 0 ≤ szLine x n ∧ szLine x n ≤ n - x.expr.length := by
  unfold szLine at *
  split at h0
  · omega
  · rename_i h; rw [if_neg h]; exact szExS_le _ _ h
structure Line.ok (x : Line) : Prop where
  len : x.expr.length ≤ 9223372036854775807
  text : ∀ y ∈ x.expr, y.text.size ≤ 9223372036854775807
theorem szLineL_ev (l : List Line) (hl : l.length ≤ 9223372036854775807) (hs : ∀ x ∈ l, x.ok) : ∀ (rest done : List Line) (n : Int), l = done ++ rest → 0 ≤ n → n ≤ 1048576 →
    Ev pr (.loop (lq pr 9 0) (at_ [(0, lines l), (1, i64 n), (5, i64 done.length)] [] 0)) (match szLineL rest n with
      | some m => .exit 0 (at_ [(1, i64 m)] [] 0)
      | none => .ret (at_ [(4, i64 (-1))] [] 0))
  | [], done, n, he, h0, h1 => by
    have h : ¬ (done.length : Int) < l.length := by subst he; simp
    exact .tp [.ll Line.ce l, .b (decide_eq_false h)] (by kernel_rfl)
  | x :: rest, done, n, he, h0, h1 => by
    have h : (done.length : Int) < l.length := by subst he; simp; omega
    have hx : x.ok := hs x (by subst he; simp)
    have hw := wrap_i64 (a := done.length + 1) (by omega) (by omega)
    have hE : Ev pr (.call 37 [vs x.ce, i64 n] []) (.val (i64 (szLine x n)) []) := szLine_ev x n h0 h1 hx.len hx.text
    unfold szLineL
    by_cases h2 : szLine x n < 0
    · rw [if_pos h2]
      exact .tp [.ll Line.ce l, .b (decide_eq_true h), .e (lkp_at Line.ce he), .a hE, .b (decide_eq_true h2)] (by kernel_rfl)
    · rw [if_neg h2]
      have hle := szLine_le x n h2
      have ih := szLineL_ev l hl hs rest (done ++ [x]) (szLine x n) (by simp [he]) hle.1 (by omega)
      rw [show ((done ++ [x]).length : Int) = done.length + 1 by simp] at ih
      exact .tp [.ll Line.ce l, .b (decide_eq_true h), .e (lkp_at Line.ce he), .a hE, .b (decide_eq_false h2), .i hw, .a ih] (by kernel_rfl)
def szLineS (l : List Line) (n : Int) : Int := if n - l.length < 0 then -1 else (szLineL l (n - l.length)).getD (-1)
theorem szLineS_ev (l : List Line) (n : Int) (h0 : 0 ≤ n) (h1 : n ≤ 1048576) (hl : l.length ≤ 9223372036854775807) (hs : ∀ x ∈ l, x.ok) : Ev pr (.call 9 [lines l, i64 n] []) (.val (i64 (szLineS l n)) []) := by
  have hw := wrap_i64 (a := n - l.length) (by omega) (by omega)
  unfold szLineS
  by_cases h : n - l.length < 0
  · rw [if_pos h]; exact .tp [.ll Line.ce l, .i hw, .b (decide_eq_true h)] (by kernel_rfl)
  · rw [if_neg h]
    have hL := szLineL_ev l hl hs l [] (n - l.length) rfl (by omega) (by omega)
    cases hr : szLineL l (n - l.length) with
    | none => rw [hr] at hL; exact .tp [.ll Line.ce l, .i hw, .b (decide_eq_false h), .a hL] (by kernel_rfl)
    | some m => rw [hr] at hL; exact .tp [.ll Line.ce l, .i hw, .b (decide_eq_false h), .a hL] (by kernel_rfl)
theorem szLineL_sum : ∀ (l : List Line) (n m : Int), szLineL l n = some m → 0 ≤ n → 0 ≤ m ∧ 3 * m + marksN (lnb l) ≤ 3 * n + 2 * l.length
  | [], n, m, h, h0 => by obtain rfl := Option.some.inj h; simp [lnb, marksN]; omega
  | y :: l, n, m, h, h0 => by
    unfold szLineL at h
    split at h
    · cases h
    · rename_i h2
      have h3 := szLine_le y n h2
      have h4 := szLineL_sum l _ m h h3.1
      have e : marksN (lnb (y :: l)) = 2 + 3 * y.expr.length + marksN (lnb l) := by simp [lnb, marksN]
      rw [e]
      simp only [List.length_cons]
      omega
theorem szLineL_all : ∀ (l : List Line) (n m : Int), 0 ≤ n → n ≤ 1048576 → szLineL l n = some m → ∀ x ∈ l, x.expr.length ≤ 1048576
  | [], n, m, h0, h1, h, x, hx => by cases hx
  | y :: l, n, m, h0, h1, h, x, hx => by
    unfold szLineL at h
    split at h
    · cases h
    · rename_i h2
      have h3 := szLine_le y n h2
      rcases List.mem_cons.1 hx with rfl | hx
      · omega
      · exact szLineL_all l _ m h3.1 (by omega) h x hx
theorem szLineS_all (l : List Line) (h : ¬ szLineS l 1048576 < 0) : l.length ≤ 1048576 ∧ (∀ x ∈ l, x.expr.length ≤ 1048576) ∧ marksN (lnb l) ≤ 3145728 := by
  unfold szLineS at h
  split at h
  · omega
  · rename_i h1
    cases hr : szLineL l (1048576 - l.length) with
    | none => rw [hr] at h; simp at h
    | some m =>
      have h2 := szLineL_sum l _ m hr (by omega)
      exact ⟨by omega, szLineL_all l _ m (by omega) (by omega) hr, by omega⟩
def Ex.wf (x : Ex) : Prop := (Lit.int .i64 x.kind).wf = true ∧ (Lit.int .i64 x.num).wf = true ∧ x.text.size ≤ 9223372036854775807
def Line.wf (x : Line) : Prop := (Lit.int .i64 x.kind).wf = true ∧ (Lit.int .i64 x.name).wf = true ∧ x.expr.length ≤ 9223372036854775807 ∧ ∀ y ∈ x.expr, y.wf
theorem Line.wf.ok {x : Line} (h : x.wf) : x.ok := ⟨h.2.2.1, fun y hy => (h.2.2.2 y hy).2.2⟩
end Go.Ev

/- Lines with rows of their own. -/
namespace Go.Ev
set_option linter.unusedVariables false
set_option linter.unusedSimpArgs false
open Go.Proofs
set_option maxRecDepth 100000
set_option linter.unusedVariables false
set_option maxHeartbeats 2000000
attribute [local simp] e0
theorem toLine_ev (x : Line) (hl : x.expr.length ≤ 1048576) : Ev pr (.call 40 [vs x.ce] []) (.val (.agg [i64 x.kind, i64 x.name, .vec 0 x.expr.length 3 0 x.expr.length]) [.vec true 3 (bcc (exb x.expr))]) := by
  have h := toExS2_ev x.expr hl
  exact .tp [.a (h)] (by kernel_rfl)
theorem toLineL_ev (l : List Line) (hl : l.length ≤ 1048576) (hs : ∀ x ∈ l, x.expr.length ≤ 1048576) : ∀ (rest m : List Line) (fl : Bool), l = m ++ rest →
    Ev pr (.loop (lq pr 11 0) (at_ [(0, lines l), (3, .vec 0 l.length 3 0 l.length), (4, i64 m.length)] [.vec fl 3 ((lnb m).map Ln.cc ++ List.replicate rest.length lnz)] 0))
      (.exit 0 (at_ [(3, .vec 0 l.length 3 0 l.length)] [.vec (fl && rest.isEmpty) 3 ((lnb l).map Ln.cc)] 0))
  | [], m, fl, he => by
    have hll : (l.length : Int) = m.length := by simp [he]
    have he2 : l = m := by simpa using he
    subst he2
    let t0 : Tp pr := .i (show ((↑(List.map Line.ce l).length : Int) : Int) = (↑l.length : Int) by simp)
    let t1 : Tp pr := .b (show (decide ((↑l.length : Int) < (↑l.length : Int))) = false by simp)
    exact .tpe [t0, t1] (Out.exit (0 : Nat) (at_ [((3 : Nat), V.vec (0 : Nat) l.length (3 : Nat) (0 : Nat) l.length)] [Ob.vec fl (3 : Nat) ((List.map Ln.cc (lnb l)).append [])] (0 : Nat))) (by kernel_rfl) ((congrArg (fun x => Out.exit (0 : Nat) (at_ [((3 : Nat), V.vec (0 : Nat) l.length (3 : Nat) (0 : Nat) l.length)] [Ob.vec x (3 : Nat) ((List.map Ln.cc (lnb l)).append [])] (0 : Nat))) (show (fl) = (fl && true) by simp)).trans (congrArg (fun x => Out.exit (0 : Nat) (at_ [((3 : Nat), V.vec (0 : Nat) l.length (3 : Nat) (0 : Nat) l.length)] [Ob.vec (fl && true) (3 : Nat) x] (0 : Nat))) (show ((List.map Ln.cc (lnb l)).append []) = (List.map Ln.cc (lnb l)) by simp)))
  | x :: rest, m, fl, he => by
    have hll : (l.length : Int) = m.length + 1 + rest.length := by simp [he]; omega
    have hll2 : l.length = m.length + 1 + rest.length := by omega
    have hg : lkp (l.map Line.ce) (m.length : Int) = some x.ce := by subst he; simp
    have ht := toLine_ev x (hs x (by simp [he]))
    have ih := toLineL_ev l hl hs rest (m ++ [x]) false (by simp [he])
    rw [show (lnb (m ++ [x])).map Ln.cc ++ List.replicate rest.length lnz = (lnb m).map Ln.cc ++ [C.t (.int .i64 x.kind), C.t (.int .i64 x.name), C.row 3 (x.expr.map Ex.ce)] :: List.replicate rest.length lnz by simp [lnb, Ln.cc]] at ih
    rw [show List.replicate (x :: rest).length lnz = [C.t (.int .i64 0), C.t (.int .i64 0), C.t .nils] :: List.replicate rest.length lnz from rfl]
    have hg2 : ((lnb m).map Ln.cc ++ [C.t (.int .i64 0), C.t (.int .i64 0), C.t .nils] :: List.replicate rest.length lnz)[m.length]? = some [C.t (.int .i64 0), C.t (.int .i64 0), C.t .nils] := by
      simp
    let t0 : Tp pr := .i (show ((↑(List.map Line.ce l).length : Int) : Int) = (↑l.length : Int) by simp)
    let t1 : Tp pr := .b (show (decide ((↑m.length : Int) < (↑l.length : Int))) = true by (simp; omega))
    let t2 : Tp pr := .g .row (show (lkp (List.map Line.ce l) (↑m.length : Int)) = some (x.ce) from hg)
    let t4 : Tp pr := .m (show (decide ((0 : Int) ≤ (↑m.length : Int) ∧ (↑m.length : Int).toNat < l.length)) = true by simp [*])
    let t5 : Tp pr := .c (show ((0 : Nat) + (↑m.length : Int).toNat : Nat) = m.length by omega)
    let t6 : Tp pr := .m (show (decide (((List.map Ln.cc (lnb m)).append ([C.t (T.int IntKind.i64 (0 : Int)), C.t (T.int IntKind.i64 (0 : Int)), C.t T.nils] :: List.replicate rest.length [C.t (T.int IntKind.i64 (0 : Int)), C.t (T.int IntKind.i64 (0 : Int)), C.t T.nils])).length = l.length)) = true by simp [*])
    let t7 : Tp pr := .g .crow (show (((List.map Ln.cc (lnb m)).append ([C.t (T.int IntKind.i64 (0 : Int)), C.t (T.int IntKind.i64 (0 : Int)), C.t T.nils] :: List.replicate rest.length [C.t (T.int IntKind.i64 (0 : Int)), C.t (T.int IntKind.i64 (0 : Int)), C.t T.nils]))[m.length]?) = some ([C.t (T.int IntKind.i64 (0 : Int)), C.t (T.int IntKind.i64 (0 : Int)), C.t T.nils]) from hg2)
    let t8 : Tp pr := .n .crows (show (((List.map Ln.cc (lnb m)).append ([C.t (T.int IntKind.i64 (0 : Int)), C.t (T.int IntKind.i64 (0 : Int)), C.t T.nils] :: List.replicate rest.length [C.t (T.int IntKind.i64 (0 : Int)), C.t (T.int IntKind.i64 (0 : Int)), C.t T.nils])).set m.length [C.t (T.int IntKind.i64 x.kind), C.t (T.int IntKind.i64 (0 : Int)), C.t T.nils]) = List.map Ln.cc (lnb m) ++ [C.t (T.int IntKind.i64 x.kind), C.t (T.int IntKind.i64 (0 : Int)), C.t T.nils] :: List.replicate rest.length [C.t (T.int IntKind.i64 (0 : Int)), C.t (T.int IntKind.i64 (0 : Int)), C.t T.nils] by simp)
    let t9 : Tp pr := .m (show (decide (((List.map Ln.cc (lnb m)).append ([C.t (T.int IntKind.i64 x.kind), C.t (T.int IntKind.i64 (0 : Int)), C.t T.nils] :: List.replicate rest.length [C.t (T.int IntKind.i64 (0 : Int)), C.t (T.int IntKind.i64 (0 : Int)), C.t T.nils])).length = l.length)) = true by simp [*])
    let t10 : Tp pr := .g .crow (show (((List.map Ln.cc (lnb m)).append ([C.t (T.int IntKind.i64 x.kind), C.t (T.int IntKind.i64 (0 : Int)), C.t T.nils] :: List.replicate rest.length [C.t (T.int IntKind.i64 (0 : Int)), C.t (T.int IntKind.i64 (0 : Int)), C.t T.nils]))[m.length]?) = some ([C.t (T.int IntKind.i64 x.kind), C.t (T.int IntKind.i64 (0 : Int)), C.t T.nils]) by simp)
    let t11 : Tp pr := .n .crows (show (((List.map Ln.cc (lnb m)).append ([C.t (T.int IntKind.i64 x.kind), C.t (T.int IntKind.i64 (0 : Int)), C.t T.nils] :: List.replicate rest.length [C.t (T.int IntKind.i64 (0 : Int)), C.t (T.int IntKind.i64 (0 : Int)), C.t T.nils])).set m.length [C.t (T.int IntKind.i64 x.kind), C.t (T.int IntKind.i64 x.name), C.t T.nils]) = List.map Ln.cc (lnb m) ++ [C.t (T.int IntKind.i64 x.kind), C.t (T.int IntKind.i64 x.name), C.t T.nils] :: List.replicate rest.length [C.t (T.int IntKind.i64 (0 : Int)), C.t (T.int IntKind.i64 (0 : Int)), C.t T.nils] by simp)
    let t12 : Tp pr := .m (show (decide ((bcc (exb x.expr)).length = x.expr.length ∧ x.expr.length ≤ x.expr.length)) = true by simp)
    let t13 : Tp pr := .m (show (decide (((List.map Ln.cc (lnb m)).append ([C.t (T.int IntKind.i64 x.kind), C.t (T.int IntKind.i64 x.name), C.t T.nils] :: List.replicate rest.length [C.t (T.int IntKind.i64 (0 : Int)), C.t (T.int IntKind.i64 (0 : Int)), C.t T.nils])).length = l.length)) = true by simp [*])
    let t14 : Tp pr := .g .crow (show (((List.map Ln.cc (lnb m)).append ([C.t (T.int IntKind.i64 x.kind), C.t (T.int IntKind.i64 x.name), C.t T.nils] :: List.replicate rest.length [C.t (T.int IntKind.i64 (0 : Int)), C.t (T.int IntKind.i64 (0 : Int)), C.t T.nils]))[m.length]?) = some ([C.t (T.int IntKind.i64 x.kind), C.t (T.int IntKind.i64 x.name), C.t T.nils]) by simp)
    let t15 : Tp pr := .n .rows (show (List.map (fun x => List.map C.fz x) (List.take x.expr.length (bcc (exb x.expr)))) = List.map Ex.ce x.expr by simp)
    let t16 : Tp pr := .n .crows (show (((List.map Ln.cc (lnb m)).append ([C.t (T.int IntKind.i64 x.kind), C.t (T.int IntKind.i64 x.name), C.t T.nils] :: List.replicate rest.length [C.t (T.int IntKind.i64 (0 : Int)), C.t (T.int IntKind.i64 (0 : Int)), C.t T.nils])).set m.length [C.t (T.int IntKind.i64 x.kind), C.t (T.int IntKind.i64 x.name), C.row (3 : Nat) (List.map Ex.ce x.expr)]) = List.map Ln.cc (lnb m) ++ [C.t (T.int IntKind.i64 x.kind), C.t (T.int IntKind.i64 x.name), C.row (3 : Nat) (List.map Ex.ce x.expr)] :: List.replicate rest.length [C.t (T.int IntKind.i64 (0 : Int)), C.t (T.int IntKind.i64 (0 : Int)), C.t T.nils] by simp)
    let t17 : Tp pr := .i (wrap_i64 (a := (↑m.length : Int) + (1 : Int)) (by omega) (by omega))
    let t18 : Tp pr := .a (Ev.castq (congrArg (fun x_1 => Q.loop (lq pr (11 : FuncId) (0 : Nat)) (at_ [((0 : Nat), lines l), ((3 : Nat), V.vec (0 : Nat) l.length (3 : Nat) (0 : Nat) l.length), ((4 : Nat), i64 x_1)] [Ob.vec false (3 : Nat) (List.map Ln.cc (lnb m) ++ [C.t (T.int IntKind.i64 x.kind), C.t (T.int IntKind.i64 x.name), C.row (3 : Nat) (List.map Ex.ce x.expr)] :: List.replicate rest.length lnz)] (0 : Nat))) (show ((↑(m ++ [x]).length : Int)) = ((↑m.length : Int) + (1 : Int)) by simp [lnb])) (ih))
    exact .tpe [t0, t1, t2, .a (ht), t4, t5, t6, t7, t8, t9, t10, t11, t12, t13, t14, t15, t16, t17, t18] (Out.exit (0 : Nat) (at_ [((3 : Nat), V.vec (0 : Nat) l.length (3 : Nat) (0 : Nat) l.length)] [Ob.vec false (3 : Nat) (List.map Ln.cc (lnb l))] (0 : Nat))) (by kernel_rfl) (congrArg (fun x => Out.exit (0 : Nat) (at_ [((3 : Nat), V.vec (0 : Nat) l.length (3 : Nat) (0 : Nat) l.length)] [Ob.vec x (3 : Nat) (List.map Ln.cc (lnb l))] (0 : Nat))) (show (false) = (fl && false) by simp [lnb]))
theorem toLineS_ev (l : List Line) (hl : l.length ≤ 1048576) (hs : ∀ x ∈ l, x.expr.length ≤ 1048576) : Ev pr (.call 11 [lines l] []) (.val (.vec 0 l.length 3 0 l.length) [.vec l.isEmpty 3 ((lnb l).map Ln.cc)]) := by
  have := toLineL_ev l hl hs l [] true rfl
  rw [Bool.true_and] at this
  let t0 : Tp pr := .i (show ((↑(List.map Line.ce l).length : Int) : Int) = (↑l.length : Int) by simp)
  let t1 : Tp pr := .m (show (decide ((0 : Int) ≤ (↑l.length : Int) ∧ (↑l.length : Int) ≤ (↑l.length : Int) ∧ (↑l.length : Int) ≤ (4294967296 : Int))) = true by (simp; omega))
  let t2 : Tp pr := .c (show ((↑l.length : Int).toNat : Nat) = l.length by omega)
  let t3 : Tp pr := .n .crows (rfl : (List.replicate l.length [C.t (T.int IntKind.i64 (0 : Int)), C.t (T.int IntKind.i64 (0 : Int)), C.t T.nils]) = _)
  exact .tp [t0, t1, t2, t3, .a (this)] (by kernel_rfl)
theorem eqLine_ev (x : Line) (hl : x.expr.length ≤ 1048576) : Ev pr (.call 46 [vs x.ce, vs x.ce] []) (.val (bl true) []) := by
  have h := eqExS2_ev x.expr hl
  let t0 : Tp pr := .b (show (x.kind != x.kind) = false by simp)
  let t1 : Tp pr := .b (show (x.name != x.name) = false by simp)
  exact .tp [t0, t1, .a (h), .b (rfl : false = false)] (by kernel_rfl)
theorem eqLineL_ev : ∀ (rest m : List Line), m.length + rest.length ≤ 1048576 → (∀ x ∈ rest, x.expr.length ≤ 1048576) → Ev pr (.loop (lq pr 13 0) (at_ [(0, lines (m ++ rest)), (1, lines (m ++ rest)), (5, i64 m.length)] [] 0)) (.exit 0 (at_ [] [] 0))
  | [], m, h, hs => by
    let t0 : Tp pr := .i (show ((↑(List.map Line.ce (m ++ [])).length : Int) : Int) = (↑m.length : Int) by simp)
    let t1 : Tp pr := .b (show (decide ((↑m.length : Int) < (↑m.length : Int))) = false by simp)
    exact .tp [t0, t1] (by kernel_rfl)
  | x :: rest, m, h, hs => by
    simp at h
    have ih := eqLineL_ev rest (m ++ [x]) (by simp; omega) (fun y hy => hs y (by simp [hy]))
    have hx := eqLine_ev x (hs x (by simp))
    have hg : lkp ((m ++ x :: rest).map Line.ce) (m.length : Int) = some x.ce := by simp
    let t0 : Tp pr := .i (show ((↑(List.map Line.ce (m ++ x :: rest)).length : Int) : Int) = (↑m.length : Int) + ((↑rest.length : Int) + (1 : Int)) by simp)
    let t1 : Tp pr := .b (show (decide ((↑m.length : Int) < (↑m.length : Int) + ((↑rest.length : Int) + (1 : Int)))) = true by (simp; omega))
    let t4 : Tp pr := .g .row (show (lkp (List.map Line.ce (m ++ x :: rest)) (↑m.length : Int)) = some (x.ce) from hg)
    let t9 : Tp pr := .g .row (show (lkp (List.map Line.ce (m ++ x :: rest)) (↑m.length : Int)) = some (x.ce) from hg)
    let t16 : Tp pr := .i (wrap_i64 (a := (↑m.length : Int) + (1 : Int)) (by omega) (by omega))
    let t17 : Tp pr := .a (Ev.castq ((congrArg (fun x_1 => Q.loop (lq pr (13 : FuncId) (0 : Nat)) (at_ [((0 : Nat), V.t (T.seq (3 : Nat) x_1)), ((1 : Nat), V.t (T.seq (3 : Nat) x_1)), ((5 : Nat), V.t (T.int IntKind.i64 (↑(m ++ [x]).length : Int)))] [] (0 : Nat))) (show (List.map Line.ce (m ++ [x] ++ rest)) = (List.map Line.ce (m ++ x :: rest)) by simp)).trans (congrArg (fun x_1 => Q.loop (lq pr (13 : FuncId) (0 : Nat)) (at_ [((0 : Nat), V.t (T.seq (3 : Nat) (List.map Line.ce (m ++ x :: rest)))), ((1 : Nat), V.t (T.seq (3 : Nat) (List.map Line.ce (m ++ x :: rest)))), ((5 : Nat), V.t (T.int IntKind.i64 x_1))] [] (0 : Nat))) (show ((↑(m ++ [x]).length : Int)) = ((↑m.length : Int) + (1 : Int)) by simp))) (ih))
    exact .tp [t0, t1, .m (rfl : true = true), .m (rfl : true = true), t4, .m (rfl : true = true), .m (rfl : true = true), .m (rfl : true = true), .m (rfl : true = true), t9, .m (rfl : true = true), .m (rfl : true = true), .a (hx), .m (rfl : true = true), .m (rfl : true = true), .b (rfl : false = false), t16, t17] (by kernel_rfl)
theorem eqLineS_ev (l : List Line) (h : l.length ≤ 1048576) (hs : ∀ x ∈ l, x.expr.length ≤ 1048576) : Ev pr (.call 13 [lines l, lines l] []) (.val (bl true) []) := by
  have := eqLineL_ev l [] (by simpa using h) hs
  let t0 : Tp pr := .i (show ((↑(List.map Line.ce l).length : Int) : Int) = (↑l.length : Int) by simp)
  let t1 : Tp pr := .i (show ((↑(List.map Line.ce l).length : Int) : Int) = (↑l.length : Int) by simp)
  let t2 : Tp pr := .b (show ((↑l.length : Int) != (↑l.length : Int)) = false by simp)
  exact .tp [t0, t1, t2, .a (this)] (by kernel_rfl)
theorem markRowL_ev (mt : Int → ByteArray) (hmt : ∀ k, 0 ≤ k → k ≤ 10000000000 → Ev pr (.call 54 [i64 k] []) (.val (.t (.str (mt k))) [])) (fl : Bool) (P Q : List Ln) (a b : Int) (N len : Nat) (hN : N = P.length + 1 + Q.length) (hlen : len ≤ 1048576) :
    ∀ (rest m : List Bc) (k : Int), 0 ≤ k → k + 3 * rest.length ≤ 9000000 → len = m.length + rest.length →
    Ev pr (.loop (lq pr 20 0) (at_ [(0, .row 0 N P.length 2 3 len), (1, i64 k), (5, i64 m.length)] [.vec fl 3 ((P ++ ⟨a, b, m ++ rest⟩ :: Q).map Ln.cc)] 1))
      (.exit 0 (at_ [(1, i64 (k + 3 * rest.length))] [.vec fl 3 ((P ++ ⟨a, b, m ++ mark3 mt k rest.length⟩ :: Q).map Ln.cc)] 1))
  | [], m, k, h0, h1, h2 => by
    let t1 : Tp pr := .b (show (decide ((↑m.length : Int) < (↑len : Int))) = false by simp [*])
    exact .tpe [.i (rfl : ((↑len : Int)) = _), t1] (Out.exit (0 : Nat) (at_ [((1 : Nat), V.t (T.int IntKind.i64 k))] [Ob.vec fl (3 : Nat) (List.map Ln.cc (P ++ Ln.mk a b (m ++ []) :: Q))] (1 : Nat))) (by kernel_rfl) ((congrArg (fun x => Out.exit (0 : Nat) (at_ [((1 : Nat), V.t (T.int IntKind.i64 x))] [Ob.vec fl (3 : Nat) (List.map Ln.cc (P ++ Ln.mk a b (m ++ []) :: Q))] (1 : Nat))) (show (k) = (k + (0 : Int)) by simp [mark3])).trans (congrArg (fun x => Out.exit (0 : Nat) (at_ [((1 : Nat), V.t (T.int IntKind.i64 (k + (0 : Int))))] [Ob.vec fl (3 : Nat) x] (1 : Nat))) (show (List.map Ln.cc (P ++ Ln.mk a b (m ++ []) :: Q)) = (List.map Ln.cc (P ++ Ln.mk a b (m ++ mark3 mt k (0 : Nat)) :: Q)) by simp [mark3])))
  | x :: rest, m, k, h0, h1, h2 => by
    simp at h1 h2
    have ht := hmt (k + 1 + 1) (by omega) (by omega)
    have ih := markRowL_ev mt hmt fl P Q a b N len hN hlen rest (m ++ [⟨k, k + 1, mt (k + 1 + 1)⟩]) (k + 1 + 1 + 1) (by omega) (by omega) (by simp; omega)
    rw [show ((P ++ ⟨a, b, (m ++ [(⟨k, k + 1, mt (k + 1 + 1)⟩ : Bc)]) ++ rest⟩ :: Q).map Ln.cc) = P.map Ln.cc ++ [C.t (.int .i64 a), C.t (.int .i64 b), C.row 3 (m.map Bc.ce ++ [T.int .i64 k, T.int .i64 (k + 1), T.str (mt (k + 1 + 1))] :: rest.map Bc.ce)] :: Q.map Ln.cc by simp [Ln.cc, Bc.ce]] at ih
    let t1 : Tp pr := .b (show (decide ((↑m.length : Int) < (↑len : Int))) = true by (simp; omega))
    let t2 : Tp pr := .m (show (decide ((0 : Int) ≤ (↑m.length : Int) ∧ (↑m.length : Int).toNat < len)) = true by simp [*])
    let t3 : Tp pr := .c (show ((↑m.length : Int).toNat : Nat) = m.length by omega)
    let t4 : Tp pr := .m (show (decide ((List.map Ln.cc (P ++ Ln.mk a b (m ++ x :: rest) :: Q)).length = N)) = true by (simp; omega))
    let t5 : Tp pr := .g .crow (show ((List.map Ln.cc (P ++ Ln.mk a b (m ++ x :: rest) :: Q))[P.length]?) = some ((Ln.mk a b (m ++ x :: rest)).cc) by simp)
    let t6 : Tp pr := .g .row (show ((List.map Bc.ce (Ln.mk a b (m ++ x :: rest)).ex)[m.length]?) = some (x.ce) by simp)
    let t8 : Tp pr := .n .crows (show ((List.map Ln.cc (P ++ Ln.mk a b (m ++ x :: rest) :: Q)).set P.length [C.t (T.int IntKind.i64 a), C.t (T.int IntKind.i64 b), C.row (3 : Nat) ((List.map Bc.ce (Ln.mk a b (m ++ x :: rest)).ex).set m.length [T.int IntKind.i64 k, T.int IntKind.i64 x.n, T.str x.text])]) = List.map Ln.cc P ++ [C.t (T.int IntKind.i64 a), C.t (T.int IntKind.i64 b), C.row (3 : Nat) (List.map Bc.ce m ++ [T.int IntKind.i64 k, T.int IntKind.i64 x.n, T.str x.text] :: List.map Bc.ce rest)] :: List.map Ln.cc Q by simp)
    let t9 : Tp pr := .i (wrap_i64 (a := k + (1 : Int)) (by omega) (by omega))
    let t10 : Tp pr := .m (show (decide ((0 : Int) ≤ (↑m.length : Int) ∧ (↑m.length : Int).toNat < len)) = true by simp [*])
    let t11 : Tp pr := .c (show ((↑m.length : Int).toNat : Nat) = m.length by omega)
    let t12 : Tp pr := .m (show (decide (((List.map Ln.cc P).append ([C.t (T.int IntKind.i64 a), C.t (T.int IntKind.i64 b), C.row (3 : Nat) ((List.map Bc.ce m).append ([T.int IntKind.i64 k, T.int IntKind.i64 x.n, T.str x.text] :: List.map Bc.ce rest))] :: List.map Ln.cc Q)).length = N)) = true by (simp; omega))
    let t13 : Tp pr := .g .crow (show (((List.map Ln.cc P).append ([C.t (T.int IntKind.i64 a), C.t (T.int IntKind.i64 b), C.row (3 : Nat) ((List.map Bc.ce m).append ([T.int IntKind.i64 k, T.int IntKind.i64 x.n, T.str x.text] :: List.map Bc.ce rest))] :: List.map Ln.cc Q))[P.length]?) = some ([C.t (T.int IntKind.i64 a), C.t (T.int IntKind.i64 b), C.row (3 : Nat) (List.map Bc.ce m ++ [T.int IntKind.i64 k, T.int IntKind.i64 x.n, T.str x.text] :: List.map Bc.ce rest)]) by simp)
    let t14 : Tp pr := .g .row (show (((List.map Bc.ce m).append ([T.int IntKind.i64 k, T.int IntKind.i64 x.n, T.str x.text] :: List.map Bc.ce rest))[m.length]?) = some ([T.int IntKind.i64 k, T.int IntKind.i64 x.n, T.str x.text]) by simp)
    let t16 : Tp pr := .n .crows (show (((List.map Ln.cc P).append ([C.t (T.int IntKind.i64 a), C.t (T.int IntKind.i64 b), C.row (3 : Nat) ((List.map Bc.ce m).append ([T.int IntKind.i64 k, T.int IntKind.i64 x.n, T.str x.text] :: List.map Bc.ce rest))] :: List.map Ln.cc Q)).set P.length [C.t (T.int IntKind.i64 a), C.t (T.int IntKind.i64 b), C.row (3 : Nat) (((List.map Bc.ce m).append ([T.int IntKind.i64 k, T.int IntKind.i64 x.n, T.str x.text] :: List.map Bc.ce rest)).set m.length [T.int IntKind.i64 k, T.int IntKind.i64 (k + (1 : Int)), T.str x.text])]) = List.map Ln.cc P ++ [C.t (T.int IntKind.i64 a), C.t (T.int IntKind.i64 b), C.row (3 : Nat) (List.map Bc.ce m ++ [T.int IntKind.i64 k, T.int IntKind.i64 (k + (1 : Int)), T.str x.text] :: List.map Bc.ce rest)] :: List.map Ln.cc Q by simp)
    let t17 : Tp pr := .i (wrap_i64 (a := k + (1 : Int) + (1 : Int)) (by omega) (by omega))
    let t18 : Tp pr := .a (hmt (k + (1 : Int) + (1 : Int)) (by omega) (by omega))
    let t19 : Tp pr := .m (show (decide ((0 : Int) ≤ (↑m.length : Int) ∧ (↑m.length : Int).toNat < len)) = true by simp [*])
    let t20 : Tp pr := .c (show ((↑m.length : Int).toNat : Nat) = m.length by omega)
    let t21 : Tp pr := .m (show (decide (((List.map Ln.cc P).append ([C.t (T.int IntKind.i64 a), C.t (T.int IntKind.i64 b), C.row (3 : Nat) ((List.map Bc.ce m).append ([T.int IntKind.i64 k, T.int IntKind.i64 (k + (1 : Int)), T.str x.text] :: List.map Bc.ce rest))] :: List.map Ln.cc Q)).length = N)) = true by (simp; omega))
    let t22 : Tp pr := .g .crow (show (((List.map Ln.cc P).append ([C.t (T.int IntKind.i64 a), C.t (T.int IntKind.i64 b), C.row (3 : Nat) ((List.map Bc.ce m).append ([T.int IntKind.i64 k, T.int IntKind.i64 (k + (1 : Int)), T.str x.text] :: List.map Bc.ce rest))] :: List.map Ln.cc Q))[P.length]?) = some ([C.t (T.int IntKind.i64 a), C.t (T.int IntKind.i64 b), C.row (3 : Nat) (List.map Bc.ce m ++ [T.int IntKind.i64 k, T.int IntKind.i64 (k + (1 : Int)), T.str x.text] :: List.map Bc.ce rest)]) by simp)
    let t23 : Tp pr := .g .row (show (((List.map Bc.ce m).append ([T.int IntKind.i64 k, T.int IntKind.i64 (k + (1 : Int)), T.str x.text] :: List.map Bc.ce rest))[m.length]?) = some ([T.int IntKind.i64 k, T.int IntKind.i64 (k + (1 : Int)), T.str x.text]) by simp)
    let t25 : Tp pr := .n .crows (show (((List.map Ln.cc P).append ([C.t (T.int IntKind.i64 a), C.t (T.int IntKind.i64 b), C.row (3 : Nat) ((List.map Bc.ce m).append ([T.int IntKind.i64 k, T.int IntKind.i64 (k + (1 : Int)), T.str x.text] :: List.map Bc.ce rest))] :: List.map Ln.cc Q)).set P.length [C.t (T.int IntKind.i64 a), C.t (T.int IntKind.i64 b), C.row (3 : Nat) (((List.map Bc.ce m).append ([T.int IntKind.i64 k, T.int IntKind.i64 (k + (1 : Int)), T.str x.text] :: List.map Bc.ce rest)).set m.length [T.int IntKind.i64 k, T.int IntKind.i64 (k + (1 : Int)), T.str (mt (k + (1 : Int) + (1 : Int)))])]) = List.map Ln.cc P ++ [C.t (T.int IntKind.i64 a), C.t (T.int IntKind.i64 b), C.row (3 : Nat) (List.map Bc.ce m ++ [T.int IntKind.i64 k, T.int IntKind.i64 (k + (1 : Int)), T.str (mt (k + (1 : Int) + (1 : Int)))] :: List.map Bc.ce rest)] :: List.map Ln.cc Q by simp)
    let t26 : Tp pr := .i (wrap_i64 (a := k + (1 : Int) + (1 : Int) + (1 : Int)) (by omega) (by omega))
    let t27 : Tp pr := .i (wrap_i64 (a := (↑m.length : Int) + (1 : Int)) (by omega) (by omega))
    let t28 : Tp pr := .a (Ev.castq (congrArg (fun x => Ev.Q.loop (lq pr (20 : FuncId) (0 : Nat)) (at_ [((0 : Nat), V.row (0 : Nat) N P.length (2 : Nat) (3 : Nat) len), ((1 : Nat), i64 (k + (1 : Int) + (1 : Int) + (1 : Int))), ((5 : Nat), i64 x)] [Ob.vec fl (3 : Nat) (List.map Ln.cc P ++ [C.t (T.int IntKind.i64 a), C.t (T.int IntKind.i64 b), C.row (3 : Nat) (List.map Bc.ce m ++ [T.int IntKind.i64 k, T.int IntKind.i64 (k + (1 : Int)), T.str (mt (k + (1 : Int) + (1 : Int)))] :: List.map Bc.ce rest)] :: List.map Ln.cc Q)] (1 : Nat))) (show ((↑(m ++ [Bc.mk k (k + (1 : Int)) (mt (k + (1 : Int) + (1 : Int)))]).length : Int)) = ((↑m.length : Int) + (1 : Int)) by (simp [mark3] <;> omega))) (ih))
    exact .tpe [.i (rfl : ((↑len : Int)) = _), t1, t2, t3, t4, t5, t6, .m (rfl : true = true), t8, t9, t10, t11, t12, t13, t14, .m (rfl : true = true), t16, t17, t18, t19, t20, t21, t22, t23, .m (rfl : true = true), t25, t26, t27, t28] (Out.exit (0 : Nat) (at_ [((1 : Nat), V.t (T.int IntKind.i64 (k + (1 : Int) + (1 : Int) + (1 : Int) + (3 : Int) * (↑rest.length : Int))))] [Ob.vec fl (3 : Nat) (List.map Ln.cc (P ++ Ln.mk a b (m ++ [Bc.mk k (k + (1 : Int)) (mt (k + (1 : Int) + (1 : Int)))] ++ mark3 mt (k + (1 : Int) + (1 : Int) + (1 : Int)) rest.length) :: Q))] (1 : Nat))) (by kernel_rfl) ((congrArg (fun x => Out.exit (0 : Nat) (at_ [((1 : Nat), V.t (T.int IntKind.i64 x))] [Ob.vec fl (3 : Nat) (List.map Ln.cc (P ++ Ln.mk a b (m ++ [Bc.mk k (k + (1 : Int)) (mt (k + (1 : Int) + (1 : Int)))] ++ mark3 mt (k + (1 : Int) + (1 : Int) + (1 : Int)) rest.length) :: Q))] (1 : Nat))) (show (k + (1 : Int) + (1 : Int) + (1 : Int) + (3 : Int) * (↑rest.length : Int)) = (k + (3 : Int) * (↑(x :: rest).length : Int)) by (simp [mark3] <;> omega))).trans (congrArg (fun x_1 => Out.exit (0 : Nat) (at_ [((1 : Nat), V.t (T.int IntKind.i64 (k + (3 : Int) * (↑(x :: rest).length : Int))))] [Ob.vec fl (3 : Nat) x_1] (1 : Nat))) (show (List.map Ln.cc (P ++ Ln.mk a b (m ++ [Bc.mk k (k + (1 : Int)) (mt (k + (1 : Int) + (1 : Int)))] ++ mark3 mt (k + (1 : Int) + (1 : Int) + (1 : Int)) rest.length) :: Q)) = (List.map Ln.cc (P ++ Ln.mk a b (m ++ mark3 mt k (x :: rest).length) :: Q)) by (simp [mark3] <;> omega))))
theorem markRow_ev (mt : Int → ByteArray) (hmt : ∀ k, 0 ≤ k → k ≤ 10000000000 → Ev pr (.call 54 [i64 k] []) (.val (.t (.str (mt k))) [])) (fl : Bool) (P Q : List Ln) (x : Ln) (N : Nat) (hN : N = P.length + 1 + Q.length) (k : Int) (h0 : 0 ≤ k) (h1 : k + 3 * x.ex.length ≤ 9000000) (h2 : x.ex.length ≤ 1048576) :
    Ev pr (.call 20 [.row 0 N P.length 2 3 x.ex.length, i64 k] [.vec fl 3 ((P ++ x :: Q).map Ln.cc)]) (.val (i64 (k + 3 * x.ex.length)) [.vec fl 3 ((P ++ ⟨x.kind, x.name, mark3 mt k x.ex.length⟩ :: Q).map Ln.cc)]) := by
  have := markRowL_ev mt hmt fl P Q x.kind x.name N x.ex.length hN h2 x.ex [] k h0 h1 (by simp)
  exact .tp [.a (this)] (by kernel_rfl)
theorem markLineL_ev (mt : Int → ByteArray) (hmt : ∀ k, 0 ≤ k → k ≤ 10000000000 → Ev pr (.call 54 [i64 k] []) (.val (.t (.str (mt k))) [])) (N : Nat) (hNs : N ≤ 1048576) :
    ∀ (rest P : List Ln) (fl : Bool) (k : Int), N = P.length + rest.length → (∀ x ∈ rest, x.ex.length ≤ 1048576) → 0 ≤ k → k + marksN rest ≤ 9000000 →
    Ev pr (.loop (lq pr 28 0) (at_ [(0, .vec 0 N 3 0 N), (1, i64 k), (5, i64 P.length)] [.vec fl 3 ((P ++ rest).map Ln.cc)] 1))
      (.exit 0 (at_ [(1, i64 (k + marksN rest))] [.vec fl 3 ((P ++ marked mt k rest).map Ln.cc)] 1))
  | [], P, fl, k, hN, hx, h0, h1 => by
    let t1 : Tp pr := .b (show (decide ((↑P.length : Int) < (↑N : Int))) = false by simp [*])
    exact .tpe [.i (rfl : ((↑N : Int)) = _), t1] (Out.exit (0 : Nat) (at_ [((1 : Nat), V.t (T.int IntKind.i64 k))] [Ob.vec fl (3 : Nat) (List.map Ln.cc (P ++ []))] (1 : Nat))) (by kernel_rfl) ((congrArg (fun x => Out.exit (0 : Nat) (at_ [((1 : Nat), V.t (T.int IntKind.i64 x))] [Ob.vec fl (3 : Nat) (List.map Ln.cc (P ++ []))] (1 : Nat))) (show (k) = (k + (0 : Int)) by simp [marked, marksN])).trans (congrArg (fun x => Out.exit (0 : Nat) (at_ [((1 : Nat), V.t (T.int IntKind.i64 (k + (0 : Int))))] [Ob.vec fl (3 : Nat) x] (1 : Nat))) (show (List.map Ln.cc (P ++ [])) = (List.map Ln.cc (P ++ marked mt k [])) by simp [marked, marksN])))
  | x :: rest, P, fl, k, hN, hx, h0, h1 => by
    have hm := marksN_nonneg rest
    simp [marksN] at h1 hN
    have hr := markRow_ev mt hmt fl P rest ⟨k, k + 1, x.ex⟩ N (by omega) (k + 1 + 1) (by omega) (by simp; omega) (hx x (by simp))
    have ih := markLineL_ev mt hmt N hNs rest (P ++ [⟨k, k + 1, mark3 mt (k + 1 + 1) x.ex.length⟩]) fl (k + 2 + 3 * x.ex.length) (by simp; omega) (fun y hy => hx y (by simp [hy])) (by omega) (by omega)
    let t1 : Tp pr := .b (show (decide ((↑P.length : Int) < (↑N : Int))) = true by (simp; omega))
    let t2 : Tp pr := .m (show (decide ((0 : Int) ≤ (↑P.length : Int) ∧ (↑P.length : Int).toNat < N)) = true by simp [*])
    let t3 : Tp pr := .c (show ((0 : Nat) + (↑P.length : Int).toNat : Nat) = P.length by omega)
    let t4 : Tp pr := .m (show (decide ((List.map Ln.cc (P ++ x :: rest)).length = N)) = true by simp [*])
    let t5 : Tp pr := .g .crow (show ((List.map Ln.cc (P ++ x :: rest))[P.length]?) = some (x.cc) by simp)
    let t6 : Tp pr := .m (show (decide ((List.map Ln.cc (P ++ x :: rest)).length = N)) = true by simp [*])
    let t7 : Tp pr := .g .crow (show ((List.map Ln.cc (P ++ x :: rest))[P.length]?) = some (x.cc) by simp)
    let t8 : Tp pr := .n .crows (show ((List.map Ln.cc (P ++ x :: rest)).set P.length [C.t (T.int IntKind.i64 k), C.t (T.int IntKind.i64 x.name), C.row (3 : Nat) (List.map Bc.ce x.ex)]) = List.map Ln.cc P ++ [C.t (T.int IntKind.i64 k), C.t (T.int IntKind.i64 x.name), C.row (3 : Nat) (List.map Bc.ce x.ex)] :: List.map Ln.cc rest by simp)
    let t9 : Tp pr := .i (wrap_i64 (a := k + (1 : Int)) (by omega) (by omega))
    let t10 : Tp pr := .m (show (decide ((0 : Int) ≤ (↑P.length : Int) ∧ (↑P.length : Int).toNat < N)) = true by simp [*])
    let t11 : Tp pr := .c (show ((0 : Nat) + (↑P.length : Int).toNat : Nat) = P.length by omega)
    let t12 : Tp pr := .m (show (decide (((List.map Ln.cc P).append ([C.t (T.int IntKind.i64 k), C.t (T.int IntKind.i64 x.name), C.row (3 : Nat) (List.map Bc.ce x.ex)] :: List.map Ln.cc rest)).length = N)) = true by simp [*])
    let t13 : Tp pr := .g .crow (show (((List.map Ln.cc P).append ([C.t (T.int IntKind.i64 k), C.t (T.int IntKind.i64 x.name), C.row (3 : Nat) (List.map Bc.ce x.ex)] :: List.map Ln.cc rest))[P.length]?) = some ([C.t (T.int IntKind.i64 k), C.t (T.int IntKind.i64 x.name), C.row (3 : Nat) (List.map Bc.ce x.ex)]) by simp)
    let t14 : Tp pr := .n .crows (show (((List.map Ln.cc P).append ([C.t (T.int IntKind.i64 k), C.t (T.int IntKind.i64 x.name), C.row (3 : Nat) (List.map Bc.ce x.ex)] :: List.map Ln.cc rest)).set P.length [C.t (T.int IntKind.i64 k), C.t (T.int IntKind.i64 (k + (1 : Int))), C.row (3 : Nat) (List.map Bc.ce x.ex)]) = List.map Ln.cc P ++ [C.t (T.int IntKind.i64 k), C.t (T.int IntKind.i64 (k + (1 : Int))), C.row (3 : Nat) (List.map Bc.ce x.ex)] :: List.map Ln.cc rest by simp)
    let t15 : Tp pr := .i (wrap_i64 (a := k + (1 : Int) + (1 : Int)) (by omega) (by omega))
    let t16 : Tp pr := .m (show (decide ((0 : Int) ≤ (↑P.length : Int) ∧ (↑P.length : Int).toNat < N)) = true by simp [*])
    let t17 : Tp pr := .c (show ((0 : Nat) + (↑P.length : Int).toNat : Nat) = P.length by omega)
    let t18 : Tp pr := .m (show (decide (((List.map Ln.cc P).append ([C.t (T.int IntKind.i64 k), C.t (T.int IntKind.i64 (k + (1 : Int))), C.row (3 : Nat) (List.map Bc.ce x.ex)] :: List.map Ln.cc rest)).length = N)) = true by simp [*])
    let t19 : Tp pr := .g .crow (show (((List.map Ln.cc P).append ([C.t (T.int IntKind.i64 k), C.t (T.int IntKind.i64 (k + (1 : Int))), C.row (3 : Nat) (List.map Bc.ce x.ex)] :: List.map Ln.cc rest))[P.length]?) = some ([C.t (T.int IntKind.i64 k), C.t (T.int IntKind.i64 (k + (1 : Int))), C.row (3 : Nat) (List.map Bc.ce x.ex)]) by simp)
    let t20 : Tp pr := .a (Ev.castq (((congrArg (fun x_1 => Q.call (20 : FuncId) [V.row (0 : Nat) N P.length (2 : Nat) (3 : Nat) x_1, i64 (k + (1 : Int) + (1 : Int))] [Ob.vec fl (3 : Nat) (List.map Ln.cc (P ++ Ln.mk k (k + (1 : Int)) x.ex :: rest))]) (show ((Ln.mk k (k + (1 : Int)) x.ex).ex.length) = ((List.map Bc.ce x.ex).length) by (simp [marked, marksN, Ln.cc] <;> omega))).trans (congrArg (fun x_1 => Q.call (20 : FuncId) [V.row (0 : Nat) N P.length (2 : Nat) (3 : Nat) (List.map Bc.ce x.ex).length, i64 (k + (1 : Int) + (1 : Int))] [Ob.vec x_1 (3 : Nat) (List.map Ln.cc (P ++ Ln.mk k (k + (1 : Int)) x.ex :: rest))]) (show (fl) = (fl && true && true) by (simp [marked, marksN, Ln.cc] <;> omega)))).trans (congrArg (fun x_1 => Q.call (20 : FuncId) [V.row (0 : Nat) N P.length (2 : Nat) (3 : Nat) (List.map Bc.ce x.ex).length, i64 (k + (1 : Int) + (1 : Int))] [Ob.vec (fl && true && true) (3 : Nat) x_1]) (show (List.map Ln.cc (P ++ Ln.mk k (k + (1 : Int)) x.ex :: rest)) = ((List.map Ln.cc P).append ([C.t (T.int IntKind.i64 k), C.t (T.int IntKind.i64 (k + (1 : Int))), C.row (3 : Nat) (List.map Bc.ce x.ex)] :: List.map Ln.cc rest)) by (simp [marked, marksN, Ln.cc] <;> omega)))) (hr))
    let t21 : Tp pr := .i (wrap_i64 (a := (↑P.length : Int) + (1 : Int)) (by omega) (by omega))
    let t22 : Tp pr := .a (Ev.castq (((congrArg (fun x_1 => Q.loop (lq pr (28 : FuncId) (0 : Nat)) (at_ [((0 : Nat), V.vec (0 : Nat) N (3 : Nat) (0 : Nat) N), ((1 : Nat), i64 x_1), ((5 : Nat), i64 (↑(P ++ [Ln.mk k (k + (1 : Int)) (mark3 mt (k + (1 : Int) + (1 : Int)) x.ex.length)]).length : Int))] [Ob.vec fl (3 : Nat) (List.map Ln.cc (P ++ [Ln.mk k (k + (1 : Int)) (mark3 mt (k + (1 : Int) + (1 : Int)) x.ex.length)] ++ rest))] (1 : Nat))) (show (k + (2 : Int) + (3 : Int) * (↑x.ex.length : Int)) = (k + (1 : Int) + (1 : Int) + (3 : Int) * (↑(Ln.mk k (k + (1 : Int)) x.ex).ex.length : Int)) by (simp [marked, marksN, Ln.cc] <;> omega))).trans (congrArg (fun x_1 => Q.loop (lq pr (28 : FuncId) (0 : Nat)) (at_ [((0 : Nat), V.vec (0 : Nat) N (3 : Nat) (0 : Nat) N), ((1 : Nat), i64 (k + (1 : Int) + (1 : Int) + (3 : Int) * (↑(Ln.mk k (k + (1 : Int)) x.ex).ex.length : Int))), ((5 : Nat), i64 x_1)] [Ob.vec fl (3 : Nat) (List.map Ln.cc (P ++ [Ln.mk k (k + (1 : Int)) (mark3 mt (k + (1 : Int) + (1 : Int)) x.ex.length)] ++ rest))] (1 : Nat))) (show ((↑(P ++ [Ln.mk k (k + (1 : Int)) (mark3 mt (k + (1 : Int) + (1 : Int)) x.ex.length)]).length : Int)) = ((↑P.length : Int) + (1 : Int)) by (simp [marked, marksN, Ln.cc] <;> omega)))).trans (congrArg (fun x_1 => Q.loop (lq pr (28 : FuncId) (0 : Nat)) (at_ [((0 : Nat), V.vec (0 : Nat) N (3 : Nat) (0 : Nat) N), ((1 : Nat), i64 (k + (1 : Int) + (1 : Int) + (3 : Int) * (↑(Ln.mk k (k + (1 : Int)) x.ex).ex.length : Int))), ((5 : Nat), i64 ((↑P.length : Int) + (1 : Int)))] [Ob.vec fl (3 : Nat) x_1] (1 : Nat))) (show (List.map Ln.cc (P ++ [Ln.mk k (k + (1 : Int)) (mark3 mt (k + (1 : Int) + (1 : Int)) x.ex.length)] ++ rest)) = (List.map Ln.cc (P ++ Ln.mk (Ln.mk k (k + (1 : Int)) x.ex).kind (Ln.mk k (k + (1 : Int)) x.ex).name (mark3 mt (k + (1 : Int) + (1 : Int)) (Ln.mk k (k + (1 : Int)) x.ex).ex.length) :: rest)) by (simp [marked, marksN, Ln.cc] <;> omega)))) (ih))
    exact .tpe [.i (rfl : ((↑N : Int)) = _), t1, t2, t3, t4, t5, t6, t7, t8, t9, t10, t11, t12, t13, t14, t15, t16, t17, t18, t19, t20, t21, t22] (Out.exit (0 : Nat) (at_ [((1 : Nat), V.t (T.int IntKind.i64 (k + (2 : Int) + (3 : Int) * (↑x.ex.length : Int) + marksN rest)))] [Ob.vec fl (3 : Nat) (List.map Ln.cc (P ++ [Ln.mk k (k + (1 : Int)) (mark3 mt (k + (1 : Int) + (1 : Int)) x.ex.length)] ++ marked mt (k + (2 : Int) + (3 : Int) * (↑x.ex.length : Int)) rest))] (1 : Nat))) (by kernel_rfl) ((congrArg (fun x_1 => Out.exit (0 : Nat) (at_ [((1 : Nat), V.t (T.int IntKind.i64 x_1))] [Ob.vec fl (3 : Nat) (List.map Ln.cc (P ++ [Ln.mk k (k + (1 : Int)) (mark3 mt (k + (1 : Int) + (1 : Int)) x.ex.length)] ++ marked mt (k + (2 : Int) + (3 : Int) * (↑x.ex.length : Int)) rest))] (1 : Nat))) (show (k + (2 : Int) + (3 : Int) * (↑x.ex.length : Int) + marksN rest) = (k + marksN (x :: rest)) by (simp [marked, marksN, Ln.cc] <;> omega))).trans (congrArg (fun x_1 => Out.exit (0 : Nat) (at_ [((1 : Nat), V.t (T.int IntKind.i64 (k + marksN (x :: rest))))] [Ob.vec fl (3 : Nat) x_1] (1 : Nat))) (show (List.map Ln.cc (P ++ [Ln.mk k (k + (1 : Int)) (mark3 mt (k + (1 : Int) + (1 : Int)) x.ex.length)] ++ marked mt (k + (2 : Int) + (3 : Int) * (↑x.ex.length : Int)) rest)) = (List.map Ln.cc (P ++ marked mt k (x :: rest))) by (simp [marked, marksN, Ln.cc] <;> omega))))
end Go.Ev

/- The law: the program's MakeCode returns what the reference's returns. -/
namespace Go.Ev
set_option linter.unusedVariables false
set_option linter.unusedSimpArgs false
open Go.Proofs
set_option maxRecDepth 100000
set_option linter.unusedVariables false
set_option maxHeartbeats 1000000
@[simp] theorem bcc_flat (fl : Bool) (n : Nat) (l : List Bc) : Ob.flat (.vec fl n (bcc l)) = true := by simp [Ob.flat, bcc, Bc.cc, C.flat, T.flat]
@[simp] theorem mark3_take (mt : Int → ByteArray) (k : Int) (n : Nat) : List.take n (List.map Bc.ce (mark3 mt k n)) = List.map Bc.ce (mark3 mt k n) := List.take_of_length_le (by simp [mark3_len])
@[simp] theorem ln_flat (fl : Bool) (l : List Ln) : Ob.flat (.vec fl 3 (l.map Ln.cc)) = true := by simp [Ob.flat, Ln.cc, C.flat, T.flat, Bc.ce]
@[simp] theorem lnb_fz2 (l : List Line) : List.map ((fun x => List.map C.fz x) ∘ Ln.cc) (lnb l) = l.map Line.ce := by rw [← List.map_map]; exact lnb_fz l
@[simp] theorem lnb_take (l : List Line) : List.take l.length ((lnb l).map Ln.cc) = (lnb l).map Ln.cc := List.take_of_length_le (by simp)
theorem makeCode_len {l : List Line} {c : List Bc} (h : makeCode l = some c) : c.length ≤ 120 := by
  unfold makeCode at h
  split at h
  · split at h
    · split at h
      · obtain rfl := Option.some.inj h; assumption
      · cases h
    · cases h
  · cases h
theorem prim_none : PrimOk pr := fun f p h => by cases h
theorem markLineS_ev (mt : Int → ByteArray) (hmt : ∀ k, 0 ≤ k → k ≤ 10000000000 → Ev pr (.call 54 [i64 k] []) (.val (.t (.str (mt k))) [])) (l : List Ln) (fl : Bool) (h : l.length ≤ 1048576) (hx : ∀ x ∈ l, x.ex.length ≤ 1048576) (k : Int) (h0 : 0 ≤ k) (h1 : k + marksN l ≤ 9000000) :
    Ev pr (.call 28 [.vec 0 l.length 3 0 l.length, i64 k] [.vec fl 3 (l.map Ln.cc)]) (.val (i64 (k + marksN l)) [.vec fl 3 ((marked mt k l).map Ln.cc)]) := by
  have := markLineL_ev mt hmt l.length h l [] fl k (by simp) hx h0 h1
  exact .tp [.a (this)] (by kernel_rfl)
theorem law0_ev (l : List Line) (hl : l.length ≤ 9223372036854775807) (hs : ∀ x ∈ l, x.ok) : Ev pr (.call 6 [lines l] []) (.val (bl true) []) := by
  have h0 := szLineS_ev l 1048576 (by omega) (by omega) hl hs
  by_cases hz : szLineS l 1048576 < 0
  · let t1 : Tp pr := .b (show (decide (szLineS l (1048576 : Int) < (0 : Int))) = true by (simp; omega))
    exact .tp [.a (h0), t1] (by kernel_rfl)
  · obtain ⟨k1, k2, k5⟩ := szLineS_all l hz
    have k3 : ∀ x ∈ l, x.expr.length ≤ 1048576 ∧ ∀ y ∈ x.expr, y.text.size ≤ 9223372036854775807 := fun x hx => ⟨k2 x hx, (hs x hx).text⟩
    have k6 := marksN_nonneg (lnb l)
    have h1 := toLineS_ev l k1 k2
    have h2 := MakeCodeS_ev l k1 k3
    have h3 := MakeCodeI_ev l k1 k3
    have h4 := eqLineS_ev l k1 k2
    have h5 := markLineS_ev mText markText_ev (lnb l) l.isEmpty (by simpa using k1) (fun x hx => by
      simp only [lnb, List.mem_map] at hx
      obtain ⟨y, hy, rfl⟩ := hx
      simpa using k2 y hy) 1 (by omega) (by omega)
    rw [lnb_len] at h5
    cases hm : makeCode l with
    | none =>
      rw [hm] at h2 h3
      have h6 := eqBcN_ev
      have h7 := markBcN_ev 1
      have h8 := heldBcN_ev 1
      let t1 : Tp pr := .b (show (decide (szLineS l (1048576 : Int) < (0 : Int))) = false by (simp; omega))
      let t3 : Tp pr := .m (show (decide ((List.map Ln.cc (lnb l)).length = l.length ∧ (0 : Nat) + l.length ≤ l.length)) = true by simp)
      let t4 : Tp pr := .n .rows (show (List.map (fun x => List.map C.fz x) (List.take l.length (List.drop (0 : Nat) (List.map Ln.cc (lnb l))))) = List.map Line.ce l by simp)
      let t7 : Tp pr := .m (show (decide ((List.map Ln.cc (lnb l)).length = l.length ∧ (0 : Nat) + l.length ≤ l.length)) = true by simp)
      let t8 : Tp pr := .n .rows (show (List.map (fun x => List.map C.fz x) (List.take l.length (List.drop (0 : Nat) (List.map Ln.cc (lnb l))))) = List.map Line.ce l by simp)
      let t15 : Tp pr := .m (show (decide ((List.map Ln.cc (lnb l)).length = l.length ∧ (0 : Nat) + l.length ≤ l.length)) = true by simp)
      let t16 : Tp pr := .n .rows (show (List.map (fun x => List.map C.fz x) (List.take l.length (List.drop (0 : Nat) (List.map Ln.cc (lnb l))))) = List.map Line.ce l by simp)
      let t17 : Tp pr := .m (show (decide ((List.map Ln.cc (lnb l)).length = l.length ∧ (0 : Nat) + l.length ≤ l.length)) = true by simp)
      let t18 : Tp pr := .n .rows (show (List.map (fun x => List.map C.fz x) (List.take l.length (List.drop (0 : Nat) (List.map Ln.cc (lnb l))))) = List.map Line.ce l by simp)
      let t23 : Tp pr := .b (show (decide ((1 : Int) + marksN (lnb l) < (0 : Int))) = false by (simp; omega))
      let t32 : Tp pr := .m (show (decide ((List.map Ln.cc (lnb l)).length = l.length ∧ (0 : Nat) + l.length ≤ l.length)) = true by simp)
      let t33 : Tp pr := .n .rows (show (List.map (fun x => List.map C.fz x) (List.take l.length (List.drop (0 : Nat) (List.map Ln.cc (lnb l))))) = List.map Line.ce l by simp)
      exact .tp [.a (h0), t1, .a (h1), t3, t4, .a (h2), .a (h1), t7, t8, .a (h3), .m (rfl : true = true), .a (h6), .b (rfl : false = false), .b (rfl : false = false), .a (h1), t15, t16, t17, t18, .a (h4), .m (rfl : true = true), .b (rfl : false = false), .a (h5), t23, .a (h6), .b (rfl : false = false), .b (rfl : false = false), .a (h7), .a (h8), .b (rfl : false = false), .b (rfl : false = false), .a (h1), t32, t33, .a (h3), .m (rfl : true = true), .a (h6), .b (rfl : false = false), .b (rfl : false = false), .a (h8), .b (rfl : false = false), .b (rfl : false = false)] (by kernel_rfl)
    | some c =>
      rw [hm] at h2 h3
      have hc := makeCode_len hm
      have h6 := eqBcS_ev c (by omega)
      have h7 := markBcS_ev mText markText_ev c 1 (by omega) (by omega) (by omega)
      have h8 := heldBcS_ev mText markText_ev c.length 1 (by omega) (by omega) (by omega)
      have h9 := mark3_len mText 1 c.length
      let t1 : Tp pr := .b (show (decide (szLineS l (1048576 : Int) < (0 : Int))) = false by (simp; omega))
      let t3 : Tp pr := .m (show (decide ((List.map Ln.cc (lnb l)).length = l.length ∧ (0 : Nat) + l.length ≤ l.length)) = true by simp)
      let t4 : Tp pr := .n .rows (show (List.map (fun x => List.map C.fz x) (List.take l.length (List.drop (0 : Nat) (List.map Ln.cc (lnb l))))) = List.map Line.ce l by simp)
      let t7 : Tp pr := .m (show (decide ((List.map Ln.cc (lnb l)).length = l.length ∧ (0 : Nat) + l.length ≤ l.length)) = true by simp)
      let t8 : Tp pr := .n .rows (show (List.map (fun x => List.map C.fz x) (List.take l.length (List.drop (0 : Nat) (List.map Ln.cc (lnb l))))) = List.map Line.ce l by simp)
      let t10 : Tp pr := .m (show (true && [Ob.vec true (3 : Nat) (bcc c)].all Ob.flat) = true by simp)
      let t11 : Tp pr := .m (show (decide ((bcc c).length = c.length ∧ (0 : Nat) + c.length ≤ c.length)) = true by simp)
      let t12 : Tp pr := .n .rows (show (List.map (fun x => List.map C.fz x) (List.take c.length (List.drop (0 : Nat) (bcc c)))) = List.map Bc.ce c by simp)
      let t18 : Tp pr := .m (show (decide ((List.map Ln.cc (lnb l)).length = l.length ∧ (0 : Nat) + l.length ≤ l.length)) = true by simp)
      let t19 : Tp pr := .n .rows (show (List.map (fun x => List.map C.fz x) (List.take l.length (List.drop (0 : Nat) (List.map Ln.cc (lnb l))))) = List.map Line.ce l by simp)
      let t20 : Tp pr := .m (show (decide ((List.map Ln.cc (lnb l)).length = l.length ∧ (0 : Nat) + l.length ≤ l.length)) = true by simp)
      let t21 : Tp pr := .n .rows (show (List.map (fun x => List.map C.fz x) (List.take l.length (List.drop (0 : Nat) (List.map Ln.cc (lnb l))))) = List.map Line.ce l by simp)
      let t26 : Tp pr := .b (show (decide ((1 : Int) + marksN (lnb l) < (0 : Int))) = false by (simp; omega))
      let t27 : Tp pr := .m (show (decide ((bcc c).length = c.length ∧ (0 : Nat) + c.length ≤ c.length)) = true by simp)
      let t28 : Tp pr := .n .rows (show (List.map (fun x => List.map C.fz x) (List.take c.length (List.drop (0 : Nat) (bcc c)))) = List.map Bc.ce c by simp)
      let t34 : Tp pr := .m (show (decide ((bcc (mark3 mText (1 : Int) c.length)).length = c.length ∧ (0 : Nat) + c.length ≤ c.length)) = true by simp [*])
      let t35 : Tp pr := .n .rows (show (List.map (fun x => List.map C.fz x) (List.take c.length (List.drop (0 : Nat) (bcc (mark3 mText (1 : Int) c.length))))) = List.map Bc.ce (mark3 mText (1 : Int) c.length) by simp)
      let t39 : Tp pr := .b (show ((1 : Int) + (3 : Int) * (↑c.length : Int) != (1 : Int) + (3 : Int) * (↑c.length : Int)) = false by simp)
      let t41 : Tp pr := .m (show (decide ((List.map Ln.cc (lnb l)).length = l.length ∧ (0 : Nat) + l.length ≤ l.length)) = true by simp)
      let t42 : Tp pr := .n .rows (show (List.map (fun x => List.map C.fz x) (List.take l.length (List.drop (0 : Nat) (List.map Ln.cc (lnb l))))) = List.map Line.ce l by simp)
      let t44 : Tp pr := .m (show (true && [Ob.vec true (3 : Nat) (bcc c)].all Ob.flat) = true by simp)
      let t45 : Tp pr := .m (show (decide ((bcc c).length = c.length ∧ (0 : Nat) + c.length ≤ c.length)) = true by simp)
      let t46 : Tp pr := .n .rows (show (List.map (fun x => List.map C.fz x) (List.take c.length (List.drop (0 : Nat) (bcc c)))) = List.map Bc.ce c by simp)
      let t51 : Tp pr := .m (show (decide ((bcc (mark3 mText (1 : Int) c.length)).length = c.length ∧ (0 : Nat) + c.length ≤ c.length)) = true by simp [*])
      let t52 : Tp pr := .n .rows (show (List.map (fun x => List.map C.fz x) (List.take c.length (List.drop (0 : Nat) (bcc (mark3 mText (1 : Int) c.length))))) = List.map Bc.ce (mark3 mText (1 : Int) c.length) by simp)
      let t56 : Tp pr := .b (show ((1 : Int) + (3 : Int) * (↑c.length : Int) != (1 : Int) + (3 : Int) * (↑c.length : Int)) = false by simp)
      exact .tp [.a (h0), t1, .a (h1), t3, t4, .a (h2), .a (h1), t7, t8, .a (h3), t10, t11, t12, .a (h6), .m (rfl : true = true), .b (rfl : false = false), .b (rfl : false = false), .a (h1), t18, t19, t20, t21, .a (h4), .m (rfl : true = true), .b (rfl : false = false), .a (h5), t26, t27, t28, .a (h6), .m (rfl : true = true), .b (rfl : false = false), .b (rfl : false = false), .a (h7), t34, t35, .a (h8), .m (rfl : true = true), .b (rfl : false = false), t39, .a (h1), t41, t42, .a (h3), t44, t45, t46, .a (h6), .m (rfl : true = true), .b (rfl : false = false), .b (rfl : false = false), t51, t52, .a (h8), .m (rfl : true = true), .b (rfl : false = false), t56] (by kernel_rfl)
theorem law_ev (l : List Line) (h : l.length ≤ 9223372036854775807 ∧ ∀ x ∈ l, x.wf) : Ev pr (.call 6 [lines l] []) (.val (.t (.bool true)) []) := law0_ev l h.1 fun x hx => (h.2 x hx).ok
end Go.Ev
