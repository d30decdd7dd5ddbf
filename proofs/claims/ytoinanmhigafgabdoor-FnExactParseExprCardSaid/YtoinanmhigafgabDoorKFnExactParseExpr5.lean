import Derived.Test.YtoinanmhigafgabDoorKFnExactParseExpr4
/- The parts of an expression. -/
namespace Go.Ev
set_option linter.unusedVariables false
set_option linter.unusedSimpArgs false
open Go.Proofs
set_option maxRecDepth 100000
set_option linter.unusedVariables false
set_option maxHeartbeats 1000000
attribute [local simp] e0
theorem pL2_ev (x y : T) (m : List Bc) (hm : m.length ≤ 1000000) : Ev pr (.loop (lq pr 18 0) (at_ [(1, .vec 0 (m).length 3 0 (m).length), (31, .vec 1 2 1 0 2), (32, i64 2), (33, i64 2)] [.vec true 3 (bcc (m)), .vec true 1 [[C.t (x)], [C.t (y)]]] 1)) (.exit 0 (at_ [(1, .vec 0 (m).length 3 0 (m).length)] [.vec true 3 (bcc (m))] 1)) := by
  exact .tp [.b (rfl : false = false)] (by kernel_rfl)
theorem pL1n_ev (x : T) (m : List Bc) (hm : m.length ≤ 1000000) : Ev pr (.loop (lq pr 18 0) (at_ [(1, .vec 0 (m).length 3 0 (m).length), (31, .vec 1 2 1 0 2), (32, i64 2), (33, i64 1)] [.vec true 3 (bcc (m)), .vec true 1 [[C.t (x)], [C.t (.nilp)]]] 1)) (.exit 0 (at_ [(1, .vec 0 (m).length 3 0 (m).length)] [.vec true 3 (bcc (m))] 1)) := by
  have h2 := pL2_ev x .nilp m hm
  let t4 : Tp pr := .g .crow (show (some [C.t T.nilp]) = some ([C.t T.nilp]) by simp)
  let t6 : Tp pr := .i (rfl : ((2 : Int) : Int) = (2 : Int))
  exact .tp [.b (rfl : true = true), .m (rfl : true = true), .c (rfl : ((1 : Nat)) = _), .m (rfl : true = true), t4, .b (rfl : false = false), t6, .a (h2)] (by kernel_rfl)
theorem pL1s_ev (x : T) (b : E) (m : List Bc) (hm : m.length + b.size ≤ 1000000) (ih : ∀ m : List Bc, m.length + b.size ≤ 1000000 → Ev pr (.call 18 [.t b.tp, .vec 0 (m).length 3 0 (m).length] [.vec true 3 (bcc (m))]) (.val (.vec 0 (m ++ exb b.parts).length 3 0 (m ++ exb b.parts).length) [.vec true 3 (bcc (m ++ exb b.parts))])) : Ev pr (.loop (lq pr 18 0) (at_ [(1, .vec 0 (m).length 3 0 (m).length), (31, .vec 1 2 1 0 2), (32, i64 2), (33, i64 1)] [.vec true 3 (bcc (m)), .vec true 1 [[C.t (x)], [C.t (b.tp)]]] 1)) (.exit 0 (at_ [(1, .vec 0 (m ++ exb b.parts).length 3 0 (m ++ exb b.parts).length)] [.vec true 3 (bcc (m ++ exb b.parts))] 1)) := by
  have h1 := ih m hm
  have hl := parts_len b
  have h2 := pL2_ev x b.tp (m ++ exb b.parts) (by first | (simp; done) | (simp; omega))
  let t4 : Tp pr := .g .crow (show (some [C.t (T.ptr [T.int IntKind.i64 b.kind, T.int IntKind.i64 b.nm, T.str b.text, b.tab.fst, b.tab.snd] (0 : Nat))]) = some ([C.t (T.ptr [T.int IntKind.i64 b.kind, T.int IntKind.i64 b.nm, T.str b.text, b.tab.fst, b.tab.snd] (0 : Nat))]) by simp)
  let t7 : Tp pr := .i (rfl : ((2 : Int) : Int) = (2 : Int))
  exact .tp [.b (rfl : true = true), .m (rfl : true = true), .c (rfl : ((1 : Nat)) = _), .m (rfl : true = true), t4, .b (rfl : true = true), .a (ih (m) (by assumption)), t7, .a (h2)] (by kernel_rfl)
theorem pL0n_ev (m : List Bc) (hm : m.length ≤ 1000000) : Ev pr (.loop (lq pr 18 0) (at_ [(1, .vec 0 (m).length 3 0 (m).length), (31, .vec 1 2 1 0 2), (32, i64 2), (33, i64 0)] [.vec true 3 (bcc (m)), .vec true 1 [[C.t (.nilp)], [C.t (.nilp)]]] 1)) (.exit 0 (at_ [(1, .vec 0 (m).length 3 0 (m).length)] [.vec true 3 (bcc (m))] 1)) := by
  have h2 := pL1n_ev .nilp m hm
  let t4 : Tp pr := .g .crow (show (some [C.t T.nilp]) = some ([C.t T.nilp]) by simp)
  let t6 : Tp pr := .i (rfl : ((1 : Int) : Int) = (1 : Int))
  exact .tp [.b (rfl : true = true), .m (rfl : true = true), .c (rfl : ((0 : Nat)) = _), .m (rfl : true = true), t4, .b (rfl : false = false), t6, .a (h2)] (by kernel_rfl)
theorem pL0a_ev (a : E) (m : List Bc) (hm : m.length + a.size ≤ 1000000) (ih : ∀ m : List Bc, m.length + a.size ≤ 1000000 → Ev pr (.call 18 [.t a.tp, .vec 0 (m).length 3 0 (m).length] [.vec true 3 (bcc (m))]) (.val (.vec 0 (m ++ exb a.parts).length 3 0 (m ++ exb a.parts).length) [.vec true 3 (bcc (m ++ exb a.parts))])) : Ev pr (.loop (lq pr 18 0) (at_ [(1, .vec 0 (m).length 3 0 (m).length), (31, .vec 1 2 1 0 2), (32, i64 2), (33, i64 0)] [.vec true 3 (bcc (m)), .vec true 1 [[C.t (a.tp)], [C.t (.nilp)]]] 1)) (.exit 0 (at_ [(1, .vec 0 (m ++ exb a.parts).length 3 0 (m ++ exb a.parts).length)] [.vec true 3 (bcc (m ++ exb a.parts))] 1)) := by
  have h1 := ih m hm
  have hl := parts_len a
  have h2 := pL1n_ev a.tp (m ++ exb a.parts) (by first | (simp; done) | (simp; omega))
  let t4 : Tp pr := .g .crow (show (some [C.t (T.ptr [T.int IntKind.i64 a.kind, T.int IntKind.i64 a.nm, T.str a.text, a.tab.fst, a.tab.snd] (0 : Nat))]) = some ([C.t (T.ptr [T.int IntKind.i64 a.kind, T.int IntKind.i64 a.nm, T.str a.text, a.tab.fst, a.tab.snd] (0 : Nat))]) by simp)
  let t7 : Tp pr := .i (rfl : ((1 : Int) : Int) = (1 : Int))
  exact .tp [.b (rfl : true = true), .m (rfl : true = true), .c (rfl : ((0 : Nat)) = _), .m (rfl : true = true), t4, .b (rfl : true = true), .a (ih (m) (by assumption)), t7, .a (h2)] (by kernel_rfl)
theorem pL0b_ev (a b : E) (m : List Bc) (hm : m.length + a.size + b.size ≤ 1000000) (ih : ∀ m : List Bc, m.length + a.size ≤ 1000000 → Ev pr (.call 18 [.t a.tp, .vec 0 (m).length 3 0 (m).length] [.vec true 3 (bcc (m))]) (.val (.vec 0 (m ++ exb a.parts).length 3 0 (m ++ exb a.parts).length) [.vec true 3 (bcc (m ++ exb a.parts))])) (ih2 : ∀ m : List Bc, m.length + b.size ≤ 1000000 → Ev pr (.call 18 [.t b.tp, .vec 0 (m).length 3 0 (m).length] [.vec true 3 (bcc (m))]) (.val (.vec 0 (m ++ exb b.parts).length 3 0 (m ++ exb b.parts).length) [.vec true 3 (bcc (m ++ exb b.parts))])) : Ev pr (.loop (lq pr 18 0) (at_ [(1, .vec 0 (m).length 3 0 (m).length), (31, .vec 1 2 1 0 2), (32, i64 2), (33, i64 0)] [.vec true 3 (bcc (m)), .vec true 1 [[C.t (a.tp)], [C.t (b.tp)]]] 1)) (.exit 0 (at_ [(1, .vec 0 ((m ++ exb a.parts) ++ exb b.parts).length 3 0 ((m ++ exb a.parts) ++ exb b.parts).length)] [.vec true 3 (bcc ((m ++ exb a.parts) ++ exb b.parts))] 1)) := by
  have h1 := ih m (by omega)
  have hl := parts_len a
  have h2 := pL1s_ev a.tp b (m ++ exb a.parts) (by first | (simp; done) | (simp; omega)) ih2
  let t4 : Tp pr := .g .crow (show (some [C.t (T.ptr [T.int IntKind.i64 a.kind, T.int IntKind.i64 a.nm, T.str a.text, a.tab.fst, a.tab.snd] (0 : Nat))]) = some ([C.t (T.ptr [T.int IntKind.i64 a.kind, T.int IntKind.i64 a.nm, T.str a.text, a.tab.fst, a.tab.snd] (0 : Nat))]) by simp)
  let t7 : Tp pr := .i (rfl : ((1 : Int) : Int) = (1 : Int))
  exact .tp [.b (rfl : true = true), .m (rfl : true = true), .c (rfl : ((0 : Nat)) = _), .m (rfl : true = true), t4, .b (rfl : true = true), .a (ih (m) (by omega)), t7, .a (h2)] (by kernel_rfl)
theorem pL2N_ev (x y : T) (m : List Bc) (hm : m.length ≤ 1000000) : Ev pr (.loop (lq pr 18 0) (at_ [(1, .vec 0 (m).length 3 0 (m).length), (31, .vec 1 2 1 0 2), (32, i64 2), (33, i64 2)] [.vec true 3 (bcc (m)), .vec true 1 [[C.t (x)], [C.t (y)]]] 0)) (.exit 0 (at_ [(1, .vec 0 (m).length 3 0 (m).length)] [.vec true 3 (bcc (m))] 0)) := by
  exact .tp [.b (rfl : false = false)] (by kernel_rfl)
theorem pL1nN_ev (x : T) (m : List Bc) (hm : m.length ≤ 1000000) : Ev pr (.loop (lq pr 18 0) (at_ [(1, .vec 0 (m).length 3 0 (m).length), (31, .vec 1 2 1 0 2), (32, i64 2), (33, i64 1)] [.vec true 3 (bcc (m)), .vec true 1 [[C.t (x)], [C.t (.nilp)]]] 0)) (.exit 0 (at_ [(1, .vec 0 (m).length 3 0 (m).length)] [.vec true 3 (bcc (m))] 0)) := by
  have h2 := pL2N_ev x .nilp m hm
  let t4 : Tp pr := .g .crow (show (some [C.t T.nilp]) = some ([C.t T.nilp]) by simp)
  let t6 : Tp pr := .i (rfl : ((2 : Int) : Int) = (2 : Int))
  exact .tp [.b (rfl : true = true), .m (rfl : true = true), .c (rfl : ((1 : Nat)) = _), .m (rfl : true = true), t4, .b (rfl : false = false), t6, .a (h2)] (by kernel_rfl)
theorem pL1sN_ev (x : T) (b : E) (m : List Bc) (hm : m.length + b.size ≤ 1000000) (ih : ∀ m : List Bc, m.length + b.size ≤ 1000000 → Ev pr (.call 18 [.t b.tp, .vec 0 (m).length 3 0 (m).length] [.vec true 3 (bcc (m))]) (.val (.vec 0 (m ++ exb b.parts).length 3 0 (m ++ exb b.parts).length) [.vec true 3 (bcc (m ++ exb b.parts))])) : Ev pr (.loop (lq pr 18 0) (at_ [(1, .vec 0 (m).length 3 0 (m).length), (31, .vec 1 2 1 0 2), (32, i64 2), (33, i64 1)] [.vec true 3 (bcc (m)), .vec true 1 [[C.t (x)], [C.t (b.tp)]]] 0)) (.exit 0 (at_ [(1, .vec 0 (m ++ exb b.parts).length 3 0 (m ++ exb b.parts).length)] [.vec true 3 (bcc (m ++ exb b.parts))] 0)) := by
  have h1 := ih m hm
  have hl := parts_len b
  have h2 := pL2N_ev x b.tp (m ++ exb b.parts) (by first | (simp; done) | (simp; omega))
  let t4 : Tp pr := .g .crow (show (some [C.t (T.ptr [T.int IntKind.i64 b.kind, T.int IntKind.i64 b.nm, T.str b.text, b.tab.fst, b.tab.snd] (0 : Nat))]) = some ([C.t (T.ptr [T.int IntKind.i64 b.kind, T.int IntKind.i64 b.nm, T.str b.text, b.tab.fst, b.tab.snd] (0 : Nat))]) by simp)
  let t7 : Tp pr := .i (rfl : ((2 : Int) : Int) = (2 : Int))
  exact .tp [.b (rfl : true = true), .m (rfl : true = true), .c (rfl : ((1 : Nat)) = _), .m (rfl : true = true), t4, .b (rfl : true = true), .a (ih (m) (by assumption)), t7, .a (h2)] (by kernel_rfl)
theorem pL0nN_ev (m : List Bc) (hm : m.length ≤ 1000000) : Ev pr (.loop (lq pr 18 0) (at_ [(1, .vec 0 (m).length 3 0 (m).length), (31, .vec 1 2 1 0 2), (32, i64 2), (33, i64 0)] [.vec true 3 (bcc (m)), .vec true 1 [[C.t (.nilp)], [C.t (.nilp)]]] 0)) (.exit 0 (at_ [(1, .vec 0 (m).length 3 0 (m).length)] [.vec true 3 (bcc (m))] 0)) := by
  have h2 := pL1nN_ev .nilp m hm
  let t4 : Tp pr := .g .crow (show (some [C.t T.nilp]) = some ([C.t T.nilp]) by simp)
  let t6 : Tp pr := .i (rfl : ((1 : Int) : Int) = (1 : Int))
  exact .tp [.b (rfl : true = true), .m (rfl : true = true), .c (rfl : ((0 : Nat)) = _), .m (rfl : true = true), t4, .b (rfl : false = false), t6, .a (h2)] (by kernel_rfl)
theorem pL0aN_ev (a : E) (m : List Bc) (hm : m.length + a.size ≤ 1000000) (ih : ∀ m : List Bc, m.length + a.size ≤ 1000000 → Ev pr (.call 18 [.t a.tp, .vec 0 (m).length 3 0 (m).length] [.vec true 3 (bcc (m))]) (.val (.vec 0 (m ++ exb a.parts).length 3 0 (m ++ exb a.parts).length) [.vec true 3 (bcc (m ++ exb a.parts))])) : Ev pr (.loop (lq pr 18 0) (at_ [(1, .vec 0 (m).length 3 0 (m).length), (31, .vec 1 2 1 0 2), (32, i64 2), (33, i64 0)] [.vec true 3 (bcc (m)), .vec true 1 [[C.t (a.tp)], [C.t (.nilp)]]] 0)) (.exit 0 (at_ [(1, .vec 0 (m ++ exb a.parts).length 3 0 (m ++ exb a.parts).length)] [.vec true 3 (bcc (m ++ exb a.parts))] 0)) := by
  have h1 := ih m hm
  have hl := parts_len a
  have h2 := pL1nN_ev a.tp (m ++ exb a.parts) (by first | (simp; done) | (simp; omega))
  let t4 : Tp pr := .g .crow (show (some [C.t (T.ptr [T.int IntKind.i64 a.kind, T.int IntKind.i64 a.nm, T.str a.text, a.tab.fst, a.tab.snd] (0 : Nat))]) = some ([C.t (T.ptr [T.int IntKind.i64 a.kind, T.int IntKind.i64 a.nm, T.str a.text, a.tab.fst, a.tab.snd] (0 : Nat))]) by simp)
  let t7 : Tp pr := .i (rfl : ((1 : Int) : Int) = (1 : Int))
  exact .tp [.b (rfl : true = true), .m (rfl : true = true), .c (rfl : ((0 : Nat)) = _), .m (rfl : true = true), t4, .b (rfl : true = true), .a (ih (m) (by assumption)), t7, .a (h2)] (by kernel_rfl)
theorem pL0bN_ev (a b : E) (m : List Bc) (hm : m.length + a.size + b.size ≤ 1000000) (ih : ∀ m : List Bc, m.length + a.size ≤ 1000000 → Ev pr (.call 18 [.t a.tp, .vec 0 (m).length 3 0 (m).length] [.vec true 3 (bcc (m))]) (.val (.vec 0 (m ++ exb a.parts).length 3 0 (m ++ exb a.parts).length) [.vec true 3 (bcc (m ++ exb a.parts))])) (ih2 : ∀ m : List Bc, m.length + b.size ≤ 1000000 → Ev pr (.call 18 [.t b.tp, .vec 0 (m).length 3 0 (m).length] [.vec true 3 (bcc (m))]) (.val (.vec 0 (m ++ exb b.parts).length 3 0 (m ++ exb b.parts).length) [.vec true 3 (bcc (m ++ exb b.parts))])) : Ev pr (.loop (lq pr 18 0) (at_ [(1, .vec 0 (m).length 3 0 (m).length), (31, .vec 1 2 1 0 2), (32, i64 2), (33, i64 0)] [.vec true 3 (bcc (m)), .vec true 1 [[C.t (a.tp)], [C.t (b.tp)]]] 0)) (.exit 0 (at_ [(1, .vec 0 ((m ++ exb a.parts) ++ exb b.parts).length 3 0 ((m ++ exb a.parts) ++ exb b.parts).length)] [.vec true 3 (bcc ((m ++ exb a.parts) ++ exb b.parts))] 0)) := by
  have h1 := ih m (by omega)
  have hl := parts_len a
  have h2 := pL1sN_ev a.tp b (m ++ exb a.parts) (by first | (simp; done) | (simp; omega)) ih2
  let t4 : Tp pr := .g .crow (show (some [C.t (T.ptr [T.int IntKind.i64 a.kind, T.int IntKind.i64 a.nm, T.str a.text, a.tab.fst, a.tab.snd] (0 : Nat))]) = some ([C.t (T.ptr [T.int IntKind.i64 a.kind, T.int IntKind.i64 a.nm, T.str a.text, a.tab.fst, a.tab.snd] (0 : Nat))]) by simp)
  let t7 : Tp pr := .i (rfl : ((1 : Int) : Int) = (1 : Int))
  exact .tp [.b (rfl : true = true), .m (rfl : true = true), .c (rfl : ((0 : Nat)) = _), .m (rfl : true = true), t4, .b (rfl : true = true), .a (ih (m) (by omega)), t7, .a (h2)] (by kernel_rfl)
theorem parts_ev : ∀ (e : E) (m : List Bc), m.length + e.size ≤ 1000000 → Ev pr (.call 18 [.t e.tp, .vec 0 (m).length 3 0 (m).length] [.vec true 3 (bcc (m))]) (.val (.vec 0 (m ++ exb e.parts).length 3 0 (m ++ exb e.parts).length) [.vec true 3 (bcc (m ++ exb e.parts))])
  | .num n, m, h => by
    simp only [E.size] at h
    have hl := pL0n_ev (m ++ [⟨1, n, e0⟩]) (by first | (simp; done) | (simp; omega))
    let t16 : Tp pr := .m (show (decide ((bcc m).length = m.length ∧ (0 : Nat) + m.length ≤ m.length ∧ m.length + (1 : Nat) ≤ (4294967296 : Nat))) = true by (simp; omega))
    let t17 : Tp pr := .b (show (decide (m.length + (1 : Nat) ≤ m.length)) = false by simp)
    let t19 : Tp pr := .n .crows (show ((List.take m.length (bcc m)).append (List.take (1 : Nat) (List.drop (0 : Nat) [[C.t (T.int IntKind.i64 (1 : Int)), C.t (T.int IntKind.i64 (E.num n).nm), C.t (T.str (E.num n).text)]]))) = bcc (m ++ [Bc.mk (1 : Int) n (ByteArray.mk #[])]) by simp)
    let t31 : Tp pr := .i (rfl : ((2 : Int) : Int) = (2 : Int))
    let t34 : Tp pr := .a (Ev.castq (congrArg (fun x => Q.loop (lq pr (18 : FuncId) (0 : Nat)) (at_ [((1 : Nat), V.vec (0 : Nat) x (3 : Nat) (0 : Nat) x), ((31 : Nat), V.vec (1 : Nat) (2 : Nat) (1 : Nat) (0 : Nat) (2 : Nat)), ((32 : Nat), i64 (2 : Int)), ((33 : Nat), i64 (0 : Int))] [Ob.vec true (3 : Nat) (bcc (m ++ [Bc.mk (1 : Int) n e0])), Ob.vec true (1 : Nat) [[C.t T.nilp], [C.t T.nilp]]] (1 : Nat))) (show ((m ++ [Bc.mk (1 : Int) n e0]).length) = (m.length + (1 : Nat)) by simp [E.parts, exb])) (hl))
    exact .tp [.m (rfl : true = true), .m (rfl : true = true), .m (rfl : true = true), .m (rfl : true = true), .m (rfl : true = true), .m (rfl : true = true), .m (rfl : true = true), .m (rfl : true = true), .m (rfl : true = true), .m (rfl : true = true), .m (rfl : true = true), .m (rfl : true = true), .m (rfl : true = true), .m (rfl : true = true), .m (rfl : true = true), .m (rfl : true = true), t16, t17, .c (rfl : (m.length + (1 : Nat)) = _), t19, .m (rfl : true = true), .m (rfl : true = true), .m (rfl : true = true), .m (rfl : true = true), .m (rfl : true = true), .m (rfl : true = true), .m (rfl : true = true), .m (rfl : true = true), .m (rfl : true = true), .m (rfl : true = true), .m (rfl : true = true), t31, .m (rfl : true = true), .m (rfl : true = true), t34] (by kernel_rfl)
  | .name s, m, h => by
    simp only [E.size] at h
    have hl := pL0n_ev (m ++ [⟨2, 0, s⟩]) (by first | (simp; done) | (simp; omega))
    let t16 : Tp pr := .m (show (decide ((bcc m).length = m.length ∧ (0 : Nat) + m.length ≤ m.length ∧ m.length + (1 : Nat) ≤ (4294967296 : Nat))) = true by (simp; omega))
    let t17 : Tp pr := .b (show (decide (m.length + (1 : Nat) ≤ m.length)) = false by simp)
    let t19 : Tp pr := .n .crows (show ((List.take m.length (bcc m)).append (List.take (1 : Nat) (List.drop (0 : Nat) [[C.t (T.int IntKind.i64 (2 : Int)), C.t (T.int IntKind.i64 (0 : Int)), C.t (T.str (E.name s).text)]]))) = bcc (m ++ [Bc.mk (2 : Int) (0 : Int) s]) by simp)
    let t31 : Tp pr := .i (rfl : ((2 : Int) : Int) = (2 : Int))
    let t34 : Tp pr := .a (Ev.castq (congrArg (fun x => Q.loop (lq pr (18 : FuncId) (0 : Nat)) (at_ [((1 : Nat), V.vec (0 : Nat) x (3 : Nat) (0 : Nat) x), ((31 : Nat), V.vec (1 : Nat) (2 : Nat) (1 : Nat) (0 : Nat) (2 : Nat)), ((32 : Nat), i64 (2 : Int)), ((33 : Nat), i64 (0 : Int))] [Ob.vec true (3 : Nat) (bcc (m ++ [Bc.mk (2 : Int) (0 : Int) s])), Ob.vec true (1 : Nat) [[C.t T.nilp], [C.t T.nilp]]] (1 : Nat))) (show ((m ++ [Bc.mk (2 : Int) (0 : Int) s]).length) = (m.length + (1 : Nat)) by simp [E.parts, exb])) (hl))
    exact .tp [.m (rfl : true = true), .m (rfl : true = true), .m (rfl : true = true), .m (rfl : true = true), .m (rfl : true = true), .m (rfl : true = true), .m (rfl : true = true), .m (rfl : true = true), .m (rfl : true = true), .m (rfl : true = true), .m (rfl : true = true), .m (rfl : true = true), .m (rfl : true = true), .m (rfl : true = true), .m (rfl : true = true), .m (rfl : true = true), t16, t17, .c (rfl : (m.length + (1 : Nat)) = _), t19, .m (rfl : true = true), .m (rfl : true = true), .m (rfl : true = true), .m (rfl : true = true), .m (rfl : true = true), .m (rfl : true = true), .m (rfl : true = true), .m (rfl : true = true), .m (rfl : true = true), .m (rfl : true = true), .m (rfl : true = true), t31, .m (rfl : true = true), .m (rfl : true = true), t34] (by kernel_rfl)
  | .neg a, m, h => by
    simp only [E.size] at h
    have hl := pL0a_ev a (m ++ [⟨3, 0, e0⟩]) (by first | (simp; done) | (simp; omega)) (fun m h => parts_ev a m h)
    let t16 : Tp pr := .m (show (decide ((bcc m).length = m.length ∧ (0 : Nat) + m.length ≤ m.length ∧ m.length + (1 : Nat) ≤ (4294967296 : Nat))) = true by (simp; omega))
    let t17 : Tp pr := .b (show (decide (m.length + (1 : Nat) ≤ m.length)) = false by simp)
    let t19 : Tp pr := .n .crows (show ((List.take m.length (bcc m)).append (List.take (1 : Nat) (List.drop (0 : Nat) [[C.t (T.int IntKind.i64 (3 : Int)), C.t (T.int IntKind.i64 (0 : Int)), C.t (T.str a.neg.text)]]))) = bcc (m ++ [Bc.mk (3 : Int) (0 : Int) (ByteArray.mk #[])]) by simp)
    let t31 : Tp pr := .i (rfl : ((2 : Int) : Int) = (2 : Int))
    let t34 : Tp pr := .a (Ev.castq (congrArg (fun x => Q.loop (lq pr (18 : FuncId) (0 : Nat)) (at_ [((1 : Nat), V.vec (0 : Nat) x (3 : Nat) (0 : Nat) x), ((31 : Nat), V.vec (1 : Nat) (2 : Nat) (1 : Nat) (0 : Nat) (2 : Nat)), ((32 : Nat), i64 (2 : Int)), ((33 : Nat), i64 (0 : Int))] [Ob.vec true (3 : Nat) (bcc (m ++ [Bc.mk (3 : Int) (0 : Int) e0])), Ob.vec true (1 : Nat) [[C.t a.tp], [C.t T.nilp]]] (1 : Nat))) (show ((m ++ [Bc.mk (3 : Int) (0 : Int) e0]).length) = (m.length + (1 : Nat)) by simp [E.parts, exb])) (hl))
    exact .tpe [.m (rfl : true = true), .m (rfl : true = true), .m (rfl : true = true), .m (rfl : true = true), .m (rfl : true = true), .m (rfl : true = true), .m (rfl : true = true), .m (rfl : true = true), .m (rfl : true = true), .m (rfl : true = true), .m (rfl : true = true), .m (rfl : true = true), .m (rfl : true = true), .m (rfl : true = true), .m (rfl : true = true), .m (rfl : true = true), t16, t17, .c (rfl : (m.length + (1 : Nat)) = _), t19, .m (rfl : true = true), .m (rfl : true = true), .m (rfl : true = true), .m (rfl : true = true), .m (rfl : true = true), .m (rfl : true = true), .m (rfl : true = true), .m (rfl : true = true), .m (rfl : true = true), .m (rfl : true = true), .m (rfl : true = true), t31, .m (rfl : true = true), .m (rfl : true = true), t34] (Out.val (V.vec (0 : Nat) (m ++ [Bc.mk (3 : Int) (0 : Int) e0] ++ exb a.parts).length (3 : Nat) (0 : Nat) (m ++ [Bc.mk (3 : Int) (0 : Int) e0] ++ exb a.parts).length) [Ob.vec true (3 : Nat) (bcc (m ++ [Bc.mk (3 : Int) (0 : Int) e0] ++ exb a.parts))]) (by kernel_rfl) (((congrArg (fun x => Out.val (V.vec (0 : Nat) x (3 : Nat) (0 : Nat) (m ++ [Bc.mk (3 : Int) (0 : Int) e0] ++ exb a.parts).length) [Ob.vec true (3 : Nat) (bcc (m ++ [Bc.mk (3 : Int) (0 : Int) e0] ++ exb a.parts))]) (show ((m ++ [Bc.mk (3 : Int) (0 : Int) e0] ++ exb a.parts).length) = ((m ++ exb a.neg.parts).length) by simp [E.parts, exb])).trans (congrArg (fun x => Out.val (V.vec (0 : Nat) (m ++ exb a.neg.parts).length (3 : Nat) (0 : Nat) x) [Ob.vec true (3 : Nat) (bcc (m ++ [Bc.mk (3 : Int) (0 : Int) e0] ++ exb a.parts))]) (show ((m ++ [Bc.mk (3 : Int) (0 : Int) e0] ++ exb a.parts).length) = ((m ++ exb a.neg.parts).length) by simp [E.parts, exb]))).trans (congrArg (fun x => Out.val (V.vec (0 : Nat) (m ++ exb a.neg.parts).length (3 : Nat) (0 : Nat) (m ++ exb a.neg.parts).length) [Ob.vec true (3 : Nat) x]) (show (bcc (m ++ [Bc.mk (3 : Int) (0 : Int) e0] ++ exb a.parts)) = (bcc (m ++ exb a.neg.parts)) by simp [E.parts, exb])))
  | .not a, m, h => by
    simp only [E.size] at h
    have hl := pL0a_ev a (m ++ [⟨4, 0, e0⟩]) (by first | (simp; done) | (simp; omega)) (fun m h => parts_ev a m h)
    let t16 : Tp pr := .m (show (decide ((bcc m).length = m.length ∧ (0 : Nat) + m.length ≤ m.length ∧ m.length + (1 : Nat) ≤ (4294967296 : Nat))) = true by (simp; omega))
    let t17 : Tp pr := .b (show (decide (m.length + (1 : Nat) ≤ m.length)) = false by simp)
    let t19 : Tp pr := .n .crows (show ((List.take m.length (bcc m)).append (List.take (1 : Nat) (List.drop (0 : Nat) [[C.t (T.int IntKind.i64 (4 : Int)), C.t (T.int IntKind.i64 (0 : Int)), C.t (T.str a.not.text)]]))) = bcc (m ++ [Bc.mk (4 : Int) (0 : Int) (ByteArray.mk #[])]) by simp)
    let t31 : Tp pr := .i (rfl : ((2 : Int) : Int) = (2 : Int))
    let t34 : Tp pr := .a (Ev.castq (congrArg (fun x => Q.loop (lq pr (18 : FuncId) (0 : Nat)) (at_ [((1 : Nat), V.vec (0 : Nat) x (3 : Nat) (0 : Nat) x), ((31 : Nat), V.vec (1 : Nat) (2 : Nat) (1 : Nat) (0 : Nat) (2 : Nat)), ((32 : Nat), i64 (2 : Int)), ((33 : Nat), i64 (0 : Int))] [Ob.vec true (3 : Nat) (bcc (m ++ [Bc.mk (4 : Int) (0 : Int) e0])), Ob.vec true (1 : Nat) [[C.t a.tp], [C.t T.nilp]]] (1 : Nat))) (show ((m ++ [Bc.mk (4 : Int) (0 : Int) e0]).length) = (m.length + (1 : Nat)) by simp [E.parts, exb])) (hl))
    exact .tpe [.m (rfl : true = true), .m (rfl : true = true), .m (rfl : true = true), .m (rfl : true = true), .m (rfl : true = true), .m (rfl : true = true), .m (rfl : true = true), .m (rfl : true = true), .m (rfl : true = true), .m (rfl : true = true), .m (rfl : true = true), .m (rfl : true = true), .m (rfl : true = true), .m (rfl : true = true), .m (rfl : true = true), .m (rfl : true = true), t16, t17, .c (rfl : (m.length + (1 : Nat)) = _), t19, .m (rfl : true = true), .m (rfl : true = true), .m (rfl : true = true), .m (rfl : true = true), .m (rfl : true = true), .m (rfl : true = true), .m (rfl : true = true), .m (rfl : true = true), .m (rfl : true = true), .m (rfl : true = true), .m (rfl : true = true), t31, .m (rfl : true = true), .m (rfl : true = true), t34] (Out.val (V.vec (0 : Nat) (m ++ [Bc.mk (4 : Int) (0 : Int) e0] ++ exb a.parts).length (3 : Nat) (0 : Nat) (m ++ [Bc.mk (4 : Int) (0 : Int) e0] ++ exb a.parts).length) [Ob.vec true (3 : Nat) (bcc (m ++ [Bc.mk (4 : Int) (0 : Int) e0] ++ exb a.parts))]) (by kernel_rfl) (((congrArg (fun x => Out.val (V.vec (0 : Nat) x (3 : Nat) (0 : Nat) (m ++ [Bc.mk (4 : Int) (0 : Int) e0] ++ exb a.parts).length) [Ob.vec true (3 : Nat) (bcc (m ++ [Bc.mk (4 : Int) (0 : Int) e0] ++ exb a.parts))]) (show ((m ++ [Bc.mk (4 : Int) (0 : Int) e0] ++ exb a.parts).length) = ((m ++ exb a.not.parts).length) by simp [E.parts, exb])).trans (congrArg (fun x => Out.val (V.vec (0 : Nat) (m ++ exb a.not.parts).length (3 : Nat) (0 : Nat) x) [Ob.vec true (3 : Nat) (bcc (m ++ [Bc.mk (4 : Int) (0 : Int) e0] ++ exb a.parts))]) (show ((m ++ [Bc.mk (4 : Int) (0 : Int) e0] ++ exb a.parts).length) = ((m ++ exb a.not.parts).length) by simp [E.parts, exb]))).trans (congrArg (fun x => Out.val (V.vec (0 : Nat) (m ++ exb a.not.parts).length (3 : Nat) (0 : Nat) (m ++ exb a.not.parts).length) [Ob.vec true (3 : Nat) x]) (show (bcc (m ++ [Bc.mk (4 : Int) (0 : Int) e0] ++ exb a.parts)) = (bcc (m ++ exb a.not.parts)) by simp [E.parts, exb])))
  | .two s a b, m, h => by
    simp only [E.size] at h
    have hl := pL0b_ev a b (m ++ [⟨5, 0, s⟩]) (by first | (simp; done) | (simp; omega)) (fun m h => parts_ev a m h) (fun m h => parts_ev b m h)
    let t16 : Tp pr := .m (show (decide ((bcc m).length = m.length ∧ (0 : Nat) + m.length ≤ m.length ∧ m.length + (1 : Nat) ≤ (4294967296 : Nat))) = true by (simp; omega))
    let t17 : Tp pr := .b (show (decide (m.length + (1 : Nat) ≤ m.length)) = false by simp)
    let t19 : Tp pr := .n .crows (show ((List.take m.length (bcc m)).append (List.take (1 : Nat) (List.drop (0 : Nat) [[C.t (T.int IntKind.i64 (5 : Int)), C.t (T.int IntKind.i64 (0 : Int)), C.t (T.str (E.two s a b).text)]]))) = bcc (m ++ [Bc.mk (5 : Int) (0 : Int) s]) by simp)
    let t31 : Tp pr := .i (rfl : ((2 : Int) : Int) = (2 : Int))
    let t34 : Tp pr := .a (Ev.castq (congrArg (fun x => Q.loop (lq pr (18 : FuncId) (0 : Nat)) (at_ [((1 : Nat), V.vec (0 : Nat) x (3 : Nat) (0 : Nat) x), ((31 : Nat), V.vec (1 : Nat) (2 : Nat) (1 : Nat) (0 : Nat) (2 : Nat)), ((32 : Nat), i64 (2 : Int)), ((33 : Nat), i64 (0 : Int))] [Ob.vec true (3 : Nat) (bcc (m ++ [Bc.mk (5 : Int) (0 : Int) s])), Ob.vec true (1 : Nat) [[C.t a.tp], [C.t b.tp]]] (1 : Nat))) (show ((m ++ [Bc.mk (5 : Int) (0 : Int) s]).length) = (m.length + (1 : Nat)) by simp [E.parts, exb])) (hl))
    exact .tpe [.m (rfl : true = true), .m (rfl : true = true), .m (rfl : true = true), .m (rfl : true = true), .m (rfl : true = true), .m (rfl : true = true), .m (rfl : true = true), .m (rfl : true = true), .m (rfl : true = true), .m (rfl : true = true), .m (rfl : true = true), .m (rfl : true = true), .m (rfl : true = true), .m (rfl : true = true), .m (rfl : true = true), .m (rfl : true = true), t16, t17, .c (rfl : (m.length + (1 : Nat)) = _), t19, .m (rfl : true = true), .m (rfl : true = true), .m (rfl : true = true), .m (rfl : true = true), .m (rfl : true = true), .m (rfl : true = true), .m (rfl : true = true), .m (rfl : true = true), .m (rfl : true = true), .m (rfl : true = true), .m (rfl : true = true), t31, .m (rfl : true = true), .m (rfl : true = true), t34] (Out.val (V.vec (0 : Nat) (m ++ [Bc.mk (5 : Int) (0 : Int) s] ++ exb a.parts ++ exb b.parts).length (3 : Nat) (0 : Nat) (m ++ [Bc.mk (5 : Int) (0 : Int) s] ++ exb a.parts ++ exb b.parts).length) [Ob.vec true (3 : Nat) (bcc (m ++ [Bc.mk (5 : Int) (0 : Int) s] ++ exb a.parts ++ exb b.parts))]) (by kernel_rfl) (((congrArg (fun x => Out.val (V.vec (0 : Nat) x (3 : Nat) (0 : Nat) (m ++ [Bc.mk (5 : Int) (0 : Int) s] ++ exb a.parts ++ exb b.parts).length) [Ob.vec true (3 : Nat) (bcc (m ++ [Bc.mk (5 : Int) (0 : Int) s] ++ exb a.parts ++ exb b.parts))]) (show ((m ++ [Bc.mk (5 : Int) (0 : Int) s] ++ exb a.parts ++ exb b.parts).length) = ((m ++ exb (E.two s a b).parts).length) by simp [E.parts, exb])).trans (congrArg (fun x => Out.val (V.vec (0 : Nat) (m ++ exb (E.two s a b).parts).length (3 : Nat) (0 : Nat) x) [Ob.vec true (3 : Nat) (bcc (m ++ [Bc.mk (5 : Int) (0 : Int) s] ++ exb a.parts ++ exb b.parts))]) (show ((m ++ [Bc.mk (5 : Int) (0 : Int) s] ++ exb a.parts ++ exb b.parts).length) = ((m ++ exb (E.two s a b).parts).length) by simp [E.parts, exb]))).trans (congrArg (fun x => Out.val (V.vec (0 : Nat) (m ++ exb (E.two s a b).parts).length (3 : Nat) (0 : Nat) (m ++ exb (E.two s a b).parts).length) [Ob.vec true (3 : Nat) x]) (show (bcc (m ++ [Bc.mk (5 : Int) (0 : Int) s] ++ exb a.parts ++ exb b.parts)) = (bcc (m ++ exb (E.two s a b).parts)) by simp [E.parts, exb])))
theorem partsN_ev : ∀ (e : E), e.size ≤ 1000000 → Ev pr (.call 18 [.t e.tp, .t .nils] []) (.val (.vec 0 (exb e.parts).length 3 0 (exb e.parts).length) [.vec true 3 (bcc (exb e.parts))])
  | .num n, h => by
    simp only [E.size] at h
    have hl := pL0nN_ev ([⟨1, n, e0⟩]) (by first | (simp; done) | (simp; omega))
    let t18 : Tp pr := .n .crows (show (List.take (1 : Nat) (List.drop (0 : Nat) [[C.t (T.int IntKind.i64 (1 : Int)), C.t (T.int IntKind.i64 (E.num n).nm), C.t (T.str (E.num n).text)]])) = bcc [Bc.mk (1 : Int) n (ByteArray.mk #[])] by simp)
    let t30 : Tp pr := .i (rfl : ((2 : Int) : Int) = (2 : Int))
    exact .tp [.m (rfl : true = true), .m (rfl : true = true), .m (rfl : true = true), .m (rfl : true = true), .m (rfl : true = true), .m (rfl : true = true), .m (rfl : true = true), .m (rfl : true = true), .m (rfl : true = true), .m (rfl : true = true), .m (rfl : true = true), .m (rfl : true = true), .m (rfl : true = true), .m (rfl : true = true), .m (rfl : true = true), .m (rfl : true = true), .m (rfl : true = true), .c (rfl : ((1 : Nat)) = _), t18, .m (rfl : true = true), .m (rfl : true = true), .m (rfl : true = true), .m (rfl : true = true), .m (rfl : true = true), .m (rfl : true = true), .m (rfl : true = true), .m (rfl : true = true), .m (rfl : true = true), .m (rfl : true = true), .m (rfl : true = true), t30, .m (rfl : true = true), .m (rfl : true = true), .a (hl)] (by kernel_rfl)
  | .name s, h => by
    simp only [E.size] at h
    have hl := pL0nN_ev ([⟨2, 0, s⟩]) (by first | (simp; done) | (simp; omega))
    let t18 : Tp pr := .n .crows (show (List.take (1 : Nat) (List.drop (0 : Nat) [[C.t (T.int IntKind.i64 (2 : Int)), C.t (T.int IntKind.i64 (0 : Int)), C.t (T.str (E.name s).text)]])) = bcc [Bc.mk (2 : Int) (0 : Int) s] by simp)
    let t30 : Tp pr := .i (rfl : ((2 : Int) : Int) = (2 : Int))
    exact .tp [.m (rfl : true = true), .m (rfl : true = true), .m (rfl : true = true), .m (rfl : true = true), .m (rfl : true = true), .m (rfl : true = true), .m (rfl : true = true), .m (rfl : true = true), .m (rfl : true = true), .m (rfl : true = true), .m (rfl : true = true), .m (rfl : true = true), .m (rfl : true = true), .m (rfl : true = true), .m (rfl : true = true), .m (rfl : true = true), .m (rfl : true = true), .c (rfl : ((1 : Nat)) = _), t18, .m (rfl : true = true), .m (rfl : true = true), .m (rfl : true = true), .m (rfl : true = true), .m (rfl : true = true), .m (rfl : true = true), .m (rfl : true = true), .m (rfl : true = true), .m (rfl : true = true), .m (rfl : true = true), .m (rfl : true = true), t30, .m (rfl : true = true), .m (rfl : true = true), .a (hl)] (by kernel_rfl)
  | .neg a, h => by
    simp only [E.size] at h
    have hl := pL0aN_ev a ([⟨3, 0, e0⟩]) (by first | (simp; done) | (simp; omega)) (fun m h => parts_ev a m h)
    let t18 : Tp pr := .n .crows (show (List.take (1 : Nat) (List.drop (0 : Nat) [[C.t (T.int IntKind.i64 (3 : Int)), C.t (T.int IntKind.i64 (0 : Int)), C.t (T.str a.neg.text)]])) = bcc [Bc.mk (3 : Int) (0 : Int) (ByteArray.mk #[])] by simp)
    let t30 : Tp pr := .i (rfl : ((2 : Int) : Int) = (2 : Int))
    exact .tp [.m (rfl : true = true), .m (rfl : true = true), .m (rfl : true = true), .m (rfl : true = true), .m (rfl : true = true), .m (rfl : true = true), .m (rfl : true = true), .m (rfl : true = true), .m (rfl : true = true), .m (rfl : true = true), .m (rfl : true = true), .m (rfl : true = true), .m (rfl : true = true), .m (rfl : true = true), .m (rfl : true = true), .m (rfl : true = true), .m (rfl : true = true), .c (rfl : ((1 : Nat)) = _), t18, .m (rfl : true = true), .m (rfl : true = true), .m (rfl : true = true), .m (rfl : true = true), .m (rfl : true = true), .m (rfl : true = true), .m (rfl : true = true), .m (rfl : true = true), .m (rfl : true = true), .m (rfl : true = true), .m (rfl : true = true), t30, .m (rfl : true = true), .m (rfl : true = true), .a (hl)] (by kernel_rfl)
  | .not a, h => by
    simp only [E.size] at h
    have hl := pL0aN_ev a ([⟨4, 0, e0⟩]) (by first | (simp; done) | (simp; omega)) (fun m h => parts_ev a m h)
    let t18 : Tp pr := .n .crows (show (List.take (1 : Nat) (List.drop (0 : Nat) [[C.t (T.int IntKind.i64 (4 : Int)), C.t (T.int IntKind.i64 (0 : Int)), C.t (T.str a.not.text)]])) = bcc [Bc.mk (4 : Int) (0 : Int) (ByteArray.mk #[])] by simp)
    let t30 : Tp pr := .i (rfl : ((2 : Int) : Int) = (2 : Int))
    exact .tp [.m (rfl : true = true), .m (rfl : true = true), .m (rfl : true = true), .m (rfl : true = true), .m (rfl : true = true), .m (rfl : true = true), .m (rfl : true = true), .m (rfl : true = true), .m (rfl : true = true), .m (rfl : true = true), .m (rfl : true = true), .m (rfl : true = true), .m (rfl : true = true), .m (rfl : true = true), .m (rfl : true = true), .m (rfl : true = true), .m (rfl : true = true), .c (rfl : ((1 : Nat)) = _), t18, .m (rfl : true = true), .m (rfl : true = true), .m (rfl : true = true), .m (rfl : true = true), .m (rfl : true = true), .m (rfl : true = true), .m (rfl : true = true), .m (rfl : true = true), .m (rfl : true = true), .m (rfl : true = true), .m (rfl : true = true), t30, .m (rfl : true = true), .m (rfl : true = true), .a (hl)] (by kernel_rfl)
  | .two s a b, h => by
    simp only [E.size] at h
    have hl := pL0bN_ev a b ([⟨5, 0, s⟩]) (by first | (simp; done) | (simp; omega)) (fun m h => parts_ev a m h) (fun m h => parts_ev b m h)
    let t18 : Tp pr := .n .crows (show (List.take (1 : Nat) (List.drop (0 : Nat) [[C.t (T.int IntKind.i64 (5 : Int)), C.t (T.int IntKind.i64 (0 : Int)), C.t (T.str (E.two s a b).text)]])) = bcc [Bc.mk (5 : Int) (0 : Int) s] by simp)
    let t30 : Tp pr := .i (rfl : ((2 : Int) : Int) = (2 : Int))
    exact .tpe [.m (rfl : true = true), .m (rfl : true = true), .m (rfl : true = true), .m (rfl : true = true), .m (rfl : true = true), .m (rfl : true = true), .m (rfl : true = true), .m (rfl : true = true), .m (rfl : true = true), .m (rfl : true = true), .m (rfl : true = true), .m (rfl : true = true), .m (rfl : true = true), .m (rfl : true = true), .m (rfl : true = true), .m (rfl : true = true), .m (rfl : true = true), .c (rfl : ((1 : Nat)) = _), t18, .m (rfl : true = true), .m (rfl : true = true), .m (rfl : true = true), .m (rfl : true = true), .m (rfl : true = true), .m (rfl : true = true), .m (rfl : true = true), .m (rfl : true = true), .m (rfl : true = true), .m (rfl : true = true), .m (rfl : true = true), t30, .m (rfl : true = true), .m (rfl : true = true), .a (hl)] (Out.val (V.vec (0 : Nat) ([Bc.mk (5 : Int) (0 : Int) s] ++ exb a.parts ++ exb b.parts).length (3 : Nat) (0 : Nat) ([Bc.mk (5 : Int) (0 : Int) s] ++ exb a.parts ++ exb b.parts).length) [Ob.vec true (3 : Nat) (bcc ([Bc.mk (5 : Int) (0 : Int) s] ++ exb a.parts ++ exb b.parts))]) (by kernel_rfl) (((congrArg (fun x => Out.val (V.vec (0 : Nat) x (3 : Nat) (0 : Nat) ([Bc.mk (5 : Int) (0 : Int) s] ++ exb a.parts ++ exb b.parts).length) [Ob.vec true (3 : Nat) (bcc ([Bc.mk (5 : Int) (0 : Int) s] ++ exb a.parts ++ exb b.parts))]) (show (([Bc.mk (5 : Int) (0 : Int) s] ++ exb a.parts ++ exb b.parts).length) = ((exb (E.two s a b).parts).length) by simp [E.parts, exb])).trans (congrArg (fun x => Out.val (V.vec (0 : Nat) (exb (E.two s a b).parts).length (3 : Nat) (0 : Nat) x) [Ob.vec true (3 : Nat) (bcc ([Bc.mk (5 : Int) (0 : Int) s] ++ exb a.parts ++ exb b.parts))]) (show (([Bc.mk (5 : Int) (0 : Int) s] ++ exb a.parts ++ exb b.parts).length) = ((exb (E.two s a b).parts).length) by simp [E.parts, exb]))).trans (congrArg (fun x => Out.val (V.vec (0 : Nat) (exb (E.two s a b).parts).length (3 : Nat) (0 : Nat) (exb (E.two s a b).parts).length) [Ob.vec true (3 : Nat) x]) (show (bcc ([Bc.mk (5 : Int) (0 : Int) s] ++ exb a.parts ++ exb b.parts)) = (bcc (exb (E.two s a b).parts)) by simp [E.parts, exb])))
theorem fL_ev : ∀ (rest done : List E) (m : List Bc), m.length + (rest.map E.size).sum ≤ 1000000 → done.length + rest.length ≤ 2 → (∀ e ∈ rest, ∀ m : List Bc, m.length + e.size ≤ 1000000 → Ev pr (.call 12 [vs e.ts, .vec 0 (m).length 3 0 (m).length] [.vec true 3 (bcc (m))]) (.val (.vec 0 (m ++ exb e.parts).length 3 0 (m ++ exb e.parts).length) [.vec true 3 (bcc (m ++ exb e.parts))])) →
    Ev pr (.loop (lq pr 12 0) (at_ [(1, .vec 0 m.length 3 0 m.length), (18, .t (.seq 4 ((done ++ rest).map E.ts))), (19, i64 (done.length + rest.length)), (20, i64 done.length)] [.vec true 3 (bcc m)] 1))
      (.exit 0 (at_ [(1, .vec 0 (m ++ exb (rest.map E.parts).flatten).length 3 0 (m ++ exb (rest.map E.parts).flatten).length)] [.vec true 3 (bcc (m ++ exb (rest.map E.parts).flatten))] 1))
  | [], done, m, h, h2, ih => by
    let t0 : Tp pr := .b (show (decide ((↑done.length : Int) < (↑done.length : Int) + (0 : Int))) = false by simp)
    exact .tpe [t0] (Out.exit (0 : Nat) (at_ [((1 : Nat), V.vec (0 : Nat) m.length (3 : Nat) (0 : Nat) m.length)] [Ob.vec true (3 : Nat) (bcc m)] (1 : Nat))) (by kernel_rfl) (((congrArg (fun x => Out.exit (0 : Nat) (at_ [((1 : Nat), V.vec (0 : Nat) x (3 : Nat) (0 : Nat) m.length)] [Ob.vec true (3 : Nat) (bcc m)] (1 : Nat))) (show (m.length) = ((m ++ exb (List.map E.parts []).flatten).length) by simp [exb])).trans (congrArg (fun x => Out.exit (0 : Nat) (at_ [((1 : Nat), V.vec (0 : Nat) (m ++ exb (List.map E.parts []).flatten).length (3 : Nat) (0 : Nat) x)] [Ob.vec true (3 : Nat) (bcc m)] (1 : Nat))) (show (m.length) = ((m ++ exb (List.map E.parts []).flatten).length) by simp [exb]))).trans (congrArg (fun x => Out.exit (0 : Nat) (at_ [((1 : Nat), V.vec (0 : Nat) (m ++ exb (List.map E.parts []).flatten).length (3 : Nat) (0 : Nat) (m ++ exb (List.map E.parts []).flatten).length)] [Ob.vec true (3 : Nat) x] (1 : Nat))) (show (bcc m) = (bcc (m ++ exb (List.map E.parts []).flatten)) by simp [exb])))
  | e :: rest, done, m, h, h2, ih => by
    simp at h h2
    have h1 := ih e (by simp) m (by omega)
    have hl := parts_len e
    have hg : lkp ((done ++ e :: rest).map E.ts) (done.length : Int) = some e.ts := by simp
    have h3 := fL_ev rest (done ++ [e]) (m ++ exb e.parts) (by first | (simp; done) | (simp; omega)) (by first | (simp; done) | (simp; omega)) (fun x hx => ih x (by simp [hx]))
    let t0 : Tp pr := .b (show (decide ((↑done.length : Int) < (↑done.length : Int) + (↑(e :: rest).length : Int))) = true by (simp; omega))
    let t1 : Tp pr := .g .row (show (lkp (List.map E.ts (done ++ e :: rest)) (↑done.length : Int)) = some (e.ts) from hg)
    let t3 : Tp pr := .i (wrap_i64 (a := (↑done.length : Int) + (1 : Int)) (by omega) (by omega))
    let t4 : Tp pr := .a (Ev.castq (((congrArg (fun x => Q.loop (lq pr (12 : FuncId) (0 : Nat)) (at_ [((1 : Nat), V.vec (0 : Nat) (m ++ exb e.parts).length (3 : Nat) (0 : Nat) (m ++ exb e.parts).length), ((18 : Nat), V.t (T.seq (4 : Nat) x)), ((19 : Nat), i64 ((↑(done ++ [e]).length : Int) + (↑rest.length : Int))), ((20 : Nat), i64 (↑(done ++ [e]).length : Int))] [Ob.vec true (3 : Nat) (bcc (m ++ exb e.parts))] (1 : Nat))) (show (List.map E.ts (done ++ [e] ++ rest)) = (List.map E.ts (done ++ e :: rest)) by simp [exb_app])).trans (congrArg (fun x => Q.loop (lq pr (12 : FuncId) (0 : Nat)) (at_ [((1 : Nat), V.vec (0 : Nat) (m ++ exb e.parts).length (3 : Nat) (0 : Nat) (m ++ exb e.parts).length), ((18 : Nat), V.t (T.seq (4 : Nat) (List.map E.ts (done ++ e :: rest)))), ((19 : Nat), i64 x), ((20 : Nat), i64 (↑(done ++ [e]).length : Int))] [Ob.vec true (3 : Nat) (bcc (m ++ exb e.parts))] (1 : Nat))) (show ((↑(done ++ [e]).length : Int) + (↑rest.length : Int)) = ((↑done.length : Int) + (↑(e :: rest).length : Int)) by (simp; omega)))).trans (congrArg (fun x => Q.loop (lq pr (12 : FuncId) (0 : Nat)) (at_ [((1 : Nat), V.vec (0 : Nat) (m ++ exb e.parts).length (3 : Nat) (0 : Nat) (m ++ exb e.parts).length), ((18 : Nat), V.t (T.seq (4 : Nat) (List.map E.ts (done ++ e :: rest)))), ((19 : Nat), i64 ((↑done.length : Int) + (↑(e :: rest).length : Int))), ((20 : Nat), i64 x)] [Ob.vec true (3 : Nat) (bcc (m ++ exb e.parts))] (1 : Nat))) (show ((↑(done ++ [e]).length : Int)) = ((↑done.length : Int) + (1 : Int)) by simp [exb_app]))) (h3))
    exact .tpe [t0, t1, .a (ih (e) (by simp) (m) (by omega)), t3, t4] (Out.exit (0 : Nat) (at_ [((1 : Nat), V.vec (0 : Nat) (m ++ exb e.parts ++ exb (List.map E.parts rest).flatten).length (3 : Nat) (0 : Nat) (m ++ exb e.parts ++ exb (List.map E.parts rest).flatten).length)] [Ob.vec true (3 : Nat) (bcc (m ++ exb e.parts ++ exb (List.map E.parts rest).flatten))] (1 : Nat))) (by kernel_rfl) (((congrArg (fun x => Out.exit (0 : Nat) (at_ [((1 : Nat), V.vec (0 : Nat) x (3 : Nat) (0 : Nat) (m ++ exb e.parts ++ exb (List.map E.parts rest).flatten).length)] [Ob.vec true (3 : Nat) (bcc (m ++ exb e.parts ++ exb (List.map E.parts rest).flatten))] (1 : Nat))) (show ((m ++ exb e.parts ++ exb (List.map E.parts rest).flatten).length) = ((m ++ exb (List.map E.parts (e :: rest)).flatten).length) by simp [exb_app])).trans (congrArg (fun x => Out.exit (0 : Nat) (at_ [((1 : Nat), V.vec (0 : Nat) (m ++ exb (List.map E.parts (e :: rest)).flatten).length (3 : Nat) (0 : Nat) x)] [Ob.vec true (3 : Nat) (bcc (m ++ exb e.parts ++ exb (List.map E.parts rest).flatten))] (1 : Nat))) (show ((m ++ exb e.parts ++ exb (List.map E.parts rest).flatten).length) = ((m ++ exb (List.map E.parts (e :: rest)).flatten).length) by simp [exb_app]))).trans (congrArg (fun x => Out.exit (0 : Nat) (at_ [((1 : Nat), V.vec (0 : Nat) (m ++ exb (List.map E.parts (e :: rest)).flatten).length (3 : Nat) (0 : Nat) (m ++ exb (List.map E.parts (e :: rest)).flatten).length)] [Ob.vec true (3 : Nat) x] (1 : Nat))) (show (bcc (m ++ exb e.parts ++ exb (List.map E.parts rest).flatten)) = (bcc (m ++ exb (List.map E.parts (e :: rest)).flatten)) by simp [exb_app])))
theorem fLN_ev : ∀ (rest done : List E) (m : List Bc), m.length + (rest.map E.size).sum ≤ 1000000 → done.length + rest.length ≤ 2 → (∀ e ∈ rest, ∀ m : List Bc, m.length + e.size ≤ 1000000 → Ev pr (.call 12 [vs e.ts, .vec 0 (m).length 3 0 (m).length] [.vec true 3 (bcc (m))]) (.val (.vec 0 (m ++ exb e.parts).length 3 0 (m ++ exb e.parts).length) [.vec true 3 (bcc (m ++ exb e.parts))])) →
    Ev pr (.loop (lq pr 12 0) (at_ [(1, .vec 0 m.length 3 0 m.length), (18, .t (.seq 4 ((done ++ rest).map E.ts))), (19, i64 (done.length + rest.length)), (20, i64 done.length)] [.vec true 3 (bcc m)] 0))
      (.exit 0 (at_ [(1, .vec 0 (m ++ exb (rest.map E.parts).flatten).length 3 0 (m ++ exb (rest.map E.parts).flatten).length)] [.vec true 3 (bcc (m ++ exb (rest.map E.parts).flatten))] 0))
  | [], done, m, h, h2, ih => by
    let t0 : Tp pr := .b (show (decide ((↑done.length : Int) < (↑done.length : Int) + (0 : Int))) = false by simp)
    exact .tpe [t0] (Out.exit (0 : Nat) (at_ [((1 : Nat), V.vec (0 : Nat) m.length (3 : Nat) (0 : Nat) m.length)] [Ob.vec true (3 : Nat) (bcc m)] (0 : Nat))) (by kernel_rfl) (((congrArg (fun x => Out.exit (0 : Nat) (at_ [((1 : Nat), V.vec (0 : Nat) x (3 : Nat) (0 : Nat) m.length)] [Ob.vec true (3 : Nat) (bcc m)] (0 : Nat))) (show (m.length) = ((m ++ exb (List.map E.parts []).flatten).length) by simp [exb])).trans (congrArg (fun x => Out.exit (0 : Nat) (at_ [((1 : Nat), V.vec (0 : Nat) (m ++ exb (List.map E.parts []).flatten).length (3 : Nat) (0 : Nat) x)] [Ob.vec true (3 : Nat) (bcc m)] (0 : Nat))) (show (m.length) = ((m ++ exb (List.map E.parts []).flatten).length) by simp [exb]))).trans (congrArg (fun x => Out.exit (0 : Nat) (at_ [((1 : Nat), V.vec (0 : Nat) (m ++ exb (List.map E.parts []).flatten).length (3 : Nat) (0 : Nat) (m ++ exb (List.map E.parts []).flatten).length)] [Ob.vec true (3 : Nat) x] (0 : Nat))) (show (bcc m) = (bcc (m ++ exb (List.map E.parts []).flatten)) by simp [exb])))
  | e :: rest, done, m, h, h2, ih => by
    simp at h h2
    have h1 := ih e (by simp) m (by omega)
    have hl := parts_len e
    have hg : lkp ((done ++ e :: rest).map E.ts) (done.length : Int) = some e.ts := by simp
    have h3 := fLN_ev rest (done ++ [e]) (m ++ exb e.parts) (by first | (simp; done) | (simp; omega)) (by first | (simp; done) | (simp; omega)) (fun x hx => ih x (by simp [hx]))
    let t0 : Tp pr := .b (show (decide ((↑done.length : Int) < (↑done.length : Int) + (↑(e :: rest).length : Int))) = true by (simp; omega))
    let t1 : Tp pr := .g .row (show (lkp (List.map E.ts (done ++ e :: rest)) (↑done.length : Int)) = some (e.ts) from hg)
    let t3 : Tp pr := .i (wrap_i64 (a := (↑done.length : Int) + (1 : Int)) (by omega) (by omega))
    let t4 : Tp pr := .a (Ev.castq (((congrArg (fun x => Q.loop (lq pr (12 : FuncId) (0 : Nat)) (at_ [((1 : Nat), V.vec (0 : Nat) (m ++ exb e.parts).length (3 : Nat) (0 : Nat) (m ++ exb e.parts).length), ((18 : Nat), V.t (T.seq (4 : Nat) x)), ((19 : Nat), i64 ((↑(done ++ [e]).length : Int) + (↑rest.length : Int))), ((20 : Nat), i64 (↑(done ++ [e]).length : Int))] [Ob.vec true (3 : Nat) (bcc (m ++ exb e.parts))] (0 : Nat))) (show (List.map E.ts (done ++ [e] ++ rest)) = (List.map E.ts (done ++ e :: rest)) by simp [exb_app])).trans (congrArg (fun x => Q.loop (lq pr (12 : FuncId) (0 : Nat)) (at_ [((1 : Nat), V.vec (0 : Nat) (m ++ exb e.parts).length (3 : Nat) (0 : Nat) (m ++ exb e.parts).length), ((18 : Nat), V.t (T.seq (4 : Nat) (List.map E.ts (done ++ e :: rest)))), ((19 : Nat), i64 x), ((20 : Nat), i64 (↑(done ++ [e]).length : Int))] [Ob.vec true (3 : Nat) (bcc (m ++ exb e.parts))] (0 : Nat))) (show ((↑(done ++ [e]).length : Int) + (↑rest.length : Int)) = ((↑done.length : Int) + (↑(e :: rest).length : Int)) by (simp; omega)))).trans (congrArg (fun x => Q.loop (lq pr (12 : FuncId) (0 : Nat)) (at_ [((1 : Nat), V.vec (0 : Nat) (m ++ exb e.parts).length (3 : Nat) (0 : Nat) (m ++ exb e.parts).length), ((18 : Nat), V.t (T.seq (4 : Nat) (List.map E.ts (done ++ e :: rest)))), ((19 : Nat), i64 ((↑done.length : Int) + (↑(e :: rest).length : Int))), ((20 : Nat), i64 x)] [Ob.vec true (3 : Nat) (bcc (m ++ exb e.parts))] (0 : Nat))) (show ((↑(done ++ [e]).length : Int)) = ((↑done.length : Int) + (1 : Int)) by simp [exb_app]))) (h3))
    exact .tpe [t0, t1, .a (ih (e) (by simp) (m) (by omega)), t3, t4] (Out.exit (0 : Nat) (at_ [((1 : Nat), V.vec (0 : Nat) (m ++ exb e.parts ++ exb (List.map E.parts rest).flatten).length (3 : Nat) (0 : Nat) (m ++ exb e.parts ++ exb (List.map E.parts rest).flatten).length)] [Ob.vec true (3 : Nat) (bcc (m ++ exb e.parts ++ exb (List.map E.parts rest).flatten))] (0 : Nat))) (by kernel_rfl) (((congrArg (fun x => Out.exit (0 : Nat) (at_ [((1 : Nat), V.vec (0 : Nat) x (3 : Nat) (0 : Nat) (m ++ exb e.parts ++ exb (List.map E.parts rest).flatten).length)] [Ob.vec true (3 : Nat) (bcc (m ++ exb e.parts ++ exb (List.map E.parts rest).flatten))] (0 : Nat))) (show ((m ++ exb e.parts ++ exb (List.map E.parts rest).flatten).length) = ((m ++ exb (List.map E.parts (e :: rest)).flatten).length) by simp [exb_app])).trans (congrArg (fun x => Out.exit (0 : Nat) (at_ [((1 : Nat), V.vec (0 : Nat) (m ++ exb (List.map E.parts (e :: rest)).flatten).length (3 : Nat) (0 : Nat) x)] [Ob.vec true (3 : Nat) (bcc (m ++ exb e.parts ++ exb (List.map E.parts rest).flatten))] (0 : Nat))) (show ((m ++ exb e.parts ++ exb (List.map E.parts rest).flatten).length) = ((m ++ exb (List.map E.parts (e :: rest)).flatten).length) by simp [exb_app]))).trans (congrArg (fun x => Out.exit (0 : Nat) (at_ [((1 : Nat), V.vec (0 : Nat) (m ++ exb (List.map E.parts (e :: rest)).flatten).length (3 : Nat) (0 : Nat) (m ++ exb (List.map E.parts (e :: rest)).flatten).length)] [Ob.vec true (3 : Nat) x] (0 : Nat))) (show (bcc (m ++ exb e.parts ++ exb (List.map E.parts rest).flatten)) = (bcc (m ++ exb (List.map E.parts (e :: rest)).flatten)) by simp [exb_app])))
theorem l2Flat_ev : ∀ (e : E) (m : List Bc), m.length + e.size ≤ 1000000 → Ev pr (.call 12 [vs e.ts, .vec 0 (m).length 3 0 (m).length] [.vec true 3 (bcc (m))]) (.val (.vec 0 (m ++ exb e.parts).length 3 0 (m ++ exb e.parts).length) [.vec true 3 (bcc (m ++ exb e.parts))])
  | .num n, m, h => by
    simp only [E.size] at h
    have hl := fL_ev [] [] (m ++ [⟨1, n, e0⟩]) (by first | (simp; done) | (simp; omega)) (by simp) (fun x hx => by cases hx)
    let t1 : Tp pr := .m (show (decide ((bcc m).length = m.length ∧ (0 : Nat) + m.length ≤ m.length ∧ m.length + (1 : Nat) ≤ (4294967296 : Nat))) = true by (simp; omega))
    let t2 : Tp pr := .b (show (decide (m.length + (1 : Nat) ≤ m.length)) = false by simp)
    let t4 : Tp pr := .n .crows (show ((List.take m.length (bcc m)).append (List.take (1 : Nat) (List.drop (0 : Nat) [[C.t (T.int IntKind.i64 (1 : Int)), C.t (T.int IntKind.i64 (E.num n).nm), C.t (T.str (E.num n).text)]]))) = bcc (m ++ [Bc.mk (1 : Int) n (ByteArray.mk #[])]) by simp)
    let t5 : Tp pr := .i (rfl : ((0 : Int) : Int) = (0 : Int))
    let t6 : Tp pr := .a (Ev.castq (congrArg (fun x => Q.loop (lq pr (12 : FuncId) (0 : Nat)) (at_ [((1 : Nat), V.vec (0 : Nat) x (3 : Nat) (0 : Nat) x), ((18 : Nat), V.t (T.seq (4 : Nat) (List.map E.ts ([] ++ [])))), ((19 : Nat), i64 ((↑(0 : Nat) : Int) + (↑(0 : Nat) : Int))), ((20 : Nat), i64 (↑(0 : Nat) : Int))] [Ob.vec true (3 : Nat) (bcc (m ++ [Bc.mk (1 : Int) n e0]))] (1 : Nat))) (show ((m ++ [Bc.mk (1 : Int) n e0]).length) = (m.length + (1 : Nat)) by simp [E.parts, exb])) (hl))
    exact .tpe [.m (rfl : true = true), t1, t2, .c (rfl : (m.length + (1 : Nat)) = _), t4, t5, t6] (Out.val (V.vec (0 : Nat) (m ++ [Bc.mk (1 : Int) n e0] ++ exb (List.map E.parts []).flatten).length (3 : Nat) (0 : Nat) (m ++ [Bc.mk (1 : Int) n e0] ++ exb (List.map E.parts []).flatten).length) [Ob.vec true (3 : Nat) (bcc (m ++ [Bc.mk (1 : Int) n e0] ++ exb (List.map E.parts []).flatten))]) (by kernel_rfl) (((congrArg (fun x => Out.val (V.vec (0 : Nat) x (3 : Nat) (0 : Nat) (m ++ [Bc.mk (1 : Int) n e0] ++ exb (List.map E.parts []).flatten).length) [Ob.vec true (3 : Nat) (bcc (m ++ [Bc.mk (1 : Int) n e0] ++ exb (List.map E.parts []).flatten))]) (show ((m ++ [Bc.mk (1 : Int) n e0] ++ exb (List.map E.parts []).flatten).length) = ((m ++ exb (E.num n).parts).length) by simp [E.parts, exb])).trans (congrArg (fun x => Out.val (V.vec (0 : Nat) (m ++ exb (E.num n).parts).length (3 : Nat) (0 : Nat) x) [Ob.vec true (3 : Nat) (bcc (m ++ [Bc.mk (1 : Int) n e0] ++ exb (List.map E.parts []).flatten))]) (show ((m ++ [Bc.mk (1 : Int) n e0] ++ exb (List.map E.parts []).flatten).length) = ((m ++ exb (E.num n).parts).length) by simp [E.parts, exb]))).trans (congrArg (fun x => Out.val (V.vec (0 : Nat) (m ++ exb (E.num n).parts).length (3 : Nat) (0 : Nat) (m ++ exb (E.num n).parts).length) [Ob.vec true (3 : Nat) x]) (show (bcc (m ++ [Bc.mk (1 : Int) n e0] ++ exb (List.map E.parts []).flatten)) = (bcc (m ++ exb (E.num n).parts)) by simp [E.parts, exb])))
  | .name s, m, h => by
    simp only [E.size] at h
    have hl := fL_ev [] [] (m ++ [⟨2, 0, s⟩]) (by first | (simp; done) | (simp; omega)) (by simp) (fun x hx => by cases hx)
    let t1 : Tp pr := .m (show (decide ((bcc m).length = m.length ∧ (0 : Nat) + m.length ≤ m.length ∧ m.length + (1 : Nat) ≤ (4294967296 : Nat))) = true by (simp; omega))
    let t2 : Tp pr := .b (show (decide (m.length + (1 : Nat) ≤ m.length)) = false by simp)
    let t4 : Tp pr := .n .crows (show ((List.take m.length (bcc m)).append (List.take (1 : Nat) (List.drop (0 : Nat) [[C.t (T.int IntKind.i64 (2 : Int)), C.t (T.int IntKind.i64 (0 : Int)), C.t (T.str (E.name s).text)]]))) = bcc (m ++ [Bc.mk (2 : Int) (0 : Int) s]) by simp)
    let t5 : Tp pr := .i (rfl : ((0 : Int) : Int) = (0 : Int))
    let t6 : Tp pr := .a (Ev.castq (congrArg (fun x => Q.loop (lq pr (12 : FuncId) (0 : Nat)) (at_ [((1 : Nat), V.vec (0 : Nat) x (3 : Nat) (0 : Nat) x), ((18 : Nat), V.t (T.seq (4 : Nat) (List.map E.ts ([] ++ [])))), ((19 : Nat), i64 ((↑(0 : Nat) : Int) + (↑(0 : Nat) : Int))), ((20 : Nat), i64 (↑(0 : Nat) : Int))] [Ob.vec true (3 : Nat) (bcc (m ++ [Bc.mk (2 : Int) (0 : Int) s]))] (1 : Nat))) (show ((m ++ [Bc.mk (2 : Int) (0 : Int) s]).length) = (m.length + (1 : Nat)) by simp [E.parts, exb])) (hl))
    exact .tpe [.m (rfl : true = true), t1, t2, .c (rfl : (m.length + (1 : Nat)) = _), t4, t5, t6] (Out.val (V.vec (0 : Nat) (m ++ [Bc.mk (2 : Int) (0 : Int) s] ++ exb (List.map E.parts []).flatten).length (3 : Nat) (0 : Nat) (m ++ [Bc.mk (2 : Int) (0 : Int) s] ++ exb (List.map E.parts []).flatten).length) [Ob.vec true (3 : Nat) (bcc (m ++ [Bc.mk (2 : Int) (0 : Int) s] ++ exb (List.map E.parts []).flatten))]) (by kernel_rfl) (((congrArg (fun x => Out.val (V.vec (0 : Nat) x (3 : Nat) (0 : Nat) (m ++ [Bc.mk (2 : Int) (0 : Int) s] ++ exb (List.map E.parts []).flatten).length) [Ob.vec true (3 : Nat) (bcc (m ++ [Bc.mk (2 : Int) (0 : Int) s] ++ exb (List.map E.parts []).flatten))]) (show ((m ++ [Bc.mk (2 : Int) (0 : Int) s] ++ exb (List.map E.parts []).flatten).length) = ((m ++ exb (E.name s).parts).length) by simp [E.parts, exb])).trans (congrArg (fun x => Out.val (V.vec (0 : Nat) (m ++ exb (E.name s).parts).length (3 : Nat) (0 : Nat) x) [Ob.vec true (3 : Nat) (bcc (m ++ [Bc.mk (2 : Int) (0 : Int) s] ++ exb (List.map E.parts []).flatten))]) (show ((m ++ [Bc.mk (2 : Int) (0 : Int) s] ++ exb (List.map E.parts []).flatten).length) = ((m ++ exb (E.name s).parts).length) by simp [E.parts, exb]))).trans (congrArg (fun x => Out.val (V.vec (0 : Nat) (m ++ exb (E.name s).parts).length (3 : Nat) (0 : Nat) (m ++ exb (E.name s).parts).length) [Ob.vec true (3 : Nat) x]) (show (bcc (m ++ [Bc.mk (2 : Int) (0 : Int) s] ++ exb (List.map E.parts []).flatten)) = (bcc (m ++ exb (E.name s).parts)) by simp [E.parts, exb])))
  | .neg a, m, h => by
    simp only [E.size] at h
    have hl := fL_ev [a] [] (m ++ [⟨3, 0, e0⟩]) (by first | (simp; done) | (simp; omega)) (by simp) (fun x hx m hm => by
      simp at hx
      rw [hx] at hm ⊢
      exact l2Flat_ev a m hm)
    let t1 : Tp pr := .m (show (decide ((bcc m).length = m.length ∧ (0 : Nat) + m.length ≤ m.length ∧ m.length + (1 : Nat) ≤ (4294967296 : Nat))) = true by (simp; omega))
    let t2 : Tp pr := .b (show (decide (m.length + (1 : Nat) ≤ m.length)) = false by simp)
    let t4 : Tp pr := .n .crows (show ((List.take m.length (bcc m)).append (List.take (1 : Nat) (List.drop (0 : Nat) [[C.t (T.int IntKind.i64 (3 : Int)), C.t (T.int IntKind.i64 (0 : Int)), C.t (T.str a.neg.text)]]))) = bcc (m ++ [Bc.mk (3 : Int) (0 : Int) (ByteArray.mk #[])]) by simp)
    let t5 : Tp pr := .i (rfl : ((1 : Int) : Int) = (1 : Int))
    let t6 : Tp pr := .a (Ev.castq (congrArg (fun x => Q.loop (lq pr (12 : FuncId) (0 : Nat)) (at_ [((1 : Nat), V.vec (0 : Nat) x (3 : Nat) (0 : Nat) x), ((18 : Nat), V.t (T.seq (4 : Nat) (List.map E.ts ([] ++ [a])))), ((19 : Nat), i64 ((↑(0 : Nat) : Int) + (↑[a].length : Int))), ((20 : Nat), i64 (↑(0 : Nat) : Int))] [Ob.vec true (3 : Nat) (bcc (m ++ [Bc.mk (3 : Int) (0 : Int) e0]))] (1 : Nat))) (show ((m ++ [Bc.mk (3 : Int) (0 : Int) e0]).length) = (m.length + (1 : Nat)) by simp [E.parts, exb])) (hl))
    exact .tpe [.m (rfl : true = true), t1, t2, .c (rfl : (m.length + (1 : Nat)) = _), t4, t5, t6] (Out.val (V.vec (0 : Nat) (m ++ [Bc.mk (3 : Int) (0 : Int) e0] ++ exb (List.map E.parts [a]).flatten).length (3 : Nat) (0 : Nat) (m ++ [Bc.mk (3 : Int) (0 : Int) e0] ++ exb (List.map E.parts [a]).flatten).length) [Ob.vec true (3 : Nat) (bcc (m ++ [Bc.mk (3 : Int) (0 : Int) e0] ++ exb (List.map E.parts [a]).flatten))]) (by kernel_rfl) (((congrArg (fun x => Out.val (V.vec (0 : Nat) x (3 : Nat) (0 : Nat) (m ++ [Bc.mk (3 : Int) (0 : Int) e0] ++ exb (List.map E.parts [a]).flatten).length) [Ob.vec true (3 : Nat) (bcc (m ++ [Bc.mk (3 : Int) (0 : Int) e0] ++ exb (List.map E.parts [a]).flatten))]) (show ((m ++ [Bc.mk (3 : Int) (0 : Int) e0] ++ exb (List.map E.parts [a]).flatten).length) = ((m ++ exb a.neg.parts).length) by simp [E.parts, exb])).trans (congrArg (fun x => Out.val (V.vec (0 : Nat) (m ++ exb a.neg.parts).length (3 : Nat) (0 : Nat) x) [Ob.vec true (3 : Nat) (bcc (m ++ [Bc.mk (3 : Int) (0 : Int) e0] ++ exb (List.map E.parts [a]).flatten))]) (show ((m ++ [Bc.mk (3 : Int) (0 : Int) e0] ++ exb (List.map E.parts [a]).flatten).length) = ((m ++ exb a.neg.parts).length) by simp [E.parts, exb]))).trans (congrArg (fun x => Out.val (V.vec (0 : Nat) (m ++ exb a.neg.parts).length (3 : Nat) (0 : Nat) (m ++ exb a.neg.parts).length) [Ob.vec true (3 : Nat) x]) (show (bcc (m ++ [Bc.mk (3 : Int) (0 : Int) e0] ++ exb (List.map E.parts [a]).flatten)) = (bcc (m ++ exb a.neg.parts)) by simp [E.parts, exb])))
  | .not a, m, h => by
    simp only [E.size] at h
    have hl := fL_ev [a] [] (m ++ [⟨4, 0, e0⟩]) (by first | (simp; done) | (simp; omega)) (by simp) (fun x hx m hm => by
      simp at hx
      rw [hx] at hm ⊢
      exact l2Flat_ev a m hm)
    let t1 : Tp pr := .m (show (decide ((bcc m).length = m.length ∧ (0 : Nat) + m.length ≤ m.length ∧ m.length + (1 : Nat) ≤ (4294967296 : Nat))) = true by (simp; omega))
    let t2 : Tp pr := .b (show (decide (m.length + (1 : Nat) ≤ m.length)) = false by simp)
    let t4 : Tp pr := .n .crows (show ((List.take m.length (bcc m)).append (List.take (1 : Nat) (List.drop (0 : Nat) [[C.t (T.int IntKind.i64 (4 : Int)), C.t (T.int IntKind.i64 (0 : Int)), C.t (T.str a.not.text)]]))) = bcc (m ++ [Bc.mk (4 : Int) (0 : Int) (ByteArray.mk #[])]) by simp)
    let t5 : Tp pr := .i (rfl : ((1 : Int) : Int) = (1 : Int))
    let t6 : Tp pr := .a (Ev.castq (congrArg (fun x => Q.loop (lq pr (12 : FuncId) (0 : Nat)) (at_ [((1 : Nat), V.vec (0 : Nat) x (3 : Nat) (0 : Nat) x), ((18 : Nat), V.t (T.seq (4 : Nat) (List.map E.ts ([] ++ [a])))), ((19 : Nat), i64 ((↑(0 : Nat) : Int) + (↑[a].length : Int))), ((20 : Nat), i64 (↑(0 : Nat) : Int))] [Ob.vec true (3 : Nat) (bcc (m ++ [Bc.mk (4 : Int) (0 : Int) e0]))] (1 : Nat))) (show ((m ++ [Bc.mk (4 : Int) (0 : Int) e0]).length) = (m.length + (1 : Nat)) by simp [E.parts, exb])) (hl))
    exact .tpe [.m (rfl : true = true), t1, t2, .c (rfl : (m.length + (1 : Nat)) = _), t4, t5, t6] (Out.val (V.vec (0 : Nat) (m ++ [Bc.mk (4 : Int) (0 : Int) e0] ++ exb (List.map E.parts [a]).flatten).length (3 : Nat) (0 : Nat) (m ++ [Bc.mk (4 : Int) (0 : Int) e0] ++ exb (List.map E.parts [a]).flatten).length) [Ob.vec true (3 : Nat) (bcc (m ++ [Bc.mk (4 : Int) (0 : Int) e0] ++ exb (List.map E.parts [a]).flatten))]) (by kernel_rfl) (((congrArg (fun x => Out.val (V.vec (0 : Nat) x (3 : Nat) (0 : Nat) (m ++ [Bc.mk (4 : Int) (0 : Int) e0] ++ exb (List.map E.parts [a]).flatten).length) [Ob.vec true (3 : Nat) (bcc (m ++ [Bc.mk (4 : Int) (0 : Int) e0] ++ exb (List.map E.parts [a]).flatten))]) (show ((m ++ [Bc.mk (4 : Int) (0 : Int) e0] ++ exb (List.map E.parts [a]).flatten).length) = ((m ++ exb a.not.parts).length) by simp [E.parts, exb])).trans (congrArg (fun x => Out.val (V.vec (0 : Nat) (m ++ exb a.not.parts).length (3 : Nat) (0 : Nat) x) [Ob.vec true (3 : Nat) (bcc (m ++ [Bc.mk (4 : Int) (0 : Int) e0] ++ exb (List.map E.parts [a]).flatten))]) (show ((m ++ [Bc.mk (4 : Int) (0 : Int) e0] ++ exb (List.map E.parts [a]).flatten).length) = ((m ++ exb a.not.parts).length) by simp [E.parts, exb]))).trans (congrArg (fun x => Out.val (V.vec (0 : Nat) (m ++ exb a.not.parts).length (3 : Nat) (0 : Nat) (m ++ exb a.not.parts).length) [Ob.vec true (3 : Nat) x]) (show (bcc (m ++ [Bc.mk (4 : Int) (0 : Int) e0] ++ exb (List.map E.parts [a]).flatten)) = (bcc (m ++ exb a.not.parts)) by simp [E.parts, exb])))
  | .two s a b, m, h => by
    simp only [E.size] at h
    have hl := fL_ev [a, b] [] (m ++ [⟨5, 0, s⟩]) (by first | (simp; done) | (simp; omega)) (by simp) (fun x hx m hm => by
      simp at hx
      rcases hx with hx | hx
      · rw [hx] at hm ⊢; exact l2Flat_ev a m hm
      · rw [hx] at hm ⊢; exact l2Flat_ev b m hm)
    let t1 : Tp pr := .m (show (decide ((bcc m).length = m.length ∧ (0 : Nat) + m.length ≤ m.length ∧ m.length + (1 : Nat) ≤ (4294967296 : Nat))) = true by (simp; omega))
    let t2 : Tp pr := .b (show (decide (m.length + (1 : Nat) ≤ m.length)) = false by simp)
    let t4 : Tp pr := .n .crows (show ((List.take m.length (bcc m)).append (List.take (1 : Nat) (List.drop (0 : Nat) [[C.t (T.int IntKind.i64 (5 : Int)), C.t (T.int IntKind.i64 (0 : Int)), C.t (T.str (E.two s a b).text)]]))) = bcc (m ++ [Bc.mk (5 : Int) (0 : Int) s]) by simp)
    let t5 : Tp pr := .i (rfl : ((2 : Int) : Int) = (2 : Int))
    let t6 : Tp pr := .a (Ev.castq (congrArg (fun x => Q.loop (lq pr (12 : FuncId) (0 : Nat)) (at_ [((1 : Nat), V.vec (0 : Nat) x (3 : Nat) (0 : Nat) x), ((18 : Nat), V.t (T.seq (4 : Nat) (List.map E.ts ([] ++ [a, b])))), ((19 : Nat), i64 ((↑(0 : Nat) : Int) + (↑[a, b].length : Int))), ((20 : Nat), i64 (↑(0 : Nat) : Int))] [Ob.vec true (3 : Nat) (bcc (m ++ [Bc.mk (5 : Int) (0 : Int) s]))] (1 : Nat))) (show ((m ++ [Bc.mk (5 : Int) (0 : Int) s]).length) = (m.length + (1 : Nat)) by simp [E.parts, exb])) (hl))
    exact .tpe [.m (rfl : true = true), t1, t2, .c (rfl : (m.length + (1 : Nat)) = _), t4, t5, t6] (Out.val (V.vec (0 : Nat) (m ++ [Bc.mk (5 : Int) (0 : Int) s] ++ exb (List.map E.parts [a, b]).flatten).length (3 : Nat) (0 : Nat) (m ++ [Bc.mk (5 : Int) (0 : Int) s] ++ exb (List.map E.parts [a, b]).flatten).length) [Ob.vec true (3 : Nat) (bcc (m ++ [Bc.mk (5 : Int) (0 : Int) s] ++ exb (List.map E.parts [a, b]).flatten))]) (by kernel_rfl) (((congrArg (fun x => Out.val (V.vec (0 : Nat) x (3 : Nat) (0 : Nat) (m ++ [Bc.mk (5 : Int) (0 : Int) s] ++ exb (List.map E.parts [a, b]).flatten).length) [Ob.vec true (3 : Nat) (bcc (m ++ [Bc.mk (5 : Int) (0 : Int) s] ++ exb (List.map E.parts [a, b]).flatten))]) (show ((m ++ [Bc.mk (5 : Int) (0 : Int) s] ++ exb (List.map E.parts [a, b]).flatten).length) = ((m ++ exb (E.two s a b).parts).length) by simp [E.parts, exb])).trans (congrArg (fun x => Out.val (V.vec (0 : Nat) (m ++ exb (E.two s a b).parts).length (3 : Nat) (0 : Nat) x) [Ob.vec true (3 : Nat) (bcc (m ++ [Bc.mk (5 : Int) (0 : Int) s] ++ exb (List.map E.parts [a, b]).flatten))]) (show ((m ++ [Bc.mk (5 : Int) (0 : Int) s] ++ exb (List.map E.parts [a, b]).flatten).length) = ((m ++ exb (E.two s a b).parts).length) by simp [E.parts, exb]))).trans (congrArg (fun x => Out.val (V.vec (0 : Nat) (m ++ exb (E.two s a b).parts).length (3 : Nat) (0 : Nat) (m ++ exb (E.two s a b).parts).length) [Ob.vec true (3 : Nat) x]) (show (bcc (m ++ [Bc.mk (5 : Int) (0 : Int) s] ++ exb (List.map E.parts [a, b]).flatten)) = (bcc (m ++ exb (E.two s a b).parts)) by simp [E.parts, exb])))
theorem l2FlatN_ev : ∀ (e : E), e.size ≤ 1000000 → Ev pr (.call 12 [vs e.ts, .t .nils] []) (.val (.vec 0 (exb e.parts).length 3 0 (exb e.parts).length) [.vec true 3 (bcc (exb e.parts))])
  | .num n, h => by
    simp only [E.size] at h
    have hl := fLN_ev [] [] ([⟨1, n, e0⟩]) (by first | (simp; done) | (simp; omega)) (by simp) (fun x hx => by cases hx)
    let t3 : Tp pr := .n .crows (show (List.take (1 : Nat) (List.drop (0 : Nat) [[C.t (T.int IntKind.i64 (1 : Int)), C.t (T.int IntKind.i64 (E.num n).nm), C.t (T.str (E.num n).text)]])) = bcc [Bc.mk (1 : Int) n (ByteArray.mk #[])] by simp)
    let t4 : Tp pr := .i (rfl : ((0 : Int) : Int) = (0 : Int))
    exact .tp [.m (rfl : true = true), .m (rfl : true = true), .c (rfl : ((1 : Nat)) = _), t3, t4, .a (hl)] (by kernel_rfl)
  | .name s, h => by
    simp only [E.size] at h
    have hl := fLN_ev [] [] ([⟨2, 0, s⟩]) (by first | (simp; done) | (simp; omega)) (by simp) (fun x hx => by cases hx)
    let t3 : Tp pr := .n .crows (show (List.take (1 : Nat) (List.drop (0 : Nat) [[C.t (T.int IntKind.i64 (2 : Int)), C.t (T.int IntKind.i64 (0 : Int)), C.t (T.str (E.name s).text)]])) = bcc [Bc.mk (2 : Int) (0 : Int) s] by simp)
    let t4 : Tp pr := .i (rfl : ((0 : Int) : Int) = (0 : Int))
    exact .tp [.m (rfl : true = true), .m (rfl : true = true), .c (rfl : ((1 : Nat)) = _), t3, t4, .a (hl)] (by kernel_rfl)
  | .neg a, h => by
    simp only [E.size] at h
    have hl := fLN_ev [a] [] ([⟨3, 0, e0⟩]) (by first | (simp; done) | (simp; omega)) (by simp) (fun x hx m hm => by
      simp at hx
      rw [hx] at hm ⊢
      exact l2Flat_ev a m hm)
    let t3 : Tp pr := .n .crows (show (List.take (1 : Nat) (List.drop (0 : Nat) [[C.t (T.int IntKind.i64 (3 : Int)), C.t (T.int IntKind.i64 (0 : Int)), C.t (T.str a.neg.text)]])) = bcc [Bc.mk (3 : Int) (0 : Int) (ByteArray.mk #[])] by simp)
    let t4 : Tp pr := .i (rfl : ((1 : Int) : Int) = (1 : Int))
    exact .tpe [.m (rfl : true = true), .m (rfl : true = true), .c (rfl : ((1 : Nat)) = _), t3, t4, .a (hl)] (Out.val (V.vec (0 : Nat) ([Bc.mk (3 : Int) (0 : Int) e0] ++ exb (List.map E.parts [a]).flatten).length (3 : Nat) (0 : Nat) ([Bc.mk (3 : Int) (0 : Int) e0] ++ exb (List.map E.parts [a]).flatten).length) [Ob.vec true (3 : Nat) (bcc ([Bc.mk (3 : Int) (0 : Int) e0] ++ exb (List.map E.parts [a]).flatten))]) (by kernel_rfl) (((congrArg (fun x => Out.val (V.vec (0 : Nat) x (3 : Nat) (0 : Nat) ([Bc.mk (3 : Int) (0 : Int) e0] ++ exb (List.map E.parts [a]).flatten).length) [Ob.vec true (3 : Nat) (bcc ([Bc.mk (3 : Int) (0 : Int) e0] ++ exb (List.map E.parts [a]).flatten))]) (show (([Bc.mk (3 : Int) (0 : Int) e0] ++ exb (List.map E.parts [a]).flatten).length) = ((exb a.neg.parts).length) by simp [E.parts, exb])).trans (congrArg (fun x => Out.val (V.vec (0 : Nat) (exb a.neg.parts).length (3 : Nat) (0 : Nat) x) [Ob.vec true (3 : Nat) (bcc ([Bc.mk (3 : Int) (0 : Int) e0] ++ exb (List.map E.parts [a]).flatten))]) (show (([Bc.mk (3 : Int) (0 : Int) e0] ++ exb (List.map E.parts [a]).flatten).length) = ((exb a.neg.parts).length) by simp [E.parts, exb]))).trans (congrArg (fun x => Out.val (V.vec (0 : Nat) (exb a.neg.parts).length (3 : Nat) (0 : Nat) (exb a.neg.parts).length) [Ob.vec true (3 : Nat) x]) (show (bcc ([Bc.mk (3 : Int) (0 : Int) e0] ++ exb (List.map E.parts [a]).flatten)) = (bcc (exb a.neg.parts)) by simp [E.parts, exb])))
  | .not a, h => by
    simp only [E.size] at h
    have hl := fLN_ev [a] [] ([⟨4, 0, e0⟩]) (by first | (simp; done) | (simp; omega)) (by simp) (fun x hx m hm => by
      simp at hx
      rw [hx] at hm ⊢
      exact l2Flat_ev a m hm)
    let t3 : Tp pr := .n .crows (show (List.take (1 : Nat) (List.drop (0 : Nat) [[C.t (T.int IntKind.i64 (4 : Int)), C.t (T.int IntKind.i64 (0 : Int)), C.t (T.str a.not.text)]])) = bcc [Bc.mk (4 : Int) (0 : Int) (ByteArray.mk #[])] by simp)
    let t4 : Tp pr := .i (rfl : ((1 : Int) : Int) = (1 : Int))
    exact .tpe [.m (rfl : true = true), .m (rfl : true = true), .c (rfl : ((1 : Nat)) = _), t3, t4, .a (hl)] (Out.val (V.vec (0 : Nat) ([Bc.mk (4 : Int) (0 : Int) e0] ++ exb (List.map E.parts [a]).flatten).length (3 : Nat) (0 : Nat) ([Bc.mk (4 : Int) (0 : Int) e0] ++ exb (List.map E.parts [a]).flatten).length) [Ob.vec true (3 : Nat) (bcc ([Bc.mk (4 : Int) (0 : Int) e0] ++ exb (List.map E.parts [a]).flatten))]) (by kernel_rfl) (((congrArg (fun x => Out.val (V.vec (0 : Nat) x (3 : Nat) (0 : Nat) ([Bc.mk (4 : Int) (0 : Int) e0] ++ exb (List.map E.parts [a]).flatten).length) [Ob.vec true (3 : Nat) (bcc ([Bc.mk (4 : Int) (0 : Int) e0] ++ exb (List.map E.parts [a]).flatten))]) (show (([Bc.mk (4 : Int) (0 : Int) e0] ++ exb (List.map E.parts [a]).flatten).length) = ((exb a.not.parts).length) by simp [E.parts, exb])).trans (congrArg (fun x => Out.val (V.vec (0 : Nat) (exb a.not.parts).length (3 : Nat) (0 : Nat) x) [Ob.vec true (3 : Nat) (bcc ([Bc.mk (4 : Int) (0 : Int) e0] ++ exb (List.map E.parts [a]).flatten))]) (show (([Bc.mk (4 : Int) (0 : Int) e0] ++ exb (List.map E.parts [a]).flatten).length) = ((exb a.not.parts).length) by simp [E.parts, exb]))).trans (congrArg (fun x => Out.val (V.vec (0 : Nat) (exb a.not.parts).length (3 : Nat) (0 : Nat) (exb a.not.parts).length) [Ob.vec true (3 : Nat) x]) (show (bcc ([Bc.mk (4 : Int) (0 : Int) e0] ++ exb (List.map E.parts [a]).flatten)) = (bcc (exb a.not.parts)) by simp [E.parts, exb])))
  | .two s a b, h => by
    simp only [E.size] at h
    have hl := fLN_ev [a, b] [] ([⟨5, 0, s⟩]) (by first | (simp; done) | (simp; omega)) (by simp) (fun x hx m hm => by
      simp at hx
      rcases hx with hx | hx
      · rw [hx] at hm ⊢; exact l2Flat_ev a m hm
      · rw [hx] at hm ⊢; exact l2Flat_ev b m hm)
    let t3 : Tp pr := .n .crows (show (List.take (1 : Nat) (List.drop (0 : Nat) [[C.t (T.int IntKind.i64 (5 : Int)), C.t (T.int IntKind.i64 (0 : Int)), C.t (T.str (E.two s a b).text)]])) = bcc [Bc.mk (5 : Int) (0 : Int) s] by simp)
    let t4 : Tp pr := .i (rfl : ((2 : Int) : Int) = (2 : Int))
    exact .tpe [.m (rfl : true = true), .m (rfl : true = true), .c (rfl : ((1 : Nat)) = _), t3, t4, .a (hl)] (Out.val (V.vec (0 : Nat) ([Bc.mk (5 : Int) (0 : Int) s] ++ exb (List.map E.parts [a, b]).flatten).length (3 : Nat) (0 : Nat) ([Bc.mk (5 : Int) (0 : Int) s] ++ exb (List.map E.parts [a, b]).flatten).length) [Ob.vec true (3 : Nat) (bcc ([Bc.mk (5 : Int) (0 : Int) s] ++ exb (List.map E.parts [a, b]).flatten))]) (by kernel_rfl) (((congrArg (fun x => Out.val (V.vec (0 : Nat) x (3 : Nat) (0 : Nat) ([Bc.mk (5 : Int) (0 : Int) s] ++ exb (List.map E.parts [a, b]).flatten).length) [Ob.vec true (3 : Nat) (bcc ([Bc.mk (5 : Int) (0 : Int) s] ++ exb (List.map E.parts [a, b]).flatten))]) (show (([Bc.mk (5 : Int) (0 : Int) s] ++ exb (List.map E.parts [a, b]).flatten).length) = ((exb (E.two s a b).parts).length) by simp [E.parts, exb])).trans (congrArg (fun x => Out.val (V.vec (0 : Nat) (exb (E.two s a b).parts).length (3 : Nat) (0 : Nat) x) [Ob.vec true (3 : Nat) (bcc ([Bc.mk (5 : Int) (0 : Int) s] ++ exb (List.map E.parts [a, b]).flatten))]) (show (([Bc.mk (5 : Int) (0 : Int) s] ++ exb (List.map E.parts [a, b]).flatten).length) = ((exb (E.two s a b).parts).length) by simp [E.parts, exb]))).trans (congrArg (fun x => Out.val (V.vec (0 : Nat) (exb (E.two s a b).parts).length (3 : Nat) (0 : Nat) (exb (E.two s a b).parts).length) [Ob.vec true (3 : Nat) x]) (show (bcc ([Bc.mk (5 : Int) (0 : Int) s] ++ exb (List.map E.parts [a, b]).flatten)) = (bcc (exb (E.two s a b).parts)) by simp [E.parts, exb])))
end Go.Ev

/- Parts of expressions: what the law does with them; how many there are. -/
namespace Go.Ev
set_option linter.unusedVariables false
set_option linter.unusedSimpArgs false
open Go.Proofs
set_option maxRecDepth 100000
set_option linter.unusedVariables false
set_option linter.unusedSimpArgs false
set_option maxHeartbeats 1000000
attribute [local simp] e0
theorem markTextL_ev : ∀ (n : Nat) (k : Int) (o : ByteArray), 0 ≤ k → k < 10 ^ n → o.size + n ≤ 1000 → n ≤ 18 →
    Ev pr (.loop (lq pr 20 0) (at_ [(0, i64 k), (3, .t (.str o))] [] 0)) (.exit 0 (at_ [(3, .t (.str (mtGo n k o)))] [] 0))
  | 0, k, o, h0, h1, h2, h3 => by
    have hk : k = 0 := by simp at h1; omega
    subst hk
    exact .tp [.b (rfl : false = false)] (by kernel_rfl)
  | n + 1, k, o, h0, h1, h2, h3 => by
    have hp : (10 : Int) ^ (n + 1) = 10 * 10 ^ n := by rw [Int.pow_succ]; omega
    have hb : (10 : Int) ^ n ≤ 10 ^ 17 := by
      have : n ≤ 17 := by omega
      exact_mod_cast Nat.pow_le_pow_right (by omega) this
    have hb2 : (10 : Int) ^ 17 = 100000000000000000 := by decide
    have hm0 : 0 ≤ k.tmod 10 := Int.tmod_nonneg _ h0
    have hm1 : k.tmod 10 < 10 := Int.tmod_lt_of_pos _ (by omega)
    have hd : k.tdiv 10 = k / 10 := Int.tdiv_eq_ediv_of_nonneg h0
    have hs : (strOf [48 + k.tmod 10]).size = 1 := by simp [strOf_size]
    by_cases hk : k > 0
    · have ih := markTextL_ev n (k.tdiv 10) (strOf [48 + k.tmod 10] ++ o) (by omega) (by omega) (by rw [ByteArray.size_append]; omega) (by omega)
      have e : mtGo (n + 1) k o = mtGo n (k.tdiv 10) (strOf [48 + k.tmod 10] ++ o) := by simp [mtGo, hk]
      rw [e]
      let t0 : Tp pr := .b (show (decide (k > (0 : Int))) = true by (simp; omega))
      let t3 : Tp pr := .i (wrap_i64 (a := (48 : Int) + k.tmod (10 : Int)) (by omega) (by omega))
      let t4 : Tp pr := .i (wrap_u8 (a := (48 : Int) + k.tmod (10 : Int)) (by omega) (by omega))
      let t6 : Tp pr := .n .rows (show (List.map (fun x => List.map C.fz x) (List.take (1 : Nat) (List.drop (0 : Nat) [[C.t (T.int IntKind.u8 ((48 : Int) + k.tmod (10 : Int)))]]))) = [[(C.t (T.int IntKind.u8 ((48 : Int) + k.tmod (10 : Int)))).fz]] by simp)
      let t7 : Tp pr := .m (show (decide ((1 : Nat) + o.size ≤ (9223372036854775807 : Nat))) = true by (simp; omega))
      let t8 : Tp pr := .n .str (show ((ByteArray.mk (Array.mk [UInt8.ofNat ((48 : Int) + k.tmod (10 : Int)).toNat])).append o) = ByteArray.mk (Array.mk [UInt8.ofNat ((48 : Int) + k.tmod (10 : Int)).toNat]) ++ o by simp)
      let t10 : Tp pr := .i (wrap_i64 (a := k.tdiv (10 : Int)) (by omega) (by omega))
      exact .tp [t0, .m (rfl : true = true), .i (rfl : (k.tmod (10 : Int)) = _), t3, t4, .m (rfl : true = true), t6, t7, t8, .m (rfl : true = true), t10, .a (ih)] (by kernel_rfl)
    · have e : mtGo (n + 1) k o = o := by simp [mtGo, hk]
      rw [e]
      let t0 : Tp pr := .b (show (decide (k > (0 : Int))) = false by (simp; omega))
      exact .tp [t0] (by kernel_rfl)
theorem markText_ev (k : Int) (h0 : 0 ≤ k) (h : k ≤ 10000000000) : Ev pr (.call 20 [i64 k] []) (.val (.t (.str (mText k))) []) := by
  unfold mText
  by_cases hk : k ≤ 0
  · rw [if_pos hk]; (
    let t0 : Tp pr := .b (show (decide (k ≤ (0 : Int))) = true by (simp; omega))
    exact .tp [t0] (by kernel_rfl))
  · rw [if_neg hk]
    have hl := markTextL_ev 18 k ⟨#[]⟩ h0 (by omega) (by decide) (by omega)
    have hz : (mtGo 18 k ⟨#[]⟩).size ≤ 1000 := mtGo_size 18 k ⟨#[]⟩ (by decide)
    let t0 : Tp pr := .b (show (decide (k ≤ (0 : Int))) = false by (simp; omega))
    let t2 : Tp pr := .m (show (decide ((1 : Nat) + (mtGo (18 : Nat) k (ByteArray.mk #[])).size ≤ (9223372036854775807 : Nat))) = true by (simp; omega))
    let t3 : Tp pr := .n .str (show ((ByteArray.mk #[(109 : UInt8)]).append (mtGo (18 : Nat) k (ByteArray.mk #[]))) = ByteArray.mk #[(109 : UInt8)] ++ mtGo (18 : Nat) k (ByteArray.mk #[]) by simp)
    exact .tp [t0, .a (hl), t2, t3] (by kernel_rfl)
theorem markExL_ev (mt : Int → ByteArray) (hmt : ∀ k, 0 ≤ k → k ≤ 10000000000 → Ev pr (.call 20 [i64 k] []) (.val (.t (.str (mt k))) [])) : ∀ (rest m : List Bc) (k : Int), 0 ≤ k → k + 3 * rest.length ≤ 9000000 → m.length + rest.length ≤ 1048576 →
    Ev pr (.loop (lq pr 7 0) (at_ [(0, .vec 0 (m.length + rest.length) 3 0 (m.length + rest.length)), (1, i64 k), (5, i64 m.length)] [.vec true 3 (bcc (m ++ rest))] 1))
      (.exit 0 (at_ [(1, i64 (k + 3 * rest.length))] [.vec true 3 (bcc (m ++ mark3 mt k rest.length))] 1))
  | [], m, k, h0, h1, h2 => by
    let t0 : Tp pr := .i (show ((↑(m.length + (0 : Nat)) : Int) : Int) = (↑m.length : Int) by omega)
    let t1 : Tp pr := .b (show (decide ((↑m.length : Int) < (↑m.length : Int))) = false by simp)
    exact .tpe [t0, t1] (Out.exit (0 : Nat) (at_ [((1 : Nat), V.t (T.int IntKind.i64 k))] [Ob.vec true (3 : Nat) (bcc (m ++ []))] (1 : Nat))) (by kernel_rfl) ((congrArg (fun x => Out.exit (0 : Nat) (at_ [((1 : Nat), V.t (T.int IntKind.i64 x))] [Ob.vec true (3 : Nat) (bcc (m ++ []))] (1 : Nat))) (show (k) = (k + (0 : Int)) by simp [mark3])).trans (congrArg (fun x => Out.exit (0 : Nat) (at_ [((1 : Nat), V.t (T.int IntKind.i64 (k + (0 : Int))))] [Ob.vec true (3 : Nat) x] (1 : Nat))) (show (bcc (m ++ [])) = (bcc (m ++ mark3 mt k (0 : Nat))) by simp [mark3])))
  | x :: rest, m, k, h0, h1, h2 => by
    simp at h1 h2
    have ht := hmt (k + 1 + 1) (by omega) (by omega)
    have ih := markExL_ev mt hmt rest (m ++ [⟨k, k + 1, mt (k + 1 + 1)⟩]) (k + 1 + 1 + 1) (by omega) (by omega) (by simp; omega)
    let t0 : Tp pr := .i (show ((↑(m.length + (x :: rest).length) : Int) : Int) = (↑m.length : Int) + ((↑rest.length : Int) + (1 : Int)) by simp)
    let t1 : Tp pr := .b (show (decide ((↑m.length : Int) < (↑m.length : Int) + ((↑rest.length : Int) + (1 : Int)))) = true by (simp; omega))
    let t2 : Tp pr := .m (show (decide ((0 : Int) ≤ (↑m.length : Int) ∧ (↑m.length : Int).toNat < m.length + (x :: rest).length)) = true by simp)
    let t3 : Tp pr := .c (show ((0 : Nat) + (↑m.length : Int).toNat : Nat) = m.length by omega)
    let t4 : Tp pr := .m (show (decide ((bcc (m ++ x :: rest)).length = m.length + (x :: rest).length)) = true by simp)
    let t5 : Tp pr := .g .crow (show ((bcc (m ++ x :: rest))[m.length]?) = some ([C.t (T.int IntKind.i64 x.op), C.t (T.int IntKind.i64 x.n), C.t (T.str x.text)]) by simp)
    let t6 : Tp pr := .m (show (decide ((bcc (m ++ x :: rest)).length = m.length + (x :: rest).length)) = true by simp)
    let t7 : Tp pr := .g .crow (show ((bcc (m ++ x :: rest))[m.length]?) = some ([C.t (T.int IntKind.i64 x.op), C.t (T.int IntKind.i64 x.n), C.t (T.str x.text)]) by simp)
    let t8 : Tp pr := .n .crows (show ((bcc (m ++ x :: rest)).set m.length [C.t (T.int IntKind.i64 k), C.t (T.int IntKind.i64 x.n), C.t (T.str x.text)]) = bcc (m ++ Bc.mk k x.n x.text :: rest) by simp)
    let t9 : Tp pr := .i (wrap_i64 (a := k + (1 : Int)) (by omega) (by omega))
    let t10 : Tp pr := .m (show (decide ((0 : Int) ≤ (↑m.length : Int) ∧ (↑m.length : Int).toNat < m.length + (x :: rest).length)) = true by simp)
    let t11 : Tp pr := .c (show ((0 : Nat) + (↑m.length : Int).toNat : Nat) = m.length by omega)
    let t12 : Tp pr := .m (show (decide ((bcc (m ++ Bc.mk k x.n x.text :: rest)).length = m.length + (x :: rest).length)) = true by simp)
    let t13 : Tp pr := .g .crow (show ((bcc (m ++ Bc.mk k x.n x.text :: rest))[m.length]?) = some ([C.t (T.int IntKind.i64 k), C.t (T.int IntKind.i64 x.n), C.t (T.str x.text)]) by simp)
    let t14 : Tp pr := .n .crows (show ((bcc (m ++ Bc.mk k x.n x.text :: rest)).set m.length [C.t (T.int IntKind.i64 k), C.t (T.int IntKind.i64 (k + (1 : Int))), C.t (T.str x.text)]) = bcc (m ++ Bc.mk k (k + (1 : Int)) x.text :: rest) by simp)
    let t15 : Tp pr := .i (wrap_i64 (a := k + (1 : Int) + (1 : Int)) (by omega) (by omega))
    let t16 : Tp pr := .a (hmt (k + (1 : Int) + (1 : Int)) (by omega) (by omega))
    let t17 : Tp pr := .m (show (decide ((0 : Int) ≤ (↑m.length : Int) ∧ (↑m.length : Int).toNat < m.length + (x :: rest).length)) = true by simp)
    let t18 : Tp pr := .c (show ((0 : Nat) + (↑m.length : Int).toNat : Nat) = m.length by omega)
    let t19 : Tp pr := .m (show (decide ((bcc (m ++ Bc.mk k (k + (1 : Int)) x.text :: rest)).length = m.length + (x :: rest).length)) = true by simp)
    let t20 : Tp pr := .g .crow (show ((bcc (m ++ Bc.mk k (k + (1 : Int)) x.text :: rest))[m.length]?) = some ([C.t (T.int IntKind.i64 k), C.t (T.int IntKind.i64 (k + (1 : Int))), C.t (T.str x.text)]) by simp)
    let t21 : Tp pr := .n .crows (show ((bcc (m ++ Bc.mk k (k + (1 : Int)) x.text :: rest)).set m.length [C.t (T.int IntKind.i64 k), C.t (T.int IntKind.i64 (k + (1 : Int))), C.t (T.str (mt (k + (1 : Int) + (1 : Int))))]) = bcc (m ++ Bc.mk k (k + (1 : Int)) (mt (k + (1 : Int) + (1 : Int))) :: rest) by simp)
    let t22 : Tp pr := .i (wrap_i64 (a := k + (1 : Int) + (1 : Int) + (1 : Int)) (by omega) (by omega))
    let t23 : Tp pr := .i (wrap_i64 (a := (↑m.length : Int) + (1 : Int)) (by omega) (by omega))
    let t24 : Tp pr := .a (Ev.castq (((congrArg (fun x => Q.loop (lq pr (7 : FuncId) (0 : Nat)) (at_ [((0 : Nat), V.vec (0 : Nat) x (3 : Nat) (0 : Nat) x), ((1 : Nat), i64 (k + (1 : Int) + (1 : Int) + (1 : Int))), ((5 : Nat), i64 (↑(m ++ [Bc.mk k (k + (1 : Int)) (mt (k + (1 : Int) + (1 : Int)))]).length : Int))] [Ob.vec true (3 : Nat) (bcc (m ++ [Bc.mk k (k + (1 : Int)) (mt (k + (1 : Int) + (1 : Int)))] ++ rest))] (1 : Nat))) (show ((m ++ [Bc.mk k (k + (1 : Int)) (mt (k + (1 : Int) + (1 : Int)))]).length + rest.length) = (m.length + (x :: rest).length) by (simp [mark3] <;> omega))).trans (congrArg (fun x_1 => Q.loop (lq pr (7 : FuncId) (0 : Nat)) (at_ [((0 : Nat), V.vec (0 : Nat) (m.length + (x :: rest).length) (3 : Nat) (0 : Nat) (m.length + (x :: rest).length)), ((1 : Nat), i64 (k + (1 : Int) + (1 : Int) + (1 : Int))), ((5 : Nat), i64 x_1)] [Ob.vec true (3 : Nat) (bcc (m ++ [Bc.mk k (k + (1 : Int)) (mt (k + (1 : Int) + (1 : Int)))] ++ rest))] (1 : Nat))) (show ((↑(m ++ [Bc.mk k (k + (1 : Int)) (mt (k + (1 : Int) + (1 : Int)))]).length : Int)) = ((↑m.length : Int) + (1 : Int)) by (simp [mark3] <;> omega)))).trans (congrArg (fun x_1 => Q.loop (lq pr (7 : FuncId) (0 : Nat)) (at_ [((0 : Nat), V.vec (0 : Nat) (m.length + (x :: rest).length) (3 : Nat) (0 : Nat) (m.length + (x :: rest).length)), ((1 : Nat), i64 (k + (1 : Int) + (1 : Int) + (1 : Int))), ((5 : Nat), i64 ((↑m.length : Int) + (1 : Int)))] [Ob.vec true (3 : Nat) x_1] (1 : Nat))) (show (bcc (m ++ [Bc.mk k (k + (1 : Int)) (mt (k + (1 : Int) + (1 : Int)))] ++ rest)) = (bcc (m ++ Bc.mk k (k + (1 : Int)) (mt (k + (1 : Int) + (1 : Int))) :: rest)) by (simp [mark3] <;> omega)))) (ih))
    exact .tpe [t0, t1, t2, t3, t4, t5, t6, t7, t8, t9, t10, t11, t12, t13, t14, t15, t16, t17, t18, t19, t20, t21, t22, t23, t24] (Out.exit (0 : Nat) (at_ [((1 : Nat), V.t (T.int IntKind.i64 (k + (1 : Int) + (1 : Int) + (1 : Int) + (3 : Int) * (↑rest.length : Int))))] [Ob.vec true (3 : Nat) (bcc (m ++ [Bc.mk k (k + (1 : Int)) (mt (k + (1 : Int) + (1 : Int)))] ++ mark3 mt (k + (1 : Int) + (1 : Int) + (1 : Int)) rest.length))] (1 : Nat))) (by kernel_rfl) ((congrArg (fun x => Out.exit (0 : Nat) (at_ [((1 : Nat), V.t (T.int IntKind.i64 x))] [Ob.vec true (3 : Nat) (bcc (m ++ [Bc.mk k (k + (1 : Int)) (mt (k + (1 : Int) + (1 : Int)))] ++ mark3 mt (k + (1 : Int) + (1 : Int) + (1 : Int)) rest.length))] (1 : Nat))) (show (k + (1 : Int) + (1 : Int) + (1 : Int) + (3 : Int) * (↑rest.length : Int)) = (k + (3 : Int) * (↑(x :: rest).length : Int)) by (simp [mark3] <;> omega))).trans (congrArg (fun x_1 => Out.exit (0 : Nat) (at_ [((1 : Nat), V.t (T.int IntKind.i64 (k + (3 : Int) * (↑(x :: rest).length : Int))))] [Ob.vec true (3 : Nat) x_1] (1 : Nat))) (show (bcc (m ++ [Bc.mk k (k + (1 : Int)) (mt (k + (1 : Int) + (1 : Int)))] ++ mark3 mt (k + (1 : Int) + (1 : Int) + (1 : Int)) rest.length)) = (bcc (m ++ mark3 mt k (x :: rest).length)) by (simp [mark3] <;> omega))))
theorem markExS_ev (mt : Int → ByteArray) (hmt : ∀ k, 0 ≤ k → k ≤ 10000000000 → Ev pr (.call 20 [i64 k] []) (.val (.t (.str (mt k))) [])) (l : List Bc) (k : Int) (h0 : 0 ≤ k) (h : k + 3 * l.length ≤ 9000000) (h2 : l.length ≤ 1048576) : Ev pr (.call 7 [.vec 0 l.length 3 0 l.length, i64 k] [.vec true 3 (bcc l)]) (.val (i64 (k + 3 * l.length)) [.vec true 3 (bcc (mark3 mt k l.length))]) := by
  have := markExL_ev mt hmt l [] k h0 h (by simpa using h2)
  let t0 : Tp pr := .a (Ev.castq (congrArg (fun x => Q.loop (lq pr (7 : FuncId) (0 : Nat)) (at_ [((0 : Nat), V.vec (0 : Nat) x (3 : Nat) (0 : Nat) x), ((1 : Nat), i64 k), ((5 : Nat), i64 (↑(0 : Nat) : Int))] [Ob.vec true (3 : Nat) (bcc ([] ++ l))] (1 : Nat))) (show ((0 : Nat) + l.length) = (l.length) by simp)) (this))
  exact .tp [t0] (by kernel_rfl)
theorem eqEx2_ev (x : Ex) : Ev pr (.call 19 [vs x.ce, vs x.ce] []) (.val (bl true) []) := by
  let t0 : Tp pr := .b (show (x.kind != x.kind) = false by simp)
  let t1 : Tp pr := .b (show (x.num != x.num) = false by simp)
  let t2 : Tp pr := .b (show (!x.text.toList == x.text.toList) = false by simp)
  exact .tp [t0, t1, t2] (by kernel_rfl)
theorem eqExL2_ev : ∀ (rest m : List Ex), m.length + rest.length ≤ 1048576 → Ev pr (.loop (lq pr 6 0) (at_ [(0, exs (m ++ rest)), (1, exs (m ++ rest)), (5, i64 m.length)] [] 0)) (.exit 0 (at_ [] [] 0))
  | [], m, h => by
    let t0 : Tp pr := .i (show ((↑(List.map Ex.ce (m ++ [])).length : Int) : Int) = (↑m.length : Int) by simp)
    let t1 : Tp pr := .b (show (decide ((↑m.length : Int) < (↑m.length : Int))) = false by simp)
    exact .tp [t0, t1] (by kernel_rfl)
  | x :: rest, m, h => by
    simp at h
    have ih := eqExL2_ev rest (m ++ [x]) (by simp; omega)
    have hx := eqEx2_ev x
    let t0 : Tp pr := .i (show ((↑(List.map Ex.ce (m ++ x :: rest)).length : Int) : Int) = (↑m.length : Int) + ((↑rest.length : Int) + (1 : Int)) by simp)
    let t1 : Tp pr := .b (show (decide ((↑m.length : Int) < (↑m.length : Int) + ((↑rest.length : Int) + (1 : Int)))) = true by (simp; omega))
    let t4 : Tp pr := .g .row (show (lkp (List.map Ex.ce (m ++ x :: rest)) (↑m.length : Int)) = some (x.ce) by simp)
    let t9 : Tp pr := .g .row (show (lkp (List.map Ex.ce (m ++ x :: rest)) (↑m.length : Int)) = some (x.ce) by simp)
    let t16 : Tp pr := .i (wrap_i64 (a := (↑m.length : Int) + (1 : Int)) (by omega) (by omega))
    let t17 : Tp pr := .a (Ev.castq ((congrArg (fun x_1 => Q.loop (lq pr (6 : FuncId) (0 : Nat)) (at_ [((0 : Nat), V.t (T.seq (3 : Nat) x_1)), ((1 : Nat), V.t (T.seq (3 : Nat) x_1)), ((5 : Nat), V.t (T.int IntKind.i64 (↑(m ++ [x]).length : Int)))] [] (0 : Nat))) (show (List.map Ex.ce (m ++ [x] ++ rest)) = (List.map Ex.ce (m ++ x :: rest)) by simp)).trans (congrArg (fun x_1 => Q.loop (lq pr (6 : FuncId) (0 : Nat)) (at_ [((0 : Nat), V.t (T.seq (3 : Nat) (List.map Ex.ce (m ++ x :: rest)))), ((1 : Nat), V.t (T.seq (3 : Nat) (List.map Ex.ce (m ++ x :: rest)))), ((5 : Nat), V.t (T.int IntKind.i64 x_1))] [] (0 : Nat))) (show ((↑(m ++ [x]).length : Int)) = ((↑m.length : Int) + (1 : Int)) by simp))) (ih))
    exact .tp [t0, t1, .m (rfl : true = true), .m (rfl : true = true), t4, .m (rfl : true = true), .m (rfl : true = true), .m (rfl : true = true), .m (rfl : true = true), t9, .m (rfl : true = true), .m (rfl : true = true), .a (hx), .m (rfl : true = true), .m (rfl : true = true), .b (rfl : false = false), t16, t17] (by kernel_rfl)
theorem eqExS2_ev (l : List Ex) (h : l.length ≤ 1048576) : Ev pr (.call 6 [exs l, exs l] []) (.val (bl true) []) := by
  have := eqExL2_ev l [] (by simpa using h)
  let t0 : Tp pr := .i (show ((↑(List.map Ex.ce l).length : Int) : Int) = (↑l.length : Int) by simp)
  let t1 : Tp pr := .i (show ((↑(List.map Ex.ce l).length : Int) : Int) = (↑l.length : Int) by simp)
  let t2 : Tp pr := .b (show ((↑l.length : Int) != (↑l.length : Int)) = false by simp)
  exact .tp [t0, t1, t2, .a (this)] (by kernel_rfl)
theorem heldExL_ev (mt : Int → ByteArray) (hmt : ∀ k, 0 ≤ k → k ≤ 10000000000 → Ev pr (.call 20 [i64 k] []) (.val (.t (.str (mt k))) [])) : ∀ (n : Nat) (m : List Bc) (k : Int), 0 ≤ k → k + 3 * n ≤ 9000000 → m.length + n ≤ 1048576 →
    Ev pr (.loop (lq pr 8 0) (at_ [(0, bcs (m ++ mark3 mt k n)), (1, i64 k), (5, i64 m.length)] [] 0)) (.exit 0 (at_ [(1, i64 (k + 3 * n))] [] 0))
  | 0, m, k, h0, h1, h2 => by
    let t0 : Tp pr := .i (show ((↑(List.map Bc.ce (m ++ mark3 mt k (0 : Nat))).length : Int) : Int) = (↑m.length : Int) + (↑(mark3 mt k (0 : Nat)).length : Int) by simp)
    let t1 : Tp pr := .b (show (decide ((↑m.length : Int) < (↑m.length : Int) + (0 : Int))) = false by simp)
    exact .tpe [t0, t1] (Out.exit (0 : Nat) (at_ [((1 : Nat), V.t (T.int IntKind.i64 k))] [] (0 : Nat))) (by kernel_rfl) (congrArg (fun x => Out.exit (0 : Nat) (at_ [((1 : Nat), V.t (T.int IntKind.i64 x))] [] (0 : Nat))) (show (k) = (k + (0 : Int)) by simp [mark3]))
  | n + 1, m, k, h0, h1, h2 => by
    have ht := hmt (k + 1 + 1) (by omega) (by omega)
    have ih := heldExL_ev mt hmt n (m ++ [⟨k, k + 1, mt (k + 1 + 1)⟩]) (k + 1 + 1 + 1) (by omega) (by omega) (by simp; omega)
    have hm := mark3_len mt (k + 1 + 1 + 1) n
    rw [show mark3 mt k (n + 1) = ⟨k, k + 1, mt (k + 1 + 1)⟩ :: mark3 mt (k + 1 + 1 + 1) n from rfl]
    let t0 : Tp pr := .i (show ((↑(List.map Bc.ce (m ++ Bc.mk k (k + (1 : Int)) (mt (k + (1 : Int) + (1 : Int))) :: mark3 mt (k + (1 : Int) + (1 : Int) + (1 : Int)) n)).length : Int) : Int) = (↑m.length : Int) + ((↑(mark3 mt (k + (1 : Int) + (1 : Int) + (1 : Int)) n).length : Int) + (1 : Int)) by simp)
    let t1 : Tp pr := .b (show (decide ((↑m.length : Int) < (↑m.length : Int) + ((↑(mark3 mt (k + (1 : Int) + (1 : Int) + (1 : Int)) n).length : Int) + (1 : Int)))) = true by (simp; omega))
    let t2 : Tp pr := .g .row (show (lkp (List.map Bc.ce (m ++ Bc.mk k (k + (1 : Int)) (mt (k + (1 : Int) + (1 : Int))) :: mark3 mt (k + (1 : Int) + (1 : Int) + (1 : Int)) n)) (↑m.length : Int)) = some ((Bc.mk k (k + (1 : Int)) (mt (k + (1 : Int) + (1 : Int)))).ce) by simp)
    let t4 : Tp pr := .i (wrap_i64 (a := k + (1 : Int)) (by omega) (by omega))
    let t5 : Tp pr := .g .row (show (lkp (List.map Bc.ce (m ++ Bc.mk k (k + (1 : Int)) (mt (k + (1 : Int) + (1 : Int))) :: mark3 mt (k + (1 : Int) + (1 : Int) + (1 : Int)) n)) (↑m.length : Int)) = some ((Bc.mk k (k + (1 : Int)) (mt (k + (1 : Int) + (1 : Int)))).ce) by simp)
    let t6 : Tp pr := .b (show (k + (1 : Int) != k + (1 : Int)) = false by simp)
    let t7 : Tp pr := .i (wrap_i64 (a := k + (1 : Int) + (1 : Int)) (by omega) (by omega))
    let t10 : Tp pr := .g .row (show (lkp (List.map Bc.ce (m ++ Bc.mk k (k + (1 : Int)) (mt (k + (1 : Int) + (1 : Int))) :: mark3 mt (k + (1 : Int) + (1 : Int) + (1 : Int)) n)) (↑m.length : Int)) = some ((Bc.mk k (k + (1 : Int)) (mt (k + (1 : Int) + (1 : Int)))).ce) by simp)
    let t15 : Tp pr := .a (hmt (k + (1 : Int) + (1 : Int)) (by omega) (by omega))
    let t18 : Tp pr := .b (show (!(mt (k + (1 : Int) + (1 : Int))).toList == (mt (k + (1 : Int) + (1 : Int))).toList) = false by simp)
    let t19 : Tp pr := .i (wrap_i64 (a := k + (1 : Int) + (1 : Int) + (1 : Int)) (by omega) (by omega))
    let t20 : Tp pr := .i (wrap_i64 (a := (↑m.length : Int) + (1 : Int)) (by omega) (by omega))
    let t21 : Tp pr := .a (Ev.castq ((congrArg (fun x => Q.loop (lq pr (8 : FuncId) (0 : Nat)) (at_ [((0 : Nat), V.t (T.seq (3 : Nat) x)), ((1 : Nat), V.t (T.int IntKind.i64 (k + (1 : Int) + (1 : Int) + (1 : Int)))), ((5 : Nat), V.t (T.int IntKind.i64 (↑(m ++ [Bc.mk k (k + (1 : Int)) (mt (k + (1 : Int) + (1 : Int)))]).length : Int)))] [] (0 : Nat))) (show (List.map Bc.ce (m ++ [Bc.mk k (k + (1 : Int)) (mt (k + (1 : Int) + (1 : Int)))] ++ mark3 mt (k + (1 : Int) + (1 : Int) + (1 : Int)) n)) = (List.map Bc.ce (m ++ Bc.mk k (k + (1 : Int)) (mt (k + (1 : Int) + (1 : Int))) :: mark3 mt (k + (1 : Int) + (1 : Int) + (1 : Int)) n)) by (simp <;> omega))).trans (congrArg (fun x => Q.loop (lq pr (8 : FuncId) (0 : Nat)) (at_ [((0 : Nat), V.t (T.seq (3 : Nat) (List.map Bc.ce (m ++ Bc.mk k (k + (1 : Int)) (mt (k + (1 : Int) + (1 : Int))) :: mark3 mt (k + (1 : Int) + (1 : Int) + (1 : Int)) n)))), ((1 : Nat), V.t (T.int IntKind.i64 (k + (1 : Int) + (1 : Int) + (1 : Int)))), ((5 : Nat), V.t (T.int IntKind.i64 x))] [] (0 : Nat))) (show ((↑(m ++ [Bc.mk k (k + (1 : Int)) (mt (k + (1 : Int) + (1 : Int)))]).length : Int)) = ((↑m.length : Int) + (1 : Int)) by (simp <;> omega)))) (ih))
    exact .tpe [t0, t1, t2, .b (show (k != k) = false by simp), t4, t5, t6, t7, .m (rfl : true = true), .m (rfl : true = true), t10, .m (rfl : true = true), .m (rfl : true = true), .m (rfl : true = true), .m (rfl : true = true), t15, .m (rfl : true = true), .m (rfl : true = true), t18, t19, t20, t21] (Out.exit (0 : Nat) (at_ [((1 : Nat), V.t (T.int IntKind.i64 (k + (1 : Int) + (1 : Int) + (1 : Int) + (3 : Int) * (↑n : Int))))] [] (0 : Nat))) (by kernel_rfl) (congrArg (fun x => Out.exit (0 : Nat) (at_ [((1 : Nat), V.t (T.int IntKind.i64 x))] [] (0 : Nat))) (show (k + (1 : Int) + (1 : Int) + (1 : Int) + (3 : Int) * (↑n : Int)) = (k + (3 : Int) * (↑(n + (1 : Nat)) : Int)) by (simp <;> omega)))
theorem heldExS_ev (mt : Int → ByteArray) (hmt : ∀ k, 0 ≤ k → k ≤ 10000000000 → Ev pr (.call 20 [i64 k] []) (.val (.t (.str (mt k))) [])) (n : Nat) (k : Int) (h0 : 0 ≤ k) (h : k + 3 * n ≤ 9000000) (h2 : n ≤ 1048576) : Ev pr (.call 8 [bcs (mark3 mt k n), i64 k] []) (.val (i64 (k + 3 * n)) []) := by
  have := heldExL_ev mt hmt n [] k h0 h (by simpa using h2)
  exact .tp [.a (this)] (by kernel_rfl)
theorem eqExNL_ev : Ev pr (.loop (lq pr 6 0) (at_ [(0, .t .nils), (1, .t (.seq 3 [])), (5, i64 0)] [] 0)) (.exit 0 (at_ [] [] 0)) := by
  let t0 : Tp pr := .i (rfl : ((0 : Int) : Int) = (0 : Int))
  exact .tp [t0, .b (rfl : false = false)] (by kernel_rfl)
theorem eqExN_ev : Ev pr (.call 6 [.t .nils, .t (.seq 3 [])] []) (.val (bl true) []) := by
  let t0 : Tp pr := .i (rfl : ((0 : Int) : Int) = (0 : Int))
  let t1 : Tp pr := .i (rfl : ((0 : Int) : Int) = (0 : Int))
  exact .tp [t0, t1, .b (rfl : false = false), .a (eqExNL_ev)] (by kernel_rfl)
theorem markExNL_ev (k : Int) : Ev pr (.loop (lq pr 7 0) (at_ [(0, .t .nils), (1, i64 k), (5, i64 0)] [] 0)) (.exit 0 (at_ [(1, i64 k)] [] 0)) := by
  let t0 : Tp pr := .i (rfl : ((0 : Int) : Int) = (0 : Int))
  exact .tp [t0, .b (rfl : false = false)] (by kernel_rfl)
theorem markExN_ev (k : Int) : Ev pr (.call 7 [.t .nils, i64 k] []) (.val (i64 k) []) := by
  have := markExNL_ev k
  exact .tp [.a (this)] (by kernel_rfl)
theorem heldExNL_ev (k : Int) : Ev pr (.loop (lq pr 8 0) (at_ [(0, .t .nils), (1, i64 k), (5, i64 0)] [] 0)) (.exit 0 (at_ [(1, i64 k)] [] 0)) := by
  let t0 : Tp pr := .i (rfl : ((0 : Int) : Int) = (0 : Int))
  exact .tp [t0, .b (rfl : false = false)] (by kernel_rfl)
theorem heldExN_ev (k : Int) : Ev pr (.call 8 [.t .nils, i64 k] []) (.val (i64 k) []) := by
  have := heldExNL_ev k
  exact .tp [.a (this)] (by kernel_rfl)
theorem countN_ev : Ev pr (.call 16 [.t .nilp] []) (.val (i64 0) []) := by
  exact .tp [.b (rfl : true = true)] (by kernel_rfl)
theorem count_ev : ∀ (x : E), x.size ≤ 1000000 → Ev pr (.call 16 [.t x.tp] []) (.val (i64 x.size) [])
  | .num n, h => by
    have g := countN_ev
    rw [show (E.num n).tp = T.ptr [.int .i64 1, .int .i64 n, .str e0, .nilp, .nilp] 0 from rfl]
    let t7 : Tp pr := .i (rfl : ((1 : Int) : Int) = (1 : Int))
    let t15 : Tp pr := .i (rfl : ((1 : Int) : Int) = (1 : Int))
    exact .tp [.b (rfl : false = false), .m (rfl : true = true), .m (rfl : true = true), .m (rfl : true = true), .m (rfl : true = true), .a (g), .m (rfl : true = true), t7, .m (rfl : true = true), .m (rfl : true = true), .m (rfl : true = true), .m (rfl : true = true), .m (rfl : true = true), .a (g), .m (rfl : true = true), t15, .m (rfl : true = true), .m (rfl : true = true)] (by kernel_rfl)
  | .name s, h => by
    have g := countN_ev
    rw [show (E.name s).tp = T.ptr [.int .i64 2, .int .i64 0, .str s, .nilp, .nilp] 0 from rfl]
    let t7 : Tp pr := .i (rfl : ((1 : Int) : Int) = (1 : Int))
    let t15 : Tp pr := .i (rfl : ((1 : Int) : Int) = (1 : Int))
    exact .tp [.b (rfl : false = false), .m (rfl : true = true), .m (rfl : true = true), .m (rfl : true = true), .m (rfl : true = true), .a (g), .m (rfl : true = true), t7, .m (rfl : true = true), .m (rfl : true = true), .m (rfl : true = true), .m (rfl : true = true), .m (rfl : true = true), .a (g), .m (rfl : true = true), t15, .m (rfl : true = true), .m (rfl : true = true)] (by kernel_rfl)
  | .neg a, h => by
    have g := countN_ev
    have g2 := count_ev a (by simp only [E.size] at h; omega)
    simp only [E.size] at h
    rw [show (E.neg a).tp = T.ptr [.int .i64 3, .int .i64 0, .str e0, a.tp, .nilp] 0 from rfl]
    let t7 : Tp pr := .i (wrap_i64 (a := (1 : Int) + (↑a.size : Int)) (by omega) (by omega))
    let t15 : Tp pr := .i (wrap_i64 (a := (1 : Int) + (↑a.size : Int) + (0 : Int)) (by omega) (by omega))
    exact .tpe [.b (rfl : false = false), .m (rfl : true = true), .m (rfl : true = true), .m (rfl : true = true), .m (rfl : true = true), .a (g2), .m (rfl : true = true), t7, .m (rfl : true = true), .m (rfl : true = true), .m (rfl : true = true), .m (rfl : true = true), .m (rfl : true = true), .a (g), .m (rfl : true = true), t15, .m (rfl : true = true), .m (rfl : true = true)] (Out.val (V.t (T.int IntKind.i64 ((1 : Int) + (↑a.size : Int) + (0 : Int)))) []) (by kernel_rfl) (congrArg (fun x => Out.val (V.t (T.int IntKind.i64 x)) []) (show ((1 : Int) + (↑a.size : Int) + (0 : Int)) = ((↑a.neg.size : Int)) by (simp [E.size] <;> omega)))
  | .not a, h => by
    have g := countN_ev
    have g2 := count_ev a (by simp only [E.size] at h; omega)
    simp only [E.size] at h
    rw [show (E.not a).tp = T.ptr [.int .i64 4, .int .i64 0, .str e0, a.tp, .nilp] 0 from rfl]
    let t7 : Tp pr := .i (wrap_i64 (a := (1 : Int) + (↑a.size : Int)) (by omega) (by omega))
    let t15 : Tp pr := .i (wrap_i64 (a := (1 : Int) + (↑a.size : Int) + (0 : Int)) (by omega) (by omega))
    exact .tpe [.b (rfl : false = false), .m (rfl : true = true), .m (rfl : true = true), .m (rfl : true = true), .m (rfl : true = true), .a (g2), .m (rfl : true = true), t7, .m (rfl : true = true), .m (rfl : true = true), .m (rfl : true = true), .m (rfl : true = true), .m (rfl : true = true), .a (g), .m (rfl : true = true), t15, .m (rfl : true = true), .m (rfl : true = true)] (Out.val (V.t (T.int IntKind.i64 ((1 : Int) + (↑a.size : Int) + (0 : Int)))) []) (by kernel_rfl) (congrArg (fun x => Out.val (V.t (T.int IntKind.i64 x)) []) (show ((1 : Int) + (↑a.size : Int) + (0 : Int)) = ((↑a.not.size : Int)) by (simp [E.size] <;> omega)))
  | .two s a b, h => by
    have g1 := count_ev a (by simp only [E.size] at h; omega)
    have g2 := count_ev b (by simp only [E.size] at h; omega)
    simp only [E.size] at h
    rw [show (E.two s a b).tp = T.ptr [.int .i64 5, .int .i64 0, .str s, a.tp, b.tp] 0 from rfl]
    let t7 : Tp pr := .i (wrap_i64 (a := (1 : Int) + (↑a.size : Int)) (by omega) (by omega))
    let t15 : Tp pr := .i (wrap_i64 (a := (1 : Int) + (↑a.size : Int) + (↑b.size : Int)) (by omega) (by omega))
    exact .tpe [.b (rfl : false = false), .m (rfl : true = true), .m (rfl : true = true), .m (rfl : true = true), .m (rfl : true = true), .a (g1), .m (rfl : true = true), t7, .m (rfl : true = true), .m (rfl : true = true), .m (rfl : true = true), .m (rfl : true = true), .m (rfl : true = true), .a (g2), .m (rfl : true = true), t15, .m (rfl : true = true), .m (rfl : true = true)] (Out.val (V.t (T.int IntKind.i64 ((1 : Int) + (↑a.size : Int) + (↑b.size : Int)))) []) (by kernel_rfl) (congrArg (fun x => Out.val (V.t (T.int IntKind.i64 x)) []) (show ((1 : Int) + (↑a.size : Int) + (↑b.size : Int)) = ((↑(E.two s a b).size : Int)) by (simp [E.size] <;> omega)))
end Go.Ev

/- An expression out of a text, by the program. -/
namespace Go.Ev
set_option linter.unusedVariables false
set_option linter.unusedSimpArgs false
open Go.Proofs
set_option maxRecDepth 100000
set_option linter.unusedVariables false
set_option linter.unusedSimpArgs false
set_option maxHeartbeats 4000000
attribute [local simp] e0
theorem lexZ_ev (L : List UInt8) (hL : L.length ≤ 9223372036854775807) : Ev pr (.call 13 [.t (.str (bsOf L))] []) (.val (.tup [tks (lexZ L).out, i64 (lexZ L).place, bl (lexZ L).ok]) []) := by
  unfold lexZ
  by_cases c : L.length > 300
  · rw [if_pos c]
    exact lexL_ev L c hL
  · rw [if_neg c]
    exact lex_ev L (by omega)
@[local simp] theorem bcc_flatB (fl : Bool) (n : Nat) (l : List Bc) : Ob.flat (.vec fl n (bcc l)) = true := by simp [Ob.flat, bcc, Bc.cc, C.flat, T.flat]
def fnz (n : Int) (pl : Int) (ok : Bool) : Int := if ok = true then n else pl
theorem pi_bad (S : ByteArray) (n : Nat) (hn : n ≤ 1048576) (hsz : S.size = n) (toks : List Tk) (pl : Int) (ok : Bool) (a' p : Int)
    (g1 : Ev pr (.call 13 [.t (.str S)] []) (.val (.tup [tks toks, i64 pl, bl ok]) []))
    (g2 : Ev pr (.call 14 [.ptr 0 1 0 0, i64 0, i64 0] [rdB toks 0 (fnz n pl ok) n false 0]) (.val (.t .nilp) [rdB toks a' (fnz n pl ok) n true p])) :
    Ev pr (.call 5 [.t (.str S)] []) (.val (.tup [.t .nils, i64 p, bl false]) []) := by
  unfold rdB fnz at *
  cases ok
  · rw [if_neg (by simp)] at g2
    let t4 : Tp pr := .a (Ev.castq (congrArg (fun x => Q.call (14 : FuncId) [V.ptr (0 : Nat) (1 : Nat) (0 : Nat) (0 : Nat), i64 (0 : Int), i64 (0 : Int)] [Ob.box [tks toks, i64 (0 : Int), i64 pl, i64 x, bl false, i64 (0 : Int)]]) (show ((↑n : Int)) = ((↑S.size : Int)) by omega)) (g2))
    exact .tp [.a (g1), .i (rfl : ((↑S.size : Int)) = _), .i (rfl : ((↑S.size : Int)) = _), .b (rfl : true = true), t4, .b (rfl : false = false), .b (rfl : false = false), .b (rfl : false = false), .b (rfl : false = false), .b (rfl : true = true), .m (rfl : true = true), .m (rfl : true = true), .m (rfl : true = true), .m (rfl : true = true), .m (rfl : true = true)] (by kernel_rfl)
  · rw [if_pos rfl] at g2
    let t4 : Tp pr := .a (Ev.castq (congrArg (fun x => Q.call (14 : FuncId) [V.ptr (0 : Nat) (1 : Nat) (0 : Nat) (0 : Nat), i64 (0 : Int), i64 (0 : Int)] [Ob.box [tks toks, i64 (0 : Int), i64 x, i64 x, bl false, i64 (0 : Int)]]) (show ((↑n : Int)) = ((↑S.size : Int)) by omega)) (g2))
    exact .tp [.a (g1), .i (rfl : ((↑S.size : Int)) = _), .i (rfl : ((↑S.size : Int)) = _), .b (rfl : false = false), t4, .b (rfl : false = false), .b (rfl : false = false), .b (rfl : false = false), .b (rfl : false = false), .b (rfl : true = true), .m (rfl : true = true), .m (rfl : true = true), .m (rfl : true = true), .m (rfl : true = true), .m (rfl : true = true)] (by kernel_rfl)
theorem pi_left (S : ByteArray) (n : Nat) (hn : n ≤ 1048576) (hsz : S.size = n) (toks : List Tk) (hl : toks.length ≤ 1000) (pl : Int) (ok : Bool) (m : Nat) (x : E) (p : Int) (h : m < toks.length ∨ ok = false)
    (g1 : Ev pr (.call 13 [.t (.str S)] []) (.val (.tup [tks toks, i64 pl, bl ok]) []))
    (g2 : Ev pr (.call 14 [.ptr 0 1 0 0, i64 0, i64 0] [rdB toks 0 (fnz n pl ok) n false 0]) (.val (.t x.tp) [rdB toks m (fnz n pl ok) n false 0]))
    (g3 : Ev pr (.call 15 [.ptr 0 1 0 0] [rdB toks m (fnz n pl ok) n false 0]) (.val (.t .nilp) [rdB toks m (fnz n pl ok) n true p])) :
    Ev pr (.call 5 [.t (.str S)] []) (.val (.tup [.t .nils, i64 p, bl false]) []) := by
  unfold rdB fnz E.tp at *
  cases ok
  · rw [if_neg (by simp)] at g2 g3
    let t4 : Tp pr := .a (Ev.castq (congrArg (fun x => Q.call (14 : FuncId) [V.ptr (0 : Nat) (1 : Nat) (0 : Nat) (0 : Nat), i64 (0 : Int), i64 (0 : Int)] [Ob.box [tks toks, i64 (0 : Int), i64 pl, i64 x, bl false, i64 (0 : Int)]]) (show ((↑n : Int)) = ((↑S.size : Int)) by omega)) (g2))
    let t6 : Tp pr := .i (show ((↑(List.map Tk.ce toks).length : Int) : Int) = (↑toks.length : Int) by simp)
    by_cases hc7 : m < toks.length
    · let t7 : Tp pr := .b (show (decide ((↑m : Int) < (↑toks.length : Int))) = true by simpa using hc7)
      exact .tp [.a (g1), .i (rfl : ((↑S.size : Int)) = _), .i (rfl : ((↑S.size : Int)) = _), .b (rfl : true = true), t4, .b (rfl : true = true), t6, t7, .b (rfl : true = true), .a (g3), .b (rfl : false = false), .b (rfl : false = false), .b (rfl : true = true), .m (rfl : true = true), .m (rfl : true = true), .m (rfl : true = true), .m (rfl : true = true), .m (rfl : true = true)] (by kernel_rfl)
    · let t7 : Tp pr := .b (show (decide ((↑m : Int) < (↑toks.length : Int))) = false by simpa using hc7)
      exact .tp [.a (g1), .i (rfl : ((↑S.size : Int)) = _), .i (rfl : ((↑S.size : Int)) = _), .b (rfl : true = true), t4, .b (rfl : true = true), t6, t7, .b (rfl : true = true), .a (g3), .b (rfl : false = false), .b (rfl : false = false), .b (rfl : true = true), .m (rfl : true = true), .m (rfl : true = true), .m (rfl : true = true), .m (rfl : true = true), .m (rfl : true = true)] (by kernel_rfl)
  · rw [if_pos rfl] at g2 g3
    have h2 : m < toks.length := h.resolve_right (by simp)
    let t4 : Tp pr := .a (Ev.castq (congrArg (fun x => Q.call (14 : FuncId) [V.ptr (0 : Nat) (1 : Nat) (0 : Nat) (0 : Nat), i64 (0 : Int), i64 (0 : Int)] [Ob.box [tks toks, i64 (0 : Int), i64 x, i64 x, bl false, i64 (0 : Int)]]) (show ((↑n : Int)) = ((↑S.size : Int)) by omega)) (g2))
    let t6 : Tp pr := .i (show ((↑(List.map Tk.ce toks).length : Int) : Int) = (↑toks.length : Int) by simp)
    let t7 : Tp pr := .b (show (decide ((↑m : Int) < (↑toks.length : Int))) = true by (simp; omega))
    exact .tp [.a (g1), .i (rfl : ((↑S.size : Int)) = _), .i (rfl : ((↑S.size : Int)) = _), .b (rfl : false = false), t4, .b (rfl : true = true), t6, t7, .b (rfl : true = true), .a (g3), .b (rfl : false = false), .b (rfl : false = false), .b (rfl : true = true), .m (rfl : true = true), .m (rfl : true = true), .m (rfl : true = true), .m (rfl : true = true), .m (rfl : true = true)] (by kernel_rfl)
theorem pi_large (S : ByteArray) (n : Nat) (hn : n ≤ 1048576) (hsz : S.size = n) (toks : List Tk) (hl : toks.length ≤ 1000) (pl : Int) (x : E) (hx : x.size ≤ 1000000) (h : x.size > 40)
    (g1 : Ev pr (.call 13 [.t (.str S)] []) (.val (.tup [tks toks, i64 pl, bl true]) []))
    (g2 : Ev pr (.call 14 [.ptr 0 1 0 0, i64 0, i64 0] [rdB toks 0 n n false 0]) (.val (.t x.tp) [rdB toks toks.length n n false 0])) :
    Ev pr (.call 5 [.t (.str S)] []) (.val (.tup [.t .nils, i64 n, bl false]) []) := by
  subst hsz
  have g3 := count_ev x hx
  have g4 := rfail_ev toks toks.length S.size S.size S.size
  unfold rdB E.tp at *
  let t6 : Tp pr := .i (show ((↑(List.map Tk.ce toks).length : Int) : Int) = (↑toks.length : Int) by simp)
  let t7 : Tp pr := .b (show (decide ((↑toks.length : Int) < (↑toks.length : Int))) = false by simp)
  let t11 : Tp pr := .b (show (decide ((↑x.size : Int) > (40 : Int))) = true by (simp; omega))
  exact .tp [.a (g1), .i (rfl : ((↑S.size : Int)) = _), .i (rfl : ((↑S.size : Int)) = _), .b (rfl : false = false), .a (g2), .b (rfl : true = true), t6, t7, .b (rfl : false = false), .b (rfl : true = true), .a (g3), t11, .i (rfl : ((↑S.size : Int)) = _), .a (g4), .b (rfl : true = true), .m (rfl : true = true), .m (rfl : true = true), .m (rfl : true = true), .m (rfl : true = true), .m (rfl : true = true)] (by kernel_rfl)
theorem pi_ok (S : ByteArray) (n : Nat) (hn : n ≤ 1048576) (hsz : S.size = n) (toks : List Tk) (hl : toks.length ≤ 1000) (pl : Int) (x : E) (hx : x.size ≤ 40)
    (g1 : Ev pr (.call 13 [.t (.str S)] []) (.val (.tup [tks toks, i64 pl, bl true]) []))
    (g2 : Ev pr (.call 14 [.ptr 0 1 0 0, i64 0, i64 0] [rdB toks 0 n n false 0]) (.val (.t x.tp) [rdB toks toks.length n n false 0])) :
    Ev pr (.call 5 [.t (.str S)] []) (.val (.tup [.vec 0 (exb x.parts).length 3 0 (exb x.parts).length, i64 0, bl true]) [.vec true 3 (bcc (exb x.parts))]) := by
  have g3 := count_ev x (by omega)
  have g4 := partsN_ev x (by omega)
  unfold rdB E.tp at *
  generalize exb x.parts = P at *
  let t4 : Tp pr := .a (Ev.castq (congrArg (fun x => Q.call (14 : FuncId) [V.ptr (0 : Nat) (1 : Nat) (0 : Nat) (0 : Nat), i64 (0 : Int), i64 (0 : Int)] [Ob.box [tks toks, i64 (0 : Int), i64 x, i64 x, bl false, i64 (0 : Int)]]) (show ((↑n : Int)) = ((↑S.size : Int)) by omega)) (g2))
  let t6 : Tp pr := .i (show ((↑(List.map Tk.ce toks).length : Int) : Int) = (↑toks.length : Int) by simp)
  let t7 : Tp pr := .b (show (decide ((↑toks.length : Int) < (↑toks.length : Int))) = false by simp)
  let t11 : Tp pr := .b (show (decide ((↑x.size : Int) > (40 : Int))) = false by (simp; omega))
  exact .tp [.a (g1), .i (rfl : ((↑S.size : Int)) = _), .i (rfl : ((↑S.size : Int)) = _), .b (rfl : false = false), t4, .b (rfl : true = true), t6, t7, .b (rfl : false = false), .b (rfl : true = true), .a (g3), t11, .b (rfl : false = false), .a (g4)] (by kernel_rfl)
def pzI : Int ⊕ E → Out
  | .inl p => .val (.tup [.t .nils, i64 p, bl false]) []
  | .inr x => .val (.tup [.vec 0 (exb x.parts).length 3 0 (exb x.parts).length, i64 0, bl true]) [.vec true 3 (bcc (exb x.parts))]
theorem ParseI_ev (L : List UInt8) (hL : L.length ≤ 1048576) : Ev pr (.call 5 [.t (.str (bsOf L))] []) (pzI (parseT L)) := by
  have hsz : (bsOf L).size = L.length := bsOf_size L
  have g1 := lexZ_ev L (by omega)
  obtain ⟨b1, b2, b3, b4⟩ := lexZ_bd L
  have hf : finZ L = fnz L.length (lexZ L).place (lexZ L).ok := rfl
  obtain ⟨o, ho, g2⟩ := (rd_all (lexZ L).out (by omega) b2 (finZ L) L.length 1000).2.1 [] (lexZ L).out 0 0 rfl (by omega) (by omega)
  have sz := (parsed_size 1000).2.1 (finZ L) 0 (lexZ L).out 0
  rw [show ((([] : List Tk).length : Nat) : Int) = 0 from rfl, show ((0 : Nat) : Int) = 0 from rfl] at g2
  unfold parseT
  cases hr : readP 1000 (finZ L) 0 (lexZ L).out 0 with
  | bad p =>
    rw [hr] at ho
    obtain ⟨a', rfl⟩ := ho
    rw [hf] at g2
    exact pi_bad _ _ hL hsz _ _ _ a' p g1 g2
  | deep =>
    rw [hr] at ho
    obtain ⟨a', rfl⟩ := ho
    rw [hf] at g2
    exact pi_bad _ _ hL hsz _ _ _ a' _ g1 g2
  | ok x r =>
    rw [hr] at ho
    obtain ⟨dn, hd, rfl⟩ := ho
    have hx := sz x r hr
    dsimp only
    have hlen : (lexZ L).out.length = dn.length + r.length := by rw [hd]; simp
    by_cases c : r ≠ [] ∨ (lexZ L).ok = false
    · rw [if_pos c]
      have rf := refuse_ev dn r (by rw [← hd]; omega) (finZ L) L.length
      rw [← hd] at rf
      have c2 : dn.length < (lexZ L).out.length ∨ (lexZ L).ok = false := c.imp (fun h => by
        cases r with
        | nil => exact absurd rfl h
        | cons t q => simp at hlen; omega) id
      rw [hf] at g2 rf
      rw [hf]
      exact pi_left _ _ hL hsz _ (by omega) _ _ dn.length x _ c2 g1 g2 rf
    · rw [if_neg c]
      have c1 : r = [] := Decidable.byContradiction fun h => c (.inl h)
      have c2 : (lexZ L).ok = true := by
        cases h : (lexZ L).ok
        · exact absurd (.inr h) c
        · rfl
      subst c1
      have hdn : dn = (lexZ L).out := by rw [hd, List.append_nil]
      rw [hf, hdn, c2] at g2
      rw [c2] at g1
      by_cases c3 : x.size > 40
      · rw [if_pos c3]
        exact pi_large _ _ hL hsz _ (by omega) _ x (by omega) c3 g1 g2
      · rw [if_neg c3]
        exact pi_ok _ _ hL hsz _ (by omega) _ x (by omega) g1 g2
end Go.Ev

/- An expression out of a text, by the reference. -/
namespace Go.Ev
set_option linter.unusedVariables false
set_option linter.unusedSimpArgs false
open Go.Proofs
set_option maxRecDepth 100000
set_option linter.unusedVariables false
set_option linter.unusedSimpArgs false
set_option maxHeartbeats 4000000
attribute [local simp] e0
theorem ps_long (S : ByteArray) (hn : S.size > 300) : Ev pr (.call 4 [.t (.str S)] []) (.val (.tup [.t (.seq 3 []), i64 0, bl false]) []) := by
  let t1 : Tp pr := .b (show (decide ((↑S.size : Int) > (300 : Int))) = true by (simp; omega))
  exact .tp [.i (rfl : ((↑S.size : Int)) = _), t1] (by kernel_rfl)
theorem ps_bad1 (S : ByteArray) (hn : S.size ≤ 300) (toks : List Tk) (hl : toks.length ≤ 1000) (k n : Int) (s : ByteArray) (ks : List (List T)) (a b : Int) (hb : 0 ≤ b) (d : Bool)
    (g1 : Ev pr (.call 9 [.t (.str S)] []) (.val (.tup [tks toks, i64 0, bl true]) []))
    (g2 : Ev pr (.call 10 [.ptr 0 1 0 0, i64 1, i64 0] [sB toks 0 S.size (-1) false]) (.val (jk k n s ks) [sB toks a S.size b d])) :
    Ev pr (.call 4 [.t (.str S)] []) (.val (.tup [.t (.seq 3 []), i64 (if d = true then S.size else b), bl false]) []) := by
  unfold sB jk at *
  cases d
  · rw [if_neg (by simp)]
    let t1 : Tp pr := .b (show (decide ((↑S.size : Int) > (300 : Int))) = false by (simp; omega))
    let t6 : Tp pr := .b (show (decide (b < (0 : Int))) = false by (simp; omega))
    let t9 : Tp pr := .b (show (decide (b ≥ (0 : Int))) = true by (simp; omega))
    exact .tp [.i (rfl : ((↑S.size : Int)) = _), t1, .a (g1), .i (rfl : ((↑S.size : Int)) = _), .b (rfl : false = false), .a (g2), t6, .b (rfl : false = false), .b (rfl : false = false), t9, .m (rfl : true = true), .m (rfl : true = true), .m (rfl : true = true), .m (rfl : true = true), .m (rfl : true = true), .m (rfl : true = true), .m (rfl : true = true)] (by kernel_rfl)
  · rw [if_pos rfl]
    let t1 : Tp pr := .b (show (decide ((↑S.size : Int) > (300 : Int))) = false by (simp; omega))
    let t6 : Tp pr := .b (show (decide (b < (0 : Int))) = false by (simp; omega))
    exact .tp [.i (rfl : ((↑S.size : Int)) = _), t1, .a (g1), .i (rfl : ((↑S.size : Int)) = _), .b (rfl : false = false), .a (g2), t6, .b (rfl : false = false), .b (rfl : true = true), .i (rfl : ((↑S.size : Int)) = _)] (by kernel_rfl)
theorem ps_bad2 (S : ByteArray) (hn : S.size ≤ 300) (toks : List Tk) (hl : toks.length ≤ 1000) (k n : Int) (s : ByteArray) (ks : List (List T)) (a b : Int) (hb : 0 ≤ b) (d : Bool)
    (pl : Int) (hp : 0 ≤ pl ∧ pl ≤ S.size)
    (g1 : Ev pr (.call 9 [.t (.str S)] []) (.val (.tup [tks [], i64 pl, bl false]) []))
    (g3 : Ev pr (.call 9 [.t (.str (S.extract 0 pl.toNat))] []) (.val (.tup [tks toks, i64 0, bl true]) []))
    (g2 : Ev pr (.call 10 [.ptr 0 1 0 0, i64 1, i64 0] [sB toks 0 pl (-1) false]) (.val (jk k n s ks) [sB toks a pl b d])) :
    Ev pr (.call 4 [.t (.str S)] []) (.val (.tup [.t (.seq 3 []), i64 (if d = true then S.size else b), bl false]) []) := by
  unfold sB jk at *
  cases d
  · rw [if_neg (by simp)]
    let t1 : Tp pr := .b (show (decide ((↑S.size : Int) > (300 : Int))) = false by (simp; omega))
    let t5 : Tp pr := .m (show (decide ((0 : Int) ≤ (0 : Int) ∧ (0 : Int) ≤ pl ∧ pl ≤ (↑S.size : Int))) = true by simp [*])
    let t6 : Tp pr := .n .str (rfl : (S.extract (0 : Nat) pl.toNat) = _)
    let t9 : Tp pr := .b (show (decide (b < (0 : Int))) = false by (simp; omega))
    let t12 : Tp pr := .b (show (decide (b ≥ (0 : Int))) = true by (simp; omega))
    exact .tp [.i (rfl : ((↑S.size : Int)) = _), t1, .a (g1), .i (rfl : ((↑S.size : Int)) = _), .b (rfl : true = true), t5, t6, .a (g3), .a (g2), t9, .b (rfl : false = false), .b (rfl : false = false), t12, .m (rfl : true = true), .m (rfl : true = true), .m (rfl : true = true), .m (rfl : true = true), .m (rfl : true = true), .m (rfl : true = true), .m (rfl : true = true)] (by kernel_rfl)
  · rw [if_pos rfl]
    let t1 : Tp pr := .b (show (decide ((↑S.size : Int) > (300 : Int))) = false by (simp; omega))
    let t5 : Tp pr := .m (show (decide ((0 : Int) ≤ (0 : Int) ∧ (0 : Int) ≤ pl ∧ pl ≤ (↑S.size : Int))) = true by simp [*])
    let t6 : Tp pr := .n .str (rfl : (S.extract (0 : Nat) pl.toNat) = _)
    let t9 : Tp pr := .b (show (decide (b < (0 : Int))) = false by (simp; omega))
    exact .tp [.i (rfl : ((↑S.size : Int)) = _), t1, .a (g1), .i (rfl : ((↑S.size : Int)) = _), .b (rfl : true = true), t5, t6, .a (g3), .a (g2), t9, .b (rfl : false = false), .b (rfl : true = true), .i (rfl : ((↑S.size : Int)) = _)] (by kernel_rfl)
theorem ps_left1 (S : ByteArray) (hn : S.size ≤ 300) (toks : List Tk) (hl : toks.length ≤ 1000) (k n : Int) (s : ByteArray) (ks : List (List T)) (m : Nat) (hm : m < toks.length) (p : Int) (hp : 0 ≤ p)
    (g1 : Ev pr (.call 9 [.t (.str S)] []) (.val (.tup [tks toks, i64 0, bl true]) []))
    (g2 : Ev pr (.call 10 [.ptr 0 1 0 0, i64 1, i64 0] [sB toks 0 S.size (-1) false]) (.val (jk k n s ks) [sB toks m S.size (-1) false]))
    (g4 : Ev pr (.call 11 [.ptr 0 1 0 0] [sB toks m S.size (-1) false]) (.val (.tup []) [sB toks m S.size p false])) :
    Ev pr (.call 4 [.t (.str S)] []) (.val (.tup [.t (.seq 3 []), i64 p, bl false]) []) := by
  unfold sB jk at *
  let t1 : Tp pr := .b (show (decide ((↑S.size : Int) > (300 : Int))) = false by (simp; omega))
  let t7 : Tp pr := .i (show ((↑(List.map Tk.ce toks).length : Int) : Int) = (↑toks.length : Int) by simp)
  let t8 : Tp pr := .b (show (decide ((↑m : Int) < (↑toks.length : Int))) = true by (simp; omega))
  let t12 : Tp pr := .b (show (decide (p ≥ (0 : Int))) = true by (simp; omega))
  exact .tp [.i (rfl : ((↑S.size : Int)) = _), t1, .a (g1), .i (rfl : ((↑S.size : Int)) = _), .b (rfl : false = false), .a (g2), .b (rfl : true = true), t7, t8, .b (rfl : true = true), .a (g4), .b (rfl : false = false), t12, .m (rfl : true = true), .m (rfl : true = true), .m (rfl : true = true), .m (rfl : true = true), .m (rfl : true = true), .m (rfl : true = true), .m (rfl : true = true)] (by kernel_rfl)
theorem ps_left2 (S : ByteArray) (hn : S.size ≤ 300) (toks : List Tk) (hl : toks.length ≤ 1000) (k n : Int) (s : ByteArray) (ks : List (List T)) (m : Nat) (p : Int) (hp : 0 ≤ p)
    (pl : Int) (hp2 : 0 ≤ pl ∧ pl ≤ S.size)
    (g1 : Ev pr (.call 9 [.t (.str S)] []) (.val (.tup [tks [], i64 pl, bl false]) []))
    (g3 : Ev pr (.call 9 [.t (.str (S.extract 0 pl.toNat))] []) (.val (.tup [tks toks, i64 0, bl true]) []))
    (g2 : Ev pr (.call 10 [.ptr 0 1 0 0, i64 1, i64 0] [sB toks 0 pl (-1) false]) (.val (jk k n s ks) [sB toks m pl (-1) false]))
    (g4 : Ev pr (.call 11 [.ptr 0 1 0 0] [sB toks m pl (-1) false]) (.val (.tup []) [sB toks m pl p false])) :
    Ev pr (.call 4 [.t (.str S)] []) (.val (.tup [.t (.seq 3 []), i64 p, bl false]) []) := by
  unfold sB jk at *
  by_cases hm : (m : Int) < toks.length
  · let t1 : Tp pr := .b (show (decide ((↑S.size : Int) > (300 : Int))) = false by (simp; omega))
    let t5 : Tp pr := .m (show (decide ((0 : Int) ≤ (0 : Int) ∧ (0 : Int) ≤ pl ∧ pl ≤ (↑S.size : Int))) = true by simp [*])
    let t6 : Tp pr := .n .str (rfl : (S.extract (0 : Nat) pl.toNat) = _)
    let t10 : Tp pr := .i (show ((↑(List.map Tk.ce toks).length : Int) : Int) = (↑toks.length : Int) by simp)
    let t11 : Tp pr := .b (show (decide ((↑m : Int) < (↑toks.length : Int))) = true by (simp; omega))
    let t15 : Tp pr := .b (show (decide (p ≥ (0 : Int))) = true by (simp; omega))
    exact .tp [.i (rfl : ((↑S.size : Int)) = _), t1, .a (g1), .i (rfl : ((↑S.size : Int)) = _), .b (rfl : true = true), t5, t6, .a (g3), .a (g2), .b (rfl : true = true), t10, t11, .b (rfl : true = true), .a (g4), .b (rfl : false = false), t15, .m (rfl : true = true), .m (rfl : true = true), .m (rfl : true = true), .m (rfl : true = true), .m (rfl : true = true), .m (rfl : true = true), .m (rfl : true = true)] (by kernel_rfl)
  · let t1 : Tp pr := .b (show (decide ((↑S.size : Int) > (300 : Int))) = false by (simp; omega))
    let t5 : Tp pr := .m (show (decide ((0 : Int) ≤ (0 : Int) ∧ (0 : Int) ≤ pl ∧ pl ≤ (↑S.size : Int))) = true by simp [*])
    let t6 : Tp pr := .n .str (rfl : (S.extract (0 : Nat) pl.toNat) = _)
    let t10 : Tp pr := .i (show ((↑(List.map Tk.ce toks).length : Int) : Int) = (↑toks.length : Int) by simp)
    let t11 : Tp pr := .b (show (decide ((↑m : Int) < (↑toks.length : Int))) = false by (simp; omega))
    let t15 : Tp pr := .b (show (decide (p ≥ (0 : Int))) = true by (simp; omega))
    exact .tp [.i (rfl : ((↑S.size : Int)) = _), t1, .a (g1), .i (rfl : ((↑S.size : Int)) = _), .b (rfl : true = true), t5, t6, .a (g3), .a (g2), .b (rfl : true = true), t10, t11, .b (rfl : true = true), .a (g4), .b (rfl : false = false), t15, .m (rfl : true = true), .m (rfl : true = true), .m (rfl : true = true), .m (rfl : true = true), .m (rfl : true = true), .m (rfl : true = true), .m (rfl : true = true)] (by kernel_rfl)
theorem ps_large (S : ByteArray) (hn : S.size ≤ 300) (toks : List Tk) (hl : toks.length ≤ 1000) (x : E) (hx : (exb x.parts).length ≤ 1000000) (h : (exb x.parts).length > 40)
    (g1 : Ev pr (.call 9 [.t (.str S)] []) (.val (.tup [tks toks, i64 0, bl true]) []))
    (g2 : Ev pr (.call 10 [.ptr 0 1 0 0, i64 1, i64 0] [sB toks 0 S.size (-1) false]) (.val (jk x.kind x.nm x.text x.kids) [sB toks toks.length S.size (-1) false]))
    (g3 : Ev pr (.call 12 [vs x.ts, .t .nils] []) (.val (.vec 0 (exb x.parts).length 3 0 (exb x.parts).length) [.vec true 3 (bcc (exb x.parts))])) :
    Ev pr (.call 4 [.t (.str S)] []) (.val (.tup [.t (.seq 3 []), i64 S.size, bl false]) []) := by
  rw [← jk_ts] at g3
  unfold sB jk at *
  generalize exb x.parts = P at *
  generalize x.kind = K1 at *
  generalize x.nm = K2 at *
  generalize x.text = K3 at *
  generalize x.kids = K4 at *
  let t1 : Tp pr := .b (show (decide ((↑S.size : Int) > (300 : Int))) = false by (simp; omega))
  let t7 : Tp pr := .i (show ((↑(List.map Tk.ce toks).length : Int) : Int) = (↑toks.length : Int) by simp)
  let t8 : Tp pr := .b (show (decide ((↑toks.length : Int) < (↑toks.length : Int))) = false by simp)
  let t14 : Tp pr := .b (show (decide ((↑P.length : Int) > (40 : Int))) = true by (simp; omega))
  exact .tp [.i (rfl : ((↑S.size : Int)) = _), t1, .a (g1), .i (rfl : ((↑S.size : Int)) = _), .b (rfl : false = false), .a (g2), .b (rfl : true = true), t7, t8, .b (rfl : false = false), .b (rfl : false = false), .b (rfl : false = false), .a (g3), .i (rfl : ((↑P.length : Int)) = _), t14, .i (rfl : ((↑S.size : Int)) = _)] (by kernel_rfl)
theorem ps_ok (S : ByteArray) (hn : S.size ≤ 300) (toks : List Tk) (hl : toks.length ≤ 1000) (x : E) (h : (exb x.parts).length ≤ 40)
    (g1 : Ev pr (.call 9 [.t (.str S)] []) (.val (.tup [tks toks, i64 0, bl true]) []))
    (g2 : Ev pr (.call 10 [.ptr 0 1 0 0, i64 1, i64 0] [sB toks 0 S.size (-1) false]) (.val (jk x.kind x.nm x.text x.kids) [sB toks toks.length S.size (-1) false]))
    (g3 : Ev pr (.call 12 [vs x.ts, .t .nils] []) (.val (.vec 0 (exb x.parts).length 3 0 (exb x.parts).length) [.vec true 3 (bcc (exb x.parts))])) :
    Ev pr (.call 4 [.t (.str S)] []) (.val (.tup [.t (.seq 3 ((exb x.parts).map Bc.ce)), i64 0, bl true]) []) := by
  rw [← jk_ts] at g3
  unfold sB jk at *
  generalize exb x.parts = P at *
  generalize x.kind = K1 at *
  generalize x.nm = K2 at *
  generalize x.text = K3 at *
  generalize x.kids = K4 at *
  let t1 : Tp pr := .b (show (decide ((↑S.size : Int) > (300 : Int))) = false by (simp; omega))
  let t7 : Tp pr := .i (show ((↑(List.map Tk.ce toks).length : Int) : Int) = (↑toks.length : Int) by simp)
  let t8 : Tp pr := .b (show (decide ((↑toks.length : Int) < (↑toks.length : Int))) = false by simp)
  let t14 : Tp pr := .b (show (decide ((↑P.length : Int) > (40 : Int))) = false by (simp; omega))
  let t15 : Tp pr := .m (show (decide ((bcc P).length = P.length ∧ (0 : Nat) + P.length ≤ P.length)) = true by simp)
  let t16 : Tp pr := .n .rows (show (List.map (fun x => List.map C.fz x) (List.take P.length (List.drop (0 : Nat) (bcc P)))) = List.map Bc.ce P by simp)
  exact .tp [.i (rfl : ((↑S.size : Int)) = _), t1, .a (g1), .i (rfl : ((↑S.size : Int)) = _), .b (rfl : false = false), .a (g2), .b (rfl : true = true), t7, t8, .b (rfl : false = false), .b (rfl : false = false), .b (rfl : false = false), .a (g3), .i (rfl : ((↑P.length : Int)) = _), t14, t15, t16] (by kernel_rfl)
def pzS (L : List UInt8) : Int ⊕ E → Out
  | .inl p => .val (.tup [.t (.seq 3 []), i64 (if L.length > 300 then 0 else p), bl false]) []
  | .inr x => .val (.tup [.t (.seq 3 ((exb x.parts).map Bc.ce)), i64 0, bl true]) []
theorem parseT_long {L : List UInt8} (h : L.length > 300) : parseT L = .inl 0 := by
  unfold parseT
  have e : lexZ L = ⟨[], 0, false⟩ := if_pos h
  have ef : finZ L = 0 := by unfold finZ; rw [e]; rfl
  rw [e, ef]
  rfl
theorem ParseS_ev (L : List UInt8) : Ev pr (.call 4 [.t (.str (bsOf L))] []) (pzS L (parseT L)) := by
  have hsz : (bsOf L).size = L.length := bsOf_size L
  by_cases hlong : L.length > 300
  · rw [parseT_long hlong, pzS, if_pos hlong]
    exact ps_long _ (by omega)
  obtain ⟨b1, b2, b3, b4⟩ := lexZ_bd L
  have hz : lexZ L = lexP L := if_neg hlong
  have hbd := lexP_bd L
  have sz := (parsed_size 1000).2.1 (finZ L) 0 (lexZ L).out 0
  obtain ⟨o, ho, g2⟩ := (sp_all (lexZ L).out (by omega) b2 (finZ L) b4 b3 1000).2.1 [] (lexZ L).out 0 1 0 (.inr ⟨rfl, rfl⟩) rfl (by omega) (by omega)
  rw [show ((([] : List Tk).length : Nat) : Int) = 0 from rfl, show ((0 : Nat) : Int) = 0 from rfl] at g2
  have pl : ∀ p, pzS L (.inl p) = .val (.tup [.t (.seq 3 []), i64 p, bl false]) [] := fun p => by rw [pzS, if_neg hlong]
  unfold parseT
  cases hok : (lexP L).ok with
  | true =>
    have hf : finZ L = ((bsOf L).size : Int) := by unfold finZ; rw [hz, hok, hsz]; rfl
    have g1 := l1LexT_ev L (by omega) hok
    have hok' : (lexZ L).ok = true := by rw [hz]; exact hok
    rw [← hz] at g1
    cases hr : readP 1000 (finZ L) 0 (lexZ L).out 0 with
    | bad p =>
      rw [hr] at ho
      obtain ⟨k, n, s, ks, a', hb, rfl⟩ := ho
      rw [hf] at g2
      dsimp only
      rw [pl]
      exact ps_bad1 _ (by omega) _ (by omega) _ _ _ _ a' p hb false g1 g2
    | deep =>
      rw [hr] at ho
      obtain ⟨k, n, s, ks, a', b, hb, rfl⟩ := ho
      rw [hf] at g2
      dsimp only
      rw [pl, ← hsz]
      exact ps_bad1 _ (by omega) _ (by omega) _ _ _ _ a' b hb true g1 g2
    | ok x r =>
      rw [hr] at ho
      obtain ⟨dn, hd, rfl⟩ := ho
      have hx := sz x r hr
      have hlen : (lexZ L).out.length = dn.length + r.length := by rw [hd]; simp
      dsimp only
      rw [hok']
      have hnn := placeOf_nn (r := r) b4 fun t ht => b3 t (by rw [hd]; simp [ht])
      have hpx := parts_len x
      cases r with
      | cons t r =>
        rw [if_pos (.inl (by simp)), pl]
        have rf := sfail_ev dn (t :: r) (by rw [← hd]; omega) (finZ L) false
        rw [← hd] at rf
        rw [hf] at g2 rf hnn ⊢
        exact ps_left1 _ (by omega) _ (by omega) _ _ _ _ dn.length (by simp at hlen; omega) _ hnn g1 g2 rf
      | nil =>
        rw [if_neg (by simp)]
        have hdn : dn = (lexZ L).out := by rw [hd, List.append_nil]
        rw [hf, hdn] at g2
        have g3 := l2FlatN_ev x (by omega)
        by_cases c3 : x.size > 40
        · rw [if_pos c3, pl, ← hsz]
          exact ps_large _ (by omega) _ (by omega) x (by rw [exb_len]; omega) (by rw [exb_len]; omega) g1 g2 g3
        · rw [if_neg c3]
          exact ps_ok _ (by omega) _ (by omega) x (by rw [exb_len]; omega) g1 g2 g3
  | false =>
    have hf : finZ L = (lexP L).place := by unfold finZ; rw [hz, hok]; rfl
    have g1 := l1LexF_ev L (by omega) hok
    have hok' : (lexZ L).ok = false := by rw [hz]; exact hok
    have hc := lexP_cut L (by omega) hok
    have hp := hbd.2 hok
    have g3 := l1LexT_ev (L.take (lexP L).place.toNat) (by rw [List.length_take]; omega) (by rw [hc])
    rw [hc] at g3
    have ee : bsOf (L.take (lexP L).place.toNat) = (bsOf L).extract 0 (lexP L).place.toNat := by rw [bsOf_extract]; simp
    rw [ee] at g3
    have g3 : Ev pr (.call 9 [.t (.str ((bsOf L).extract 0 (lexP L).place.toNat))] []) (.val (.tup [tks (lexZ L).out, i64 0, bl true]) []) := by rw [hz]; exact g3
    rw [← hsz] at hp
    cases hr : readP 1000 (finZ L) 0 (lexZ L).out 0 with
    | bad p =>
      rw [hr] at ho
      obtain ⟨k, n, s, ks, a', hb, rfl⟩ := ho
      rw [hf] at g2
      dsimp only
      rw [pl]
      exact ps_bad2 _ (by omega) _ (by omega) _ _ _ _ a' p hb false _ hp g1 g3 g2
    | deep =>
      rw [hr] at ho
      obtain ⟨k, n, s, ks, a', b, hb, rfl⟩ := ho
      rw [hf] at g2
      dsimp only
      rw [pl, ← hsz]
      exact ps_bad2 _ (by omega) _ (by omega) _ _ _ _ a' b hb true _ hp g1 g3 g2
    | ok x r =>
      rw [hr] at ho
      obtain ⟨dn, hd, rfl⟩ := ho
      dsimp only
      rw [hok', if_pos (.inr rfl), pl]
      have hnn := placeOf_nn (r := r) b4 fun t ht => b3 t (by rw [hd]; simp [ht])
      have rf := sfail_ev dn r (by rw [← hd]; omega) (finZ L) false
      rw [← hd] at rf
      rw [hf] at g2 rf hnn ⊢
      exact ps_left2 _ (by omega) _ (by omega) _ _ _ _ dn.length _ hnn _ hp g1 g3 g2 rf
end Go.Ev

/- The law: the program's ParseExpr returns what the reference's returns. -/
namespace Go.Ev
set_option linter.unusedVariables false
set_option linter.unusedSimpArgs false
open Go.Proofs
set_option maxRecDepth 100000
set_option linter.unusedVariables false
set_option linter.unusedSimpArgs false
set_option maxHeartbeats 4000000
attribute [local simp] e0
theorem parseT_size {L : List UInt8} {x : E} (h : parseT L = .inr x) : x.size ≤ 40 := by
  unfold parseT at h
  split at h
  · cases h
  · cases h
  · split at h
    · cases h
    · split at h
      · cases h
      · rename_i c
        obtain rfl := Sum.inr.inj h
        omega
@[simp] theorem mark3_take (mt : Int → ByteArray) (k : Int) (n : Nat) : List.take n (List.map Bc.ce (mark3 mt k n)) = List.map Bc.ce (mark3 mt k n) := List.take_of_length_le (by simp [mark3_len])
theorem lw_long (S : ByteArray) (h : S.size > 1048576) : Ev pr (.call 3 [.t (.str S)] []) (.val (bl true) []) := by
  let t1 : Tp pr := .b (show (decide ((↑S.size : Int) > (1048576 : Int))) = true by (simp; omega))
  exact .tp [.i (rfl : ((↑S.size : Int)) = _), t1] (by kernel_rfl)
theorem lw_bad (S : ByteArray) (h : S.size ≤ 1048576) (p : Int)
    (h2 : Ev pr (.call 4 [.t (.str S)] []) (.val (.tup [.t (.seq 3 []), i64 p, bl false]) []))
    (h3 : Ev pr (.call 5 [.t (.str S)] []) (.val (.tup [.t .nils, i64 p, bl false]) [])) : Ev pr (.call 3 [.t (.str S)] []) (.val (bl true) []) := by
  have h6 := eqExN_ev
  have h7 := markExN_ev 1
  have h8 := heldExN_ev 1
  let t1 : Tp pr := .b (show (decide ((↑S.size : Int) > (1048576 : Int))) = false by (simp; omega))
  exact .tp [.i (rfl : ((↑S.size : Int)) = _), t1, .a (h2), .a (h3), .a (h6), .b (rfl : false = false), .b (show (p != p) = false by simp), .b (rfl : false = false), .a (h7), .a (h8), .b (rfl : false = false), .b (rfl : false = false), .a (h3), .a (h6), .b (rfl : false = false), .b (show (p != p) = false by simp), .b (rfl : false = false), .a (h8), .b (rfl : false = false), .b (rfl : false = false)] (by kernel_rfl)
theorem lw_ok (S : ByteArray) (h : S.size ≤ 1048576) (c : List Ex) (hc : c.length ≤ 40)
    (h2 : Ev pr (.call 4 [.t (.str S)] []) (.val (.tup [.t (.seq 3 ((exb c).map Bc.ce)), i64 0, bl true]) []))
    (h3 : Ev pr (.call 5 [.t (.str S)] []) (.val (.tup [.vec 0 (exb c).length 3 0 (exb c).length, i64 0, bl true]) [.vec true 3 (bcc (exb c))])) : Ev pr (.call 3 [.t (.str S)] []) (.val (bl true) []) := by
  have h6 := eqExS2_ev c (by omega)
  have h7 := markExS_ev mText markText_ev (exb c) 1 (by omega) (by simp; omega) (by simp; omega)
  have h8 := heldExS_ev mText markText_ev c.length 1 (by omega) (by omega) (by omega)
  have h9 := mark3_len mText 1 c.length
  simp only [exb_ce] at h2
  let t1 : Tp pr := .b (show (decide ((↑S.size : Int) > (1048576 : Int))) = false by (simp; omega))
  let t4 : Tp pr := .m (show (decide ((bcc (exb c)).length = (exb c).length ∧ (0 : Nat) + (exb c).length ≤ (exb c).length)) = true by simp)
  let t5 : Tp pr := .n .rows (show (List.map (fun x => List.map C.fz x) (List.take (exb c).length (List.drop (0 : Nat) (bcc (exb c))))) = List.map Ex.ce c by simp)
  let t12 : Tp pr := .m (show (decide ((bcc (mark3 mText (1 : Int) (exb c).length)).length = (exb c).length ∧ (0 : Nat) + (exb c).length ≤ (exb c).length)) = true by simp [*])
  let t13 : Tp pr := .n .rows (show (List.map (fun x => List.map C.fz x) (List.take (exb c).length (List.drop (0 : Nat) (bcc (mark3 mText (1 : Int) (exb c).length))))) = List.map Bc.ce (mark3 mText (1 : Int) c.length) by simp)
  let t17 : Tp pr := .b (show ((1 : Int) + (3 : Int) * (↑c.length : Int) != (1 : Int) + (3 : Int) * (↑(exb c).length : Int)) = false by simp)
  let t19 : Tp pr := .m (show (decide ((bcc (exb c)).length = (exb c).length ∧ (0 : Nat) + (exb c).length ≤ (exb c).length)) = true by simp)
  let t20 : Tp pr := .n .rows (show (List.map (fun x => List.map C.fz x) (List.take (exb c).length (List.drop (0 : Nat) (bcc (exb c))))) = List.map Ex.ce c by simp)
  let t26 : Tp pr := .m (show (decide ((bcc (mark3 mText (1 : Int) (exb c).length)).length = (exb c).length ∧ (0 : Nat) + (exb c).length ≤ (exb c).length)) = true by simp [*])
  let t27 : Tp pr := .n .rows (show (List.map (fun x => List.map C.fz x) (List.take (exb c).length (List.drop (0 : Nat) (bcc (mark3 mText (1 : Int) (exb c).length))))) = List.map Bc.ce (mark3 mText (1 : Int) c.length) by simp)
  let t31 : Tp pr := .b (show ((1 : Int) + (3 : Int) * (↑c.length : Int) != (1 : Int) + (3 : Int) * (↑(exb c).length : Int)) = false by simp)
  exact .tp [.i (rfl : ((↑S.size : Int)) = _), t1, .a (h2), .a (h3), t4, t5, .a (h6), .m (rfl : true = true), .b (rfl : false = false), .b (rfl : false = false), .b (rfl : false = false), .a (h7), t12, t13, .a (h8), .m (rfl : true = true), .b (rfl : false = false), t17, .a (h3), t19, t20, .a (h6), .m (rfl : true = true), .b (rfl : false = false), .b (rfl : false = false), .b (rfl : false = false), t26, t27, .a (h8), .m (rfl : true = true), .b (rfl : false = false), t31] (by kernel_rfl)
theorem law0_ev (L : List UInt8) : Ev pr (.call 3 [.t (.str (bsOf L))] []) (.val (bl true) []) := by
  have hsz : (bsOf L).size = L.length := bsOf_size L
  by_cases hl : L.length > 1048576
  · exact lw_long _ (by omega)
  · have h2 := ParseS_ev L
    have h3 := ParseI_ev L (by omega)
    cases hm : parseT L with
    | inl p =>
      have hp : (if L.length > 300 then (0 : Int) else p) = p := by
        by_cases c : L.length > 300
        · rw [parseT_long c] at hm
          rw [if_pos c]
          exact Sum.inl.inj hm
        · rw [if_neg c]
      rw [hm] at h2 h3
      rw [pzS, hp] at h2
      rw [pzI] at h3
      exact lw_bad _ (by omega) p h2 h3
    | inr x =>
      rw [hm] at h2 h3
      rw [pzS] at h2
      rw [pzI] at h3
      have hc := parseT_size hm
      have hcl := parts_len x
      exact lw_ok _ (by omega) x.parts (by omega) h2 h3
theorem prim_none : PrimOk pr := fun f p h => by cases h
theorem law_ev (S : ByteArray) (h : S.size ≤ 9223372036854775807) : Ev pr (.call 3 [.t (.str S)] []) (.val (.t (.bool true)) []) := by
  rw [← bsOf_back S]
  exact law0_ev _
end Go.Ev
