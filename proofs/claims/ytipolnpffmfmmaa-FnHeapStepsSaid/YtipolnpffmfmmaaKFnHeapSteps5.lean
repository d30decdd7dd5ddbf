import Derived.Test.YtipolnpffmfmmaaKFnHeapSteps4
/- Copies of heaps: the copier. -/
namespace Go.Ev
set_option linter.unusedVariables false
set_option linter.unusedSimpArgs false
open Go.Proofs
set_option maxRecDepth 100000
set_option linter.unusedVariables false
set_option maxHeartbeats 4000000
@[local simp] theorem ints_takeC (l : List Int) : List.take l.length (ints l) = ints l := List.take_of_length_le (by simp)
def cpObs (h : Hp) (N : Nat) (l : List Int) : List Ob := [.box [.ptr 1 1 0 0, .vec 2 l.length 1 0 l.length, .vec 3 N 1 0 N], .box [osq h.objects, isq h.roots], .vec true 1 (ints l), .vec true 1 (ints (namesOf N l))]
theorem name_ev (h : Hp) (N : Nat) (hN : N ≤ 40) (l : List Int) (hl : l.length ≤ 1000) (h0 : ∀ x ∈ l, 0 ≤ x) (k : Int) (hk : k < N) :
    Ev pr (.call 110 [.ptr 0 1 0 0, i64 k] (cpObs h N l)) (.val (i64 (newOf (push l k) k)) (cpObs h N (push l k))) := by
  unfold push
  by_cases hneg : k < 0
  · rw [if_pos hneg, newOf_out (neg_not_mem hneg h0)]
    let t0 : Tp pr := .b (show (decide (k < (0 : Int))) = true by (simp; omega))
    exact .tp [t0] (by kernel_rfl)
  · rw [if_neg hneg]
    obtain ⟨n, rfl⟩ : ∃ n : Nat, k = n := ⟨k.toNat, by omega⟩
    have hn : n < N := by omega
    have g := ints_get (l := namesOf N l) (k := n) (by simpa using hn)
    rw [namesOf_getD hn] at g
    by_cases hm : (n : Int) ∈ l
    · have hc : l.contains (n : Int) = true := by simpa using hm
      rw [if_pos hc]
      have hp := newOf_in hm
      let t1 : Tp pr := .m (show (decide ((0 : Int) ≤ (↑n : Int) ∧ (↑n : Int).toNat < N)) = true by simp [*])
      let t2 : Tp pr := .c (show ((0 : Nat) + (↑n : Int).toNat : Nat) = n by omega)
      let t3 : Tp pr := .m (show (decide ((ints (namesOf N l)).length = N)) = true by simp)
      let t4 : Tp pr := .g .crow (show ((ints (namesOf N l))[n]?) = some (intc (newOf l (↑n : Int))) from g)
      let t5 : Tp pr := .b (show (decide (newOf l (↑n : Int) < (0 : Int))) = false by (simp; omega))
      let t6 : Tp pr := .m (show (decide ((0 : Int) ≤ (↑n : Int) ∧ (↑n : Int).toNat < N)) = true by simp [*])
      let t7 : Tp pr := .c (show ((0 : Nat) + (↑n : Int).toNat : Nat) = n by omega)
      let t8 : Tp pr := .m (show (decide ((ints (namesOf N l)).length = N)) = true by simp)
      let t9 : Tp pr := .g .crow (show ((ints (namesOf N l))[n]?) = some (intc (newOf l (↑n : Int))) from g)
      exact .tp [.b (rfl : false = false), t1, t2, t3, t4, t5, t6, t7, t8, t9] (by kernel_rfl)
    · have hc : ¬ l.contains (n : Int) = true := by simpa using hm
      rw [if_neg hc]
      have hp := newOf_out hm
      rw [hp] at g
      rw [newOf_snoc hm]
      have hs := namesOf_set hn hm
      have g2 := ints_get (l := namesOf N (l ++ [(n : Int)])) (k := n) (by simpa using hn)
      rw [namesOf_getD hn, newOf_snoc hm, ← hs] at g2
      let t1 : Tp pr := .m (show (decide ((0 : Int) ≤ (↑n : Int) ∧ (↑n : Int).toNat < N)) = true by simp [*])
      let t2 : Tp pr := .c (show ((0 : Nat) + (↑n : Int).toNat : Nat) = n by omega)
      let t3 : Tp pr := .m (show (decide ((ints (namesOf N l)).length = N)) = true by simp)
      let t4 : Tp pr := .g .crow (show ((ints (namesOf N l))[n]?) = some (intc (-1 : Int)) from g)
      let t17 : Tp pr := .m (show (decide ((0 : Int) ≤ (↑n : Int) ∧ (↑n : Int).toNat < N)) = true by simp [*])
      let t18 : Tp pr := .c (show ((0 : Nat) + (↑n : Int).toNat : Nat) = n by omega)
      let t20 : Tp pr := .m (show (decide ((ints (namesOf N l)).length = N)) = true by simp)
      let t21 : Tp pr := .g .crow (show ((ints (namesOf N l))[n]?) = some (intc (-1 : Int)) from g)
      let t22 : Tp pr := .n .crows (show ((ints (namesOf N l)).set n [C.t (T.int IntKind.i64 (↑l.length : Int))]) = ints ((namesOf N l).set n (↑l.length : Int)) by simp)
      let t25 : Tp pr := .m (show (decide ((ints l).length = l.length ∧ (0 : Nat) + l.length ≤ l.length ∧ l.length + (1 : Nat) ≤ (4294967296 : Nat))) = true by (simp; omega))
      let t26 : Tp pr := .b (show (decide (l.length + (1 : Nat) ≤ l.length)) = false by simp)
      let t28 : Tp pr := .n .crows (show ((List.take l.length (ints l)).append (List.take (1 : Nat) (List.drop (0 : Nat) [[C.t (T.int IntKind.i64 (↑n : Int))]]))) = ints l ++ [[C.t (T.int IntKind.i64 (↑n : Int))]] by simp)
      let t29 : Tp pr := .m (show (decide ((0 : Int) ≤ (↑n : Int) ∧ (↑n : Int).toNat < N)) = true by simp [*])
      let t30 : Tp pr := .c (show ((0 : Nat) + (↑n : Int).toNat : Nat) = n by omega)
      let t31 : Tp pr := .m (show (decide ((ints ((namesOf N l).set n (↑l.length : Int))).length = N)) = true by simp)
      let t32 : Tp pr := .g .crow (show ((ints ((namesOf N l).set n (↑l.length : Int)))[n]?) = some (intc (↑l.length : Int)) from g2)
      exact .tpe [.b (rfl : false = false), t1, t2, t3, t4, .b (rfl : true = true), .m (rfl : true = true), .m (rfl : true = true), .m (rfl : true = true), .m (rfl : true = true), .m (rfl : true = true), .m (rfl : true = true), .m (rfl : true = true), .m (rfl : true = true), .m (rfl : true = true), .i (rfl : ((↑l.length : Int)) = _), .m (rfl : true = true), t17, t18, .m (rfl : true = true), t20, t21, t22, .m (rfl : true = true), .m (rfl : true = true), t25, t26, .c (rfl : (l.length + (1 : Nat)) = _), t28, t29, t30, t31, t32] (Out.val (V.t (T.int IntKind.i64 (↑l.length : Int))) [Ob.box [V.ptr (1 : Nat) (1 : Nat) (0 : Nat) (0 : Nat), V.vec (2 : Nat) (l.length + (1 : Nat)) (1 : Nat) (0 : Nat) (l.length + (1 : Nat)), V.vec (3 : Nat) N (1 : Nat) (0 : Nat) N], Ob.box [V.t (T.seq (2 : Nat) (List.map Obj.ce h.objects)), V.t (T.seq (1 : Nat) (List.map intt h.roots))], Ob.vec true (1 : Nat) ((ints l).append [[C.t (T.int IntKind.i64 (↑n : Int))]]), Ob.vec true (1 : Nat) (ints ((namesOf N l).set n (↑l.length : Int)))]) (by kernel_rfl) ((((congrArg (fun x => Out.val (V.t (T.int IntKind.i64 (↑l.length : Int))) [Ob.box [V.ptr (1 : Nat) (1 : Nat) (0 : Nat) (0 : Nat), V.vec (2 : Nat) x (1 : Nat) (0 : Nat) (l.length + (1 : Nat)), V.vec (3 : Nat) N (1 : Nat) (0 : Nat) N], Ob.box [V.t (T.seq (2 : Nat) (List.map Obj.ce h.objects)), V.t (T.seq (1 : Nat) (List.map intt h.roots))], Ob.vec true (1 : Nat) ((ints l).append [[C.t (T.int IntKind.i64 (↑n : Int))]]), Ob.vec true (1 : Nat) (ints ((namesOf N l).set n (↑l.length : Int)))]) (show (l.length + (1 : Nat)) = ((l ++ [(↑n : Int)]).length) by simp [intc, ints_app, ints_cons, ← hs])).trans (congrArg (fun x => Out.val (V.t (T.int IntKind.i64 (↑l.length : Int))) [Ob.box [V.ptr (1 : Nat) (1 : Nat) (0 : Nat) (0 : Nat), V.vec (2 : Nat) (l ++ [(↑n : Int)]).length (1 : Nat) (0 : Nat) x, V.vec (3 : Nat) N (1 : Nat) (0 : Nat) N], Ob.box [V.t (T.seq (2 : Nat) (List.map Obj.ce h.objects)), V.t (T.seq (1 : Nat) (List.map intt h.roots))], Ob.vec true (1 : Nat) ((ints l).append [[C.t (T.int IntKind.i64 (↑n : Int))]]), Ob.vec true (1 : Nat) (ints ((namesOf N l).set n (↑l.length : Int)))]) (show (l.length + (1 : Nat)) = ((l ++ [(↑n : Int)]).length) by simp [intc, ints_app, ints_cons, ← hs]))).trans (congrArg (fun x => Out.val (V.t (T.int IntKind.i64 (↑l.length : Int))) [Ob.box [V.ptr (1 : Nat) (1 : Nat) (0 : Nat) (0 : Nat), V.vec (2 : Nat) (l ++ [(↑n : Int)]).length (1 : Nat) (0 : Nat) (l ++ [(↑n : Int)]).length, V.vec (3 : Nat) N (1 : Nat) (0 : Nat) N], Ob.box [V.t (T.seq (2 : Nat) (List.map Obj.ce h.objects)), V.t (T.seq (1 : Nat) (List.map intt h.roots))], Ob.vec true (1 : Nat) x, Ob.vec true (1 : Nat) (ints ((namesOf N l).set n (↑l.length : Int)))]) (show ((ints l).append [[C.t (T.int IntKind.i64 (↑n : Int))]]) = (ints (l ++ [(↑n : Int)])) by simp [intc, ints_app, ints_cons, ← hs]))).trans (congrArg (fun x => Out.val (V.t (T.int IntKind.i64 (↑l.length : Int))) [Ob.box [V.ptr (1 : Nat) (1 : Nat) (0 : Nat) (0 : Nat), V.vec (2 : Nat) (l ++ [(↑n : Int)]).length (1 : Nat) (0 : Nat) (l ++ [(↑n : Int)]).length, V.vec (3 : Nat) N (1 : Nat) (0 : Nat) N], Ob.box [V.t (T.seq (2 : Nat) (List.map Obj.ce h.objects)), V.t (T.seq (1 : Nat) (List.map intt h.roots))], Ob.vec true (1 : Nat) (ints (l ++ [(↑n : Int)])), Ob.vec true (1 : Nat) x]) (show (ints ((namesOf N l).set n (↑l.length : Int))) = (ints (namesOf N (l ++ [(↑n : Int)]))) by simp [intc, ints_app, ints_cons, ← hs])))
theorem nameGo_ge (ks l : List Int) : l.length ≤ (nameGo l ks).1.length := by
  rw [nameGo_order]
  obtain ⟨r, hr⟩ := pushAll_ext ks l
  rw [hr]; simp
theorem push_len (l : List Int) (k : Int) : (push l k).length ≤ l.length + 1 := by
  unfold push
  split
  · omega
  · split
    · omega
    · simp
theorem allL_ev (h : Hp) (N : Nat) (hN : N ≤ 40) (ks : List Int) (hks : ks.length ≤ 100) (hkb : ∀ k ∈ ks, k < N) : ∀ (rest dn l nm : List Int), ks = dn ++ rest → nm.length = dn.length → l.length ≤ 100 + dn.length → (∀ x ∈ l, 0 ≤ x) →
    Ev pr (.loop (lq pr 97 0) (at_ [(0, .ptr 0 1 0 0), (5, .vec 4 ks.length 1 0 ks.length), (11, isq ks), (12, i64 ks.length), (13, i64 dn.length)] (cpObs h N l ++ [.vec true 1 (ints (nm ++ List.replicate rest.length 0))]) 4))
      (.exit 0 (at_ [(5, .vec 4 ks.length 1 0 ks.length)] (cpObs h N (nameGo l rest).1 ++ [.vec true 1 (ints (nm ++ (nameGo l rest).2))]) 4))
  | [], dn, l, nm, he, hn, hl, h0 => by
    have hll : (ks.length : Int) = dn.length := by simp [he]
    rw [show nameGo l [] = (l, []) from rfl]
    let t0 : Tp pr := .b (show (decide ((↑dn.length : Int) < (↑ks.length : Int))) = false by (simp; omega))
    exact .tp [t0] (by kernel_rfl)
  | x :: rest, dn, l, nm, he, hn, hl, h0 => by
    have hll : (ks.length : Int) = dn.length + 1 + rest.length := by simp [he]; omega
    have hg : lkp (ks.map intt) (dn.length : Int) = some [T.int .i64 x] := by rw [he]; simp [intt]
    have hp := name_ev h N hN l (by have := congrArg List.length he; simp at this; omega) h0 x (hkb x (by simp [he]))
    have hpl := push_len l x
    have ih := allL_ev h N hN ks hks hkb rest (dn ++ [x]) (push l x) (nm ++ [newOf (push l x) x]) (by simp [he]) (by simp [hn]) (by simp; omega) (push_nonneg h0)
    rw [show nameGo l (x :: rest) = ((nameGo (push l x) rest).1, newOf (push l x) x :: (nameGo (push l x) rest).2) from rfl]
    rw [show List.replicate (x :: rest).length (0 : Int) = 0 :: List.replicate rest.length 0 from rfl]
    have hg2 : (ints (nm ++ 0 :: List.replicate rest.length 0))[dn.length]? = some [C.t (.int .i64 0)] := by rw [← hn]; simp
    have hs2 : ∀ y : Int, (ints (nm ++ 0 :: List.replicate rest.length 0)).set dn.length [C.t (.int .i64 y)] = ints (nm ++ y :: List.replicate rest.length 0) := fun y => by rw [← hn]; simp
    rw [show nm ++ [newOf (push l x) x] ++ List.replicate rest.length 0 = nm ++ newOf (push l x) x :: List.replicate rest.length 0 by simp, ← hs2] at ih
    let t0 : Tp pr := .b (show (decide ((↑dn.length : Int) < (↑ks.length : Int))) = true by (simp; omega))
    let t1 : Tp pr := .g .row (show (lkp (List.map intt ks) (↑dn.length : Int)) = some ([T.int IntKind.i64 x]) from hg)
    let t3 : Tp pr := .m (show (decide ((0 : Int) ≤ (↑dn.length : Int) ∧ (↑dn.length : Int).toNat < ks.length)) = true by simp [*])
    let t4 : Tp pr := .c (show ((0 : Nat) + (↑dn.length : Int).toNat : Nat) = dn.length by omega)
    let t5 : Tp pr := .m (show (decide ((ints (nm ++ (0 : Int) :: List.replicate rest.length (0 : Int))).length = ks.length)) = true by simp [*])
    let t6 : Tp pr := .g .crow (show ((ints (nm ++ (0 : Int) :: List.replicate rest.length (0 : Int)))[dn.length]?) = some ([C.t (T.int IntKind.i64 (0 : Int))]) from hg2)
    let t7 : Tp pr := .n .crows (show ((ints (nm ++ (0 : Int) :: List.replicate rest.length (0 : Int))).set dn.length [C.t (T.int IntKind.i64 (newOf (push l x) x))]) = ints ((nm ++ (0 : Int) :: List.replicate rest.length (0 : Int)).set dn.length (newOf (push l x) x)) by simp)
    let t8 : Tp pr := .i (wrap_i64 (a := (↑dn.length : Int) + (1 : Int)) (by omega) (by omega))
    let t9 : Tp pr := .a (Ev.castq ((congrArg (fun x_1 => Q.loop (lq pr (97 : FuncId) (0 : Nat)) (at_ [((0 : Nat), V.ptr (0 : Nat) (1 : Nat) (0 : Nat) (0 : Nat)), ((5 : Nat), V.vec (4 : Nat) ks.length (1 : Nat) (0 : Nat) ks.length), ((11 : Nat), isq ks), ((12 : Nat), i64 (↑ks.length : Int)), ((13 : Nat), i64 x_1)] (cpObs h N (push l x) ++ [Ob.vec true (1 : Nat) ((ints (nm ++ (0 : Int) :: List.replicate rest.length (0 : Int))).set dn.length [C.t (T.int IntKind.i64 (newOf (push l x) x))])]) (4 : Nat))) (show ((↑(dn ++ [x]).length : Int)) = ((↑dn.length : Int) + (1 : Int)) by simp)).trans (congrArg (fun x_1 => Q.loop (lq pr (97 : FuncId) (0 : Nat)) (at_ [((0 : Nat), V.ptr (0 : Nat) (1 : Nat) (0 : Nat) (0 : Nat)), ((5 : Nat), V.vec (4 : Nat) ks.length (1 : Nat) (0 : Nat) ks.length), ((11 : Nat), isq ks), ((12 : Nat), i64 (↑ks.length : Int)), ((13 : Nat), i64 ((↑dn.length : Int) + (1 : Int)))] (cpObs h N (push l x) ++ [Ob.vec true (1 : Nat) x_1]) (4 : Nat))) (show ((ints (nm ++ (0 : Int) :: List.replicate rest.length (0 : Int))).set dn.length [C.t (T.int IntKind.i64 (newOf (push l x) x))]) = (ints ((nm ++ (0 : Int) :: List.replicate rest.length (0 : Int)).set dn.length (newOf (push l x) x))) by simp))) (ih))
    exact .tpe [t0, t1, .a (hp), t3, t4, t5, t6, t7, t8, t9] (Out.exit (0 : Nat) (at_ [((5 : Nat), V.vec (4 : Nat) ks.length (1 : Nat) (0 : Nat) ks.length)] [Ob.box [V.ptr (1 : Nat) (1 : Nat) (0 : Nat) (0 : Nat), V.vec (2 : Nat) (nameGo (push l x) rest).fst.length (1 : Nat) (0 : Nat) (nameGo (push l x) rest).fst.length, V.vec (3 : Nat) N (1 : Nat) (0 : Nat) N], Ob.box [V.t (T.seq (2 : Nat) (List.map Obj.ce h.objects)), V.t (T.seq (1 : Nat) (List.map intt h.roots))], Ob.vec true (1 : Nat) (ints (nameGo (push l x) rest).fst), Ob.vec true (1 : Nat) (ints (namesOf N (nameGo (push l x) rest).fst)), Ob.vec true (1 : Nat) (ints (nm ++ [newOf (push l x) x] ++ (nameGo (push l x) rest).snd))] (4 : Nat))) (by kernel_rfl) (((((congrArg (fun x_1 => Out.exit (0 : Nat) (at_ [((5 : Nat), V.vec (4 : Nat) ks.length (1 : Nat) (0 : Nat) ks.length)] [Ob.box [V.ptr (1 : Nat) (1 : Nat) (0 : Nat) (0 : Nat), V.vec (2 : Nat) x_1 (1 : Nat) (0 : Nat) (nameGo (push l x) rest).fst.length, V.vec (3 : Nat) N (1 : Nat) (0 : Nat) N], Ob.box [V.t (T.seq (2 : Nat) (List.map Obj.ce h.objects)), V.t (T.seq (1 : Nat) (List.map intt h.roots))], Ob.vec true (1 : Nat) (ints (nameGo (push l x) rest).fst), Ob.vec true (1 : Nat) (ints (namesOf N (nameGo (push l x) rest).fst)), Ob.vec true (1 : Nat) (ints (nm ++ [newOf (push l x) x] ++ (nameGo (push l x) rest).snd))] (4 : Nat))) (show ((nameGo (push l x) rest).fst.length) = (((nameGo (push l x) rest).fst, newOf (push l x) x :: (nameGo (push l x) rest).snd).fst.length) by simp)).trans (congrArg (fun x_1 => Out.exit (0 : Nat) (at_ [((5 : Nat), V.vec (4 : Nat) ks.length (1 : Nat) (0 : Nat) ks.length)] [Ob.box [V.ptr (1 : Nat) (1 : Nat) (0 : Nat) (0 : Nat), V.vec (2 : Nat) ((nameGo (push l x) rest).fst, newOf (push l x) x :: (nameGo (push l x) rest).snd).fst.length (1 : Nat) (0 : Nat) x_1, V.vec (3 : Nat) N (1 : Nat) (0 : Nat) N], Ob.box [V.t (T.seq (2 : Nat) (List.map Obj.ce h.objects)), V.t (T.seq (1 : Nat) (List.map intt h.roots))], Ob.vec true (1 : Nat) (ints (nameGo (push l x) rest).fst), Ob.vec true (1 : Nat) (ints (namesOf N (nameGo (push l x) rest).fst)), Ob.vec true (1 : Nat) (ints (nm ++ [newOf (push l x) x] ++ (nameGo (push l x) rest).snd))] (4 : Nat))) (show ((nameGo (push l x) rest).fst.length) = (((nameGo (push l x) rest).fst, newOf (push l x) x :: (nameGo (push l x) rest).snd).fst.length) by simp))).trans (congrArg (fun x_1 => Out.exit (0 : Nat) (at_ [((5 : Nat), V.vec (4 : Nat) ks.length (1 : Nat) (0 : Nat) ks.length)] [Ob.box [V.ptr (1 : Nat) (1 : Nat) (0 : Nat) (0 : Nat), V.vec (2 : Nat) ((nameGo (push l x) rest).fst, newOf (push l x) x :: (nameGo (push l x) rest).snd).fst.length (1 : Nat) (0 : Nat) ((nameGo (push l x) rest).fst, newOf (push l x) x :: (nameGo (push l x) rest).snd).fst.length, V.vec (3 : Nat) N (1 : Nat) (0 : Nat) N], Ob.box [V.t (T.seq (2 : Nat) (List.map Obj.ce h.objects)), V.t (T.seq (1 : Nat) (List.map intt h.roots))], Ob.vec true (1 : Nat) x_1, Ob.vec true (1 : Nat) (ints (namesOf N (nameGo (push l x) rest).fst)), Ob.vec true (1 : Nat) (ints (nm ++ [newOf (push l x) x] ++ (nameGo (push l x) rest).snd))] (4 : Nat))) (show (ints (nameGo (push l x) rest).fst) = (ints ((nameGo (push l x) rest).fst, newOf (push l x) x :: (nameGo (push l x) rest).snd).fst) by simp))).trans (congrArg (fun x_1 => Out.exit (0 : Nat) (at_ [((5 : Nat), V.vec (4 : Nat) ks.length (1 : Nat) (0 : Nat) ks.length)] [Ob.box [V.ptr (1 : Nat) (1 : Nat) (0 : Nat) (0 : Nat), V.vec (2 : Nat) ((nameGo (push l x) rest).fst, newOf (push l x) x :: (nameGo (push l x) rest).snd).fst.length (1 : Nat) (0 : Nat) ((nameGo (push l x) rest).fst, newOf (push l x) x :: (nameGo (push l x) rest).snd).fst.length, V.vec (3 : Nat) N (1 : Nat) (0 : Nat) N], Ob.box [V.t (T.seq (2 : Nat) (List.map Obj.ce h.objects)), V.t (T.seq (1 : Nat) (List.map intt h.roots))], Ob.vec true (1 : Nat) (ints ((nameGo (push l x) rest).fst, newOf (push l x) x :: (nameGo (push l x) rest).snd).fst), Ob.vec true (1 : Nat) x_1, Ob.vec true (1 : Nat) (ints (nm ++ [newOf (push l x) x] ++ (nameGo (push l x) rest).snd))] (4 : Nat))) (show (ints (namesOf N (nameGo (push l x) rest).fst)) = (ints (namesOf N ((nameGo (push l x) rest).fst, newOf (push l x) x :: (nameGo (push l x) rest).snd).fst)) by simp))).trans (congrArg (fun x_1 => Out.exit (0 : Nat) (at_ [((5 : Nat), V.vec (4 : Nat) ks.length (1 : Nat) (0 : Nat) ks.length)] [Ob.box [V.ptr (1 : Nat) (1 : Nat) (0 : Nat) (0 : Nat), V.vec (2 : Nat) ((nameGo (push l x) rest).fst, newOf (push l x) x :: (nameGo (push l x) rest).snd).fst.length (1 : Nat) (0 : Nat) ((nameGo (push l x) rest).fst, newOf (push l x) x :: (nameGo (push l x) rest).snd).fst.length, V.vec (3 : Nat) N (1 : Nat) (0 : Nat) N], Ob.box [V.t (T.seq (2 : Nat) (List.map Obj.ce h.objects)), V.t (T.seq (1 : Nat) (List.map intt h.roots))], Ob.vec true (1 : Nat) (ints ((nameGo (push l x) rest).fst, newOf (push l x) x :: (nameGo (push l x) rest).snd).fst), Ob.vec true (1 : Nat) (ints (namesOf N ((nameGo (push l x) rest).fst, newOf (push l x) x :: (nameGo (push l x) rest).snd).fst)), Ob.vec true (1 : Nat) x_1] (4 : Nat))) (show (ints (nm ++ [newOf (push l x) x] ++ (nameGo (push l x) rest).snd)) = (ints (nm ++ ((nameGo (push l x) rest).fst, newOf (push l x) x :: (nameGo (push l x) rest).snd).snd)) by simp)))
theorem all_ev (h : Hp) (N : Nat) (hN : N ≤ 40) (ks l : List Int) (hks : ks.length ≤ 100) (hkb : ∀ k ∈ ks, k < N) (hl : l.length ≤ 100) (h0 : ∀ x ∈ l, 0 ≤ x) :
    Ev pr (.call 97 [.ptr 0 1 0 0, isq ks] (cpObs h N l)) (.val (.vec 4 (nameGo l ks).2.length 1 0 (nameGo l ks).2.length) (cpObs h N (nameGo l ks).1 ++ [.vec true 1 (ints (nameGo l ks).2)])) := by
  have g := allL_ev h N hN ks hks hkb ks [] l [] rfl rfl (by simpa using hl) h0
  have hlen : ∀ (ks l : List Int), (nameGo l ks).2.length = ks.length := by
    intro ks
    induction ks with
    | nil => intro l; rfl
    | cons k ks ih => intro l; simp only [nameGo, List.length_cons, ih]
  have hln := hlen ks l
  rw [show ints ([] ++ List.replicate ks.length (0 : Int)) = List.replicate ks.length [C.t (.int .i64 0)] by simp [ints, intc]] at g
  generalize nameGo l ks = q at *
  obtain ⟨q1, q2⟩ := q
  dsimp only at g hln ⊢
  rw [List.nil_append, ← hln] at g
  have ht : List.take q2.length (q2.map intt) = q2.map intt := List.take_of_length_le (by simp)
  let t0 : Tp pr := .i (show ((↑(List.map intt ks).length : Int) : Int) = (↑ks.length : Int) by simp)
  let t1 : Tp pr := .m (show (decide ((0 : Int) ≤ (↑ks.length : Int) ∧ (↑ks.length : Int) ≤ (↑ks.length : Int) ∧ (↑ks.length : Int) ≤ (4294967296 : Int))) = true by (simp; omega))
  let t2 : Tp pr := .c (show ((↑ks.length : Int).toNat : Nat) = ks.length by omega)
  let t3 : Tp pr := .n .crows (rfl : (List.replicate ks.length [C.t (T.int IntKind.i64 (0 : Int))]) = _)
  let t4 : Tp pr := .i (show ((↑(List.map intt ks).length : Int) : Int) = (↑ks.length : Int) by simp)
  let t5 : Tp pr := .a (Ev.castq (((congrArg (fun x => Q.loop (lq pr (97 : Nat) (0 : Nat)) (at_ [((0 : Nat), V.ptr (0 : Nat) (1 : Nat) (0 : Nat) (0 : Nat)), ((5 : Nat), V.vec (4 : Nat) q2.length (1 : Nat) (0 : Nat) q2.length), ((11 : Nat), V.t (T.seq (1 : Nat) (List.map intt ks))), ((12 : Nat), V.t (T.int IntKind.i64 (↑q2.length : Int))), ((13 : Nat), V.t (T.int IntKind.i64 (0 : Int)))] [Ob.box [V.ptr (1 : Nat) (1 : Nat) (0 : Nat) (0 : Nat), V.vec (2 : Nat) l.length (1 : Nat) (0 : Nat) l.length, V.vec (3 : Nat) N (1 : Nat) (0 : Nat) N], Ob.box [V.t (T.seq (2 : Nat) (List.map Obj.ce h.objects)), V.t (T.seq (1 : Nat) (List.map intt h.roots))], Ob.vec true (1 : Nat) (ints l), Ob.vec true (1 : Nat) (ints (namesOf N l)), Ob.vec true (1 : Nat) (List.replicate q2.length [C.t (T.int IntKind.i64 (0 : Int))])] (4 : Nat))) (show (List.replicate q2.length [C.t (T.int IntKind.i64 (0 : Int))]) = (List.replicate ks.length [C.t (T.int IntKind.i64 (0 : Int))]) by simp [hln, ints, intc])).trans (congrArg (fun x => Q.loop (lq pr (97 : Nat) (0 : Nat)) (at_ [((0 : Nat), V.ptr (0 : Nat) (1 : Nat) (0 : Nat) (0 : Nat)), ((5 : Nat), V.vec (4 : Nat) q2.length (1 : Nat) (0 : Nat) q2.length), ((11 : Nat), V.t (T.seq (1 : Nat) (List.map intt ks))), ((12 : Nat), V.t (T.int IntKind.i64 (↑q2.length : Int))), ((13 : Nat), V.t (T.int IntKind.i64 (0 : Int)))] [Ob.box [V.ptr (1 : Nat) (1 : Nat) (0 : Nat) (0 : Nat), V.vec (2 : Nat) l.length (1 : Nat) (0 : Nat) l.length, V.vec (3 : Nat) N (1 : Nat) (0 : Nat) N], Ob.box [V.t (T.seq (2 : Nat) (List.map Obj.ce h.objects)), V.t (T.seq (1 : Nat) (List.map intt h.roots))], Ob.vec true (1 : Nat) (ints l), Ob.vec true (1 : Nat) (ints (namesOf N l)), Ob.vec true (1 : Nat) (List.replicate q2.length [C.t (T.int IntKind.i64 (0 : Int))])] (4 : Nat))) (show ((↑q2.length : Int)) = ((↑ks.length : Int)) by simp [hln, ints, intc]))).trans (congrArg (fun x => Q.loop (lq pr (97 : Nat) (0 : Nat)) (at_ [((0 : Nat), V.ptr (0 : Nat) (1 : Nat) (0 : Nat) (0 : Nat)), ((5 : Nat), V.vec (4 : Nat) x (1 : Nat) (0 : Nat) x), ((11 : Nat), V.t (T.seq (1 : Nat) (List.map intt ks))), ((12 : Nat), V.t (T.int IntKind.i64 (↑x : Int))), ((13 : Nat), V.t (T.int IntKind.i64 (0 : Int)))] [Ob.box [V.ptr (1 : Nat) (1 : Nat) (0 : Nat) (0 : Nat), V.vec (2 : Nat) l.length (1 : Nat) (0 : Nat) l.length, V.vec (3 : Nat) N (1 : Nat) (0 : Nat) N], Ob.box [V.t (T.seq (2 : Nat) (List.map Obj.ce h.objects)), V.t (T.seq (1 : Nat) (List.map intt h.roots))], Ob.vec true (1 : Nat) (ints l), Ob.vec true (1 : Nat) (ints (namesOf N l)), Ob.vec true (1 : Nat) (List.replicate x [C.t (T.int IntKind.i64 (0 : Int))])] (4 : Nat))) (show (q2.length) = (ks.length) by simp [hln, ints, intc]))) (g))
  exact .tp [t0, t1, t2, t3, t4, t5] (by kernel_rfl)
end Go.Ev

/- Copies of heaps: the copier's first row of names. -/
namespace Go.Ev
set_option linter.unusedVariables false
set_option linter.unusedSimpArgs false
open Go.Proofs
set_option maxRecDepth 100000
set_option linter.unusedVariables false
set_option maxHeartbeats 4000000
attribute [local simp] ints_takeC
def cpN (h : Hp) (N : Nat) (l out : List Int) : List Ob := [.box [.ptr 1 1 0 0, .vec 4 l.length 1 0 l.length, .vec 2 N 1 0 N], .box [osq h.objects, isq h.roots], .vec true 1 (ints (namesOf N l)), .vec true 1 (ints out), .vec true 1 (ints l)]
theorem allNL_ev (h : Hp) (N : Nat) (hN : N ≤ 40) (ks : List Int) (hks : ks.length ≤ 100) (hkb : ∀ k ∈ ks, k < N) : ∀ (rest dn l nm : List Int), ks = dn ++ rest → nm.length = dn.length → l.length ≤ 100 + dn.length → (∀ x ∈ l, 0 ≤ x) →
    Ev pr (.loop (lq pr 97 0) (at_ [(0, .ptr 0 1 0 0), (5, .vec 3 ks.length 1 0 ks.length), (11, isq ks), (12, i64 ks.length), (13, i64 dn.length)] (cpN h N l (nm ++ List.replicate rest.length 0)) 3))
      (.exit 0 (at_ [(5, .vec 3 ks.length 1 0 ks.length)] (cpN h N (nameGo l rest).1 (nm ++ (nameGo l rest).2)) 3))
  | [], dn, l, nm, he, hn, hl, h0 => by
    have hll : (ks.length : Int) = dn.length := by simp [he]
    rw [show nameGo l [] = (l, []) from rfl]
    let t0 : Tp pr := .b (show (decide ((↑dn.length : Int) < (↑ks.length : Int))) = false by (simp; omega))
    exact .tp [t0] (by kernel_rfl)
  | x :: rest, dn, l, nm, he, hn, hl, h0 => by
    have hll : (ks.length : Int) = dn.length + 1 + rest.length := by simp [he]; omega
    have hg : lkp (ks.map intt) (dn.length : Int) = some [T.int .i64 x] := by rw [he]; simp [intt]
    have hp := name_ev h N hN l (by have := congrArg List.length he; simp at this; omega) h0 x (hkb x (by simp [he]))
    have hpl := push_len l x
    have ih := allNL_ev h N hN ks hks hkb rest (dn ++ [x]) (push l x) (nm ++ [newOf (push l x) x]) (by simp [he]) (by simp [hn]) (by simp; omega) (push_nonneg h0)
    rw [show nameGo l (x :: rest) = ((nameGo (push l x) rest).1, newOf (push l x) x :: (nameGo (push l x) rest).2) from rfl]
    rw [show List.replicate (x :: rest).length (0 : Int) = 0 :: List.replicate rest.length 0 from rfl]
    have hg2 : (ints (nm ++ 0 :: List.replicate rest.length 0))[dn.length]? = some [C.t (.int .i64 0)] := by rw [← hn]; simp
    have hs2 : ∀ y : Int, (ints (nm ++ 0 :: List.replicate rest.length 0)).set dn.length [C.t (.int .i64 y)] = ints (nm ++ y :: List.replicate rest.length 0) := fun y => by rw [← hn]; simp
    rw [show nm ++ [newOf (push l x) x] ++ List.replicate rest.length 0 = nm ++ newOf (push l x) x :: List.replicate rest.length 0 by simp] at ih
    unfold cpN at ih ⊢
    rw [← hs2] at ih
    let t0 : Tp pr := .b (show (decide ((↑dn.length : Int) < (↑ks.length : Int))) = true by (simp; omega))
    let t1 : Tp pr := .g .row (show (lkp (List.map intt ks) (↑dn.length : Int)) = some ([T.int IntKind.i64 x]) from hg)
    let t3 : Tp pr := .m (show (decide ((0 : Int) ≤ (↑dn.length : Int) ∧ (↑dn.length : Int).toNat < ks.length)) = true by simp [*])
    let t4 : Tp pr := .c (show ((0 : Nat) + (↑dn.length : Int).toNat : Nat) = dn.length by omega)
    let t5 : Tp pr := .m (show (decide ((ints (nm ++ (0 : Int) :: List.replicate rest.length (0 : Int))).length = ks.length)) = true by simp [*])
    let t6 : Tp pr := .g .crow (show ((ints (nm ++ (0 : Int) :: List.replicate rest.length (0 : Int)))[dn.length]?) = some ([C.t (T.int IntKind.i64 (0 : Int))]) from hg2)
    let t7 : Tp pr := .n .crows (show ((ints (nm ++ (0 : Int) :: List.replicate rest.length (0 : Int))).set dn.length [C.t (T.int IntKind.i64 (newOf (push l x) x))]) = ints ((nm ++ (0 : Int) :: List.replicate rest.length (0 : Int)).set dn.length (newOf (push l x) x)) by simp)
    let t8 : Tp pr := .i (wrap_i64 (a := (↑dn.length : Int) + (1 : Int)) (by omega) (by omega))
    let t9 : Tp pr := .a (Ev.castq ((congrArg (fun x_1 => Q.loop (lq pr (97 : FuncId) (0 : Nat)) (at_ [((0 : Nat), V.ptr (0 : Nat) (1 : Nat) (0 : Nat) (0 : Nat)), ((5 : Nat), V.vec (3 : Nat) ks.length (1 : Nat) (0 : Nat) ks.length), ((11 : Nat), isq ks), ((12 : Nat), i64 (↑ks.length : Int)), ((13 : Nat), i64 x_1)] [Ob.box [V.ptr (1 : Nat) (1 : Nat) (0 : Nat) (0 : Nat), V.vec (4 : Nat) (push l x).length (1 : Nat) (0 : Nat) (push l x).length, V.vec (2 : Nat) N (1 : Nat) (0 : Nat) N], Ob.box [osq h.objects, isq h.roots], Ob.vec true (1 : Nat) (ints (namesOf N (push l x))), Ob.vec true (1 : Nat) ((ints (nm ++ (0 : Int) :: List.replicate rest.length (0 : Int))).set dn.length [C.t (T.int IntKind.i64 (newOf (push l x) x))]), Ob.vec true (1 : Nat) (ints (push l x))] (3 : Nat))) (show ((↑(dn ++ [x]).length : Int)) = ((↑dn.length : Int) + (1 : Int)) by simp)).trans (congrArg (fun x_1 => Q.loop (lq pr (97 : FuncId) (0 : Nat)) (at_ [((0 : Nat), V.ptr (0 : Nat) (1 : Nat) (0 : Nat) (0 : Nat)), ((5 : Nat), V.vec (3 : Nat) ks.length (1 : Nat) (0 : Nat) ks.length), ((11 : Nat), isq ks), ((12 : Nat), i64 (↑ks.length : Int)), ((13 : Nat), i64 ((↑dn.length : Int) + (1 : Int)))] [Ob.box [V.ptr (1 : Nat) (1 : Nat) (0 : Nat) (0 : Nat), V.vec (4 : Nat) (push l x).length (1 : Nat) (0 : Nat) (push l x).length, V.vec (2 : Nat) N (1 : Nat) (0 : Nat) N], Ob.box [osq h.objects, isq h.roots], Ob.vec true (1 : Nat) (ints (namesOf N (push l x))), Ob.vec true (1 : Nat) x_1, Ob.vec true (1 : Nat) (ints (push l x))] (3 : Nat))) (show ((ints (nm ++ (0 : Int) :: List.replicate rest.length (0 : Int))).set dn.length [C.t (T.int IntKind.i64 (newOf (push l x) x))]) = (ints ((nm ++ (0 : Int) :: List.replicate rest.length (0 : Int)).set dn.length (newOf (push l x) x))) by simp))) (ih))
    exact .tpe [t0, t1, .a (hp), t3, t4, t5, t6, t7, t8, t9] (Out.exit (0 : Nat) (at_ [((5 : Nat), V.vec (3 : Nat) ks.length (1 : Nat) (0 : Nat) ks.length)] [Ob.box [V.ptr (1 : Nat) (1 : Nat) (0 : Nat) (0 : Nat), V.vec (4 : Nat) (nameGo (push l x) rest).fst.length (1 : Nat) (0 : Nat) (nameGo (push l x) rest).fst.length, V.vec (2 : Nat) N (1 : Nat) (0 : Nat) N], Ob.box [V.t (T.seq (2 : Nat) (List.map Obj.ce h.objects)), V.t (T.seq (1 : Nat) (List.map intt h.roots))], Ob.vec true (1 : Nat) (ints (namesOf N (nameGo (push l x) rest).fst)), Ob.vec true (1 : Nat) (ints (nm ++ [newOf (push l x) x] ++ (nameGo (push l x) rest).snd)), Ob.vec true (1 : Nat) (ints (nameGo (push l x) rest).fst)] (3 : Nat))) (by kernel_rfl) (((((congrArg (fun x_1 => Out.exit (0 : Nat) (at_ [((5 : Nat), V.vec (3 : Nat) ks.length (1 : Nat) (0 : Nat) ks.length)] [Ob.box [V.ptr (1 : Nat) (1 : Nat) (0 : Nat) (0 : Nat), V.vec (4 : Nat) x_1 (1 : Nat) (0 : Nat) (nameGo (push l x) rest).fst.length, V.vec (2 : Nat) N (1 : Nat) (0 : Nat) N], Ob.box [V.t (T.seq (2 : Nat) (List.map Obj.ce h.objects)), V.t (T.seq (1 : Nat) (List.map intt h.roots))], Ob.vec true (1 : Nat) (ints (namesOf N (nameGo (push l x) rest).fst)), Ob.vec true (1 : Nat) (ints (nm ++ [newOf (push l x) x] ++ (nameGo (push l x) rest).snd)), Ob.vec true (1 : Nat) (ints (nameGo (push l x) rest).fst)] (3 : Nat))) (show ((nameGo (push l x) rest).fst.length) = (((nameGo (push l x) rest).fst, newOf (push l x) x :: (nameGo (push l x) rest).snd).fst.length) by simp)).trans (congrArg (fun x_1 => Out.exit (0 : Nat) (at_ [((5 : Nat), V.vec (3 : Nat) ks.length (1 : Nat) (0 : Nat) ks.length)] [Ob.box [V.ptr (1 : Nat) (1 : Nat) (0 : Nat) (0 : Nat), V.vec (4 : Nat) ((nameGo (push l x) rest).fst, newOf (push l x) x :: (nameGo (push l x) rest).snd).fst.length (1 : Nat) (0 : Nat) x_1, V.vec (2 : Nat) N (1 : Nat) (0 : Nat) N], Ob.box [V.t (T.seq (2 : Nat) (List.map Obj.ce h.objects)), V.t (T.seq (1 : Nat) (List.map intt h.roots))], Ob.vec true (1 : Nat) (ints (namesOf N (nameGo (push l x) rest).fst)), Ob.vec true (1 : Nat) (ints (nm ++ [newOf (push l x) x] ++ (nameGo (push l x) rest).snd)), Ob.vec true (1 : Nat) (ints (nameGo (push l x) rest).fst)] (3 : Nat))) (show ((nameGo (push l x) rest).fst.length) = (((nameGo (push l x) rest).fst, newOf (push l x) x :: (nameGo (push l x) rest).snd).fst.length) by simp))).trans (congrArg (fun x_1 => Out.exit (0 : Nat) (at_ [((5 : Nat), V.vec (3 : Nat) ks.length (1 : Nat) (0 : Nat) ks.length)] [Ob.box [V.ptr (1 : Nat) (1 : Nat) (0 : Nat) (0 : Nat), V.vec (4 : Nat) ((nameGo (push l x) rest).fst, newOf (push l x) x :: (nameGo (push l x) rest).snd).fst.length (1 : Nat) (0 : Nat) ((nameGo (push l x) rest).fst, newOf (push l x) x :: (nameGo (push l x) rest).snd).fst.length, V.vec (2 : Nat) N (1 : Nat) (0 : Nat) N], Ob.box [V.t (T.seq (2 : Nat) (List.map Obj.ce h.objects)), V.t (T.seq (1 : Nat) (List.map intt h.roots))], Ob.vec true (1 : Nat) x_1, Ob.vec true (1 : Nat) (ints (nm ++ [newOf (push l x) x] ++ (nameGo (push l x) rest).snd)), Ob.vec true (1 : Nat) (ints (nameGo (push l x) rest).fst)] (3 : Nat))) (show (ints (namesOf N (nameGo (push l x) rest).fst)) = (ints (namesOf N ((nameGo (push l x) rest).fst, newOf (push l x) x :: (nameGo (push l x) rest).snd).fst)) by simp))).trans (congrArg (fun x_1 => Out.exit (0 : Nat) (at_ [((5 : Nat), V.vec (3 : Nat) ks.length (1 : Nat) (0 : Nat) ks.length)] [Ob.box [V.ptr (1 : Nat) (1 : Nat) (0 : Nat) (0 : Nat), V.vec (4 : Nat) ((nameGo (push l x) rest).fst, newOf (push l x) x :: (nameGo (push l x) rest).snd).fst.length (1 : Nat) (0 : Nat) ((nameGo (push l x) rest).fst, newOf (push l x) x :: (nameGo (push l x) rest).snd).fst.length, V.vec (2 : Nat) N (1 : Nat) (0 : Nat) N], Ob.box [V.t (T.seq (2 : Nat) (List.map Obj.ce h.objects)), V.t (T.seq (1 : Nat) (List.map intt h.roots))], Ob.vec true (1 : Nat) (ints (namesOf N ((nameGo (push l x) rest).fst, newOf (push l x) x :: (nameGo (push l x) rest).snd).fst)), Ob.vec true (1 : Nat) x_1, Ob.vec true (1 : Nat) (ints (nameGo (push l x) rest).fst)] (3 : Nat))) (show (ints (nm ++ [newOf (push l x) x] ++ (nameGo (push l x) rest).snd)) = (ints (nm ++ ((nameGo (push l x) rest).fst, newOf (push l x) x :: (nameGo (push l x) rest).snd).snd)) by simp))).trans (congrArg (fun x_1 => Out.exit (0 : Nat) (at_ [((5 : Nat), V.vec (3 : Nat) ks.length (1 : Nat) (0 : Nat) ks.length)] [Ob.box [V.ptr (1 : Nat) (1 : Nat) (0 : Nat) (0 : Nat), V.vec (4 : Nat) ((nameGo (push l x) rest).fst, newOf (push l x) x :: (nameGo (push l x) rest).snd).fst.length (1 : Nat) (0 : Nat) ((nameGo (push l x) rest).fst, newOf (push l x) x :: (nameGo (push l x) rest).snd).fst.length, V.vec (2 : Nat) N (1 : Nat) (0 : Nat) N], Ob.box [V.t (T.seq (2 : Nat) (List.map Obj.ce h.objects)), V.t (T.seq (1 : Nat) (List.map intt h.roots))], Ob.vec true (1 : Nat) (ints (namesOf N ((nameGo (push l x) rest).fst, newOf (push l x) x :: (nameGo (push l x) rest).snd).fst)), Ob.vec true (1 : Nat) (ints (nm ++ ((nameGo (push l x) rest).fst, newOf (push l x) x :: (nameGo (push l x) rest).snd).snd)), Ob.vec true (1 : Nat) x_1] (3 : Nat))) (show (ints (nameGo (push l x) rest).fst) = (ints ((nameGo (push l x) rest).fst, newOf (push l x) x :: (nameGo (push l x) rest).snd).fst) by simp)))
theorem nameGo_len2 : ∀ (ks l : List Int), (nameGo l ks).2.length = ks.length
  | [], l => rfl
  | k :: ks, l => by simp only [nameGo, List.length_cons, nameGo_len2 ks]
theorem allN_ev (h : Hp) (N : Nat) (hN : N ≤ 40) (ks : List Int) (hks : ks.length ≤ 100) (hkb : ∀ k ∈ ks, k < N) :
    Ev pr (.call 97 [.ptr 0 1 0 0, isq ks] [.box [.ptr 1 1 0 0, .t .nils, .vec 2 N 1 0 N], .box [osq h.objects, isq h.roots], .vec true 1 (ints (namesOf N []))])
      (.val (.vec 3 (nameGo [] ks).2.length 1 0 (nameGo [] ks).2.length) [.box [.ptr 1 1 0 0, .vec 4 (nameGo [] ks).1.length 1 0 (nameGo [] ks).1.length, .vec 2 N 1 0 N], .box [osq h.objects, isq h.roots], .vec true 1 (ints (namesOf N (nameGo [] ks).1)), .vec true 1 (ints (nameGo [] ks).2), .vec true 1 (ints (nameGo [] ks).1)]) := by
  have g := allNL_ev h N hN ks hks hkb ks [] [] [] rfl rfl (by simp) (by simp)
  have hln := nameGo_len2 ks []
  rw [show ([] : List Int) ++ List.replicate ks.length (0 : Int) = List.replicate ks.length 0 from rfl] at g
  unfold cpN at g
  rw [show ints (List.replicate ks.length (0 : Int)) = List.replicate ks.length [C.t (.int .i64 0)] by simp [ints, intc]] at g
  generalize nameGo [] ks = q at *
  obtain ⟨q1, q2⟩ := q
  dsimp only at g hln ⊢
  rw [List.nil_append, ← hln] at g
  have ht : List.take q2.length (q2.map intt) = q2.map intt := List.take_of_length_le (by simp)
  let t0 : Tp pr := .i (show ((↑(List.map intt ks).length : Int) : Int) = (↑ks.length : Int) by simp)
  let t1 : Tp pr := .m (show (decide ((0 : Int) ≤ (↑ks.length : Int) ∧ (↑ks.length : Int) ≤ (↑ks.length : Int) ∧ (↑ks.length : Int) ≤ (4294967296 : Int))) = true by (simp; omega))
  let t2 : Tp pr := .c (show ((↑ks.length : Int).toNat : Nat) = ks.length by omega)
  let t3 : Tp pr := .n .crows (rfl : (List.replicate ks.length [C.t (T.int IntKind.i64 (0 : Int))]) = _)
  let t4 : Tp pr := .i (show ((↑(List.map intt ks).length : Int) : Int) = (↑ks.length : Int) by simp)
  let t5 : Tp pr := .a (Ev.castq (((congrArg (fun x => Q.loop (lq pr (97 : Nat) (0 : Nat)) (at_ [((0 : Nat), V.ptr (0 : Nat) (1 : Nat) (0 : Nat) (0 : Nat)), ((5 : Nat), V.vec (3 : Nat) q2.length (1 : Nat) (0 : Nat) q2.length), ((11 : Nat), V.t (T.seq (1 : Nat) (List.map intt ks))), ((12 : Nat), V.t (T.int IntKind.i64 (↑q2.length : Int))), ((13 : Nat), V.t (T.int IntKind.i64 (0 : Int)))] [Ob.box [V.ptr (1 : Nat) (1 : Nat) (0 : Nat) (0 : Nat), V.vec (4 : Nat) (0 : Nat) (1 : Nat) (0 : Nat) (0 : Nat), V.vec (2 : Nat) N (1 : Nat) (0 : Nat) N], Ob.box [V.t (T.seq (2 : Nat) (List.map Obj.ce h.objects)), V.t (T.seq (1 : Nat) (List.map intt h.roots))], Ob.vec true (1 : Nat) (ints (namesOf N [])), Ob.vec true (1 : Nat) (List.replicate q2.length [C.t (T.int IntKind.i64 (0 : Int))]), Ob.vec true (1 : Nat) []] (3 : Nat))) (show (List.replicate q2.length [C.t (T.int IntKind.i64 (0 : Int))]) = (List.replicate ks.length [C.t (T.int IntKind.i64 (0 : Int))]) by simp [hln, ints, intc])).trans (congrArg (fun x => Q.loop (lq pr (97 : Nat) (0 : Nat)) (at_ [((0 : Nat), V.ptr (0 : Nat) (1 : Nat) (0 : Nat) (0 : Nat)), ((5 : Nat), V.vec (3 : Nat) q2.length (1 : Nat) (0 : Nat) q2.length), ((11 : Nat), V.t (T.seq (1 : Nat) (List.map intt ks))), ((12 : Nat), V.t (T.int IntKind.i64 (↑q2.length : Int))), ((13 : Nat), V.t (T.int IntKind.i64 (0 : Int)))] [Ob.box [V.ptr (1 : Nat) (1 : Nat) (0 : Nat) (0 : Nat), V.vec (4 : Nat) (0 : Nat) (1 : Nat) (0 : Nat) (0 : Nat), V.vec (2 : Nat) N (1 : Nat) (0 : Nat) N], Ob.box [V.t (T.seq (2 : Nat) (List.map Obj.ce h.objects)), V.t (T.seq (1 : Nat) (List.map intt h.roots))], Ob.vec true (1 : Nat) (ints (namesOf N [])), Ob.vec true (1 : Nat) (List.replicate q2.length [C.t (T.int IntKind.i64 (0 : Int))]), Ob.vec true (1 : Nat) []] (3 : Nat))) (show ((↑q2.length : Int)) = ((↑ks.length : Int)) by simp [hln, ints, intc]))).trans (congrArg (fun x => Q.loop (lq pr (97 : Nat) (0 : Nat)) (at_ [((0 : Nat), V.ptr (0 : Nat) (1 : Nat) (0 : Nat) (0 : Nat)), ((5 : Nat), V.vec (3 : Nat) x (1 : Nat) (0 : Nat) x), ((11 : Nat), V.t (T.seq (1 : Nat) (List.map intt ks))), ((12 : Nat), V.t (T.int IntKind.i64 (↑x : Int))), ((13 : Nat), V.t (T.int IntKind.i64 (0 : Int)))] [Ob.box [V.ptr (1 : Nat) (1 : Nat) (0 : Nat) (0 : Nat), V.vec (4 : Nat) (0 : Nat) (1 : Nat) (0 : Nat) (0 : Nat), V.vec (2 : Nat) N (1 : Nat) (0 : Nat) N], Ob.box [V.t (T.seq (2 : Nat) (List.map Obj.ce h.objects)), V.t (T.seq (1 : Nat) (List.map intt h.roots))], Ob.vec true (1 : Nat) (ints (namesOf N [])), Ob.vec true (1 : Nat) (List.replicate x [C.t (T.int IntKind.i64 (0 : Int))]), Ob.vec true (1 : Nat) []] (3 : Nat))) (show (q2.length) = (ks.length) by simp [hln, ints, intc]))) (g))
  exact .tp [t0, t1, t2, t3, t4, t5] (by kernel_rfl)
end Go.Ev

/- Copies of heaps. -/
namespace Go.Ev
set_option linter.unusedVariables false
set_option linter.unusedSimpArgs false
open Go.Proofs
set_option maxRecDepth 100000
set_option linter.unusedVariables false
set_option maxHeartbeats 4000000
attribute [local simp] ints_takeC
@[simp] theorem ints_flat9 (fl : Bool) (n : Nat) (l : List Int) : Ob.flat (.vec fl n (ints l)) = true := by simp [Ob.flat, ints, intc, C.flat, T.flat]
@[simp] theorem rep_flat9 (fl : Bool) (n m : Nat) (k : Int) : Ob.flat (.vec fl n (List.replicate m [C.t (.int .i64 k)])) = true := by simp [Ob.flat, C.flat, T.flat]
theorem namesOf_nil (N : Nat) : namesOf N [] = List.replicate N (-1) := by
  apply List.ext_getElem?
  intro j
  simp only [namesOf, List.getElem?_map, List.getElem?_replicate]
  by_cases hj : j < N
  · rw [List.getElem?_range hj, if_pos hj]; rfl
  · rw [List.getElem?_eq_none (by simpa using hj), if_neg hj]; rfl
def chM (h : Hp) (l : List Int) (rt : List Int) (outs : List Obj) : List Ob :=
  [.box [osq h.objects, isq h.roots], .box [.t .nils, .t .nils], .box [.ptr 0 1 0 0, .vec 4 l.length 1 0 l.length, .vec 5 h.objects.length 1 0 h.objects.length], .box [.vec 6 outs.length 2 0 outs.length, .vec 7 rt.length 1 0 rt.length],
   .vec true 1 (ints l), .vec true 1 (ints (namesOf h.objects.length l)), .vec outs.isEmpty 2 (outs.map Obj.cc), .vec true 1 (ints rt)]
def chE (h : Hp) (l : List Int) (rt : List Int) (outs : List Obj) : List Ob :=
  [.box [.t .nils, .t .nils], .box [.ptr 3 1 0 0, .vec 4 l.length 1 0 l.length, .vec 5 h.objects.length 1 0 h.objects.length], .box [.vec 6 outs.length 2 0 outs.length, .vec 7 rt.length 1 0 rt.length],
   .box [osq h.objects, isq h.roots], .vec true 1 (ints l), .vec true 1 (ints (namesOf h.objects.length l)), .vec outs.isEmpty 2 (outs.map Obj.cc), .vec true 1 (ints rt)]
theorem outs_app (outs : List Obj) (o : Obj) : (outs ++ [o]).map Obj.cc = (outs.map Obj.cc).append [[C.t (.int .i64 o.mark), C.row 1 (o.links.map intt)]] := by simp [Obj.cc]
theorem outs_emp (outs : List Obj) (o : Obj) : (outs ++ [o]).isEmpty = false := by simp
theorem ints_get9 {l : List Int} {i : Nat} {k : Int} (h : l[i]? = some k) : (ints l)[i]? = some [C.t (.int .i64 k)] := by simp [ints, h, intc]
theorem obs_get9 {h : Hp} {k : Int} (h0 : 0 ≤ k) (h1 : k < h.objects.length) : lkp (h.objects.map Obj.ce) k = some (objAt h k).ce := by
  obtain ⟨n, rfl⟩ : ∃ n : Nat, k = n := ⟨k.toNat, by omega⟩
  have hn : n < h.objects.length := by omega
  simp [objAt, List.getD_eq_getElem?_getD, hn, lkp]
theorem copyL_ev (h : Hp) (hg : GoodH h) (rt : List Int) : ∀ (n i : Nat) (l : List Int) (outs : List Obj), done h n i l → outs.length = i → i ≤ l.length → l.Nodup → (∀ x ∈ l, 0 ≤ x ∧ x < h.objects.length) →
    Ev pr (.loop (lq pr 56 0) (at_ [(1, .ptr 0 1 0 0), (2, .ptr 1 1 0 0), (4, .ptr 2 1 0 0), (5, .ptr 3 1 0 0), (6, i64 i)] (chM h l rt outs) 0))
      (.exit 0 (at_ [(2, .ptr 0 1 0 0), (4, .ptr 1 1 0 0), (5, .ptr 2 1 0 0)] (chE h (copyGo h n i l).1 rt (outs ++ (copyGo h n i l).2)) 0))
  | 0, i, l, outs, hd, ho, hi, hn, hb => by
    have hd' : l.length ≤ i := hd
    have hl := nodup_len _ l hn hb
    have hc : copyGo h 0 i l = (l, []) := rfl
    rw [hc]
    have he : l.length = i := by omega
    have h1 := hg.objs
    let t1 : Tp pr := .b (show (decide ((↑i : Int) < (↑l.length : Int))) = false by (simp; omega))
    exact .tpe [.i (rfl : ((↑l.length : Int)) = _), t1] (Out.exit (0 : Nat) (at_ [((2 : Nat), V.ptr (0 : Nat) (1 : Nat) (0 : Nat) (0 : Nat)), ((4 : Nat), V.ptr (1 : Nat) (1 : Nat) (0 : Nat) (0 : Nat)), ((5 : Nat), V.ptr (2 : Nat) (1 : Nat) (0 : Nat) (0 : Nat))] [Ob.box [V.t T.nils, V.t T.nils], Ob.box [V.ptr (3 : Nat) (1 : Nat) (0 : Nat) (0 : Nat), V.vec (4 : Nat) l.length (1 : Nat) (0 : Nat) l.length, V.vec (5 : Nat) h.objects.length (1 : Nat) (0 : Nat) h.objects.length], Ob.box [V.vec (6 : Nat) outs.length (2 : Nat) (0 : Nat) outs.length, V.vec (7 : Nat) rt.length (1 : Nat) (0 : Nat) rt.length], Ob.box [V.t (T.seq (2 : Nat) (List.map Obj.ce h.objects)), V.t (T.seq (1 : Nat) (List.map intt h.roots))], Ob.vec true (1 : Nat) (ints l), Ob.vec true (1 : Nat) (ints (namesOf h.objects.length l)), Ob.vec outs.isEmpty (2 : Nat) (List.map Obj.cc outs), Ob.vec true (1 : Nat) (ints rt)] (0 : Nat))) (by kernel_rfl) ((((((((congrArg (fun x => Out.exit (0 : Nat) (at_ [((2 : Nat), V.ptr (0 : Nat) (1 : Nat) (0 : Nat) (0 : Nat)), ((4 : Nat), V.ptr (1 : Nat) (1 : Nat) (0 : Nat) (0 : Nat)), ((5 : Nat), V.ptr (2 : Nat) (1 : Nat) (0 : Nat) (0 : Nat))] [Ob.box [V.t T.nils, V.t T.nils], Ob.box [V.ptr (3 : Nat) (1 : Nat) (0 : Nat) (0 : Nat), V.vec (4 : Nat) x (1 : Nat) (0 : Nat) l.length, V.vec (5 : Nat) h.objects.length (1 : Nat) (0 : Nat) h.objects.length], Ob.box [V.vec (6 : Nat) outs.length (2 : Nat) (0 : Nat) outs.length, V.vec (7 : Nat) rt.length (1 : Nat) (0 : Nat) rt.length], Ob.box [V.t (T.seq (2 : Nat) (List.map Obj.ce h.objects)), V.t (T.seq (1 : Nat) (List.map intt h.roots))], Ob.vec true (1 : Nat) (ints l), Ob.vec true (1 : Nat) (ints (namesOf h.objects.length l)), Ob.vec outs.isEmpty (2 : Nat) (List.map Obj.cc outs), Ob.vec true (1 : Nat) (ints rt)] (0 : Nat))) (show (l.length) = ((l, []).fst.length) by simp)).trans (congrArg (fun x => Out.exit (0 : Nat) (at_ [((2 : Nat), V.ptr (0 : Nat) (1 : Nat) (0 : Nat) (0 : Nat)), ((4 : Nat), V.ptr (1 : Nat) (1 : Nat) (0 : Nat) (0 : Nat)), ((5 : Nat), V.ptr (2 : Nat) (1 : Nat) (0 : Nat) (0 : Nat))] [Ob.box [V.t T.nils, V.t T.nils], Ob.box [V.ptr (3 : Nat) (1 : Nat) (0 : Nat) (0 : Nat), V.vec (4 : Nat) (l, []).fst.length (1 : Nat) (0 : Nat) x, V.vec (5 : Nat) h.objects.length (1 : Nat) (0 : Nat) h.objects.length], Ob.box [V.vec (6 : Nat) outs.length (2 : Nat) (0 : Nat) outs.length, V.vec (7 : Nat) rt.length (1 : Nat) (0 : Nat) rt.length], Ob.box [V.t (T.seq (2 : Nat) (List.map Obj.ce h.objects)), V.t (T.seq (1 : Nat) (List.map intt h.roots))], Ob.vec true (1 : Nat) (ints l), Ob.vec true (1 : Nat) (ints (namesOf h.objects.length l)), Ob.vec outs.isEmpty (2 : Nat) (List.map Obj.cc outs), Ob.vec true (1 : Nat) (ints rt)] (0 : Nat))) (show (l.length) = ((l, []).fst.length) by simp))).trans (congrArg (fun x => Out.exit (0 : Nat) (at_ [((2 : Nat), V.ptr (0 : Nat) (1 : Nat) (0 : Nat) (0 : Nat)), ((4 : Nat), V.ptr (1 : Nat) (1 : Nat) (0 : Nat) (0 : Nat)), ((5 : Nat), V.ptr (2 : Nat) (1 : Nat) (0 : Nat) (0 : Nat))] [Ob.box [V.t T.nils, V.t T.nils], Ob.box [V.ptr (3 : Nat) (1 : Nat) (0 : Nat) (0 : Nat), V.vec (4 : Nat) (l, []).fst.length (1 : Nat) (0 : Nat) (l, []).fst.length, V.vec (5 : Nat) h.objects.length (1 : Nat) (0 : Nat) h.objects.length], Ob.box [V.vec (6 : Nat) x (2 : Nat) (0 : Nat) outs.length, V.vec (7 : Nat) rt.length (1 : Nat) (0 : Nat) rt.length], Ob.box [V.t (T.seq (2 : Nat) (List.map Obj.ce h.objects)), V.t (T.seq (1 : Nat) (List.map intt h.roots))], Ob.vec true (1 : Nat) (ints l), Ob.vec true (1 : Nat) (ints (namesOf h.objects.length l)), Ob.vec outs.isEmpty (2 : Nat) (List.map Obj.cc outs), Ob.vec true (1 : Nat) (ints rt)] (0 : Nat))) (show (outs.length) = ((outs ++ (l, []).snd).length) by simp))).trans (congrArg (fun x => Out.exit (0 : Nat) (at_ [((2 : Nat), V.ptr (0 : Nat) (1 : Nat) (0 : Nat) (0 : Nat)), ((4 : Nat), V.ptr (1 : Nat) (1 : Nat) (0 : Nat) (0 : Nat)), ((5 : Nat), V.ptr (2 : Nat) (1 : Nat) (0 : Nat) (0 : Nat))] [Ob.box [V.t T.nils, V.t T.nils], Ob.box [V.ptr (3 : Nat) (1 : Nat) (0 : Nat) (0 : Nat), V.vec (4 : Nat) (l, []).fst.length (1 : Nat) (0 : Nat) (l, []).fst.length, V.vec (5 : Nat) h.objects.length (1 : Nat) (0 : Nat) h.objects.length], Ob.box [V.vec (6 : Nat) (outs ++ (l, []).snd).length (2 : Nat) (0 : Nat) x, V.vec (7 : Nat) rt.length (1 : Nat) (0 : Nat) rt.length], Ob.box [V.t (T.seq (2 : Nat) (List.map Obj.ce h.objects)), V.t (T.seq (1 : Nat) (List.map intt h.roots))], Ob.vec true (1 : Nat) (ints l), Ob.vec true (1 : Nat) (ints (namesOf h.objects.length l)), Ob.vec outs.isEmpty (2 : Nat) (List.map Obj.cc outs), Ob.vec true (1 : Nat) (ints rt)] (0 : Nat))) (show (outs.length) = ((outs ++ (l, []).snd).length) by simp))).trans (congrArg (fun x => Out.exit (0 : Nat) (at_ [((2 : Nat), V.ptr (0 : Nat) (1 : Nat) (0 : Nat) (0 : Nat)), ((4 : Nat), V.ptr (1 : Nat) (1 : Nat) (0 : Nat) (0 : Nat)), ((5 : Nat), V.ptr (2 : Nat) (1 : Nat) (0 : Nat) (0 : Nat))] [Ob.box [V.t T.nils, V.t T.nils], Ob.box [V.ptr (3 : Nat) (1 : Nat) (0 : Nat) (0 : Nat), V.vec (4 : Nat) (l, []).fst.length (1 : Nat) (0 : Nat) (l, []).fst.length, V.vec (5 : Nat) h.objects.length (1 : Nat) (0 : Nat) h.objects.length], Ob.box [V.vec (6 : Nat) (outs ++ (l, []).snd).length (2 : Nat) (0 : Nat) (outs ++ (l, []).snd).length, V.vec (7 : Nat) rt.length (1 : Nat) (0 : Nat) rt.length], Ob.box [V.t (T.seq (2 : Nat) (List.map Obj.ce h.objects)), V.t (T.seq (1 : Nat) (List.map intt h.roots))], Ob.vec true (1 : Nat) x, Ob.vec true (1 : Nat) (ints (namesOf h.objects.length l)), Ob.vec outs.isEmpty (2 : Nat) (List.map Obj.cc outs), Ob.vec true (1 : Nat) (ints rt)] (0 : Nat))) (show (ints l) = (ints (l, []).fst) by simp))).trans (congrArg (fun x => Out.exit (0 : Nat) (at_ [((2 : Nat), V.ptr (0 : Nat) (1 : Nat) (0 : Nat) (0 : Nat)), ((4 : Nat), V.ptr (1 : Nat) (1 : Nat) (0 : Nat) (0 : Nat)), ((5 : Nat), V.ptr (2 : Nat) (1 : Nat) (0 : Nat) (0 : Nat))] [Ob.box [V.t T.nils, V.t T.nils], Ob.box [V.ptr (3 : Nat) (1 : Nat) (0 : Nat) (0 : Nat), V.vec (4 : Nat) (l, []).fst.length (1 : Nat) (0 : Nat) (l, []).fst.length, V.vec (5 : Nat) h.objects.length (1 : Nat) (0 : Nat) h.objects.length], Ob.box [V.vec (6 : Nat) (outs ++ (l, []).snd).length (2 : Nat) (0 : Nat) (outs ++ (l, []).snd).length, V.vec (7 : Nat) rt.length (1 : Nat) (0 : Nat) rt.length], Ob.box [V.t (T.seq (2 : Nat) (List.map Obj.ce h.objects)), V.t (T.seq (1 : Nat) (List.map intt h.roots))], Ob.vec true (1 : Nat) (ints (l, []).fst), Ob.vec true (1 : Nat) x, Ob.vec outs.isEmpty (2 : Nat) (List.map Obj.cc outs), Ob.vec true (1 : Nat) (ints rt)] (0 : Nat))) (show (ints (namesOf h.objects.length l)) = (ints (namesOf h.objects.length (l, []).fst)) by simp))).trans (congrArg (fun x => Out.exit (0 : Nat) (at_ [((2 : Nat), V.ptr (0 : Nat) (1 : Nat) (0 : Nat) (0 : Nat)), ((4 : Nat), V.ptr (1 : Nat) (1 : Nat) (0 : Nat) (0 : Nat)), ((5 : Nat), V.ptr (2 : Nat) (1 : Nat) (0 : Nat) (0 : Nat))] [Ob.box [V.t T.nils, V.t T.nils], Ob.box [V.ptr (3 : Nat) (1 : Nat) (0 : Nat) (0 : Nat), V.vec (4 : Nat) (l, []).fst.length (1 : Nat) (0 : Nat) (l, []).fst.length, V.vec (5 : Nat) h.objects.length (1 : Nat) (0 : Nat) h.objects.length], Ob.box [V.vec (6 : Nat) (outs ++ (l, []).snd).length (2 : Nat) (0 : Nat) (outs ++ (l, []).snd).length, V.vec (7 : Nat) rt.length (1 : Nat) (0 : Nat) rt.length], Ob.box [V.t (T.seq (2 : Nat) (List.map Obj.ce h.objects)), V.t (T.seq (1 : Nat) (List.map intt h.roots))], Ob.vec true (1 : Nat) (ints (l, []).fst), Ob.vec true (1 : Nat) (ints (namesOf h.objects.length (l, []).fst)), Ob.vec x (2 : Nat) (List.map Obj.cc outs), Ob.vec true (1 : Nat) (ints rt)] (0 : Nat))) (show (outs.isEmpty) = ((outs ++ (l, []).snd).isEmpty) by simp))).trans (congrArg (fun x => Out.exit (0 : Nat) (at_ [((2 : Nat), V.ptr (0 : Nat) (1 : Nat) (0 : Nat) (0 : Nat)), ((4 : Nat), V.ptr (1 : Nat) (1 : Nat) (0 : Nat) (0 : Nat)), ((5 : Nat), V.ptr (2 : Nat) (1 : Nat) (0 : Nat) (0 : Nat))] [Ob.box [V.t T.nils, V.t T.nils], Ob.box [V.ptr (3 : Nat) (1 : Nat) (0 : Nat) (0 : Nat), V.vec (4 : Nat) (l, []).fst.length (1 : Nat) (0 : Nat) (l, []).fst.length, V.vec (5 : Nat) h.objects.length (1 : Nat) (0 : Nat) h.objects.length], Ob.box [V.vec (6 : Nat) (outs ++ (l, []).snd).length (2 : Nat) (0 : Nat) (outs ++ (l, []).snd).length, V.vec (7 : Nat) rt.length (1 : Nat) (0 : Nat) rt.length], Ob.box [V.t (T.seq (2 : Nat) (List.map Obj.ce h.objects)), V.t (T.seq (1 : Nat) (List.map intt h.roots))], Ob.vec true (1 : Nat) (ints (l, []).fst), Ob.vec true (1 : Nat) (ints (namesOf h.objects.length (l, []).fst)), Ob.vec (outs ++ (l, []).snd).isEmpty (2 : Nat) x, Ob.vec true (1 : Nat) (ints rt)] (0 : Nat))) (show (List.map Obj.cc outs) = (List.map Obj.cc (outs ++ (l, []).snd)) by simp)))
  | n + 1, i, l, outs, hd, ho, hi, hn, hb => by
    have hl := nodup_len _ l hn hb
    have h1 := hg.objs
    cases hk : l[i]? with
    | none =>
      have he : l.length ≤ i := List.getElem?_eq_none_iff.1 hk
      have he : l.length = i := by omega
      have hc : copyGo h (n + 1) i l = (l, []) := by rw [copyGo, hk]
      rw [hc]
      let t1 : Tp pr := .b (show (decide ((↑i : Int) < (↑l.length : Int))) = false by (simp; omega))
      exact .tpe [.i (rfl : ((↑l.length : Int)) = _), t1] (Out.exit (0 : Nat) (at_ [((2 : Nat), V.ptr (0 : Nat) (1 : Nat) (0 : Nat) (0 : Nat)), ((4 : Nat), V.ptr (1 : Nat) (1 : Nat) (0 : Nat) (0 : Nat)), ((5 : Nat), V.ptr (2 : Nat) (1 : Nat) (0 : Nat) (0 : Nat))] [Ob.box [V.t T.nils, V.t T.nils], Ob.box [V.ptr (3 : Nat) (1 : Nat) (0 : Nat) (0 : Nat), V.vec (4 : Nat) l.length (1 : Nat) (0 : Nat) l.length, V.vec (5 : Nat) h.objects.length (1 : Nat) (0 : Nat) h.objects.length], Ob.box [V.vec (6 : Nat) outs.length (2 : Nat) (0 : Nat) outs.length, V.vec (7 : Nat) rt.length (1 : Nat) (0 : Nat) rt.length], Ob.box [V.t (T.seq (2 : Nat) (List.map Obj.ce h.objects)), V.t (T.seq (1 : Nat) (List.map intt h.roots))], Ob.vec true (1 : Nat) (ints l), Ob.vec true (1 : Nat) (ints (namesOf h.objects.length l)), Ob.vec outs.isEmpty (2 : Nat) (List.map Obj.cc outs), Ob.vec true (1 : Nat) (ints rt)] (0 : Nat))) (by kernel_rfl) ((((((((congrArg (fun x => Out.exit (0 : Nat) (at_ [((2 : Nat), V.ptr (0 : Nat) (1 : Nat) (0 : Nat) (0 : Nat)), ((4 : Nat), V.ptr (1 : Nat) (1 : Nat) (0 : Nat) (0 : Nat)), ((5 : Nat), V.ptr (2 : Nat) (1 : Nat) (0 : Nat) (0 : Nat))] [Ob.box [V.t T.nils, V.t T.nils], Ob.box [V.ptr (3 : Nat) (1 : Nat) (0 : Nat) (0 : Nat), V.vec (4 : Nat) x (1 : Nat) (0 : Nat) l.length, V.vec (5 : Nat) h.objects.length (1 : Nat) (0 : Nat) h.objects.length], Ob.box [V.vec (6 : Nat) outs.length (2 : Nat) (0 : Nat) outs.length, V.vec (7 : Nat) rt.length (1 : Nat) (0 : Nat) rt.length], Ob.box [V.t (T.seq (2 : Nat) (List.map Obj.ce h.objects)), V.t (T.seq (1 : Nat) (List.map intt h.roots))], Ob.vec true (1 : Nat) (ints l), Ob.vec true (1 : Nat) (ints (namesOf h.objects.length l)), Ob.vec outs.isEmpty (2 : Nat) (List.map Obj.cc outs), Ob.vec true (1 : Nat) (ints rt)] (0 : Nat))) (show (l.length) = ((l, []).fst.length) by simp)).trans (congrArg (fun x => Out.exit (0 : Nat) (at_ [((2 : Nat), V.ptr (0 : Nat) (1 : Nat) (0 : Nat) (0 : Nat)), ((4 : Nat), V.ptr (1 : Nat) (1 : Nat) (0 : Nat) (0 : Nat)), ((5 : Nat), V.ptr (2 : Nat) (1 : Nat) (0 : Nat) (0 : Nat))] [Ob.box [V.t T.nils, V.t T.nils], Ob.box [V.ptr (3 : Nat) (1 : Nat) (0 : Nat) (0 : Nat), V.vec (4 : Nat) (l, []).fst.length (1 : Nat) (0 : Nat) x, V.vec (5 : Nat) h.objects.length (1 : Nat) (0 : Nat) h.objects.length], Ob.box [V.vec (6 : Nat) outs.length (2 : Nat) (0 : Nat) outs.length, V.vec (7 : Nat) rt.length (1 : Nat) (0 : Nat) rt.length], Ob.box [V.t (T.seq (2 : Nat) (List.map Obj.ce h.objects)), V.t (T.seq (1 : Nat) (List.map intt h.roots))], Ob.vec true (1 : Nat) (ints l), Ob.vec true (1 : Nat) (ints (namesOf h.objects.length l)), Ob.vec outs.isEmpty (2 : Nat) (List.map Obj.cc outs), Ob.vec true (1 : Nat) (ints rt)] (0 : Nat))) (show (l.length) = ((l, []).fst.length) by simp))).trans (congrArg (fun x => Out.exit (0 : Nat) (at_ [((2 : Nat), V.ptr (0 : Nat) (1 : Nat) (0 : Nat) (0 : Nat)), ((4 : Nat), V.ptr (1 : Nat) (1 : Nat) (0 : Nat) (0 : Nat)), ((5 : Nat), V.ptr (2 : Nat) (1 : Nat) (0 : Nat) (0 : Nat))] [Ob.box [V.t T.nils, V.t T.nils], Ob.box [V.ptr (3 : Nat) (1 : Nat) (0 : Nat) (0 : Nat), V.vec (4 : Nat) (l, []).fst.length (1 : Nat) (0 : Nat) (l, []).fst.length, V.vec (5 : Nat) h.objects.length (1 : Nat) (0 : Nat) h.objects.length], Ob.box [V.vec (6 : Nat) x (2 : Nat) (0 : Nat) outs.length, V.vec (7 : Nat) rt.length (1 : Nat) (0 : Nat) rt.length], Ob.box [V.t (T.seq (2 : Nat) (List.map Obj.ce h.objects)), V.t (T.seq (1 : Nat) (List.map intt h.roots))], Ob.vec true (1 : Nat) (ints l), Ob.vec true (1 : Nat) (ints (namesOf h.objects.length l)), Ob.vec outs.isEmpty (2 : Nat) (List.map Obj.cc outs), Ob.vec true (1 : Nat) (ints rt)] (0 : Nat))) (show (outs.length) = ((outs ++ (l, []).snd).length) by simp))).trans (congrArg (fun x => Out.exit (0 : Nat) (at_ [((2 : Nat), V.ptr (0 : Nat) (1 : Nat) (0 : Nat) (0 : Nat)), ((4 : Nat), V.ptr (1 : Nat) (1 : Nat) (0 : Nat) (0 : Nat)), ((5 : Nat), V.ptr (2 : Nat) (1 : Nat) (0 : Nat) (0 : Nat))] [Ob.box [V.t T.nils, V.t T.nils], Ob.box [V.ptr (3 : Nat) (1 : Nat) (0 : Nat) (0 : Nat), V.vec (4 : Nat) (l, []).fst.length (1 : Nat) (0 : Nat) (l, []).fst.length, V.vec (5 : Nat) h.objects.length (1 : Nat) (0 : Nat) h.objects.length], Ob.box [V.vec (6 : Nat) (outs ++ (l, []).snd).length (2 : Nat) (0 : Nat) x, V.vec (7 : Nat) rt.length (1 : Nat) (0 : Nat) rt.length], Ob.box [V.t (T.seq (2 : Nat) (List.map Obj.ce h.objects)), V.t (T.seq (1 : Nat) (List.map intt h.roots))], Ob.vec true (1 : Nat) (ints l), Ob.vec true (1 : Nat) (ints (namesOf h.objects.length l)), Ob.vec outs.isEmpty (2 : Nat) (List.map Obj.cc outs), Ob.vec true (1 : Nat) (ints rt)] (0 : Nat))) (show (outs.length) = ((outs ++ (l, []).snd).length) by simp))).trans (congrArg (fun x => Out.exit (0 : Nat) (at_ [((2 : Nat), V.ptr (0 : Nat) (1 : Nat) (0 : Nat) (0 : Nat)), ((4 : Nat), V.ptr (1 : Nat) (1 : Nat) (0 : Nat) (0 : Nat)), ((5 : Nat), V.ptr (2 : Nat) (1 : Nat) (0 : Nat) (0 : Nat))] [Ob.box [V.t T.nils, V.t T.nils], Ob.box [V.ptr (3 : Nat) (1 : Nat) (0 : Nat) (0 : Nat), V.vec (4 : Nat) (l, []).fst.length (1 : Nat) (0 : Nat) (l, []).fst.length, V.vec (5 : Nat) h.objects.length (1 : Nat) (0 : Nat) h.objects.length], Ob.box [V.vec (6 : Nat) (outs ++ (l, []).snd).length (2 : Nat) (0 : Nat) (outs ++ (l, []).snd).length, V.vec (7 : Nat) rt.length (1 : Nat) (0 : Nat) rt.length], Ob.box [V.t (T.seq (2 : Nat) (List.map Obj.ce h.objects)), V.t (T.seq (1 : Nat) (List.map intt h.roots))], Ob.vec true (1 : Nat) x, Ob.vec true (1 : Nat) (ints (namesOf h.objects.length l)), Ob.vec outs.isEmpty (2 : Nat) (List.map Obj.cc outs), Ob.vec true (1 : Nat) (ints rt)] (0 : Nat))) (show (ints l) = (ints (l, []).fst) by simp))).trans (congrArg (fun x => Out.exit (0 : Nat) (at_ [((2 : Nat), V.ptr (0 : Nat) (1 : Nat) (0 : Nat) (0 : Nat)), ((4 : Nat), V.ptr (1 : Nat) (1 : Nat) (0 : Nat) (0 : Nat)), ((5 : Nat), V.ptr (2 : Nat) (1 : Nat) (0 : Nat) (0 : Nat))] [Ob.box [V.t T.nils, V.t T.nils], Ob.box [V.ptr (3 : Nat) (1 : Nat) (0 : Nat) (0 : Nat), V.vec (4 : Nat) (l, []).fst.length (1 : Nat) (0 : Nat) (l, []).fst.length, V.vec (5 : Nat) h.objects.length (1 : Nat) (0 : Nat) h.objects.length], Ob.box [V.vec (6 : Nat) (outs ++ (l, []).snd).length (2 : Nat) (0 : Nat) (outs ++ (l, []).snd).length, V.vec (7 : Nat) rt.length (1 : Nat) (0 : Nat) rt.length], Ob.box [V.t (T.seq (2 : Nat) (List.map Obj.ce h.objects)), V.t (T.seq (1 : Nat) (List.map intt h.roots))], Ob.vec true (1 : Nat) (ints (l, []).fst), Ob.vec true (1 : Nat) x, Ob.vec outs.isEmpty (2 : Nat) (List.map Obj.cc outs), Ob.vec true (1 : Nat) (ints rt)] (0 : Nat))) (show (ints (namesOf h.objects.length l)) = (ints (namesOf h.objects.length (l, []).fst)) by simp))).trans (congrArg (fun x => Out.exit (0 : Nat) (at_ [((2 : Nat), V.ptr (0 : Nat) (1 : Nat) (0 : Nat) (0 : Nat)), ((4 : Nat), V.ptr (1 : Nat) (1 : Nat) (0 : Nat) (0 : Nat)), ((5 : Nat), V.ptr (2 : Nat) (1 : Nat) (0 : Nat) (0 : Nat))] [Ob.box [V.t T.nils, V.t T.nils], Ob.box [V.ptr (3 : Nat) (1 : Nat) (0 : Nat) (0 : Nat), V.vec (4 : Nat) (l, []).fst.length (1 : Nat) (0 : Nat) (l, []).fst.length, V.vec (5 : Nat) h.objects.length (1 : Nat) (0 : Nat) h.objects.length], Ob.box [V.vec (6 : Nat) (outs ++ (l, []).snd).length (2 : Nat) (0 : Nat) (outs ++ (l, []).snd).length, V.vec (7 : Nat) rt.length (1 : Nat) (0 : Nat) rt.length], Ob.box [V.t (T.seq (2 : Nat) (List.map Obj.ce h.objects)), V.t (T.seq (1 : Nat) (List.map intt h.roots))], Ob.vec true (1 : Nat) (ints (l, []).fst), Ob.vec true (1 : Nat) (ints (namesOf h.objects.length (l, []).fst)), Ob.vec x (2 : Nat) (List.map Obj.cc outs), Ob.vec true (1 : Nat) (ints rt)] (0 : Nat))) (show (outs.isEmpty) = ((outs ++ (l, []).snd).isEmpty) by simp))).trans (congrArg (fun x => Out.exit (0 : Nat) (at_ [((2 : Nat), V.ptr (0 : Nat) (1 : Nat) (0 : Nat) (0 : Nat)), ((4 : Nat), V.ptr (1 : Nat) (1 : Nat) (0 : Nat) (0 : Nat)), ((5 : Nat), V.ptr (2 : Nat) (1 : Nat) (0 : Nat) (0 : Nat))] [Ob.box [V.t T.nils, V.t T.nils], Ob.box [V.ptr (3 : Nat) (1 : Nat) (0 : Nat) (0 : Nat), V.vec (4 : Nat) (l, []).fst.length (1 : Nat) (0 : Nat) (l, []).fst.length, V.vec (5 : Nat) h.objects.length (1 : Nat) (0 : Nat) h.objects.length], Ob.box [V.vec (6 : Nat) (outs ++ (l, []).snd).length (2 : Nat) (0 : Nat) (outs ++ (l, []).snd).length, V.vec (7 : Nat) rt.length (1 : Nat) (0 : Nat) rt.length], Ob.box [V.t (T.seq (2 : Nat) (List.map Obj.ce h.objects)), V.t (T.seq (1 : Nat) (List.map intt h.roots))], Ob.vec true (1 : Nat) (ints (l, []).fst), Ob.vec true (1 : Nat) (ints (namesOf h.objects.length (l, []).fst)), Ob.vec (outs ++ (l, []).snd).isEmpty (2 : Nat) x, Ob.vec true (1 : Nat) (ints rt)] (0 : Nat))) (show (List.map Obj.cc outs) = (List.map Obj.cc (outs ++ (l, []).snd)) by simp)))
    | some k =>
      have hlt : i < l.length := (List.getElem?_eq_some_iff.1 hk).1
      have hkb := hb k (List.mem_of_getElem? hk)
      have hm := objAt_mem hkb.1 hkb.2
      have hc : copyGo h (n + 1) i l = ((copyGo h n (i + 1) (nameGo l (objAt h k).links).1).1, ⟨(objAt h k).mark, (nameGo l (objAt h k).links).2⟩ :: (copyGo h n (i + 1) (nameGo l (objAt h k).links).1).2) := by rw [copyGo, hk]
      have hd' : done h n (i + 1) (pushAll l (objAt h k).links) := by
        unfold done at hd
        rw [hk] at hd
        exact hd
      have hlk := hg.links _ hm
      have hlm := hg.llen _ hm
      have g1 := ints_get9 hk
      have g2 := obs_get9 hkb.1 hkb.2
      have c1 := all_ev h h.objects.length h1 (objAt h k).links l (by omega) (fun x hx => (hlk x hx).2) (by omega) (fun x hx => (hb x hx).1)
      have ih := copyL_ev h hg rt n (i + 1) (nameGo l (objAt h k).links).1 (outs ++ [⟨(objAt h k).mark, (nameGo l (objAt h k).links).2⟩])
        (by rw [nameGo_order]; exact hd') (by simp [ho]) (by have := nameGo_ge (objAt h k).links l; omega)
        (by rw [nameGo_order]; exact pushAll_nodup _ _ hn) (by rw [nameGo_order]; exact pushAll_bd _ _ hb fun x hx => (hlk x hx).2)
      rw [hc]
      simp only [chM, outs_app, outs_emp, List.length_append, List.length_singleton] at ih
      let t1 : Tp pr := .b (show (decide ((↑i : Int) < (↑l.length : Int))) = true by (simp; omega))
      let t7 : Tp pr := .m (show (decide ((0 : Int) ≤ (↑i : Int) ∧ (↑i : Int).toNat < l.length)) = true by simp [*])
      let t8 : Tp pr := .c (show ((0 : Nat) + (↑i : Int).toNat : Nat) = i by omega)
      let t10 : Tp pr := .m (show (decide ((ints l).length = l.length)) = true by simp)
      let t11 : Tp pr := .g .crow (show ((ints l)[i]?) = some ([C.t (T.int IntKind.i64 k)]) from g1)
      let t13 : Tp pr := .g .row (show (lkp (List.map Obj.ce h.objects) k) = some ((objAt h k).ce) from g2)
      let t27 : Tp pr := .m (show (decide ((ints (nameGo l (objAt h k).links).snd).length = (nameGo l (objAt h k).links).snd.length ∧ (nameGo l (objAt h k).links).snd.length ≤ (nameGo l (objAt h k).links).snd.length)) = true by simp)
      let t29 : Tp pr := .g .crow (show (some [C.t (T.int IntKind.i64 (objAt h k).mark), C.t T.nils]) = some ([C.t (T.int IntKind.i64 (objAt h k).mark), C.t T.nils]) by simp)
      let t30 : Tp pr := .n .rows (show (List.map (fun x => List.map C.fz x) (List.take (nameGo l (objAt h k).links).snd.length (ints (nameGo l (objAt h k).links).snd))) = List.map intt (nameGo l (objAt h k).links).snd by simp)
      let t31 : Tp pr := .n .crows (show ([[C.t (T.int IntKind.i64 (objAt h k).mark), C.t T.nils]].set (0 : Nat) [C.t (T.int IntKind.i64 (objAt h k).mark), C.row (1 : Nat) (List.map intt (nameGo l (objAt h k).links).snd)]) = [[C.t (T.int IntKind.i64 (objAt h k).mark), C.row (1 : Nat) (List.map intt (nameGo l (objAt h k).links).snd)]] by simp)
      let t34 : Tp pr := .m (show (decide ((List.map Obj.cc outs).length = outs.length ∧ outs.length = outs.length ∧ outs.length + (1 : Nat) ≤ (4294967296 : Nat))) = true by (simp; omega))
      let t35 : Tp pr := .c (rfl : (outs.length + (1 : Nat)) = _)
      let t36 : Tp pr := .n .crows (show ((List.map Obj.cc outs).append [[C.t (T.int IntKind.i64 (objAt h k).mark), C.row (1 : Nat) (List.map intt (nameGo l (objAt h k).links).snd)]]) = List.map Obj.cc outs ++ [[C.t (T.int IntKind.i64 (objAt h k).mark), C.row (1 : Nat) (List.map intt (nameGo l (objAt h k).links).snd)]] by simp)
      let t40 : Tp pr := .i (wrap_i64 (a := (↑i : Int) + (1 : Int)) (by omega) (by omega))
      exact .tpe [.i (rfl : ((↑l.length : Int)) = _), t1, .m (rfl : true = true), .m (rfl : true = true), .m (rfl : true = true), .m (rfl : true = true), .m (rfl : true = true), t7, t8, .m (rfl : true = true), t10, t11, .m (rfl : true = true), t13, .m (rfl : true = true), .m (rfl : true = true), .m (rfl : true = true), .m (rfl : true = true), .m (rfl : true = true), .m (rfl : true = true), .m (rfl : true = true), .m (rfl : true = true), .m (rfl : true = true), .m (rfl : true = true), .a (c1), .m (rfl : true = true), .m (rfl : true = true), t27, .m (rfl : true = true), t29, t30, t31, .m (rfl : true = true), .m (rfl : true = true), t34, t35, t36, .m (rfl : true = true), .m (rfl : true = true), .m (rfl : true = true), t40, .a (ih)] (Out.exit (0 : Nat) (at_ [((2 : Nat), V.ptr (0 : Nat) (1 : Nat) (0 : Nat) (0 : Nat)), ((4 : Nat), V.ptr (1 : Nat) (1 : Nat) (0 : Nat) (0 : Nat)), ((5 : Nat), V.ptr (2 : Nat) (1 : Nat) (0 : Nat) (0 : Nat))] [Ob.box [V.t T.nils, V.t T.nils], Ob.box [V.ptr (3 : Nat) (1 : Nat) (0 : Nat) (0 : Nat), V.vec (4 : Nat) (copyGo h n (i + (1 : Nat)) (nameGo l (objAt h k).links).fst).fst.length (1 : Nat) (0 : Nat) (copyGo h n (i + (1 : Nat)) (nameGo l (objAt h k).links).fst).fst.length, V.vec (5 : Nat) h.objects.length (1 : Nat) (0 : Nat) h.objects.length], Ob.box [V.vec (6 : Nat) (outs ++ [Obj.mk (objAt h k).mark (nameGo l (objAt h k).links).snd] ++ (copyGo h n (i + (1 : Nat)) (nameGo l (objAt h k).links).fst).snd).length (2 : Nat) (0 : Nat) (outs ++ [Obj.mk (objAt h k).mark (nameGo l (objAt h k).links).snd] ++ (copyGo h n (i + (1 : Nat)) (nameGo l (objAt h k).links).fst).snd).length, V.vec (7 : Nat) rt.length (1 : Nat) (0 : Nat) rt.length], Ob.box [V.t (T.seq (2 : Nat) (List.map Obj.ce h.objects)), V.t (T.seq (1 : Nat) (List.map intt h.roots))], Ob.vec true (1 : Nat) (ints (copyGo h n (i + (1 : Nat)) (nameGo l (objAt h k).links).fst).fst), Ob.vec true (1 : Nat) (ints (namesOf h.objects.length (copyGo h n (i + (1 : Nat)) (nameGo l (objAt h k).links).fst).fst)), Ob.vec (outs ++ [Obj.mk (objAt h k).mark (nameGo l (objAt h k).links).snd] ++ (copyGo h n (i + (1 : Nat)) (nameGo l (objAt h k).links).fst).snd).isEmpty (2 : Nat) (List.map Obj.cc (outs ++ [Obj.mk (objAt h k).mark (nameGo l (objAt h k).links).snd] ++ (copyGo h n (i + (1 : Nat)) (nameGo l (objAt h k).links).fst).snd)), Ob.vec true (1 : Nat) (ints rt)] (0 : Nat))) (by kernel_rfl) ((((((((congrArg (fun x => Out.exit (0 : Nat) (at_ [((2 : Nat), V.ptr (0 : Nat) (1 : Nat) (0 : Nat) (0 : Nat)), ((4 : Nat), V.ptr (1 : Nat) (1 : Nat) (0 : Nat) (0 : Nat)), ((5 : Nat), V.ptr (2 : Nat) (1 : Nat) (0 : Nat) (0 : Nat))] [Ob.box [V.t T.nils, V.t T.nils], Ob.box [V.ptr (3 : Nat) (1 : Nat) (0 : Nat) (0 : Nat), V.vec (4 : Nat) x (1 : Nat) (0 : Nat) (copyGo h n (i + (1 : Nat)) (nameGo l (objAt h k).links).fst).fst.length, V.vec (5 : Nat) h.objects.length (1 : Nat) (0 : Nat) h.objects.length], Ob.box [V.vec (6 : Nat) (outs ++ [Obj.mk (objAt h k).mark (nameGo l (objAt h k).links).snd] ++ (copyGo h n (i + (1 : Nat)) (nameGo l (objAt h k).links).fst).snd).length (2 : Nat) (0 : Nat) (outs ++ [Obj.mk (objAt h k).mark (nameGo l (objAt h k).links).snd] ++ (copyGo h n (i + (1 : Nat)) (nameGo l (objAt h k).links).fst).snd).length, V.vec (7 : Nat) rt.length (1 : Nat) (0 : Nat) rt.length], Ob.box [V.t (T.seq (2 : Nat) (List.map Obj.ce h.objects)), V.t (T.seq (1 : Nat) (List.map intt h.roots))], Ob.vec true (1 : Nat) (ints (copyGo h n (i + (1 : Nat)) (nameGo l (objAt h k).links).fst).fst), Ob.vec true (1 : Nat) (ints (namesOf h.objects.length (copyGo h n (i + (1 : Nat)) (nameGo l (objAt h k).links).fst).fst)), Ob.vec (outs ++ [Obj.mk (objAt h k).mark (nameGo l (objAt h k).links).snd] ++ (copyGo h n (i + (1 : Nat)) (nameGo l (objAt h k).links).fst).snd).isEmpty (2 : Nat) (List.map Obj.cc (outs ++ [Obj.mk (objAt h k).mark (nameGo l (objAt h k).links).snd] ++ (copyGo h n (i + (1 : Nat)) (nameGo l (objAt h k).links).fst).snd)), Ob.vec true (1 : Nat) (ints rt)] (0 : Nat))) (show ((copyGo h n (i + (1 : Nat)) (nameGo l (objAt h k).links).fst).fst.length) = (((copyGo h n (i + (1 : Nat)) (nameGo l (objAt h k).links).fst).fst, Obj.mk (objAt h k).mark (nameGo l (objAt h k).links).snd :: (copyGo h n (i + (1 : Nat)) (nameGo l (objAt h k).links).fst).snd).fst.length) by simp)).trans (congrArg (fun x => Out.exit (0 : Nat) (at_ [((2 : Nat), V.ptr (0 : Nat) (1 : Nat) (0 : Nat) (0 : Nat)), ((4 : Nat), V.ptr (1 : Nat) (1 : Nat) (0 : Nat) (0 : Nat)), ((5 : Nat), V.ptr (2 : Nat) (1 : Nat) (0 : Nat) (0 : Nat))] [Ob.box [V.t T.nils, V.t T.nils], Ob.box [V.ptr (3 : Nat) (1 : Nat) (0 : Nat) (0 : Nat), V.vec (4 : Nat) ((copyGo h n (i + (1 : Nat)) (nameGo l (objAt h k).links).fst).fst, Obj.mk (objAt h k).mark (nameGo l (objAt h k).links).snd :: (copyGo h n (i + (1 : Nat)) (nameGo l (objAt h k).links).fst).snd).fst.length (1 : Nat) (0 : Nat) x, V.vec (5 : Nat) h.objects.length (1 : Nat) (0 : Nat) h.objects.length], Ob.box [V.vec (6 : Nat) (outs ++ [Obj.mk (objAt h k).mark (nameGo l (objAt h k).links).snd] ++ (copyGo h n (i + (1 : Nat)) (nameGo l (objAt h k).links).fst).snd).length (2 : Nat) (0 : Nat) (outs ++ [Obj.mk (objAt h k).mark (nameGo l (objAt h k).links).snd] ++ (copyGo h n (i + (1 : Nat)) (nameGo l (objAt h k).links).fst).snd).length, V.vec (7 : Nat) rt.length (1 : Nat) (0 : Nat) rt.length], Ob.box [V.t (T.seq (2 : Nat) (List.map Obj.ce h.objects)), V.t (T.seq (1 : Nat) (List.map intt h.roots))], Ob.vec true (1 : Nat) (ints (copyGo h n (i + (1 : Nat)) (nameGo l (objAt h k).links).fst).fst), Ob.vec true (1 : Nat) (ints (namesOf h.objects.length (copyGo h n (i + (1 : Nat)) (nameGo l (objAt h k).links).fst).fst)), Ob.vec (outs ++ [Obj.mk (objAt h k).mark (nameGo l (objAt h k).links).snd] ++ (copyGo h n (i + (1 : Nat)) (nameGo l (objAt h k).links).fst).snd).isEmpty (2 : Nat) (List.map Obj.cc (outs ++ [Obj.mk (objAt h k).mark (nameGo l (objAt h k).links).snd] ++ (copyGo h n (i + (1 : Nat)) (nameGo l (objAt h k).links).fst).snd)), Ob.vec true (1 : Nat) (ints rt)] (0 : Nat))) (show ((copyGo h n (i + (1 : Nat)) (nameGo l (objAt h k).links).fst).fst.length) = (((copyGo h n (i + (1 : Nat)) (nameGo l (objAt h k).links).fst).fst, Obj.mk (objAt h k).mark (nameGo l (objAt h k).links).snd :: (copyGo h n (i + (1 : Nat)) (nameGo l (objAt h k).links).fst).snd).fst.length) by simp))).trans (congrArg (fun x => Out.exit (0 : Nat) (at_ [((2 : Nat), V.ptr (0 : Nat) (1 : Nat) (0 : Nat) (0 : Nat)), ((4 : Nat), V.ptr (1 : Nat) (1 : Nat) (0 : Nat) (0 : Nat)), ((5 : Nat), V.ptr (2 : Nat) (1 : Nat) (0 : Nat) (0 : Nat))] [Ob.box [V.t T.nils, V.t T.nils], Ob.box [V.ptr (3 : Nat) (1 : Nat) (0 : Nat) (0 : Nat), V.vec (4 : Nat) ((copyGo h n (i + (1 : Nat)) (nameGo l (objAt h k).links).fst).fst, Obj.mk (objAt h k).mark (nameGo l (objAt h k).links).snd :: (copyGo h n (i + (1 : Nat)) (nameGo l (objAt h k).links).fst).snd).fst.length (1 : Nat) (0 : Nat) ((copyGo h n (i + (1 : Nat)) (nameGo l (objAt h k).links).fst).fst, Obj.mk (objAt h k).mark (nameGo l (objAt h k).links).snd :: (copyGo h n (i + (1 : Nat)) (nameGo l (objAt h k).links).fst).snd).fst.length, V.vec (5 : Nat) h.objects.length (1 : Nat) (0 : Nat) h.objects.length], Ob.box [V.vec (6 : Nat) x (2 : Nat) (0 : Nat) (outs ++ [Obj.mk (objAt h k).mark (nameGo l (objAt h k).links).snd] ++ (copyGo h n (i + (1 : Nat)) (nameGo l (objAt h k).links).fst).snd).length, V.vec (7 : Nat) rt.length (1 : Nat) (0 : Nat) rt.length], Ob.box [V.t (T.seq (2 : Nat) (List.map Obj.ce h.objects)), V.t (T.seq (1 : Nat) (List.map intt h.roots))], Ob.vec true (1 : Nat) (ints (copyGo h n (i + (1 : Nat)) (nameGo l (objAt h k).links).fst).fst), Ob.vec true (1 : Nat) (ints (namesOf h.objects.length (copyGo h n (i + (1 : Nat)) (nameGo l (objAt h k).links).fst).fst)), Ob.vec (outs ++ [Obj.mk (objAt h k).mark (nameGo l (objAt h k).links).snd] ++ (copyGo h n (i + (1 : Nat)) (nameGo l (objAt h k).links).fst).snd).isEmpty (2 : Nat) (List.map Obj.cc (outs ++ [Obj.mk (objAt h k).mark (nameGo l (objAt h k).links).snd] ++ (copyGo h n (i + (1 : Nat)) (nameGo l (objAt h k).links).fst).snd)), Ob.vec true (1 : Nat) (ints rt)] (0 : Nat))) (show ((outs ++ [Obj.mk (objAt h k).mark (nameGo l (objAt h k).links).snd] ++ (copyGo h n (i + (1 : Nat)) (nameGo l (objAt h k).links).fst).snd).length) = ((outs ++ ((copyGo h n (i + (1 : Nat)) (nameGo l (objAt h k).links).fst).fst, Obj.mk (objAt h k).mark (nameGo l (objAt h k).links).snd :: (copyGo h n (i + (1 : Nat)) (nameGo l (objAt h k).links).fst).snd).snd).length) by simp))).trans (congrArg (fun x => Out.exit (0 : Nat) (at_ [((2 : Nat), V.ptr (0 : Nat) (1 : Nat) (0 : Nat) (0 : Nat)), ((4 : Nat), V.ptr (1 : Nat) (1 : Nat) (0 : Nat) (0 : Nat)), ((5 : Nat), V.ptr (2 : Nat) (1 : Nat) (0 : Nat) (0 : Nat))] [Ob.box [V.t T.nils, V.t T.nils], Ob.box [V.ptr (3 : Nat) (1 : Nat) (0 : Nat) (0 : Nat), V.vec (4 : Nat) ((copyGo h n (i + (1 : Nat)) (nameGo l (objAt h k).links).fst).fst, Obj.mk (objAt h k).mark (nameGo l (objAt h k).links).snd :: (copyGo h n (i + (1 : Nat)) (nameGo l (objAt h k).links).fst).snd).fst.length (1 : Nat) (0 : Nat) ((copyGo h n (i + (1 : Nat)) (nameGo l (objAt h k).links).fst).fst, Obj.mk (objAt h k).mark (nameGo l (objAt h k).links).snd :: (copyGo h n (i + (1 : Nat)) (nameGo l (objAt h k).links).fst).snd).fst.length, V.vec (5 : Nat) h.objects.length (1 : Nat) (0 : Nat) h.objects.length], Ob.box [V.vec (6 : Nat) (outs ++ ((copyGo h n (i + (1 : Nat)) (nameGo l (objAt h k).links).fst).fst, Obj.mk (objAt h k).mark (nameGo l (objAt h k).links).snd :: (copyGo h n (i + (1 : Nat)) (nameGo l (objAt h k).links).fst).snd).snd).length (2 : Nat) (0 : Nat) x, V.vec (7 : Nat) rt.length (1 : Nat) (0 : Nat) rt.length], Ob.box [V.t (T.seq (2 : Nat) (List.map Obj.ce h.objects)), V.t (T.seq (1 : Nat) (List.map intt h.roots))], Ob.vec true (1 : Nat) (ints (copyGo h n (i + (1 : Nat)) (nameGo l (objAt h k).links).fst).fst), Ob.vec true (1 : Nat) (ints (namesOf h.objects.length (copyGo h n (i + (1 : Nat)) (nameGo l (objAt h k).links).fst).fst)), Ob.vec (outs ++ [Obj.mk (objAt h k).mark (nameGo l (objAt h k).links).snd] ++ (copyGo h n (i + (1 : Nat)) (nameGo l (objAt h k).links).fst).snd).isEmpty (2 : Nat) (List.map Obj.cc (outs ++ [Obj.mk (objAt h k).mark (nameGo l (objAt h k).links).snd] ++ (copyGo h n (i + (1 : Nat)) (nameGo l (objAt h k).links).fst).snd)), Ob.vec true (1 : Nat) (ints rt)] (0 : Nat))) (show ((outs ++ [Obj.mk (objAt h k).mark (nameGo l (objAt h k).links).snd] ++ (copyGo h n (i + (1 : Nat)) (nameGo l (objAt h k).links).fst).snd).length) = ((outs ++ ((copyGo h n (i + (1 : Nat)) (nameGo l (objAt h k).links).fst).fst, Obj.mk (objAt h k).mark (nameGo l (objAt h k).links).snd :: (copyGo h n (i + (1 : Nat)) (nameGo l (objAt h k).links).fst).snd).snd).length) by simp))).trans (congrArg (fun x => Out.exit (0 : Nat) (at_ [((2 : Nat), V.ptr (0 : Nat) (1 : Nat) (0 : Nat) (0 : Nat)), ((4 : Nat), V.ptr (1 : Nat) (1 : Nat) (0 : Nat) (0 : Nat)), ((5 : Nat), V.ptr (2 : Nat) (1 : Nat) (0 : Nat) (0 : Nat))] [Ob.box [V.t T.nils, V.t T.nils], Ob.box [V.ptr (3 : Nat) (1 : Nat) (0 : Nat) (0 : Nat), V.vec (4 : Nat) ((copyGo h n (i + (1 : Nat)) (nameGo l (objAt h k).links).fst).fst, Obj.mk (objAt h k).mark (nameGo l (objAt h k).links).snd :: (copyGo h n (i + (1 : Nat)) (nameGo l (objAt h k).links).fst).snd).fst.length (1 : Nat) (0 : Nat) ((copyGo h n (i + (1 : Nat)) (nameGo l (objAt h k).links).fst).fst, Obj.mk (objAt h k).mark (nameGo l (objAt h k).links).snd :: (copyGo h n (i + (1 : Nat)) (nameGo l (objAt h k).links).fst).snd).fst.length, V.vec (5 : Nat) h.objects.length (1 : Nat) (0 : Nat) h.objects.length], Ob.box [V.vec (6 : Nat) (outs ++ ((copyGo h n (i + (1 : Nat)) (nameGo l (objAt h k).links).fst).fst, Obj.mk (objAt h k).mark (nameGo l (objAt h k).links).snd :: (copyGo h n (i + (1 : Nat)) (nameGo l (objAt h k).links).fst).snd).snd).length (2 : Nat) (0 : Nat) (outs ++ ((copyGo h n (i + (1 : Nat)) (nameGo l (objAt h k).links).fst).fst, Obj.mk (objAt h k).mark (nameGo l (objAt h k).links).snd :: (copyGo h n (i + (1 : Nat)) (nameGo l (objAt h k).links).fst).snd).snd).length, V.vec (7 : Nat) rt.length (1 : Nat) (0 : Nat) rt.length], Ob.box [V.t (T.seq (2 : Nat) (List.map Obj.ce h.objects)), V.t (T.seq (1 : Nat) (List.map intt h.roots))], Ob.vec true (1 : Nat) x, Ob.vec true (1 : Nat) (ints (namesOf h.objects.length (copyGo h n (i + (1 : Nat)) (nameGo l (objAt h k).links).fst).fst)), Ob.vec (outs ++ [Obj.mk (objAt h k).mark (nameGo l (objAt h k).links).snd] ++ (copyGo h n (i + (1 : Nat)) (nameGo l (objAt h k).links).fst).snd).isEmpty (2 : Nat) (List.map Obj.cc (outs ++ [Obj.mk (objAt h k).mark (nameGo l (objAt h k).links).snd] ++ (copyGo h n (i + (1 : Nat)) (nameGo l (objAt h k).links).fst).snd)), Ob.vec true (1 : Nat) (ints rt)] (0 : Nat))) (show (ints (copyGo h n (i + (1 : Nat)) (nameGo l (objAt h k).links).fst).fst) = (ints ((copyGo h n (i + (1 : Nat)) (nameGo l (objAt h k).links).fst).fst, Obj.mk (objAt h k).mark (nameGo l (objAt h k).links).snd :: (copyGo h n (i + (1 : Nat)) (nameGo l (objAt h k).links).fst).snd).fst) by simp))).trans (congrArg (fun x => Out.exit (0 : Nat) (at_ [((2 : Nat), V.ptr (0 : Nat) (1 : Nat) (0 : Nat) (0 : Nat)), ((4 : Nat), V.ptr (1 : Nat) (1 : Nat) (0 : Nat) (0 : Nat)), ((5 : Nat), V.ptr (2 : Nat) (1 : Nat) (0 : Nat) (0 : Nat))] [Ob.box [V.t T.nils, V.t T.nils], Ob.box [V.ptr (3 : Nat) (1 : Nat) (0 : Nat) (0 : Nat), V.vec (4 : Nat) ((copyGo h n (i + (1 : Nat)) (nameGo l (objAt h k).links).fst).fst, Obj.mk (objAt h k).mark (nameGo l (objAt h k).links).snd :: (copyGo h n (i + (1 : Nat)) (nameGo l (objAt h k).links).fst).snd).fst.length (1 : Nat) (0 : Nat) ((copyGo h n (i + (1 : Nat)) (nameGo l (objAt h k).links).fst).fst, Obj.mk (objAt h k).mark (nameGo l (objAt h k).links).snd :: (copyGo h n (i + (1 : Nat)) (nameGo l (objAt h k).links).fst).snd).fst.length, V.vec (5 : Nat) h.objects.length (1 : Nat) (0 : Nat) h.objects.length], Ob.box [V.vec (6 : Nat) (outs ++ ((copyGo h n (i + (1 : Nat)) (nameGo l (objAt h k).links).fst).fst, Obj.mk (objAt h k).mark (nameGo l (objAt h k).links).snd :: (copyGo h n (i + (1 : Nat)) (nameGo l (objAt h k).links).fst).snd).snd).length (2 : Nat) (0 : Nat) (outs ++ ((copyGo h n (i + (1 : Nat)) (nameGo l (objAt h k).links).fst).fst, Obj.mk (objAt h k).mark (nameGo l (objAt h k).links).snd :: (copyGo h n (i + (1 : Nat)) (nameGo l (objAt h k).links).fst).snd).snd).length, V.vec (7 : Nat) rt.length (1 : Nat) (0 : Nat) rt.length], Ob.box [V.t (T.seq (2 : Nat) (List.map Obj.ce h.objects)), V.t (T.seq (1 : Nat) (List.map intt h.roots))], Ob.vec true (1 : Nat) (ints ((copyGo h n (i + (1 : Nat)) (nameGo l (objAt h k).links).fst).fst, Obj.mk (objAt h k).mark (nameGo l (objAt h k).links).snd :: (copyGo h n (i + (1 : Nat)) (nameGo l (objAt h k).links).fst).snd).fst), Ob.vec true (1 : Nat) x, Ob.vec (outs ++ [Obj.mk (objAt h k).mark (nameGo l (objAt h k).links).snd] ++ (copyGo h n (i + (1 : Nat)) (nameGo l (objAt h k).links).fst).snd).isEmpty (2 : Nat) (List.map Obj.cc (outs ++ [Obj.mk (objAt h k).mark (nameGo l (objAt h k).links).snd] ++ (copyGo h n (i + (1 : Nat)) (nameGo l (objAt h k).links).fst).snd)), Ob.vec true (1 : Nat) (ints rt)] (0 : Nat))) (show (ints (namesOf h.objects.length (copyGo h n (i + (1 : Nat)) (nameGo l (objAt h k).links).fst).fst)) = (ints (namesOf h.objects.length ((copyGo h n (i + (1 : Nat)) (nameGo l (objAt h k).links).fst).fst, Obj.mk (objAt h k).mark (nameGo l (objAt h k).links).snd :: (copyGo h n (i + (1 : Nat)) (nameGo l (objAt h k).links).fst).snd).fst)) by simp))).trans (congrArg (fun x => Out.exit (0 : Nat) (at_ [((2 : Nat), V.ptr (0 : Nat) (1 : Nat) (0 : Nat) (0 : Nat)), ((4 : Nat), V.ptr (1 : Nat) (1 : Nat) (0 : Nat) (0 : Nat)), ((5 : Nat), V.ptr (2 : Nat) (1 : Nat) (0 : Nat) (0 : Nat))] [Ob.box [V.t T.nils, V.t T.nils], Ob.box [V.ptr (3 : Nat) (1 : Nat) (0 : Nat) (0 : Nat), V.vec (4 : Nat) ((copyGo h n (i + (1 : Nat)) (nameGo l (objAt h k).links).fst).fst, Obj.mk (objAt h k).mark (nameGo l (objAt h k).links).snd :: (copyGo h n (i + (1 : Nat)) (nameGo l (objAt h k).links).fst).snd).fst.length (1 : Nat) (0 : Nat) ((copyGo h n (i + (1 : Nat)) (nameGo l (objAt h k).links).fst).fst, Obj.mk (objAt h k).mark (nameGo l (objAt h k).links).snd :: (copyGo h n (i + (1 : Nat)) (nameGo l (objAt h k).links).fst).snd).fst.length, V.vec (5 : Nat) h.objects.length (1 : Nat) (0 : Nat) h.objects.length], Ob.box [V.vec (6 : Nat) (outs ++ ((copyGo h n (i + (1 : Nat)) (nameGo l (objAt h k).links).fst).fst, Obj.mk (objAt h k).mark (nameGo l (objAt h k).links).snd :: (copyGo h n (i + (1 : Nat)) (nameGo l (objAt h k).links).fst).snd).snd).length (2 : Nat) (0 : Nat) (outs ++ ((copyGo h n (i + (1 : Nat)) (nameGo l (objAt h k).links).fst).fst, Obj.mk (objAt h k).mark (nameGo l (objAt h k).links).snd :: (copyGo h n (i + (1 : Nat)) (nameGo l (objAt h k).links).fst).snd).snd).length, V.vec (7 : Nat) rt.length (1 : Nat) (0 : Nat) rt.length], Ob.box [V.t (T.seq (2 : Nat) (List.map Obj.ce h.objects)), V.t (T.seq (1 : Nat) (List.map intt h.roots))], Ob.vec true (1 : Nat) (ints ((copyGo h n (i + (1 : Nat)) (nameGo l (objAt h k).links).fst).fst, Obj.mk (objAt h k).mark (nameGo l (objAt h k).links).snd :: (copyGo h n (i + (1 : Nat)) (nameGo l (objAt h k).links).fst).snd).fst), Ob.vec true (1 : Nat) (ints (namesOf h.objects.length ((copyGo h n (i + (1 : Nat)) (nameGo l (objAt h k).links).fst).fst, Obj.mk (objAt h k).mark (nameGo l (objAt h k).links).snd :: (copyGo h n (i + (1 : Nat)) (nameGo l (objAt h k).links).fst).snd).fst)), Ob.vec x (2 : Nat) (List.map Obj.cc (outs ++ [Obj.mk (objAt h k).mark (nameGo l (objAt h k).links).snd] ++ (copyGo h n (i + (1 : Nat)) (nameGo l (objAt h k).links).fst).snd)), Ob.vec true (1 : Nat) (ints rt)] (0 : Nat))) (show ((outs ++ [Obj.mk (objAt h k).mark (nameGo l (objAt h k).links).snd] ++ (copyGo h n (i + (1 : Nat)) (nameGo l (objAt h k).links).fst).snd).isEmpty) = ((outs ++ ((copyGo h n (i + (1 : Nat)) (nameGo l (objAt h k).links).fst).fst, Obj.mk (objAt h k).mark (nameGo l (objAt h k).links).snd :: (copyGo h n (i + (1 : Nat)) (nameGo l (objAt h k).links).fst).snd).snd).isEmpty) by simp))).trans (congrArg (fun x => Out.exit (0 : Nat) (at_ [((2 : Nat), V.ptr (0 : Nat) (1 : Nat) (0 : Nat) (0 : Nat)), ((4 : Nat), V.ptr (1 : Nat) (1 : Nat) (0 : Nat) (0 : Nat)), ((5 : Nat), V.ptr (2 : Nat) (1 : Nat) (0 : Nat) (0 : Nat))] [Ob.box [V.t T.nils, V.t T.nils], Ob.box [V.ptr (3 : Nat) (1 : Nat) (0 : Nat) (0 : Nat), V.vec (4 : Nat) ((copyGo h n (i + (1 : Nat)) (nameGo l (objAt h k).links).fst).fst, Obj.mk (objAt h k).mark (nameGo l (objAt h k).links).snd :: (copyGo h n (i + (1 : Nat)) (nameGo l (objAt h k).links).fst).snd).fst.length (1 : Nat) (0 : Nat) ((copyGo h n (i + (1 : Nat)) (nameGo l (objAt h k).links).fst).fst, Obj.mk (objAt h k).mark (nameGo l (objAt h k).links).snd :: (copyGo h n (i + (1 : Nat)) (nameGo l (objAt h k).links).fst).snd).fst.length, V.vec (5 : Nat) h.objects.length (1 : Nat) (0 : Nat) h.objects.length], Ob.box [V.vec (6 : Nat) (outs ++ ((copyGo h n (i + (1 : Nat)) (nameGo l (objAt h k).links).fst).fst, Obj.mk (objAt h k).mark (nameGo l (objAt h k).links).snd :: (copyGo h n (i + (1 : Nat)) (nameGo l (objAt h k).links).fst).snd).snd).length (2 : Nat) (0 : Nat) (outs ++ ((copyGo h n (i + (1 : Nat)) (nameGo l (objAt h k).links).fst).fst, Obj.mk (objAt h k).mark (nameGo l (objAt h k).links).snd :: (copyGo h n (i + (1 : Nat)) (nameGo l (objAt h k).links).fst).snd).snd).length, V.vec (7 : Nat) rt.length (1 : Nat) (0 : Nat) rt.length], Ob.box [V.t (T.seq (2 : Nat) (List.map Obj.ce h.objects)), V.t (T.seq (1 : Nat) (List.map intt h.roots))], Ob.vec true (1 : Nat) (ints ((copyGo h n (i + (1 : Nat)) (nameGo l (objAt h k).links).fst).fst, Obj.mk (objAt h k).mark (nameGo l (objAt h k).links).snd :: (copyGo h n (i + (1 : Nat)) (nameGo l (objAt h k).links).fst).snd).fst), Ob.vec true (1 : Nat) (ints (namesOf h.objects.length ((copyGo h n (i + (1 : Nat)) (nameGo l (objAt h k).links).fst).fst, Obj.mk (objAt h k).mark (nameGo l (objAt h k).links).snd :: (copyGo h n (i + (1 : Nat)) (nameGo l (objAt h k).links).fst).snd).fst)), Ob.vec (outs ++ ((copyGo h n (i + (1 : Nat)) (nameGo l (objAt h k).links).fst).fst, Obj.mk (objAt h k).mark (nameGo l (objAt h k).links).snd :: (copyGo h n (i + (1 : Nat)) (nameGo l (objAt h k).links).fst).snd).snd).isEmpty (2 : Nat) x, Ob.vec true (1 : Nat) (ints rt)] (0 : Nat))) (show (List.map Obj.cc (outs ++ [Obj.mk (objAt h k).mark (nameGo l (objAt h k).links).snd] ++ (copyGo h n (i + (1 : Nat)) (nameGo l (objAt h k).links).fst).snd)) = (List.map Obj.cc (outs ++ ((copyGo h n (i + (1 : Nat)) (nameGo l (objAt h k).links).fst).fst, Obj.mk (objAt h k).mark (nameGo l (objAt h k).links).snd :: (copyGo h n (i + (1 : Nat)) (nameGo l (objAt h k).links).fst).snd).snd)) by simp)))

end Go.Ev

/- Copies of heaps: impl.copyHeap, impl.ReachOf. -/
namespace Go.Ev
set_option linter.unusedVariables false
set_option linter.unusedSimpArgs false
open Go.Proofs
set_option maxRecDepth 100000
set_option linter.unusedVariables false
set_option maxHeartbeats 4000000
attribute [local simp] ints_takeC
@[local simp] theorem ce_fz9 (l : List Obj) : List.map ((fun x => List.map C.fz x) ∘ fun o => List.map C.t o.ce) l = l.map Obj.ce := by
  congr 1
@[local simp] theorem ce_fz9b (l : List Obj) : List.map (fun x => List.map C.fz x) (List.map (fun o => List.map C.t o.ce) l) = l.map Obj.ce := by
  rw [List.map_map]; exact ce_fz9 l
@[local simp] theorem names_take (N : Nat) (l : List Int) : List.take N (List.map intt (namesOf N l)) = List.map intt (namesOf N l) := List.take_of_length_le (by simp)
theorem copyHeap_ev (h : Hp) (hg : GoodH h) :
    Ev pr (.call 56 [vs h.ce] []) (.val (.tup [.agg [.vec 0 (copyH h).objects.length 2 0 (copyH h).objects.length, .vec 1 (copyH h).roots.length 1 0 (copyH h).roots.length], .vec 2 h.objects.length 1 0 h.objects.length]) [.vec (copyH h).objects.isEmpty 2 ((copyH h).objects.map Obj.cc), .vec true 1 (ints (copyH h).roots), .vec true 1 (ints (namesOf h.objects.length (order h)))]) := by
  have h1 := hg.objs
  have h3 := hg.rlen
  have a1 := repeat_ev h.objects.length h1
  have a2 := allN_ev h h.objects.length h1 h.roots (by omega) (fun k hk => (hg.roots k hk).2)
  rw [namesOf_nil] at a2
  have hb := pushAll_bd (N := h.objects.length) h.roots [] (by simp) (fun k hk => (hg.roots k hk).2)
  have hn := pushAll_nodup h.roots [] (by simp)
  have hd := done_ok hg (h.objects.length + 1) 0 (pushAll [] h.roots) hn hb (by omega)
  have a3 := copyL_ev h hg (nameGo [] h.roots).2 (h.objects.length + 1) 0 (pushAll [] h.roots) [] hd rfl (by omega) hn hb
  obtain ⟨e1, e2⟩ := copyGo_copyH hg
  have e3 : (nameGo [] h.roots).2 = (copyH h).roots := by rw [← e2]
  have e4 : (copyGo h (h.objects.length + 1) 0 (pushAll [] h.roots)).2 = (copyH h).objects := by rw [← e2]
  rw [e1, e4, e3, ← nameGo_order, List.nil_append] at a3
  rw [e3] at a2
  let t0 : Tp pr := .i (show ((↑(List.map Obj.ce h.objects).length : Int) : Int) = (↑h.objects.length : Int) by simp)
  let t2 : Tp pr := .n .rows (show (List.map (fun x => List.map C.fz x) (List.take (1 : Nat) (List.drop (0 : Nat) [[C.t (T.int IntKind.i64 (-1 : Int))]]))) = [[(C.t (T.int IntKind.i64 (-1 : Int))).fz]] by simp)
  let t4 : Tp pr := .m (show (true && [Ob.vec true (1 : Nat) (ints (List.replicate h.objects.length (-1 : Int)))].all Ob.flat) = true by simp)
  exact .tp [t0, .m (rfl : true = true), t2, .a (a1), t4, .a (a2), .a (a3), .m (rfl : true = true), .m (rfl : true = true), .m (rfl : true = true), .m (rfl : true = true), .m (rfl : true = true)] (by kernel_rfl)
end Go.Ev

/- Copies of heaps: the reference's. -/
namespace Go.Ev
set_option linter.unusedVariables false
set_option linter.unusedSimpArgs false
open Go.Proofs
set_option maxRecDepth 100000
set_option linter.unusedVariables false
set_option maxHeartbeats 2000000
def newOut (rest : List Int) (k i : Int) : Out := if k ∈ rest then .ret (at_ [(4, i64 (newNo rest k i))] [] 0) else .exit 0 (at_ [] [] 0)
theorem newL_ev (l : List Int) (k : Int) (hl : l.length ≤ 1048576) : ∀ (rest dn : List Int), l = dn ++ rest →
    Ev pr (.loop (lq pr 62 0) (at_ [(1, i64 k), (7, isq l), (8, i64 l.length), (9, i64 dn.length)] [] 0)) (newOut rest k dn.length)
  | [], dn, he => by
    have hll : (l.length : Int) = dn.length := by simp [he]
    rw [show newOut [] k dn.length = .exit 0 (at_ [] [] 0) from rfl]
    let t0 : Tp pr := .b (show (decide ((↑dn.length : Int) < (↑l.length : Int))) = false by (simp; omega))
    exact .tp [t0] (by kernel_rfl)
  | x :: rest, dn, he => by
    have hll : (l.length : Int) = dn.length + 1 + rest.length := by simp [he]; omega
    have hg : lkp (l.map intt) (dn.length : Int) = some [T.int .i64 x] := by rw [he]; simp [intt]
    by_cases hx : x = k
    · rw [show newOut (x :: rest) k dn.length = .ret (at_ [(4, i64 dn.length)] [] 0) by simp [newOut, newNo, hx]]
      let t0 : Tp pr := .b (show (decide ((↑dn.length : Int) < (↑l.length : Int))) = true by (simp; omega))
      let t1 : Tp pr := .g .row (show (lkp (List.map intt l) (↑dn.length : Int)) = some ([T.int IntKind.i64 x]) from hg)
      let t2 : Tp pr := .b (show (decide (x = k)) = true by (simp; omega))
      exact .tp [t0, t1, t2] (by kernel_rfl)
    · have ih := newL_ev l k hl rest (dn ++ [x]) (by simp [he])
      rw [show newOut (x :: rest) k dn.length = newOut rest k ((dn.length : Int) + 1) by simp [newOut, newNo, hx, Ne.symm hx]]
      rw [List.length_append, List.length_singleton, Int.natCast_add] at ih
      unfold newOut at ih ⊢
      by_cases hm : k ∈ rest
      · rw [if_pos hm] at ih ⊢
        let t0 : Tp pr := .b (show (decide ((↑dn.length : Int) < (↑l.length : Int))) = true by (simp; omega))
        let t1 : Tp pr := .g .row (show (lkp (List.map intt l) (↑dn.length : Int)) = some ([T.int IntKind.i64 x]) from hg)
        let t2 : Tp pr := .b (show (decide (x = k)) = false by (simp; omega))
        let t3 : Tp pr := .i (wrap_i64 (a := (↑dn.length : Int) + (1 : Int)) (by omega) (by omega))
        exact .tp [t0, t1, t2, t3, .a (ih)] (by kernel_rfl)
      · rw [if_neg hm] at ih ⊢
        let t0 : Tp pr := .b (show (decide ((↑dn.length : Int) < (↑l.length : Int))) = true by (simp; omega))
        let t1 : Tp pr := .g .row (show (lkp (List.map intt l) (↑dn.length : Int)) = some ([T.int IntKind.i64 x]) from hg)
        let t2 : Tp pr := .b (show (decide (x = k)) = false by (simp; omega))
        let t3 : Tp pr := .i (wrap_i64 (a := (↑dn.length : Int) + (1 : Int)) (by omega) (by omega))
        exact .tp [t0, t1, t2, t3, .a (ih)] (by kernel_rfl)
theorem l15New_ev (l : List Int) (k : Int) (hl : l.length ≤ 1048576) : Ev pr (.call 62 [isq l, i64 k] []) (.val (i64 (newOf l k)) []) := by
  have g := newL_ev l k hl l [] rfl
  unfold newOut at g
  by_cases hm : k ∈ l
  · rw [if_pos hm] at g
    unfold newOf
    let t0 : Tp pr := .i (show ((↑(List.map intt l).length : Int) : Int) = (↑l.length : Int) by simp)
    exact .tp [t0, .a (g)] (by kernel_rfl)
  · rw [if_neg hm] at g
    rw [newOf_out hm]
    let t0 : Tp pr := .i (show ((↑(List.map intt l).length : Int) : Int) = (↑l.length : Int) by simp)
    exact .tp [t0, .a (g)] (by kernel_rfl)
def rowO (l : List Obj) : List (List C) := l.map fun o => o.ce.map C.t
theorem rowO_snoc (l : List Obj) (o : Obj) : rowO (l ++ [o]) = (rowO l).append [[C.t (.int .i64 o.mark), C.t (.seq 1 (o.links.map intt))]] := by simp [rowO, Obj.ce]
@[local simp] theorem rowO_len (l : List Obj) : (rowO l).length = l.length := by simp [rowO]
@[local simp] theorem rowO_fz (l : List Obj) : List.map (fun x => List.map C.fz x) (rowO l) = l.map Obj.ce := by
  rw [rowO, List.map_map]
  congr 1
@[local simp] theorem ints_takeM {α : Type} (f : α → Int) (m : List α) : List.take m.length (ints (m.map f)) = ints (m.map f) := List.take_of_length_le (by simp)
@[local simp] theorem rowO_takeM {α : Type} (f : α → Obj) (m : List α) : List.take m.length (rowO (m.map f)) = rowO (m.map f) := List.take_of_length_le (by simp [rowO])
@[local simp] theorem ints_takeV (l : List Int) : List.take l.length (ints l) = ints l := List.take_of_length_le (by simp)
theorem cpKL_ev (h : Hp) (o l : List Int) (hl : l.length ≤ 1048576) (ho : o.length ≤ 1048576) (mk d : Int) (n : Nat) (R : List (List C)) : ∀ (rest m : List Int), l = m ++ rest →
    Ev pr (.loop (lq pr 52 1) (at_ [(1, .ptr 0 1 0 0), (2, .ptr 1 1 0 0), (3, isq o), (4, .ptr 2 1 0 0), (7, .ptr 3 1 0 0), (15, isq o), (16, i64 o.length), (17, i64 d), (33, isq l), (34, i64 l.length), (35, i64 m.length)]
        [.box [osq h.objects, isq h.roots], .box [.t .nils, .t .nils], .box [.vec 4 n 2 0 n, .t .nils], .box [i64 mk, .vec 5 m.length 1 0 m.length], .vec true 2 R, .vec true 1 (ints (m.map (newOf o)))] 0))
      (.exit 2 (at_ [(1, .ptr 0 1 0 0), (2, .ptr 1 1 0 0), (3, isq o), (4, .ptr 2 1 0 0), (7, .ptr 3 1 0 0), (15, isq o), (16, i64 o.length), (17, i64 d)]
        [.box [osq h.objects, isq h.roots], .box [.t .nils, .t .nils], .box [.vec 4 n 2 0 n, .t .nils], .box [i64 mk, .vec 5 l.length 1 0 l.length], .vec true 2 R, .vec true 1 (ints (l.map (newOf o)))] 0))
  | [], m, he => by
    have hll : (l.length : Int) = m.length := by simp [he]
    have he2 : l = m := by simpa using he
    rw [← he2]
    let t0 : Tp pr := .b (show (decide ((↑l.length : Int) < (↑l.length : Int))) = false by simp)
    exact .tp [t0] (by kernel_rfl)
  | x :: rest, m, he => by
    have hll : (l.length : Int) = m.length + 1 + rest.length := by simp [he]; omega
    have hll2 : l.length = m.length + 1 + rest.length := by omega
    have hg : lkp (l.map intt) (m.length : Int) = some [T.int .i64 x] := by rw [he]; simp [intt]
    have hn := l15New_ev o x ho
    have ih := cpKL_ev h o l hl ho mk d n R rest (m ++ [x]) (by simp [he])
    rw [show ints ((m ++ [x]).map (newOf o)) = (ints (m.map (newOf o))).append [[C.t (.int .i64 (newOf o x))]] by simp [ints, intc], List.length_append, List.length_singleton] at ih
    let t0 : Tp pr := .b (show (decide ((↑m.length : Int) < (↑l.length : Int))) = true by (simp; omega))
    let t1 : Tp pr := .g .row (show (lkp (List.map intt l) (↑m.length : Int)) = some ([T.int IntKind.i64 x]) from hg)
    let t10 : Tp pr := .m (show (decide ((ints (List.map (newOf o) m)).length = m.length ∧ (0 : Nat) + m.length ≤ m.length ∧ m.length + (1 : Nat) ≤ (4294967296 : Nat))) = true by (simp; omega))
    let t11 : Tp pr := .b (show (decide (m.length + (1 : Nat) ≤ m.length)) = false by simp)
    let t13 : Tp pr := .n .crows (show ((List.take m.length (ints (List.map (newOf o) m))).append (List.take (1 : Nat) (List.drop (0 : Nat) [[C.t (T.int IntKind.i64 (newOf o x))]]))) = ints (List.map (newOf o) m) ++ [[C.t (T.int IntKind.i64 (newOf o x))]] by simp)
    let t17 : Tp pr := .i (wrap_i64 (a := (↑m.length : Int) + (1 : Int)) (by omega) (by omega))
    exact .tp [t0, t1, .m (rfl : true = true), .m (rfl : true = true), .m (rfl : true = true), .m (rfl : true = true), .a (hn), .m (rfl : true = true), .m (rfl : true = true), .m (rfl : true = true), t10, t11, .c (rfl : (m.length + (1 : Nat)) = _), t13, .m (rfl : true = true), .m (rfl : true = true), .m (rfl : true = true), t17, .a (ih)] (by kernel_rfl)
theorem cpOL_ev (h : Hp) (hg : GoodH h) (hl : (order h).length ≤ 40) : ∀ (rest dn : List Int), order h = dn ++ rest →
    Ev pr (.loop (lq pr 52 0) (at_ [(1, .ptr 0 1 0 0), (2, .ptr 1 1 0 0), (3, isq (order h)), (4, .ptr 2 1 0 0), (15, isq (order h)), (16, i64 (order h).length), (17, i64 dn.length)]
        [.box [osq h.objects, isq h.roots], .box [.t .nils, .t .nils], .box [.vec 3 dn.length 2 0 dn.length, .t .nils], .vec true 2 (rowO (dn.map fun k => copyObj (order h) (objAt h k)))] 0))
      (.exit 0 (at_ [(1, .ptr 0 1 0 0), (2, .ptr 1 1 0 0), (3, isq (order h)), (4, .ptr 2 1 0 0)]
        [.box [osq h.objects, isq h.roots], .box [.t .nils, .t .nils], .box [.vec 3 (order h).length 2 0 (order h).length, .t .nils], .vec true 2 (rowO ((order h).map fun k => copyObj (order h) (objAt h k)))] 0))
  | [], dn, he => by
    have hll : ((order h).length : Int) = dn.length := by simp [he]
    have he2 : order h = dn := by simpa using he
    rw [← he2]
    let t0 : Tp pr := .b (show (decide ((↑(order h).length : Int) < (↑(order h).length : Int))) = false by simp)
    exact .tp [t0] (by kernel_rfl)
  | x :: rest, dn, he => by
    have hll : ((order h).length : Int) = dn.length + 1 + rest.length := by simp [he]; omega
    have hgx : lkp ((order h).map intt) (dn.length : Int) = some [T.int .i64 x] := by rw [he]; simp [intt]
    have hb := order_bd hg x (by simp [he])
    have hlk := objAt_lkp hb.1 hb.2
    have hm := hg.llen _ (objAt_mem hb.1 hb.2)
    have ih := cpOL_ev h hg hl rest (dn ++ [x]) (by simp [he])
    have kl := cpKL_ev h (order h) (objAt h x).links (by omega) (by omega) (objAt h x).mark dn.length dn.length (rowO (dn.map fun k => copyObj (order h) (objAt h k))) (objAt h x).links [] rfl
    rw [List.map_append, show List.map (fun k => copyObj (order h) (objAt h k)) [x] = [copyObj (order h) (objAt h x)] from rfl, rowO_snoc,
      show (copyObj (order h) (objAt h x)).mark = (objAt h x).mark from rfl, show (copyObj (order h) (objAt h x)).links = (objAt h x).links.map (newOf (order h)) from rfl, List.map_map, List.length_append, List.length_singleton] at ih
    let t0 : Tp pr := .b (show (decide ((↑dn.length : Int) < (↑(order h).length : Int))) = true by (simp; omega))
    let t1 : Tp pr := .g .row (show (lkp (List.map intt (order h)) (↑dn.length : Int)) = some ([T.int IntKind.i64 x]) from hgx)
    let t2 : Tp pr := .g .row (show (lkp (List.map Obj.ce h.objects) x) = some ((objAt h x).ce) from hlk)
    let t3 : Tp pr := .g .row (show (lkp (List.map Obj.ce h.objects) x) = some ((objAt h x).ce) from hlk)
    let t4 : Tp pr := .i (show ((↑(List.map intt (objAt h x).links).length : Int) : Int) = (↑(objAt h x).links.length : Int) by simp)
    let t6 : Tp pr := .m (show (decide ((ints (List.map (newOf (order h)) (objAt h x).links)).length = (objAt h x).links.length ∧ (0 : Nat) + (objAt h x).links.length ≤ (objAt h x).links.length)) = true by simp)
    let t7 : Tp pr := .n .rows (show (List.map (fun x => List.map C.fz x) (List.take (objAt h x).links.length (List.drop (0 : Nat) (ints (List.map (newOf (order h)) (objAt h x).links))))) = List.map (intt ∘ newOf (order h)) (objAt h x).links by simp)
    let t9 : Tp pr := .m (show (decide ((rowO (List.map (fun k => copyObj (order h) (objAt h k)) dn)).length = dn.length ∧ (0 : Nat) + dn.length ≤ dn.length ∧ dn.length + (1 : Nat) ≤ (4294967296 : Nat))) = true by (simp; omega))
    let t10 : Tp pr := .b (show (decide (dn.length + (1 : Nat) ≤ dn.length)) = false by simp)
    let t12 : Tp pr := .n .crows (show ((List.take dn.length (rowO (List.map (fun k => copyObj (order h) (objAt h k)) dn))).append (List.take (1 : Nat) (List.drop (0 : Nat) [[C.t (T.int IntKind.i64 (objAt h x).mark), C.t (T.seq (1 : Nat) (List.map (intt ∘ newOf (order h)) (objAt h x).links))]]))) = rowO (List.map (fun k => copyObj (order h) (objAt h k)) dn) ++ [[C.t (T.int IntKind.i64 (objAt h x).mark), C.t (T.seq (1 : Nat) (List.map (intt ∘ newOf (order h)) (objAt h x).links))]] by simp)
    let t13 : Tp pr := .i (wrap_i64 (a := (↑dn.length : Int) + (1 : Int)) (by omega) (by omega))
    exact .tp [t0, t1, t2, t3, t4, .a (kl), t6, t7, .m (rfl : true = true), t9, t10, .c (rfl : (dn.length + (1 : Nat)) = _), t12, t13, .a (ih)] (by kernel_rfl)
theorem cpRL_ev (o l : List Int) (hl : l.length ≤ 1048576) (ho : o.length ≤ 1048576) (n : Nat) (R : List (List C)) : ∀ (rest m : List Int), l = m ++ rest →
    Ev pr (.loop (lq pr 52 2) (at_ [(2, .ptr 0 1 0 0), (3, isq o), (4, .ptr 1 1 0 0), (56, isq l), (57, i64 l.length), (58, i64 m.length)]
        [.box [.t .nils, .t .nils], .box [.vec 2 n 2 0 n, .vec 3 m.length 1 0 m.length], .vec true 2 R, .vec true 1 (ints (m.map (newOf o)))] 0))
      (.exit 4 (at_ [(2, .ptr 0 1 0 0), (4, .ptr 1 1 0 0)]
        [.box [.t .nils, .t .nils], .box [.vec 2 n 2 0 n, .vec 3 l.length 1 0 l.length], .vec true 2 R, .vec true 1 (ints (l.map (newOf o)))] 0))
  | [], m, he => by
    have hll : (l.length : Int) = m.length := by simp [he]
    have he2 : l = m := by simpa using he
    rw [← he2]
    let t0 : Tp pr := .b (show (decide ((↑l.length : Int) < (↑l.length : Int))) = false by simp)
    exact .tp [t0] (by kernel_rfl)
  | x :: rest, m, he => by
    have hll : (l.length : Int) = m.length + 1 + rest.length := by simp [he]; omega
    have hll2 : l.length = m.length + 1 + rest.length := by omega
    have hg : lkp (l.map intt) (m.length : Int) = some [T.int .i64 x] := by rw [he]; simp [intt]
    have hn := l15New_ev o x ho
    have ih := cpRL_ev o l hl ho n R rest (m ++ [x]) (by simp [he])
    rw [show ints ((m ++ [x]).map (newOf o)) = (ints (m.map (newOf o))).append [[C.t (.int .i64 (newOf o x))]] by simp [ints, intc], List.length_append, List.length_singleton] at ih
    let t0 : Tp pr := .b (show (decide ((↑m.length : Int) < (↑l.length : Int))) = true by (simp; omega))
    let t1 : Tp pr := .g .row (show (lkp (List.map intt l) (↑m.length : Int)) = some ([T.int IntKind.i64 x]) from hg)
    let t10 : Tp pr := .m (show (decide ((ints (List.map (newOf o) m)).length = m.length ∧ (0 : Nat) + m.length ≤ m.length ∧ m.length + (1 : Nat) ≤ (4294967296 : Nat))) = true by (simp; omega))
    let t11 : Tp pr := .b (show (decide (m.length + (1 : Nat) ≤ m.length)) = false by simp)
    let t13 : Tp pr := .n .crows (show ((List.take m.length (ints (List.map (newOf o) m))).append (List.take (1 : Nat) (List.drop (0 : Nat) [[C.t (T.int IntKind.i64 (newOf o x))]]))) = ints (List.map (newOf o) m) ++ [[C.t (T.int IntKind.i64 (newOf o x))]] by simp)
    let t17 : Tp pr := .i (wrap_i64 (a := (↑m.length : Int) + (1 : Int)) (by omega) (by omega))
    exact .tp [t0, t1, .m (rfl : true = true), .m (rfl : true = true), .m (rfl : true = true), .m (rfl : true = true), .a (hn), .m (rfl : true = true), .m (rfl : true = true), .m (rfl : true = true), t10, t11, .c (rfl : (m.length + (1 : Nat)) = _), t13, .m (rfl : true = true), .m (rfl : true = true), .m (rfl : true = true), t17, .a (ih)] (by kernel_rfl)
@[local simp] theorem take_mapV {α β : Type} (f : α → β) (l : List α) : List.take l.length (l.map f) = l.map f := List.take_of_length_le (by simp)
theorem ordlen {h : Hp} (hg : GoodH h) : (order h).length ≤ 40 := by
  have := nodup_len _ (order h) (order_nodup h) (order_bd hg)
  have := hg.objs
  omega
theorem l15Copy_ev (h : Hp) (hg : GoodH h) : Ev pr (.call 52 [vs h.ce] []) (.val (vs (copyH h).ce) []) := by
  have o := l15Order_ev h hg
  have hl := ordlen hg
  have hr := hg.rlen
  have g := cpOL_ev h hg hl (order h) [] rfl
  have g2 := cpRL_ev (order h) h.roots (by omega) (by omega) (order h).length (rowO ((order h).map fun k => copyObj (order h) (objAt h k))) h.roots [] rfl
  rw [show (copyH h).ce = [.seq 2 (((order h).map fun k => copyObj (order h) (objAt h k)).map Obj.ce), .seq 1 ((h.roots.map (newOf (order h))).map intt)] from rfl]
  let t1 : Tp pr := .i (show ((↑(List.map intt (order h)).length : Int) : Int) = (↑(order h).length : Int) by simp)
  let t3 : Tp pr := .i (show ((↑(List.map intt h.roots).length : Int) : Int) = (↑h.roots.length : Int) by simp)
  let t5 : Tp pr := .m (show (decide ((rowO (List.map (fun k => copyObj (order h) (objAt h k)) (order h))).length = (order h).length ∧ (0 : Nat) + (order h).length ≤ (order h).length)) = true by simp)
  let t6 : Tp pr := .n .rows (show (List.map (fun x => List.map C.fz x) (List.take (order h).length (List.drop (0 : Nat) (rowO (List.map (fun k => copyObj (order h) (objAt h k)) (order h)))))) = List.map (Obj.ce ∘ fun k => copyObj (order h) (objAt h k)) (order h) by simp)
  let t7 : Tp pr := .m (show (decide ((ints (List.map (newOf (order h)) h.roots)).length = h.roots.length ∧ (0 : Nat) + h.roots.length ≤ h.roots.length)) = true by simp)
  let t8 : Tp pr := .n .rows (show (List.map (fun x => List.map C.fz x) (List.take h.roots.length (List.drop (0 : Nat) (ints (List.map (newOf (order h)) h.roots))))) = List.map (intt ∘ newOf (order h)) h.roots by simp)
  exact .tpe [.a (o), t1, .a (g), t3, .a (g2), t5, t6, t7, t8] (Out.val (V.agg [V.t (T.seq (2 : Nat) (List.map (Obj.ce ∘ fun k => copyObj (order h) (objAt h k)) (order h))), V.t (T.seq (1 : Nat) (List.map (intt ∘ newOf (order h)) h.roots))]) []) (by kernel_rfl) ((congrArg (fun x => Out.val (V.agg [V.t (T.seq (2 : Nat) x), V.t (T.seq (1 : Nat) (List.map (intt ∘ newOf (order h)) h.roots))]) []) (show (List.map (Obj.ce ∘ fun k => copyObj (order h) (objAt h k)) (order h)) = (List.map Obj.ce (List.map (fun k => copyObj (order h) (objAt h k)) (order h))) by simp)).trans (congrArg (fun x => Out.val (V.agg [V.t (T.seq (2 : Nat) (List.map Obj.ce (List.map (fun k => copyObj (order h) (objAt h k)) (order h)))), V.t (T.seq (1 : Nat) x)]) []) (show (List.map (intt ∘ newOf (order h)) h.roots) = (List.map intt (List.map (newOf (order h)) h.roots)) by simp)))
end Go.Ev

/- Rows and objects that are the same. -/
namespace Go.Ev
set_option linter.unusedVariables false
set_option linter.unusedSimpArgs false
open Go.Proofs
set_option maxRecDepth 100000
set_option linter.unusedVariables false
set_option maxHeartbeats 2000000
def eqOut (t : Bool) : Out := if t = true then .exit 0 (at_ [] [] 0) else .ret (at_ [(4, bl false)] [] 0)
theorem eqSL_ev : ∀ (ra rb m : List Int), ra.length = rb.length → (m ++ ra).length ≤ 1048576 →
    Ev pr (.loop (lq pr 58 0) (at_ [(0, isq (m ++ ra)), (1, isq (m ++ rb)), (12, i64 (m ++ ra).length), (13, i64 m.length)] [] 0)) (eqOut (decide (ra = rb)))
  | [], rb, m, hl, hb => by
    obtain rfl : rb = [] := List.length_eq_zero_iff.1 hl.symm
    have hlen : ((m ++ ([] : List Int)).length : Int) = m.length := by simp
    rw [show eqOut (decide (([] : List Int) = [])) = .exit 0 (at_ [] [] 0) by simp [eqOut]]
    let t0 : Tp pr := .b (show (decide ((↑m.length : Int) < (↑(m ++ []).length : Int))) = false by simp)
    exact .tp [t0] (by kernel_rfl)
  | x :: ra, [], m, hl, hb => by simp at hl
  | x :: ra, y :: rb, m, hl, hb => by
    have hlen : ((m ++ x :: ra).length : Int) = m.length + 1 + ra.length := by simp; omega
    have hlen2 : (m ++ x :: ra).length = m.length + 1 + ra.length := by simp; omega
    have hg : lkp ((m ++ x :: ra).map intt) (m.length : Int) = some [T.int .i64 x] := by simp [intt]
    have hg2 : lkp ((m ++ y :: rb).map intt) (m.length : Int) = some [T.int .i64 y] := by simp [intt]
    by_cases hx : x = y
    · subst hx
      have ih := eqSL_ev ra rb (m ++ [x]) (by simpa using hl) (by simpa using hb)
      rw [List.append_assoc, List.append_assoc, List.singleton_append, List.singleton_append, List.length_append (bs := [x])] at ih
      rw [show decide (x :: ra = x :: rb) = decide (ra = rb) by simp]
      cases hd : decide (ra = rb) with
      | true =>
        rw [hd, show eqOut true = .exit 0 (at_ [] [] 0) from rfl] at ih
        rw [show eqOut true = .exit 0 (at_ [] [] 0) from rfl]
        let t0 : Tp pr := .b (show (decide ((↑m.length : Int) < (↑(m ++ x :: ra).length : Int))) = true by (simp; omega))
        let t3 : Tp pr := .g .row (show (lkp (List.map intt (m ++ x :: ra)) (↑m.length : Int)) = some ([T.int IntKind.i64 x]) from hg)
        let t8 : Tp pr := .g .row (show (lkp (List.map intt (m ++ x :: rb)) (↑m.length : Int)) = some ([T.int IntKind.i64 x]) from hg2)
        let t13 : Tp pr := .i (wrap_i64 (a := (↑m.length : Int) + (1 : Int)) (by omega) (by omega))
        exact .tp [t0, .m (rfl : true = true), .m (rfl : true = true), t3, .m (rfl : true = true), .m (rfl : true = true), .m (rfl : true = true), .m (rfl : true = true), t8, .m (rfl : true = true), .m (rfl : true = true), .m (rfl : true = true), .b (show (x != x) = false by simp), t13, .a (ih)] (by kernel_rfl)
      | false =>
        rw [hd, show eqOut false = .ret (at_ [(4, bl false)] [] 0) from rfl] at ih
        rw [show eqOut false = .ret (at_ [(4, bl false)] [] 0) from rfl]
        let t0 : Tp pr := .b (show (decide ((↑m.length : Int) < (↑(m ++ x :: ra).length : Int))) = true by (simp; omega))
        let t3 : Tp pr := .g .row (show (lkp (List.map intt (m ++ x :: ra)) (↑m.length : Int)) = some ([T.int IntKind.i64 x]) from hg)
        let t8 : Tp pr := .g .row (show (lkp (List.map intt (m ++ x :: rb)) (↑m.length : Int)) = some ([T.int IntKind.i64 x]) from hg2)
        let t13 : Tp pr := .i (wrap_i64 (a := (↑m.length : Int) + (1 : Int)) (by omega) (by omega))
        exact .tp [t0, .m (rfl : true = true), .m (rfl : true = true), t3, .m (rfl : true = true), .m (rfl : true = true), .m (rfl : true = true), .m (rfl : true = true), t8, .m (rfl : true = true), .m (rfl : true = true), .m (rfl : true = true), .b (show (x != x) = false by simp), t13, .a (ih)] (by kernel_rfl)
    · rw [show decide (x :: ra = y :: rb) = false by simp [hx], show eqOut false = .ret (at_ [(4, bl false)] [] 0) from rfl]
      let t0 : Tp pr := .b (show (decide ((↑m.length : Int) < (↑(m ++ x :: ra).length : Int))) = true by (simp; omega))
      let t3 : Tp pr := .g .row (show (lkp (List.map intt (m ++ x :: ra)) (↑m.length : Int)) = some ([T.int IntKind.i64 x]) from hg)
      let t8 : Tp pr := .g .row (show (lkp (List.map intt (m ++ y :: rb)) (↑m.length : Int)) = some ([T.int IntKind.i64 y]) from hg2)
      let t12 : Tp pr := .b (show (x != y) = true by (simp; omega))
      exact .tp [t0, .m (rfl : true = true), .m (rfl : true = true), t3, .m (rfl : true = true), .m (rfl : true = true), .m (rfl : true = true), .m (rfl : true = true), t8, .m (rfl : true = true), .m (rfl : true = true), .m (rfl : true = true), t12] (by kernel_rfl)
theorem eqS_ev (a b : List Int) (ha : a.length ≤ 1048576) (hb : b.length ≤ 1048576) : Ev pr (.call 58 [isq a, isq b] []) (.val (bl (decide (a = b))) []) := by
  by_cases hl : a.length = b.length
  · have g := eqSL_ev a b [] hl ha
    rw [List.nil_append, List.nil_append] at g
    cases hd : decide (a = b) with
    | true => rw [hd, show eqOut true = .exit 0 (at_ [] [] 0) from rfl] at g; (
      let t0 : Tp pr := .i (show ((↑(List.map intt a).length : Int) : Int) = (↑a.length : Int) by simp)
      let t1 : Tp pr := .i (show ((↑(List.map intt b).length : Int) : Int) = (↑b.length : Int) by simp)
      let t2 : Tp pr := .b (show ((↑a.length : Int) != (↑b.length : Int)) = false by (simp; omega))
      let t3 : Tp pr := .i (show ((↑(List.map intt a).length : Int) : Int) = (↑a.length : Int) by simp)
      exact .tp [t0, t1, t2, t3, .a (g)] (by kernel_rfl))
    | false => rw [hd, show eqOut false = .ret (at_ [(4, bl false)] [] 0) from rfl] at g; (
      let t0 : Tp pr := .i (show ((↑(List.map intt a).length : Int) : Int) = (↑a.length : Int) by simp)
      let t1 : Tp pr := .i (show ((↑(List.map intt b).length : Int) : Int) = (↑b.length : Int) by simp)
      let t2 : Tp pr := .b (show ((↑a.length : Int) != (↑b.length : Int)) = false by (simp; omega))
      let t3 : Tp pr := .i (show ((↑(List.map intt a).length : Int) : Int) = (↑a.length : Int) by simp)
      exact .tp [t0, t1, t2, t3, .a (g)] (by kernel_rfl))
  · have hd : decide (a = b) = false := by simp; intro h; exact hl (by rw [h])
    rw [hd]
    have hl2 : ¬ ((a.length : Int) = b.length) := by omega
    let t0 : Tp pr := .i (show ((↑(List.map intt a).length : Int) : Int) = (↑a.length : Int) by simp)
    let t1 : Tp pr := .i (show ((↑(List.map intt b).length : Int) : Int) = (↑b.length : Int) by simp)
    let t2 : Tp pr := .b (show ((↑a.length : Int) != (↑b.length : Int)) = true by (simp; omega))
    exact .tp [t0, t1, t2] (by kernel_rfl)
end Go.Ev

/- Objects that are the same. -/
namespace Go.Ev
set_option linter.unusedVariables false
set_option linter.unusedSimpArgs false
open Go.Proofs
set_option maxRecDepth 100000
set_option linter.unusedVariables false
set_option maxHeartbeats 2000000
theorem alikeL_ev : ∀ (ra rb m : List Int), ra.length = rb.length → (m ++ ra).length ≤ 1048576 →
    Ev pr (.loop (lq pr 53 0) (at_ [(0, isq (m ++ ra)), (1, isq (m ++ rb)), (12, i64 (m ++ ra).length), (13, i64 m.length)] [] 0)) (eqOut (decide (ra = rb)))
  | [], rb, m, hl, hb => by
    obtain rfl : rb = [] := List.length_eq_zero_iff.1 hl.symm
    have hlen : ((m ++ ([] : List Int)).length : Int) = m.length := by simp
    rw [show eqOut (decide (([] : List Int) = [])) = .exit 0 (at_ [] [] 0) by simp [eqOut]]
    let t0 : Tp pr := .b (show (decide ((↑m.length : Int) < (↑(m ++ []).length : Int))) = false by simp)
    exact .tp [t0] (by kernel_rfl)
  | x :: ra, [], m, hl, hb => by simp at hl
  | x :: ra, y :: rb, m, hl, hb => by
    have hlen : ((m ++ x :: ra).length : Int) = m.length + 1 + ra.length := by simp; omega
    have hlen2 : (m ++ x :: ra).length = m.length + 1 + ra.length := by simp; omega
    have hg : lkp ((m ++ x :: ra).map intt) (m.length : Int) = some [T.int .i64 x] := by simp [intt]
    have hg2 : lkp ((m ++ y :: rb).map intt) (m.length : Int) = some [T.int .i64 y] := by simp [intt]
    by_cases hx : x = y
    · subst hx
      have ih := alikeL_ev ra rb (m ++ [x]) (by simpa using hl) (by simpa using hb)
      rw [List.append_assoc, List.append_assoc, List.singleton_append, List.singleton_append, List.length_append (bs := [x])] at ih
      rw [show decide (x :: ra = x :: rb) = decide (ra = rb) by simp]
      cases hd : decide (ra = rb) with
      | true =>
        rw [hd, show eqOut true = .exit 0 (at_ [] [] 0) from rfl] at ih
        rw [show eqOut true = .exit 0 (at_ [] [] 0) from rfl]
        let t0 : Tp pr := .b (show (decide ((↑m.length : Int) < (↑(m ++ x :: ra).length : Int))) = true by (simp; omega))
        let t3 : Tp pr := .g .row (show (lkp (List.map intt (m ++ x :: ra)) (↑m.length : Int)) = some ([T.int IntKind.i64 x]) from hg)
        let t8 : Tp pr := .g .row (show (lkp (List.map intt (m ++ x :: rb)) (↑m.length : Int)) = some ([T.int IntKind.i64 x]) from hg2)
        let t13 : Tp pr := .i (wrap_i64 (a := (↑m.length : Int) + (1 : Int)) (by omega) (by omega))
        exact .tp [t0, .m (rfl : true = true), .m (rfl : true = true), t3, .m (rfl : true = true), .m (rfl : true = true), .m (rfl : true = true), .m (rfl : true = true), t8, .m (rfl : true = true), .m (rfl : true = true), .m (rfl : true = true), .b (show (x != x) = false by simp), t13, .a (ih)] (by kernel_rfl)
      | false =>
        rw [hd, show eqOut false = .ret (at_ [(4, bl false)] [] 0) from rfl] at ih
        rw [show eqOut false = .ret (at_ [(4, bl false)] [] 0) from rfl]
        let t0 : Tp pr := .b (show (decide ((↑m.length : Int) < (↑(m ++ x :: ra).length : Int))) = true by (simp; omega))
        let t3 : Tp pr := .g .row (show (lkp (List.map intt (m ++ x :: ra)) (↑m.length : Int)) = some ([T.int IntKind.i64 x]) from hg)
        let t8 : Tp pr := .g .row (show (lkp (List.map intt (m ++ x :: rb)) (↑m.length : Int)) = some ([T.int IntKind.i64 x]) from hg2)
        let t13 : Tp pr := .i (wrap_i64 (a := (↑m.length : Int) + (1 : Int)) (by omega) (by omega))
        exact .tp [t0, .m (rfl : true = true), .m (rfl : true = true), t3, .m (rfl : true = true), .m (rfl : true = true), .m (rfl : true = true), .m (rfl : true = true), t8, .m (rfl : true = true), .m (rfl : true = true), .m (rfl : true = true), .b (show (x != x) = false by simp), t13, .a (ih)] (by kernel_rfl)
    · rw [show decide (x :: ra = y :: rb) = false by simp [hx], show eqOut false = .ret (at_ [(4, bl false)] [] 0) from rfl]
      let t0 : Tp pr := .b (show (decide ((↑m.length : Int) < (↑(m ++ x :: ra).length : Int))) = true by (simp; omega))
      let t3 : Tp pr := .g .row (show (lkp (List.map intt (m ++ x :: ra)) (↑m.length : Int)) = some ([T.int IntKind.i64 x]) from hg)
      let t8 : Tp pr := .g .row (show (lkp (List.map intt (m ++ y :: rb)) (↑m.length : Int)) = some ([T.int IntKind.i64 y]) from hg2)
      let t12 : Tp pr := .b (show (x != y) = true by (simp; omega))
      exact .tp [t0, .m (rfl : true = true), .m (rfl : true = true), t3, .m (rfl : true = true), .m (rfl : true = true), .m (rfl : true = true), .m (rfl : true = true), t8, .m (rfl : true = true), .m (rfl : true = true), .m (rfl : true = true), t12] (by kernel_rfl)
theorem alike_ev (a b : List Int) (ha : a.length ≤ 1048576) (hb : b.length ≤ 1048576) : Ev pr (.call 53 [isq a, isq b] []) (.val (bl (decide (a = b))) []) := by
  by_cases hl : a.length = b.length
  · have g := alikeL_ev a b [] hl ha
    rw [List.nil_append, List.nil_append] at g
    cases hd : decide (a = b) with
    | true => rw [hd, show eqOut true = .exit 0 (at_ [] [] 0) from rfl] at g; (
      let t0 : Tp pr := .i (show ((↑(List.map intt a).length : Int) : Int) = (↑a.length : Int) by simp)
      let t1 : Tp pr := .i (show ((↑(List.map intt b).length : Int) : Int) = (↑b.length : Int) by simp)
      let t2 : Tp pr := .b (show ((↑a.length : Int) != (↑b.length : Int)) = false by (simp; omega))
      let t3 : Tp pr := .i (show ((↑(List.map intt a).length : Int) : Int) = (↑a.length : Int) by simp)
      exact .tp [t0, t1, t2, t3, .a (g)] (by kernel_rfl))
    | false => rw [hd, show eqOut false = .ret (at_ [(4, bl false)] [] 0) from rfl] at g; (
      let t0 : Tp pr := .i (show ((↑(List.map intt a).length : Int) : Int) = (↑a.length : Int) by simp)
      let t1 : Tp pr := .i (show ((↑(List.map intt b).length : Int) : Int) = (↑b.length : Int) by simp)
      let t2 : Tp pr := .b (show ((↑a.length : Int) != (↑b.length : Int)) = false by (simp; omega))
      let t3 : Tp pr := .i (show ((↑(List.map intt a).length : Int) : Int) = (↑a.length : Int) by simp)
      exact .tp [t0, t1, t2, t3, .a (g)] (by kernel_rfl))
  · have hd : decide (a = b) = false := by simp; intro h; exact hl (by rw [h])
    rw [hd]
    have hl2 : ¬ ((a.length : Int) = b.length) := by omega
    let t0 : Tp pr := .i (show ((↑(List.map intt a).length : Int) : Int) = (↑a.length : Int) by simp)
    let t1 : Tp pr := .i (show ((↑(List.map intt b).length : Int) : Int) = (↑b.length : Int) by simp)
    let t2 : Tp pr := .b (show ((↑a.length : Int) != (↑b.length : Int)) = true by (simp; omega))
    exact .tp [t0, t1, t2] (by kernel_rfl)
theorem sameF_ev (o p : Obj) (ho : o.links.length ≤ 1048576) (hp : p.links.length ≤ 1048576) : Ev pr (.call 57 [vs o.ce, vs p.ce] []) (.val (bl (objEq o p)) []) := by
  have e := eqS_ev o.links p.links ho hp
  unfold objEq
  by_cases hm : o.mark = p.mark
  · rw [decide_eq_true hm, Bool.true_and]
    let t0 : Tp pr := .b (show (decide (o.mark = p.mark)) = true by (simp; omega))
    exact .tp [t0, .a (e)] (by kernel_rfl)
  · rw [decide_eq_false hm, Bool.false_and]
    let t0 : Tp pr := .b (show (decide (o.mark = p.mark)) = false by (simp; omega))
    exact .tp [t0] (by kernel_rfl)
def eqOut6 (t : Bool) : Out := if t = true then .exit 0 (at_ [] [] 0) else .ret (at_ [(6, bl false)] [] 0)
theorem eqOL_ev : ∀ (ra rb m : List Obj), ra.length = rb.length → (m ++ ra).length ≤ 1048576 → (∀ x ∈ ra, x.links.length ≤ 1048576) → (∀ x ∈ rb, x.links.length ≤ 1048576) →
    Ev pr (.loop (lq pr 59 0) (at_ [(1, osq (m ++ rb)), (2, .t (.clo 57 [])), (15, osq (m ++ ra)), (16, i64 (m ++ ra).length), (17, i64 m.length)] [] 0)) (eqOut6 (objsEq ra rb))
  | [], rb, m, hl, hb, h1, h2 => by
    obtain rfl : rb = [] := List.length_eq_zero_iff.1 hl.symm
    have hlen : ((m ++ ([] : List Obj)).length : Int) = m.length := by simp
    rw [show eqOut6 (objsEq [] []) = .exit 0 (at_ [] [] 0) from rfl]
    let t0 : Tp pr := .b (show (decide ((↑m.length : Int) < (↑(m ++ []).length : Int))) = false by simp)
    exact .tp [t0] (by kernel_rfl)
  | x :: ra, [], m, hl, hb, h1, h2 => by simp at hl
  | x :: ra, y :: rb, m, hl, hb, h1, h2 => by
    have hlen : ((m ++ x :: ra).length : Int) = m.length + 1 + ra.length := by simp; omega
    have hlen2 : (m ++ x :: ra).length = m.length + 1 + ra.length := by simp; omega
    have hg : lkp ((m ++ x :: ra).map Obj.ce) (m.length : Int) = some x.ce := by simp
    have hg2 : lkp ((m ++ y :: rb).map Obj.ce) (m.length : Int) = some y.ce := by simp
    have hf := sameF_ev x y (h1 x (by simp)) (h2 y (by simp))
    rw [show objsEq (x :: ra) (y :: rb) = (objEq x y && objsEq ra rb) from rfl]
    cases hx : objEq x y with
    | true =>
      obtain rfl := objEq_iff.1 hx
      rw [hx] at hf
      have ih := eqOL_ev ra rb (m ++ [x]) (by simpa using hl) (by simpa using hb) (fun z hz => h1 z (by simp [hz])) (fun z hz => h2 z (by simp [hz]))
      rw [List.append_assoc, List.append_assoc, List.singleton_append, List.singleton_append, List.length_append (bs := [x])] at ih
      rw [Bool.true_and]
      cases hd : objsEq ra rb with
      | true =>
        rw [hd, show eqOut6 true = .exit 0 (at_ [] [] 0) from rfl] at ih
        rw [show eqOut6 true = .exit 0 (at_ [] [] 0) from rfl]
        let t0 : Tp pr := .b (show (decide ((↑m.length : Int) < (↑(m ++ x :: ra).length : Int))) = true by (simp; omega))
        let t1 : Tp pr := .g .row (show (lkp (List.map Obj.ce (m ++ x :: ra)) (↑m.length : Int)) = some (x.ce) from hg)
        let t2 : Tp pr := .g .row (show (lkp (List.map Obj.ce (m ++ x :: rb)) (↑m.length : Int)) = some (x.ce) from hg2)
        let t5 : Tp pr := .i (wrap_i64 (a := (↑m.length : Int) + (1 : Int)) (by omega) (by omega))
        exact .tp [t0, t1, t2, .a (hf), .b (rfl : false = false), t5, .a (ih)] (by kernel_rfl)
      | false =>
        rw [hd, show eqOut6 false = .ret (at_ [(6, bl false)] [] 0) from rfl] at ih
        rw [show eqOut6 false = .ret (at_ [(6, bl false)] [] 0) from rfl]
        let t0 : Tp pr := .b (show (decide ((↑m.length : Int) < (↑(m ++ x :: ra).length : Int))) = true by (simp; omega))
        let t1 : Tp pr := .g .row (show (lkp (List.map Obj.ce (m ++ x :: ra)) (↑m.length : Int)) = some (x.ce) from hg)
        let t2 : Tp pr := .g .row (show (lkp (List.map Obj.ce (m ++ x :: rb)) (↑m.length : Int)) = some (x.ce) from hg2)
        let t5 : Tp pr := .i (wrap_i64 (a := (↑m.length : Int) + (1 : Int)) (by omega) (by omega))
        exact .tp [t0, t1, t2, .a (hf), .b (rfl : false = false), t5, .a (ih)] (by kernel_rfl)
    | false =>
      rw [hx] at hf
      rw [Bool.false_and, show eqOut6 false = .ret (at_ [(6, bl false)] [] 0) from rfl]
      let t0 : Tp pr := .b (show (decide ((↑m.length : Int) < (↑(m ++ x :: ra).length : Int))) = true by (simp; omega))
      let t1 : Tp pr := .g .row (show (lkp (List.map Obj.ce (m ++ x :: ra)) (↑m.length : Int)) = some (x.ce) from hg)
      let t2 : Tp pr := .g .row (show (lkp (List.map Obj.ce (m ++ y :: rb)) (↑m.length : Int)) = some (y.ce) from hg2)
      exact .tp [t0, t1, t2, .a (hf), .b (rfl : true = true)] (by kernel_rfl)
theorem eqO_ev (a b : List Obj) (ha : a.length ≤ 1048576) (hb : b.length ≤ 1048576) (h1 : ∀ x ∈ a, x.links.length ≤ 1048576) (h2 : ∀ x ∈ b, x.links.length ≤ 1048576) :
    Ev pr (.call 59 [osq a, osq b, .t (.clo 57 [])] []) (.val (bl (objsEq a b)) []) := by
  by_cases hl : a.length = b.length
  · have g := eqOL_ev a b [] hl ha h1 h2
    rw [List.nil_append, List.nil_append] at g
    cases hd : objsEq a b with
    | true => rw [hd, show eqOut6 true = .exit 0 (at_ [] [] 0) from rfl] at g; (
      let t0 : Tp pr := .i (show ((↑(List.map Obj.ce a).length : Int) : Int) = (↑a.length : Int) by simp)
      let t1 : Tp pr := .i (show ((↑(List.map Obj.ce b).length : Int) : Int) = (↑b.length : Int) by simp)
      let t2 : Tp pr := .b (show ((↑a.length : Int) != (↑b.length : Int)) = false by (simp; omega))
      let t3 : Tp pr := .i (show ((↑(List.map Obj.ce a).length : Int) : Int) = (↑a.length : Int) by simp)
      exact .tp [t0, t1, t2, t3, .a (g)] (by kernel_rfl))
    | false => rw [hd, show eqOut6 false = .ret (at_ [(6, bl false)] [] 0) from rfl] at g; (
      let t0 : Tp pr := .i (show ((↑(List.map Obj.ce a).length : Int) : Int) = (↑a.length : Int) by simp)
      let t1 : Tp pr := .i (show ((↑(List.map Obj.ce b).length : Int) : Int) = (↑b.length : Int) by simp)
      let t2 : Tp pr := .b (show ((↑a.length : Int) != (↑b.length : Int)) = false by (simp; omega))
      let t3 : Tp pr := .i (show ((↑(List.map Obj.ce a).length : Int) : Int) = (↑a.length : Int) by simp)
      exact .tp [t0, t1, t2, t3, .a (g)] (by kernel_rfl))
  · rw [objsEq_len hl]
    have hl2 : ¬ ((a.length : Int) = b.length) := by omega
    let t0 : Tp pr := .i (show ((↑(List.map Obj.ce a).length : Int) : Int) = (↑a.length : Int) by simp)
    let t1 : Tp pr := .i (show ((↑(List.map Obj.ce b).length : Int) : Int) = (↑b.length : Int) by simp)
    let t2 : Tp pr := .b (show ((↑a.length : Int) != (↑b.length : Int)) = true by (simp; omega))
    exact .tp [t0, t1, t2] (by kernel_rfl)
end Go.Ev

/- CopyHeap: the program's and the reference's, and the law. -/
namespace Go.Ev
set_option linter.unusedVariables false
set_option linter.unusedSimpArgs false
open Go.Proofs
set_option maxRecDepth 100000
set_option linter.unusedVariables false
set_option maxHeartbeats 4000000
attribute [local simp] obcc_take3 ints_take3 obcc_flat3 ints_flat3 markI_len ints_takeC
@[local simp] theorem names_take2 (N : Nat) (l : List Int) : List.take N (ints (namesOf N l)) = ints (namesOf N l) := List.take_of_length_le (by simp)
theorem namesOf_snoc (N : Nat) (l : List Int) : namesOf (N + 1) l = namesOf N l ++ [newOf l N] := by simp [namesOf, List.range_succ]
theorem numL_ev (h : Hp) (o : List Int) (ho : o.length ≤ 1048576) (N : Nat) (hN : N ≤ 40) : ∀ (n i : Nat), i + n = N →
    Ev pr (.loop (lq pr 14 0) (at_ [(1, .ptr 0 1 0 0), (2, .ptr 1 1 0 0), (5, isq o), (6, .vec 2 i 1 0 i), (16, i64 N), (17, i64 i)]
        [.box [osq h.objects, isq h.roots], .box [.t .nils, .t .nils], .vec true 1 (ints (namesOf i o))] 0))
      (.exit 0 (at_ [(1, .ptr 0 1 0 0), (2, .ptr 1 1 0 0), (6, .vec 2 N 1 0 N)]
        [.box [osq h.objects, isq h.roots], .box [.t .nils, .t .nils], .vec true 1 (ints (namesOf N o))] 0))
  | 0, i, hi => by
    obtain rfl : i = N := by omega
    let t0 : Tp pr := .b (show (decide ((↑i : Int) < (↑i : Int))) = false by simp)
    exact .tp [t0] (by kernel_rfl)
  | n + 1, i, hi => by
    have hlt : (i : Int) < N := by omega
    have hn := l15New_ev o i ho
    have ih := numL_ev h o ho N hN n (i + 1) (by omega)
    rw [namesOf_snoc, ints_app, show ints [newOf o i] = [[C.t (.int .i64 (newOf o i))]] from rfl] at ih
    let t0 : Tp pr := .b (show (decide ((↑i : Int) < (↑N : Int))) = true by (simp; omega))
    let t3 : Tp pr := .m (show (decide ((ints (namesOf i o)).length = i ∧ (0 : Nat) + i ≤ i ∧ i + (1 : Nat) ≤ (4294967296 : Nat))) = true by (simp; omega))
    let t4 : Tp pr := .b (show (decide (i + (1 : Nat) ≤ i)) = false by simp)
    let t6 : Tp pr := .n .crows (show ((List.take i (ints (namesOf i o))).append (List.take (1 : Nat) (List.drop (0 : Nat) [[C.t (T.int IntKind.i64 (newOf o (↑i : Int)))]]))) = ints (namesOf i o) ++ [[C.t (T.int IntKind.i64 (newOf o (↑i : Int)))]] by simp)
    let t7 : Tp pr := .i (wrap_i64 (a := (↑i : Int) + (1 : Int)) (by omega) (by omega))
    exact .tp [t0, .a (hn), .m (rfl : true = true), t3, t4, .c (rfl : (i + (1 : Nat)) = _), t6, t7, .a (ih)] (by kernel_rfl)
theorem CopySF_ev (h : Hp) (h1 : h.objects.length ≤ 1048576) (h2 : ∀ x ∈ h.objects, x.links.length ≤ 1048576) (h3 : h.roots.length ≤ 1048576) (hg : goodHeap h = false) :
    Ev pr (.call 14 [vs h.ce] []) (.val (.tup [vs (Hp.mk [] []).ce, .t (.seq 1 []), bl false]) []) := by
  have e := GoodHeapS_ev h h1 h2 h3
  rw [hg] at e
  exact .tp [.a (e), .b (rfl : true = true)] (by kernel_rfl)
theorem CopyST_ev (h : Hp) (h1 : h.objects.length ≤ 1048576) (h2 : ∀ x ∈ h.objects, x.links.length ≤ 1048576) (h3 : h.roots.length ≤ 1048576) (hg : goodHeap h = true) :
    Ev pr (.call 14 [vs h.ce] []) (.val (.tup [vs (copyH h).ce, isq (namesOf h.objects.length (order h)), bl true]) []) := by
  have e := GoodHeapS_ev h h1 h2 h3
  rw [hg] at e
  have gd := goodHeap_ok hg
  have hN := gd.objs
  have o := l15Order_ev h gd
  have ol := ordlen gd
  have c := l15Copy_ev h gd
  have l := numL_ev h (order h) (by omega) h.objects.length hN h.objects.length 0 (by omega)
  rw [show namesOf 0 (order h) = [] from rfl] at l
  let t3 : Tp pr := .i (show ((↑(List.map Obj.ce h.objects).length : Int) : Int) = (↑h.objects.length : Int) by simp)
  let t6 : Tp pr := .m (show (decide ((ints (namesOf h.objects.length (order h))).length = h.objects.length ∧ (0 : Nat) + h.objects.length ≤ h.objects.length)) = true by simp)
  let t7 : Tp pr := .n .rows (show (List.map (fun x => List.map C.fz x) (List.take h.objects.length (List.drop (0 : Nat) (ints (namesOf h.objects.length (order h)))))) = List.map intt (namesOf h.objects.length (order h)) by simp)
  exact .tp [.a (e), .b (rfl : false = false), .a (o), t3, .a (l), .a (c), t6, t7] (by kernel_rfl)
theorem CopyIF_ev (h : Hp) (h1 : h.objects.length ≤ 1048576) (h2 : ∀ x ∈ h.objects, x.links.length ≤ 1048576) (h3 : h.roots.length ≤ 1048576) (hg : goodHeap h = false) :
    Ev pr (.call 15 [vs h.ce] []) (.val (.tup [vs (Hp.mk [] []).ce, .t (.seq 1 []), bl false]) []) := by
  have e := GoodHeapI_ev h h1 h2 h3
  rw [hg] at e
  exact .tp [.a (e), .b (rfl : true = true)] (by kernel_rfl)
theorem CopyIT_ev (h : Hp) (h1 : h.objects.length ≤ 1048576) (h2 : ∀ x ∈ h.objects, x.links.length ≤ 1048576) (h3 : h.roots.length ≤ 1048576) (hg : goodHeap h = true) :
    Ev pr (.call 15 [vs h.ce] []) (.val (.tup [vs (copyH h).ce, isq (namesOf h.objects.length (order h)), bl true]) []) := by
  have e := GoodHeapI_ev h h1 h2 h3
  rw [hg] at e
  have c := copyHeap_ev h (goodHeap_ok hg)
  let t3 : Tp pr := .m (show (decide ((List.map Obj.cc (copyH h).objects).length = (copyH h).objects.length ∧ (0 : Nat) + (copyH h).objects.length ≤ (copyH h).objects.length)) = true by simp)
  let t4 : Tp pr := .n .rows (show (List.map (fun x => List.map C.fz x) (List.take (copyH h).objects.length (List.drop (0 : Nat) (List.map Obj.cc (copyH h).objects)))) = List.map Obj.ce (copyH h).objects by simp)
  let t5 : Tp pr := .m (show (decide ((ints (copyH h).roots).length = (copyH h).roots.length ∧ (0 : Nat) + (copyH h).roots.length ≤ (copyH h).roots.length)) = true by simp)
  let t6 : Tp pr := .n .rows (show (List.map (fun x => List.map C.fz x) (List.take (copyH h).roots.length (List.drop (0 : Nat) (ints (copyH h).roots)))) = List.map intt (copyH h).roots by simp)
  let t7 : Tp pr := .m (show (decide ((ints (namesOf h.objects.length (order h))).length = h.objects.length ∧ (0 : Nat) + h.objects.length ≤ h.objects.length)) = true by simp)
  let t8 : Tp pr := .n .rows (show (List.map (fun x => List.map C.fz x) (List.take h.objects.length (List.drop (0 : Nat) (ints (namesOf h.objects.length (order h)))))) = List.map intt (namesOf h.objects.length (order h)) by simp)
  exact .tp [.a (e), .b (rfl : false = false), .a (c), t3, t4, t5, t6, t7, t8] (by kernel_rfl)
theorem copyH_bds {h : Hp} (hg : GoodH h) : (copyH h).objects.length ≤ 40 ∧ (∀ x ∈ (copyH h).objects, x.links.length ≤ 4) ∧ (copyH h).roots.length ≤ 10 := by
  refine ⟨by have := ordlen hg; simpa [copyH] using this, fun x hx => ?_, by have := hg.rlen; simpa [copyH] using this⟩
  obtain ⟨k, hk, rfl⟩ := List.mem_map.1 hx
  have hb := order_bd hg k hk
  have := hg.llen _ (objAt_mem hb.1 hb.2)
  simpa [copyObj] using this
end Go.Ev

/- SameHeaps: the program's and the reference's. -/
namespace Go.Ev
set_option linter.unusedVariables false
set_option linter.unusedSimpArgs false
open Go.Proofs
set_option maxRecDepth 100000
set_option linter.unusedVariables false
set_option maxHeartbeats 4000000
attribute [local simp] obcc_take3 ints_take3 obcc_flat3 ints_flat3 ints_takeC
theorem SameI1_ev (a b : Hp) (a1 : a.objects.length ≤ 1048576) (a2 : ∀ x ∈ a.objects, x.links.length ≤ 1048576) (a3 : a.roots.length ≤ 1048576) (ga : goodHeap a = false) :
    Ev pr (.call 12 [vs a.ce, vs b.ce] []) (.val (.tup [bl false, bl false]) []) := by
  have e := GoodHeapI_ev a a1 a2 a3
  rw [ga] at e
  exact .tp [.a (e), .b (rfl : true = true), .b (rfl : true = true)] (by kernel_rfl)
theorem SameI2_ev (a b : Hp) (a1 : a.objects.length ≤ 1048576) (a2 : ∀ x ∈ a.objects, x.links.length ≤ 1048576) (a3 : a.roots.length ≤ 1048576) (ga : goodHeap a = true)
    (b1 : b.objects.length ≤ 1048576) (b2 : ∀ x ∈ b.objects, x.links.length ≤ 1048576) (b3 : b.roots.length ≤ 1048576) (gb : goodHeap b = false) :
    Ev pr (.call 12 [vs a.ce, vs b.ce] []) (.val (.tup [bl false, bl false]) []) := by
  have e := GoodHeapI_ev a a1 a2 a3
  rw [ga] at e
  have e2 := GoodHeapI_ev b b1 b2 b3
  rw [gb] at e2
  exact .tp [.a (e), .b (rfl : false = false), .a (e2), .b (rfl : true = true)] (by kernel_rfl)
theorem SameI3_ev (a b : Hp) (a1 : a.objects.length ≤ 1048576) (a2 : ∀ x ∈ a.objects, x.links.length ≤ 1048576) (a3 : a.roots.length ≤ 1048576) (ga : goodHeap a = true)
    (b1 : b.objects.length ≤ 1048576) (b2 : ∀ x ∈ b.objects, x.links.length ≤ 1048576) (b3 : b.roots.length ≤ 1048576) (gb : goodHeap b = true) :
    Ev pr (.call 12 [vs a.ce, vs b.ce] []) (.val (.tup [bl (sameH a b), bl true]) []) := by
  have e := GoodHeapI_ev a a1 a2 a3
  rw [ga] at e
  have e2 := GoodHeapI_ev b b1 b2 b3
  rw [gb] at e2
  have ca := copyHeap_ev a (goodHeap_ok ga)
  have cb := copyHeap_ev b (goodHeap_ok gb)
  obtain ⟨n1, n2, n3⟩ := copyH_bds (goodHeap_ok ga)
  obtain ⟨m1, m2, m3⟩ := copyH_bds (goodHeap_ok gb)
  unfold sameH
  generalize copyH a = x at *
  generalize copyH b = y at *
  have q := eqS_ev x.roots y.roots (by omega) (by omega)
  have q2 := eqO_ev x.objects y.objects (by omega) (by omega) (fun z hz => by have := n2 z hz; omega) (fun z hz => by have := m2 z hz; omega)
  cases hr : decide (x.roots = y.roots) with
  | true =>
    rw [hr] at q
    rw [Bool.true_and]
    let t6 : Tp pr := .m (show (decide ((ints x.roots).length = x.roots.length ∧ (0 : Nat) + x.roots.length ≤ x.roots.length)) = true by simp)
    let t7 : Tp pr := .n .rows (show (List.map (fun x => List.map C.fz x) (List.take x.roots.length (List.drop (0 : Nat) (ints x.roots)))) = List.map intt x.roots by simp)
    let t8 : Tp pr := .m (show (decide ((ints y.roots).length = y.roots.length ∧ (0 : Nat) + y.roots.length ≤ y.roots.length)) = true by simp)
    let t9 : Tp pr := .n .rows (show (List.map (fun x => List.map C.fz x) (List.take y.roots.length (List.drop (0 : Nat) (ints y.roots)))) = List.map intt y.roots by simp)
    let t13 : Tp pr := .m (show (decide ((List.map Obj.cc x.objects).length = x.objects.length ∧ (0 : Nat) + x.objects.length ≤ x.objects.length)) = true by simp)
    let t14 : Tp pr := .n .rows (show (List.map (fun x => List.map C.fz x) (List.take x.objects.length (List.drop (0 : Nat) (List.map Obj.cc x.objects)))) = List.map Obj.ce x.objects by simp)
    let t15 : Tp pr := .m (show (decide ((List.map Obj.cc y.objects).length = y.objects.length ∧ (0 : Nat) + y.objects.length ≤ y.objects.length)) = true by simp)
    let t16 : Tp pr := .n .rows (show (List.map (fun x => List.map C.fz x) (List.take y.objects.length (List.drop (0 : Nat) (List.map Obj.cc y.objects)))) = List.map Obj.ce y.objects by simp)
    exact .tp [.a (e), .b (rfl : false = false), .a (e2), .b (rfl : false = false), .a (ca), .a (cb), t6, t7, t8, t9, .a (q), .m (rfl : true = true), .b (rfl : true = true), t13, t14, t15, t16, .a (q2), .m (rfl : true = true)] (by kernel_rfl)
  | false =>
    rw [hr] at q
    rw [Bool.false_and]
    let t6 : Tp pr := .m (show (decide ((ints x.roots).length = x.roots.length ∧ (0 : Nat) + x.roots.length ≤ x.roots.length)) = true by simp)
    let t7 : Tp pr := .n .rows (show (List.map (fun x => List.map C.fz x) (List.take x.roots.length (List.drop (0 : Nat) (ints x.roots)))) = List.map intt x.roots by simp)
    let t8 : Tp pr := .m (show (decide ((ints y.roots).length = y.roots.length ∧ (0 : Nat) + y.roots.length ≤ y.roots.length)) = true by simp)
    let t9 : Tp pr := .n .rows (show (List.map (fun x => List.map C.fz x) (List.take y.roots.length (List.drop (0 : Nat) (ints y.roots)))) = List.map intt y.roots by simp)
    exact .tp [.a (e), .b (rfl : false = false), .a (e2), .b (rfl : false = false), .a (ca), .a (cb), t6, t7, t8, t9, .a (q), .m (rfl : true = true), .b (rfl : false = false)] (by kernel_rfl)
theorem SameS1_ev (a b : Hp) (a1 : a.objects.length ≤ 1048576) (a2 : ∀ x ∈ a.objects, x.links.length ≤ 1048576) (a3 : a.roots.length ≤ 1048576) (ga : goodHeap a = false) :
    Ev pr (.call 10 [vs a.ce, vs b.ce] []) (.val (.tup [bl false, bl false]) []) := by
  have e := GoodHeapS_ev a a1 a2 a3
  rw [ga] at e
  exact .tp [.a (e), .b (rfl : true = true), .b (rfl : true = true)] (by kernel_rfl)
theorem SameS2_ev (a b : Hp) (a1 : a.objects.length ≤ 1048576) (a2 : ∀ x ∈ a.objects, x.links.length ≤ 1048576) (a3 : a.roots.length ≤ 1048576) (ga : goodHeap a = true)
    (b1 : b.objects.length ≤ 1048576) (b2 : ∀ x ∈ b.objects, x.links.length ≤ 1048576) (b3 : b.roots.length ≤ 1048576) (gb : goodHeap b = false) :
    Ev pr (.call 10 [vs a.ce, vs b.ce] []) (.val (.tup [bl false, bl false]) []) := by
  have e := GoodHeapS_ev a a1 a2 a3
  rw [ga] at e
  have e2 := GoodHeapS_ev b b1 b2 b3
  rw [gb] at e2
  exact .tp [.a (e), .b (rfl : false = false), .a (e2), .b (rfl : true = true)] (by kernel_rfl)
def eqOut45 (t : Bool) : Out := if t = true then .exit 0 (at_ [] [] 0) else .ret (at_ [(4, bl false), (5, bl true)] [] 0)
theorem sameL_ev (rs : List Int) : ∀ (ra rb m : List Obj), ra.length = rb.length → (m ++ ra).length ≤ 1048576 → (∀ x ∈ ra, x.links.length ≤ 1048576) → (∀ x ∈ rb, x.links.length ≤ 1048576) →
    Ev pr (.loop (lq pr 10 0) (at_ [(7, .ptr 0 1 0 0), (38, osq (m ++ ra)), (39, i64 (m ++ ra).length), (40, i64 m.length)] [.box [osq (m ++ rb), isq rs]] 0)) (eqOut45 (objsEq ra rb))
  | [], rb, m, hl, hb, h1, h2 => by
    obtain rfl : rb = [] := List.length_eq_zero_iff.1 hl.symm
    have hlen : ((m ++ ([] : List Obj)).length : Int) = m.length := by simp
    rw [show eqOut45 (objsEq [] []) = .exit 0 (at_ [] [] 0) from rfl]
    let t0 : Tp pr := .b (show (decide ((↑m.length : Int) < (↑(m ++ []).length : Int))) = false by simp)
    exact .tp [t0] (by kernel_rfl)
  | x :: ra, [], m, hl, hb, h1, h2 => by simp at hl
  | x :: ra, y :: rb, m, hl, hb, h1, h2 => by
    have hlen : ((m ++ x :: ra).length : Int) = m.length + 1 + ra.length := by simp; omega
    have hlen2 : (m ++ x :: ra).length = m.length + 1 + ra.length := by simp; omega
    have hg : lkp ((m ++ x :: ra).map Obj.ce) (m.length : Int) = some x.ce := by simp
    have hg2 : lkp ((m ++ y :: rb).map Obj.ce) (m.length : Int) = some y.ce := by simp
    have hf := alike_ev x.links y.links (h1 x (by simp)) (h2 y (by simp))
    rw [show objsEq (x :: ra) (y :: rb) = ((decide (x.mark = y.mark) && decide (x.links = y.links)) && objsEq ra rb) from rfl]
    by_cases hk : x.mark = y.mark
    · rw [decide_eq_true hk, Bool.true_and]
      cases hx : decide (x.links = y.links) with
      | true =>
        have hxy : x = y := objEq_iff.1 (by simp [objEq, hk, of_decide_eq_true hx])
        rw [hx] at hf
        have ih := sameL_ev rs ra rb (m ++ [x]) (by simpa using hl) (by simpa using hb) (fun z hz => h1 z (by simp [hz])) (fun z hz => h2 z (by simp [hz]))
        rw [List.append_assoc, List.append_assoc, List.singleton_append, List.singleton_append, List.length_append (bs := [x])] at ih
        rw [Bool.true_and]
        subst hxy
        cases hd : objsEq ra rb with
        | true =>
          rw [hd, show eqOut45 true = .exit 0 (at_ [] [] 0) from rfl] at ih
          rw [show eqOut45 true = .exit 0 (at_ [] [] 0) from rfl]
          let t0 : Tp pr := .b (show (decide ((↑m.length : Int) < (↑(m ++ x :: ra).length : Int))) = true by (simp; omega))
          let t1 : Tp pr := .g .row (show (lkp (List.map Obj.ce (m ++ x :: ra)) (↑m.length : Int)) = some (x.ce) from hg)
          let t7 : Tp pr := .g .row (show (lkp (List.map Obj.ce (m ++ x :: rb)) (↑m.length : Int)) = some (x.ce) from hg2)
          let t13 : Tp pr := .b (show (x.mark != x.mark) = false by simp)
          let t19 : Tp pr := .g .row (show (lkp (List.map Obj.ce (m ++ x :: rb)) (↑m.length : Int)) = some (x.ce) from hg2)
          let t28 : Tp pr := .i (wrap_i64 (a := (↑m.length : Int) + (1 : Int)) (by omega) (by omega))
          exact .tp [t0, t1, .m (rfl : true = true), .m (rfl : true = true), .m (rfl : true = true), .m (rfl : true = true), .m (rfl : true = true), t7, .m (rfl : true = true), .m (rfl : true = true), .m (rfl : true = true), .m (rfl : true = true), .m (rfl : true = true), t13, .m (rfl : true = true), .m (rfl : true = true), .m (rfl : true = true), .m (rfl : true = true), .m (rfl : true = true), t19, .m (rfl : true = true), .m (rfl : true = true), .m (rfl : true = true), .a (hf), .m (rfl : true = true), .m (rfl : true = true), .m (rfl : true = true), .b (rfl : false = false), t28, .a (ih)] (by kernel_rfl)
        | false =>
          rw [hd, show eqOut45 false = .ret (at_ [(4, bl false), (5, bl true)] [] 0) from rfl] at ih
          rw [show eqOut45 false = .ret (at_ [(4, bl false), (5, bl true)] [] 0) from rfl]
          let t0 : Tp pr := .b (show (decide ((↑m.length : Int) < (↑(m ++ x :: ra).length : Int))) = true by (simp; omega))
          let t1 : Tp pr := .g .row (show (lkp (List.map Obj.ce (m ++ x :: ra)) (↑m.length : Int)) = some (x.ce) from hg)
          let t7 : Tp pr := .g .row (show (lkp (List.map Obj.ce (m ++ x :: rb)) (↑m.length : Int)) = some (x.ce) from hg2)
          let t13 : Tp pr := .b (show (x.mark != x.mark) = false by simp)
          let t19 : Tp pr := .g .row (show (lkp (List.map Obj.ce (m ++ x :: rb)) (↑m.length : Int)) = some (x.ce) from hg2)
          let t28 : Tp pr := .i (wrap_i64 (a := (↑m.length : Int) + (1 : Int)) (by omega) (by omega))
          exact .tp [t0, t1, .m (rfl : true = true), .m (rfl : true = true), .m (rfl : true = true), .m (rfl : true = true), .m (rfl : true = true), t7, .m (rfl : true = true), .m (rfl : true = true), .m (rfl : true = true), .m (rfl : true = true), .m (rfl : true = true), t13, .m (rfl : true = true), .m (rfl : true = true), .m (rfl : true = true), .m (rfl : true = true), .m (rfl : true = true), t19, .m (rfl : true = true), .m (rfl : true = true), .m (rfl : true = true), .a (hf), .m (rfl : true = true), .m (rfl : true = true), .m (rfl : true = true), .b (rfl : false = false), t28, .a (ih)] (by kernel_rfl)
      | false =>
        rw [hx] at hf
        rw [Bool.false_and, show eqOut45 false = .ret (at_ [(4, bl false), (5, bl true)] [] 0) from rfl]
        let t0 : Tp pr := .b (show (decide ((↑m.length : Int) < (↑(m ++ x :: ra).length : Int))) = true by (simp; omega))
        let t1 : Tp pr := .g .row (show (lkp (List.map Obj.ce (m ++ x :: ra)) (↑m.length : Int)) = some (x.ce) from hg)
        let t7 : Tp pr := .g .row (show (lkp (List.map Obj.ce (m ++ y :: rb)) (↑m.length : Int)) = some (y.ce) from hg2)
        let t13 : Tp pr := .b (show (x.mark != y.mark) = false by (simp; omega))
        let t19 : Tp pr := .g .row (show (lkp (List.map Obj.ce (m ++ y :: rb)) (↑m.length : Int)) = some (y.ce) from hg2)
        exact .tp [t0, t1, .m (rfl : true = true), .m (rfl : true = true), .m (rfl : true = true), .m (rfl : true = true), .m (rfl : true = true), t7, .m (rfl : true = true), .m (rfl : true = true), .m (rfl : true = true), .m (rfl : true = true), .m (rfl : true = true), t13, .m (rfl : true = true), .m (rfl : true = true), .m (rfl : true = true), .m (rfl : true = true), .m (rfl : true = true), t19, .m (rfl : true = true), .m (rfl : true = true), .m (rfl : true = true), .a (hf), .m (rfl : true = true), .m (rfl : true = true), .m (rfl : true = true), .b (rfl : true = true)] (by kernel_rfl)
    · rw [decide_eq_false hk, Bool.false_and, Bool.false_and, show eqOut45 false = .ret (at_ [(4, bl false), (5, bl true)] [] 0) from rfl]
      let t0 : Tp pr := .b (show (decide ((↑m.length : Int) < (↑(m ++ x :: ra).length : Int))) = true by (simp; omega))
      let t1 : Tp pr := .g .row (show (lkp (List.map Obj.ce (m ++ x :: ra)) (↑m.length : Int)) = some (x.ce) from hg)
      let t7 : Tp pr := .g .row (show (lkp (List.map Obj.ce (m ++ y :: rb)) (↑m.length : Int)) = some (y.ce) from hg2)
      let t13 : Tp pr := .b (show (x.mark != y.mark) = true by (simp; omega))
      exact .tp [t0, t1, .m (rfl : true = true), .m (rfl : true = true), .m (rfl : true = true), .m (rfl : true = true), .m (rfl : true = true), t7, .m (rfl : true = true), .m (rfl : true = true), .m (rfl : true = true), .m (rfl : true = true), .m (rfl : true = true), t13, .m (rfl : true = true), .m (rfl : true = true), .m (rfl : true = true), .m (rfl : true = true), .m (rfl : true = true), .m (rfl : true = true), .m (rfl : true = true), .m (rfl : true = true), .m (rfl : true = true), .m (rfl : true = true), .m (rfl : true = true), .b (rfl : true = true)] (by kernel_rfl)
theorem SameS3_ev (a b : Hp) (a1 : a.objects.length ≤ 1048576) (a2 : ∀ x ∈ a.objects, x.links.length ≤ 1048576) (a3 : a.roots.length ≤ 1048576) (ga : goodHeap a = true)
    (b1 : b.objects.length ≤ 1048576) (b2 : ∀ x ∈ b.objects, x.links.length ≤ 1048576) (b3 : b.roots.length ≤ 1048576) (gb : goodHeap b = true) :
    Ev pr (.call 10 [vs a.ce, vs b.ce] []) (.val (.tup [bl (sameH a b), bl true]) []) := by
  have e := GoodHeapS_ev a a1 a2 a3
  rw [ga] at e
  have e2 := GoodHeapS_ev b b1 b2 b3
  rw [gb] at e2
  have ca := l15Copy_ev a (goodHeap_ok ga)
  have cb := l15Copy_ev b (goodHeap_ok gb)
  obtain ⟨n1, n2, n3⟩ := copyH_bds (goodHeap_ok ga)
  obtain ⟨m1, m2, m3⟩ := copyH_bds (goodHeap_ok gb)
  unfold sameH
  generalize copyH a = x at *
  generalize copyH b = y at *
  have q := alike_ev x.roots y.roots (by omega) (by omega)
  cases hr : decide (x.roots = y.roots) with
  | true =>
    rw [hr] at q
    rw [Bool.true_and]
    by_cases hl : x.objects.length = y.objects.length
    · have g := sameL_ev y.roots x.objects y.objects [] hl (by simp; omega) (fun z hz => by have := n2 z hz; omega) (fun z hz => by have := m2 z hz; omega)
      rw [List.nil_append, List.nil_append] at g
      cases hd : objsEq x.objects y.objects with
      | true => rw [hd, show eqOut45 true = .exit 0 (at_ [] [] 0) from rfl] at g; (
        let t8 : Tp pr := .i (show ((↑(List.map Obj.ce x.objects).length : Int) : Int) = (↑x.objects.length : Int) by simp)
        let t9 : Tp pr := .i (show ((↑(List.map Obj.ce y.objects).length : Int) : Int) = (↑y.objects.length : Int) by simp)
        let t10 : Tp pr := .b (show ((↑x.objects.length : Int) != (↑y.objects.length : Int)) = false by (simp; omega))
        let t11 : Tp pr := .i (show ((↑(List.map Obj.ce x.objects).length : Int) : Int) = (↑x.objects.length : Int) by simp)
        exact .tp [.a (e), .b (rfl : false = false), .a (e2), .b (rfl : false = false), .a (ca), .a (cb), .a (q), .b (rfl : false = false), t8, t9, t10, t11, .a (g)] (by kernel_rfl))
      | false => rw [hd, show eqOut45 false = .ret (at_ [(4, bl false), (5, bl true)] [] 0) from rfl] at g; (
        let t8 : Tp pr := .i (show ((↑(List.map Obj.ce x.objects).length : Int) : Int) = (↑x.objects.length : Int) by simp)
        let t9 : Tp pr := .i (show ((↑(List.map Obj.ce y.objects).length : Int) : Int) = (↑y.objects.length : Int) by simp)
        let t10 : Tp pr := .b (show ((↑x.objects.length : Int) != (↑y.objects.length : Int)) = false by (simp; omega))
        let t11 : Tp pr := .i (show ((↑(List.map Obj.ce x.objects).length : Int) : Int) = (↑x.objects.length : Int) by simp)
        exact .tp [.a (e), .b (rfl : false = false), .a (e2), .b (rfl : false = false), .a (ca), .a (cb), .a (q), .b (rfl : false = false), t8, t9, t10, t11, .a (g)] (by kernel_rfl))
    · rw [objsEq_len hl]
      have hl2 : ¬ ((x.objects.length : Int) = y.objects.length) := by omega
      let t8 : Tp pr := .i (show ((↑(List.map Obj.ce x.objects).length : Int) : Int) = (↑x.objects.length : Int) by simp)
      let t9 : Tp pr := .i (show ((↑(List.map Obj.ce y.objects).length : Int) : Int) = (↑y.objects.length : Int) by simp)
      let t10 : Tp pr := .b (show ((↑x.objects.length : Int) != (↑y.objects.length : Int)) = true by (simp; omega))
      exact .tp [.a (e), .b (rfl : false = false), .a (e2), .b (rfl : false = false), .a (ca), .a (cb), .a (q), .b (rfl : false = false), t8, t9, t10] (by kernel_rfl)
  | false =>
    rw [hr] at q
    rw [Bool.false_and]
    exact .tp [.a (e), .b (rfl : false = false), .a (e2), .b (rfl : false = false), .a (ca), .a (cb), .a (q), .b (rfl : true = true), .b (rfl : true = true)] (by kernel_rfl)
end Go.Ev

/- NewObject: the program's and the reference's. -/
namespace Go.Ev
set_option linter.unusedVariables false
set_option linter.unusedSimpArgs false
open Go.Proofs
set_option maxRecDepth 100000
set_option linter.unusedVariables false
set_option maxHeartbeats 2000000
attribute [local simp] obcc_take3 ints_take3 obcc_flat3 ints_flat3
@[local simp] theorem ints_take4 (l : List Int) : List.take l.length (ints l) = ints l := List.take_of_length_le (by simp)
@[local simp] theorem fz_t_intt (l : List Int) : List.map ((fun x => List.map C.fz x) ∘ (fun x => List.map C.t x) ∘ intt) l = l.map intt := by
  congr 1
@[local simp] theorem take_snoc4 {α β : Type} (f : α → β) (l : List α) (e : β) : List.take (l.length + 1) (l.map f ++ [e]) = l.map f ++ [e] := List.take_of_length_le (by simp)
@[local simp] theorem take_snoc4b {α β : Type} (f : α → β) (l : List α) (e : β) : List.take (l.length + 1) ((l.map f).append [e]) = (l.map f).append [e] := List.take_of_length_le (by simp)
def newH (h : Hp) (mark : Int) (links : List Int) : Hp := ⟨h.objects ++ [⟨mark, links⟩], h.roots ++ [(h.objects.length : Int)]⟩
theorem newH_o (h : Hp) (mark : Int) (links : List Int) : (newH h mark links).objects.map Obj.cc = (h.objects.map Obj.cc).append [[C.t (.int .i64 mark), C.row 1 (links.map intt)]] := by simp [newH, Obj.cc]
theorem newH_r (h : Hp) (mark : Int) (links : List Int) : ints (newH h mark links).roots = (ints h.roots).append [[C.t (.int .i64 (h.objects.length : Int))]] := by simp [newH, ints, intc]
@[local simp] theorem newH_ol (h : Hp) (mark : Int) (links : List Int) : (newH h mark links).objects.length = h.objects.length + 1 := by simp [newH]
@[local simp] theorem newH_rl (h : Hp) (mark : Int) (links : List Int) : (newH h mark links).roots.length = h.roots.length + 1 := by simp [newH]
theorem newH_links {h : Hp} {mark : Int} {links : List Int} (h2 : ∀ x ∈ h.objects, x.links.length ≤ 1048576) (hl : links.length ≤ 1048576) : ∀ x ∈ (newH h mark links).objects, x.links.length ≤ 1048576 := by
  intro x hx
  rcases List.mem_append.1 hx with h | h
  · exact h2 x h
  · obtain rfl := List.mem_singleton.1 h
    exact hl
theorem NewIF_ev (h : Hp) (mark : Int) (links : List Int) (h1 : h.objects.length ≤ 1048576) (h2 : ∀ x ∈ h.objects, x.links.length ≤ 1048576) (h3 : h.roots.length ≤ 1048576) (hg : goodHeap h = false) :
    Ev pr (.call 27 [vs h.ce, i64 mark, isq links] []) (.val (.tup [vs (Hp.mk [] []).ce, bl false]) []) := by
  have e := GoodHeapI_ev h h1 h2 h3
  rw [hg] at e
  exact .tp [.a (e), .b (rfl : true = true)] (by kernel_rfl)
theorem NewIF2_ev (h : Hp) (mark : Int) (links : List Int) (h1 : h.objects.length ≤ 1048576) (h2 : ∀ x ∈ h.objects, x.links.length ≤ 1048576) (h3 : h.roots.length ≤ 1048576) (hl : links.length ≤ 1048576) (hg : goodHeap h = true) (hg2 : goodHeap (newH h mark links) = false) :
    Ev pr (.call 27 [vs h.ce, i64 mark, isq links] []) (.val (.tup [vs (Hp.mk [] []).ce, bl false]) []) := by
  have e := GoodHeapI_ev h h1 h2 h3
  rw [hg] at e
  have hN := (goodHeap_ok hg).objs
  have hR := (goodHeap_ok hg).rlen
  have c := cloneHeap_ev h h1 h2 h3
  have c2 := clone_ev links hl
  have k := checkedF_ev (newH h mark links) false (by simp; omega) (newH_links h2 hl) (by simp; omega) hg2
  rw [newH_o, newH_r, newH_ol, newH_rl] at k
  let t3 : Tp pr := .i (rfl : ((↑h.objects.length : Int)) = _)
  let t5 : Tp pr := .m (show (decide ((ints h.roots).length = h.roots.length ∧ (0 : Nat) + h.roots.length ≤ h.roots.length ∧ h.roots.length + (1 : Nat) ≤ (4294967296 : Nat))) = true by (simp; omega))
  let t6 : Tp pr := .b (show (decide (h.roots.length + (1 : Nat) ≤ h.roots.length)) = false by simp)
  let t7 : Tp pr := .c (rfl : (h.roots.length + (1 : Nat)) = _)
  let t8 : Tp pr := .n .crows (show ((List.take h.roots.length (ints h.roots)).append (List.take (1 : Nat) (List.drop (0 : Nat) [[C.t (T.int IntKind.i64 (↑h.objects.length : Int))]]))) = ints h.roots ++ [[C.t (T.int IntKind.i64 (↑h.objects.length : Int))]] by simp)
  let t16 : Tp pr := .m (show (decide ((ints links).length = links.length ∧ links.length ≤ links.length)) = true by simp)
  let t18 : Tp pr := .g .crow (show (some [C.t (T.int IntKind.i64 mark), C.t T.nils]) = some ([C.t (T.int IntKind.i64 mark), C.t T.nils]) by simp)
  let t19 : Tp pr := .n .rows (show (List.map (fun x => List.map C.fz x) (List.take links.length (ints links))) = List.map intt links by simp)
  let t20 : Tp pr := .n .crows (show ([[C.t (T.int IntKind.i64 mark), C.t T.nils]].set (0 : Nat) [C.t (T.int IntKind.i64 mark), C.row (1 : Nat) (List.map intt links)]) = [[C.t (T.int IntKind.i64 mark), C.row (1 : Nat) (List.map intt links)]] by simp)
  let t23 : Tp pr := .m (show (decide ((List.map Obj.cc h.objects).length = h.objects.length ∧ h.objects.length = h.objects.length ∧ h.objects.length + (1 : Nat) ≤ (4294967296 : Nat))) = true by (simp; omega))
  let t24 : Tp pr := .c (rfl : (h.objects.length + (1 : Nat)) = _)
  let t25 : Tp pr := .n .crows (show ((List.map Obj.cc h.objects).append [[C.t (T.int IntKind.i64 mark), C.row (1 : Nat) (List.map intt links)]]) = List.map Obj.cc h.objects ++ [[C.t (T.int IntKind.i64 mark), C.row (1 : Nat) (List.map intt links)]] by simp)
  exact .tp [.a (e), .b (rfl : false = false), .a (c), t3, .m (rfl : true = true), t5, t6, t7, t8, .m (rfl : true = true), .m (rfl : true = true), .m (rfl : true = true), .m (rfl : true = true), .a (c2), .m (rfl : true = true), .m (rfl : true = true), t16, .m (rfl : true = true), t18, t19, t20, .m (rfl : true = true), .m (rfl : true = true), t23, t24, t25, .m (rfl : true = true), .m (rfl : true = true), .m (rfl : true = true), .a (k)] (by kernel_rfl)
theorem NewIT_ev (h : Hp) (mark : Int) (links : List Int) (h1 : h.objects.length ≤ 1048576) (h2 : ∀ x ∈ h.objects, x.links.length ≤ 1048576) (h3 : h.roots.length ≤ 1048576) (hl : links.length ≤ 1048576) (hg : goodHeap h = true) (hg2 : goodHeap (newH h mark links) = true) :
    Ev pr (.call 27 [vs h.ce, i64 mark, isq links] []) (.val (.tup [vs (newH h mark links).ce, bl true]) []) := by
  have e := GoodHeapI_ev h h1 h2 h3
  rw [hg] at e
  have hN := (goodHeap_ok hg).objs
  have hR := (goodHeap_ok hg).rlen
  have c := cloneHeap_ev h h1 h2 h3
  have c2 := clone_ev links hl
  have k := checkedT_ev (newH h mark links) false (by simp; omega) (newH_links h2 hl) (by simp; omega) hg2
  rw [newH_o, newH_r, newH_ol, newH_rl] at k
  rw [show (newH h mark links).ce = [.seq 2 (h.objects.map Obj.ce ++ [[T.int .i64 mark, T.seq 1 (links.map intt)]]), .seq 1 (h.roots.map intt ++ [[T.int .i64 (h.objects.length : Int)]])] by simp [newH, Hp.ce, Obj.ce, intt]]
  let t3 : Tp pr := .i (rfl : ((↑h.objects.length : Int)) = _)
  let t5 : Tp pr := .m (show (decide ((ints h.roots).length = h.roots.length ∧ (0 : Nat) + h.roots.length ≤ h.roots.length ∧ h.roots.length + (1 : Nat) ≤ (4294967296 : Nat))) = true by (simp; omega))
  let t6 : Tp pr := .b (show (decide (h.roots.length + (1 : Nat) ≤ h.roots.length)) = false by simp)
  let t7 : Tp pr := .c (rfl : (h.roots.length + (1 : Nat)) = _)
  let t8 : Tp pr := .n .crows (show ((List.take h.roots.length (ints h.roots)).append (List.take (1 : Nat) (List.drop (0 : Nat) [[C.t (T.int IntKind.i64 (↑h.objects.length : Int))]]))) = ints h.roots ++ [[C.t (T.int IntKind.i64 (↑h.objects.length : Int))]] by simp)
  let t16 : Tp pr := .m (show (decide ((ints links).length = links.length ∧ links.length ≤ links.length)) = true by simp)
  let t18 : Tp pr := .g .crow (show (some [C.t (T.int IntKind.i64 mark), C.t T.nils]) = some ([C.t (T.int IntKind.i64 mark), C.t T.nils]) by simp)
  let t19 : Tp pr := .n .rows (show (List.map (fun x => List.map C.fz x) (List.take links.length (ints links))) = List.map intt links by simp)
  let t20 : Tp pr := .n .crows (show ([[C.t (T.int IntKind.i64 mark), C.t T.nils]].set (0 : Nat) [C.t (T.int IntKind.i64 mark), C.row (1 : Nat) (List.map intt links)]) = [[C.t (T.int IntKind.i64 mark), C.row (1 : Nat) (List.map intt links)]] by simp)
  let t23 : Tp pr := .m (show (decide ((List.map Obj.cc h.objects).length = h.objects.length ∧ h.objects.length = h.objects.length ∧ h.objects.length + (1 : Nat) ≤ (4294967296 : Nat))) = true by (simp; omega))
  let t24 : Tp pr := .c (rfl : (h.objects.length + (1 : Nat)) = _)
  let t25 : Tp pr := .n .crows (show ((List.map Obj.cc h.objects).append [[C.t (T.int IntKind.i64 mark), C.row (1 : Nat) (List.map intt links)]]) = List.map Obj.cc h.objects ++ [[C.t (T.int IntKind.i64 mark), C.row (1 : Nat) (List.map intt links)]] by simp)
  let t30 : Tp pr := .m (show (decide (((List.map Obj.cc h.objects).append [[C.t (T.int IntKind.i64 mark), C.row (1 : Nat) (List.map intt links)]]).length = h.objects.length + (1 : Nat) ∧ (0 : Nat) + (h.objects.length + (1 : Nat)) ≤ h.objects.length + (1 : Nat))) = true by simp)
  let t31 : Tp pr := .n .rows (show (List.map (fun x => List.map C.fz x) (List.take (h.objects.length + (1 : Nat)) (List.drop (0 : Nat) ((List.map Obj.cc h.objects).append [[C.t (T.int IntKind.i64 mark), C.row (1 : Nat) (List.map intt links)]])))) = List.map Obj.ce h.objects ++ [[(C.t (T.int IntKind.i64 mark)).fz, (C.row (1 : Nat) (List.map intt links)).fz]] by simp)
  let t32 : Tp pr := .m (show (decide (((ints h.roots).append [[C.t (T.int IntKind.i64 (↑h.objects.length : Int))]]).length = h.roots.length + (1 : Nat) ∧ (0 : Nat) + (h.roots.length + (1 : Nat)) ≤ h.roots.length + (1 : Nat))) = true by simp)
  let t33 : Tp pr := .n .rows (show (List.map (fun x => List.map C.fz x) (List.take (h.roots.length + (1 : Nat)) (List.drop (0 : Nat) ((ints h.roots).append [[C.t (T.int IntKind.i64 (↑h.objects.length : Int))]])))) = List.map intt h.roots ++ [[(C.t (T.int IntKind.i64 (↑h.objects.length : Int))).fz]] by simp)
  exact .tp [.a (e), .b (rfl : false = false), .a (c), t3, .m (rfl : true = true), t5, t6, t7, t8, .m (rfl : true = true), .m (rfl : true = true), .m (rfl : true = true), .m (rfl : true = true), .a (c2), .m (rfl : true = true), .m (rfl : true = true), t16, .m (rfl : true = true), t18, t19, t20, .m (rfl : true = true), .m (rfl : true = true), t23, t24, t25, .m (rfl : true = true), .m (rfl : true = true), .m (rfl : true = true), .a (k), t30, t31, t32, t33] (by kernel_rfl)
theorem NewSF_ev (h : Hp) (mark : Int) (links : List Int) (h1 : h.objects.length ≤ 1048576) (h2 : ∀ x ∈ h.objects, x.links.length ≤ 1048576) (h3 : h.roots.length ≤ 1048576) (hg : goodHeap h = false) :
    Ev pr (.call 28 [vs h.ce, i64 mark, isq links] []) (.val (.tup [vs (Hp.mk [] []).ce, bl false]) []) := by
  have e := GoodHeapS_ev h h1 h2 h3
  rw [hg] at e
  exact .tp [.a (e), .b (rfl : true = true)] (by kernel_rfl)
theorem NewSF2_ev (h : Hp) (mark : Int) (links : List Int) (h1 : h.objects.length ≤ 1048576) (h2 : ∀ x ∈ h.objects, x.links.length ≤ 1048576) (h3 : h.roots.length ≤ 1048576) (hl : links.length ≤ 1048576) (hg : goodHeap h = true) (hg2 : goodHeap (newH h mark links) = false) :
    Ev pr (.call 28 [vs h.ce, i64 mark, isq links] []) (.val (.tup [vs (Hp.mk [] []).ce, bl false]) []) := by
  have e := GoodHeapS_ev h h1 h2 h3
  rw [hg] at e
  have hN := (goodHeap_ok hg).objs
  have hR := (goodHeap_ok hg).rlen
  have c := l15Own_ev h h1 h2 h3
  have k := tellF_ev (newH h mark links) false (by simp; omega) (newH_links h2 hl) (by simp; omega) hg2
  rw [newH_o, newH_r, newH_ol, newH_rl] at k
  cases links with
  | nil => (
    let t3 : Tp pr := .i (rfl : ((↑h.objects.length : Int)) = _)
    let t5 : Tp pr := .m (show (decide ((ints h.roots).length = h.roots.length ∧ (0 : Nat) + h.roots.length ≤ h.roots.length ∧ h.roots.length + (1 : Nat) ≤ (4294967296 : Nat))) = true by (simp; omega))
    let t6 : Tp pr := .b (show (decide (h.roots.length + (1 : Nat) ≤ h.roots.length)) = false by simp)
    let t7 : Tp pr := .c (rfl : (h.roots.length + (1 : Nat)) = _)
    let t8 : Tp pr := .n .crows (show ((List.take h.roots.length (ints h.roots)).append (List.take (1 : Nat) (List.drop (0 : Nat) [[C.t (T.int IntKind.i64 (↑h.objects.length : Int))]]))) = ints h.roots ++ [[C.t (T.int IntKind.i64 (↑h.objects.length : Int))]] by simp)
    let t22 : Tp pr := .g .crow (show (some [C.t (T.int IntKind.i64 mark), C.t T.nils]) = some ([C.t (T.int IntKind.i64 mark), C.t T.nils]) by simp)
    let t24 : Tp pr := .n .crows (show ([[C.t (T.int IntKind.i64 mark), C.t T.nils]].set (0 : Nat) [C.t (T.int IntKind.i64 mark), C.row (1 : Nat) []]) = [[C.t (T.int IntKind.i64 mark), C.row (1 : Nat) []]] by simp)
    let t27 : Tp pr := .m (show (decide ((List.map Obj.cc h.objects).length = h.objects.length ∧ h.objects.length = h.objects.length ∧ h.objects.length + (1 : Nat) ≤ (4294967296 : Nat))) = true by (simp; omega))
    let t28 : Tp pr := .c (rfl : (h.objects.length + (1 : Nat)) = _)
    let t29 : Tp pr := .n .crows (show ((List.map Obj.cc h.objects).append [[C.t (T.int IntKind.i64 mark), C.row (1 : Nat) []]]) = List.map Obj.cc h.objects ++ [[C.t (T.int IntKind.i64 mark), C.row (1 : Nat) []]] by simp)
    exact .tp [.a (e), .b (rfl : false = false), .a (c), t3, .m (rfl : true = true), t5, t6, t7, t8, .m (rfl : true = true), .m (rfl : true = true), .m (rfl : true = true), .m (rfl : true = true), .m (rfl : true = true), .m (rfl : true = true), .b (rfl : true = true), .c (rfl : ((0 : Nat)) = _), .n .crows (rfl : ([]) = _), .m (rfl : true = true), .m (rfl : true = true), .m (rfl : true = true), .m (rfl : true = true), t22, .n .rows (rfl : ([]) = _), t24, .m (rfl : true = true), .m (rfl : true = true), t27, t28, t29, .m (rfl : true = true), .m (rfl : true = true), .m (rfl : true = true), .a (k)] (by kernel_rfl))
  | cons y l => (
    let t3 : Tp pr := .i (rfl : ((↑h.objects.length : Int)) = _)
    let t5 : Tp pr := .m (show (decide ((ints h.roots).length = h.roots.length ∧ (0 : Nat) + h.roots.length ≤ h.roots.length ∧ h.roots.length + (1 : Nat) ≤ (4294967296 : Nat))) = true by (simp; omega))
    let t6 : Tp pr := .b (show (decide (h.roots.length + (1 : Nat) ≤ h.roots.length)) = false by simp)
    let t7 : Tp pr := .c (rfl : (h.roots.length + (1 : Nat)) = _)
    let t8 : Tp pr := .n .crows (show ((List.take h.roots.length (ints h.roots)).append (List.take (1 : Nat) (List.drop (0 : Nat) [[C.t (T.int IntKind.i64 (↑h.objects.length : Int))]]))) = ints h.roots ++ [[C.t (T.int IntKind.i64 (↑h.objects.length : Int))]] by simp)
    let t14 : Tp pr := .m (show (decide ((0 : Nat) = (0 : Nat) ∧ (0 : Nat) ≤ (0 : Nat) ∧ (0 : Nat) + (List.map (fun x => List.map C.t x) (List.map intt (y :: l))).length ≤ (4294967296 : Nat))) = true by (simp at *; omega))
    let t16 : Tp pr := .c (show ((0 : Nat) + (List.map (fun x => List.map C.t x) (List.map intt (y :: l))).length : Nat) = l.length + (1 : Nat) by simp)
    let t17 : Tp pr := .n .crows (show ([].append (List.map (fun x => List.map C.t x) (List.map intt (y :: l)))) = List.map C.t (intt y) :: List.map ((fun x => List.map C.t x) ∘ intt) l by simp)
    let t20 : Tp pr := .m (show (decide (([C.t (T.int IntKind.i64 y)] :: List.map ((fun x => List.map C.t x) ∘ intt) l).length = l.length + (1 : Nat) ∧ l.length + (1 : Nat) ≤ l.length + (1 : Nat))) = true by simp)
    let t22 : Tp pr := .g .crow (show (some [C.t (T.int IntKind.i64 mark), C.t T.nils]) = some ([C.t (T.int IntKind.i64 mark), C.t T.nils]) by simp)
    let t23 : Tp pr := .n .rows (show (List.map (fun x => List.map C.fz x) (List.take (l.length + (1 : Nat)) ([C.t (T.int IntKind.i64 y)] :: List.map ((fun x => List.map C.t x) ∘ intt) l))) = [(C.t (T.int IntKind.i64 y)).fz] :: List.map intt l by simp)
    let t24 : Tp pr := .n .crows (show ([[C.t (T.int IntKind.i64 mark), C.t T.nils]].set (0 : Nat) [C.t (T.int IntKind.i64 mark), C.row (1 : Nat) ([T.int IntKind.i64 y] :: List.map intt l)]) = [[C.t (T.int IntKind.i64 mark), C.row (1 : Nat) ([T.int IntKind.i64 y] :: List.map intt l)]] by simp)
    let t27 : Tp pr := .m (show (decide ((List.map Obj.cc h.objects).length = h.objects.length ∧ h.objects.length = h.objects.length ∧ h.objects.length + (1 : Nat) ≤ (4294967296 : Nat))) = true by (simp; omega))
    let t28 : Tp pr := .c (rfl : (h.objects.length + (1 : Nat)) = _)
    let t29 : Tp pr := .n .crows (show ((List.map Obj.cc h.objects).append [[C.t (T.int IntKind.i64 mark), C.row (1 : Nat) ([T.int IntKind.i64 y] :: List.map intt l)]]) = List.map Obj.cc h.objects ++ [[C.t (T.int IntKind.i64 mark), C.row (1 : Nat) ([T.int IntKind.i64 y] :: List.map intt l)]] by simp)
    exact .tp [.a (e), .b (rfl : false = false), .a (c), t3, .m (rfl : true = true), t5, t6, t7, t8, .m (rfl : true = true), .m (rfl : true = true), .m (rfl : true = true), .m (rfl : true = true), .m (rfl : true = true), t14, .b (rfl : false = false), t16, t17, .m (rfl : true = true), .m (rfl : true = true), t20, .m (rfl : true = true), t22, t23, t24, .m (rfl : true = true), .m (rfl : true = true), t27, t28, t29, .m (rfl : true = true), .m (rfl : true = true), .m (rfl : true = true), .a (k)] (by kernel_rfl))
theorem NewST_ev (h : Hp) (mark : Int) (links : List Int) (h1 : h.objects.length ≤ 1048576) (h2 : ∀ x ∈ h.objects, x.links.length ≤ 1048576) (h3 : h.roots.length ≤ 1048576) (hl : links.length ≤ 1048576) (hg : goodHeap h = true) (hg2 : goodHeap (newH h mark links) = true) :
    Ev pr (.call 28 [vs h.ce, i64 mark, isq links] []) (.val (.tup [vs (newH h mark links).ce, bl true]) []) := by
  have e := GoodHeapS_ev h h1 h2 h3
  rw [hg] at e
  have hN := (goodHeap_ok hg).objs
  have hR := (goodHeap_ok hg).rlen
  have c := l15Own_ev h h1 h2 h3
  have k := tellT_ev (newH h mark links) false (by simp; omega) (newH_links h2 hl) (by simp; omega) hg2
  rw [newH_o, newH_r, newH_ol, newH_rl] at k
  rw [show (newH h mark links).ce = [.seq 2 (h.objects.map Obj.ce ++ [[T.int .i64 mark, T.seq 1 (links.map intt)]]), .seq 1 (h.roots.map intt ++ [[T.int .i64 (h.objects.length : Int)]])] by simp [newH, Hp.ce, Obj.ce, intt]]
  cases links with
  | nil => (
    let t3 : Tp pr := .i (rfl : ((↑h.objects.length : Int)) = _)
    let t5 : Tp pr := .m (show (decide ((ints h.roots).length = h.roots.length ∧ (0 : Nat) + h.roots.length ≤ h.roots.length ∧ h.roots.length + (1 : Nat) ≤ (4294967296 : Nat))) = true by (simp; omega))
    let t6 : Tp pr := .b (show (decide (h.roots.length + (1 : Nat) ≤ h.roots.length)) = false by simp)
    let t7 : Tp pr := .c (rfl : (h.roots.length + (1 : Nat)) = _)
    let t8 : Tp pr := .n .crows (show ((List.take h.roots.length (ints h.roots)).append (List.take (1 : Nat) (List.drop (0 : Nat) [[C.t (T.int IntKind.i64 (↑h.objects.length : Int))]]))) = ints h.roots ++ [[C.t (T.int IntKind.i64 (↑h.objects.length : Int))]] by simp)
    let t22 : Tp pr := .g .crow (show (some [C.t (T.int IntKind.i64 mark), C.t T.nils]) = some ([C.t (T.int IntKind.i64 mark), C.t T.nils]) by simp)
    let t24 : Tp pr := .n .crows (show ([[C.t (T.int IntKind.i64 mark), C.t T.nils]].set (0 : Nat) [C.t (T.int IntKind.i64 mark), C.row (1 : Nat) []]) = [[C.t (T.int IntKind.i64 mark), C.row (1 : Nat) []]] by simp)
    let t27 : Tp pr := .m (show (decide ((List.map Obj.cc h.objects).length = h.objects.length ∧ h.objects.length = h.objects.length ∧ h.objects.length + (1 : Nat) ≤ (4294967296 : Nat))) = true by (simp; omega))
    let t28 : Tp pr := .c (rfl : (h.objects.length + (1 : Nat)) = _)
    let t29 : Tp pr := .n .crows (show ((List.map Obj.cc h.objects).append [[C.t (T.int IntKind.i64 mark), C.row (1 : Nat) []]]) = List.map Obj.cc h.objects ++ [[C.t (T.int IntKind.i64 mark), C.row (1 : Nat) []]] by simp)
    let t34 : Tp pr := .m (show (decide (((List.map Obj.cc h.objects).append [[C.t (T.int IntKind.i64 mark), C.row (1 : Nat) []]]).length = h.objects.length + (1 : Nat) ∧ (0 : Nat) + (h.objects.length + (1 : Nat)) ≤ h.objects.length + (1 : Nat))) = true by simp)
    let t35 : Tp pr := .n .rows (show (List.map (fun x => List.map C.fz x) (List.take (h.objects.length + (1 : Nat)) (List.drop (0 : Nat) ((List.map Obj.cc h.objects).append [[C.t (T.int IntKind.i64 mark), C.row (1 : Nat) []]])))) = List.map Obj.ce h.objects ++ [[(C.t (T.int IntKind.i64 mark)).fz, (C.row (1 : Nat) []).fz]] by simp)
    let t36 : Tp pr := .m (show (decide (((ints h.roots).append [[C.t (T.int IntKind.i64 (↑h.objects.length : Int))]]).length = h.roots.length + (1 : Nat) ∧ (0 : Nat) + (h.roots.length + (1 : Nat)) ≤ h.roots.length + (1 : Nat))) = true by simp)
    let t37 : Tp pr := .n .rows (show (List.map (fun x => List.map C.fz x) (List.take (h.roots.length + (1 : Nat)) (List.drop (0 : Nat) ((ints h.roots).append [[C.t (T.int IntKind.i64 (↑h.objects.length : Int))]])))) = List.map intt h.roots ++ [[(C.t (T.int IntKind.i64 (↑h.objects.length : Int))).fz]] by simp)
    exact .tp [.a (e), .b (rfl : false = false), .a (c), t3, .m (rfl : true = true), t5, t6, t7, t8, .m (rfl : true = true), .m (rfl : true = true), .m (rfl : true = true), .m (rfl : true = true), .m (rfl : true = true), .m (rfl : true = true), .b (rfl : true = true), .c (rfl : ((0 : Nat)) = _), .n .crows (rfl : ([]) = _), .m (rfl : true = true), .m (rfl : true = true), .m (rfl : true = true), .m (rfl : true = true), t22, .n .rows (rfl : ([]) = _), t24, .m (rfl : true = true), .m (rfl : true = true), t27, t28, t29, .m (rfl : true = true), .m (rfl : true = true), .m (rfl : true = true), .a (k), t34, t35, t36, t37] (by kernel_rfl))
  | cons y l => (
    let t3 : Tp pr := .i (rfl : ((↑h.objects.length : Int)) = _)
    let t5 : Tp pr := .m (show (decide ((ints h.roots).length = h.roots.length ∧ (0 : Nat) + h.roots.length ≤ h.roots.length ∧ h.roots.length + (1 : Nat) ≤ (4294967296 : Nat))) = true by (simp; omega))
    let t6 : Tp pr := .b (show (decide (h.roots.length + (1 : Nat) ≤ h.roots.length)) = false by simp)
    let t7 : Tp pr := .c (rfl : (h.roots.length + (1 : Nat)) = _)
    let t8 : Tp pr := .n .crows (show ((List.take h.roots.length (ints h.roots)).append (List.take (1 : Nat) (List.drop (0 : Nat) [[C.t (T.int IntKind.i64 (↑h.objects.length : Int))]]))) = ints h.roots ++ [[C.t (T.int IntKind.i64 (↑h.objects.length : Int))]] by simp)
    let t14 : Tp pr := .m (show (decide ((0 : Nat) = (0 : Nat) ∧ (0 : Nat) ≤ (0 : Nat) ∧ (0 : Nat) + (List.map (fun x => List.map C.t x) (List.map intt (y :: l))).length ≤ (4294967296 : Nat))) = true by (simp at *; omega))
    let t16 : Tp pr := .c (show ((0 : Nat) + (List.map (fun x => List.map C.t x) (List.map intt (y :: l))).length : Nat) = l.length + (1 : Nat) by simp)
    let t17 : Tp pr := .n .crows (show ([].append (List.map (fun x => List.map C.t x) (List.map intt (y :: l)))) = List.map C.t (intt y) :: List.map ((fun x => List.map C.t x) ∘ intt) l by simp)
    let t20 : Tp pr := .m (show (decide (([C.t (T.int IntKind.i64 y)] :: List.map ((fun x => List.map C.t x) ∘ intt) l).length = l.length + (1 : Nat) ∧ l.length + (1 : Nat) ≤ l.length + (1 : Nat))) = true by simp)
    let t22 : Tp pr := .g .crow (show (some [C.t (T.int IntKind.i64 mark), C.t T.nils]) = some ([C.t (T.int IntKind.i64 mark), C.t T.nils]) by simp)
    let t23 : Tp pr := .n .rows (show (List.map (fun x => List.map C.fz x) (List.take (l.length + (1 : Nat)) ([C.t (T.int IntKind.i64 y)] :: List.map ((fun x => List.map C.t x) ∘ intt) l))) = [(C.t (T.int IntKind.i64 y)).fz] :: List.map intt l by simp)
    let t24 : Tp pr := .n .crows (show ([[C.t (T.int IntKind.i64 mark), C.t T.nils]].set (0 : Nat) [C.t (T.int IntKind.i64 mark), C.row (1 : Nat) ([T.int IntKind.i64 y] :: List.map intt l)]) = [[C.t (T.int IntKind.i64 mark), C.row (1 : Nat) ([T.int IntKind.i64 y] :: List.map intt l)]] by simp)
    let t27 : Tp pr := .m (show (decide ((List.map Obj.cc h.objects).length = h.objects.length ∧ h.objects.length = h.objects.length ∧ h.objects.length + (1 : Nat) ≤ (4294967296 : Nat))) = true by (simp; omega))
    let t28 : Tp pr := .c (rfl : (h.objects.length + (1 : Nat)) = _)
    let t29 : Tp pr := .n .crows (show ((List.map Obj.cc h.objects).append [[C.t (T.int IntKind.i64 mark), C.row (1 : Nat) ([T.int IntKind.i64 y] :: List.map intt l)]]) = List.map Obj.cc h.objects ++ [[C.t (T.int IntKind.i64 mark), C.row (1 : Nat) ([T.int IntKind.i64 y] :: List.map intt l)]] by simp)
    let t34 : Tp pr := .m (show (decide (((List.map Obj.cc h.objects).append [[C.t (T.int IntKind.i64 mark), C.row (1 : Nat) (List.map intt (y :: l))]]).length = h.objects.length + (1 : Nat) ∧ (0 : Nat) + (h.objects.length + (1 : Nat)) ≤ h.objects.length + (1 : Nat))) = true by simp)
    let t35 : Tp pr := .n .rows (show (List.map (fun x => List.map C.fz x) (List.take (h.objects.length + (1 : Nat)) (List.drop (0 : Nat) ((List.map Obj.cc h.objects).append [[C.t (T.int IntKind.i64 mark), C.row (1 : Nat) (List.map intt (y :: l))]])))) = List.map Obj.ce h.objects ++ [[(C.t (T.int IntKind.i64 mark)).fz, (C.row (1 : Nat) (intt y :: List.map intt l)).fz]] by simp)
    let t36 : Tp pr := .m (show (decide (((ints h.roots).append [[C.t (T.int IntKind.i64 (↑h.objects.length : Int))]]).length = h.roots.length + (1 : Nat) ∧ (0 : Nat) + (h.roots.length + (1 : Nat)) ≤ h.roots.length + (1 : Nat))) = true by simp)
    let t37 : Tp pr := .n .rows (show (List.map (fun x => List.map C.fz x) (List.take (h.roots.length + (1 : Nat)) (List.drop (0 : Nat) ((ints h.roots).append [[C.t (T.int IntKind.i64 (↑h.objects.length : Int))]])))) = List.map intt h.roots ++ [[(C.t (T.int IntKind.i64 (↑h.objects.length : Int))).fz]] by simp)
    exact .tp [.a (e), .b (rfl : false = false), .a (c), t3, .m (rfl : true = true), t5, t6, t7, t8, .m (rfl : true = true), .m (rfl : true = true), .m (rfl : true = true), .m (rfl : true = true), .m (rfl : true = true), t14, .b (rfl : false = false), t16, t17, .m (rfl : true = true), .m (rfl : true = true), t20, .m (rfl : true = true), t22, t23, t24, .m (rfl : true = true), .m (rfl : true = true), t27, t28, t29, .m (rfl : true = true), .m (rfl : true = true), .m (rfl : true = true), .a (k), t34, t35, t36, t37] (by kernel_rfl))
end Go.Ev

/- SetLink: the program's and the reference's. -/
namespace Go.Ev
set_option linter.unusedVariables false
set_option linter.unusedSimpArgs false
open Go.Proofs
set_option maxRecDepth 100000
set_option linter.unusedVariables false
set_option maxHeartbeats 2000000
attribute [local simp] obcc_take3 ints_take3 obcc_flat3 ints_flat3
@[local simp] theorem ints_take6 (l : List Int) : List.take l.length (ints l) = ints l := List.take_of_length_le (by simp)
@[local simp] theorem take_mid7 {α β : Type} (f : α → β) (P Q : List α) (e : β) : List.take (P.length + (Q.length + 1)) (P.map f ++ e :: Q.map f) = P.map f ++ e :: Q.map f := List.take_of_length_le (by simp)
@[local simp] theorem take_mid7b {α β : Type} (f : α → β) (P Q : List α) (e : β) : List.take (P.length + (Q.length + 1)) ((P.map f).append (e :: Q.map f)) = (P.map f).append (e :: Q.map f) := List.take_of_length_le (by simp)
theorem SetIA_ev (h : Hp) (o k to : Int) (h1 : h.objects.length ≤ 1048576) (h2 : ∀ x ∈ h.objects, x.links.length ≤ 1048576) (h3 : h.roots.length ≤ 1048576) (hg : goodHeap h = false) :
    Ev pr (.call 22 [vs h.ce, i64 o, i64 k, i64 to] []) (.val (.tup [vs (Hp.mk [] []).ce, bl false]) []) := by
  have e := GoodHeapI_ev h h1 h2 h3
  rw [hg] at e
  exact .tp [.a (e), .b (rfl : true = true), .b (rfl : true = true), .b (rfl : true = true)] (by kernel_rfl)
theorem SetIB_ev (h : Hp) (o k to : Int) (h1 : h.objects.length ≤ 1048576) (h2 : ∀ x ∈ h.objects, x.links.length ≤ 1048576) (h3 : h.roots.length ≤ 1048576) (hg : goodHeap h = true) (ho : ¬ (0 ≤ o ∧ o < h.objects.length)) :
    Ev pr (.call 22 [vs h.ce, i64 o, i64 k, i64 to] []) (.val (.tup [vs (Hp.mk [] []).ce, bl false]) []) := by
  have e := GoodHeapI_ev h h1 h2 h3
  rw [hg] at e
  have w := within_ev o 0 (h.objects.length - 1)
  rw [show (decide (o ≥ 0) && decide (o ≤ (h.objects.length : Int) - 1)) = false by
    rw [Bool.and_eq_false_iff]; by_cases h0 : 0 ≤ o
    · right; simp; omega
    · left; simpa using h0] at w
  let t2 : Tp pr := .i (show ((↑(List.map Obj.ce h.objects).length : Int) : Int) = (↑h.objects.length : Int) by simp)
  let t3 : Tp pr := .i (wrap_i64 (a := (↑h.objects.length : Int) - (1 : Int)) (by omega) (by omega))
  exact .tp [.a (e), .b (rfl : false = false), t2, t3, .a (w), .b (rfl : true = true), .b (rfl : true = true)] (by kernel_rfl)
theorem SetIC_ev (P Q : List Obj) (x : Obj) (rs : List Int) (k to : Int) (h1 : (P ++ x :: Q).length ≤ 1048576) (h2 : ∀ z ∈ P ++ x :: Q, z.links.length ≤ 1048576) (h3 : rs.length ≤ 1048576) (hg : goodHeap ⟨P ++ x :: Q, rs⟩ = true) (hk : ¬ (0 ≤ k ∧ k < x.links.length)) :
    Ev pr (.call 22 [vs (Hp.mk (P ++ x :: Q) rs).ce, i64 P.length, i64 k, i64 to] []) (.val (.tup [vs (Hp.mk [] []).ce, bl false]) []) := by
  have e := GoodHeapI_ev ⟨P ++ x :: Q, rs⟩ h1 h2 h3
  rw [hg] at e
  have hx := h2 x (by simp)
  have hlen : ((P ++ x :: Q).length : Int) = P.length + 1 + Q.length := by simp; omega
  have w := within_ev P.length 0 (((P ++ x :: Q).length : Int) - 1)
  rw [show (decide ((P.length : Int) ≥ 0) && decide ((P.length : Int) ≤ ((P ++ x :: Q).length : Int) - 1)) = true by
    rw [Bool.and_eq_true]; exact ⟨by simp, by simp; omega⟩] at w
  have w2 := within_ev k 0 (x.links.length - 1)
  rw [show (decide (k ≥ 0) && decide (k ≤ (x.links.length : Int) - 1)) = false by
    rw [Bool.and_eq_false_iff]; by_cases h0 : 0 ≤ k
    · right; simp; omega
    · left; simpa using h0] at w2
  have hlk : lkp ((P ++ x :: Q).map Obj.ce) (P.length : Int) = some x.ce := by simp
  let t2 : Tp pr := .i (show ((↑(List.map Obj.ce (Hp.mk (P ++ x :: Q) rs).objects).length : Int) : Int) = (↑P.length : Int) + ((↑Q.length : Int) + (1 : Int)) by simp)
  let t3 : Tp pr := .i (wrap_i64 (a := (↑P.length : Int) + ((↑Q.length : Int) + (1 : Int)) - (1 : Int)) (by omega) (by omega))
  let t4 : Tp pr := .a (Ev.castq (congrArg (fun x => Ev.Q.call (67 : FuncId) [i64 (↑P.length : Int), i64 (0 : Int), i64 x] []) (show ((↑(P ++ x :: Q).length : Int) - (1 : Int)) = ((↑P.length : Int) + ((↑Q.length : Int) + (1 : Int)) - (1 : Int)) by simp)) (w))
  let t6 : Tp pr := .g .row (show (lkp (List.map Obj.ce (Hp.mk (P ++ x :: Q) rs).objects) (↑P.length : Int)) = some (x.ce) from hlk)
  let t7 : Tp pr := .i (show ((↑(List.map intt x.links).length : Int) : Int) = (↑x.links.length : Int) by simp)
  let t8 : Tp pr := .i (wrap_i64 (a := (↑x.links.length : Int) - (1 : Int)) (by omega) (by omega))
  exact .tp [.a (e), .b (rfl : false = false), t2, t3, t4, .b (rfl : false = false), t6, t7, t8, .a (w2), .b (rfl : true = true)] (by kernel_rfl)
abbrev setH (P Q : List Obj) (mk : Int) (A B : List Int) (rs : List Int) (y : Int) : Hp := ⟨P ++ ⟨mk, A ++ y :: B⟩ :: Q, rs⟩
theorem SetIT_ev (P Q : List Obj) (mk : Int) (A B rs : List Int) (y to : Int) (h1 : (P ++ ⟨mk, A ++ y :: B⟩ :: Q).length ≤ 1048576) (h2 : ∀ z ∈ P ++ ⟨mk, A ++ y :: B⟩ :: Q, z.links.length ≤ 1048576) (h3 : rs.length ≤ 1048576)
    (hg : goodHeap (setH P Q mk A B rs y) = true) (hg2 : goodHeap (setH P Q mk A B rs to) = true) :
    Ev pr (.call 22 [vs (setH P Q mk A B rs y).ce, i64 P.length, i64 A.length, i64 to] []) (.val (.tup [vs (setH P Q mk A B rs to).ce, bl true]) []) := by
  have e := GoodHeapI_ev (setH P Q mk A B rs y) h1 h2 h3
  rw [hg] at e
  have hx := h2 ⟨mk, A ++ y :: B⟩ (by simp)
  have hlen : ((P ++ ⟨mk, A ++ y :: B⟩ :: Q).length : Int) = P.length + 1 + Q.length := by simp; omega
  have hlen2 : ((A ++ y :: B).length : Int) = A.length + 1 + B.length := by simp; omega
  have w := within_ev P.length 0 (((P ++ ⟨mk, A ++ y :: B⟩ :: Q).length : Int) - 1)
  rw [show (decide ((P.length : Int) ≥ 0) && decide ((P.length : Int) ≤ ((P ++ ⟨mk, A ++ y :: B⟩ :: Q).length : Int) - 1)) = true by
    rw [Bool.and_eq_true]; exact ⟨by simp, by simp; omega⟩] at w
  have w2 := within_ev A.length 0 (((A ++ y :: B).length : Int) - 1)
  rw [show (decide ((A.length : Int) ≥ 0) && decide ((A.length : Int) ≤ ((A ++ y :: B).length : Int) - 1)) = true by
    rw [Bool.and_eq_true]; exact ⟨by simp, by simp; omega⟩] at w2
  have hlk : lkp ((P ++ ⟨mk, A ++ y :: B⟩ :: Q).map Obj.ce) (P.length : Int) = some (Obj.ce ⟨mk, A ++ y :: B⟩) := by simp
  have c := cloneHeap_ev (setH P Q mk A B rs y) h1 h2 h3
  rw [show (setH P Q mk A B rs y).objects.isEmpty = false by simp] at c
  have k := checkedT_ev (setH P Q mk A B rs to) false (by simpa using h1) (by
    intro z hz
    rcases List.mem_append.1 hz with h | h
    · exact h2 z (by simp [h])
    · rcases List.mem_cons.1 h with rfl | h
      · simpa using hx
      · exact h2 z (by simp [h])) h3 hg2
  rw [show ((setH P Q mk A B rs to).objects.map Obj.cc) = P.map Obj.cc ++ [C.t (.int .i64 mk), C.row 1 (A.map intt ++ [T.int .i64 to] :: B.map intt)] :: Q.map Obj.cc by simp [Obj.cc, intt],
    show (setH P Q mk A B rs to).objects.length = (P ++ ⟨mk, A ++ y :: B⟩ :: Q).length by simp] at k
  let t2 : Tp pr := .i (show ((↑(List.map Obj.ce (setH P Q mk A B rs y).objects).length : Int) : Int) = (↑P.length : Int) + ((↑Q.length : Int) + (1 : Int)) by simp)
  let t3 : Tp pr := .i (wrap_i64 (a := (↑P.length : Int) + ((↑Q.length : Int) + (1 : Int)) - (1 : Int)) (by omega) (by omega))
  let t4 : Tp pr := .a (Ev.castq (congrArg (fun x => Ev.Q.call (67 : FuncId) [i64 (↑P.length : Int), i64 (0 : Int), i64 x] []) (show ((↑(P ++ Obj.mk mk (A ++ y :: B) :: Q).length : Int) - (1 : Int)) = ((↑P.length : Int) + ((↑Q.length : Int) + (1 : Int)) - (1 : Int)) by simp [Obj.ce, intt])) (w))
  let t6 : Tp pr := .g .row (show (lkp (List.map Obj.ce (setH P Q mk A B rs y).objects) (↑P.length : Int)) = some ((Obj.mk mk (A ++ y :: B)).ce) from hlk)
  let t7 : Tp pr := .i (show ((↑(List.map intt (Obj.mk mk (A ++ y :: B)).links).length : Int) : Int) = (↑A.length : Int) + ((↑B.length : Int) + (1 : Int)) by simp)
  let t8 : Tp pr := .i (wrap_i64 (a := (↑A.length : Int) + ((↑B.length : Int) + (1 : Int)) - (1 : Int)) (by omega) (by (simp at *; omega)))
  let t9 : Tp pr := .a (Ev.castq (congrArg (fun x => Ev.Q.call (67 : FuncId) [i64 (↑A.length : Int), i64 (0 : Int), i64 x] []) (show ((↑(A ++ y :: B).length : Int) - (1 : Int)) = ((↑A.length : Int) + ((↑B.length : Int) + (1 : Int)) - (1 : Int)) by simp [Obj.ce, intt])) (w2))
  let t12 : Tp pr := .m (show (decide ((0 : Int) ≤ (↑P.length : Int) ∧ (↑P.length : Int).toNat < (setH P Q mk A B rs y).objects.length)) = true by simp)
  let t13 : Tp pr := .c (show ((0 : Nat) + (↑P.length : Int).toNat : Nat) = P.length by omega)
  let t14 : Tp pr := .m (show (decide ((List.map Obj.cc (setH P Q mk A B rs y).objects).length = (setH P Q mk A B rs y).objects.length)) = true by simp)
  let t15 : Tp pr := .g .crow (show ((List.map Obj.cc (setH P Q mk A B rs y).objects)[P.length]?) = some ((Obj.mk mk (A ++ y :: B)).cc) by simp)
  let t16 : Tp pr := .m (show (decide ((0 : Int) ≤ (↑A.length : Int) ∧ (↑A.length : Int).toNat < (List.map intt (Obj.mk mk (A ++ y :: B)).links).length)) = true by simp)
  let t17 : Tp pr := .c (show ((↑A.length : Int).toNat : Nat) = A.length by omega)
  let t18 : Tp pr := .m (show (decide ((List.map Obj.cc (setH P Q mk A B rs y).objects).length = (setH P Q mk A B rs y).objects.length)) = true by simp)
  let t19 : Tp pr := .g .crow (show ((List.map Obj.cc (setH P Q mk A B rs y).objects)[P.length]?) = some ((Obj.mk mk (A ++ y :: B)).cc) by simp)
  let t20 : Tp pr := .g .row (show ((List.map intt (Obj.mk mk (A ++ y :: B)).links)[A.length]?) = some (intt y) by simp)
  let t22 : Tp pr := .n .crows (show ((List.map Obj.cc (setH P Q mk A B rs y).objects).set P.length [C.t (T.int IntKind.i64 mk), C.row (1 : Nat) ((List.map intt (Obj.mk mk (A ++ y :: B)).links).set A.length [T.int IntKind.i64 to])]) = List.map Obj.cc P ++ [C.t (T.int IntKind.i64 mk), C.row (1 : Nat) (List.map intt A ++ [T.int IntKind.i64 to] :: List.map intt B)] :: List.map Obj.cc Q by simp)
  let t24 : Tp pr := .m (show (decide (((List.map Obj.cc P).append ([C.t (T.int IntKind.i64 mk), C.row (1 : Nat) ((List.map intt A).append ([T.int IntKind.i64 to] :: List.map intt B))] :: List.map Obj.cc Q)).length = (P ++ Obj.mk mk (A ++ y :: B) :: Q).length ∧ (0 : Nat) + (P ++ Obj.mk mk (A ++ y :: B) :: Q).length ≤ (P ++ Obj.mk mk (A ++ y :: B) :: Q).length)) = true by simp)
  let t25 : Tp pr := .n .rows (show (List.map (fun x => List.map C.fz x) (List.take (P ++ Obj.mk mk (A ++ y :: B) :: Q).length (List.drop (0 : Nat) ((List.map Obj.cc P).append ([C.t (T.int IntKind.i64 mk), C.row (1 : Nat) ((List.map intt A).append ([T.int IntKind.i64 to] :: List.map intt B))] :: List.map Obj.cc Q))))) = List.map Obj.ce P ++ [(C.t (T.int IntKind.i64 mk)).fz, (C.row (1 : Nat) (List.map intt A ++ [T.int IntKind.i64 to] :: List.map intt B)).fz] :: List.map Obj.ce Q by simp)
  let t26 : Tp pr := .m (show (decide ((ints (setH P Q mk A B rs to).roots).length = (setH P Q mk A B rs to).roots.length ∧ (0 : Nat) + (setH P Q mk A B rs to).roots.length ≤ (setH P Q mk A B rs to).roots.length)) = true by simp)
  let t27 : Tp pr := .n .rows (show (List.map (fun x => List.map C.fz x) (List.take (setH P Q mk A B rs to).roots.length (List.drop (0 : Nat) (ints (setH P Q mk A B rs to).roots)))) = List.map intt rs by simp)
  exact .tpe [.a (e), .b (rfl : false = false), t2, t3, t4, .b (rfl : false = false), t6, t7, t8, t9, .b (rfl : false = false), .a (c), t12, t13, t14, t15, t16, t17, t18, t19, t20, .m (rfl : true = true), t22, .a (k), t24, t25, t26, t27] (Out.val (V.tup [V.agg [V.t (T.seq (2 : Nat) ((List.map Obj.ce P).append ([T.int IntKind.i64 mk, T.seq (1 : Nat) ((List.map intt A).append ([T.int IntKind.i64 to] :: List.map intt B))] :: List.map Obj.ce Q))), V.t (T.seq (1 : Nat) (List.map intt rs))], V.t (T.bool true)]) []) (by kernel_rfl) ((congrArg (fun x => Out.val (V.tup [V.agg [V.t (T.seq (2 : Nat) x), V.t (T.seq (1 : Nat) (List.map intt rs))], V.t (T.bool true)]) []) (show ((List.map Obj.ce P).append ([T.int IntKind.i64 mk, T.seq (1 : Nat) ((List.map intt A).append ([T.int IntKind.i64 to] :: List.map intt B))] :: List.map Obj.ce Q)) = (List.map Obj.ce (setH P Q mk A B rs to).objects) by simp [Obj.ce, intt])).trans (congrArg (fun x => Out.val (V.tup [V.agg [V.t (T.seq (2 : Nat) (List.map Obj.ce (setH P Q mk A B rs to).objects)), V.t (T.seq (1 : Nat) x)], V.t (T.bool true)]) []) (show (List.map intt rs) = (List.map intt (setH P Q mk A B rs to).roots) by simp [Obj.ce, intt])))
theorem SetIF_ev (P Q : List Obj) (mk : Int) (A B rs : List Int) (y to : Int) (h1 : (P ++ ⟨mk, A ++ y :: B⟩ :: Q).length ≤ 1048576) (h2 : ∀ z ∈ P ++ ⟨mk, A ++ y :: B⟩ :: Q, z.links.length ≤ 1048576) (h3 : rs.length ≤ 1048576)
    (hg : goodHeap (setH P Q mk A B rs y) = true) (hg2 : goodHeap (setH P Q mk A B rs to) = false) :
    Ev pr (.call 22 [vs (setH P Q mk A B rs y).ce, i64 P.length, i64 A.length, i64 to] []) (.val (.tup [vs (Hp.mk [] []).ce, bl false]) []) := by
  have e := GoodHeapI_ev (setH P Q mk A B rs y) h1 h2 h3
  rw [hg] at e
  have hx := h2 ⟨mk, A ++ y :: B⟩ (by simp)
  have hlen : ((P ++ ⟨mk, A ++ y :: B⟩ :: Q).length : Int) = P.length + 1 + Q.length := by simp; omega
  have hlen2 : ((A ++ y :: B).length : Int) = A.length + 1 + B.length := by simp; omega
  have w := within_ev P.length 0 (((P ++ ⟨mk, A ++ y :: B⟩ :: Q).length : Int) - 1)
  rw [show (decide ((P.length : Int) ≥ 0) && decide ((P.length : Int) ≤ ((P ++ ⟨mk, A ++ y :: B⟩ :: Q).length : Int) - 1)) = true by
    rw [Bool.and_eq_true]; exact ⟨by simp, by simp; omega⟩] at w
  have w2 := within_ev A.length 0 (((A ++ y :: B).length : Int) - 1)
  rw [show (decide ((A.length : Int) ≥ 0) && decide ((A.length : Int) ≤ ((A ++ y :: B).length : Int) - 1)) = true by
    rw [Bool.and_eq_true]; exact ⟨by simp, by simp; omega⟩] at w2
  have hlk : lkp ((P ++ ⟨mk, A ++ y :: B⟩ :: Q).map Obj.ce) (P.length : Int) = some (Obj.ce ⟨mk, A ++ y :: B⟩) := by simp
  have c := cloneHeap_ev (setH P Q mk A B rs y) h1 h2 h3
  rw [show (setH P Q mk A B rs y).objects.isEmpty = false by simp] at c
  have k := checkedF_ev (setH P Q mk A B rs to) false (by simpa using h1) (by
    intro z hz
    rcases List.mem_append.1 hz with h | h
    · exact h2 z (by simp [h])
    · rcases List.mem_cons.1 h with rfl | h
      · simpa using hx
      · exact h2 z (by simp [h])) h3 hg2
  rw [show ((setH P Q mk A B rs to).objects.map Obj.cc) = P.map Obj.cc ++ [C.t (.int .i64 mk), C.row 1 (A.map intt ++ [T.int .i64 to] :: B.map intt)] :: Q.map Obj.cc by simp [Obj.cc, intt],
    show (setH P Q mk A B rs to).objects.length = (P ++ ⟨mk, A ++ y :: B⟩ :: Q).length by simp] at k
  let t2 : Tp pr := .i (show ((↑(List.map Obj.ce (setH P Q mk A B rs y).objects).length : Int) : Int) = (↑P.length : Int) + ((↑Q.length : Int) + (1 : Int)) by simp)
  let t3 : Tp pr := .i (wrap_i64 (a := (↑P.length : Int) + ((↑Q.length : Int) + (1 : Int)) - (1 : Int)) (by omega) (by omega))
  let t4 : Tp pr := .a (Ev.castq (congrArg (fun x => Ev.Q.call (67 : FuncId) [i64 (↑P.length : Int), i64 (0 : Int), i64 x] []) (show ((↑(P ++ Obj.mk mk (A ++ y :: B) :: Q).length : Int) - (1 : Int)) = ((↑P.length : Int) + ((↑Q.length : Int) + (1 : Int)) - (1 : Int)) by simp)) (w))
  let t6 : Tp pr := .g .row (show (lkp (List.map Obj.ce (setH P Q mk A B rs y).objects) (↑P.length : Int)) = some ((Obj.mk mk (A ++ y :: B)).ce) from hlk)
  let t7 : Tp pr := .i (show ((↑(List.map intt (Obj.mk mk (A ++ y :: B)).links).length : Int) : Int) = (↑A.length : Int) + ((↑B.length : Int) + (1 : Int)) by simp)
  let t8 : Tp pr := .i (wrap_i64 (a := (↑A.length : Int) + ((↑B.length : Int) + (1 : Int)) - (1 : Int)) (by omega) (by (simp at *; omega)))
  let t9 : Tp pr := .a (Ev.castq (congrArg (fun x => Ev.Q.call (67 : FuncId) [i64 (↑A.length : Int), i64 (0 : Int), i64 x] []) (show ((↑(A ++ y :: B).length : Int) - (1 : Int)) = ((↑A.length : Int) + ((↑B.length : Int) + (1 : Int)) - (1 : Int)) by simp)) (w2))
  let t12 : Tp pr := .m (show (decide ((0 : Int) ≤ (↑P.length : Int) ∧ (↑P.length : Int).toNat < (setH P Q mk A B rs y).objects.length)) = true by simp)
  let t13 : Tp pr := .c (show ((0 : Nat) + (↑P.length : Int).toNat : Nat) = P.length by omega)
  let t14 : Tp pr := .m (show (decide ((List.map Obj.cc (setH P Q mk A B rs y).objects).length = (setH P Q mk A B rs y).objects.length)) = true by simp)
  let t15 : Tp pr := .g .crow (show ((List.map Obj.cc (setH P Q mk A B rs y).objects)[P.length]?) = some ((Obj.mk mk (A ++ y :: B)).cc) by simp)
  let t16 : Tp pr := .m (show (decide ((0 : Int) ≤ (↑A.length : Int) ∧ (↑A.length : Int).toNat < (List.map intt (Obj.mk mk (A ++ y :: B)).links).length)) = true by simp)
  let t17 : Tp pr := .c (show ((↑A.length : Int).toNat : Nat) = A.length by omega)
  let t18 : Tp pr := .m (show (decide ((List.map Obj.cc (setH P Q mk A B rs y).objects).length = (setH P Q mk A B rs y).objects.length)) = true by simp)
  let t19 : Tp pr := .g .crow (show ((List.map Obj.cc (setH P Q mk A B rs y).objects)[P.length]?) = some ((Obj.mk mk (A ++ y :: B)).cc) by simp)
  let t20 : Tp pr := .g .row (show ((List.map intt (Obj.mk mk (A ++ y :: B)).links)[A.length]?) = some (intt y) by simp)
  let t22 : Tp pr := .n .crows (show ((List.map Obj.cc (setH P Q mk A B rs y).objects).set P.length [C.t (T.int IntKind.i64 mk), C.row (1 : Nat) ((List.map intt (Obj.mk mk (A ++ y :: B)).links).set A.length [T.int IntKind.i64 to])]) = List.map Obj.cc P ++ [C.t (T.int IntKind.i64 mk), C.row (1 : Nat) (List.map intt A ++ [T.int IntKind.i64 to] :: List.map intt B)] :: List.map Obj.cc Q by simp)
  exact .tp [.a (e), .b (rfl : false = false), t2, t3, t4, .b (rfl : false = false), t6, t7, t8, t9, .b (rfl : false = false), .a (c), t12, t13, t14, t15, t16, t17, t18, t19, t20, .m (rfl : true = true), t22, .a (k)] (by kernel_rfl)
end Go.Ev

/- SetLink: the reference's. -/
namespace Go.Ev
set_option linter.unusedVariables false
set_option linter.unusedSimpArgs false
open Go.Proofs
set_option maxRecDepth 100000
set_option linter.unusedVariables false
set_option maxHeartbeats 2000000
attribute [local simp] obcc_take3 ints_take3 obcc_flat3 ints_flat3
attribute [local simp] ints_take6
attribute [local simp] take_mid7 take_mid7b
theorem SetSA_ev (h : Hp) (o k to : Int) (h1 : h.objects.length ≤ 1048576) (h2 : ∀ x ∈ h.objects, x.links.length ≤ 1048576) (h3 : h.roots.length ≤ 1048576) (hg : goodHeap h = false) :
    Ev pr (.call 23 [vs h.ce, i64 o, i64 k, i64 to] []) (.val (.tup [vs (Hp.mk [] []).ce, bl false]) []) := by
  have e := GoodHeapS_ev h h1 h2 h3
  rw [hg] at e
  exact .tp [.a (e), .b (rfl : true = true), .b (rfl : true = true), .b (rfl : true = true), .b (rfl : true = true), .b (rfl : true = true)] (by kernel_rfl)
theorem SetSB_ev (h : Hp) (o k to : Int) (h1 : h.objects.length ≤ 1048576) (h2 : ∀ x ∈ h.objects, x.links.length ≤ 1048576) (h3 : h.roots.length ≤ 1048576) (hg : goodHeap h = true) (ho : ¬ (0 ≤ o ∧ o < h.objects.length)) :
    Ev pr (.call 23 [vs h.ce, i64 o, i64 k, i64 to] []) (.val (.tup [vs (Hp.mk [] []).ce, bl false]) []) := by
  have e := GoodHeapS_ev h h1 h2 h3
  rw [hg] at e
  by_cases hc2 : o < (0 : Int)
  · let t2 : Tp pr := .b (show (decide (o < (0 : Int))) = true by simpa using hc2)
    exact .tp [.a (e), .b (rfl : false = false), t2, .b (rfl : true = true), .b (rfl : true = true), .b (rfl : true = true)] (by kernel_rfl)
  · let t2 : Tp pr := .b (show (decide (o < (0 : Int))) = false by simpa using hc2)
    let t3 : Tp pr := .i (show ((↑(List.map Obj.ce h.objects).length : Int) : Int) = (↑h.objects.length : Int) by simp)
    let t4 : Tp pr := .b (show (decide (o ≥ (↑h.objects.length : Int))) = true by (simp; omega))
    exact .tp [.a (e), .b (rfl : false = false), t2, t3, t4, .b (rfl : true = true), .b (rfl : true = true)] (by kernel_rfl)
theorem SetSC_ev (P Q : List Obj) (x : Obj) (rs : List Int) (k to : Int) (h1 : (P ++ x :: Q).length ≤ 1048576) (h2 : ∀ z ∈ P ++ x :: Q, z.links.length ≤ 1048576) (h3 : rs.length ≤ 1048576) (hg : goodHeap ⟨P ++ x :: Q, rs⟩ = true) (hk : ¬ (0 ≤ k ∧ k < x.links.length)) :
    Ev pr (.call 23 [vs (Hp.mk (P ++ x :: Q) rs).ce, i64 P.length, i64 k, i64 to] []) (.val (.tup [vs (Hp.mk [] []).ce, bl false]) []) := by
  have e := GoodHeapS_ev ⟨P ++ x :: Q, rs⟩ h1 h2 h3
  rw [hg] at e
  have hx := h2 x (by simp)
  have hlen : ((P ++ x :: Q).length : Int) = P.length + 1 + Q.length := by simp; omega
  have hlk : lkp ((P ++ x :: Q).map Obj.ce) (P.length : Int) = some x.ce := by simp
  let t3 : Tp pr := .i (show ((↑(List.map Obj.ce (Hp.mk (P ++ x :: Q) rs).objects).length : Int) : Int) = (↑P.length : Int) + ((↑Q.length : Int) + (1 : Int)) by simp)
  let t4 : Tp pr := .b (show (decide ((↑P.length : Int) ≥ (↑P.length : Int) + ((↑Q.length : Int) + (1 : Int)))) = false by (simp; omega))
  by_cases hc5 : k < (0 : Int)
  · let t5 : Tp pr := .b (show (decide (k < (0 : Int))) = true by simpa using hc5)
    exact .tp [.a (e), .b (rfl : false = false), .b (rfl : false = false), t3, t4, t5, .b (rfl : true = true)] (by kernel_rfl)
  · let t5 : Tp pr := .b (show (decide (k < (0 : Int))) = false by simpa using hc5)
    let t6 : Tp pr := .g .row (show (lkp (List.map Obj.ce (Hp.mk (P ++ x :: Q) rs).objects) (↑P.length : Int)) = some (x.ce) from hlk)
    let t7 : Tp pr := .i (show ((↑(List.map intt x.links).length : Int) : Int) = (↑x.links.length : Int) by simp)
    let t8 : Tp pr := .b (show (decide (k ≥ (↑x.links.length : Int))) = true by (simp; omega))
    exact .tp [.a (e), .b (rfl : false = false), .b (rfl : false = false), t3, t4, t5, t6, t7, t8] (by kernel_rfl)
theorem SetST_ev (P Q : List Obj) (mk : Int) (A B rs : List Int) (y to : Int) (h1 : (P ++ ⟨mk, A ++ y :: B⟩ :: Q).length ≤ 1048576) (h2 : ∀ z ∈ P ++ ⟨mk, A ++ y :: B⟩ :: Q, z.links.length ≤ 1048576) (h3 : rs.length ≤ 1048576)
    (hg : goodHeap (setH P Q mk A B rs y) = true) (hg2 : goodHeap (setH P Q mk A B rs to) = true) :
    Ev pr (.call 23 [vs (setH P Q mk A B rs y).ce, i64 P.length, i64 A.length, i64 to] []) (.val (.tup [vs (setH P Q mk A B rs to).ce, bl true]) []) := by
  have e := GoodHeapS_ev (setH P Q mk A B rs y) h1 h2 h3
  rw [hg] at e
  have hx := h2 ⟨mk, A ++ y :: B⟩ (by simp)
  have hlen : ((P ++ ⟨mk, A ++ y :: B⟩ :: Q).length : Int) = P.length + 1 + Q.length := by simp; omega
  have hlen2 : ((A ++ y :: B).length : Int) = A.length + 1 + B.length := by simp; omega
  have hlk : lkp ((P ++ ⟨mk, A ++ y :: B⟩ :: Q).map Obj.ce) (P.length : Int) = some (Obj.ce ⟨mk, A ++ y :: B⟩) := by simp
  have c := l15Own_ev (setH P Q mk A B rs y) h1 h2 h3
  rw [show (setH P Q mk A B rs y).objects.isEmpty = false by simp] at c
  have k := tellT_ev (setH P Q mk A B rs to) false (by simpa using h1) (by
    intro z hz
    rcases List.mem_append.1 hz with h | h
    · exact h2 z (by simp [h])
    · rcases List.mem_cons.1 h with rfl | h
      · simpa using hx
      · exact h2 z (by simp [h])) h3 hg2
  rw [show ((setH P Q mk A B rs to).objects.map Obj.cc) = P.map Obj.cc ++ [C.t (.int .i64 mk), C.row 1 (A.map intt ++ [T.int .i64 to] :: B.map intt)] :: Q.map Obj.cc by simp [Obj.cc, intt],
    show (setH P Q mk A B rs to).objects.length = (P ++ ⟨mk, A ++ y :: B⟩ :: Q).length by simp] at k
  let t3 : Tp pr := .i (show ((↑(List.map Obj.ce (setH P Q mk A B rs y).objects).length : Int) : Int) = (↑P.length : Int) + ((↑Q.length : Int) + (1 : Int)) by simp)
  let t4 : Tp pr := .b (show (decide ((↑P.length : Int) ≥ (↑P.length : Int) + ((↑Q.length : Int) + (1 : Int)))) = false by (simp; omega))
  let t6 : Tp pr := .g .row (show (lkp (List.map Obj.ce (setH P Q mk A B rs y).objects) (↑P.length : Int)) = some ((Obj.mk mk (A ++ y :: B)).ce) from hlk)
  let t7 : Tp pr := .i (show ((↑(List.map intt (Obj.mk mk (A ++ y :: B)).links).length : Int) : Int) = (↑A.length : Int) + ((↑B.length : Int) + (1 : Int)) by simp)
  let t8 : Tp pr := .b (show (decide ((↑A.length : Int) ≥ (↑A.length : Int) + ((↑B.length : Int) + (1 : Int)))) = false by (simp; omega))
  let t10 : Tp pr := .m (show (decide ((0 : Int) ≤ (↑P.length : Int) ∧ (↑P.length : Int).toNat < (setH P Q mk A B rs y).objects.length)) = true by simp)
  let t11 : Tp pr := .c (show ((0 : Nat) + (↑P.length : Int).toNat : Nat) = P.length by omega)
  let t12 : Tp pr := .m (show (decide ((List.map Obj.cc (setH P Q mk A B rs y).objects).length = (setH P Q mk A B rs y).objects.length)) = true by simp)
  let t13 : Tp pr := .g .crow (show ((List.map Obj.cc (setH P Q mk A B rs y).objects)[P.length]?) = some ((Obj.mk mk (A ++ y :: B)).cc) by simp)
  let t14 : Tp pr := .m (show (decide ((0 : Int) ≤ (↑A.length : Int) ∧ (↑A.length : Int).toNat < (List.map intt (Obj.mk mk (A ++ y :: B)).links).length)) = true by simp)
  let t15 : Tp pr := .c (show ((↑A.length : Int).toNat : Nat) = A.length by omega)
  let t16 : Tp pr := .m (show (decide ((List.map Obj.cc (setH P Q mk A B rs y).objects).length = (setH P Q mk A B rs y).objects.length)) = true by simp)
  let t17 : Tp pr := .g .crow (show ((List.map Obj.cc (setH P Q mk A B rs y).objects)[P.length]?) = some ((Obj.mk mk (A ++ y :: B)).cc) by simp)
  let t18 : Tp pr := .g .row (show ((List.map intt (Obj.mk mk (A ++ y :: B)).links)[A.length]?) = some (intt y) by simp)
  let t20 : Tp pr := .n .crows (show ((List.map Obj.cc (setH P Q mk A B rs y).objects).set P.length [C.t (T.int IntKind.i64 mk), C.row (1 : Nat) ((List.map intt (Obj.mk mk (A ++ y :: B)).links).set A.length [T.int IntKind.i64 to])]) = List.map Obj.cc P ++ [C.t (T.int IntKind.i64 mk), C.row (1 : Nat) (List.map intt A ++ [T.int IntKind.i64 to] :: List.map intt B)] :: List.map Obj.cc Q by simp)
  let t22 : Tp pr := .m (show (decide (((List.map Obj.cc P).append ([C.t (T.int IntKind.i64 mk), C.row (1 : Nat) ((List.map intt A).append ([T.int IntKind.i64 to] :: List.map intt B))] :: List.map Obj.cc Q)).length = (P ++ Obj.mk mk (A ++ y :: B) :: Q).length ∧ (0 : Nat) + (P ++ Obj.mk mk (A ++ y :: B) :: Q).length ≤ (P ++ Obj.mk mk (A ++ y :: B) :: Q).length)) = true by simp)
  let t23 : Tp pr := .n .rows (show (List.map (fun x => List.map C.fz x) (List.take (P ++ Obj.mk mk (A ++ y :: B) :: Q).length (List.drop (0 : Nat) ((List.map Obj.cc P).append ([C.t (T.int IntKind.i64 mk), C.row (1 : Nat) ((List.map intt A).append ([T.int IntKind.i64 to] :: List.map intt B))] :: List.map Obj.cc Q))))) = List.map Obj.ce P ++ [(C.t (T.int IntKind.i64 mk)).fz, (C.row (1 : Nat) (List.map intt A ++ [T.int IntKind.i64 to] :: List.map intt B)).fz] :: List.map Obj.ce Q by simp)
  let t24 : Tp pr := .m (show (decide ((ints (setH P Q mk A B rs to).roots).length = (setH P Q mk A B rs to).roots.length ∧ (0 : Nat) + (setH P Q mk A B rs to).roots.length ≤ (setH P Q mk A B rs to).roots.length)) = true by simp)
  let t25 : Tp pr := .n .rows (show (List.map (fun x => List.map C.fz x) (List.take (setH P Q mk A B rs to).roots.length (List.drop (0 : Nat) (ints (setH P Q mk A B rs to).roots)))) = List.map intt rs by simp)
  exact .tpe [.a (e), .b (rfl : false = false), .b (rfl : false = false), t3, t4, .b (rfl : false = false), t6, t7, t8, .a (c), t10, t11, t12, t13, t14, t15, t16, t17, t18, .m (rfl : true = true), t20, .a (k), t22, t23, t24, t25] (Out.val (V.tup [V.agg [V.t (T.seq (2 : Nat) ((List.map Obj.ce P).append ([T.int IntKind.i64 mk, T.seq (1 : Nat) ((List.map intt A).append ([T.int IntKind.i64 to] :: List.map intt B))] :: List.map Obj.ce Q))), V.t (T.seq (1 : Nat) (List.map intt rs))], V.t (T.bool true)]) []) (by kernel_rfl) ((congrArg (fun x => Out.val (V.tup [V.agg [V.t (T.seq (2 : Nat) x), V.t (T.seq (1 : Nat) (List.map intt rs))], V.t (T.bool true)]) []) (show ((List.map Obj.ce P).append ([T.int IntKind.i64 mk, T.seq (1 : Nat) ((List.map intt A).append ([T.int IntKind.i64 to] :: List.map intt B))] :: List.map Obj.ce Q)) = (List.map Obj.ce (setH P Q mk A B rs to).objects) by simp [Obj.ce, intt])).trans (congrArg (fun x => Out.val (V.tup [V.agg [V.t (T.seq (2 : Nat) (List.map Obj.ce (setH P Q mk A B rs to).objects)), V.t (T.seq (1 : Nat) x)], V.t (T.bool true)]) []) (show (List.map intt rs) = (List.map intt (setH P Q mk A B rs to).roots) by simp [Obj.ce, intt])))
theorem SetSF_ev (P Q : List Obj) (mk : Int) (A B rs : List Int) (y to : Int) (h1 : (P ++ ⟨mk, A ++ y :: B⟩ :: Q).length ≤ 1048576) (h2 : ∀ z ∈ P ++ ⟨mk, A ++ y :: B⟩ :: Q, z.links.length ≤ 1048576) (h3 : rs.length ≤ 1048576)
    (hg : goodHeap (setH P Q mk A B rs y) = true) (hg2 : goodHeap (setH P Q mk A B rs to) = false) :
    Ev pr (.call 23 [vs (setH P Q mk A B rs y).ce, i64 P.length, i64 A.length, i64 to] []) (.val (.tup [vs (Hp.mk [] []).ce, bl false]) []) := by
  have e := GoodHeapS_ev (setH P Q mk A B rs y) h1 h2 h3
  rw [hg] at e
  have hx := h2 ⟨mk, A ++ y :: B⟩ (by simp)
  have hlen : ((P ++ ⟨mk, A ++ y :: B⟩ :: Q).length : Int) = P.length + 1 + Q.length := by simp; omega
  have hlen2 : ((A ++ y :: B).length : Int) = A.length + 1 + B.length := by simp; omega
  have hlk : lkp ((P ++ ⟨mk, A ++ y :: B⟩ :: Q).map Obj.ce) (P.length : Int) = some (Obj.ce ⟨mk, A ++ y :: B⟩) := by simp
  have c := l15Own_ev (setH P Q mk A B rs y) h1 h2 h3
  rw [show (setH P Q mk A B rs y).objects.isEmpty = false by simp] at c
  have k := tellF_ev (setH P Q mk A B rs to) false (by simpa using h1) (by
    intro z hz
    rcases List.mem_append.1 hz with h | h
    · exact h2 z (by simp [h])
    · rcases List.mem_cons.1 h with rfl | h
      · simpa using hx
      · exact h2 z (by simp [h])) h3 hg2
  rw [show ((setH P Q mk A B rs to).objects.map Obj.cc) = P.map Obj.cc ++ [C.t (.int .i64 mk), C.row 1 (A.map intt ++ [T.int .i64 to] :: B.map intt)] :: Q.map Obj.cc by simp [Obj.cc, intt],
    show (setH P Q mk A B rs to).objects.length = (P ++ ⟨mk, A ++ y :: B⟩ :: Q).length by simp] at k
  let t3 : Tp pr := .i (show ((↑(List.map Obj.ce (setH P Q mk A B rs y).objects).length : Int) : Int) = (↑P.length : Int) + ((↑Q.length : Int) + (1 : Int)) by simp)
  let t4 : Tp pr := .b (show (decide ((↑P.length : Int) ≥ (↑P.length : Int) + ((↑Q.length : Int) + (1 : Int)))) = false by (simp; omega))
  let t6 : Tp pr := .g .row (show (lkp (List.map Obj.ce (setH P Q mk A B rs y).objects) (↑P.length : Int)) = some ((Obj.mk mk (A ++ y :: B)).ce) from hlk)
  let t7 : Tp pr := .i (show ((↑(List.map intt (Obj.mk mk (A ++ y :: B)).links).length : Int) : Int) = (↑A.length : Int) + ((↑B.length : Int) + (1 : Int)) by simp)
  let t8 : Tp pr := .b (show (decide ((↑A.length : Int) ≥ (↑A.length : Int) + ((↑B.length : Int) + (1 : Int)))) = false by (simp; omega))
  let t10 : Tp pr := .m (show (decide ((0 : Int) ≤ (↑P.length : Int) ∧ (↑P.length : Int).toNat < (setH P Q mk A B rs y).objects.length)) = true by simp)
  let t11 : Tp pr := .c (show ((0 : Nat) + (↑P.length : Int).toNat : Nat) = P.length by omega)
  let t12 : Tp pr := .m (show (decide ((List.map Obj.cc (setH P Q mk A B rs y).objects).length = (setH P Q mk A B rs y).objects.length)) = true by simp)
  let t13 : Tp pr := .g .crow (show ((List.map Obj.cc (setH P Q mk A B rs y).objects)[P.length]?) = some ((Obj.mk mk (A ++ y :: B)).cc) by simp)
  let t14 : Tp pr := .m (show (decide ((0 : Int) ≤ (↑A.length : Int) ∧ (↑A.length : Int).toNat < (List.map intt (Obj.mk mk (A ++ y :: B)).links).length)) = true by simp)
  let t15 : Tp pr := .c (show ((↑A.length : Int).toNat : Nat) = A.length by omega)
  let t16 : Tp pr := .m (show (decide ((List.map Obj.cc (setH P Q mk A B rs y).objects).length = (setH P Q mk A B rs y).objects.length)) = true by simp)
  let t17 : Tp pr := .g .crow (show ((List.map Obj.cc (setH P Q mk A B rs y).objects)[P.length]?) = some ((Obj.mk mk (A ++ y :: B)).cc) by simp)
  let t18 : Tp pr := .g .row (show ((List.map intt (Obj.mk mk (A ++ y :: B)).links)[A.length]?) = some (intt y) by simp)
  let t20 : Tp pr := .n .crows (show ((List.map Obj.cc (setH P Q mk A B rs y).objects).set P.length [C.t (T.int IntKind.i64 mk), C.row (1 : Nat) ((List.map intt (Obj.mk mk (A ++ y :: B)).links).set A.length [T.int IntKind.i64 to])]) = List.map Obj.cc P ++ [C.t (T.int IntKind.i64 mk), C.row (1 : Nat) (List.map intt A ++ [T.int IntKind.i64 to] :: List.map intt B)] :: List.map Obj.cc Q by simp)
  exact .tp [.a (e), .b (rfl : false = false), .b (rfl : false = false), t3, t4, .b (rfl : false = false), t6, t7, t8, .a (c), t10, t11, t12, t13, t14, t15, t16, t17, t18, .m (rfl : true = true), t20, .a (k)] (by kernel_rfl)
end Go.Ev

/- DropRoot: the program's and the reference's. -/
namespace Go.Ev
set_option linter.unusedVariables false
set_option linter.unusedSimpArgs false
open Go.Proofs
set_option maxRecDepth 100000
set_option linter.unusedVariables false
set_option maxHeartbeats 2000000
attribute [local simp] obcc_take3 ints_take3 obcc_flat3 ints_flat3
@[local simp] theorem ints_take9n (l : List Int) : List.take l.length (ints l) = ints l := List.take_of_length_le (by simp)
theorem ints_app9 (a b : List Int) : ints (a ++ b) = ints a ++ ints b := by simp [ints]
theorem ints_cons9 (x : Int) (b : List Int) : ints (x :: b) = [C.t (.int .i64 x)] :: ints b := rfl
@[local simp] theorem toNat9 (a b : Nat) : ((a : Int) + (b : Int)).toNat = a + b := by omega
@[local simp] theorem toNat9b (a b : Nat) : ((a : Int) + ((b : Int) + 1)).toNat = a + b + 1 := by omega
@[local simp] theorem sub9 (a b : Nat) : a + b + 1 - (a + 1) = b := by omega
@[local simp] theorem sub9b (a b : Nat) : a + b + 1 - (a + b) = 1 := by omega
@[local simp] theorem take9 (A B : List Int) (y : Int) : List.take A.length (ints (A ++ y :: B)) = ints A := by simp [ints]
@[local simp] theorem drop9 (A B : List Int) (y : Int) : List.drop (A.length + 1) (ints (A ++ y :: B)) = ints B := by
  rw [ints_app9, ints_cons9, List.drop_append]
  simp
@[local simp] theorem drop9b (A B : List Int) (y : Int) : List.drop (A.length + B.length) (ints (A ++ y :: B)) = [intc ((y :: B).getLast (by simp))] := by
  have h := List.dropLast_concat_getLast (l := y :: B) (by simp)
  generalize hz : (y :: B).getLast (by simp) = z at h ⊢
  generalize hd : (y :: B).dropLast = D at h
  have hl : D.length = B.length := by rw [← hd]; simp
  rw [← h, ints_app9, ints_app9, ← hl, ← List.append_assoc]
  exact List.drop_left' (by simp)
@[local simp] theorem take9b (A B : List Int) (w : List C) : List.take (A.length + B.length) (ints A ++ (ints B ++ [w])) = ints A ++ ints B := by
  rw [← List.append_assoc]
  exact List.take_left' (by simp)
@[local simp] theorem take9c (A B : List Int) (w : List C) : List.take (A.length + B.length) ((ints A).append ((ints B).append [w])) = (ints A).append (ints B) := take9b A B w
@[local simp] theorem drop9c (A B : List Int) (w : List C) : List.drop (A.length + B.length + 1) (ints A ++ (ints B ++ [w])) = [] := List.drop_eq_nil_of_le (by simp; omega)
@[local simp] theorem drop9d (A B : List Int) (w : List C) : List.drop (A.length + B.length + 1) ((ints A).append ((ints B).append [w])) = [] := drop9c A B w
theorem Delete_ev (A B : List Int) (y : Int) (hl : A.length + B.length ≤ 1000000) :
    Ev pr (.call 77 [.vec 0 (A ++ y :: B).length 1 0 (A ++ y :: B).length, i64 A.length, i64 (A.length + 1)] [.vec true 1 (ints (A ++ y :: B))])
      (.val (.vec 0 (A ++ y :: B).length 1 0 (A ++ B).length) [.vec true 1 (ints (A ++ B ++ [0]))]) := by
  have e : ints (A ++ B ++ [0]) = ints A ++ (ints B ++ [[C.t (.int .i64 0)]]) := by simp [ints, intc]
  rw [e, show (A ++ B).length = A.length + B.length by simp]
  let t0 : Tp pr := .i (show ((↑(A ++ y :: B).length : Int) : Int) = (↑A.length : Int) + ((↑B.length : Int) + (1 : Int)) by simp)
  let t1 : Tp pr := .m (show (decide (((↑A.length : Int) + ((↑B.length : Int) + (1 : Int))).toNat = (A ++ y :: B).length - (0 : Nat)) && true) = true by (simp; omega))
  let t2 : Tp pr := .m (show (decide ((0 : Int) ≤ (↑A.length : Int) ∧ (↑A.length : Int) ≤ (↑A.length : Int) + (1 : Int) ∧ (0 : Nat) + ((↑A.length : Int) + (1 : Int)).toNat ≤ (A ++ y :: B).length)) = true by (simp; omega))
  let t3 : Tp pr := .c (show ((0 : Nat) + (↑A.length : Int).toNat : Nat) = A.length by omega)
  let t4 : Tp pr := .c (show (((↑A.length : Int) + (1 : Int)).toNat - (↑A.length : Int).toNat : Nat) = (1 : Nat) by omega)
  let t5 : Tp pr := .b (show (decide ((↑A.length : Int) = (↑A.length : Int) + (1 : Int))) = false by (simp; omega))
  let t6 : Tp pr := .i (show ((↑(A ++ y :: B).length : Int) : Int) = (↑A.length : Int) + ((↑B.length : Int) + (1 : Int)) by simp)
  let t9 : Tp pr := .m (show (decide ((0 : Int) ≤ (0 : Int) ∧ (0 : Int) ≤ (↑A.length : Int) ∧ (0 : Nat) + (↑A.length : Int).toNat ≤ (A ++ y :: B).length)) = true by simp)
  let t11 : Tp pr := .c (show ((↑A.length : Int).toNat - (0 : Nat) : Nat) = A.length by omega)
  let t15 : Tp pr := .m (show (decide ((0 : Int) ≤ (↑A.length : Int) + (1 : Int) ∧ (↑A.length : Int) + (1 : Int) ≤ (↑(A ++ y :: B).length : Int) ∧ (0 : Nat) + (↑(A ++ y :: B).length : Int).toNat ≤ (A ++ y :: B).length)) = true by (simp; omega))
  let t16 : Tp pr := .c (show ((0 : Nat) + ((↑A.length : Int) + (1 : Int)).toNat : Nat) = A.length + (1 : Nat) by omega)
  let t17 : Tp pr := .c (show ((↑(A ++ y :: B).length : Int).toNat - ((↑A.length : Int) + (1 : Int)).toNat : Nat) = B.length by simp)
  let t19 : Tp pr := .m (show (decide ((ints (A ++ y :: B)).length = (A ++ y :: B).length ∧ A.length + (1 : Nat) + B.length ≤ (A ++ y :: B).length)) = true by (simp; omega))
  let t20 : Tp pr := .m (show (decide ((ints (A ++ y :: B)).length = (A ++ y :: B).length ∧ (0 : Nat) + A.length ≤ (A ++ y :: B).length ∧ A.length + (List.take B.length (List.drop (A.length + (1 : Nat)) (ints (A ++ y :: B)))).length ≤ (4294967296 : Nat))) = true by (simp; omega))
  let t21 : Tp pr := .b (show (decide (A.length + (List.take B.length (List.drop (A.length + (1 : Nat)) (ints (A ++ y :: B)))).length ≤ (A ++ y :: B).length)) = true by simp)
  let t22 : Tp pr := .c (show (A.length + (List.take B.length (List.drop (A.length + (1 : Nat)) (ints (A ++ y :: B)))).length : Nat) = A.length + B.length by simp)
  let t23 : Tp pr := .n .crows (show (((List.take A.length (ints (A ++ y :: B))).append (List.take B.length (List.drop (A.length + (1 : Nat)) (ints (A ++ y :: B))))).append (List.drop (A.length + (List.take B.length (List.drop (A.length + (1 : Nat)) (ints (A ++ y :: B)))).length) (ints (A ++ y :: B)))) = ints A ++ (ints B ++ [intc ((y :: B).getLast (of_eq_true (Eq.trans (congrArg Not (eq_false' fun h => False.elim (noConfusion_of_Nat List.ctorIdx h))) not_false_eq_true)))]) by simp)
  let t26 : Tp pr := .i (show ((↑(A.length + B.length) : Int) : Int) = (↑A.length : Int) + (↑B.length : Int) by omega)
  let t27 : Tp pr := .m (show (decide ((0 : Int) ≤ (↑A.length : Int) + (↑B.length : Int) ∧ (↑A.length : Int) + (↑B.length : Int) ≤ (↑A.length : Int) + ((↑B.length : Int) + (1 : Int)) ∧ (0 : Nat) + ((↑A.length : Int) + ((↑B.length : Int) + (1 : Int))).toNat ≤ (A ++ y :: B).length)) = true by (simp; omega))
  let t28 : Tp pr := .c (show ((0 : Nat) + ((↑A.length : Int) + (↑B.length : Int)).toNat : Nat) = A.length + B.length by omega)
  let t29 : Tp pr := .c (show (((↑A.length : Int) + ((↑B.length : Int) + (1 : Int))).toNat - ((↑A.length : Int) + (↑B.length : Int)).toNat : Nat) = (1 : Nat) by omega)
  let t30 : Tp pr := .m (show (decide (((ints A).append ((ints B).append [[C.t (T.int IntKind.i64 ((y :: B).getLast (of_eq_true (Eq.trans (congrArg Not (eq_false' fun h => False.elim (noConfusion_of_Nat List.ctorIdx h))) not_false_eq_true))))]])).length = (A ++ y :: B).length ∧ A.length + B.length + (1 : Nat) ≤ (A ++ y :: B).length)) = true by (simp; omega))
  let t31 : Tp pr := .n .crows (show (((List.take (A.length + B.length) ((ints A).append ((ints B).append [[C.t (T.int IntKind.i64 ((y :: B).getLast (of_eq_true (Eq.trans (congrArg Not (eq_false' fun h => False.elim (noConfusion_of_Nat List.ctorIdx h))) not_false_eq_true))))]]))).append (List.replicate (1 : Nat) [C.t (T.int IntKind.i64 (0 : Int))])).append (List.drop (A.length + B.length + (1 : Nat)) ((ints A).append ((ints B).append [[C.t (T.int IntKind.i64 ((y :: B).getLast (of_eq_true (Eq.trans (congrArg Not (eq_false' fun h => False.elim (noConfusion_of_Nat List.ctorIdx h))) not_false_eq_true))))]])))) = ints A ++ (ints B ++ [[C.t (T.int IntKind.i64 (0 : Int))]]) by simp)
  exact .tp [t0, t1, t2, t3, t4, t5, t6, .m (rfl : true = true), .m (rfl : true = true), t9, .c (rfl : ((0 : Nat)) = _), t11, .m (rfl : true = true), .m (rfl : true = true), .m (rfl : true = true), t15, t16, t17, .m (rfl : true = true), t19, t20, t21, t22, t23, .m (rfl : true = true), .m (rfl : true = true), t26, t27, t28, t29, t30, t31] (by kernel_rfl)
end Go.Ev

/- DropRoot: the program's and the reference's. -/
namespace Go.Ev
set_option linter.unusedVariables false
set_option linter.unusedSimpArgs false
open Go.Proofs
set_option maxRecDepth 100000
set_option linter.unusedVariables false
set_option maxHeartbeats 2000000
attribute [local simp] obcc_take3 ints_take3 obcc_flat3 ints_flat3 ints_take9n toNat9 toNat9b sub9 sub9b take9 drop9
theorem DropIA_ev (h : Hp) (k : Int) (h1 : h.objects.length ≤ 1048576) (h2 : ∀ x ∈ h.objects, x.links.length ≤ 1048576) (h3 : h.roots.length ≤ 1048576) (hg : goodHeap h = false) :
    Ev pr (.call 30 [vs h.ce, i64 k] []) (.val (.tup [vs (Hp.mk [] []).ce, bl false]) []) := by
  have e := GoodHeapI_ev h h1 h2 h3
  rw [hg] at e
  exact .tp [.a (e), .b (rfl : true = true), .b (rfl : true = true)] (by kernel_rfl)
theorem DropIB_ev (h : Hp) (k : Int) (h1 : h.objects.length ≤ 1048576) (h2 : ∀ x ∈ h.objects, x.links.length ≤ 1048576) (h3 : h.roots.length ≤ 1048576) (hg : goodHeap h = true) (ho : ¬ (0 ≤ k ∧ k < h.roots.length)) :
    Ev pr (.call 30 [vs h.ce, i64 k] []) (.val (.tup [vs (Hp.mk [] []).ce, bl false]) []) := by
  have e := GoodHeapI_ev h h1 h2 h3
  rw [hg] at e
  have w := within_ev k 0 (h.roots.length - 1)
  rw [show (decide (k ≥ 0) && decide (k ≤ (h.roots.length : Int) - 1)) = false by
    rw [Bool.and_eq_false_iff]; by_cases h0 : 0 ≤ k
    · right; simp; omega
    · left; simpa using h0] at w
  let t2 : Tp pr := .i (show ((↑(List.map intt h.roots).length : Int) : Int) = (↑h.roots.length : Int) by simp)
  let t3 : Tp pr := .i (wrap_i64 (a := (↑h.roots.length : Int) - (1 : Int)) (by omega) (by omega))
  exact .tp [.a (e), .b (rfl : false = false), t2, t3, .a (w), .b (rfl : true = true)] (by kernel_rfl)
@[local simp] theorem take10 (A B : List Int) : List.take (A.length + B.length) (ints A ++ ints B) = ints A ++ ints B := List.take_of_length_le (by simp)
@[local simp] theorem take10b (A B : List Int) : List.take (A.length + B.length) ((ints A).append (ints B)) = (ints A).append (ints B) := List.take_of_length_le (by simp)
@[local simp] theorem take10c (A B : List Int) : List.take (A.length + B.length) (A.map intt ++ B.map intt) = A.map intt ++ B.map intt := List.take_of_length_le (by simp)
theorem DropST00_ev (os : List Obj) (y : Int) (h1 : os.length ≤ 1048576) (h2 : ∀ x ∈ os, x.links.length ≤ 1048576) (hg : goodHeap ⟨os, [y]⟩ = true) :
    Ev pr (.call 31 [vs (Hp.mk os [y]).ce, i64 0] []) (.val (.tup [vs (Hp.mk os []).ce, bl true]) []) := by
  have e := GoodHeapS_ev ⟨os, [y]⟩ h1 h2 (by simp)
  rw [hg] at e
  have c := l15Own_ev ⟨os, [y]⟩ h1 h2 (by simp)
  let t3 : Tp pr := .i (rfl : ((1 : Int) : Int) = (1 : Int))
  let t23 : Tp pr := .i (rfl : ((1 : Int) : Int) = (1 : Int))
  let t37 : Tp pr := .m (show (decide ((List.map Obj.cc (Hp.mk os [y]).objects).length = (Hp.mk os [y]).objects.length ∧ (0 : Nat) + (Hp.mk os [y]).objects.length ≤ (Hp.mk os [y]).objects.length)) = true by simp)
  let t38 : Tp pr := .n .rows (show (List.map (fun x => List.map C.fz x) (List.take (Hp.mk os [y]).objects.length (List.drop (0 : Nat) (List.map Obj.cc (Hp.mk os [y]).objects)))) = List.map Obj.ce os by simp)
  exact .tp [.a (e), .b (rfl : false = false), .b (rfl : false = false), t3, .b (rfl : false = false), .a (c), .m (rfl : true = true), .m (rfl : true = true), .m (rfl : true = true), .m (rfl : true = true), .m (rfl : true = true), .c (rfl : ((0 : Nat)) = _), .c (rfl : ((0 : Nat)) = _), .m (rfl : true = true), .m (rfl : true = true), .m (rfl : true = true), .b (rfl : true = true), .c (rfl : ((0 : Nat)) = _), .n .crows (rfl : ([]) = _), .m (rfl : true = true), .m (rfl : true = true), .m (rfl : true = true), .m (rfl : true = true), t23, .m (rfl : true = true), .m (rfl : true = true), .c (rfl : ((1 : Nat)) = _), .c (rfl : ((0 : Nat)) = _), .m (rfl : true = true), .m (rfl : true = true), .m (rfl : true = true), .b (rfl : true = true), .c (rfl : ((0 : Nat)) = _), .n .crows (rfl : ([]) = _), .m (rfl : true = true), .m (rfl : true = true), .m (rfl : true = true), t37, t38, .m (rfl : true = true), .n .rows (rfl : ([]) = _)] (by kernel_rfl)
@[local simp] theorem take10z (A B : List Int) (w : List C) : List.take (A.length + B.length) (ints A ++ (ints B ++ [w])) = ints A ++ ints B := take9b A B w
@[local simp] theorem take10y (A B : List Int) (w : List T) : List.take (A.length + B.length) (A.map intt ++ (B.map intt ++ [w])) = A.map intt ++ B.map intt := by
  rw [← List.append_assoc]
  exact List.take_left' (by simp)
theorem DropIT_ev (os : List Obj) (A B : List Int) (y : Int) (h1 : os.length ≤ 1048576) (h2 : ∀ x ∈ os, x.links.length ≤ 1048576) (h3 : (A ++ y :: B).length ≤ 1000000) (hg : goodHeap ⟨os, A ++ y :: B⟩ = true) :
    Ev pr (.call 30 [vs (Hp.mk os (A ++ y :: B)).ce, i64 A.length] []) (.val (.tup [vs (Hp.mk os (A ++ B)).ce, bl true]) []) := by
  have h3' : (A ++ y :: B).length ≤ 1048576 := by omega
  have e := GoodHeapI_ev ⟨os, A ++ y :: B⟩ h1 h2 h3'
  rw [hg] at e
  have hlen : ((A ++ y :: B).length : Int) = A.length + 1 + B.length := by simp; omega
  have w := within_ev A.length 0 (((A ++ y :: B).length : Int) - 1)
  rw [show (decide ((A.length : Int) ≥ 0) && decide ((A.length : Int) ≤ ((A ++ y :: B).length : Int) - 1)) = true by
    rw [Bool.and_eq_true]; exact ⟨by simp, by simp; omega⟩] at w
  have c := cloneHeap_ev ⟨os, A ++ y :: B⟩ h1 h2 h3'
  have d := Delete_ev A B y (by simp at h3; omega)
  rw [show (Hp.mk os (A ++ B)).ce = [.seq 2 (os.map Obj.ce), .seq 1 (A.map intt ++ B.map intt)] by simp [Hp.ce]]
  let t2 : Tp pr := .i (show ((↑(List.map intt (Hp.mk os (A ++ y :: B)).roots).length : Int) : Int) = (↑A.length : Int) + ((↑B.length : Int) + (1 : Int)) by simp)
  let t3 : Tp pr := .i (wrap_i64 (a := (↑A.length : Int) + ((↑B.length : Int) + (1 : Int)) - (1 : Int)) (by omega) (by omega))
  let t4 : Tp pr := .a (Ev.castq (congrArg (fun x => Q.call (67 : FuncId) [i64 (↑A.length : Int), i64 (0 : Int), i64 x] []) (show ((↑(A ++ y :: B).length : Int) - (1 : Int)) = ((↑A.length : Int) + ((↑B.length : Int) + (1 : Int)) - (1 : Int)) by simp)) (w))
  let t7 : Tp pr := .i (wrap_i64 (a := (↑A.length : Int) + (1 : Int)) (by omega) (by omega))
  let t9 : Tp pr := .m (show (decide ((List.map Obj.cc (Hp.mk os (A ++ y :: B)).objects).length = (Hp.mk os (A ++ y :: B)).objects.length ∧ (0 : Nat) + (Hp.mk os (A ++ y :: B)).objects.length ≤ (Hp.mk os (A ++ y :: B)).objects.length)) = true by simp)
  let t10 : Tp pr := .n .rows (show (List.map (fun x => List.map C.fz x) (List.take (Hp.mk os (A ++ y :: B)).objects.length (List.drop (0 : Nat) (List.map Obj.cc (Hp.mk os (A ++ y :: B)).objects)))) = List.map Obj.ce os by simp)
  let t11 : Tp pr := .m (show (decide ((ints (A ++ B ++ [(0 : Int)])).length = (A ++ y :: B).length ∧ (0 : Nat) + (A ++ B).length ≤ (A ++ y :: B).length)) = true by simp)
  let t12 : Tp pr := .n .rows (show (List.map (fun x => List.map C.fz x) (List.take (A ++ B).length (List.drop (0 : Nat) (ints (A ++ B ++ [(0 : Int)]))))) = List.map intt A ++ List.map intt B by simp)
  exact .tp [.a (e), .b (rfl : false = false), t2, t3, t4, .b (rfl : false = false), .a (c), t7, .a (d), t9, t10, t11, t12] (by kernel_rfl)
theorem DropSA_ev (h : Hp) (k : Int) (h1 : h.objects.length ≤ 1048576) (h2 : ∀ x ∈ h.objects, x.links.length ≤ 1048576) (h3 : h.roots.length ≤ 1048576) (hg : goodHeap h = false) :
    Ev pr (.call 31 [vs h.ce, i64 k] []) (.val (.tup [vs (Hp.mk [] []).ce, bl false]) []) := by
  have e := GoodHeapS_ev h h1 h2 h3
  rw [hg] at e
  exact .tp [.a (e), .b (rfl : true = true), .b (rfl : true = true), .b (rfl : true = true)] (by kernel_rfl)
theorem DropSB_ev (h : Hp) (k : Int) (h1 : h.objects.length ≤ 1048576) (h2 : ∀ x ∈ h.objects, x.links.length ≤ 1048576) (h3 : h.roots.length ≤ 1048576) (hg : goodHeap h = true) (ho : ¬ (0 ≤ k ∧ k < h.roots.length)) :
    Ev pr (.call 31 [vs h.ce, i64 k] []) (.val (.tup [vs (Hp.mk [] []).ce, bl false]) []) := by
  have e := GoodHeapS_ev h h1 h2 h3
  rw [hg] at e
  by_cases hc2 : k < (0 : Int)
  · let t2 : Tp pr := .b (show (decide (k < (0 : Int))) = true by simpa using hc2)
    exact .tp [.a (e), .b (rfl : false = false), t2, .b (rfl : true = true)] (by kernel_rfl)
  · let t2 : Tp pr := .b (show (decide (k < (0 : Int))) = false by simpa using hc2)
    let t3 : Tp pr := .i (show ((↑(List.map intt h.roots).length : Int) : Int) = (↑h.roots.length : Int) by simp)
    let t4 : Tp pr := .b (show (decide (k ≥ (↑h.roots.length : Int))) = true by (simp; omega))
    exact .tp [.a (e), .b (rfl : false = false), t2, t3, t4] (by kernel_rfl)
@[local simp] theorem toNat10 (n : Nat) : ((n : Int) + 1 + 1).toNat = n + 2 := by omega
@[local simp] theorem take10d (B : List Int) : List.take (B.length + 1) (ints B) = ints B := List.take_of_length_le (by simp)
@[local simp] theorem take10e (y : Int) (B : List Int) : List.drop 1 (ints (y :: B)) = ints B := rfl
theorem DropST0_ev (os : List Obj) (B : List Int) (y b : Int) (h1 : os.length ≤ 1048576) (h2 : ∀ x ∈ os, x.links.length ≤ 1048576) (h3 : B.length ≤ 1000000) (hg : goodHeap ⟨os, y :: b :: B⟩ = true) :
    Ev pr (.call 31 [vs (Hp.mk os (y :: b :: B)).ce, i64 0] []) (.val (.tup [vs (Hp.mk os (b :: B)).ce, bl true]) []) := by
  have e := GoodHeapS_ev ⟨os, y :: b :: B⟩ h1 h2 (by simp; omega)
  rw [hg] at e
  have c := l15Own_ev ⟨os, y :: b :: B⟩ h1 h2 (by simp; omega)
  rw [show (Hp.mk os (b :: B)).ce = [.seq 2 (os.map Obj.ce), .seq 1 ((b :: B).map intt)] by simp [Hp.ce]]
  let t3 : Tp pr := .i (show ((↑(List.map intt (Hp.mk os (y :: b :: B)).roots).length : Int) : Int) = (↑B.length : Int) + (1 : Int) + (1 : Int) by simp)
  let t14 : Tp pr := .m (show (decide ((ints (Hp.mk os (y :: b :: B)).roots).length = (Hp.mk os (y :: b :: B)).roots.length ∧ (0 : Nat) ≤ (Hp.mk os (y :: b :: B)).roots.length)) = true by simp)
  let t23 : Tp pr := .i (rfl : ((1 : Int) : Int) = (1 : Int))
  let t25 : Tp pr := .m (show (decide ((0 : Int) ≤ (1 : Int) ∧ (1 : Int) ≤ (↑(Hp.mk os (y :: b :: B)).roots.length : Int) ∧ (0 : Nat) + (↑(Hp.mk os (y :: b :: B)).roots.length : Int).toNat ≤ (Hp.mk os (y :: b :: B)).roots.length)) = true by (simp; omega))
  let t27 : Tp pr := .c (show ((↑(Hp.mk os (y :: b :: B)).roots.length : Int).toNat - (1 : Nat) : Nat) = B.length + (1 : Nat) by simp)
  let t29 : Tp pr := .m (show (decide ((ints (Hp.mk os (y :: b :: B)).roots).length = (Hp.mk os (y :: b :: B)).roots.length ∧ (1 : Nat) + (B.length + (1 : Nat)) ≤ (Hp.mk os (y :: b :: B)).roots.length)) = true by (simp; omega))
  let t30 : Tp pr := .m (show (decide ((0 : Nat) = (0 : Nat) ∧ (0 : Nat) ≤ (0 : Nat) ∧ (0 : Nat) + (List.take (B.length + (1 : Nat)) (List.drop (1 : Nat) (ints (Hp.mk os (y :: b :: B)).roots))).length ≤ (4294967296 : Nat))) = true by (simp; omega))
  let t32 : Tp pr := .c (show ((0 : Nat) + (List.take (B.length + (1 : Nat)) (List.drop (1 : Nat) (ints (Hp.mk os (y :: b :: B)).roots))).length : Nat) = B.length + (1 : Nat) by simp)
  let t33 : Tp pr := .n .crows (show ([].append (List.take (B.length + (1 : Nat)) (List.drop (1 : Nat) (ints (Hp.mk os (y :: b :: B)).roots)))) = List.take (B.length + (1 : Nat)) (ints (y :: b :: B)).tail by simp)
  let t37 : Tp pr := .m (show (decide ((List.map Obj.cc (Hp.mk os (y :: b :: B)).objects).length = (Hp.mk os (y :: b :: B)).objects.length ∧ (0 : Nat) + (Hp.mk os (y :: b :: B)).objects.length ≤ (Hp.mk os (y :: b :: B)).objects.length)) = true by simp)
  let t38 : Tp pr := .n .rows (show (List.map (fun x => List.map C.fz x) (List.take (Hp.mk os (y :: b :: B)).objects.length (List.drop (0 : Nat) (List.map Obj.cc (Hp.mk os (y :: b :: B)).objects)))) = List.map Obj.ce os by simp)
  let t39 : Tp pr := .m (show (decide ((List.take (B.length + (1 : Nat)) (ints (y :: b :: B)).tail).length = B.length + (1 : Nat) ∧ (0 : Nat) + (B.length + (1 : Nat)) ≤ B.length + (1 : Nat))) = true by simp)
  let t40 : Tp pr := .n .rows (show (List.map (fun x => List.map C.fz x) (List.take (B.length + (1 : Nat)) (List.drop (0 : Nat) (List.take (B.length + (1 : Nat)) (ints (y :: b :: B)).tail)))) = intt b :: List.map intt B by simp)
  exact .tp [.a (e), .b (rfl : false = false), .b (rfl : false = false), t3, .b (rfl : false = false), .a (c), .m (rfl : true = true), .m (rfl : true = true), .m (rfl : true = true), .m (rfl : true = true), .m (rfl : true = true), .c (rfl : ((0 : Nat)) = _), .c (rfl : ((0 : Nat)) = _), .m (rfl : true = true), t14, .m (rfl : true = true), .b (rfl : true = true), .c (rfl : ((0 : Nat)) = _), .n .crows (rfl : ([]) = _), .m (rfl : true = true), .m (rfl : true = true), .m (rfl : true = true), .m (rfl : true = true), t23, .m (rfl : true = true), t25, .c (rfl : ((1 : Nat)) = _), t27, .m (rfl : true = true), t29, t30, .b (rfl : false = false), t32, t33, .m (rfl : true = true), .m (rfl : true = true), .m (rfl : true = true), t37, t38, t39, t40] (by kernel_rfl)
theorem DropST1_ev (os : List Obj) (A : List Int) (y : Int) (h0 : 0 < A.length) (h1 : os.length ≤ 1048576) (h2 : ∀ x ∈ os, x.links.length ≤ 1048576) (h3 : A.length ≤ 1000000) (hg : goodHeap ⟨os, A ++ [y]⟩ = true) :
    Ev pr (.call 31 [vs (Hp.mk os (A ++ [y])).ce, i64 A.length] []) (.val (.tup [vs (Hp.mk os A).ce, bl true]) []) := by
  have e := GoodHeapS_ev ⟨os, A ++ [y]⟩ h1 h2 (by simp; omega)
  rw [hg] at e
  have c := l15Own_ev ⟨os, A ++ [y]⟩ h1 h2 (by simp; omega)
  have hlen : ((A ++ [y]).length : Int) = A.length + 1 := by simp
  have hlen2 : (A ++ [y]).length = A.length + 1 := by simp
  rw [show (Hp.mk os A).ce = [.seq 2 (os.map Obj.ce), .seq 1 (A.map intt)] by simp [Hp.ce]]
  have hd := drop9 A [] y
  have ht : List.take 0 (ints []) = [] := rfl
  let t3 : Tp pr := .i (show ((↑(List.map intt (Hp.mk os (A ++ [y])).roots).length : Int) : Int) = (↑A.length : Int) + (1 : Int) by simp)
  let t4 : Tp pr := .b (show (decide ((↑A.length : Int) ≥ (↑A.length : Int) + (1 : Int))) = false by (simp; omega))
  let t10 : Tp pr := .m (show (decide ((0 : Int) ≤ (0 : Int) ∧ (0 : Int) ≤ (↑A.length : Int) ∧ (0 : Nat) + (↑A.length : Int).toNat ≤ (Hp.mk os (A ++ [y])).roots.length)) = true by simp)
  let t12 : Tp pr := .c (show ((↑A.length : Int).toNat - (0 : Nat) : Nat) = A.length by omega)
  let t14 : Tp pr := .m (show (decide ((ints (Hp.mk os (A ++ [y])).roots).length = (Hp.mk os (A ++ [y])).roots.length ∧ (0 : Nat) + A.length ≤ (Hp.mk os (A ++ [y])).roots.length)) = true by simp)
  let t15 : Tp pr := .m (show (decide ((0 : Nat) = (0 : Nat) ∧ (0 : Nat) ≤ (0 : Nat) ∧ (0 : Nat) + (List.take A.length (List.drop (0 : Nat) (ints (Hp.mk os (A ++ [y])).roots))).length ≤ (4294967296 : Nat))) = true by (simp; omega))
  by_cases hc16 : A = []
  · let t16 : Tp pr := .b (show (decide ((0 : Nat) + (List.take A.length (List.drop (0 : Nat) (ints (Hp.mk os (A ++ [y])).roots))).length ≤ (0 : Nat))) = true by simpa using hc16)
    let t17 : Tp pr := .c (show ((0 : Nat) + (List.take A.length (List.drop (0 : Nat) (ints (Hp.mk os (A ++ [y])).roots))).length : Nat) = A.length by simp)
    let t18 : Tp pr := .n .crows (show (([].append (List.take A.length (List.drop (0 : Nat) (ints (Hp.mk os (A ++ [y])).roots)))).append (List.drop ((0 : Nat) + (List.take A.length (List.drop (0 : Nat) (ints (Hp.mk os (A ++ [y])).roots))).length) [])) = ints A by simp)
    let t23 : Tp pr := .i (wrap_i64 (a := (↑A.length : Int) + (1 : Int)) (by omega) (by omega))
    let t25 : Tp pr := .m (show (decide ((0 : Int) ≤ (↑A.length : Int) + (1 : Int) ∧ (↑A.length : Int) + (1 : Int) ≤ (↑(Hp.mk os (A ++ [y])).roots.length : Int) ∧ (0 : Nat) + (↑(Hp.mk os (A ++ [y])).roots.length : Int).toNat ≤ (Hp.mk os (A ++ [y])).roots.length)) = true by simp [*])
    let t26 : Tp pr := .c (show ((0 : Nat) + ((↑A.length : Int) + (1 : Int)).toNat : Nat) = A.length + (1 : Nat) by omega)
    let t27 : Tp pr := .c (show ((↑(Hp.mk os (A ++ [y])).roots.length : Int).toNat - ((↑A.length : Int) + (1 : Int)).toNat : Nat) = (0 : Nat) by simp)
    let t29 : Tp pr := .m (show (decide ((ints (Hp.mk os (A ++ [y])).roots).length = (Hp.mk os (A ++ [y])).roots.length ∧ A.length + (1 : Nat) + (0 : Nat) ≤ (Hp.mk os (A ++ [y])).roots.length)) = true by simp)
    let t30 : Tp pr := .m (show (decide ((ints A).length = (0 : Nat) ∧ (0 : Nat) + A.length ≤ (0 : Nat) ∧ A.length + (0 : Nat) ≤ (4294967296 : Nat))) = true by simp [*])
    let t31 : Tp pr := .b (show (decide (A.length + (0 : Nat) ≤ (0 : Nat))) = true by (simp; omega))
    let t32 : Tp pr := .c (show (A.length + (0 : Nat) : Nat) = A.length by omega)
    let t33 : Tp pr := .n .crows (show (((List.take A.length (ints A)).append []).append (List.drop (A.length + (0 : Nat)) (ints A))) = ints A ++ List.drop A.length (ints A) by simp)
    let t37 : Tp pr := .m (show (decide ((List.map Obj.cc (Hp.mk os (A ++ [y])).objects).length = (Hp.mk os (A ++ [y])).objects.length ∧ (0 : Nat) + (Hp.mk os (A ++ [y])).objects.length ≤ (Hp.mk os (A ++ [y])).objects.length)) = true by simp)
    let t38 : Tp pr := .n .rows (show (List.map (fun x => List.map C.fz x) (List.take (Hp.mk os (A ++ [y])).objects.length (List.drop (0 : Nat) (List.map Obj.cc (Hp.mk os (A ++ [y])).objects)))) = List.map Obj.ce os by simp)
    let t39 : Tp pr := .m (show (decide (((ints A).append (List.drop A.length (ints A))).length = (0 : Nat) ∧ (0 : Nat) + A.length ≤ (0 : Nat))) = true by simp [*])
    let t40 : Tp pr := .n .rows (show (List.map (fun x => List.map C.fz x) (List.take A.length (List.drop (0 : Nat) ((ints A).append (List.drop A.length (ints A)))))) = List.map intt A by simp)
    exact .tp [.a (e), .b (rfl : false = false), .b (rfl : false = false), t3, t4, .a (c), .m (rfl : true = true), .m (rfl : true = true), .m (rfl : true = true), .m (rfl : true = true), t10, .c (rfl : ((0 : Nat)) = _), t12, .m (rfl : true = true), t14, t15, t16, t17, t18, .m (rfl : true = true), .m (rfl : true = true), .m (rfl : true = true), .m (rfl : true = true), t23, .m (rfl : true = true), t25, t26, t27, .m (rfl : true = true), t29, t30, t31, t32, t33, .m (rfl : true = true), .m (rfl : true = true), .m (rfl : true = true), t37, t38, t39, t40] (by kernel_rfl)
  · let t16 : Tp pr := .b (show (decide ((0 : Nat) + (List.take A.length (List.drop (0 : Nat) (ints (Hp.mk os (A ++ [y])).roots))).length ≤ (0 : Nat))) = false by simpa using hc16)
    let t17 : Tp pr := .c (show ((0 : Nat) + (List.take A.length (List.drop (0 : Nat) (ints (Hp.mk os (A ++ [y])).roots))).length : Nat) = A.length by simp)
    let t18 : Tp pr := .n .crows (show ([].append (List.take A.length (List.drop (0 : Nat) (ints (Hp.mk os (A ++ [y])).roots)))) = ints A by simp)
    let t23 : Tp pr := .i (wrap_i64 (a := (↑A.length : Int) + (1 : Int)) (by omega) (by omega))
    let t25 : Tp pr := .m (show (decide ((0 : Int) ≤ (↑A.length : Int) + (1 : Int) ∧ (↑A.length : Int) + (1 : Int) ≤ (↑(Hp.mk os (A ++ [y])).roots.length : Int) ∧ (0 : Nat) + (↑(Hp.mk os (A ++ [y])).roots.length : Int).toNat ≤ (Hp.mk os (A ++ [y])).roots.length)) = true by (simp; omega))
    let t26 : Tp pr := .c (show ((0 : Nat) + ((↑A.length : Int) + (1 : Int)).toNat : Nat) = A.length + (1 : Nat) by omega)
    let t27 : Tp pr := .c (show ((↑(Hp.mk os (A ++ [y])).roots.length : Int).toNat - ((↑A.length : Int) + (1 : Int)).toNat : Nat) = (0 : Nat) by simp)
    let t29 : Tp pr := .m (show (decide ((ints (Hp.mk os (A ++ [y])).roots).length = (Hp.mk os (A ++ [y])).roots.length ∧ A.length + (1 : Nat) + (0 : Nat) ≤ (Hp.mk os (A ++ [y])).roots.length)) = true by simp)
    let t30 : Tp pr := .m (show (decide ((ints A).length = A.length ∧ (0 : Nat) + A.length ≤ A.length ∧ A.length + (0 : Nat) ≤ (4294967296 : Nat))) = true by (simp; omega))
    let t31 : Tp pr := .b (show (decide (A.length + (0 : Nat) ≤ A.length)) = true by simp)
    let t32 : Tp pr := .c (show (A.length + (0 : Nat) : Nat) = A.length by omega)
    let t33 : Tp pr := .n .crows (show (((List.take A.length (ints A)).append []).append (List.drop (A.length + (0 : Nat)) (ints A))) = ints A ++ List.drop A.length (ints A) by simp)
    let t37 : Tp pr := .m (show (decide ((List.map Obj.cc (Hp.mk os (A ++ [y])).objects).length = (Hp.mk os (A ++ [y])).objects.length ∧ (0 : Nat) + (Hp.mk os (A ++ [y])).objects.length ≤ (Hp.mk os (A ++ [y])).objects.length)) = true by simp)
    let t38 : Tp pr := .n .rows (show (List.map (fun x => List.map C.fz x) (List.take (Hp.mk os (A ++ [y])).objects.length (List.drop (0 : Nat) (List.map Obj.cc (Hp.mk os (A ++ [y])).objects)))) = List.map Obj.ce os by simp)
    let t39 : Tp pr := .m (show (decide (((ints A).append (List.drop A.length (ints A))).length = A.length ∧ (0 : Nat) + A.length ≤ A.length)) = true by simp)
    let t40 : Tp pr := .n .rows (show (List.map (fun x => List.map C.fz x) (List.take A.length (List.drop (0 : Nat) ((ints A).append (List.drop A.length (ints A)))))) = List.map intt A by simp)
    exact .tp [.a (e), .b (rfl : false = false), .b (rfl : false = false), t3, t4, .a (c), .m (rfl : true = true), .m (rfl : true = true), .m (rfl : true = true), .m (rfl : true = true), t10, .c (rfl : ((0 : Nat)) = _), t12, .m (rfl : true = true), t14, t15, t16, t17, t18, .m (rfl : true = true), .m (rfl : true = true), .m (rfl : true = true), .m (rfl : true = true), t23, .m (rfl : true = true), t25, t26, t27, .m (rfl : true = true), t29, t30, t31, t32, t33, .m (rfl : true = true), .m (rfl : true = true), .m (rfl : true = true), t37, t38, t39, t40] (by kernel_rfl)
theorem DropST2_ev (os : List Obj) (A B : List Int) (y : Int) (h0 : 0 < A.length) (h0b : 0 < B.length) (h1 : os.length ≤ 1048576) (h2 : ∀ x ∈ os, x.links.length ≤ 1048576) (h3 : (A ++ y :: B).length ≤ 1000000) (hg : goodHeap ⟨os, A ++ y :: B⟩ = true) :
    Ev pr (.call 31 [vs (Hp.mk os (A ++ y :: B)).ce, i64 A.length] []) (.val (.tup [vs (Hp.mk os (A ++ B)).ce, bl true]) []) := by
  have h3' : (A ++ y :: B).length ≤ 1048576 := by omega
  have e := GoodHeapS_ev ⟨os, A ++ y :: B⟩ h1 h2 h3'
  rw [hg] at e
  have hlen : ((A ++ y :: B).length : Int) = A.length + 1 + B.length := by simp; omega
  have hlen2 : (A ++ y :: B).length = A.length + 1 + B.length := by simp; omega
  have c := l15Own_ev ⟨os, A ++ y :: B⟩ h1 h2 h3'
  dsimp only at c
  have q1 : A ≠ [] := by intro h; simp [h] at h0
  have q2 : B ≠ [] := by intro h; simp [h] at h0b
  rw [show (Hp.mk os (A ++ B)).ce = [.seq 2 (os.map Obj.ce), .seq 1 (A.map intt ++ B.map intt)] by simp [Hp.ce]]
  let t3 : Tp pr := .i (show ((↑(List.map intt (Hp.mk os (A ++ y :: B)).roots).length : Int) : Int) = (↑A.length : Int) + ((↑B.length : Int) + (1 : Int)) by simp)
  let t4 : Tp pr := .b (show (decide ((↑A.length : Int) ≥ (↑A.length : Int) + ((↑B.length : Int) + (1 : Int)))) = false by (simp; omega))
  let t10 : Tp pr := .m (show (decide ((0 : Int) ≤ (0 : Int) ∧ (0 : Int) ≤ (↑A.length : Int) ∧ (0 : Nat) + (↑A.length : Int).toNat ≤ (A ++ y :: B).length)) = true by simp)
  let t12 : Tp pr := .c (show ((↑A.length : Int).toNat - (0 : Nat) : Nat) = A.length by omega)
  let t14 : Tp pr := .m (show (decide ((ints (A ++ y :: B)).length = (A ++ y :: B).length ∧ (0 : Nat) + A.length ≤ (A ++ y :: B).length)) = true by simp)
  let t15 : Tp pr := .m (show (decide ((0 : Nat) = (0 : Nat) ∧ (0 : Nat) ≤ (0 : Nat) ∧ (0 : Nat) + (List.take A.length (List.drop (0 : Nat) (ints (A ++ y :: B)))).length ≤ (4294967296 : Nat))) = true by (simp; omega))
  let t16 : Tp pr := .b (show (decide ((0 : Nat) + (List.take A.length (List.drop (0 : Nat) (ints (A ++ y :: B)))).length ≤ (0 : Nat))) = false by (simp; omega))
  let t17 : Tp pr := .c (show ((0 : Nat) + (List.take A.length (List.drop (0 : Nat) (ints (A ++ y :: B)))).length : Nat) = A.length by simp)
  let t18 : Tp pr := .n .crows (show ([].append (List.take A.length (List.drop (0 : Nat) (ints (A ++ y :: B))))) = ints A by simp)
  let t23 : Tp pr := .i (wrap_i64 (a := (↑A.length : Int) + (1 : Int)) (by omega) (by omega))
  let t25 : Tp pr := .m (show (decide ((0 : Int) ≤ (↑A.length : Int) + (1 : Int) ∧ (↑A.length : Int) + (1 : Int) ≤ (↑(A ++ y :: B).length : Int) ∧ (0 : Nat) + (↑(A ++ y :: B).length : Int).toNat ≤ (A ++ y :: B).length)) = true by (simp; omega))
  let t26 : Tp pr := .c (show ((0 : Nat) + ((↑A.length : Int) + (1 : Int)).toNat : Nat) = A.length + (1 : Nat) by omega)
  let t27 : Tp pr := .c (show ((↑(A ++ y :: B).length : Int).toNat - ((↑A.length : Int) + (1 : Int)).toNat : Nat) = B.length by omega)
  let t29 : Tp pr := .m (show (decide ((ints (A ++ y :: B)).length = (A ++ y :: B).length ∧ A.length + (1 : Nat) + B.length ≤ (A ++ y :: B).length)) = true by simp [*])
  let t30 : Tp pr := .m (show (decide ((ints A).length = A.length ∧ (0 : Nat) + A.length ≤ A.length ∧ A.length + (List.take B.length (List.drop (A.length + (1 : Nat)) (ints (A ++ y :: B)))).length ≤ (4294967296 : Nat))) = true by (simp; omega))
  let t31 : Tp pr := .b (show (decide (A.length + (List.take B.length (List.drop (A.length + (1 : Nat)) (ints (A ++ y :: B)))).length ≤ A.length)) = false by (simp; omega))
  let t32 : Tp pr := .c (show (A.length + (List.take B.length (List.drop (A.length + (1 : Nat)) (ints (A ++ y :: B)))).length : Nat) = A.length + B.length by simp)
  let t33 : Tp pr := .n .crows (show ((List.take A.length (ints A)).append (List.take B.length (List.drop (A.length + (1 : Nat)) (ints (A ++ y :: B))))) = ints A ++ ints B by simp)
  let t37 : Tp pr := .m (show (decide ((List.map Obj.cc os).length = os.length ∧ (0 : Nat) + os.length ≤ os.length)) = true by simp)
  let t38 : Tp pr := .n .rows (show (List.map (fun x => List.map C.fz x) (List.take os.length (List.drop (0 : Nat) (List.map Obj.cc os)))) = List.map Obj.ce os by simp)
  let t39 : Tp pr := .m (show (decide (((ints A).append (ints B)).length = A.length + B.length ∧ (0 : Nat) + (A.length + B.length) ≤ A.length + B.length)) = true by simp)
  let t40 : Tp pr := .n .rows (show (List.map (fun x => List.map C.fz x) (List.take (A.length + B.length) (List.drop (0 : Nat) ((ints A).append (ints B))))) = List.map intt A ++ List.map intt B by simp)
  exact .tp [.a (e), .b (rfl : false = false), .b (rfl : false = false), t3, t4, .a (c), .m (rfl : true = true), .m (rfl : true = true), .m (rfl : true = true), .m (rfl : true = true), t10, .c (rfl : ((0 : Nat)) = _), t12, .m (rfl : true = true), t14, t15, t16, t17, t18, .m (rfl : true = true), .m (rfl : true = true), .m (rfl : true = true), .m (rfl : true = true), t23, .m (rfl : true = true), t25, t26, t27, .m (rfl : true = true), t29, t30, t31, t32, t33, .m (rfl : true = true), .m (rfl : true = true), .m (rfl : true = true), t37, t38, t39, t40] (by kernel_rfl)
theorem DropST_ev (os : List Obj) (A B : List Int) (y : Int) (h1 : os.length ≤ 1048576) (h2 : ∀ x ∈ os, x.links.length ≤ 1048576) (h3 : (A ++ y :: B).length ≤ 1000000) (hg : goodHeap ⟨os, A ++ y :: B⟩ = true) :
    Ev pr (.call 31 [vs (Hp.mk os (A ++ y :: B)).ce, i64 A.length] []) (.val (.tup [vs (Hp.mk os (A ++ B)).ce, bl true]) []) := by
  cases A with
  | nil =>
    cases B with
    | nil => exact DropST00_ev os y h1 h2 hg
    | cons b B => exact DropST0_ev os B y b h1 h2 (by simp at h3; omega) hg
  | cons a A =>
    cases B with
    | nil => rw [List.append_nil]; exact DropST1_ev os (a :: A) y (by simp) h1 h2 (by simp at h3 ⊢; omega) hg
    | cons b B => exact DropST2_ev os (a :: A) (b :: B) y (by simp) (by simp) h1 h2 h3 hg
end Go.Ev

/- What is drawn from bytes: next, pick, one, among. -/
namespace Go.Ev
set_option linter.unusedVariables false
set_option linter.unusedSimpArgs false
open Go.Proofs
set_option maxRecDepth 100000
set_option linter.unusedVariables false
set_option maxHeartbeats 2000000
attribute [local simp] vA_simp
theorem nextA_ev (A B : List Int) (b s : Int) (hb : 0 ≤ b ∧ b ≤ 255) (ha : A.length ≤ 50000000) (hlb : (A ++ b :: B).length ≤ 9223372036854775807) :
    Ev pr (.call 100 [.ptr 0 1 0 0] [cuB (A ++ b :: B) A.length s]) (.val (i64 b) [cuB (A ++ b :: B) (A.length + 1) (sdN s b)]) := by
  have hg : lkp ((A ++ b :: B).map u8t) (A.length : Int) = some [T.int .u8 b] := by simp [u8t]
  have hl : ((A ++ b :: B).length : Int) = A.length + 1 + B.length := by simp; omega
  have hl2 : (A ++ b :: B).length = A.length + 1 + B.length := by simp; omega
  have w := wrap_i64 (a := b) (by omega) (by omega)
  unfold cuB sdN
  let t8 : Tp pr := .i (show ((↑(List.map u8t (A ++ b :: B)).length : Int) : Int) = (↑A.length : Int) + ((↑B.length : Int) + (1 : Int)) by simp)
  let t11 : Tp pr := .b (show (decide ((↑A.length : Int) < (↑A.length : Int) + ((↑B.length : Int) + (1 : Int)))) = true by (simp; omega))
  let t20 : Tp pr := .g .row (show (lkp (List.map u8t (A ++ b :: B)) (↑A.length : Int)) = some ([T.int IntKind.u8 b]) from hg)
  let t23 : Tp pr := .i (wrap_i64 (a := b) (by omega) (by omega))
  let t26 : Tp pr := .i (wrap_i64 (a := (↑A.length : Int) + (1 : Int)) (by omega) (by omega))
  let t27 : Tp pr := .i (rfl : (IntKind.u64.wrap (s * (6364136223846793005 : Int))) = _)
  let t28 : Tp pr := .i (wrap_u64 (a := b) (by omega) (by omega))
  let t29 : Tp pr := .i (rfl : (IntKind.u64.wrap (IntKind.u64.wrap (s * (6364136223846793005 : Int)) + b)) = _)
  let t30 : Tp pr := .i (rfl : (IntKind.u64.wrap (IntKind.u64.wrap (IntKind.u64.wrap (s * (6364136223846793005 : Int)) + b) + (1442695040888963407 : Int))) = _)
  let t39 : Tp pr := .i (show ((↑(List.map u8t (A ++ b :: B)).length : Int) : Int) = (↑A.length : Int) + ((↑B.length : Int) + (1 : Int)) by simp)
  let t42 : Tp pr := .b (show (decide ((↑A.length : Int) + (1 : Int) ≤ (↑A.length : Int) + ((↑B.length : Int) + (1 : Int)))) = true by (simp; omega))
  exact .tp [.m (rfl : true = true), .m (rfl : true = true), .m (rfl : true = true), .m (rfl : true = true), .m (rfl : true = true), .m (rfl : true = true), .m (rfl : true = true), .m (rfl : true = true), t8, .m (rfl : true = true), .m (rfl : true = true), t11, .m (rfl : true = true), .m (rfl : true = true), .m (rfl : true = true), .m (rfl : true = true), .m (rfl : true = true), .m (rfl : true = true), .m (rfl : true = true), .m (rfl : true = true), t20, .m (rfl : true = true), .m (rfl : true = true), t23, .m (rfl : true = true), .m (rfl : true = true), t26, t27, t28, t29, t30, .m (rfl : true = true), .m (rfl : true = true), .m (rfl : true = true), .m (rfl : true = true), .m (rfl : true = true), .m (rfl : true = true), .m (rfl : true = true), .m (rfl : true = true), t39, .m (rfl : true = true), .m (rfl : true = true), t42] (by kernel_rfl)
theorem nextB_ev (bs : List Int) (a s : Int) (h0 : (bs.length : Int) ≤ a) (ha : a ≤ 100000000) :
    Ev pr (.call 100 [.ptr 0 1 0 0] [cuB bs a s]) (.val (i64 (vvN (sdN s 0))) [cuB bs (a + 1) (sdN s 0)]) := by
  have hv := vvN_bd (sdN s 0)
  unfold cuB
  unfold vvN at *
  unfold sdN at *
  rw [Int.add_zero] at hv ⊢
  let t8 : Tp pr := .i (show ((↑(List.map u8t bs).length : Int) : Int) = (↑bs.length : Int) by simp)
  let t11 : Tp pr := .b (show (decide (a < (↑bs.length : Int))) = false by (simp; omega))
  let t12 : Tp pr := .i (wrap_i64 (a := a + (1 : Int)) (by omega) (by omega))
  let t13 : Tp pr := .i (rfl : (IntKind.u64.wrap (s * (6364136223846793005 : Int))) = _)
  let t14 : Tp pr := .i (rfl : ((0 : Int) : Int) = (0 : Int))
  let t15 : Tp pr := .i (rfl : (IntKind.u64.wrap (IntKind.u64.wrap (s * (6364136223846793005 : Int)) + (0 : Int))) = _)
  let t16 : Tp pr := .i (rfl : (IntKind.u64.wrap (IntKind.u64.wrap (IntKind.u64.wrap (s * (6364136223846793005 : Int)) + (0 : Int)) + (1442695040888963407 : Int))) = _)
  let t25 : Tp pr := .i (show ((↑(List.map u8t bs).length : Int) : Int) = (↑bs.length : Int) by simp)
  let t28 : Tp pr := .b (show (decide (a + (1 : Int) ≤ (↑bs.length : Int))) = false by (simp; omega))
  let t30 : Tp pr := .i (show ((IntKind.u64.wrap (IntKind.u64.wrap (IntKind.u64.wrap (s * (6364136223846793005 : Int)) + (0 : Int)) + (1442695040888963407 : Int))).fdiv (1099511627776 : Int) : Int) = (IntKind.u64.wrap (IntKind.u64.wrap (IntKind.u64.wrap (s * (6364136223846793005 : Int))) + (1442695040888963407 : Int))).fdiv (1099511627776 : Int) by simp)
  let t31 : Tp pr := .i (show (have x := BitVec.ofInt IntKind.u64.bits ((IntKind.u64.wrap (IntKind.u64.wrap (IntKind.u64.wrap (s * (6364136223846793005 : Int))) + (1442695040888963407 : Int))).fdiv (1099511627776 : Int));
  have y := BitVec.ofInt IntKind.u64.bits (255 : Int);
  match BinOp.and with
  | BinOp.and => IntKind.u64.wrap (↑(x &&& y).toNat : Int)
  | BinOp.or => IntKind.u64.wrap (↑(x ||| y).toNat : Int)
  | BinOp.xor => IntKind.u64.wrap (↑(x ^^^ y).toNat : Int)
  | x_1 => IntKind.u64.wrap (↑(x &&& ~~~y).toNat : Int) : Int) = vA ((IntKind.u64.wrap (IntKind.u64.wrap (IntKind.u64.wrap (s * (6364136223846793005 : Int))) + (1442695040888963407 : Int))).fdiv (1099511627776 : Int)) by simp)
  let t32 : Tp pr := .i (wrap_i64 (a := vA ((IntKind.u64.wrap (IntKind.u64.wrap (IntKind.u64.wrap (s * (6364136223846793005 : Int))) + (1442695040888963407 : Int))).fdiv (1099511627776 : Int))) (by omega) (by omega))
  exact .tpe [.m (rfl : true = true), .m (rfl : true = true), .m (rfl : true = true), .m (rfl : true = true), .m (rfl : true = true), .m (rfl : true = true), .m (rfl : true = true), .m (rfl : true = true), t8, .m (rfl : true = true), .m (rfl : true = true), t11, t12, t13, t14, t15, t16, .m (rfl : true = true), .m (rfl : true = true), .m (rfl : true = true), .m (rfl : true = true), .m (rfl : true = true), .m (rfl : true = true), .m (rfl : true = true), .m (rfl : true = true), t25, .m (rfl : true = true), .m (rfl : true = true), t28, .m (rfl : true = true), t30, t31, t32] (Out.val (V.t (T.int IntKind.i64 (vA ((IntKind.u64.wrap (IntKind.u64.wrap (IntKind.u64.wrap (s * (6364136223846793005 : Int))) + (1442695040888963407 : Int))).fdiv (1099511627776 : Int))))) [Ob.box [V.t (T.seq (1 : Nat) (List.map u8t bs)), V.t (T.int IntKind.i64 (a + (1 : Int))), V.t (T.int IntKind.u64 (IntKind.u64.wrap (IntKind.u64.wrap (IntKind.u64.wrap (s * (6364136223846793005 : Int)) + (0 : Int)) + (1442695040888963407 : Int))))]]) (by kernel_rfl) (congrArg (fun x => Out.val (V.t (T.int IntKind.i64 (vA ((IntKind.u64.wrap (IntKind.u64.wrap (IntKind.u64.wrap (s * (6364136223846793005 : Int))) + (1442695040888963407 : Int))).fdiv (1099511627776 : Int))))) [Ob.box [V.t (T.seq (1 : Nat) (List.map u8t bs)), V.t (T.int IntKind.i64 (a + (1 : Int))), V.t (T.int IntKind.u64 x)]]) (show (IntKind.u64.wrap (IntKind.u64.wrap (IntKind.u64.wrap (s * (6364136223846793005 : Int)) + (0 : Int)) + (1442695040888963407 : Int))) = (IntKind.u64.wrap (IntKind.u64.wrap (IntKind.u64.wrap (s * (6364136223846793005 : Int))) + (1442695040888963407 : Int))) by simp))
end Go.Ev

/- What is drawn from bytes: that it ends, and in which bounds. -/
namespace Go.Ev
set_option linter.unusedVariables false
set_option linter.unusedSimpArgs false
open Go.Proofs
set_option maxRecDepth 100000
set_option linter.unusedVariables false
set_option maxHeartbeats 2000000
def okB (bs : List Int) : Prop := bs.length ≤ 9223372036854775807 ∧ ∀ b ∈ bs, 0 ≤ b ∧ b ≤ 255
theorem next_ex (bs : List Int) (hb : okB bs) (a s : Int) (h0 : 0 ≤ a) (ha : a ≤ 50000000) :
    ∃ v s' : Int, (0 ≤ v ∧ v ≤ 255) ∧ Ev pr (.call 100 [.ptr 0 1 0 0] [cuB bs a s]) (.val (i64 v) [cuB bs (a + 1) s']) := by
  by_cases h : a < bs.length
  · have hn : a.toNat < bs.length := by omega
    have e : bs = bs.take a.toNat ++ bs[a.toNat] :: bs.drop (a.toNat + 1) := by
      rw [← List.drop_eq_getElem_cons hn, List.take_append_drop]
    have hl : (bs.take a.toNat).length = a.toNat := by simp; omega
    have hm := hb.2 _ (List.getElem_mem hn)
    generalize bs[a.toNat] = b at e hm
    have hlen := hb.1
    generalize bs.take a.toNat = A at e hl
    generalize bs.drop (a.toNat + 1) = B at e
    have hA : a = A.length := by omega
    subst e
    rw [hA]
    exact ⟨b, sdN s b, hm, nextA_ev A B b s hm (by omega) hlen⟩
  · exact ⟨vvN (sdN s 0), sdN s 0, vvN_bd _, nextB_ev bs a s (by omega) (by omega)⟩
theorem pick_ex (bs : List Int) (hb : okB bs) (a s : Int) (h0 : 0 ≤ a) (ha : a ≤ 50000000) (n : Int) (hn : n ≤ 200) :
    ∃ v a' s' : Int, (0 ≤ v ∧ (v < n ∨ v = 0)) ∧ (a ≤ a' ∧ a' ≤ a + 1) ∧ Ev pr (.call 66 [.ptr 0 1 0 0, i64 n] [cuB bs a s]) (.val (i64 v) [cuB bs a' s']) := by
  by_cases h : n ≤ 1
  · refine ⟨0, a, s, by omega, by omega, ?_⟩
    unfold cuB
    let t0 : Tp pr := .b (show (decide (n ≤ (1 : Int))) = true by (simp; omega))
    exact .tp [t0] (by kernel_rfl)
  · obtain ⟨v, s', hv, e⟩ := next_ex bs hb a s h0 ha
    have hm : v.tmod n = v % n := Int.tmod_eq_emod_of_nonneg hv.1
    have h1 := Int.emod_nonneg v (show n ≠ 0 by omega)
    have h2 := Int.emod_lt_of_pos v (show 0 < n by omega)
    refine ⟨v % n, a + 1, s', by omega, by omega, ?_⟩
    unfold cuB at *
    have h3 : ¬ n > 200 := by omega
    rw [← hm] at h1 h2 ⊢
    let t0 : Tp pr := .b (show (decide (n ≤ (1 : Int))) = false by (simp; omega))
    let t2 : Tp pr := .b (show (decide (n > (200 : Int))) = false by (simp; omega))
    let t3 : Tp pr := .m (show (decide (n ≠ (0 : Int))) = true by (simp; omega))
    exact .tp [t0, .a (e), t2, t3, .i (rfl : (v.tmod n) = _)] (by kernel_rfl)
theorem one_ex (bs : List Int) (hb : okB bs) (a s : Int) (h0 : 0 ≤ a) (ha : a ≤ 50000000) (n : Int) (hn : n ≤ 200) :
    ∃ (v : Bool) (a' s' : Int), (a ≤ a' ∧ a' ≤ a + 1) ∧ Ev pr (.call 80 [.ptr 0 1 0 0, i64 n] [cuB bs a s]) (.val (bl v) [cuB bs a' s']) := by
  obtain ⟨v, a', s', hv, h1, e⟩ := pick_ex bs hb a s h0 ha n hn
  by_cases hz : v = 0
  · refine ⟨true, a', s', h1, ?_⟩
    subst hz
    unfold cuB at *
    exact .tp [.a (e)] (by kernel_rfl)
  · refine ⟨false, a', s', h1, ?_⟩
    unfold cuB at *
    exact .tpe [.a (e)] (Out.val (V.t (T.bool (decide (v = (0 : Int))))) [Ob.box [V.t (T.seq (1 : Nat) (List.map u8t bs)), V.t (T.int IntKind.i64 a'), V.t (T.int IntKind.u64 s')]]) (by kernel_rfl) (congrArg (fun x => Out.val (V.t (T.bool x)) [Ob.box [V.t (T.seq (1 : Nat) (List.map u8t bs)), V.t (T.int IntKind.i64 a'), V.t (T.int IntKind.u64 s')]]) (show (decide (v = (0 : Int))) = (false) by simp [*]))
theorem among_ex (bs : List Int) (hb : okB bs) (a s : Int) (h0 : 0 ≤ a) (ha : a ≤ 50000000) (l : List Int) (hl : 0 < l.length) (hl2 : l.length ≤ 100) :
    ∃ (v : Int) (a' s' : Int), v ∈ l ∧ (a ≤ a' ∧ a' ≤ a + 1) ∧ Ev pr (.call 75 [.ptr 0 1 0 0, isq l] [cuB bs a s]) (.val (i64 v) [cuB bs a' s']) := by
  obtain ⟨v, a', s', hv, h1, e⟩ := pick_ex bs hb a s h0 ha l.length (by omega)
  have hlt : v.toNat < l.length := by omega
  have hg : lkp (l.map intt) v = some [T.int .i64 l[v.toNat]] := by simp [lkp, intt, hv.1, hlt]
  refine ⟨l[v.toNat], a', s', List.getElem_mem hlt, h1, ?_⟩
  generalize l[v.toNat] = x at hg ⊢
  unfold cuB at *
  let t0 : Tp pr := .i (show ((↑(List.map intt l).length : Int) : Int) = (↑l.length : Int) by simp)
  let t2 : Tp pr := .g .row (show (lkp (List.map intt l) v) = some ([T.int IntKind.i64 x]) from hg)
  exact .tp [t0, .a (e), t2] (by kernel_rfl)
end Go.Ev

/- Heaps that are drawn: that the drawing ends, and how large they are. -/
namespace Go.Ev
set_option linter.unusedVariables false
set_option linter.unusedSimpArgs false
open Go.Proofs
set_option maxRecDepth 100000
set_option linter.unusedVariables false
set_option maxHeartbeats 2000000
def rowD (l : List Obj) : List (List C) := l.map fun o => o.ce.map C.t
theorem rowD_snoc (l : List Obj) (o : Obj) : rowD (l ++ [o]) = (rowD l).append [[C.t (.int .i64 o.mark), C.t (.seq 1 (o.links.map intt))]] := by simp [rowD, Obj.ce]
@[local simp] theorem rowD_len (l : List Obj) : (rowD l).length = l.length := by simp [rowD]
@[local simp] theorem rowD_fz (l : List Obj) : List.map (fun x => List.map C.fz x) (rowD l) = l.map Obj.ce := by
  rw [rowD, List.map_map]
  congr 1
@[local simp] theorem rowD_take (l : List Obj) : List.take l.length (rowD l) = rowD l := List.take_of_length_le (by simp)
@[local simp] theorem ints_takeD (l : List Int) : List.take l.length (ints l) = ints l := List.take_of_length_le (by simp)
theorem ints_snocD (l : List Int) (x : Int) : ints (l ++ [x]) = (ints l).append [[C.t (.int .i64 x)]] := by simp [ints, intc]
theorem hL2_ex (bs : List Int) (hb : okB bs) (n : Int) (hn0 : 0 ≤ n) (hn : n ≤ 45) (i mk : Int) (N : Nat) (R : List (List C)) : ∀ (k : Nat) (l : List Int) (a s : Int), 0 ≤ a → a + k ≤ 40000000 → l.length + k ≤ 100 →
    ∃ (l' : List Int) (a' s' : Int), l'.length ≤ l.length + k ∧ (a ≤ a' ∧ a' ≤ a + k) ∧
    Ev pr (.loop (lq pr 65 1) (at_ [(0, .ptr 0 1 0 0), (2, .ptr 1 1 0 0), (3, .ptr 2 1 0 0), (4, i64 n), (5, i64 i), (6, .ptr 3 1 0 0), (7, i64 k)]
        [cuB bs a s, .box [.t .nils, .t .nils], .box [.vec 4 N 2 0 N, .t .nils], .box [i64 mk, .vec 5 l.length 1 0 l.length], .vec true 2 R, .vec true 1 (ints l)] 1))
      (.exit 2 (at_ [(0, .ptr 0 1 0 0), (2, .ptr 1 1 0 0), (3, .ptr 2 1 0 0), (4, i64 n), (5, i64 i), (6, .ptr 3 1 0 0)]
        [cuB bs a' s', .box [.t .nils, .t .nils], .box [.vec 4 N 2 0 N, .t .nils], .box [i64 mk, .vec 5 l'.length 1 0 l'.length], .vec true 2 R, .vec true 1 (ints l')] 1))
  | 0, l, a, s, h0, h1, h2 => by
    refine ⟨l, a, s, by omega, by omega, ?_⟩
    unfold cuB
    exact .tp [.b (rfl : false = false)] (by kernel_rfl)
  | k + 1, l, a, s, h0, h1, h2 => by
    obtain ⟨v, a1, s1, hv, ha1, e⟩ := pick_ex bs hb a s h0 (by omega) (n + 1) (by omega)
    obtain ⟨l', a', s', hl, ha, ih⟩ := hL2_ex bs hb n hn0 hn i mk N R k (l ++ [v - 1]) a1 s1 (by omega) (by omega) (by simp; omega)
    refine ⟨l', a', s', by simp at hl; omega, by omega, ?_⟩
    rw [ints_snocD, List.length_append, List.length_singleton] at ih
    unfold cuB at *
    let t0 : Tp pr := .b (show (decide ((↑(k + (1 : Nat)) : Int) > (0 : Int))) = true by simp)
    let t5 : Tp pr := .i (wrap_i64 (a := n + (1 : Int)) (by omega) (by omega))
    let t9 : Tp pr := .i (wrap_i64 (a := v - (1 : Int)) (by omega) (by omega))
    let t13 : Tp pr := .m (show (decide ((ints l).length = l.length ∧ (0 : Nat) + l.length ≤ l.length ∧ l.length + (1 : Nat) ≤ (4294967296 : Nat))) = true by (simp; omega))
    let t14 : Tp pr := .b (show (decide (l.length + (1 : Nat) ≤ l.length)) = false by simp)
    let t16 : Tp pr := .n .crows (show ((List.take l.length (ints l)).append (List.take (1 : Nat) (List.drop (0 : Nat) [[C.t (T.int IntKind.i64 (v - (1 : Int)))]]))) = ints l ++ [[C.t (T.int IntKind.i64 (v - (1 : Int)))]] by simp)
    let t20 : Tp pr := .i (wrap_i64 (a := (↑(k + (1 : Nat)) : Int) - (1 : Int)) (by omega) (by omega))
    let t21 : Tp pr := .a (Ev.castq (congrArg (fun x => Q.loop (lq pr (65 : FuncId) (1 : Nat)) (at_ [((0 : Nat), V.ptr (0 : Nat) (1 : Nat) (0 : Nat) (0 : Nat)), ((2 : Nat), V.ptr (1 : Nat) (1 : Nat) (0 : Nat) (0 : Nat)), ((3 : Nat), V.ptr (2 : Nat) (1 : Nat) (0 : Nat) (0 : Nat)), ((4 : Nat), i64 n), ((5 : Nat), i64 i), ((6 : Nat), V.ptr (3 : Nat) (1 : Nat) (0 : Nat) (0 : Nat)), ((7 : Nat), i64 x)] [Ob.box [V.t (T.seq (1 : Nat) (List.map u8t bs)), V.t (T.int IntKind.i64 a1), V.t (T.int IntKind.u64 s1)], Ob.box [V.t T.nils, V.t T.nils], Ob.box [V.vec (4 : Nat) N (2 : Nat) (0 : Nat) N, V.t T.nils], Ob.box [i64 mk, V.vec (5 : Nat) (l.length + (1 : Nat)) (1 : Nat) (0 : Nat) (l.length + (1 : Nat))], Ob.vec true (2 : Nat) R, Ob.vec true (1 : Nat) ((ints l).append [[C.t (T.int IntKind.i64 (v - (1 : Int)))]])] (1 : Nat))) (show ((↑k : Int)) = ((↑(k + (1 : Nat)) : Int) - (1 : Int)) by simp)) (ih))
    exact .tp [t0, .m (rfl : true = true), .m (rfl : true = true), .m (rfl : true = true), .m (rfl : true = true), t5, .m (rfl : true = true), .a (e), .m (rfl : true = true), t9, .m (rfl : true = true), .m (rfl : true = true), .m (rfl : true = true), t13, t14, .c (rfl : (l.length + (1 : Nat)) = _), t16, .m (rfl : true = true), .m (rfl : true = true), .m (rfl : true = true), t20, t21] (by kernel_rfl)
theorem hL1_ex (bs : List Int) (hb : okB bs) (n : Int) (hn : n ≤ 45) : ∀ (k : Nat) (os : List Obj) (a s : Int), 0 ≤ a → a + 10 * k ≤ 30000000 → n = os.length + k → (∀ x ∈ os, x.links.length ≤ 4) →
    ∃ (os' : List Obj) (a' s' : Int), os'.length = os.length + k ∧ (∀ x ∈ os', x.links.length ≤ 4) ∧ (a ≤ a' ∧ a' ≤ a + 10 * k) ∧
    Ev pr (.loop (lq pr 65 0) (at_ [(0, .ptr 0 1 0 0), (2, .ptr 1 1 0 0), (3, .ptr 2 1 0 0), (4, i64 n), (5, i64 os.length)]
        [cuB bs a s, .box [.t .nils, .t .nils], .box [.vec 3 os.length 2 0 os.length, .t .nils], .vec true 2 (rowD os)] 1))
      (.exit 0 (at_ [(0, .ptr 0 1 0 0), (2, .ptr 1 1 0 0), (3, .ptr 2 1 0 0), (4, i64 n)]
        [cuB bs a' s', .box [.t .nils, .t .nils], .box [.vec 3 os'.length 2 0 os'.length, .t .nils], .vec true 2 (rowD os')] 1))
  | 0, os, a, s, h0, h1, hk, hx => by
    refine ⟨os, a, s, by omega, hx, by omega, ?_⟩
    unfold cuB
    let t0 : Tp pr := .b (show (decide ((↑os.length : Int) < n)) = false by (simp; omega))
    exact .tp [t0] (by kernel_rfl)
  | k + 1, os, a, s, h0, h1, hk, hx => by
    obtain ⟨v1, a1, s1, hv1, ha1, e1⟩ := pick_ex bs hb a s h0 (by omega) 6 (by omega)
    obtain ⟨v2, a2, s2, hv2, ha2, e2⟩ := pick_ex bs hb a1 s1 (by omega) (by omega) 4 (by omega)
    obtain ⟨m, rfl⟩ : ∃ m : Nat, v2 = m := ⟨v2.toNat, by omega⟩
    obtain ⟨l', a3, s3, hl, ha3, g⟩ := hL2_ex bs hb n (by omega) hn os.length v1 os.length (rowD os) m [] a2 s2 (by omega) (by omega) (by simp; omega)
    obtain ⟨os', a', s', ho, hx', ha, ih⟩ := hL1_ex bs hb n hn k (os ++ [⟨v1, l'⟩]) a3 s3 (by omega) (by omega) (by simp; omega) (by
      intro x hx2
      rcases List.mem_append.1 hx2 with h | h
      · exact hx x h
      · obtain rfl := List.mem_singleton.1 h
        simp at hl
        show l'.length ≤ 4
        omega)
    refine ⟨os', a', s', by simp at ho; omega, hx', by omega, ?_⟩
    rw [rowD_snoc, List.length_append, List.length_singleton] at ih
    unfold cuB at *
    let t0 : Tp pr := .b (show (decide ((↑os.length : Int) < n)) = true by (simp; omega))
    let t4 : Tp pr := .m (show (decide ((ints l').length = l'.length ∧ (0 : Nat) + l'.length ≤ l'.length)) = true by simp)
    let t5 : Tp pr := .n .rows (show (List.map (fun x => List.map C.fz x) (List.take l'.length (List.drop (0 : Nat) (ints l')))) = List.map intt l' by simp)
    let t7 : Tp pr := .m (show (decide ((rowD os).length = os.length ∧ (0 : Nat) + os.length ≤ os.length ∧ os.length + (1 : Nat) ≤ (4294967296 : Nat))) = true by (simp; omega))
    let t8 : Tp pr := .b (show (decide (os.length + (1 : Nat) ≤ os.length)) = false by simp)
    let t10 : Tp pr := .n .crows (show ((List.take os.length (rowD os)).append (List.take (1 : Nat) (List.drop (0 : Nat) [[C.t (T.int IntKind.i64 v1), C.t (T.seq (1 : Nat) (List.map intt l'))]]))) = rowD os ++ [[C.t (T.int IntKind.i64 v1), C.t (T.seq (1 : Nat) (List.map intt l'))]] by simp)
    let t11 : Tp pr := .i (wrap_i64 (a := (↑os.length : Int) + (1 : Int)) (by omega) (by omega))
    exact .tp [t0, .a (e1), .a (e2), .a (g), t4, t5, .m (rfl : true = true), t7, t8, .c (rfl : (os.length + (1 : Nat)) = _), t10, t11, .a (ih)] (by kernel_rfl)
theorem hL3_ex (bs : List Int) (hb : okB bs) (n : Int) (hn0 : 0 ≤ n) (hn : n ≤ 45) (N : Nat) (R : List (List C)) : ∀ (k : Nat) (l : List Int) (a s : Int), 0 ≤ a → a + k ≤ 40000000 → l.length + k ≤ 100 →
    ∃ (l' : List Int) (a' s' : Int), l'.length ≤ l.length + k ∧ (a ≤ a' ∧ a' ≤ a + k) ∧
    Ev pr (.loop (lq pr 65 2) (at_ [(0, .ptr 0 1 0 0), (2, .ptr 1 1 0 0), (3, .ptr 2 1 0 0), (4, i64 n), (8, i64 k)]
        [cuB bs a s, .box [.t .nils, .t .nils], .box [.vec 3 N 2 0 N, .vec 4 l.length 1 0 l.length], .vec true 2 R, .vec true 1 (ints l)] 1))
      (.exit 4 (at_ [(0, .ptr 0 1 0 0), (2, .ptr 1 1 0 0), (3, .ptr 2 1 0 0), (4, i64 n)]
        [cuB bs a' s', .box [.t .nils, .t .nils], .box [.vec 3 N 2 0 N, .vec 4 l'.length 1 0 l'.length], .vec true 2 R, .vec true 1 (ints l')] 1))
  | 0, l, a, s, h0, h1, h2 => by
    refine ⟨l, a, s, by omega, by omega, ?_⟩
    unfold cuB
    exact .tp [.b (rfl : false = false)] (by kernel_rfl)
  | k + 1, l, a, s, h0, h1, h2 => by
    obtain ⟨v, a1, s1, hv, ha1, e⟩ := pick_ex bs hb a s h0 (by omega) (n + 1) (by omega)
    obtain ⟨l', a', s', hl, ha, ih⟩ := hL3_ex bs hb n hn0 hn N R k (l ++ [v - 1]) a1 s1 (by omega) (by omega) (by simp; omega)
    refine ⟨l', a', s', by simp at hl; omega, by omega, ?_⟩
    rw [ints_snocD, List.length_append, List.length_singleton] at ih
    unfold cuB at *
    let t0 : Tp pr := .b (show (decide ((↑(k + (1 : Nat)) : Int) > (0 : Int))) = true by simp)
    let t5 : Tp pr := .i (wrap_i64 (a := n + (1 : Int)) (by omega) (by omega))
    let t9 : Tp pr := .i (wrap_i64 (a := v - (1 : Int)) (by omega) (by omega))
    let t13 : Tp pr := .m (show (decide ((ints l).length = l.length ∧ (0 : Nat) + l.length ≤ l.length ∧ l.length + (1 : Nat) ≤ (4294967296 : Nat))) = true by (simp; omega))
    let t14 : Tp pr := .b (show (decide (l.length + (1 : Nat) ≤ l.length)) = false by simp)
    let t16 : Tp pr := .n .crows (show ((List.take l.length (ints l)).append (List.take (1 : Nat) (List.drop (0 : Nat) [[C.t (T.int IntKind.i64 (v - (1 : Int)))]]))) = ints l ++ [[C.t (T.int IntKind.i64 (v - (1 : Int)))]] by simp)
    let t20 : Tp pr := .i (wrap_i64 (a := (↑(k + (1 : Nat)) : Int) - (1 : Int)) (by omega) (by omega))
    let t21 : Tp pr := .a (Ev.castq (congrArg (fun x => Q.loop (lq pr (65 : FuncId) (2 : Nat)) (at_ [((0 : Nat), V.ptr (0 : Nat) (1 : Nat) (0 : Nat) (0 : Nat)), ((2 : Nat), V.ptr (1 : Nat) (1 : Nat) (0 : Nat) (0 : Nat)), ((3 : Nat), V.ptr (2 : Nat) (1 : Nat) (0 : Nat) (0 : Nat)), ((4 : Nat), i64 n), ((8 : Nat), i64 x)] [Ob.box [V.t (T.seq (1 : Nat) (List.map u8t bs)), V.t (T.int IntKind.i64 a1), V.t (T.int IntKind.u64 s1)], Ob.box [V.t T.nils, V.t T.nils], Ob.box [V.vec (3 : Nat) N (2 : Nat) (0 : Nat) N, V.vec (4 : Nat) (l.length + (1 : Nat)) (1 : Nat) (0 : Nat) (l.length + (1 : Nat))], Ob.vec true (2 : Nat) R, Ob.vec true (1 : Nat) ((ints l).append [[C.t (T.int IntKind.i64 (v - (1 : Int)))]])] (1 : Nat))) (show ((↑k : Int)) = ((↑(k + (1 : Nat)) : Int) - (1 : Int)) by simp)) (ih))
    exact .tp [t0, .m (rfl : true = true), .m (rfl : true = true), .m (rfl : true = true), .m (rfl : true = true), t5, .m (rfl : true = true), .a (e), .m (rfl : true = true), t9, .m (rfl : true = true), .m (rfl : true = true), .m (rfl : true = true), t13, t14, .c (rfl : (l.length + (1 : Nat)) = _), t16, .m (rfl : true = true), .m (rfl : true = true), .m (rfl : true = true), t20, t21] (by kernel_rfl)
end Go.Ev
