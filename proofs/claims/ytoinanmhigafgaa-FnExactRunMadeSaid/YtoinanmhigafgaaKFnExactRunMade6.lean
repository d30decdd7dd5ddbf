import Derived.Test.YtoinanmhigafgaaKFnExactRunMade5
/- Code that runs: the program's steps. -/
namespace Go.Ev
set_option linter.unusedVariables false
set_option linter.unusedSimpArgs false
open Go.Proofs
set_option maxRecDepth 100000
set_option linter.unusedVariables false
set_option maxHeartbeats 1000000
attribute [local simp] e0
def stkObs (lv : T) (lo st jk : List Int) (k : Int) : List Ob := [.box [.t lv, .vec 1 10 1 0 10, .vec 2 (st.length + jk.length) 1 0 st.length, i64 k], .vec true 1 (ints lo), .vec true 1 (ints (st.reverse ++ jk))]
theorem Clone_ev (l : List Int) (h : 0 < l.length) (h2 : l.length ≤ 1000000) : Ev pr (.call 65 [.t (.seq 1 (l.map intt))] []) (.val (.vec 0 l.length 1 0 l.length) [.vec true 1 (ints l)]) := by
  let t0 : Tp pr := .m (show (decide ((0 : Nat) < (List.map intt l).length)) = true by simp [*])
  let t2 : Tp pr := .m (show (decide ((0 : Nat) = (0 : Nat) ∧ (0 : Nat) ≤ (0 : Nat) ∧ (0 : Nat) + (List.map (fun x => List.map C.t x) (List.map intt l)).length ≤ (4294967296 : Nat))) = true by (simp; omega))
  by_cases hc3 : l = []
  · let t3 : Tp pr := .b (show (decide ((0 : Nat) + (List.map (fun x => List.map C.t x) (List.map intt l)).length ≤ (0 : Nat))) = true by simpa using hc3)
    let t4 : Tp pr := .c (show ((0 : Nat) + (List.map (fun x => List.map C.t x) (List.map intt l)).length : Nat) = l.length by simp)
    let t5 : Tp pr := .n .crows (show (([].append (List.map (fun x => List.map C.t x) (List.map intt l))).append (List.drop ((0 : Nat) + (List.map (fun x => List.map C.t x) (List.map intt l)).length) [])) = List.map ((fun x => List.map C.t x) ∘ intt) l by simp)
    exact .tpe [t0, .b (rfl : false = false), t2, t3, t4, t5] (Out.val (V.vec (0 : Nat) (0 : Nat) (1 : Nat) (0 : Nat) l.length) [Ob.vec true (1 : Nat) (List.map ((fun x => List.map C.t x) ∘ intt) l)]) (by kernel_rfl) ((congrArg (fun x => Out.val (V.vec (0 : Nat) x (1 : Nat) (0 : Nat) l.length) [Ob.vec true (1 : Nat) (List.map ((fun x => List.map C.t x) ∘ intt) l)]) (show ((0 : Nat)) = (l.length) by simp [*])).trans (congrArg (fun x => Out.val (V.vec (0 : Nat) l.length (1 : Nat) (0 : Nat) l.length) [Ob.vec true (1 : Nat) x]) (show (List.map ((fun x => List.map C.t x) ∘ intt) l) = (ints l) by rfl)))
  · let t3 : Tp pr := .b (show (decide ((0 : Nat) + (List.map (fun x => List.map C.t x) (List.map intt l)).length ≤ (0 : Nat))) = false by simpa using hc3)
    let t4 : Tp pr := .c (show ((0 : Nat) + (List.map (fun x => List.map C.t x) (List.map intt l)).length : Nat) = l.length by simp)
    let t5 : Tp pr := .n .crows (show ([].append (List.map (fun x => List.map C.t x) (List.map intt l))) = List.map ((fun x => List.map C.t x) ∘ intt) l by simp)
    exact .tp [t0, .b (rfl : false = false), t2, t3, t4, t5] (by kernel_rfl)
theorem pop_ev (lv : T) (lo st jk : List Int) (k a : Int) (hs : st.length ≤ 39) : Ev pr (.call 93 [.ptr 0 1 0 0] (stkObs lv lo (a :: st) jk k)) (.val (i64 a) (stkObs lv lo st (a :: jk) k)) := by
  let t0 : Tp pr := .i (show ((↑(a :: st).length : Int) : Int) = (↑st.length : Int) + (1 : Int) by simp)
  let t1 : Tp pr := .i (wrap_i64 (a := (↑st.length : Int) + (1 : Int) - (1 : Int)) (by omega) (by omega))
  let t2 : Tp pr := .m (show (decide ((0 : Int) ≤ (↑st.length : Int) + (1 : Int) - (1 : Int) ∧ ((↑st.length : Int) + (1 : Int) - (1 : Int)).toNat < (a :: st).length)) = true by simp)
  let t3 : Tp pr := .c (show ((0 : Nat) + ((↑st.length : Int) + (1 : Int) - (1 : Int)).toNat : Nat) = st.length by omega)
  let t4 : Tp pr := .m (show (decide ((ints ((a :: st).reverse ++ jk)).length = (a :: st).length + jk.length)) = true by (simp; omega))
  let t5 : Tp pr := .g .crow (show ((ints ((a :: st).reverse ++ jk))[st.length]?) = some (intc a) by simp)
  let t6 : Tp pr := .m (show (decide ((0 : Int) ≤ (0 : Int) ∧ (0 : Int) ≤ (↑st.length : Int) + (1 : Int) - (1 : Int) ∧ (0 : Nat) + ((↑st.length : Int) + (1 : Int) - (1 : Int)).toNat ≤ (a :: st).length + jk.length)) = true by (simp; omega))
  let t8 : Tp pr := .c (show (((↑st.length : Int) + (1 : Int) - (1 : Int)).toNat - (0 : Nat) : Nat) = st.length by omega)
  exact .tpe [t0, t1, t2, t3, t4, t5, t6, .c (rfl : ((0 : Nat)) = _), t8] (Out.val (V.t (T.int IntKind.i64 a)) [Ob.box [V.t lv, V.vec (1 : Nat) (10 : Nat) (1 : Nat) (0 : Nat) (10 : Nat), V.vec (2 : Nat) ((a :: st).length + jk.length) (1 : Nat) (0 : Nat) st.length, V.t (T.int IntKind.i64 k)], Ob.vec true (1 : Nat) (ints lo), Ob.vec true (1 : Nat) (ints ((a :: st).reverse ++ jk))]) (by kernel_rfl) ((congrArg (fun x => Out.val (V.t (T.int IntKind.i64 a)) [Ob.box [V.t lv, V.vec (1 : Nat) (10 : Nat) (1 : Nat) (0 : Nat) (10 : Nat), V.vec (2 : Nat) x (1 : Nat) (0 : Nat) st.length, V.t (T.int IntKind.i64 k)], Ob.vec true (1 : Nat) (ints lo), Ob.vec true (1 : Nat) (ints ((a :: st).reverse ++ jk))]) (show ((a :: st).length + jk.length) = (st.length + (a :: jk).length) by (simp; omega))).trans (congrArg (fun x => Out.val (V.t (T.int IntKind.i64 a)) [Ob.box [V.t lv, V.vec (1 : Nat) (10 : Nat) (1 : Nat) (0 : Nat) (10 : Nat), V.vec (2 : Nat) (st.length + (a :: jk).length) (1 : Nat) (0 : Nat) st.length, V.t (T.int IntKind.i64 k)], Ob.vec true (1 : Nat) (ints lo), Ob.vec true (1 : Nat) x]) (show (ints ((a :: st).reverse ++ jk)) = (ints (st.reverse ++ a :: jk)) by simp)))
theorem two1_ev (lv : T) (lo st jk : List Int) (k a b : Int) (s : ByteArray) (hs : (a :: b :: st).length ≤ 40) (ha : bd a) (hb : bd b) : Ev pr (.call 109 [.ptr 0 1 0 0, .t (.str s)] (stkObs lv lo (a :: b :: st) jk k))
    (.val (i64 (endOf (two2 s.toList b a).2)) (stkObs lv lo ((two2 s.toList b a).1 :: st) (a :: jk) k)) := by
  have h1 := pop_ev lv lo (b :: st) jk k a (by simp at hs ⊢; omega)
  have h2 := pop_ev lv lo st (a :: jk) k b (by simp at hs; omega)
  obtain ⟨ha1, ha2⟩ := ha
  obtain ⟨hb1, hb2⟩ := hb
  let t2 : Tp pr := .a (two_ev (s) (b) (a) (by assumption) (by assumption) (by assumption) (by assumption))
  let t4 : Tp pr := .m (show (decide ((ints (st.reverse ++ b :: a :: jk)).length = st.length + (b :: a :: jk).length ∧ (0 : Nat) + st.length ≤ st.length + (b :: a :: jk).length ∧ st.length + (1 : Nat) ≤ (4294967296 : Nat))) = true by (simp at *; omega))
  let t5 : Tp pr := .b (show (decide (st.length + (1 : Nat) ≤ st.length + (b :: a :: jk).length)) = true by simp)
  let t7 : Tp pr := .n .crows (show (((List.take st.length (ints (st.reverse ++ b :: a :: jk))).append (List.take (1 : Nat) (List.drop (0 : Nat) [[C.t (T.int IntKind.i64 (two2 s.toList b a).fst)]]))).append (List.drop (st.length + (1 : Nat)) (ints (st.reverse ++ b :: a :: jk)))) = ints st.reverse ++ [C.t (T.int IntKind.i64 (two2 s.toList b a).fst)] :: ints (a :: jk) by simp)
  exact .tpe [.a (h1), .a (h2), t2, .m (rfl : true = true), t4, t5, .c (rfl : (st.length + (1 : Nat)) = _), t7, .a (endOf_ev ((two2 s.toList b a).snd))] (Out.val (V.t (T.int IntKind.i64 (endOf (two2 s.toList b a).snd))) [Ob.box [V.t lv, V.vec (1 : Nat) (10 : Nat) (1 : Nat) (0 : Nat) (10 : Nat), V.vec (2 : Nat) (st.length + (b :: a :: jk).length) (1 : Nat) (0 : Nat) (st.length + (1 : Nat)), V.t (T.int IntKind.i64 k)], Ob.vec true (1 : Nat) (ints lo), Ob.vec true (1 : Nat) ((ints st.reverse).append ([C.t (T.int IntKind.i64 (two2 s.toList b a).fst)] :: ints (a :: jk)))]) (by kernel_rfl) (((congrArg (fun x => Out.val (V.t (T.int IntKind.i64 (endOf (two2 s.toList b a).snd))) [Ob.box [V.t lv, V.vec (1 : Nat) (10 : Nat) (1 : Nat) (0 : Nat) (10 : Nat), V.vec (2 : Nat) x (1 : Nat) (0 : Nat) (st.length + (1 : Nat)), V.t (T.int IntKind.i64 k)], Ob.vec true (1 : Nat) (ints lo), Ob.vec true (1 : Nat) ((ints st.reverse).append ([C.t (T.int IntKind.i64 (two2 s.toList b a).fst)] :: ints (a :: jk)))]) (show (st.length + (b :: a :: jk).length) = (((two2 s.toList b a).fst :: st).length + (a :: jk).length) by (simp; omega))).trans (congrArg (fun x => Out.val (V.t (T.int IntKind.i64 (endOf (two2 s.toList b a).snd))) [Ob.box [V.t lv, V.vec (1 : Nat) (10 : Nat) (1 : Nat) (0 : Nat) (10 : Nat), V.vec (2 : Nat) (((two2 s.toList b a).fst :: st).length + (a :: jk).length) (1 : Nat) (0 : Nat) x, V.t (T.int IntKind.i64 k)], Ob.vec true (1 : Nat) (ints lo), Ob.vec true (1 : Nat) ((ints st.reverse).append ([C.t (T.int IntKind.i64 (two2 s.toList b a).fst)] :: ints (a :: jk)))]) (show (st.length + (1 : Nat)) = (((two2 s.toList b a).fst :: st).length) by simp [ints_app, ints_cons, intc]))).trans (congrArg (fun x => Out.val (V.t (T.int IntKind.i64 (endOf (two2 s.toList b a).snd))) [Ob.box [V.t lv, V.vec (1 : Nat) (10 : Nat) (1 : Nat) (0 : Nat) (10 : Nat), V.vec (2 : Nat) (((two2 s.toList b a).fst :: st).length + (a :: jk).length) (1 : Nat) (0 : Nat) ((two2 s.toList b a).fst :: st).length, V.t (T.int IntKind.i64 k)], Ob.vec true (1 : Nat) (ints lo), Ob.vec true (1 : Nat) x]) (show ((ints st.reverse).append ([C.t (T.int IntKind.i64 (two2 s.toList b a).fst)] :: ints (a :: jk))) = (ints (((two2 s.toList b a).fst :: st).reverse ++ a :: jk)) by simp [ints_app, ints_cons, intc])))
theorem step_ev (l : List Bc) (lo st jk : List Int) (k : Int) (hg : goodCode l = true) (h : RunOk l lo st k) : Ev pr (.call 92 [.ptr 0 1 0 0] (stkObs (.seq 3 (l.map Bc.ce)) lo st jk k))
    (.val (i64 (stepI l lo st jk k).e) (stkObs (.seq 3 (l.map Bc.ce)) (stepI l lo st jk k).lo (stepI l lo st jk k).st (stepI l lo st jk k).jk (stepI l lo st jk k).at_)) := by
  have hl := goodCode_len hg
  obtain ⟨h1, h2, h3, h4, h5, h6⟩ := h
  obtain ⟨n, rfl⟩ : ∃ n : Nat, k = n := ⟨k.toNat, by omega⟩
  by_cases hk : (n : Int) = l.length
  · rw [show stepI l lo st jk n = ⟨5, lo, st, jk, n⟩ by simp [stepI, show l.length ≤ n by omega]]
    let t8 : Tp pr := .i (show ((↑(List.map Bc.ce l).length : Int) : Int) = (↑l.length : Int) by simp)
    let t11 : Tp pr := .b (show (decide ((↑n : Int) = (↑l.length : Int))) = true by (simp; omega))
    exact .tp [.m (rfl : true = true), .m (rfl : true = true), .m (rfl : true = true), .m (rfl : true = true), .m (rfl : true = true), .m (rfl : true = true), .m (rfl : true = true), .m (rfl : true = true), t8, .m (rfl : true = true), .m (rfl : true = true), t11] (by kernel_rfl)
  · have hlt : n < l.length := by omega
    obtain ⟨x, hx⟩ : ∃ x, l[n]? = some x := ⟨l[n], List.getElem?_eq_getElem hlt⟩
    have hgl : lkp (l.map Bc.ce) (n : Int) = some x.ce := by simp [lkp, hx]
    have hb := goodCode_mem hg (List.mem_of_getElem? hx)
    rw [show stepI l lo st jk n = stepX x lo st jk n by simp [stepI, hx]]
    have hmv := mv_bd x.op
    by_cases hc : (st.length : Int) < mvOff x.op ∨ st.length - mvOff x.op + mvOn x.op > 30
    · rw [show stepX x lo st jk n = ⟨5, lo, st, jk, n⟩ by unfold stepX; rw [if_pos hc]]
      let t8 : Tp pr := .i (show ((↑(List.map Bc.ce l).length : Int) : Int) = (↑l.length : Int) by simp)
      let t11 : Tp pr := .b (show (decide ((↑n : Int) = (↑l.length : Int))) = false by (simp; omega))
      let t20 : Tp pr := .g .row (show (lkp (List.map Bc.ce l) (↑n : Int)) = some (x.ce) from hgl)
      by_cases hc27 : (↑st.length : Int) < mvOff x.op
      · let t27 : Tp pr := .b (show (decide ((↑st.length : Int) < mvOff x.op)) = true by simpa using hc27)
        exact .tp [.m (rfl : true = true), .m (rfl : true = true), .m (rfl : true = true), .m (rfl : true = true), .m (rfl : true = true), .m (rfl : true = true), .m (rfl : true = true), .m (rfl : true = true), t8, .m (rfl : true = true), .m (rfl : true = true), t11, .m (rfl : true = true), .m (rfl : true = true), .m (rfl : true = true), .m (rfl : true = true), .m (rfl : true = true), .m (rfl : true = true), .m (rfl : true = true), .m (rfl : true = true), t20, .m (rfl : true = true), .m (rfl : true = true), .m (rfl : true = true), .m (rfl : true = true), .a (moves_ev (x)), .i (rfl : ((↑st.length : Int)) = _), t27, .b (rfl : true = true)] (by kernel_rfl)
      · let t27 : Tp pr := .b (show (decide ((↑st.length : Int) < mvOff x.op)) = false by simpa using hc27)
        let t29 : Tp pr := .i (wrap_i64 (a := (↑st.length : Int) - mvOff x.op) (by omega) (by omega))
        let t30 : Tp pr := .i (wrap_i64 (a := (↑st.length : Int) - mvOff x.op + mvOn x.op) (by omega) (by omega))
        let t31 : Tp pr := .b (show (decide ((↑st.length : Int) - mvOff x.op + mvOn x.op > (30 : Int))) = true by (simp; omega))
        exact .tp [.m (rfl : true = true), .m (rfl : true = true), .m (rfl : true = true), .m (rfl : true = true), .m (rfl : true = true), .m (rfl : true = true), .m (rfl : true = true), .m (rfl : true = true), t8, .m (rfl : true = true), .m (rfl : true = true), t11, .m (rfl : true = true), .m (rfl : true = true), .m (rfl : true = true), .m (rfl : true = true), .m (rfl : true = true), .m (rfl : true = true), .m (rfl : true = true), .m (rfl : true = true), t20, .m (rfl : true = true), .m (rfl : true = true), .m (rfl : true = true), .m (rfl : true = true), .a (moves_ev (x)), .i (rfl : ((↑st.length : Int)) = _), t27, .i (rfl : ((↑st.length : Int)) = _), t29, t30, t31] (by kernel_rfl)
    · have hop := bcOk_op hb
      obtain ⟨o, m, t⟩ := x
      dsimp only at hop hc hmv hgl
      clear hx hmv
      rcases hop with rfl | rfl | rfl | rfl | rfl | rfl | rfl | rfl | rfl
      · have hm := moves_ev ⟨1, m, t⟩
        have e1 : mvOff (1 : Int) = 0 := rfl
        have e2 : mvOn (1 : Int) = 1 := rfl
        simp only [e1, e2] at hm hc
        rw [show stepX ⟨1, m, t⟩ lo st jk n = ⟨0, lo, m :: st, jk.tail, n + 1⟩ by simp [stepX, e1, e2]; omega]
        cases jk with
        | nil => (
          let t8 : Tp pr := .i (show ((↑(List.map Bc.ce l).length : Int) : Int) = (↑l.length : Int) by simp)
          let t11 : Tp pr := .b (show (decide ((↑n : Int) = (↑l.length : Int))) = false by (simp; omega))
          let t20 : Tp pr := .g .row (show (lkp (List.map Bc.ce l) (↑n : Int)) = some ((Bc.mk (1 : Int) m t).ce) from hgl)
          let t29 : Tp pr := .i (wrap_i64 (a := (↑st.length : Int) - (0 : Int)) (by omega) (by omega))
          let t30 : Tp pr := .i (wrap_i64 (a := (↑st.length : Int) - (0 : Int) + (1 : Int)) (by omega) (by omega))
          let t31 : Tp pr := .b (show (decide ((↑st.length : Int) - (0 : Int) + (1 : Int) > (30 : Int))) = false by (simp; omega))
          let t32 : Tp pr := .i (wrap_i64 (a := (↑n : Int) + (1 : Int)) (by omega) (by omega))
          let t43 : Tp pr := .m (show (decide ((ints (st.reverse ++ [])).length = st.length + (0 : Nat) ∧ (0 : Nat) + st.length ≤ st.length + (0 : Nat) ∧ st.length + (1 : Nat) ≤ (4294967296 : Nat))) = true by (simp; omega))
          let t44 : Tp pr := .b (show (decide (st.length + (1 : Nat) ≤ st.length + (0 : Nat))) = false by simp)
          let t46 : Tp pr := .n .crows (show ((List.take st.length (ints (st.reverse ++ []))).append (List.take (1 : Nat) (List.drop (0 : Nat) [[C.t (T.int IntKind.i64 m)]]))) = ints st.reverse ++ [[C.t (T.int IntKind.i64 m)]] by simp)
          exact .tpe [.m (rfl : true = true), .m (rfl : true = true), .m (rfl : true = true), .m (rfl : true = true), .m (rfl : true = true), .m (rfl : true = true), .m (rfl : true = true), .m (rfl : true = true), t8, .m (rfl : true = true), .m (rfl : true = true), t11, .m (rfl : true = true), .m (rfl : true = true), .m (rfl : true = true), .m (rfl : true = true), .m (rfl : true = true), .m (rfl : true = true), .m (rfl : true = true), .m (rfl : true = true), t20, .m (rfl : true = true), .m (rfl : true = true), .m (rfl : true = true), .m (rfl : true = true), .a (hm), .i (rfl : ((↑st.length : Int)) = _), .b (rfl : false = false), .i (rfl : ((↑st.length : Int)) = _), t29, t30, t31, t32, .b (rfl : true = true), .m (rfl : true = true), .m (rfl : true = true), .m (rfl : true = true), .m (rfl : true = true), .m (rfl : true = true), .m (rfl : true = true), .m (rfl : true = true), .m (rfl : true = true), .m (rfl : true = true), t43, t44, .c (rfl : (st.length + (1 : Nat)) = _), t46, .m (rfl : true = true), .m (rfl : true = true), .m (rfl : true = true), .m (rfl : true = true)] (Out.val (V.t (T.int IntKind.i64 (0 : Int))) [Ob.box [V.t (T.seq (3 : Nat) (List.map Bc.ce l)), V.vec (1 : Nat) (10 : Nat) (1 : Nat) (0 : Nat) (10 : Nat), V.vec (2 : Nat) (st.length + (1 : Nat)) (1 : Nat) (0 : Nat) (st.length + (1 : Nat)), V.t (T.int IntKind.i64 ((↑n : Int) + (1 : Int)))], Ob.vec true (1 : Nat) (ints lo), Ob.vec true (1 : Nat) ((ints st.reverse).append [[C.t (T.int IntKind.i64 m)]])]) (by kernel_rfl) ((((congrArg (fun x => Out.val (V.t (T.int IntKind.i64 (0 : Int))) [Ob.box [V.t (T.seq (3 : Nat) (List.map Bc.ce l)), V.vec (1 : Nat) (10 : Nat) (1 : Nat) (0 : Nat) (10 : Nat), V.vec (2 : Nat) x (1 : Nat) (0 : Nat) (st.length + (1 : Nat)), V.t (T.int IntKind.i64 ((↑n : Int) + (1 : Int)))], Ob.vec true (1 : Nat) (ints lo), Ob.vec true (1 : Nat) ((ints st.reverse).append [[C.t (T.int IntKind.i64 m)]])]) (show (st.length + (1 : Nat)) = ((StepR.mk (0 : Int) lo (m :: st) [].tail ((↑n : Int) + (1 : Int))).st.length + (0 : Nat)) by simp [ints_app, ints_cons, intc])).trans (congrArg (fun x => Out.val (V.t (T.int IntKind.i64 (0 : Int))) [Ob.box [V.t (T.seq (3 : Nat) (List.map Bc.ce l)), V.vec (1 : Nat) (10 : Nat) (1 : Nat) (0 : Nat) (10 : Nat), V.vec (2 : Nat) ((StepR.mk (0 : Int) lo (m :: st) [].tail ((↑n : Int) + (1 : Int))).st.length + (0 : Nat)) (1 : Nat) (0 : Nat) x, V.t (T.int IntKind.i64 ((↑n : Int) + (1 : Int)))], Ob.vec true (1 : Nat) (ints lo), Ob.vec true (1 : Nat) ((ints st.reverse).append [[C.t (T.int IntKind.i64 m)]])]) (show (st.length + (1 : Nat)) = ((StepR.mk (0 : Int) lo (m :: st) [].tail ((↑n : Int) + (1 : Int))).st.length) by simp [ints_app, ints_cons, intc]))).trans (congrArg (fun x => Out.val (V.t (T.int IntKind.i64 (0 : Int))) [Ob.box [V.t (T.seq (3 : Nat) (List.map Bc.ce l)), V.vec (1 : Nat) (10 : Nat) (1 : Nat) (0 : Nat) (10 : Nat), V.vec (2 : Nat) ((StepR.mk (0 : Int) lo (m :: st) [].tail ((↑n : Int) + (1 : Int))).st.length + (0 : Nat)) (1 : Nat) (0 : Nat) (StepR.mk (0 : Int) lo (m :: st) [].tail ((↑n : Int) + (1 : Int))).st.length, V.t (T.int IntKind.i64 ((↑n : Int) + (1 : Int)))], Ob.vec true (1 : Nat) x, Ob.vec true (1 : Nat) ((ints st.reverse).append [[C.t (T.int IntKind.i64 m)]])]) (show (ints lo) = (ints (StepR.mk (0 : Int) lo (m :: st) [].tail ((↑n : Int) + (1 : Int))).lo) by simp [ints_app, ints_cons, intc]))).trans (congrArg (fun x => Out.val (V.t (T.int IntKind.i64 (0 : Int))) [Ob.box [V.t (T.seq (3 : Nat) (List.map Bc.ce l)), V.vec (1 : Nat) (10 : Nat) (1 : Nat) (0 : Nat) (10 : Nat), V.vec (2 : Nat) ((StepR.mk (0 : Int) lo (m :: st) [].tail ((↑n : Int) + (1 : Int))).st.length + (0 : Nat)) (1 : Nat) (0 : Nat) (StepR.mk (0 : Int) lo (m :: st) [].tail ((↑n : Int) + (1 : Int))).st.length, V.t (T.int IntKind.i64 ((↑n : Int) + (1 : Int)))], Ob.vec true (1 : Nat) (ints (StepR.mk (0 : Int) lo (m :: st) [].tail ((↑n : Int) + (1 : Int))).lo), Ob.vec true (1 : Nat) x]) (show ((ints st.reverse).append [[C.t (T.int IntKind.i64 m)]]) = (ints ((StepR.mk (0 : Int) lo (m :: st) [].tail ((↑n : Int) + (1 : Int))).st.reverse ++ (StepR.mk (0 : Int) lo (m :: st) [].tail ((↑n : Int) + (1 : Int))).jk)) by simp [ints_app, ints_cons, intc]))))
        | cons j jk => (
          let t8 : Tp pr := .i (show ((↑(List.map Bc.ce l).length : Int) : Int) = (↑l.length : Int) by simp)
          let t11 : Tp pr := .b (show (decide ((↑n : Int) = (↑l.length : Int))) = false by (simp; omega))
          let t20 : Tp pr := .g .row (show (lkp (List.map Bc.ce l) (↑n : Int)) = some ((Bc.mk (1 : Int) m t).ce) from hgl)
          let t29 : Tp pr := .i (wrap_i64 (a := (↑st.length : Int) - (0 : Int)) (by omega) (by omega))
          let t30 : Tp pr := .i (wrap_i64 (a := (↑st.length : Int) - (0 : Int) + (1 : Int)) (by omega) (by omega))
          let t31 : Tp pr := .b (show (decide ((↑st.length : Int) - (0 : Int) + (1 : Int) > (30 : Int))) = false by (simp; omega))
          let t32 : Tp pr := .i (wrap_i64 (a := (↑n : Int) + (1 : Int)) (by omega) (by omega))
          let t43 : Tp pr := .m (show (decide ((ints (st.reverse ++ j :: jk)).length = st.length + (j :: jk).length ∧ (0 : Nat) + st.length ≤ st.length + (j :: jk).length ∧ st.length + (1 : Nat) ≤ (4294967296 : Nat))) = true by (simp; omega))
          let t44 : Tp pr := .b (show (decide (st.length + (1 : Nat) ≤ st.length + (j :: jk).length)) = true by simp)
          let t46 : Tp pr := .n .crows (show (((List.take st.length (ints (st.reverse ++ j :: jk))).append (List.take (1 : Nat) (List.drop (0 : Nat) [[C.t (T.int IntKind.i64 m)]]))).append (List.drop (st.length + (1 : Nat)) (ints (st.reverse ++ j :: jk)))) = ints st.reverse ++ [C.t (T.int IntKind.i64 m)] :: ints jk by simp)
          exact .tpe [.m (rfl : true = true), .m (rfl : true = true), .m (rfl : true = true), .m (rfl : true = true), .m (rfl : true = true), .m (rfl : true = true), .m (rfl : true = true), .m (rfl : true = true), t8, .m (rfl : true = true), .m (rfl : true = true), t11, .m (rfl : true = true), .m (rfl : true = true), .m (rfl : true = true), .m (rfl : true = true), .m (rfl : true = true), .m (rfl : true = true), .m (rfl : true = true), .m (rfl : true = true), t20, .m (rfl : true = true), .m (rfl : true = true), .m (rfl : true = true), .m (rfl : true = true), .a (hm), .i (rfl : ((↑st.length : Int)) = _), .b (rfl : false = false), .i (rfl : ((↑st.length : Int)) = _), t29, t30, t31, t32, .b (rfl : true = true), .m (rfl : true = true), .m (rfl : true = true), .m (rfl : true = true), .m (rfl : true = true), .m (rfl : true = true), .m (rfl : true = true), .m (rfl : true = true), .m (rfl : true = true), .m (rfl : true = true), t43, t44, .c (rfl : (st.length + (1 : Nat)) = _), t46, .m (rfl : true = true), .m (rfl : true = true), .m (rfl : true = true), .m (rfl : true = true)] (Out.val (V.t (T.int IntKind.i64 (0 : Int))) [Ob.box [V.t (T.seq (3 : Nat) (List.map Bc.ce l)), V.vec (1 : Nat) (10 : Nat) (1 : Nat) (0 : Nat) (10 : Nat), V.vec (2 : Nat) (st.length + (j :: jk).length) (1 : Nat) (0 : Nat) (st.length + (1 : Nat)), V.t (T.int IntKind.i64 ((↑n : Int) + (1 : Int)))], Ob.vec true (1 : Nat) (ints lo), Ob.vec true (1 : Nat) ((ints st.reverse).append ([C.t (T.int IntKind.i64 m)] :: ints jk))]) (by kernel_rfl) ((((congrArg (fun x => Out.val (V.t (T.int IntKind.i64 (0 : Int))) [Ob.box [V.t (T.seq (3 : Nat) (List.map Bc.ce l)), V.vec (1 : Nat) (10 : Nat) (1 : Nat) (0 : Nat) (10 : Nat), V.vec (2 : Nat) x (1 : Nat) (0 : Nat) (st.length + (1 : Nat)), V.t (T.int IntKind.i64 ((↑n : Int) + (1 : Int)))], Ob.vec true (1 : Nat) (ints lo), Ob.vec true (1 : Nat) ((ints st.reverse).append ([C.t (T.int IntKind.i64 m)] :: ints jk))]) (show (st.length + (j :: jk).length) = ((StepR.mk (0 : Int) lo (m :: st) (j :: jk).tail ((↑n : Int) + (1 : Int))).st.length + (StepR.mk (0 : Int) lo (m :: st) (j :: jk).tail ((↑n : Int) + (1 : Int))).jk.length) by (simp; omega))).trans (congrArg (fun x => Out.val (V.t (T.int IntKind.i64 (0 : Int))) [Ob.box [V.t (T.seq (3 : Nat) (List.map Bc.ce l)), V.vec (1 : Nat) (10 : Nat) (1 : Nat) (0 : Nat) (10 : Nat), V.vec (2 : Nat) ((StepR.mk (0 : Int) lo (m :: st) (j :: jk).tail ((↑n : Int) + (1 : Int))).st.length + (StepR.mk (0 : Int) lo (m :: st) (j :: jk).tail ((↑n : Int) + (1 : Int))).jk.length) (1 : Nat) (0 : Nat) x, V.t (T.int IntKind.i64 ((↑n : Int) + (1 : Int)))], Ob.vec true (1 : Nat) (ints lo), Ob.vec true (1 : Nat) ((ints st.reverse).append ([C.t (T.int IntKind.i64 m)] :: ints jk))]) (show (st.length + (1 : Nat)) = ((StepR.mk (0 : Int) lo (m :: st) (j :: jk).tail ((↑n : Int) + (1 : Int))).st.length) by simp [ints_app, ints_cons, intc]))).trans (congrArg (fun x => Out.val (V.t (T.int IntKind.i64 (0 : Int))) [Ob.box [V.t (T.seq (3 : Nat) (List.map Bc.ce l)), V.vec (1 : Nat) (10 : Nat) (1 : Nat) (0 : Nat) (10 : Nat), V.vec (2 : Nat) ((StepR.mk (0 : Int) lo (m :: st) (j :: jk).tail ((↑n : Int) + (1 : Int))).st.length + (StepR.mk (0 : Int) lo (m :: st) (j :: jk).tail ((↑n : Int) + (1 : Int))).jk.length) (1 : Nat) (0 : Nat) (StepR.mk (0 : Int) lo (m :: st) (j :: jk).tail ((↑n : Int) + (1 : Int))).st.length, V.t (T.int IntKind.i64 ((↑n : Int) + (1 : Int)))], Ob.vec true (1 : Nat) x, Ob.vec true (1 : Nat) ((ints st.reverse).append ([C.t (T.int IntKind.i64 m)] :: ints jk))]) (show (ints lo) = (ints (StepR.mk (0 : Int) lo (m :: st) (j :: jk).tail ((↑n : Int) + (1 : Int))).lo) by simp [ints_app, ints_cons, intc]))).trans (congrArg (fun x => Out.val (V.t (T.int IntKind.i64 (0 : Int))) [Ob.box [V.t (T.seq (3 : Nat) (List.map Bc.ce l)), V.vec (1 : Nat) (10 : Nat) (1 : Nat) (0 : Nat) (10 : Nat), V.vec (2 : Nat) ((StepR.mk (0 : Int) lo (m :: st) (j :: jk).tail ((↑n : Int) + (1 : Int))).st.length + (StepR.mk (0 : Int) lo (m :: st) (j :: jk).tail ((↑n : Int) + (1 : Int))).jk.length) (1 : Nat) (0 : Nat) (StepR.mk (0 : Int) lo (m :: st) (j :: jk).tail ((↑n : Int) + (1 : Int))).st.length, V.t (T.int IntKind.i64 ((↑n : Int) + (1 : Int)))], Ob.vec true (1 : Nat) (ints (StepR.mk (0 : Int) lo (m :: st) (j :: jk).tail ((↑n : Int) + (1 : Int))).lo), Ob.vec true (1 : Nat) x]) (show ((ints st.reverse).append ([C.t (T.int IntKind.i64 m)] :: ints jk)) = (ints ((StepR.mk (0 : Int) lo (m :: st) (j :: jk).tail ((↑n : Int) + (1 : Int))).st.reverse ++ (StepR.mk (0 : Int) lo (m :: st) (j :: jk).tail ((↑n : Int) + (1 : Int))).jk)) by simp [ints_app, ints_cons, intc]))))
      · have hm := moves_ev ⟨2, m, t⟩
        have e1 : mvOff (2 : Int) = 0 := rfl
        have e2 : mvOn (2 : Int) = 1 := rfl
        simp only [e1, e2] at hm hc
        have hmb : 0 ≤ m ∧ m ≤ 9 := by simp [bcOk] at hb; omega
        have gl := ints_get (l := lo) (k := m.toNat) (by omega)
        rw [show stepX ⟨2, m, t⟩ lo st jk n = ⟨0, lo, lo.getD m.toNat 0 :: st, jk.tail, n + 1⟩ by simp [stepX, e1, e2]; omega]
        generalize lo.getD m.toNat 0 = v at *
        cases jk with
        | nil => (
          let t8 : Tp pr := .i (show ((↑(List.map Bc.ce l).length : Int) : Int) = (↑l.length : Int) by simp)
          let t11 : Tp pr := .b (show (decide ((↑n : Int) = (↑l.length : Int))) = false by (simp; omega))
          let t20 : Tp pr := .g .row (show (lkp (List.map Bc.ce l) (↑n : Int)) = some ((Bc.mk (2 : Int) m t).ce) from hgl)
          let t29 : Tp pr := .i (wrap_i64 (a := (↑st.length : Int) - (0 : Int)) (by omega) (by omega))
          let t30 : Tp pr := .i (wrap_i64 (a := (↑st.length : Int) - (0 : Int) + (1 : Int)) (by omega) (by omega))
          let t31 : Tp pr := .b (show (decide ((↑st.length : Int) - (0 : Int) + (1 : Int) > (30 : Int))) = false by (simp; omega))
          let t32 : Tp pr := .i (wrap_i64 (a := (↑n : Int) + (1 : Int)) (by omega) (by omega))
          let t46 : Tp pr := .m (show (decide ((0 : Int) ≤ m ∧ m.toNat < (10 : Nat))) = true by (simp; omega))
          let t47 : Tp pr := .c (show ((0 : Nat) + m.toNat : Nat) = m.toNat by omega)
          let t49 : Tp pr := .m (show (decide ((ints lo).length = (10 : Nat))) = true by simp [*])
          let t50 : Tp pr := .g .crow (show ((ints lo)[m.toNat]?) = some (intc v) from gl)
          let t54 : Tp pr := .m (show (decide ((ints (st.reverse ++ [])).length = st.length + (0 : Nat) ∧ (0 : Nat) + st.length ≤ st.length + (0 : Nat) ∧ st.length + (1 : Nat) ≤ (4294967296 : Nat))) = true by (simp; omega))
          let t55 : Tp pr := .b (show (decide (st.length + (1 : Nat) ≤ st.length + (0 : Nat))) = false by simp)
          let t57 : Tp pr := .n .crows (show ((List.take st.length (ints (st.reverse ++ []))).append (List.take (1 : Nat) (List.drop (0 : Nat) [[C.t (T.int IntKind.i64 v)]]))) = ints st.reverse ++ [[C.t (T.int IntKind.i64 v)]] by simp)
          exact .tpe [.m (rfl : true = true), .m (rfl : true = true), .m (rfl : true = true), .m (rfl : true = true), .m (rfl : true = true), .m (rfl : true = true), .m (rfl : true = true), .m (rfl : true = true), t8, .m (rfl : true = true), .m (rfl : true = true), t11, .m (rfl : true = true), .m (rfl : true = true), .m (rfl : true = true), .m (rfl : true = true), .m (rfl : true = true), .m (rfl : true = true), .m (rfl : true = true), .m (rfl : true = true), t20, .m (rfl : true = true), .m (rfl : true = true), .m (rfl : true = true), .m (rfl : true = true), .a (hm), .i (rfl : ((↑st.length : Int)) = _), .b (rfl : false = false), .i (rfl : ((↑st.length : Int)) = _), t29, t30, t31, t32, .b (rfl : false = false), .b (rfl : true = true), .m (rfl : true = true), .m (rfl : true = true), .m (rfl : true = true), .m (rfl : true = true), .m (rfl : true = true), .m (rfl : true = true), .m (rfl : true = true), .m (rfl : true = true), .m (rfl : true = true), .m (rfl : true = true), .m (rfl : true = true), t46, t47, .m (rfl : true = true), t49, t50, .m (rfl : true = true), .m (rfl : true = true), .m (rfl : true = true), t54, t55, .c (rfl : (st.length + (1 : Nat)) = _), t57, .m (rfl : true = true), .m (rfl : true = true), .m (rfl : true = true), .m (rfl : true = true)] (Out.val (V.t (T.int IntKind.i64 (0 : Int))) [Ob.box [V.t (T.seq (3 : Nat) (List.map Bc.ce l)), V.vec (1 : Nat) (10 : Nat) (1 : Nat) (0 : Nat) (10 : Nat), V.vec (2 : Nat) (st.length + (1 : Nat)) (1 : Nat) (0 : Nat) (st.length + (1 : Nat)), V.t (T.int IntKind.i64 ((↑n : Int) + (1 : Int)))], Ob.vec true (1 : Nat) (ints lo), Ob.vec true (1 : Nat) ((ints st.reverse).append [[C.t (T.int IntKind.i64 v)]])]) (by kernel_rfl) ((((congrArg (fun x => Out.val (V.t (T.int IntKind.i64 (0 : Int))) [Ob.box [V.t (T.seq (3 : Nat) (List.map Bc.ce l)), V.vec (1 : Nat) (10 : Nat) (1 : Nat) (0 : Nat) (10 : Nat), V.vec (2 : Nat) x (1 : Nat) (0 : Nat) (st.length + (1 : Nat)), V.t (T.int IntKind.i64 ((↑n : Int) + (1 : Int)))], Ob.vec true (1 : Nat) (ints lo), Ob.vec true (1 : Nat) ((ints st.reverse).append [[C.t (T.int IntKind.i64 v)]])]) (show (st.length + (1 : Nat)) = ((StepR.mk (0 : Int) lo (v :: st) [].tail ((↑n : Int) + (1 : Int))).st.length + (0 : Nat)) by simp [ints_app, ints_cons, intc])).trans (congrArg (fun x => Out.val (V.t (T.int IntKind.i64 (0 : Int))) [Ob.box [V.t (T.seq (3 : Nat) (List.map Bc.ce l)), V.vec (1 : Nat) (10 : Nat) (1 : Nat) (0 : Nat) (10 : Nat), V.vec (2 : Nat) ((StepR.mk (0 : Int) lo (v :: st) [].tail ((↑n : Int) + (1 : Int))).st.length + (0 : Nat)) (1 : Nat) (0 : Nat) x, V.t (T.int IntKind.i64 ((↑n : Int) + (1 : Int)))], Ob.vec true (1 : Nat) (ints lo), Ob.vec true (1 : Nat) ((ints st.reverse).append [[C.t (T.int IntKind.i64 v)]])]) (show (st.length + (1 : Nat)) = ((StepR.mk (0 : Int) lo (v :: st) [].tail ((↑n : Int) + (1 : Int))).st.length) by simp [ints_app, ints_cons, intc]))).trans (congrArg (fun x => Out.val (V.t (T.int IntKind.i64 (0 : Int))) [Ob.box [V.t (T.seq (3 : Nat) (List.map Bc.ce l)), V.vec (1 : Nat) (10 : Nat) (1 : Nat) (0 : Nat) (10 : Nat), V.vec (2 : Nat) ((StepR.mk (0 : Int) lo (v :: st) [].tail ((↑n : Int) + (1 : Int))).st.length + (0 : Nat)) (1 : Nat) (0 : Nat) (StepR.mk (0 : Int) lo (v :: st) [].tail ((↑n : Int) + (1 : Int))).st.length, V.t (T.int IntKind.i64 ((↑n : Int) + (1 : Int)))], Ob.vec true (1 : Nat) x, Ob.vec true (1 : Nat) ((ints st.reverse).append [[C.t (T.int IntKind.i64 v)]])]) (show (ints lo) = (ints (StepR.mk (0 : Int) lo (v :: st) [].tail ((↑n : Int) + (1 : Int))).lo) by simp [ints_app, ints_cons, intc]))).trans (congrArg (fun x => Out.val (V.t (T.int IntKind.i64 (0 : Int))) [Ob.box [V.t (T.seq (3 : Nat) (List.map Bc.ce l)), V.vec (1 : Nat) (10 : Nat) (1 : Nat) (0 : Nat) (10 : Nat), V.vec (2 : Nat) ((StepR.mk (0 : Int) lo (v :: st) [].tail ((↑n : Int) + (1 : Int))).st.length + (0 : Nat)) (1 : Nat) (0 : Nat) (StepR.mk (0 : Int) lo (v :: st) [].tail ((↑n : Int) + (1 : Int))).st.length, V.t (T.int IntKind.i64 ((↑n : Int) + (1 : Int)))], Ob.vec true (1 : Nat) (ints (StepR.mk (0 : Int) lo (v :: st) [].tail ((↑n : Int) + (1 : Int))).lo), Ob.vec true (1 : Nat) x]) (show ((ints st.reverse).append [[C.t (T.int IntKind.i64 v)]]) = (ints ((StepR.mk (0 : Int) lo (v :: st) [].tail ((↑n : Int) + (1 : Int))).st.reverse ++ (StepR.mk (0 : Int) lo (v :: st) [].tail ((↑n : Int) + (1 : Int))).jk)) by simp [ints_app, ints_cons, intc]))))
        | cons j jk => (
          let t8 : Tp pr := .i (show ((↑(List.map Bc.ce l).length : Int) : Int) = (↑l.length : Int) by simp)
          let t11 : Tp pr := .b (show (decide ((↑n : Int) = (↑l.length : Int))) = false by (simp; omega))
          let t20 : Tp pr := .g .row (show (lkp (List.map Bc.ce l) (↑n : Int)) = some ((Bc.mk (2 : Int) m t).ce) from hgl)
          let t29 : Tp pr := .i (wrap_i64 (a := (↑st.length : Int) - (0 : Int)) (by omega) (by omega))
          let t30 : Tp pr := .i (wrap_i64 (a := (↑st.length : Int) - (0 : Int) + (1 : Int)) (by omega) (by omega))
          let t31 : Tp pr := .b (show (decide ((↑st.length : Int) - (0 : Int) + (1 : Int) > (30 : Int))) = false by (simp; omega))
          let t32 : Tp pr := .i (wrap_i64 (a := (↑n : Int) + (1 : Int)) (by omega) (by omega))
          let t46 : Tp pr := .m (show (decide ((0 : Int) ≤ m ∧ m.toNat < (10 : Nat))) = true by (simp; omega))
          let t47 : Tp pr := .c (show ((0 : Nat) + m.toNat : Nat) = m.toNat by omega)
          let t49 : Tp pr := .m (show (decide ((ints lo).length = (10 : Nat))) = true by simp [*])
          let t50 : Tp pr := .g .crow (show ((ints lo)[m.toNat]?) = some (intc v) from gl)
          let t54 : Tp pr := .m (show (decide ((ints (st.reverse ++ j :: jk)).length = st.length + (j :: jk).length ∧ (0 : Nat) + st.length ≤ st.length + (j :: jk).length ∧ st.length + (1 : Nat) ≤ (4294967296 : Nat))) = true by (simp; omega))
          let t55 : Tp pr := .b (show (decide (st.length + (1 : Nat) ≤ st.length + (j :: jk).length)) = true by simp)
          let t57 : Tp pr := .n .crows (show (((List.take st.length (ints (st.reverse ++ j :: jk))).append (List.take (1 : Nat) (List.drop (0 : Nat) [[C.t (T.int IntKind.i64 v)]]))).append (List.drop (st.length + (1 : Nat)) (ints (st.reverse ++ j :: jk)))) = ints st.reverse ++ [C.t (T.int IntKind.i64 v)] :: ints jk by simp)
          exact .tpe [.m (rfl : true = true), .m (rfl : true = true), .m (rfl : true = true), .m (rfl : true = true), .m (rfl : true = true), .m (rfl : true = true), .m (rfl : true = true), .m (rfl : true = true), t8, .m (rfl : true = true), .m (rfl : true = true), t11, .m (rfl : true = true), .m (rfl : true = true), .m (rfl : true = true), .m (rfl : true = true), .m (rfl : true = true), .m (rfl : true = true), .m (rfl : true = true), .m (rfl : true = true), t20, .m (rfl : true = true), .m (rfl : true = true), .m (rfl : true = true), .m (rfl : true = true), .a (hm), .i (rfl : ((↑st.length : Int)) = _), .b (rfl : false = false), .i (rfl : ((↑st.length : Int)) = _), t29, t30, t31, t32, .b (rfl : false = false), .b (rfl : true = true), .m (rfl : true = true), .m (rfl : true = true), .m (rfl : true = true), .m (rfl : true = true), .m (rfl : true = true), .m (rfl : true = true), .m (rfl : true = true), .m (rfl : true = true), .m (rfl : true = true), .m (rfl : true = true), .m (rfl : true = true), t46, t47, .m (rfl : true = true), t49, t50, .m (rfl : true = true), .m (rfl : true = true), .m (rfl : true = true), t54, t55, .c (rfl : (st.length + (1 : Nat)) = _), t57, .m (rfl : true = true), .m (rfl : true = true), .m (rfl : true = true), .m (rfl : true = true)] (Out.val (V.t (T.int IntKind.i64 (0 : Int))) [Ob.box [V.t (T.seq (3 : Nat) (List.map Bc.ce l)), V.vec (1 : Nat) (10 : Nat) (1 : Nat) (0 : Nat) (10 : Nat), V.vec (2 : Nat) (st.length + (j :: jk).length) (1 : Nat) (0 : Nat) (st.length + (1 : Nat)), V.t (T.int IntKind.i64 ((↑n : Int) + (1 : Int)))], Ob.vec true (1 : Nat) (ints lo), Ob.vec true (1 : Nat) ((ints st.reverse).append ([C.t (T.int IntKind.i64 v)] :: ints jk))]) (by kernel_rfl) ((((congrArg (fun x => Out.val (V.t (T.int IntKind.i64 (0 : Int))) [Ob.box [V.t (T.seq (3 : Nat) (List.map Bc.ce l)), V.vec (1 : Nat) (10 : Nat) (1 : Nat) (0 : Nat) (10 : Nat), V.vec (2 : Nat) x (1 : Nat) (0 : Nat) (st.length + (1 : Nat)), V.t (T.int IntKind.i64 ((↑n : Int) + (1 : Int)))], Ob.vec true (1 : Nat) (ints lo), Ob.vec true (1 : Nat) ((ints st.reverse).append ([C.t (T.int IntKind.i64 v)] :: ints jk))]) (show (st.length + (j :: jk).length) = ((StepR.mk (0 : Int) lo (v :: st) (j :: jk).tail ((↑n : Int) + (1 : Int))).st.length + (StepR.mk (0 : Int) lo (v :: st) (j :: jk).tail ((↑n : Int) + (1 : Int))).jk.length) by (simp; omega))).trans (congrArg (fun x => Out.val (V.t (T.int IntKind.i64 (0 : Int))) [Ob.box [V.t (T.seq (3 : Nat) (List.map Bc.ce l)), V.vec (1 : Nat) (10 : Nat) (1 : Nat) (0 : Nat) (10 : Nat), V.vec (2 : Nat) ((StepR.mk (0 : Int) lo (v :: st) (j :: jk).tail ((↑n : Int) + (1 : Int))).st.length + (StepR.mk (0 : Int) lo (v :: st) (j :: jk).tail ((↑n : Int) + (1 : Int))).jk.length) (1 : Nat) (0 : Nat) x, V.t (T.int IntKind.i64 ((↑n : Int) + (1 : Int)))], Ob.vec true (1 : Nat) (ints lo), Ob.vec true (1 : Nat) ((ints st.reverse).append ([C.t (T.int IntKind.i64 v)] :: ints jk))]) (show (st.length + (1 : Nat)) = ((StepR.mk (0 : Int) lo (v :: st) (j :: jk).tail ((↑n : Int) + (1 : Int))).st.length) by simp [ints_app, ints_cons, intc]))).trans (congrArg (fun x => Out.val (V.t (T.int IntKind.i64 (0 : Int))) [Ob.box [V.t (T.seq (3 : Nat) (List.map Bc.ce l)), V.vec (1 : Nat) (10 : Nat) (1 : Nat) (0 : Nat) (10 : Nat), V.vec (2 : Nat) ((StepR.mk (0 : Int) lo (v :: st) (j :: jk).tail ((↑n : Int) + (1 : Int))).st.length + (StepR.mk (0 : Int) lo (v :: st) (j :: jk).tail ((↑n : Int) + (1 : Int))).jk.length) (1 : Nat) (0 : Nat) (StepR.mk (0 : Int) lo (v :: st) (j :: jk).tail ((↑n : Int) + (1 : Int))).st.length, V.t (T.int IntKind.i64 ((↑n : Int) + (1 : Int)))], Ob.vec true (1 : Nat) x, Ob.vec true (1 : Nat) ((ints st.reverse).append ([C.t (T.int IntKind.i64 v)] :: ints jk))]) (show (ints lo) = (ints (StepR.mk (0 : Int) lo (v :: st) (j :: jk).tail ((↑n : Int) + (1 : Int))).lo) by simp [ints_app, ints_cons, intc]))).trans (congrArg (fun x => Out.val (V.t (T.int IntKind.i64 (0 : Int))) [Ob.box [V.t (T.seq (3 : Nat) (List.map Bc.ce l)), V.vec (1 : Nat) (10 : Nat) (1 : Nat) (0 : Nat) (10 : Nat), V.vec (2 : Nat) ((StepR.mk (0 : Int) lo (v :: st) (j :: jk).tail ((↑n : Int) + (1 : Int))).st.length + (StepR.mk (0 : Int) lo (v :: st) (j :: jk).tail ((↑n : Int) + (1 : Int))).jk.length) (1 : Nat) (0 : Nat) (StepR.mk (0 : Int) lo (v :: st) (j :: jk).tail ((↑n : Int) + (1 : Int))).st.length, V.t (T.int IntKind.i64 ((↑n : Int) + (1 : Int)))], Ob.vec true (1 : Nat) (ints (StepR.mk (0 : Int) lo (v :: st) (j :: jk).tail ((↑n : Int) + (1 : Int))).lo), Ob.vec true (1 : Nat) x]) (show ((ints st.reverse).append ([C.t (T.int IntKind.i64 v)] :: ints jk)) = (ints ((StepR.mk (0 : Int) lo (v :: st) (j :: jk).tail ((↑n : Int) + (1 : Int))).st.reverse ++ (StepR.mk (0 : Int) lo (v :: st) (j :: jk).tail ((↑n : Int) + (1 : Int))).jk)) by simp [ints_app, ints_cons, intc]))))
      · have hm := moves_ev ⟨3, m, t⟩
        have e1 : mvOff (3 : Int) = 1 := rfl
        have e2 : mvOn (3 : Int) = 0 := rfl
        simp only [e1, e2] at hm hc
        have hmb : 0 ≤ m ∧ m ≤ 9 := by simp [bcOk] at hb; omega
        have gl := ints_get (l := lo) (k := m.toNat) (by omega)
        cases st with
        | nil => simp at hc
        | cons a r =>
          simp only [List.length_cons] at h3 hc
          have ha := h4 a (by simp)
          rw [show stepX ⟨3, m, t⟩ lo (a :: r) jk n = ⟨0, lo.set m.toNat a, r, a :: jk, n + 1⟩ by simp [stepX, e1, e2]; omega]
          have hp := pop_ev (.seq 3 (l.map Bc.ce)) lo r jk (n + 1) a (by omega)
          let t8 : Tp pr := .i (show ((↑(List.map Bc.ce l).length : Int) : Int) = (↑l.length : Int) by simp)
          let t11 : Tp pr := .b (show (decide ((↑n : Int) = (↑l.length : Int))) = false by (simp; omega))
          let t20 : Tp pr := .g .row (show (lkp (List.map Bc.ce l) (↑n : Int)) = some ((Bc.mk (3 : Int) m t).ce) from hgl)
          let t26 : Tp pr := .i (show ((↑(a :: r).length : Int) : Int) = (↑r.length : Int) + (1 : Int) by simp)
          let t28 : Tp pr := .i (show ((↑(a :: r).length : Int) : Int) = (↑r.length : Int) + (1 : Int) by simp)
          let t29 : Tp pr := .i (wrap_i64 (a := (↑r.length : Int) + (1 : Int) - (1 : Int)) (by omega) (by omega))
          let t30 : Tp pr := .i (wrap_i64 (a := (↑r.length : Int) + (1 : Int) - (1 : Int) + (0 : Int)) (by omega) (by omega))
          let t31 : Tp pr := .b (show (decide ((↑r.length : Int) + (1 : Int) - (1 : Int) + (0 : Int) > (30 : Int))) = false by (simp; omega))
          let t32 : Tp pr := .i (wrap_i64 (a := (↑n : Int) + (1 : Int)) (by omega) (by omega))
          let t45 : Tp pr := .m (show (decide ((0 : Int) ≤ m ∧ m.toNat < (10 : Nat))) = true by (simp; omega))
          let t46 : Tp pr := .c (show ((0 : Nat) + m.toNat : Nat) = m.toNat by omega)
          let t48 : Tp pr := .m (show (decide ((ints lo).length = (10 : Nat))) = true by simp [*])
          let t49 : Tp pr := .g .crow (show ((ints lo)[m.toNat]?) = some (intc (lo.getD m.toNat (0 : Int))) from gl)
          let t50 : Tp pr := .n .crows (show ((ints lo).set m.toNat [C.t (T.int IntKind.i64 a)]) = ints (lo.set m.toNat a) by simp)
          exact .tp [.m (rfl : true = true), .m (rfl : true = true), .m (rfl : true = true), .m (rfl : true = true), .m (rfl : true = true), .m (rfl : true = true), .m (rfl : true = true), .m (rfl : true = true), t8, .m (rfl : true = true), .m (rfl : true = true), t11, .m (rfl : true = true), .m (rfl : true = true), .m (rfl : true = true), .m (rfl : true = true), .m (rfl : true = true), .m (rfl : true = true), .m (rfl : true = true), .m (rfl : true = true), t20, .m (rfl : true = true), .m (rfl : true = true), .m (rfl : true = true), .m (rfl : true = true), .a (hm), t26, .b (rfl : false = false), t28, t29, t30, t31, t32, .b (rfl : false = false), .b (rfl : false = false), .b (rfl : true = true), .m (rfl : true = true), .m (rfl : true = true), .m (rfl : true = true), .m (rfl : true = true), .m (rfl : true = true), .m (rfl : true = true), .m (rfl : true = true), .a (hp), .m (rfl : true = true), t45, t46, .m (rfl : true = true), t48, t49, t50, .m (rfl : true = true)] (by kernel_rfl)
      · have hm := moves_ev ⟨4, m, t⟩
        have e1 : mvOff (4 : Int) = 2 := rfl
        have e2 : mvOn (4 : Int) = 1 := rfl
        simp only [e1, e2] at hm hc
        cases st with
        | nil => simp at hc
        | cons a r =>
         cases r with
         | nil => simp at hc
         | cons b q =>
          simp only [List.length_cons] at h3 hc
          have ha := h4 a (by simp)
          have hb2 := h4 b (by simp)
          rw [show stepX ⟨4, m, t⟩ lo (a :: b :: q) jk n = ⟨endOf (two2 t.toList b a).2, lo, (two2 t.toList b a).1 :: q, a :: jk, n + 1⟩ by simp [stepX, e1, e2]; omega]
          have hp := two1_ev (.seq 3 (l.map Bc.ce)) lo q jk (n + 1) a b t (by simp; omega) ha hb2
          let t8 : Tp pr := .i (show ((↑(List.map Bc.ce l).length : Int) : Int) = (↑l.length : Int) by simp)
          let t11 : Tp pr := .b (show (decide ((↑n : Int) = (↑l.length : Int))) = false by (simp; omega))
          let t20 : Tp pr := .g .row (show (lkp (List.map Bc.ce l) (↑n : Int)) = some ((Bc.mk (4 : Int) m t).ce) from hgl)
          let t26 : Tp pr := .i (show ((↑(a :: b :: q).length : Int) : Int) = (↑q.length : Int) + (1 : Int) + (1 : Int) by simp)
          let t28 : Tp pr := .i (show ((↑(a :: b :: q).length : Int) : Int) = (↑q.length : Int) + (1 : Int) + (1 : Int) by simp)
          let t29 : Tp pr := .i (wrap_i64 (a := (↑q.length : Int) + (1 : Int) + (1 : Int) - (2 : Int)) (by omega) (by omega))
          let t30 : Tp pr := .i (wrap_i64 (a := (↑q.length : Int) + (1 : Int) + (1 : Int) - (2 : Int) + (1 : Int)) (by omega) (by omega))
          let t31 : Tp pr := .b (show (decide ((↑q.length : Int) + (1 : Int) + (1 : Int) - (2 : Int) + (1 : Int) > (30 : Int))) = false by (simp; omega))
          let t32 : Tp pr := .i (wrap_i64 (a := (↑n : Int) + (1 : Int)) (by omega) (by omega))
          exact .tp [.m (rfl : true = true), .m (rfl : true = true), .m (rfl : true = true), .m (rfl : true = true), .m (rfl : true = true), .m (rfl : true = true), .m (rfl : true = true), .m (rfl : true = true), t8, .m (rfl : true = true), .m (rfl : true = true), t11, .m (rfl : true = true), .m (rfl : true = true), .m (rfl : true = true), .m (rfl : true = true), .m (rfl : true = true), .m (rfl : true = true), .m (rfl : true = true), .m (rfl : true = true), t20, .m (rfl : true = true), .m (rfl : true = true), .m (rfl : true = true), .m (rfl : true = true), .a (hm), t26, .b (rfl : false = false), t28, t29, t30, t31, t32, .b (rfl : false = false), .b (rfl : false = false), .b (rfl : false = false), .b (rfl : true = true), .a (hp)] (by kernel_rfl)
      · have hm := moves_ev ⟨5, m, t⟩
        have e1 : mvOff (5 : Int) = 1 := rfl
        have e2 : mvOn (5 : Int) = 1 := rfl
        simp only [e1, e2] at hm hc
        cases st with
        | nil => simp at hc
        | cons a r =>
          simp only [List.length_cons] at h3 hc
          have ha := h4 a (by simp)
          rw [show stepX ⟨5, m, t⟩ lo (a :: r) jk n = ⟨0, lo, one1 t a :: r, jk, n + 1⟩ by simp [stepX, e1, e2]; omega]
          have hp := pop_ev (.seq 3 (l.map Bc.ce)) lo r jk (n + 1) a (by omega)
          obtain ⟨ha1, ha2⟩ := ha
          have hneg : Int.neg a = -a := rfl
          unfold one1
          by_cases ht : t.toList = [45]
          · rw [if_pos ht]
            let t8 : Tp pr := .i (show ((↑(List.map Bc.ce l).length : Int) : Int) = (↑l.length : Int) by simp)
            let t11 : Tp pr := .b (show (decide ((↑n : Int) = (↑l.length : Int))) = false by (simp; omega))
            let t20 : Tp pr := .g .row (show (lkp (List.map Bc.ce l) (↑n : Int)) = some ((Bc.mk (5 : Int) m t).ce) from hgl)
            let t26 : Tp pr := .i (show ((↑(a :: r).length : Int) : Int) = (↑r.length : Int) + (1 : Int) by simp)
            let t28 : Tp pr := .i (show ((↑(a :: r).length : Int) : Int) = (↑r.length : Int) + (1 : Int) by simp)
            let t29 : Tp pr := .i (wrap_i64 (a := (↑r.length : Int) + (1 : Int) - (1 : Int)) (by omega) (by omega))
            let t30 : Tp pr := .i (wrap_i64 (a := (↑r.length : Int) + (1 : Int) - (1 : Int) + (1 : Int)) (by omega) (by omega))
            let t31 : Tp pr := .b (show (decide ((↑r.length : Int) + (1 : Int) - (1 : Int) + (1 : Int) > (30 : Int))) = false by (simp; omega))
            let t32 : Tp pr := .i (wrap_i64 (a := (↑n : Int) + (1 : Int)) (by omega) (by omega))
            let t39 : Tp pr := .b (show (t.toList == [(45 : UInt8)]) = true by (simp; omega))
            let t40 : Tp pr := .i (wrap_i64 (a := (0 : Int) - a) (by omega) (by omega))
            let t42 : Tp pr := .m (show (decide ((ints (r.reverse ++ a :: jk)).length = r.length + (a :: jk).length ∧ (0 : Nat) + r.length ≤ r.length + (a :: jk).length ∧ r.length + (1 : Nat) ≤ (4294967296 : Nat))) = true by (simp; omega))
            let t43 : Tp pr := .b (show (decide (r.length + (1 : Nat) ≤ r.length + (a :: jk).length)) = true by simp)
            let t45 : Tp pr := .n .crows (show (((List.take r.length (ints (r.reverse ++ a :: jk))).append (List.take (1 : Nat) (List.drop (0 : Nat) [[C.t (T.int IntKind.i64 ((0 : Int) - a))]]))).append (List.drop (r.length + (1 : Nat)) (ints (r.reverse ++ a :: jk)))) = ints r.reverse ++ [C.t (T.int IntKind.i64 (-a))] :: ints jk by simp)
            exact .tpe [.m (rfl : true = true), .m (rfl : true = true), .m (rfl : true = true), .m (rfl : true = true), .m (rfl : true = true), .m (rfl : true = true), .m (rfl : true = true), .m (rfl : true = true), t8, .m (rfl : true = true), .m (rfl : true = true), t11, .m (rfl : true = true), .m (rfl : true = true), .m (rfl : true = true), .m (rfl : true = true), .m (rfl : true = true), .m (rfl : true = true), .m (rfl : true = true), .m (rfl : true = true), t20, .m (rfl : true = true), .m (rfl : true = true), .m (rfl : true = true), .m (rfl : true = true), .a (hm), t26, .b (rfl : false = false), t28, t29, t30, t31, t32, .b (rfl : false = false), .b (rfl : false = false), .b (rfl : false = false), .b (rfl : false = false), .b (rfl : true = true), .a (hp), t39, t40, .m (rfl : true = true), t42, t43, .c (rfl : (r.length + (1 : Nat)) = _), t45] (Out.val (V.t (T.int IntKind.i64 (0 : Int))) [Ob.box [V.t (T.seq (3 : Nat) (List.map Bc.ce l)), V.vec (1 : Nat) (10 : Nat) (1 : Nat) (0 : Nat) (10 : Nat), V.vec (2 : Nat) (r.length + (a :: jk).length) (1 : Nat) (0 : Nat) (r.length + (1 : Nat)), V.t (T.int IntKind.i64 ((↑n : Int) + (1 : Int)))], Ob.vec true (1 : Nat) (ints lo), Ob.vec true (1 : Nat) ((ints r.reverse).append ([C.t (T.int IntKind.i64 a.neg)] :: ints jk))]) (by kernel_rfl) ((((congrArg (fun x => Out.val (V.t (T.int IntKind.i64 (0 : Int))) [Ob.box [V.t (T.seq (3 : Nat) (List.map Bc.ce l)), V.vec (1 : Nat) (10 : Nat) (1 : Nat) (0 : Nat) (10 : Nat), V.vec (2 : Nat) x (1 : Nat) (0 : Nat) (r.length + (1 : Nat)), V.t (T.int IntKind.i64 ((↑n : Int) + (1 : Int)))], Ob.vec true (1 : Nat) (ints lo), Ob.vec true (1 : Nat) ((ints r.reverse).append ([C.t (T.int IntKind.i64 a.neg)] :: ints jk))]) (show (r.length + (a :: jk).length) = ((StepR.mk (0 : Int) lo (-a :: r) jk ((↑n : Int) + (1 : Int))).st.length + (StepR.mk (0 : Int) lo (-a :: r) jk ((↑n : Int) + (1 : Int))).jk.length) by (simp; omega))).trans (congrArg (fun x => Out.val (V.t (T.int IntKind.i64 (0 : Int))) [Ob.box [V.t (T.seq (3 : Nat) (List.map Bc.ce l)), V.vec (1 : Nat) (10 : Nat) (1 : Nat) (0 : Nat) (10 : Nat), V.vec (2 : Nat) ((StepR.mk (0 : Int) lo (-a :: r) jk ((↑n : Int) + (1 : Int))).st.length + (StepR.mk (0 : Int) lo (-a :: r) jk ((↑n : Int) + (1 : Int))).jk.length) (1 : Nat) (0 : Nat) x, V.t (T.int IntKind.i64 ((↑n : Int) + (1 : Int)))], Ob.vec true (1 : Nat) (ints lo), Ob.vec true (1 : Nat) ((ints r.reverse).append ([C.t (T.int IntKind.i64 a.neg)] :: ints jk))]) (show (r.length + (1 : Nat)) = ((StepR.mk (0 : Int) lo (-a :: r) jk ((↑n : Int) + (1 : Int))).st.length) by simp [ints_app, ints_cons, intc, hneg]))).trans (congrArg (fun x => Out.val (V.t (T.int IntKind.i64 (0 : Int))) [Ob.box [V.t (T.seq (3 : Nat) (List.map Bc.ce l)), V.vec (1 : Nat) (10 : Nat) (1 : Nat) (0 : Nat) (10 : Nat), V.vec (2 : Nat) ((StepR.mk (0 : Int) lo (-a :: r) jk ((↑n : Int) + (1 : Int))).st.length + (StepR.mk (0 : Int) lo (-a :: r) jk ((↑n : Int) + (1 : Int))).jk.length) (1 : Nat) (0 : Nat) (StepR.mk (0 : Int) lo (-a :: r) jk ((↑n : Int) + (1 : Int))).st.length, V.t (T.int IntKind.i64 ((↑n : Int) + (1 : Int)))], Ob.vec true (1 : Nat) x, Ob.vec true (1 : Nat) ((ints r.reverse).append ([C.t (T.int IntKind.i64 a.neg)] :: ints jk))]) (show (ints lo) = (ints (StepR.mk (0 : Int) lo (-a :: r) jk ((↑n : Int) + (1 : Int))).lo) by simp [ints_app, ints_cons, intc, hneg]))).trans (congrArg (fun x => Out.val (V.t (T.int IntKind.i64 (0 : Int))) [Ob.box [V.t (T.seq (3 : Nat) (List.map Bc.ce l)), V.vec (1 : Nat) (10 : Nat) (1 : Nat) (0 : Nat) (10 : Nat), V.vec (2 : Nat) ((StepR.mk (0 : Int) lo (-a :: r) jk ((↑n : Int) + (1 : Int))).st.length + (StepR.mk (0 : Int) lo (-a :: r) jk ((↑n : Int) + (1 : Int))).jk.length) (1 : Nat) (0 : Nat) (StepR.mk (0 : Int) lo (-a :: r) jk ((↑n : Int) + (1 : Int))).st.length, V.t (T.int IntKind.i64 ((↑n : Int) + (1 : Int)))], Ob.vec true (1 : Nat) (ints (StepR.mk (0 : Int) lo (-a :: r) jk ((↑n : Int) + (1 : Int))).lo), Ob.vec true (1 : Nat) x]) (show ((ints r.reverse).append ([C.t (T.int IntKind.i64 a.neg)] :: ints jk)) = (ints ((StepR.mk (0 : Int) lo (-a :: r) jk ((↑n : Int) + (1 : Int))).st.reverse ++ (StepR.mk (0 : Int) lo (-a :: r) jk ((↑n : Int) + (1 : Int))).jk)) by simp [ints_app, ints_cons, intc, hneg])))
          · rw [if_neg ht]
            let t8 : Tp pr := .i (show ((↑(List.map Bc.ce l).length : Int) : Int) = (↑l.length : Int) by simp)
            let t11 : Tp pr := .b (show (decide ((↑n : Int) = (↑l.length : Int))) = false by (simp; omega))
            let t20 : Tp pr := .g .row (show (lkp (List.map Bc.ce l) (↑n : Int)) = some ((Bc.mk (5 : Int) m t).ce) from hgl)
            let t26 : Tp pr := .i (show ((↑(a :: r).length : Int) : Int) = (↑r.length : Int) + (1 : Int) by simp)
            let t28 : Tp pr := .i (show ((↑(a :: r).length : Int) : Int) = (↑r.length : Int) + (1 : Int) by simp)
            let t29 : Tp pr := .i (wrap_i64 (a := (↑r.length : Int) + (1 : Int) - (1 : Int)) (by omega) (by omega))
            let t30 : Tp pr := .i (wrap_i64 (a := (↑r.length : Int) + (1 : Int) - (1 : Int) + (1 : Int)) (by omega) (by omega))
            let t31 : Tp pr := .b (show (decide ((↑r.length : Int) + (1 : Int) - (1 : Int) + (1 : Int) > (30 : Int))) = false by (simp; omega))
            let t32 : Tp pr := .i (wrap_i64 (a := (↑n : Int) + (1 : Int)) (by omega) (by omega))
            let t39 : Tp pr := .b (show (t.toList == [(45 : UInt8)]) = false by (simp; omega))
            let t40 : Tp pr := .a (boolNum_ev (decide (a = (0 : Int))))
            let t42 : Tp pr := .m (show (decide ((ints (r.reverse ++ a :: jk)).length = r.length + (a :: jk).length ∧ (0 : Nat) + r.length ≤ r.length + (a :: jk).length ∧ r.length + (1 : Nat) ≤ (4294967296 : Nat))) = true by (simp; omega))
            let t43 : Tp pr := .b (show (decide (r.length + (1 : Nat) ≤ r.length + (a :: jk).length)) = true by simp)
            let t45 : Tp pr := .n .crows (show (((List.take r.length (ints (r.reverse ++ a :: jk))).append (List.take (1 : Nat) (List.drop (0 : Nat) [[C.t (T.int IntKind.i64 (tru (decide (a = (0 : Int)))))]]))).append (List.drop (r.length + (1 : Nat)) (ints (r.reverse ++ a :: jk)))) = ints r.reverse ++ [C.t (T.int IntKind.i64 (tru (decide (a = (0 : Int)))))] :: ints jk by simp)
            exact .tpe [.m (rfl : true = true), .m (rfl : true = true), .m (rfl : true = true), .m (rfl : true = true), .m (rfl : true = true), .m (rfl : true = true), .m (rfl : true = true), .m (rfl : true = true), t8, .m (rfl : true = true), .m (rfl : true = true), t11, .m (rfl : true = true), .m (rfl : true = true), .m (rfl : true = true), .m (rfl : true = true), .m (rfl : true = true), .m (rfl : true = true), .m (rfl : true = true), .m (rfl : true = true), t20, .m (rfl : true = true), .m (rfl : true = true), .m (rfl : true = true), .m (rfl : true = true), .a (hm), t26, .b (rfl : false = false), t28, t29, t30, t31, t32, .b (rfl : false = false), .b (rfl : false = false), .b (rfl : false = false), .b (rfl : false = false), .b (rfl : true = true), .a (hp), t39, t40, .m (rfl : true = true), t42, t43, .c (rfl : (r.length + (1 : Nat)) = _), t45] (Out.val (V.t (T.int IntKind.i64 (0 : Int))) [Ob.box [V.t (T.seq (3 : Nat) (List.map Bc.ce l)), V.vec (1 : Nat) (10 : Nat) (1 : Nat) (0 : Nat) (10 : Nat), V.vec (2 : Nat) (r.length + (a :: jk).length) (1 : Nat) (0 : Nat) (r.length + (1 : Nat)), V.t (T.int IntKind.i64 ((↑n : Int) + (1 : Int)))], Ob.vec true (1 : Nat) (ints lo), Ob.vec true (1 : Nat) ((ints r.reverse).append ([C.t (T.int IntKind.i64 (tru (decide (a = (0 : Int)))))] :: ints jk))]) (by kernel_rfl) ((((congrArg (fun x => Out.val (V.t (T.int IntKind.i64 (0 : Int))) [Ob.box [V.t (T.seq (3 : Nat) (List.map Bc.ce l)), V.vec (1 : Nat) (10 : Nat) (1 : Nat) (0 : Nat) (10 : Nat), V.vec (2 : Nat) x (1 : Nat) (0 : Nat) (r.length + (1 : Nat)), V.t (T.int IntKind.i64 ((↑n : Int) + (1 : Int)))], Ob.vec true (1 : Nat) (ints lo), Ob.vec true (1 : Nat) ((ints r.reverse).append ([C.t (T.int IntKind.i64 (tru (decide (a = (0 : Int)))))] :: ints jk))]) (show (r.length + (a :: jk).length) = ((StepR.mk (0 : Int) lo (tru (decide (a = (0 : Int))) :: r) jk ((↑n : Int) + (1 : Int))).st.length + (StepR.mk (0 : Int) lo (tru (decide (a = (0 : Int))) :: r) jk ((↑n : Int) + (1 : Int))).jk.length) by (simp; omega))).trans (congrArg (fun x => Out.val (V.t (T.int IntKind.i64 (0 : Int))) [Ob.box [V.t (T.seq (3 : Nat) (List.map Bc.ce l)), V.vec (1 : Nat) (10 : Nat) (1 : Nat) (0 : Nat) (10 : Nat), V.vec (2 : Nat) ((StepR.mk (0 : Int) lo (tru (decide (a = (0 : Int))) :: r) jk ((↑n : Int) + (1 : Int))).st.length + (StepR.mk (0 : Int) lo (tru (decide (a = (0 : Int))) :: r) jk ((↑n : Int) + (1 : Int))).jk.length) (1 : Nat) (0 : Nat) x, V.t (T.int IntKind.i64 ((↑n : Int) + (1 : Int)))], Ob.vec true (1 : Nat) (ints lo), Ob.vec true (1 : Nat) ((ints r.reverse).append ([C.t (T.int IntKind.i64 (tru (decide (a = (0 : Int)))))] :: ints jk))]) (show (r.length + (1 : Nat)) = ((StepR.mk (0 : Int) lo (tru (decide (a = (0 : Int))) :: r) jk ((↑n : Int) + (1 : Int))).st.length) by simp [ints_app, ints_cons, intc]))).trans (congrArg (fun x => Out.val (V.t (T.int IntKind.i64 (0 : Int))) [Ob.box [V.t (T.seq (3 : Nat) (List.map Bc.ce l)), V.vec (1 : Nat) (10 : Nat) (1 : Nat) (0 : Nat) (10 : Nat), V.vec (2 : Nat) ((StepR.mk (0 : Int) lo (tru (decide (a = (0 : Int))) :: r) jk ((↑n : Int) + (1 : Int))).st.length + (StepR.mk (0 : Int) lo (tru (decide (a = (0 : Int))) :: r) jk ((↑n : Int) + (1 : Int))).jk.length) (1 : Nat) (0 : Nat) (StepR.mk (0 : Int) lo (tru (decide (a = (0 : Int))) :: r) jk ((↑n : Int) + (1 : Int))).st.length, V.t (T.int IntKind.i64 ((↑n : Int) + (1 : Int)))], Ob.vec true (1 : Nat) x, Ob.vec true (1 : Nat) ((ints r.reverse).append ([C.t (T.int IntKind.i64 (tru (decide (a = (0 : Int)))))] :: ints jk))]) (show (ints lo) = (ints (StepR.mk (0 : Int) lo (tru (decide (a = (0 : Int))) :: r) jk ((↑n : Int) + (1 : Int))).lo) by simp [ints_app, ints_cons, intc]))).trans (congrArg (fun x => Out.val (V.t (T.int IntKind.i64 (0 : Int))) [Ob.box [V.t (T.seq (3 : Nat) (List.map Bc.ce l)), V.vec (1 : Nat) (10 : Nat) (1 : Nat) (0 : Nat) (10 : Nat), V.vec (2 : Nat) ((StepR.mk (0 : Int) lo (tru (decide (a = (0 : Int))) :: r) jk ((↑n : Int) + (1 : Int))).st.length + (StepR.mk (0 : Int) lo (tru (decide (a = (0 : Int))) :: r) jk ((↑n : Int) + (1 : Int))).jk.length) (1 : Nat) (0 : Nat) (StepR.mk (0 : Int) lo (tru (decide (a = (0 : Int))) :: r) jk ((↑n : Int) + (1 : Int))).st.length, V.t (T.int IntKind.i64 ((↑n : Int) + (1 : Int)))], Ob.vec true (1 : Nat) (ints (StepR.mk (0 : Int) lo (tru (decide (a = (0 : Int))) :: r) jk ((↑n : Int) + (1 : Int))).lo), Ob.vec true (1 : Nat) x]) (show ((ints r.reverse).append ([C.t (T.int IntKind.i64 (tru (decide (a = (0 : Int)))))] :: ints jk)) = (ints ((StepR.mk (0 : Int) lo (tru (decide (a = (0 : Int))) :: r) jk ((↑n : Int) + (1 : Int))).st.reverse ++ (StepR.mk (0 : Int) lo (tru (decide (a = (0 : Int))) :: r) jk ((↑n : Int) + (1 : Int))).jk)) by simp [ints_app, ints_cons, intc])))
      · have hm := moves_ev ⟨6, m, t⟩
        have e1 : mvOff (6 : Int) = 0 := rfl
        have e2 : mvOn (6 : Int) = 0 := rfl
        simp only [e1, e2] at hm hc
        rw [show stepX ⟨6, m, t⟩ lo st jk n = ⟨0, lo, st, jk, m⟩ by simp [stepX, e1, e2]; omega]
        let t8 : Tp pr := .i (show ((↑(List.map Bc.ce l).length : Int) : Int) = (↑l.length : Int) by simp)
        let t11 : Tp pr := .b (show (decide ((↑n : Int) = (↑l.length : Int))) = false by (simp; omega))
        let t20 : Tp pr := .g .row (show (lkp (List.map Bc.ce l) (↑n : Int)) = some ((Bc.mk (6 : Int) m t).ce) from hgl)
        let t29 : Tp pr := .i (wrap_i64 (a := (↑st.length : Int) - (0 : Int)) (by omega) (by omega))
        let t30 : Tp pr := .i (wrap_i64 (a := (↑st.length : Int) - (0 : Int) + (0 : Int)) (by omega) (by omega))
        let t31 : Tp pr := .b (show (decide ((↑st.length : Int) - (0 : Int) + (0 : Int) > (30 : Int))) = false by (simp; omega))
        let t32 : Tp pr := .i (wrap_i64 (a := (↑n : Int) + (1 : Int)) (by omega) (by omega))
        exact .tp [.m (rfl : true = true), .m (rfl : true = true), .m (rfl : true = true), .m (rfl : true = true), .m (rfl : true = true), .m (rfl : true = true), .m (rfl : true = true), .m (rfl : true = true), t8, .m (rfl : true = true), .m (rfl : true = true), t11, .m (rfl : true = true), .m (rfl : true = true), .m (rfl : true = true), .m (rfl : true = true), .m (rfl : true = true), .m (rfl : true = true), .m (rfl : true = true), .m (rfl : true = true), t20, .m (rfl : true = true), .m (rfl : true = true), .m (rfl : true = true), .m (rfl : true = true), .a (hm), .i (rfl : ((↑st.length : Int)) = _), .b (rfl : false = false), .i (rfl : ((↑st.length : Int)) = _), t29, t30, t31, t32, .b (rfl : false = false), .b (rfl : false = false), .b (rfl : false = false), .b (rfl : false = false), .b (rfl : false = false), .b (rfl : true = true)] (by kernel_rfl)
      · have hm := moves_ev ⟨7, m, t⟩
        have e1 : mvOff (7 : Int) = 1 := rfl
        have e2 : mvOn (7 : Int) = 0 := rfl
        simp only [e1, e2] at hm hc
        cases st with
        | nil => simp at hc
        | cons a r =>
          simp only [List.length_cons] at h3 hc
          have ha := h4 a (by simp)
          rw [show stepX ⟨7, m, t⟩ lo (a :: r) jk n = ⟨0, lo, r, a :: jk, if a = 0 then m else n + 1⟩ by simp [stepX, e1, e2]; omega]
          have hp := pop_ev (.seq 3 (l.map Bc.ce)) lo r jk (n + 1) a (by omega)
          by_cases hz : a = 0
          · rw [if_pos hz]
            let t8 : Tp pr := .i (show ((↑(List.map Bc.ce l).length : Int) : Int) = (↑l.length : Int) by simp)
            let t11 : Tp pr := .b (show (decide ((↑n : Int) = (↑l.length : Int))) = false by (simp; omega))
            let t20 : Tp pr := .g .row (show (lkp (List.map Bc.ce l) (↑n : Int)) = some ((Bc.mk (7 : Int) m t).ce) from hgl)
            let t26 : Tp pr := .i (show ((↑(a :: r).length : Int) : Int) = (↑r.length : Int) + (1 : Int) by simp)
            let t28 : Tp pr := .i (show ((↑(a :: r).length : Int) : Int) = (↑r.length : Int) + (1 : Int) by simp)
            let t29 : Tp pr := .i (wrap_i64 (a := (↑r.length : Int) + (1 : Int) - (1 : Int)) (by omega) (by omega))
            let t30 : Tp pr := .i (wrap_i64 (a := (↑r.length : Int) + (1 : Int) - (1 : Int) + (0 : Int)) (by omega) (by omega))
            let t31 : Tp pr := .b (show (decide ((↑r.length : Int) + (1 : Int) - (1 : Int) + (0 : Int) > (30 : Int))) = false by (simp; omega))
            let t32 : Tp pr := .i (wrap_i64 (a := (↑n : Int) + (1 : Int)) (by omega) (by omega))
            let t41 : Tp pr := .b (show (decide (a = (0 : Int))) = true by (simp; omega))
            exact .tp [.m (rfl : true = true), .m (rfl : true = true), .m (rfl : true = true), .m (rfl : true = true), .m (rfl : true = true), .m (rfl : true = true), .m (rfl : true = true), .m (rfl : true = true), t8, .m (rfl : true = true), .m (rfl : true = true), t11, .m (rfl : true = true), .m (rfl : true = true), .m (rfl : true = true), .m (rfl : true = true), .m (rfl : true = true), .m (rfl : true = true), .m (rfl : true = true), .m (rfl : true = true), t20, .m (rfl : true = true), .m (rfl : true = true), .m (rfl : true = true), .m (rfl : true = true), .a (hm), t26, .b (rfl : false = false), t28, t29, t30, t31, t32, .b (rfl : false = false), .b (rfl : false = false), .b (rfl : false = false), .b (rfl : false = false), .b (rfl : false = false), .b (rfl : false = false), .b (rfl : true = true), .a (hp), t41] (by kernel_rfl)
          · rw [if_neg hz]
            let t8 : Tp pr := .i (show ((↑(List.map Bc.ce l).length : Int) : Int) = (↑l.length : Int) by simp)
            let t11 : Tp pr := .b (show (decide ((↑n : Int) = (↑l.length : Int))) = false by (simp; omega))
            let t20 : Tp pr := .g .row (show (lkp (List.map Bc.ce l) (↑n : Int)) = some ((Bc.mk (7 : Int) m t).ce) from hgl)
            let t26 : Tp pr := .i (show ((↑(a :: r).length : Int) : Int) = (↑r.length : Int) + (1 : Int) by simp)
            let t28 : Tp pr := .i (show ((↑(a :: r).length : Int) : Int) = (↑r.length : Int) + (1 : Int) by simp)
            let t29 : Tp pr := .i (wrap_i64 (a := (↑r.length : Int) + (1 : Int) - (1 : Int)) (by omega) (by omega))
            let t30 : Tp pr := .i (wrap_i64 (a := (↑r.length : Int) + (1 : Int) - (1 : Int) + (0 : Int)) (by omega) (by omega))
            let t31 : Tp pr := .b (show (decide ((↑r.length : Int) + (1 : Int) - (1 : Int) + (0 : Int) > (30 : Int))) = false by (simp; omega))
            let t32 : Tp pr := .i (wrap_i64 (a := (↑n : Int) + (1 : Int)) (by omega) (by omega))
            let t41 : Tp pr := .b (show (decide (a = (0 : Int))) = false by (simp; omega))
            exact .tp [.m (rfl : true = true), .m (rfl : true = true), .m (rfl : true = true), .m (rfl : true = true), .m (rfl : true = true), .m (rfl : true = true), .m (rfl : true = true), .m (rfl : true = true), t8, .m (rfl : true = true), .m (rfl : true = true), t11, .m (rfl : true = true), .m (rfl : true = true), .m (rfl : true = true), .m (rfl : true = true), .m (rfl : true = true), .m (rfl : true = true), .m (rfl : true = true), .m (rfl : true = true), t20, .m (rfl : true = true), .m (rfl : true = true), .m (rfl : true = true), .m (rfl : true = true), .a (hm), t26, .b (rfl : false = false), t28, t29, t30, t31, t32, .b (rfl : false = false), .b (rfl : false = false), .b (rfl : false = false), .b (rfl : false = false), .b (rfl : false = false), .b (rfl : false = false), .b (rfl : true = true), .a (hp), t41] (by kernel_rfl)
      · have hm := moves_ev ⟨8, m, t⟩
        have e1 : mvOff (8 : Int) = 1 := rfl
        have e2 : mvOn (8 : Int) = 0 := rfl
        simp only [e1, e2] at hm hc
        cases st with
        | nil => simp at hc
        | cons a r =>
          simp only [List.length_cons] at h3 hc
          have ha := h4 a (by simp)
          rw [show stepX ⟨8, m, t⟩ lo (a :: r) jk n = ⟨0, lo, r, a :: jk, n + 1⟩ by simp [stepX, e1, e2]; omega]
          have hp := pop_ev (.seq 3 (l.map Bc.ce)) lo r jk (n + 1) a (by omega)
          let t8 : Tp pr := .i (show ((↑(List.map Bc.ce l).length : Int) : Int) = (↑l.length : Int) by simp)
          let t11 : Tp pr := .b (show (decide ((↑n : Int) = (↑l.length : Int))) = false by (simp; omega))
          let t20 : Tp pr := .g .row (show (lkp (List.map Bc.ce l) (↑n : Int)) = some ((Bc.mk (8 : Int) m t).ce) from hgl)
          let t26 : Tp pr := .i (show ((↑(a :: r).length : Int) : Int) = (↑r.length : Int) + (1 : Int) by simp)
          let t28 : Tp pr := .i (show ((↑(a :: r).length : Int) : Int) = (↑r.length : Int) + (1 : Int) by simp)
          let t29 : Tp pr := .i (wrap_i64 (a := (↑r.length : Int) + (1 : Int) - (1 : Int)) (by omega) (by omega))
          let t30 : Tp pr := .i (wrap_i64 (a := (↑r.length : Int) + (1 : Int) - (1 : Int) + (0 : Int)) (by omega) (by omega))
          let t31 : Tp pr := .b (show (decide ((↑r.length : Int) + (1 : Int) - (1 : Int) + (0 : Int) > (30 : Int))) = false by (simp; omega))
          let t32 : Tp pr := .i (wrap_i64 (a := (↑n : Int) + (1 : Int)) (by omega) (by omega))
          exact .tp [.m (rfl : true = true), .m (rfl : true = true), .m (rfl : true = true), .m (rfl : true = true), .m (rfl : true = true), .m (rfl : true = true), .m (rfl : true = true), .m (rfl : true = true), t8, .m (rfl : true = true), .m (rfl : true = true), t11, .m (rfl : true = true), .m (rfl : true = true), .m (rfl : true = true), .m (rfl : true = true), .m (rfl : true = true), .m (rfl : true = true), .m (rfl : true = true), .m (rfl : true = true), t20, .m (rfl : true = true), .m (rfl : true = true), .m (rfl : true = true), .m (rfl : true = true), .a (hm), t26, .b (rfl : false = false), t28, t29, t30, t31, t32, .b (rfl : false = false), .b (rfl : false = false), .b (rfl : false = false), .b (rfl : false = false), .b (rfl : false = false), .b (rfl : false = false), .b (rfl : false = false), .b (rfl : true = true), .a (hp)] (by kernel_rfl)
      · have hm := moves_ev ⟨9, m, t⟩
        have e1 : mvOff (9 : Int) = 1 := rfl
        have e2 : mvOn (9 : Int) = 1 := rfl
        simp only [e1, e2] at hm hc
        rw [show stepX ⟨9, m, t⟩ lo st jk n = ⟨1, lo, st, jk, n + 1⟩ by simp [stepX, e1, e2]; omega]
        let t8 : Tp pr := .i (show ((↑(List.map Bc.ce l).length : Int) : Int) = (↑l.length : Int) by simp)
        let t11 : Tp pr := .b (show (decide ((↑n : Int) = (↑l.length : Int))) = false by (simp; omega))
        let t20 : Tp pr := .g .row (show (lkp (List.map Bc.ce l) (↑n : Int)) = some ((Bc.mk (9 : Int) m t).ce) from hgl)
        let t27 : Tp pr := .b (show (decide ((↑st.length : Int) < (1 : Int))) = false by (simp; omega))
        let t29 : Tp pr := .i (wrap_i64 (a := (↑st.length : Int) - (1 : Int)) (by omega) (by omega))
        let t30 : Tp pr := .i (wrap_i64 (a := (↑st.length : Int) - (1 : Int) + (1 : Int)) (by omega) (by omega))
        let t31 : Tp pr := .b (show (decide ((↑st.length : Int) - (1 : Int) + (1 : Int) > (30 : Int))) = false by (simp; omega))
        let t32 : Tp pr := .i (wrap_i64 (a := (↑n : Int) + (1 : Int)) (by omega) (by omega))
        exact .tp [.m (rfl : true = true), .m (rfl : true = true), .m (rfl : true = true), .m (rfl : true = true), .m (rfl : true = true), .m (rfl : true = true), .m (rfl : true = true), .m (rfl : true = true), t8, .m (rfl : true = true), .m (rfl : true = true), t11, .m (rfl : true = true), .m (rfl : true = true), .m (rfl : true = true), .m (rfl : true = true), .m (rfl : true = true), .m (rfl : true = true), .m (rfl : true = true), .m (rfl : true = true), t20, .m (rfl : true = true), .m (rfl : true = true), .m (rfl : true = true), .m (rfl : true = true), .a (hm), .i (rfl : ((↑st.length : Int)) = _), t27, .i (rfl : ((↑st.length : Int)) = _), t29, t30, t31, t32, .b (rfl : false = false), .b (rfl : false = false), .b (rfl : false = false), .b (rfl : false = false), .b (rfl : false = false), .b (rfl : false = false), .b (rfl : false = false), .b (rfl : false = false), .b (rfl : true = true)] (by kernel_rfl)
end Go.Ev

/- Code that runs, by the program. -/
namespace Go.Ev
set_option linter.unusedVariables false
set_option linter.unusedSimpArgs false
open Go.Proofs
set_option maxRecDepth 100000
set_option linter.unusedVariables false
set_option maxHeartbeats 1000000
attribute [local simp] e0
def bdB (n : Int) : Bool := decide (n ≥ -1000000000) && decide (n ≤ 1000000000)
theorem localF_ev (n : Int) : Ev pr (.call 85 [i64 n] []) (.val (bl (!bdB n)) []) := by
  let t0 : Tp pr := .a (within_ev (n) ((-1000000000 : Int)) ((1000000000 : Int)))
  exact .tp [t0] (by kernel_rfl)
theorem idxInt_ev (l : List Int) (hl : l.length ≤ 1048576) : ∀ (rest done : List Int) (i : Int), l = done ++ rest → i = done.length →
    Ev pr (.loop (lq pr 101 0) (at_ [(0, .t (.seq 1 (l.map intt))), (1, .t (.clo 85 [])), (7, i64 l.length), (8, i64 i)] [] 0))
      (if 0 ≤ idxFrom (fun x => !bdB x) i rest then .ret (at_ [(4, i64 (idxFrom (fun x => !bdB x) i rest))] [] 0) else .exit 0 (at_ [] [] 0))
  | [], done, i, h, hi => by
    have hll : (l.length : Int) = done.length := by simp [h]
    let t0 : Tp pr := .b (show (decide (i < (↑l.length : Int))) = false by (simp; omega))
    exact .tp [t0] (by kernel_rfl)
  | x :: rest, done, i, h, hi => by
    have hll : (l.length : Int) = done.length + 1 + rest.length := by simp [h]; omega
    have hg : lkp (l.map intt) i = some [T.int .i64 x] := by subst hi; subst h; simp [intt]
    have ih := idxInt_ev l hl rest (done ++ [x]) (i + 1) (by simp [h]) (by simp [hi])
    have hi0 : 0 ≤ i := by omega
    have hx := localF_ev x
    cases hb : bdB x with
    | false => rw [hb] at hx; (
      let t0 : Tp pr := .b (show (decide (i < (↑l.length : Int))) = true by (simp; omega))
      let t1 : Tp pr := .g .row (show (lkp (List.map intt l) i) = some ([T.int IntKind.i64 x]) from hg)
      exact .tpe [t0, t1, .a (hx), .b (rfl : true = true)] (Out.ret (at_ [((4 : Nat), V.t (T.int IntKind.i64 i))] [] (0 : Nat))) (by kernel_rfl) ((rfl).trans (show (Out.ret (at_ [((4 : Nat), V.t (T.int IntKind.i64 i))] [] (0 : Nat))) = if (0 : Int) ≤ idxFrom (fun x => !bdB x) i (x :: rest) then Out.ret (at_ [((4 : Nat), i64 (idxFrom (fun x => !bdB x) i (x :: rest)))] [] (0 : Nat)) else Out.exit (0 : Nat) (at_ [] [] (0 : Nat)) by simp [idxFrom, hb, hi0])))
    | true =>
      rw [hb] at hx
      have hI : idxFrom (fun x => !bdB x) i (x :: rest) = idxFrom (fun x => !bdB x) (i + 1) rest := by simp [idxFrom, hb]
      rw [hI]
      by_cases h0 : 0 ≤ idxFrom (fun x => !bdB x) (i + 1) rest
      · rw [if_pos h0] at ih ⊢; (
        let t0 : Tp pr := .b (show (decide (i < (↑l.length : Int))) = true by (simp; omega))
        let t1 : Tp pr := .g .row (show (lkp (List.map intt l) i) = some ([T.int IntKind.i64 x]) from hg)
        let t4 : Tp pr := .i (wrap_i64 (a := i + (1 : Int)) (by omega) (by omega))
        exact .tp [t0, t1, .a (hx), .b (rfl : false = false), t4, .a (ih)] (by kernel_rfl))
      · rw [if_neg h0] at ih ⊢; (
        let t0 : Tp pr := .b (show (decide (i < (↑l.length : Int))) = true by (simp; omega))
        let t1 : Tp pr := .g .row (show (lkp (List.map intt l) i) = some ([T.int IntKind.i64 x]) from hg)
        let t4 : Tp pr := .i (wrap_i64 (a := i + (1 : Int)) (by omega) (by omega))
        exact .tp [t0, t1, .a (hx), .b (rfl : false = false), t4, .a (ih)] (by kernel_rfl))
theorem idxInts_ev (l : List Int) (hl : l.length ≤ 1048576) : Ev pr (.call 101 [.t (.seq 1 (l.map intt)), .t (.clo 85 [])] []) (.val (i64 (idxFrom (fun x => !bdB x) 0 l)) []) := by
  have h := idxInt_ev l hl l [] 0 rfl rfl
  have h2 := idxFrom_neg (fun x => !bdB x) l 0 (Int.le_refl _)
  by_cases h0 : 0 ≤ idxFrom (fun x => !bdB x) 0 l
  · rw [if_pos h0] at h; (
    let t0 : Tp pr := .i (show ((↑(List.map intt l).length : Int) : Int) = (↑l.length : Int) by simp)
    exact .tp [t0, .a (h)] (by kernel_rfl))
  · rw [if_neg h0] at h; rw [h2 h0]; (
    let t0 : Tp pr := .i (show ((↑(List.map intt l).length : Int) : Int) = (↑l.length : Int) by simp)
    exact .tp [t0, .a (h)] (by kernel_rfl))
theorem anyInt_ev (l : List Int) (hl : l.length ≤ 1048576) : Ev pr (.call 84 [.t (.seq 1 (l.map intt)), .t (.clo 85 [])] []) (.val (bl (l.any fun x => !bdB x)) []) := by
  rw [← idxFrom_any (fun x => !bdB x) l 0 (by omega)]
  exact .tp [.a (idxInts_ev (l) (by assumption))] (by kernel_rfl)
def localsOk (l : List Int) : Bool := decide (l.length = 10) && l.all bdB
theorem localsOk_ev (l : List Int) (hl : l.length ≤ 1048576) : Ev pr (.call 64 [.t (.seq 1 (l.map intt))] []) (.val (bl (localsOk l)) []) := by
  have h := anyInt_ev l hl
  have e : (l.any fun x => !bdB x) = !l.all bdB := by simp [List.any_eq_not_all_not]
  rw [e] at h
  unfold localsOk
  let t0 : Tp pr := .i (show ((↑(List.map intt l).length : Int) : Int) = (↑l.length : Int) by simp)
  by_cases hc1 : (↑l.length : Int) = (10 : Int)
  · let t1 : Tp pr := .b (show (decide ((↑l.length : Int) = (10 : Int))) = true by simpa using hc1)
    exact .tpe [t0, t1, .a (h)] (Out.val (V.t (T.bool !!l.all bdB)) []) (by kernel_rfl) (congrArg (fun x => Out.val (V.t (T.bool x)) []) (show (!!l.all bdB) = (decide (l.length = (10 : Nat)) && l.all bdB) by (simp [*] <;> omega)))
  · let t1 : Tp pr := .b (show (decide ((↑l.length : Int) = (10 : Int))) = false by simpa using hc1)
    exact .tpe [t0, t1] (Out.val (V.t (T.bool false)) []) (by kernel_rfl) (congrArg (fun x => Out.val (V.t (T.bool x)) []) (show (false) = (decide (l.length = (10 : Nat)) && l.all bdB) by (simp [*] <;> omega)))
theorem runBcL_ev (l : List Bc) (hg : goodCode l = true) (fuel : Int) (hf : 0 ≤ fuel ∧ fuel ≤ 2000) : ∀ (n : Nat) (d : Int) (lo st jk : List Int) (k : Int), d + n = fuel → 0 ≤ d → RunOk l lo st k →
    Ev pr (.loop (lq pr 70 0) (at_ [(2, i64 fuel), (10, .ptr 0 1 0 0), (30, i64 fuel), (31, i64 d)] (stkObs (.seq 3 (l.map Bc.ce)) lo st jk k) 0))
      (if (runA l n d lo st jk k).1 = 4 then .exit 0 (at_ [(2, i64 fuel)] [] 0) else .ret (at_ [(6, i64 (runA l n d lo st jk k).1), (7, i64 (runA l n d lo st jk k).2.1), (8, i64 (runA l n d lo st jk k).2.2), (9, bl true)] [] 0))
  | 0, d, lo, st, jk, k, h, h0, hr => by
    have e : d = fuel := by omega
    rw [show runA l 0 d lo st jk k = (4, 0, d) from rfl, if_pos rfl]
    let t0 : Tp pr := .b (show (decide (d < fuel)) = false by (simp; omega))
    exact .tp [t0] (by kernel_rfl)
  | n + 1, d, lo, st, jk, k, h, h0, hr => by
    have hs := step_ev l lo st jk k hg hr
    have hr2 := stepI_ok (jk := jk) hg hr
    obtain ⟨he4, he⟩ := stepI_e l lo st jk k
    unfold runA
    generalize stepI l lo st jk k = q at *
    obtain ⟨e, lo2, st2, jk2, k2⟩ := q
    dsimp only at hs hr2 he he4 ⊢
    by_cases h1 : e = 0
    · have ih := runBcL_ev l hg fuel hf n (d + 1) lo2 st2 jk2 k2 (by omega) (by omega) hr2
      rw [if_pos h1]
      subst h1
      let t0 : Tp pr := .b (show (decide (d < fuel)) = true by (simp; omega))
      let t3 : Tp pr := .i (wrap_i64 (a := d + (1 : Int)) (by omega) (by omega))
      exact .tp [t0, .a (hs), .b (rfl : true = true), t3, .a (ih)] (by kernel_rfl)
    · rw [if_neg h1]
      have hlt := hr2.stl
      by_cases h2 : e = 1
      · rw [if_pos h2]
        subst h2
        rw [if_neg (by simp)]
        obtain ⟨a, r, rfl⟩ := he rfl
        have hp := pop_ev (.seq 3 (l.map Bc.ce)) lo2 r jk2 k2 a (by simp at hlt; omega)
        let t0 : Tp pr := .b (show (decide (d < fuel)) = true by (simp; omega))
        let t5 : Tp pr := .i (wrap_i64 (a := d + (1 : Int)) (by omega) (by omega))
        exact .tp [t0, .a (hs), .b (rfl : false = false), .b (rfl : true = true), .a (hp), t5] (by kernel_rfl)
      · rw [if_neg h2, if_neg (by dsimp only; intro h4; exact he4 h4)]
        let t0 : Tp pr := .b (show (decide (d < fuel)) = true by (simp; omega))
        let t2 : Tp pr := .b (show (decide (e = (0 : Int))) = false by (simp; omega))
        let t3 : Tp pr := .b (show (decide (e = (1 : Int))) = false by (simp; omega))
        let t4 : Tp pr := .i (wrap_i64 (a := d + (1 : Int)) (by omega) (by omega))
        exact .tp [t0, .a (hs), t2, t3, t4] (by kernel_rfl)
def runBc (l : List Bc) (lo : List Int) (fuel : Int) : Option (Int × Int × Int) :=
  if goodCode l = true ∧ localsOk lo = true ∧ 0 ≤ fuel ∧ fuel ≤ 2000 then some (runA l fuel.toNat 0 lo [] [] 0) else none
theorem localsOk_ok {l : List Bc} {lo : List Int} (h : localsOk lo = true) : RunOk l lo [] 0 := by
  simp only [localsOk, Bool.and_eq_true, decide_eq_true_eq, List.all_eq_true] at h
  refine ⟨h.1, fun v hv => ?_, by simp, by simp, by omega, by omega⟩
  have := h.2 v hv
  simpa [bdB, bd] using this
theorem runA_d (l : List Bc) : ∀ (n : Nat) (d : Int) (lo st jk : List Int) (k : Int), (runA l n d lo st jk k).1 = 4 → (runA l n d lo st jk k).2 = (0, d + n)
  | 0, d, lo, st, jk, k, _ => by simp [runA]
  | n + 1, d, lo, st, jk, k, h => by
    have he := (stepI_e l lo st jk k).1
    unfold runA at h ⊢
    split at h
    · rename_i h1
      rw [if_pos h1]
      rw [runA_d l n _ _ _ _ _ h]
      simp
      omega
    · split at h
      · simp at h
      · exact absurd h he
theorem RunBcI_ev (l : List Bc) (lo : List Int) (fuel : Int) (hl : l.length ≤ 1000000) (hlo : lo.length ≤ 1048576) : Ev pr (.call 70 [bcs l, .t (.seq 1 (lo.map intt)), i64 fuel] []) (match runBc l lo fuel with
    | some r => .val (.tup [i64 r.1, i64 r.2.1, i64 r.2.2, bl true]) []
    | none => .val (.tup [i64 0, i64 0, i64 0, bl false]) []) := by
  have h1 := GoodCodeI_ev l hl
  have h2 := localsOk_ev lo hlo
  unfold runBc
  cases hg : goodCode l with
  | false => rw [hg] at h1; rw [if_neg (by simp)]; exact .tp [.a (h1), .b (rfl : true = true), .b (rfl : true = true), .b (rfl : true = true)] (by kernel_rfl)
  | true =>
    rw [hg] at h1
    cases hgl : localsOk lo with
    | false => rw [hgl] at h2; rw [if_neg (by simp)]; exact .tp [.a (h1), .b (rfl : false = false), .a (h2), .b (rfl : true = true), .b (rfl : true = true)] (by kernel_rfl)
    | true =>
      rw [hgl] at h2
      have hlen : lo.length = 10 := by simp [localsOk] at hgl; exact hgl.1
      have h3 := Clone_ev lo (by omega) (by omega)
      rw [hlen] at h3
      by_cases hf : 0 ≤ fuel ∧ fuel ≤ 2000
      · rw [if_pos ⟨rfl, rfl, hf⟩]
        have hL := runBcL_ev l hg fuel hf fuel.toNat 0 lo [] [] 0 (by omega) (by omega) (localsOk_ok hgl)
        have hd := runA_d l fuel.toNat 0 lo [] [] 0
        generalize runA l fuel.toNat 0 lo [] [] 0 = r at *
        obtain ⟨r1, r2, r3⟩ := r
        dsimp only at hL hd ⊢
        by_cases h4 : r1 = 4
        · rw [if_pos h4] at hL
          obtain ⟨rfl, rfl⟩ := Prod.mk.inj (hd h4)
          subst h4
          let t4 : Tp pr := .a (within_ev (fuel) ((0 : Int)) ((2000 : Int)))
          let t5 : Tp pr := .b (show (!(decide (fuel ≥ (0 : Int)) && decide (fuel ≤ (2000 : Int)))) = false by (simp; omega))
          exact .tpe [.a (h1), .b (rfl : false = false), .a (h2), .b (rfl : false = false), t4, t5, .a (h3), .a (hL)] (Out.val (V.tup [V.t (T.int IntKind.i64 (4 : Int)), V.t (T.int IntKind.i64 (0 : Int)), V.t (T.int IntKind.i64 fuel), V.t (T.bool true)]) []) (by kernel_rfl) (congrArg (fun x => Out.val (V.tup [V.t (T.int IntKind.i64 (4 : Int)), V.t (T.int IntKind.i64 (0 : Int)), V.t (T.int IntKind.i64 x), V.t (T.bool true)]) []) (show (fuel) = ((0 : Int) + (↑fuel.toNat : Int)) by omega))
        · rw [if_neg h4] at hL
          let t4 : Tp pr := .a (within_ev (fuel) ((0 : Int)) ((2000 : Int)))
          let t5 : Tp pr := .b (show (!(decide (fuel ≥ (0 : Int)) && decide (fuel ≤ (2000 : Int)))) = false by (simp; omega))
          exact .tp [.a (h1), .b (rfl : false = false), .a (h2), .b (rfl : false = false), t4, t5, .a (h3), .a (hL)] (by kernel_rfl)
      · rw [if_neg (fun h => hf h.2.2)]
        let t4 : Tp pr := .a (within_ev (fuel) ((0 : Int)) ((2000 : Int)))
        let t5 : Tp pr := .b (show (!(decide (fuel ≥ (0 : Int)) && decide (fuel ≤ (2000 : Int)))) = true by (simp; omega))
        exact .tp [.a (h1), .b (rfl : false = false), .a (h2), .b (rfl : false = false), t4, t5] (by kernel_rfl)
end Go.Ev

/- Code that runs, by the reference. -/
namespace Go.Ev
set_option linter.unusedVariables false
set_option linter.unusedSimpArgs false
open Go.Proofs
set_option maxRecDepth 100000
set_option linter.unusedVariables false
set_option maxHeartbeats 8000000
attribute [local simp] e0
@[local simp] theorem tn2 (n : Nat) : ((n : Int) + 1 + 1 - 2).toNat = n := by omega
def stkS (lo st jk : List Int) (k : Int) : List Ob := [.box [.vec 1 (st.length + jk.length) 1 0 st.length, .vec 2 10 1 0 10, i64 k], .vec true 1 (ints (st.reverse ++ jk)), .vec true 1 (ints lo)]
def stepSOut (q : StepR) (lo st jk : List Int) (k : Int) : Out :=
  if q.e = 0 then .val (.tup [i64 0, i64 0]) (stkS q.lo q.st q.jk q.at_)
  else .val (.tup [i64 q.e, i64 (if q.e = 1 then q.st.headD 0 else 0)]) (stkS lo st jk (if q.e = 5 then k else k + 1))
theorem sOut0 (lo2 st2 jk2 : List Int) (k2 : Int) (lo st jk : List Int) (k : Int) : stepSOut ⟨0, lo2, st2, jk2, k2⟩ lo st jk k = .val (.tup [i64 0, i64 0]) (stkS lo2 st2 jk2 k2) := by simp [stepSOut]
theorem sOut5 (lo2 st2 jk2 : List Int) (k2 : Int) (lo st jk : List Int) (k : Int) : stepSOut ⟨5, lo2, st2, jk2, k2⟩ lo st jk k = .val (.tup [i64 5, i64 0]) (stkS lo st jk k) := by simp [stepSOut]
theorem sOut1 (lo2 st2 jk2 : List Int) (k2 : Int) (lo st jk : List Int) (k : Int) : stepSOut ⟨1, lo2, st2, jk2, k2⟩ lo st jk k = .val (.tup [i64 1, i64 (st2.headD 0)]) (stkS lo st jk (k + 1)) := by simp [stepSOut]
theorem sOut2 (lo2 st2 jk2 : List Int) (k2 : Int) (lo st jk : List Int) (k : Int) : stepSOut ⟨2, lo2, st2, jk2, k2⟩ lo st jk k = .val (.tup [i64 2, i64 0]) (stkS lo st jk (k + 1)) := by simp [stepSOut]
theorem sOut3 (lo2 st2 jk2 : List Int) (k2 : Int) (lo st jk : List Int) (k : Int) : stepSOut ⟨3, lo2, st2, jk2, k2⟩ lo st jk k = .val (.tup [i64 3, i64 0]) (stkS lo st jk (k + 1)) := by simp [stepSOut]
theorem stepS_ev (l : List Bc) (lo st jk : List Int) (k : Int) (hg : goodCode l = true) (h : RunOk l lo st k) : Ev pr (.call 104 [.ptr 0 1 0 0, bcs l] (stkS lo st jk k)) (stepSOut (stepI l lo st jk k) lo st jk k) := by
  have hl := goodCode_len hg
  obtain ⟨h1, h2, h3, h4, h5, h6⟩ := h
  obtain ⟨n, rfl⟩ : ∃ n : Nat, k = n := ⟨k.toNat, by omega⟩
  by_cases hk : (n : Int) = l.length
  · rw [show stepI l lo st jk n = ⟨5, lo, st, jk, n⟩ by simp [stepI, show l.length ≤ n by omega]]
    rw [sOut5]
    let t0 : Tp pr := .i (show ((↑(List.map Bc.ce l).length : Int) : Int) = (↑l.length : Int) by simp)
    let t1 : Tp pr := .b (show (decide ((↑n : Int) ≥ (↑l.length : Int))) = true by (simp; omega))
    exact .tp [t0, t1] (by kernel_rfl)
  · have hlt : n < l.length := by omega
    obtain ⟨x, hx⟩ : ∃ x, l[n]? = some x := ⟨l[n], List.getElem?_eq_getElem hlt⟩
    have hgl : lkp (l.map Bc.ce) (n : Int) = some x.ce := by simp [lkp, hx]
    have hb := goodCode_mem hg (List.mem_of_getElem? hx)
    rw [show stepI l lo st jk n = stepX x lo st jk n by simp [stepI, hx]]
    have hmv := mv_bd x.op
    by_cases hc : (st.length : Int) < mvOff x.op ∨ st.length - mvOff x.op + mvOn x.op > 30
    · rw [show stepX x lo st jk n = ⟨5, lo, st, jk, n⟩ by unfold stepX; rw [if_pos hc]]
      rw [sOut5]
      let t0 : Tp pr := .i (show ((↑(List.map Bc.ce l).length : Int) : Int) = (↑l.length : Int) by simp)
      let t1 : Tp pr := .b (show (decide ((↑n : Int) ≥ (↑l.length : Int))) = false by (simp; omega))
      let t2 : Tp pr := .g .row (show (lkp (List.map Bc.ce l) (↑n : Int)) = some (x.ce) from hgl)
      by_cases hc5 : (↑st.length : Int) < mvOff x.op
      · let t5 : Tp pr := .b (show (decide ((↑st.length : Int) < mvOff x.op)) = true by simpa using hc5)
        exact .tp [t0, t1, t2, .a (l16Takes_ev (x)), .i (rfl : ((↑st.length : Int)) = _), t5, .b (rfl : true = true)] (by kernel_rfl)
      · let t5 : Tp pr := .b (show (decide ((↑st.length : Int) < mvOff x.op)) = false by simpa using hc5)
        let t6 : Tp pr := .i (wrap_i64 (a := (↑st.length : Int) - mvOff x.op) (by omega) (by omega))
        let t7 : Tp pr := .i (wrap_i64 (a := (↑st.length : Int) - mvOff x.op + mvOn x.op) (by omega) (by omega))
        let t8 : Tp pr := .b (show (decide ((↑st.length : Int) - mvOff x.op + mvOn x.op > (30 : Int))) = true by (simp; omega))
        exact .tp [t0, t1, t2, .a (l16Takes_ev (x)), .i (rfl : ((↑st.length : Int)) = _), t5, t6, t7, t8] (by kernel_rfl)
    · have hop := bcOk_op hb
      obtain ⟨o, m, t⟩ := x
      dsimp only at hop hc hmv hgl
      clear hx hmv
      rcases hop with rfl | rfl | rfl | rfl | rfl | rfl | rfl | rfl | rfl
      · have hm := l16Takes_ev ⟨1, m, t⟩
        have e1 : mvOff (1 : Int) = 0 := rfl
        have e2 : mvOn (1 : Int) = 1 := rfl
        simp only [e1, e2] at hm hc
        rw [show stepX ⟨1, m, t⟩ lo st jk n = ⟨0, lo, m :: st, jk.tail, n + 1⟩ by simp [stepX, e1, e2]; omega]
        rw [sOut0]
        cases jk with
        | nil => (
          let t0 : Tp pr := .i (show ((↑(List.map Bc.ce l).length : Int) : Int) = (↑l.length : Int) by simp)
          let t1 : Tp pr := .b (show (decide ((↑n : Int) ≥ (↑l.length : Int))) = false by (simp; omega))
          let t2 : Tp pr := .g .row (show (lkp (List.map Bc.ce l) (↑n : Int)) = some ((Bc.mk (1 : Int) m t).ce) from hgl)
          let t6 : Tp pr := .i (wrap_i64 (a := (↑st.length : Int) - (0 : Int)) (by omega) (by omega))
          let t7 : Tp pr := .i (wrap_i64 (a := (↑st.length : Int) - (0 : Int) + (1 : Int)) (by omega) (by omega))
          let t8 : Tp pr := .b (show (decide ((↑st.length : Int) - (0 : Int) + (1 : Int) > (30 : Int))) = false by (simp; omega))
          let t9 : Tp pr := .i (wrap_i64 (a := (↑n : Int) + (1 : Int)) (by omega) (by omega))
          let t11 : Tp pr := .i (wrap_i64 (a := (↑st.length : Int) - (0 : Int)) (by omega) (by omega))
          let t12 : Tp pr := .m (show (decide ((0 : Int) ≤ (0 : Int) ∧ (0 : Int) ≤ (↑st.length : Int) - (0 : Int) ∧ (0 : Nat) + ((↑st.length : Int) - (0 : Int)).toNat ≤ st.length + (0 : Nat))) = true by simp)
          let t14 : Tp pr := .c (show (((↑st.length : Int) - (0 : Int)).toNat - (0 : Nat) : Nat) = st.length by omega)
          let t18 : Tp pr := .m (show (decide ((ints (st.reverse ++ [])).length = st.length + (0 : Nat) ∧ (0 : Nat) + st.length ≤ st.length + (0 : Nat) ∧ st.length + (1 : Nat) ≤ (4294967296 : Nat))) = true by (simp; omega))
          let t19 : Tp pr := .b (show (decide (st.length + (1 : Nat) ≤ st.length + (0 : Nat))) = false by simp)
          let t21 : Tp pr := .n .crows (show ((List.take st.length (ints (st.reverse ++ []))).append (List.take (1 : Nat) (List.drop (0 : Nat) [[C.t (T.int IntKind.i64 m)]]))) = ints st.reverse ++ [[C.t (T.int IntKind.i64 m)]] by simp)
          exact .tpe [t0, t1, t2, .a (hm), .i (rfl : ((↑st.length : Int)) = _), .b (rfl : false = false), t6, t7, t8, t9, .b (rfl : false = false), t11, t12, .c (rfl : ((0 : Nat)) = _), t14, .b (rfl : false = false), .b (rfl : true = true), .m (rfl : true = true), t18, t19, .c (rfl : (st.length + (1 : Nat)) = _), t21] (Out.val (V.tup [V.t (T.int IntKind.i64 (0 : Int)), V.t (T.int IntKind.i64 (0 : Int))]) [Ob.box [V.vec (1 : Nat) (st.length + (1 : Nat)) (1 : Nat) (0 : Nat) (st.length + (1 : Nat)), V.vec (2 : Nat) (10 : Nat) (1 : Nat) (0 : Nat) (10 : Nat), V.t (T.int IntKind.i64 ((↑n : Int) + (1 : Int)))], Ob.vec true (1 : Nat) ((ints st.reverse).append [[C.t (T.int IntKind.i64 m)]]), Ob.vec true (1 : Nat) (ints lo)]) (by kernel_rfl) (((congrArg (fun x => Out.val (V.tup [V.t (T.int IntKind.i64 (0 : Int)), V.t (T.int IntKind.i64 (0 : Int))]) [Ob.box [V.vec (1 : Nat) x (1 : Nat) (0 : Nat) (st.length + (1 : Nat)), V.vec (2 : Nat) (10 : Nat) (1 : Nat) (0 : Nat) (10 : Nat), V.t (T.int IntKind.i64 ((↑n : Int) + (1 : Int)))], Ob.vec true (1 : Nat) ((ints st.reverse).append [[C.t (T.int IntKind.i64 m)]]), Ob.vec true (1 : Nat) (ints lo)]) (show (st.length + (1 : Nat)) = ((m :: st).length + (0 : Nat)) by simp [ints_app, ints_cons, intc])).trans (congrArg (fun x => Out.val (V.tup [V.t (T.int IntKind.i64 (0 : Int)), V.t (T.int IntKind.i64 (0 : Int))]) [Ob.box [V.vec (1 : Nat) ((m :: st).length + (0 : Nat)) (1 : Nat) (0 : Nat) x, V.vec (2 : Nat) (10 : Nat) (1 : Nat) (0 : Nat) (10 : Nat), V.t (T.int IntKind.i64 ((↑n : Int) + (1 : Int)))], Ob.vec true (1 : Nat) ((ints st.reverse).append [[C.t (T.int IntKind.i64 m)]]), Ob.vec true (1 : Nat) (ints lo)]) (show (st.length + (1 : Nat)) = ((m :: st).length) by simp [ints_app, ints_cons, intc]))).trans (congrArg (fun x => Out.val (V.tup [V.t (T.int IntKind.i64 (0 : Int)), V.t (T.int IntKind.i64 (0 : Int))]) [Ob.box [V.vec (1 : Nat) ((m :: st).length + (0 : Nat)) (1 : Nat) (0 : Nat) (m :: st).length, V.vec (2 : Nat) (10 : Nat) (1 : Nat) (0 : Nat) (10 : Nat), V.t (T.int IntKind.i64 ((↑n : Int) + (1 : Int)))], Ob.vec true (1 : Nat) x, Ob.vec true (1 : Nat) (ints lo)]) (show ((ints st.reverse).append [[C.t (T.int IntKind.i64 m)]]) = (ints ((m :: st).reverse ++ [].tail)) by simp [ints_app, ints_cons, intc]))))
        | cons j jk => (
          let t0 : Tp pr := .i (show ((↑(List.map Bc.ce l).length : Int) : Int) = (↑l.length : Int) by simp)
          let t1 : Tp pr := .b (show (decide ((↑n : Int) ≥ (↑l.length : Int))) = false by (simp; omega))
          let t2 : Tp pr := .g .row (show (lkp (List.map Bc.ce l) (↑n : Int)) = some ((Bc.mk (1 : Int) m t).ce) from hgl)
          let t6 : Tp pr := .i (wrap_i64 (a := (↑st.length : Int) - (0 : Int)) (by omega) (by omega))
          let t7 : Tp pr := .i (wrap_i64 (a := (↑st.length : Int) - (0 : Int) + (1 : Int)) (by omega) (by omega))
          let t8 : Tp pr := .b (show (decide ((↑st.length : Int) - (0 : Int) + (1 : Int) > (30 : Int))) = false by (simp; omega))
          let t9 : Tp pr := .i (wrap_i64 (a := (↑n : Int) + (1 : Int)) (by omega) (by omega))
          let t11 : Tp pr := .i (wrap_i64 (a := (↑st.length : Int) - (0 : Int)) (by omega) (by omega))
          let t12 : Tp pr := .m (show (decide ((0 : Int) ≤ (0 : Int) ∧ (0 : Int) ≤ (↑st.length : Int) - (0 : Int) ∧ (0 : Nat) + ((↑st.length : Int) - (0 : Int)).toNat ≤ st.length + (j :: jk).length)) = true by simp)
          let t14 : Tp pr := .c (show (((↑st.length : Int) - (0 : Int)).toNat - (0 : Nat) : Nat) = st.length by omega)
          let t18 : Tp pr := .m (show (decide ((ints (st.reverse ++ j :: jk)).length = st.length + (j :: jk).length ∧ (0 : Nat) + st.length ≤ st.length + (j :: jk).length ∧ st.length + (1 : Nat) ≤ (4294967296 : Nat))) = true by (simp; omega))
          let t19 : Tp pr := .b (show (decide (st.length + (1 : Nat) ≤ st.length + (j :: jk).length)) = true by simp)
          let t21 : Tp pr := .n .crows (show (((List.take st.length (ints (st.reverse ++ j :: jk))).append (List.take (1 : Nat) (List.drop (0 : Nat) [[C.t (T.int IntKind.i64 m)]]))).append (List.drop (st.length + (1 : Nat)) (ints (st.reverse ++ j :: jk)))) = ints st.reverse ++ [C.t (T.int IntKind.i64 m)] :: ints jk by simp)
          exact .tpe [t0, t1, t2, .a (hm), .i (rfl : ((↑st.length : Int)) = _), .b (rfl : false = false), t6, t7, t8, t9, .b (rfl : false = false), t11, t12, .c (rfl : ((0 : Nat)) = _), t14, .b (rfl : false = false), .b (rfl : true = true), .m (rfl : true = true), t18, t19, .c (rfl : (st.length + (1 : Nat)) = _), t21] (Out.val (V.tup [V.t (T.int IntKind.i64 (0 : Int)), V.t (T.int IntKind.i64 (0 : Int))]) [Ob.box [V.vec (1 : Nat) (st.length + (j :: jk).length) (1 : Nat) (0 : Nat) (st.length + (1 : Nat)), V.vec (2 : Nat) (10 : Nat) (1 : Nat) (0 : Nat) (10 : Nat), V.t (T.int IntKind.i64 ((↑n : Int) + (1 : Int)))], Ob.vec true (1 : Nat) ((ints st.reverse).append ([C.t (T.int IntKind.i64 m)] :: ints jk)), Ob.vec true (1 : Nat) (ints lo)]) (by kernel_rfl) (((congrArg (fun x => Out.val (V.tup [V.t (T.int IntKind.i64 (0 : Int)), V.t (T.int IntKind.i64 (0 : Int))]) [Ob.box [V.vec (1 : Nat) x (1 : Nat) (0 : Nat) (st.length + (1 : Nat)), V.vec (2 : Nat) (10 : Nat) (1 : Nat) (0 : Nat) (10 : Nat), V.t (T.int IntKind.i64 ((↑n : Int) + (1 : Int)))], Ob.vec true (1 : Nat) ((ints st.reverse).append ([C.t (T.int IntKind.i64 m)] :: ints jk)), Ob.vec true (1 : Nat) (ints lo)]) (show (st.length + (j :: jk).length) = ((m :: st).length + (j :: jk).tail.length) by (simp; omega))).trans (congrArg (fun x => Out.val (V.tup [V.t (T.int IntKind.i64 (0 : Int)), V.t (T.int IntKind.i64 (0 : Int))]) [Ob.box [V.vec (1 : Nat) ((m :: st).length + (j :: jk).tail.length) (1 : Nat) (0 : Nat) x, V.vec (2 : Nat) (10 : Nat) (1 : Nat) (0 : Nat) (10 : Nat), V.t (T.int IntKind.i64 ((↑n : Int) + (1 : Int)))], Ob.vec true (1 : Nat) ((ints st.reverse).append ([C.t (T.int IntKind.i64 m)] :: ints jk)), Ob.vec true (1 : Nat) (ints lo)]) (show (st.length + (1 : Nat)) = ((m :: st).length) by simp [ints_app, ints_cons, intc]))).trans (congrArg (fun x => Out.val (V.tup [V.t (T.int IntKind.i64 (0 : Int)), V.t (T.int IntKind.i64 (0 : Int))]) [Ob.box [V.vec (1 : Nat) ((m :: st).length + (j :: jk).tail.length) (1 : Nat) (0 : Nat) (m :: st).length, V.vec (2 : Nat) (10 : Nat) (1 : Nat) (0 : Nat) (10 : Nat), V.t (T.int IntKind.i64 ((↑n : Int) + (1 : Int)))], Ob.vec true (1 : Nat) x, Ob.vec true (1 : Nat) (ints lo)]) (show ((ints st.reverse).append ([C.t (T.int IntKind.i64 m)] :: ints jk)) = (ints ((m :: st).reverse ++ (j :: jk).tail)) by simp [ints_app, ints_cons, intc]))))
      · have hm := l16Takes_ev ⟨2, m, t⟩
        have e1 : mvOff (2 : Int) = 0 := rfl
        have e2 : mvOn (2 : Int) = 1 := rfl
        simp only [e1, e2] at hm hc
        have hmb : 0 ≤ m ∧ m ≤ 9 := by simp [bcOk] at hb; omega
        have gl := ints_get (l := lo) (k := m.toNat) (by omega)
        rw [show stepX ⟨2, m, t⟩ lo st jk n = ⟨0, lo, lo.getD m.toNat 0 :: st, jk.tail, n + 1⟩ by simp [stepX, e1, e2]; omega]
        rw [sOut0]
        generalize lo.getD m.toNat 0 = v at *
        cases jk with
        | nil => (
          let t0 : Tp pr := .i (show ((↑(List.map Bc.ce l).length : Int) : Int) = (↑l.length : Int) by simp)
          let t1 : Tp pr := .b (show (decide ((↑n : Int) ≥ (↑l.length : Int))) = false by (simp; omega))
          let t2 : Tp pr := .g .row (show (lkp (List.map Bc.ce l) (↑n : Int)) = some ((Bc.mk (2 : Int) m t).ce) from hgl)
          let t6 : Tp pr := .i (wrap_i64 (a := (↑st.length : Int) - (0 : Int)) (by omega) (by omega))
          let t7 : Tp pr := .i (wrap_i64 (a := (↑st.length : Int) - (0 : Int) + (1 : Int)) (by omega) (by omega))
          let t8 : Tp pr := .b (show (decide ((↑st.length : Int) - (0 : Int) + (1 : Int) > (30 : Int))) = false by (simp; omega))
          let t9 : Tp pr := .i (wrap_i64 (a := (↑n : Int) + (1 : Int)) (by omega) (by omega))
          let t11 : Tp pr := .i (wrap_i64 (a := (↑st.length : Int) - (0 : Int)) (by omega) (by omega))
          let t12 : Tp pr := .m (show (decide ((0 : Int) ≤ (0 : Int) ∧ (0 : Int) ≤ (↑st.length : Int) - (0 : Int) ∧ (0 : Nat) + ((↑st.length : Int) - (0 : Int)).toNat ≤ st.length + (0 : Nat))) = true by simp)
          let t14 : Tp pr := .c (show (((↑st.length : Int) - (0 : Int)).toNat - (0 : Nat) : Nat) = st.length by omega)
          let t25 : Tp pr := .m (show (decide ((0 : Int) ≤ m ∧ m.toNat < (10 : Nat))) = true by (simp; omega))
          let t26 : Tp pr := .c (show ((0 : Nat) + m.toNat : Nat) = m.toNat by omega)
          let t28 : Tp pr := .m (show (decide ((ints lo).length = (10 : Nat))) = true by simp [*])
          let t29 : Tp pr := .g .crow (show ((ints lo)[m.toNat]?) = some (intc v) from gl)
          let t33 : Tp pr := .m (show (decide ((ints (st.reverse ++ [])).length = st.length + (0 : Nat) ∧ (0 : Nat) + st.length ≤ st.length + (0 : Nat) ∧ st.length + (1 : Nat) ≤ (4294967296 : Nat))) = true by (simp; omega))
          let t34 : Tp pr := .b (show (decide (st.length + (1 : Nat) ≤ st.length + (0 : Nat))) = false by simp)
          let t36 : Tp pr := .n .crows (show ((List.take st.length (ints (st.reverse ++ []))).append (List.take (1 : Nat) (List.drop (0 : Nat) [[C.t (T.int IntKind.i64 v)]]))) = ints st.reverse ++ [[C.t (T.int IntKind.i64 v)]] by simp)
          exact .tpe [t0, t1, t2, .a (hm), .i (rfl : ((↑st.length : Int)) = _), .b (rfl : false = false), t6, t7, t8, t9, .b (rfl : false = false), t11, t12, .c (rfl : ((0 : Nat)) = _), t14, .b (rfl : false = false), .b (rfl : false = false), .b (rfl : true = true), .m (rfl : true = true), .m (rfl : true = true), .m (rfl : true = true), .m (rfl : true = true), .m (rfl : true = true), .m (rfl : true = true), .m (rfl : true = true), t25, t26, .m (rfl : true = true), t28, t29, .m (rfl : true = true), .m (rfl : true = true), .m (rfl : true = true), t33, t34, .c (rfl : (st.length + (1 : Nat)) = _), t36, .m (rfl : true = true), .m (rfl : true = true)] (Out.val (V.tup [V.t (T.int IntKind.i64 (0 : Int)), V.t (T.int IntKind.i64 (0 : Int))]) [Ob.box [V.vec (1 : Nat) (st.length + (1 : Nat)) (1 : Nat) (0 : Nat) (st.length + (1 : Nat)), V.vec (2 : Nat) (10 : Nat) (1 : Nat) (0 : Nat) (10 : Nat), V.t (T.int IntKind.i64 ((↑n : Int) + (1 : Int)))], Ob.vec true (1 : Nat) ((ints st.reverse).append [[C.t (T.int IntKind.i64 v)]]), Ob.vec true (1 : Nat) (ints lo)]) (by kernel_rfl) (((congrArg (fun x => Out.val (V.tup [V.t (T.int IntKind.i64 (0 : Int)), V.t (T.int IntKind.i64 (0 : Int))]) [Ob.box [V.vec (1 : Nat) x (1 : Nat) (0 : Nat) (st.length + (1 : Nat)), V.vec (2 : Nat) (10 : Nat) (1 : Nat) (0 : Nat) (10 : Nat), V.t (T.int IntKind.i64 ((↑n : Int) + (1 : Int)))], Ob.vec true (1 : Nat) ((ints st.reverse).append [[C.t (T.int IntKind.i64 v)]]), Ob.vec true (1 : Nat) (ints lo)]) (show (st.length + (1 : Nat)) = ((v :: st).length + (0 : Nat)) by simp [ints_app, ints_cons, intc])).trans (congrArg (fun x => Out.val (V.tup [V.t (T.int IntKind.i64 (0 : Int)), V.t (T.int IntKind.i64 (0 : Int))]) [Ob.box [V.vec (1 : Nat) ((v :: st).length + (0 : Nat)) (1 : Nat) (0 : Nat) x, V.vec (2 : Nat) (10 : Nat) (1 : Nat) (0 : Nat) (10 : Nat), V.t (T.int IntKind.i64 ((↑n : Int) + (1 : Int)))], Ob.vec true (1 : Nat) ((ints st.reverse).append [[C.t (T.int IntKind.i64 v)]]), Ob.vec true (1 : Nat) (ints lo)]) (show (st.length + (1 : Nat)) = ((v :: st).length) by simp [ints_app, ints_cons, intc]))).trans (congrArg (fun x => Out.val (V.tup [V.t (T.int IntKind.i64 (0 : Int)), V.t (T.int IntKind.i64 (0 : Int))]) [Ob.box [V.vec (1 : Nat) ((v :: st).length + (0 : Nat)) (1 : Nat) (0 : Nat) (v :: st).length, V.vec (2 : Nat) (10 : Nat) (1 : Nat) (0 : Nat) (10 : Nat), V.t (T.int IntKind.i64 ((↑n : Int) + (1 : Int)))], Ob.vec true (1 : Nat) x, Ob.vec true (1 : Nat) (ints lo)]) (show ((ints st.reverse).append [[C.t (T.int IntKind.i64 v)]]) = (ints ((v :: st).reverse ++ [].tail)) by simp [ints_app, ints_cons, intc]))))
        | cons j jk => (
          let t0 : Tp pr := .i (show ((↑(List.map Bc.ce l).length : Int) : Int) = (↑l.length : Int) by simp)
          let t1 : Tp pr := .b (show (decide ((↑n : Int) ≥ (↑l.length : Int))) = false by (simp; omega))
          let t2 : Tp pr := .g .row (show (lkp (List.map Bc.ce l) (↑n : Int)) = some ((Bc.mk (2 : Int) m t).ce) from hgl)
          let t6 : Tp pr := .i (wrap_i64 (a := (↑st.length : Int) - (0 : Int)) (by omega) (by omega))
          let t7 : Tp pr := .i (wrap_i64 (a := (↑st.length : Int) - (0 : Int) + (1 : Int)) (by omega) (by omega))
          let t8 : Tp pr := .b (show (decide ((↑st.length : Int) - (0 : Int) + (1 : Int) > (30 : Int))) = false by (simp; omega))
          let t9 : Tp pr := .i (wrap_i64 (a := (↑n : Int) + (1 : Int)) (by omega) (by omega))
          let t11 : Tp pr := .i (wrap_i64 (a := (↑st.length : Int) - (0 : Int)) (by omega) (by omega))
          let t12 : Tp pr := .m (show (decide ((0 : Int) ≤ (0 : Int) ∧ (0 : Int) ≤ (↑st.length : Int) - (0 : Int) ∧ (0 : Nat) + ((↑st.length : Int) - (0 : Int)).toNat ≤ st.length + (j :: jk).length)) = true by simp)
          let t14 : Tp pr := .c (show (((↑st.length : Int) - (0 : Int)).toNat - (0 : Nat) : Nat) = st.length by omega)
          let t25 : Tp pr := .m (show (decide ((0 : Int) ≤ m ∧ m.toNat < (10 : Nat))) = true by (simp; omega))
          let t26 : Tp pr := .c (show ((0 : Nat) + m.toNat : Nat) = m.toNat by omega)
          let t28 : Tp pr := .m (show (decide ((ints lo).length = (10 : Nat))) = true by simp [*])
          let t29 : Tp pr := .g .crow (show ((ints lo)[m.toNat]?) = some (intc v) from gl)
          let t33 : Tp pr := .m (show (decide ((ints (st.reverse ++ j :: jk)).length = st.length + (j :: jk).length ∧ (0 : Nat) + st.length ≤ st.length + (j :: jk).length ∧ st.length + (1 : Nat) ≤ (4294967296 : Nat))) = true by (simp; omega))
          let t34 : Tp pr := .b (show (decide (st.length + (1 : Nat) ≤ st.length + (j :: jk).length)) = true by simp)
          let t36 : Tp pr := .n .crows (show (((List.take st.length (ints (st.reverse ++ j :: jk))).append (List.take (1 : Nat) (List.drop (0 : Nat) [[C.t (T.int IntKind.i64 v)]]))).append (List.drop (st.length + (1 : Nat)) (ints (st.reverse ++ j :: jk)))) = ints st.reverse ++ [C.t (T.int IntKind.i64 v)] :: ints jk by simp)
          exact .tpe [t0, t1, t2, .a (hm), .i (rfl : ((↑st.length : Int)) = _), .b (rfl : false = false), t6, t7, t8, t9, .b (rfl : false = false), t11, t12, .c (rfl : ((0 : Nat)) = _), t14, .b (rfl : false = false), .b (rfl : false = false), .b (rfl : true = true), .m (rfl : true = true), .m (rfl : true = true), .m (rfl : true = true), .m (rfl : true = true), .m (rfl : true = true), .m (rfl : true = true), .m (rfl : true = true), t25, t26, .m (rfl : true = true), t28, t29, .m (rfl : true = true), .m (rfl : true = true), .m (rfl : true = true), t33, t34, .c (rfl : (st.length + (1 : Nat)) = _), t36, .m (rfl : true = true), .m (rfl : true = true)] (Out.val (V.tup [V.t (T.int IntKind.i64 (0 : Int)), V.t (T.int IntKind.i64 (0 : Int))]) [Ob.box [V.vec (1 : Nat) (st.length + (j :: jk).length) (1 : Nat) (0 : Nat) (st.length + (1 : Nat)), V.vec (2 : Nat) (10 : Nat) (1 : Nat) (0 : Nat) (10 : Nat), V.t (T.int IntKind.i64 ((↑n : Int) + (1 : Int)))], Ob.vec true (1 : Nat) ((ints st.reverse).append ([C.t (T.int IntKind.i64 v)] :: ints jk)), Ob.vec true (1 : Nat) (ints lo)]) (by kernel_rfl) (((congrArg (fun x => Out.val (V.tup [V.t (T.int IntKind.i64 (0 : Int)), V.t (T.int IntKind.i64 (0 : Int))]) [Ob.box [V.vec (1 : Nat) x (1 : Nat) (0 : Nat) (st.length + (1 : Nat)), V.vec (2 : Nat) (10 : Nat) (1 : Nat) (0 : Nat) (10 : Nat), V.t (T.int IntKind.i64 ((↑n : Int) + (1 : Int)))], Ob.vec true (1 : Nat) ((ints st.reverse).append ([C.t (T.int IntKind.i64 v)] :: ints jk)), Ob.vec true (1 : Nat) (ints lo)]) (show (st.length + (j :: jk).length) = ((v :: st).length + (j :: jk).tail.length) by (simp; omega))).trans (congrArg (fun x => Out.val (V.tup [V.t (T.int IntKind.i64 (0 : Int)), V.t (T.int IntKind.i64 (0 : Int))]) [Ob.box [V.vec (1 : Nat) ((v :: st).length + (j :: jk).tail.length) (1 : Nat) (0 : Nat) x, V.vec (2 : Nat) (10 : Nat) (1 : Nat) (0 : Nat) (10 : Nat), V.t (T.int IntKind.i64 ((↑n : Int) + (1 : Int)))], Ob.vec true (1 : Nat) ((ints st.reverse).append ([C.t (T.int IntKind.i64 v)] :: ints jk)), Ob.vec true (1 : Nat) (ints lo)]) (show (st.length + (1 : Nat)) = ((v :: st).length) by simp [ints_app, ints_cons, intc]))).trans (congrArg (fun x => Out.val (V.tup [V.t (T.int IntKind.i64 (0 : Int)), V.t (T.int IntKind.i64 (0 : Int))]) [Ob.box [V.vec (1 : Nat) ((v :: st).length + (j :: jk).tail.length) (1 : Nat) (0 : Nat) (v :: st).length, V.vec (2 : Nat) (10 : Nat) (1 : Nat) (0 : Nat) (10 : Nat), V.t (T.int IntKind.i64 ((↑n : Int) + (1 : Int)))], Ob.vec true (1 : Nat) x, Ob.vec true (1 : Nat) (ints lo)]) (show ((ints st.reverse).append ([C.t (T.int IntKind.i64 v)] :: ints jk)) = (ints ((v :: st).reverse ++ (j :: jk).tail)) by simp [ints_app, ints_cons, intc]))))
      · have hm := l16Takes_ev ⟨3, m, t⟩
        have e1 : mvOff (3 : Int) = 1 := rfl
        have e2 : mvOn (3 : Int) = 0 := rfl
        simp only [e1, e2] at hm hc
        have hmb : 0 ≤ m ∧ m ≤ 9 := by simp [bcOk] at hb; omega
        have gl := ints_get (l := lo) (k := m.toNat) (by omega)
        cases st with
        | nil => simp at hc
        | cons a r =>
          simp only [List.length_cons] at h3 hc
          have ha := h4 a (by simp)
          have gt : (ints ((a :: r).reverse ++ jk))[r.length]? = some (intc a) := by simp
          rw [show stepX ⟨3, m, t⟩ lo (a :: r) jk n = ⟨0, lo.set m.toNat a, r, a :: jk, n + 1⟩ by simp [stepX, e1, e2]; omega]
          rw [sOut0]
          let t0 : Tp pr := .i (show ((↑(List.map Bc.ce l).length : Int) : Int) = (↑l.length : Int) by simp)
          let t1 : Tp pr := .b (show (decide ((↑n : Int) ≥ (↑l.length : Int))) = false by (simp; omega))
          let t2 : Tp pr := .g .row (show (lkp (List.map Bc.ce l) (↑n : Int)) = some ((Bc.mk (3 : Int) m t).ce) from hgl)
          let t4 : Tp pr := .i (show ((↑(a :: r).length : Int) : Int) = (↑r.length : Int) + (1 : Int) by simp)
          let t6 : Tp pr := .i (wrap_i64 (a := (↑r.length : Int) + (1 : Int) - (1 : Int)) (by omega) (by omega))
          let t7 : Tp pr := .i (wrap_i64 (a := (↑r.length : Int) + (1 : Int) - (1 : Int) + (0 : Int)) (by omega) (by omega))
          let t8 : Tp pr := .b (show (decide ((↑r.length : Int) + (1 : Int) - (1 : Int) + (0 : Int) > (30 : Int))) = false by (simp; omega))
          let t9 : Tp pr := .i (wrap_i64 (a := (↑n : Int) + (1 : Int)) (by omega) (by omega))
          let t11 : Tp pr := .i (wrap_i64 (a := (↑r.length : Int) + (1 : Int) - (1 : Int)) (by omega) (by omega))
          let t12 : Tp pr := .m (show (decide ((0 : Int) ≤ (↑r.length : Int) + (1 : Int) - (1 : Int) ∧ ((↑r.length : Int) + (1 : Int) - (1 : Int)).toNat < (a :: r).length)) = true by simp)
          let t13 : Tp pr := .c (show ((0 : Nat) + ((↑r.length : Int) + (1 : Int) - (1 : Int)).toNat : Nat) = r.length by omega)
          let t14 : Tp pr := .m (show (decide ((ints ((a :: r).reverse ++ jk)).length = (a :: r).length + jk.length)) = true by (simp; omega))
          let t15 : Tp pr := .g .crow (show ((ints ((a :: r).reverse ++ jk))[r.length]?) = some (intc a) from gt)
          let t16 : Tp pr := .i (wrap_i64 (a := (↑r.length : Int) + (1 : Int) - (1 : Int)) (by omega) (by omega))
          let t17 : Tp pr := .m (show (decide ((0 : Int) ≤ (0 : Int) ∧ (0 : Int) ≤ (↑r.length : Int) + (1 : Int) - (1 : Int) ∧ (0 : Nat) + ((↑r.length : Int) + (1 : Int) - (1 : Int)).toNat ≤ (a :: r).length + jk.length)) = true by (simp; omega))
          let t19 : Tp pr := .c (show (((↑r.length : Int) + (1 : Int) - (1 : Int)).toNat - (0 : Nat) : Nat) = r.length by omega)
          let t31 : Tp pr := .m (show (decide ((0 : Int) ≤ m ∧ m.toNat < (10 : Nat))) = true by (simp; omega))
          let t32 : Tp pr := .c (show ((0 : Nat) + m.toNat : Nat) = m.toNat by omega)
          let t34 : Tp pr := .m (show (decide ((ints lo).length = (10 : Nat))) = true by simp [*])
          let t35 : Tp pr := .g .crow (show ((ints lo)[m.toNat]?) = some (intc (lo.getD m.toNat (0 : Int))) from gl)
          let t36 : Tp pr := .n .crows (show ((ints lo).set m.toNat [C.t (T.int IntKind.i64 a)]) = ints (lo.set m.toNat a) by simp)
          exact .tpe [t0, t1, t2, .a (hm), t4, .b (rfl : false = false), t6, t7, t8, t9, .b (rfl : true = true), t11, t12, t13, t14, t15, t16, t17, .c (rfl : ((0 : Nat)) = _), t19, .b (rfl : false = false), .b (rfl : false = false), .b (rfl : false = false), .b (rfl : true = true), .m (rfl : true = true), .m (rfl : true = true), .m (rfl : true = true), .m (rfl : true = true), .m (rfl : true = true), .m (rfl : true = true), .m (rfl : true = true), t31, t32, .m (rfl : true = true), t34, t35, t36, .m (rfl : true = true)] (Out.val (V.tup [V.t (T.int IntKind.i64 (0 : Int)), V.t (T.int IntKind.i64 (0 : Int))]) [Ob.box [V.vec (1 : Nat) ((a :: r).length + jk.length) (1 : Nat) (0 : Nat) r.length, V.vec (2 : Nat) (10 : Nat) (1 : Nat) (0 : Nat) (10 : Nat), V.t (T.int IntKind.i64 ((↑n : Int) + (1 : Int)))], Ob.vec true (1 : Nat) (ints ((a :: r).reverse ++ jk)), Ob.vec true (1 : Nat) (ints (lo.set m.toNat a))]) (by kernel_rfl) ((congrArg (fun x => Out.val (V.tup [V.t (T.int IntKind.i64 (0 : Int)), V.t (T.int IntKind.i64 (0 : Int))]) [Ob.box [V.vec (1 : Nat) x (1 : Nat) (0 : Nat) r.length, V.vec (2 : Nat) (10 : Nat) (1 : Nat) (0 : Nat) (10 : Nat), V.t (T.int IntKind.i64 ((↑n : Int) + (1 : Int)))], Ob.vec true (1 : Nat) (ints ((a :: r).reverse ++ jk)), Ob.vec true (1 : Nat) (ints (lo.set m.toNat a))]) (show ((a :: r).length + jk.length) = (r.length + (a :: jk).length) by (simp; omega))).trans (congrArg (fun x => Out.val (V.tup [V.t (T.int IntKind.i64 (0 : Int)), V.t (T.int IntKind.i64 (0 : Int))]) [Ob.box [V.vec (1 : Nat) (r.length + (a :: jk).length) (1 : Nat) (0 : Nat) r.length, V.vec (2 : Nat) (10 : Nat) (1 : Nat) (0 : Nat) (10 : Nat), V.t (T.int IntKind.i64 ((↑n : Int) + (1 : Int)))], Ob.vec true (1 : Nat) x, Ob.vec true (1 : Nat) (ints (lo.set m.toNat a))]) (show (ints ((a :: r).reverse ++ jk)) = (ints (r.reverse ++ a :: jk)) by simp [ints_app, ints_cons, intc])))
      · have hm := l16Takes_ev ⟨4, m, t⟩
        have e1 : mvOff (4 : Int) = 2 := rfl
        have e2 : mvOn (4 : Int) = 1 := rfl
        simp only [e1, e2] at hm hc
        cases st with
        | nil => simp at hc
        | cons a r =>
         cases r with
         | nil => simp at hc
         | cons b q =>
          simp only [List.length_cons] at h3 hc
          obtain ⟨ha1, ha2⟩ := h4 a (by simp)
          obtain ⟨hb1, hb2⟩ := h4 b (by simp)
          have gt : (ints ((a :: b :: q).reverse ++ jk))[q.length + 1]? = some (intc a) := by
            have := get_rev (b :: q) jk a
            simpa using this
          have gt2 : (ints ((a :: b :: q).reverse ++ jk))[q.length]? = some (intc b) := by
            simp
          have gt3 : (ints ((a :: b :: q).reverse ++ jk))[((q.length : Int) + 1 + 1 - 2).toNat]? = some (intc b) := by rw [show ((q.length : Int) + 1 + 1 - 2).toNat = q.length by omega]; exact gt2
          have hst : strength t.toList > 2 := by simp [bcOk] at hb; exact hb.2
          have hd := do2_two t.toList b a (by omega) (fun e => by rw [e] at hst; exact absurd hst (by decide)) (fun e => by rw [e] at hst; exact absurd hst (by decide)) hb1 hb2
          have hdo := l2Do_ev t b a hb1 hb2 ha1 ha2
          have hcode := two2_code t.toList b a
          rw [show stepX ⟨4, m, t⟩ lo (a :: b :: q) jk n = ⟨endOf (two2 t.toList b a).2, lo, (two2 t.toList b a).1 :: q, a :: jk, n + 1⟩ by simp [stepX, e1, e2]; omega]
          rw [hd] at hcode ⊢
          clear hd
          generalize do2 t.toList b a = d at *
          obtain ⟨v, c⟩ := d
          dsimp only at hdo
          unfold outB at hcode ⊢
          dsimp only at hcode ⊢
          by_cases hc0 : c = 0
          · subst hc0
            by_cases hv : -1000000000 ≤ v ∧ v ≤ 1000000000
            · rw [if_neg (fun h => h.2 hv)]
              rw [show endOf (v, (0 : Int)).2 = 0 from rfl, sOut0]
              let t0 : Tp pr := .i (show ((↑(List.map Bc.ce l).length : Int) : Int) = (↑l.length : Int) by simp)
              let t1 : Tp pr := .b (show (decide ((↑n : Int) ≥ (↑l.length : Int))) = false by (simp; omega))
              let t2 : Tp pr := .g .row (show (lkp (List.map Bc.ce l) (↑n : Int)) = some ((Bc.mk (4 : Int) m t).ce) from hgl)
              let t4 : Tp pr := .i (show ((↑(a :: b :: q).length : Int) : Int) = (↑q.length : Int) + (1 : Int) + (1 : Int) by simp)
              let t6 : Tp pr := .i (wrap_i64 (a := (↑q.length : Int) + (1 : Int) + (1 : Int) - (2 : Int)) (by omega) (by omega))
              let t7 : Tp pr := .i (wrap_i64 (a := (↑q.length : Int) + (1 : Int) + (1 : Int) - (2 : Int) + (1 : Int)) (by omega) (by omega))
              let t8 : Tp pr := .b (show (decide ((↑q.length : Int) + (1 : Int) + (1 : Int) - (2 : Int) + (1 : Int) > (30 : Int))) = false by (simp; omega))
              let t9 : Tp pr := .i (wrap_i64 (a := (↑n : Int) + (1 : Int)) (by omega) (by omega))
              let t11 : Tp pr := .i (wrap_i64 (a := (↑q.length : Int) + (1 : Int) + (1 : Int) - (1 : Int)) (by omega) (by omega))
              let t12 : Tp pr := .m (show (decide ((0 : Int) ≤ (↑q.length : Int) + (1 : Int) + (1 : Int) - (1 : Int) ∧ ((↑q.length : Int) + (1 : Int) + (1 : Int) - (1 : Int)).toNat < (a :: b :: q).length)) = true by (simp; omega))
              let t13 : Tp pr := .c (show ((0 : Nat) + ((↑q.length : Int) + (1 : Int) + (1 : Int) - (1 : Int)).toNat : Nat) = q.length + (1 : Nat) by omega)
              let t14 : Tp pr := .m (show (decide ((ints ((a :: b :: q).reverse ++ jk)).length = (a :: b :: q).length + jk.length)) = true by (simp; omega))
              let t15 : Tp pr := .g .crow (show ((ints ((a :: b :: q).reverse ++ jk))[q.length + (1 : Nat)]?) = some (intc a) from gt)
              let t16 : Tp pr := .i (wrap_i64 (a := (↑q.length : Int) + (1 : Int) + (1 : Int) - (2 : Int)) (by omega) (by omega))
              let t17 : Tp pr := .m (show (decide ((0 : Int) ≤ (0 : Int) ∧ (0 : Int) ≤ (↑q.length : Int) + (1 : Int) + (1 : Int) - (2 : Int) ∧ (0 : Nat) + ((↑q.length : Int) + (1 : Int) + (1 : Int) - (2 : Int)).toNat ≤ (a :: b :: q).length + jk.length)) = true by (simp; omega))
              let t19 : Tp pr := .c (show (((↑q.length : Int) + (1 : Int) + (1 : Int) - (2 : Int)).toNat - (0 : Nat) : Nat) = q.length by omega)
              let t35 : Tp pr := .i (wrap_i64 (a := (↑q.length : Int) + (1 : Int) + (1 : Int) - (2 : Int)) (by omega) (by omega))
              let t37 : Tp pr := .m (show (decide ((0 : Int) ≤ (↑q.length : Int) + (1 : Int) + (1 : Int) - (2 : Int) ∧ ((↑q.length : Int) + (1 : Int) + (1 : Int) - (2 : Int)).toNat < (a :: b :: q).length)) = true by (simp; omega))
              let t38 : Tp pr := .c (show ((0 : Nat) + ((↑q.length : Int) + (1 : Int) + (1 : Int) - (2 : Int)).toNat : Nat) = q.length by omega)
              let t40 : Tp pr := .m (show (decide ((ints ((a :: b :: q).reverse ++ jk)).length = (a :: b :: q).length + jk.length)) = true by (simp; omega))
              let t41 : Tp pr := .g .crow (show ((ints ((a :: b :: q).reverse ++ jk))[q.length]?) = some (intc b) from gt2)
              let t54 : Tp pr := .b (show (!(decide (v ≥ (-1000000000 : Int)) && decide (v ≤ (1000000000 : Int)))) = false by (simp; omega))
              let t56 : Tp pr := .m (show (decide ((ints ((a :: b :: q).reverse ++ jk)).length = (a :: b :: q).length + jk.length ∧ (0 : Nat) + q.length ≤ (a :: b :: q).length + jk.length ∧ q.length + (1 : Nat) ≤ (4294967296 : Nat))) = true by (simp; omega))
              let t57 : Tp pr := .b (show (decide (q.length + (1 : Nat) ≤ (a :: b :: q).length + jk.length)) = true by (simp; omega))
              let t59 : Tp pr := .n .crows (show (((List.take q.length (ints ((a :: b :: q).reverse ++ jk))).append (List.take (1 : Nat) (List.drop (0 : Nat) [[C.t (T.int IntKind.i64 v)]]))).append (List.drop (q.length + (1 : Nat)) (ints ((a :: b :: q).reverse ++ jk)))) = ints q.reverse ++ [C.t (T.int IntKind.i64 v)] :: ints (a :: jk) by simp)
              exact .tpe [t0, t1, t2, .a (hm), t4, .b (rfl : false = false), t6, t7, t8, t9, .b (rfl : true = true), t11, t12, t13, t14, t15, t16, t17, .c (rfl : ((0 : Nat)) = _), t19, .b (rfl : false = false), .b (rfl : false = false), .b (rfl : false = false), .b (rfl : false = false), .b (rfl : false = false), .b (rfl : false = false), .b (rfl : false = false), .b (rfl : true = true), .m (rfl : true = true), .m (rfl : true = true), .m (rfl : true = true), .m (rfl : true = true), .m (rfl : true = true), .m (rfl : true = true), .m (rfl : true = true), t35, .m (rfl : true = true), t37, t38, .m (rfl : true = true), t40, t41, .m (rfl : true = true), .m (rfl : true = true), .a (hdo), .m (rfl : true = true), .m (rfl : true = true), .m (rfl : true = true), .m (rfl : true = true), .m (rfl : true = true), .m (rfl : true = true), .b (rfl : false = false), .b (rfl : false = false), .a (l2Bound_ev (v)), t54, .m (rfl : true = true), t56, t57, .c (rfl : (q.length + (1 : Nat)) = _), t59] (Out.val (V.tup [V.t (T.int IntKind.i64 (0 : Int)), V.t (T.int IntKind.i64 (0 : Int))]) [Ob.box [V.vec (1 : Nat) ((a :: b :: q).length + jk.length) (1 : Nat) (0 : Nat) (q.length + (1 : Nat)), V.vec (2 : Nat) (10 : Nat) (1 : Nat) (0 : Nat) (10 : Nat), V.t (T.int IntKind.i64 ((↑n : Int) + (1 : Int)))], Ob.vec true (1 : Nat) ((ints q.reverse).append ([C.t (T.int IntKind.i64 v)] :: ints (a :: jk))), Ob.vec true (1 : Nat) (ints lo)]) (by kernel_rfl) (((congrArg (fun x => Out.val (V.tup [V.t (T.int IntKind.i64 (0 : Int)), V.t (T.int IntKind.i64 (0 : Int))]) [Ob.box [V.vec (1 : Nat) x (1 : Nat) (0 : Nat) (q.length + (1 : Nat)), V.vec (2 : Nat) (10 : Nat) (1 : Nat) (0 : Nat) (10 : Nat), V.t (T.int IntKind.i64 ((↑n : Int) + (1 : Int)))], Ob.vec true (1 : Nat) ((ints q.reverse).append ([C.t (T.int IntKind.i64 v)] :: ints (a :: jk))), Ob.vec true (1 : Nat) (ints lo)]) (show ((a :: b :: q).length + jk.length) = (((v, (0 : Int)).fst :: q).length + (a :: jk).length) by (simp; omega))).trans (congrArg (fun x => Out.val (V.tup [V.t (T.int IntKind.i64 (0 : Int)), V.t (T.int IntKind.i64 (0 : Int))]) [Ob.box [V.vec (1 : Nat) (((v, (0 : Int)).fst :: q).length + (a :: jk).length) (1 : Nat) (0 : Nat) x, V.vec (2 : Nat) (10 : Nat) (1 : Nat) (0 : Nat) (10 : Nat), V.t (T.int IntKind.i64 ((↑n : Int) + (1 : Int)))], Ob.vec true (1 : Nat) ((ints q.reverse).append ([C.t (T.int IntKind.i64 v)] :: ints (a :: jk))), Ob.vec true (1 : Nat) (ints lo)]) (show (q.length + (1 : Nat)) = (((v, (0 : Int)).fst :: q).length) by simp [ints_app, ints_cons, intc]))).trans (congrArg (fun x => Out.val (V.tup [V.t (T.int IntKind.i64 (0 : Int)), V.t (T.int IntKind.i64 (0 : Int))]) [Ob.box [V.vec (1 : Nat) (((v, (0 : Int)).fst :: q).length + (a :: jk).length) (1 : Nat) (0 : Nat) ((v, (0 : Int)).fst :: q).length, V.vec (2 : Nat) (10 : Nat) (1 : Nat) (0 : Nat) (10 : Nat), V.t (T.int IntKind.i64 ((↑n : Int) + (1 : Int)))], Ob.vec true (1 : Nat) x, Ob.vec true (1 : Nat) (ints lo)]) (show ((ints q.reverse).append ([C.t (T.int IntKind.i64 v)] :: ints (a :: jk))) = (ints (((v, (0 : Int)).fst :: q).reverse ++ a :: jk)) by simp [ints_app, ints_cons, intc])))
            · rw [if_pos ⟨rfl, hv⟩]
              rw [show endOf ((0 : Int), (3 : Int)).2 = 3 from rfl, sOut3]
              let t0 : Tp pr := .i (show ((↑(List.map Bc.ce l).length : Int) : Int) = (↑l.length : Int) by simp)
              let t1 : Tp pr := .b (show (decide ((↑n : Int) ≥ (↑l.length : Int))) = false by (simp; omega))
              let t2 : Tp pr := .g .row (show (lkp (List.map Bc.ce l) (↑n : Int)) = some ((Bc.mk (4 : Int) m t).ce) from hgl)
              let t4 : Tp pr := .i (show ((↑(a :: b :: q).length : Int) : Int) = (↑q.length : Int) + (1 : Int) + (1 : Int) by simp)
              let t6 : Tp pr := .i (wrap_i64 (a := (↑q.length : Int) + (1 : Int) + (1 : Int) - (2 : Int)) (by omega) (by omega))
              let t7 : Tp pr := .i (wrap_i64 (a := (↑q.length : Int) + (1 : Int) + (1 : Int) - (2 : Int) + (1 : Int)) (by omega) (by omega))
              let t8 : Tp pr := .b (show (decide ((↑q.length : Int) + (1 : Int) + (1 : Int) - (2 : Int) + (1 : Int) > (30 : Int))) = false by (simp; omega))
              let t9 : Tp pr := .i (wrap_i64 (a := (↑n : Int) + (1 : Int)) (by omega) (by omega))
              let t11 : Tp pr := .i (wrap_i64 (a := (↑q.length : Int) + (1 : Int) + (1 : Int) - (1 : Int)) (by omega) (by omega))
              let t12 : Tp pr := .m (show (decide ((0 : Int) ≤ (↑q.length : Int) + (1 : Int) + (1 : Int) - (1 : Int) ∧ ((↑q.length : Int) + (1 : Int) + (1 : Int) - (1 : Int)).toNat < (a :: b :: q).length)) = true by (simp; omega))
              let t13 : Tp pr := .c (show ((0 : Nat) + ((↑q.length : Int) + (1 : Int) + (1 : Int) - (1 : Int)).toNat : Nat) = q.length + (1 : Nat) by omega)
              let t14 : Tp pr := .m (show (decide ((ints ((a :: b :: q).reverse ++ jk)).length = (a :: b :: q).length + jk.length)) = true by (simp; omega))
              let t15 : Tp pr := .g .crow (show ((ints ((a :: b :: q).reverse ++ jk))[q.length + (1 : Nat)]?) = some (intc a) from gt)
              let t16 : Tp pr := .i (wrap_i64 (a := (↑q.length : Int) + (1 : Int) + (1 : Int) - (2 : Int)) (by omega) (by omega))
              let t17 : Tp pr := .m (show (decide ((0 : Int) ≤ (0 : Int) ∧ (0 : Int) ≤ (↑q.length : Int) + (1 : Int) + (1 : Int) - (2 : Int) ∧ (0 : Nat) + ((↑q.length : Int) + (1 : Int) + (1 : Int) - (2 : Int)).toNat ≤ (a :: b :: q).length + jk.length)) = true by (simp; omega))
              let t19 : Tp pr := .c (show (((↑q.length : Int) + (1 : Int) + (1 : Int) - (2 : Int)).toNat - (0 : Nat) : Nat) = q.length by omega)
              let t35 : Tp pr := .i (wrap_i64 (a := (↑q.length : Int) + (1 : Int) + (1 : Int) - (2 : Int)) (by omega) (by omega))
              let t37 : Tp pr := .m (show (decide ((0 : Int) ≤ (↑q.length : Int) + (1 : Int) + (1 : Int) - (2 : Int) ∧ ((↑q.length : Int) + (1 : Int) + (1 : Int) - (2 : Int)).toNat < (a :: b :: q).length)) = true by (simp; omega))
              let t38 : Tp pr := .c (show ((0 : Nat) + ((↑q.length : Int) + (1 : Int) + (1 : Int) - (2 : Int)).toNat : Nat) = q.length by omega)
              let t40 : Tp pr := .m (show (decide ((ints ((a :: b :: q).reverse ++ jk)).length = (a :: b :: q).length + jk.length)) = true by (simp; omega))
              let t41 : Tp pr := .g .crow (show ((ints ((a :: b :: q).reverse ++ jk))[q.length]?) = some (intc b) from gt2)
              let t54 : Tp pr := .b (show (!(decide (v ≥ (-1000000000 : Int)) && decide (v ≤ (1000000000 : Int)))) = true by (simp; omega))
              exact .tp [t0, t1, t2, .a (hm), t4, .b (rfl : false = false), t6, t7, t8, t9, .b (rfl : true = true), t11, t12, t13, t14, t15, t16, t17, .c (rfl : ((0 : Nat)) = _), t19, .b (rfl : false = false), .b (rfl : false = false), .b (rfl : false = false), .b (rfl : false = false), .b (rfl : false = false), .b (rfl : false = false), .b (rfl : false = false), .b (rfl : true = true), .m (rfl : true = true), .m (rfl : true = true), .m (rfl : true = true), .m (rfl : true = true), .m (rfl : true = true), .m (rfl : true = true), .m (rfl : true = true), t35, .m (rfl : true = true), t37, t38, .m (rfl : true = true), t40, t41, .m (rfl : true = true), .m (rfl : true = true), .a (hdo), .m (rfl : true = true), .m (rfl : true = true), .m (rfl : true = true), .m (rfl : true = true), .m (rfl : true = true), .m (rfl : true = true), .b (rfl : false = false), .b (rfl : false = false), .a (l2Bound_ev (v)), t54] (by kernel_rfl)
          · rw [if_neg (fun h => hc0 h.1)] at hcode ⊢
            dsimp only at hcode
            rcases hcode with h | rfl | rfl
            · exact absurd h hc0
            · rw [show endOf (v, (2 : Int)).2 = 2 from rfl, sOut2]
              let t0 : Tp pr := .i (show ((↑(List.map Bc.ce l).length : Int) : Int) = (↑l.length : Int) by simp)
              let t1 : Tp pr := .b (show (decide ((↑n : Int) ≥ (↑l.length : Int))) = false by (simp; omega))
              let t2 : Tp pr := .g .row (show (lkp (List.map Bc.ce l) (↑n : Int)) = some ((Bc.mk (4 : Int) m t).ce) from hgl)
              let t4 : Tp pr := .i (show ((↑(a :: b :: q).length : Int) : Int) = (↑q.length : Int) + (1 : Int) + (1 : Int) by simp)
              let t6 : Tp pr := .i (wrap_i64 (a := (↑q.length : Int) + (1 : Int) + (1 : Int) - (2 : Int)) (by omega) (by omega))
              let t7 : Tp pr := .i (wrap_i64 (a := (↑q.length : Int) + (1 : Int) + (1 : Int) - (2 : Int) + (1 : Int)) (by omega) (by omega))
              let t8 : Tp pr := .b (show (decide ((↑q.length : Int) + (1 : Int) + (1 : Int) - (2 : Int) + (1 : Int) > (30 : Int))) = false by (simp; omega))
              let t9 : Tp pr := .i (wrap_i64 (a := (↑n : Int) + (1 : Int)) (by omega) (by omega))
              let t11 : Tp pr := .i (wrap_i64 (a := (↑q.length : Int) + (1 : Int) + (1 : Int) - (1 : Int)) (by omega) (by omega))
              let t12 : Tp pr := .m (show (decide ((0 : Int) ≤ (↑q.length : Int) + (1 : Int) + (1 : Int) - (1 : Int) ∧ ((↑q.length : Int) + (1 : Int) + (1 : Int) - (1 : Int)).toNat < (a :: b :: q).length)) = true by (simp; omega))
              let t13 : Tp pr := .c (show ((0 : Nat) + ((↑q.length : Int) + (1 : Int) + (1 : Int) - (1 : Int)).toNat : Nat) = q.length + (1 : Nat) by omega)
              let t14 : Tp pr := .m (show (decide ((ints ((a :: b :: q).reverse ++ jk)).length = (a :: b :: q).length + jk.length)) = true by (simp; omega))
              let t15 : Tp pr := .g .crow (show ((ints ((a :: b :: q).reverse ++ jk))[q.length + (1 : Nat)]?) = some (intc a) from gt)
              let t16 : Tp pr := .i (wrap_i64 (a := (↑q.length : Int) + (1 : Int) + (1 : Int) - (2 : Int)) (by omega) (by omega))
              let t17 : Tp pr := .m (show (decide ((0 : Int) ≤ (0 : Int) ∧ (0 : Int) ≤ (↑q.length : Int) + (1 : Int) + (1 : Int) - (2 : Int) ∧ (0 : Nat) + ((↑q.length : Int) + (1 : Int) + (1 : Int) - (2 : Int)).toNat ≤ (a :: b :: q).length + jk.length)) = true by (simp; omega))
              let t19 : Tp pr := .c (show (((↑q.length : Int) + (1 : Int) + (1 : Int) - (2 : Int)).toNat - (0 : Nat) : Nat) = q.length by omega)
              let t35 : Tp pr := .i (wrap_i64 (a := (↑q.length : Int) + (1 : Int) + (1 : Int) - (2 : Int)) (by omega) (by omega))
              let t37 : Tp pr := .m (show (decide ((0 : Int) ≤ (↑q.length : Int) + (1 : Int) + (1 : Int) - (2 : Int) ∧ ((↑q.length : Int) + (1 : Int) + (1 : Int) - (2 : Int)).toNat < (a :: b :: q).length)) = true by (simp; omega))
              let t38 : Tp pr := .c (show ((0 : Nat) + ((↑q.length : Int) + (1 : Int) + (1 : Int) - (2 : Int)).toNat : Nat) = q.length by omega)
              let t40 : Tp pr := .m (show (decide ((ints ((a :: b :: q).reverse ++ jk)).length = (a :: b :: q).length + jk.length)) = true by (simp; omega))
              let t41 : Tp pr := .g .crow (show ((ints ((a :: b :: q).reverse ++ jk))[q.length]?) = some (intc b) from gt2)
              exact .tp [t0, t1, t2, .a (hm), t4, .b (rfl : false = false), t6, t7, t8, t9, .b (rfl : true = true), t11, t12, t13, t14, t15, t16, t17, .c (rfl : ((0 : Nat)) = _), t19, .b (rfl : false = false), .b (rfl : false = false), .b (rfl : false = false), .b (rfl : false = false), .b (rfl : false = false), .b (rfl : false = false), .b (rfl : false = false), .b (rfl : true = true), .m (rfl : true = true), .m (rfl : true = true), .m (rfl : true = true), .m (rfl : true = true), .m (rfl : true = true), .m (rfl : true = true), .m (rfl : true = true), t35, .m (rfl : true = true), t37, t38, .m (rfl : true = true), t40, t41, .m (rfl : true = true), .m (rfl : true = true), .a (hdo), .m (rfl : true = true), .m (rfl : true = true), .m (rfl : true = true), .m (rfl : true = true), .m (rfl : true = true), .m (rfl : true = true), .b (rfl : true = true)] (by kernel_rfl)
            · rw [show endOf (v, (3 : Int)).2 = 3 from rfl, sOut3]
              let t0 : Tp pr := .i (show ((↑(List.map Bc.ce l).length : Int) : Int) = (↑l.length : Int) by simp)
              let t1 : Tp pr := .b (show (decide ((↑n : Int) ≥ (↑l.length : Int))) = false by (simp; omega))
              let t2 : Tp pr := .g .row (show (lkp (List.map Bc.ce l) (↑n : Int)) = some ((Bc.mk (4 : Int) m t).ce) from hgl)
              let t4 : Tp pr := .i (show ((↑(a :: b :: q).length : Int) : Int) = (↑q.length : Int) + (1 : Int) + (1 : Int) by simp)
              let t6 : Tp pr := .i (wrap_i64 (a := (↑q.length : Int) + (1 : Int) + (1 : Int) - (2 : Int)) (by omega) (by omega))
              let t7 : Tp pr := .i (wrap_i64 (a := (↑q.length : Int) + (1 : Int) + (1 : Int) - (2 : Int) + (1 : Int)) (by omega) (by omega))
              let t8 : Tp pr := .b (show (decide ((↑q.length : Int) + (1 : Int) + (1 : Int) - (2 : Int) + (1 : Int) > (30 : Int))) = false by (simp; omega))
              let t9 : Tp pr := .i (wrap_i64 (a := (↑n : Int) + (1 : Int)) (by omega) (by omega))
              let t11 : Tp pr := .i (wrap_i64 (a := (↑q.length : Int) + (1 : Int) + (1 : Int) - (1 : Int)) (by omega) (by omega))
              let t12 : Tp pr := .m (show (decide ((0 : Int) ≤ (↑q.length : Int) + (1 : Int) + (1 : Int) - (1 : Int) ∧ ((↑q.length : Int) + (1 : Int) + (1 : Int) - (1 : Int)).toNat < (a :: b :: q).length)) = true by (simp; omega))
              let t13 : Tp pr := .c (show ((0 : Nat) + ((↑q.length : Int) + (1 : Int) + (1 : Int) - (1 : Int)).toNat : Nat) = q.length + (1 : Nat) by omega)
              let t14 : Tp pr := .m (show (decide ((ints ((a :: b :: q).reverse ++ jk)).length = (a :: b :: q).length + jk.length)) = true by (simp; omega))
              let t15 : Tp pr := .g .crow (show ((ints ((a :: b :: q).reverse ++ jk))[q.length + (1 : Nat)]?) = some (intc a) from gt)
              let t16 : Tp pr := .i (wrap_i64 (a := (↑q.length : Int) + (1 : Int) + (1 : Int) - (2 : Int)) (by omega) (by omega))
              let t17 : Tp pr := .m (show (decide ((0 : Int) ≤ (0 : Int) ∧ (0 : Int) ≤ (↑q.length : Int) + (1 : Int) + (1 : Int) - (2 : Int) ∧ (0 : Nat) + ((↑q.length : Int) + (1 : Int) + (1 : Int) - (2 : Int)).toNat ≤ (a :: b :: q).length + jk.length)) = true by (simp; omega))
              let t19 : Tp pr := .c (show (((↑q.length : Int) + (1 : Int) + (1 : Int) - (2 : Int)).toNat - (0 : Nat) : Nat) = q.length by omega)
              let t35 : Tp pr := .i (wrap_i64 (a := (↑q.length : Int) + (1 : Int) + (1 : Int) - (2 : Int)) (by omega) (by omega))
              let t37 : Tp pr := .m (show (decide ((0 : Int) ≤ (↑q.length : Int) + (1 : Int) + (1 : Int) - (2 : Int) ∧ ((↑q.length : Int) + (1 : Int) + (1 : Int) - (2 : Int)).toNat < (a :: b :: q).length)) = true by (simp; omega))
              let t38 : Tp pr := .c (show ((0 : Nat) + ((↑q.length : Int) + (1 : Int) + (1 : Int) - (2 : Int)).toNat : Nat) = q.length by omega)
              let t40 : Tp pr := .m (show (decide ((ints ((a :: b :: q).reverse ++ jk)).length = (a :: b :: q).length + jk.length)) = true by (simp; omega))
              let t41 : Tp pr := .g .crow (show ((ints ((a :: b :: q).reverse ++ jk))[q.length]?) = some (intc b) from gt2)
              exact .tp [t0, t1, t2, .a (hm), t4, .b (rfl : false = false), t6, t7, t8, t9, .b (rfl : true = true), t11, t12, t13, t14, t15, t16, t17, .c (rfl : ((0 : Nat)) = _), t19, .b (rfl : false = false), .b (rfl : false = false), .b (rfl : false = false), .b (rfl : false = false), .b (rfl : false = false), .b (rfl : false = false), .b (rfl : false = false), .b (rfl : true = true), .m (rfl : true = true), .m (rfl : true = true), .m (rfl : true = true), .m (rfl : true = true), .m (rfl : true = true), .m (rfl : true = true), .m (rfl : true = true), t35, .m (rfl : true = true), t37, t38, .m (rfl : true = true), t40, t41, .m (rfl : true = true), .m (rfl : true = true), .a (hdo), .m (rfl : true = true), .m (rfl : true = true), .m (rfl : true = true), .m (rfl : true = true), .m (rfl : true = true), .m (rfl : true = true), .b (rfl : false = false), .b (rfl : true = true), .b (rfl : true = true)] (by kernel_rfl)
      · have hm := l16Takes_ev ⟨5, m, t⟩
        have e1 : mvOff (5 : Int) = 1 := rfl
        have e2 : mvOn (5 : Int) = 1 := rfl
        simp only [e1, e2] at hm hc
        cases st with
        | nil => simp at hc
        | cons a r =>
          simp only [List.length_cons] at h3 hc
          have ha := h4 a (by simp)
          have gt : (ints ((a :: r).reverse ++ jk))[r.length]? = some (intc a) := by simp
          rw [show stepX ⟨5, m, t⟩ lo (a :: r) jk n = ⟨0, lo, one1 t a :: r, jk, n + 1⟩ by simp [stepX, e1, e2]; omega]
          rw [sOut0]
          obtain ⟨ha1, ha2⟩ := ha
          have hneg : Int.neg a = -a := rfl
          unfold one1
          by_cases ht : t.toList = [45]
          · rw [if_pos ht]
            let t0 : Tp pr := .i (show ((↑(List.map Bc.ce l).length : Int) : Int) = (↑l.length : Int) by simp)
            let t1 : Tp pr := .b (show (decide ((↑n : Int) ≥ (↑l.length : Int))) = false by (simp; omega))
            let t2 : Tp pr := .g .row (show (lkp (List.map Bc.ce l) (↑n : Int)) = some ((Bc.mk (5 : Int) m t).ce) from hgl)
            let t4 : Tp pr := .i (show ((↑(a :: r).length : Int) : Int) = (↑r.length : Int) + (1 : Int) by simp)
            let t6 : Tp pr := .i (wrap_i64 (a := (↑r.length : Int) + (1 : Int) - (1 : Int)) (by omega) (by omega))
            let t7 : Tp pr := .i (wrap_i64 (a := (↑r.length : Int) + (1 : Int) - (1 : Int) + (1 : Int)) (by omega) (by omega))
            let t8 : Tp pr := .b (show (decide ((↑r.length : Int) + (1 : Int) - (1 : Int) + (1 : Int) > (30 : Int))) = false by (simp; omega))
            let t9 : Tp pr := .i (wrap_i64 (a := (↑n : Int) + (1 : Int)) (by omega) (by omega))
            let t11 : Tp pr := .i (wrap_i64 (a := (↑r.length : Int) + (1 : Int) - (1 : Int)) (by omega) (by omega))
            let t12 : Tp pr := .m (show (decide ((0 : Int) ≤ (↑r.length : Int) + (1 : Int) - (1 : Int) ∧ ((↑r.length : Int) + (1 : Int) - (1 : Int)).toNat < (a :: r).length)) = true by simp)
            let t13 : Tp pr := .c (show ((0 : Nat) + ((↑r.length : Int) + (1 : Int) - (1 : Int)).toNat : Nat) = r.length by omega)
            let t14 : Tp pr := .m (show (decide ((ints ((a :: r).reverse ++ jk)).length = (a :: r).length + jk.length)) = true by (simp; omega))
            let t15 : Tp pr := .g .crow (show ((ints ((a :: r).reverse ++ jk))[r.length]?) = some (intc a) from gt)
            let t16 : Tp pr := .i (wrap_i64 (a := (↑r.length : Int) + (1 : Int) - (1 : Int)) (by omega) (by omega))
            let t17 : Tp pr := .m (show (decide ((0 : Int) ≤ (0 : Int) ∧ (0 : Int) ≤ (↑r.length : Int) + (1 : Int) - (1 : Int) ∧ (0 : Nat) + ((↑r.length : Int) + (1 : Int) - (1 : Int)).toNat ≤ (a :: r).length + jk.length)) = true by (simp; omega))
            let t19 : Tp pr := .c (show (((↑r.length : Int) + (1 : Int) - (1 : Int)).toNat - (0 : Nat) : Nat) = r.length by omega)
            let t27 : Tp pr := .b (show (t.toList == [(45 : UInt8)]) = true by (simp; omega))
            let t28 : Tp pr := .i (wrap_i64 (a := (0 : Int) - a) (by omega) (by omega))
            let t30 : Tp pr := .m (show (decide ((ints ((a :: r).reverse ++ jk)).length = (a :: r).length + jk.length ∧ (0 : Nat) + r.length ≤ (a :: r).length + jk.length ∧ r.length + (1 : Nat) ≤ (4294967296 : Nat))) = true by (simp; omega))
            let t31 : Tp pr := .b (show (decide (r.length + (1 : Nat) ≤ (a :: r).length + jk.length)) = true by simp)
            let t33 : Tp pr := .n .crows (show (((List.take r.length (ints ((a :: r).reverse ++ jk))).append (List.take (1 : Nat) (List.drop (0 : Nat) [[C.t (T.int IntKind.i64 ((0 : Int) - a))]]))).append (List.drop (r.length + (1 : Nat)) (ints ((a :: r).reverse ++ jk)))) = ints r.reverse ++ [C.t (T.int IntKind.i64 (-a))] :: ints jk by simp)
            exact .tpe [t0, t1, t2, .a (hm), t4, .b (rfl : false = false), t6, t7, t8, t9, .b (rfl : true = true), t11, t12, t13, t14, t15, t16, t17, .c (rfl : ((0 : Nat)) = _), t19, .b (rfl : false = false), .b (rfl : false = false), .b (rfl : false = false), .b (rfl : false = false), .b (rfl : false = false), .b (rfl : false = false), .b (rfl : true = true), t27, t28, .m (rfl : true = true), t30, t31, .c (rfl : (r.length + (1 : Nat)) = _), t33] (Out.val (V.tup [V.t (T.int IntKind.i64 (0 : Int)), V.t (T.int IntKind.i64 (0 : Int))]) [Ob.box [V.vec (1 : Nat) ((a :: r).length + jk.length) (1 : Nat) (0 : Nat) (r.length + (1 : Nat)), V.vec (2 : Nat) (10 : Nat) (1 : Nat) (0 : Nat) (10 : Nat), V.t (T.int IntKind.i64 ((↑n : Int) + (1 : Int)))], Ob.vec true (1 : Nat) ((ints r.reverse).append ([C.t (T.int IntKind.i64 a.neg)] :: ints jk)), Ob.vec true (1 : Nat) (ints lo)]) (by kernel_rfl) (((congrArg (fun x => Out.val (V.tup [V.t (T.int IntKind.i64 (0 : Int)), V.t (T.int IntKind.i64 (0 : Int))]) [Ob.box [V.vec (1 : Nat) x (1 : Nat) (0 : Nat) (r.length + (1 : Nat)), V.vec (2 : Nat) (10 : Nat) (1 : Nat) (0 : Nat) (10 : Nat), V.t (T.int IntKind.i64 ((↑n : Int) + (1 : Int)))], Ob.vec true (1 : Nat) ((ints r.reverse).append ([C.t (T.int IntKind.i64 a.neg)] :: ints jk)), Ob.vec true (1 : Nat) (ints lo)]) (show ((a :: r).length + jk.length) = ((-a :: r).length + jk.length) by simp [ints_app, ints_cons, intc, hneg])).trans (congrArg (fun x => Out.val (V.tup [V.t (T.int IntKind.i64 (0 : Int)), V.t (T.int IntKind.i64 (0 : Int))]) [Ob.box [V.vec (1 : Nat) ((-a :: r).length + jk.length) (1 : Nat) (0 : Nat) x, V.vec (2 : Nat) (10 : Nat) (1 : Nat) (0 : Nat) (10 : Nat), V.t (T.int IntKind.i64 ((↑n : Int) + (1 : Int)))], Ob.vec true (1 : Nat) ((ints r.reverse).append ([C.t (T.int IntKind.i64 a.neg)] :: ints jk)), Ob.vec true (1 : Nat) (ints lo)]) (show (r.length + (1 : Nat)) = ((-a :: r).length) by simp [ints_app, ints_cons, intc, hneg]))).trans (congrArg (fun x => Out.val (V.tup [V.t (T.int IntKind.i64 (0 : Int)), V.t (T.int IntKind.i64 (0 : Int))]) [Ob.box [V.vec (1 : Nat) ((-a :: r).length + jk.length) (1 : Nat) (0 : Nat) (-a :: r).length, V.vec (2 : Nat) (10 : Nat) (1 : Nat) (0 : Nat) (10 : Nat), V.t (T.int IntKind.i64 ((↑n : Int) + (1 : Int)))], Ob.vec true (1 : Nat) x, Ob.vec true (1 : Nat) (ints lo)]) (show ((ints r.reverse).append ([C.t (T.int IntKind.i64 a.neg)] :: ints jk)) = (ints ((-a :: r).reverse ++ jk)) by simp [ints_app, ints_cons, intc, hneg])))
          · rw [if_neg ht]
            let t0 : Tp pr := .i (show ((↑(List.map Bc.ce l).length : Int) : Int) = (↑l.length : Int) by simp)
            let t1 : Tp pr := .b (show (decide ((↑n : Int) ≥ (↑l.length : Int))) = false by (simp; omega))
            let t2 : Tp pr := .g .row (show (lkp (List.map Bc.ce l) (↑n : Int)) = some ((Bc.mk (5 : Int) m t).ce) from hgl)
            let t4 : Tp pr := .i (show ((↑(a :: r).length : Int) : Int) = (↑r.length : Int) + (1 : Int) by simp)
            let t6 : Tp pr := .i (wrap_i64 (a := (↑r.length : Int) + (1 : Int) - (1 : Int)) (by omega) (by omega))
            let t7 : Tp pr := .i (wrap_i64 (a := (↑r.length : Int) + (1 : Int) - (1 : Int) + (1 : Int)) (by omega) (by omega))
            let t8 : Tp pr := .b (show (decide ((↑r.length : Int) + (1 : Int) - (1 : Int) + (1 : Int) > (30 : Int))) = false by (simp; omega))
            let t9 : Tp pr := .i (wrap_i64 (a := (↑n : Int) + (1 : Int)) (by omega) (by omega))
            let t11 : Tp pr := .i (wrap_i64 (a := (↑r.length : Int) + (1 : Int) - (1 : Int)) (by omega) (by omega))
            let t12 : Tp pr := .m (show (decide ((0 : Int) ≤ (↑r.length : Int) + (1 : Int) - (1 : Int) ∧ ((↑r.length : Int) + (1 : Int) - (1 : Int)).toNat < (a :: r).length)) = true by simp)
            let t13 : Tp pr := .c (show ((0 : Nat) + ((↑r.length : Int) + (1 : Int) - (1 : Int)).toNat : Nat) = r.length by omega)
            let t14 : Tp pr := .m (show (decide ((ints ((a :: r).reverse ++ jk)).length = (a :: r).length + jk.length)) = true by (simp; omega))
            let t15 : Tp pr := .g .crow (show ((ints ((a :: r).reverse ++ jk))[r.length]?) = some (intc a) from gt)
            let t16 : Tp pr := .i (wrap_i64 (a := (↑r.length : Int) + (1 : Int) - (1 : Int)) (by omega) (by omega))
            let t17 : Tp pr := .m (show (decide ((0 : Int) ≤ (0 : Int) ∧ (0 : Int) ≤ (↑r.length : Int) + (1 : Int) - (1 : Int) ∧ (0 : Nat) + ((↑r.length : Int) + (1 : Int) - (1 : Int)).toNat ≤ (a :: r).length + jk.length)) = true by (simp; omega))
            let t19 : Tp pr := .c (show (((↑r.length : Int) + (1 : Int) - (1 : Int)).toNat - (0 : Nat) : Nat) = r.length by omega)
            let t27 : Tp pr := .b (show (t.toList == [(45 : UInt8)]) = false by (simp; omega))
            let t28 : Tp pr := .a (l2Truth_ev (decide (a = (0 : Int))))
            let t30 : Tp pr := .m (show (decide ((ints ((a :: r).reverse ++ jk)).length = (a :: r).length + jk.length ∧ (0 : Nat) + r.length ≤ (a :: r).length + jk.length ∧ r.length + (1 : Nat) ≤ (4294967296 : Nat))) = true by (simp; omega))
            let t31 : Tp pr := .b (show (decide (r.length + (1 : Nat) ≤ (a :: r).length + jk.length)) = true by simp)
            let t33 : Tp pr := .n .crows (show (((List.take r.length (ints ((a :: r).reverse ++ jk))).append (List.take (1 : Nat) (List.drop (0 : Nat) [[C.t (T.int IntKind.i64 (tru (decide (a = (0 : Int)))))]]))).append (List.drop (r.length + (1 : Nat)) (ints ((a :: r).reverse ++ jk)))) = ints r.reverse ++ [C.t (T.int IntKind.i64 (tru (decide (a = (0 : Int)))))] :: ints jk by simp)
            exact .tpe [t0, t1, t2, .a (hm), t4, .b (rfl : false = false), t6, t7, t8, t9, .b (rfl : true = true), t11, t12, t13, t14, t15, t16, t17, .c (rfl : ((0 : Nat)) = _), t19, .b (rfl : false = false), .b (rfl : false = false), .b (rfl : false = false), .b (rfl : false = false), .b (rfl : false = false), .b (rfl : false = false), .b (rfl : true = true), t27, t28, .m (rfl : true = true), t30, t31, .c (rfl : (r.length + (1 : Nat)) = _), t33] (Out.val (V.tup [V.t (T.int IntKind.i64 (0 : Int)), V.t (T.int IntKind.i64 (0 : Int))]) [Ob.box [V.vec (1 : Nat) ((a :: r).length + jk.length) (1 : Nat) (0 : Nat) (r.length + (1 : Nat)), V.vec (2 : Nat) (10 : Nat) (1 : Nat) (0 : Nat) (10 : Nat), V.t (T.int IntKind.i64 ((↑n : Int) + (1 : Int)))], Ob.vec true (1 : Nat) ((ints r.reverse).append ([C.t (T.int IntKind.i64 (tru (decide (a = (0 : Int)))))] :: ints jk)), Ob.vec true (1 : Nat) (ints lo)]) (by kernel_rfl) (((congrArg (fun x => Out.val (V.tup [V.t (T.int IntKind.i64 (0 : Int)), V.t (T.int IntKind.i64 (0 : Int))]) [Ob.box [V.vec (1 : Nat) x (1 : Nat) (0 : Nat) (r.length + (1 : Nat)), V.vec (2 : Nat) (10 : Nat) (1 : Nat) (0 : Nat) (10 : Nat), V.t (T.int IntKind.i64 ((↑n : Int) + (1 : Int)))], Ob.vec true (1 : Nat) ((ints r.reverse).append ([C.t (T.int IntKind.i64 (tru (decide (a = (0 : Int)))))] :: ints jk)), Ob.vec true (1 : Nat) (ints lo)]) (show ((a :: r).length + jk.length) = ((tru (decide (a = (0 : Int))) :: r).length + jk.length) by simp [ints_app, ints_cons, intc])).trans (congrArg (fun x => Out.val (V.tup [V.t (T.int IntKind.i64 (0 : Int)), V.t (T.int IntKind.i64 (0 : Int))]) [Ob.box [V.vec (1 : Nat) ((tru (decide (a = (0 : Int))) :: r).length + jk.length) (1 : Nat) (0 : Nat) x, V.vec (2 : Nat) (10 : Nat) (1 : Nat) (0 : Nat) (10 : Nat), V.t (T.int IntKind.i64 ((↑n : Int) + (1 : Int)))], Ob.vec true (1 : Nat) ((ints r.reverse).append ([C.t (T.int IntKind.i64 (tru (decide (a = (0 : Int)))))] :: ints jk)), Ob.vec true (1 : Nat) (ints lo)]) (show (r.length + (1 : Nat)) = ((tru (decide (a = (0 : Int))) :: r).length) by simp [ints_app, ints_cons, intc]))).trans (congrArg (fun x => Out.val (V.tup [V.t (T.int IntKind.i64 (0 : Int)), V.t (T.int IntKind.i64 (0 : Int))]) [Ob.box [V.vec (1 : Nat) ((tru (decide (a = (0 : Int))) :: r).length + jk.length) (1 : Nat) (0 : Nat) (tru (decide (a = (0 : Int))) :: r).length, V.vec (2 : Nat) (10 : Nat) (1 : Nat) (0 : Nat) (10 : Nat), V.t (T.int IntKind.i64 ((↑n : Int) + (1 : Int)))], Ob.vec true (1 : Nat) x, Ob.vec true (1 : Nat) (ints lo)]) (show ((ints r.reverse).append ([C.t (T.int IntKind.i64 (tru (decide (a = (0 : Int)))))] :: ints jk)) = (ints ((tru (decide (a = (0 : Int))) :: r).reverse ++ jk)) by simp [ints_app, ints_cons, intc])))
      · have hm := l16Takes_ev ⟨6, m, t⟩
        have e1 : mvOff (6 : Int) = 0 := rfl
        have e2 : mvOn (6 : Int) = 0 := rfl
        simp only [e1, e2] at hm hc
        rw [show stepX ⟨6, m, t⟩ lo st jk n = ⟨0, lo, st, jk, m⟩ by simp [stepX, e1, e2]; omega]
        rw [sOut0]
        let t0 : Tp pr := .i (show ((↑(List.map Bc.ce l).length : Int) : Int) = (↑l.length : Int) by simp)
        let t1 : Tp pr := .b (show (decide ((↑n : Int) ≥ (↑l.length : Int))) = false by (simp; omega))
        let t2 : Tp pr := .g .row (show (lkp (List.map Bc.ce l) (↑n : Int)) = some ((Bc.mk (6 : Int) m t).ce) from hgl)
        let t6 : Tp pr := .i (wrap_i64 (a := (↑st.length : Int) - (0 : Int)) (by omega) (by omega))
        let t7 : Tp pr := .i (wrap_i64 (a := (↑st.length : Int) - (0 : Int) + (0 : Int)) (by omega) (by omega))
        let t8 : Tp pr := .b (show (decide ((↑st.length : Int) - (0 : Int) + (0 : Int) > (30 : Int))) = false by (simp; omega))
        let t9 : Tp pr := .i (wrap_i64 (a := (↑n : Int) + (1 : Int)) (by omega) (by omega))
        let t11 : Tp pr := .i (wrap_i64 (a := (↑st.length : Int) - (0 : Int)) (by omega) (by omega))
        let t12 : Tp pr := .m (show (decide ((0 : Int) ≤ (0 : Int) ∧ (0 : Int) ≤ (↑st.length : Int) - (0 : Int) ∧ (0 : Nat) + ((↑st.length : Int) - (0 : Int)).toNat ≤ st.length + jk.length)) = true by simp)
        let t14 : Tp pr := .c (show (((↑st.length : Int) - (0 : Int)).toNat - (0 : Nat) : Nat) = st.length by omega)
        exact .tp [t0, t1, t2, .a (hm), .i (rfl : ((↑st.length : Int)) = _), .b (rfl : false = false), t6, t7, t8, t9, .b (rfl : false = false), t11, t12, .c (rfl : ((0 : Nat)) = _), t14, .b (rfl : false = false), .b (rfl : false = false), .b (rfl : false = false), .b (rfl : false = false), .b (rfl : true = true)] (by kernel_rfl)
      · have hm := l16Takes_ev ⟨7, m, t⟩
        have e1 : mvOff (7 : Int) = 1 := rfl
        have e2 : mvOn (7 : Int) = 0 := rfl
        simp only [e1, e2] at hm hc
        cases st with
        | nil => simp at hc
        | cons a r =>
          simp only [List.length_cons] at h3 hc
          have ha := h4 a (by simp)
          have gt : (ints ((a :: r).reverse ++ jk))[r.length]? = some (intc a) := by simp
          rw [show stepX ⟨7, m, t⟩ lo (a :: r) jk n = ⟨0, lo, r, a :: jk, if a = 0 then m else n + 1⟩ by simp [stepX, e1, e2]; omega]
          rw [sOut0]
          by_cases hz : a = 0
          · rw [if_pos hz]
            let t0 : Tp pr := .i (show ((↑(List.map Bc.ce l).length : Int) : Int) = (↑l.length : Int) by simp)
            let t1 : Tp pr := .b (show (decide ((↑n : Int) ≥ (↑l.length : Int))) = false by (simp; omega))
            let t2 : Tp pr := .g .row (show (lkp (List.map Bc.ce l) (↑n : Int)) = some ((Bc.mk (7 : Int) m t).ce) from hgl)
            let t4 : Tp pr := .i (show ((↑(a :: r).length : Int) : Int) = (↑r.length : Int) + (1 : Int) by simp)
            let t6 : Tp pr := .i (wrap_i64 (a := (↑r.length : Int) + (1 : Int) - (1 : Int)) (by omega) (by omega))
            let t7 : Tp pr := .i (wrap_i64 (a := (↑r.length : Int) + (1 : Int) - (1 : Int) + (0 : Int)) (by omega) (by omega))
            let t8 : Tp pr := .b (show (decide ((↑r.length : Int) + (1 : Int) - (1 : Int) + (0 : Int) > (30 : Int))) = false by (simp; omega))
            let t9 : Tp pr := .i (wrap_i64 (a := (↑n : Int) + (1 : Int)) (by omega) (by omega))
            let t11 : Tp pr := .i (wrap_i64 (a := (↑r.length : Int) + (1 : Int) - (1 : Int)) (by omega) (by omega))
            let t12 : Tp pr := .m (show (decide ((0 : Int) ≤ (↑r.length : Int) + (1 : Int) - (1 : Int) ∧ ((↑r.length : Int) + (1 : Int) - (1 : Int)).toNat < (a :: r).length)) = true by simp)
            let t13 : Tp pr := .c (show ((0 : Nat) + ((↑r.length : Int) + (1 : Int) - (1 : Int)).toNat : Nat) = r.length by omega)
            let t14 : Tp pr := .m (show (decide ((ints ((a :: r).reverse ++ jk)).length = (a :: r).length + jk.length)) = true by (simp; omega))
            let t15 : Tp pr := .g .crow (show ((ints ((a :: r).reverse ++ jk))[r.length]?) = some (intc a) from gt)
            let t16 : Tp pr := .i (wrap_i64 (a := (↑r.length : Int) + (1 : Int) - (1 : Int)) (by omega) (by omega))
            let t17 : Tp pr := .m (show (decide ((0 : Int) ≤ (0 : Int) ∧ (0 : Int) ≤ (↑r.length : Int) + (1 : Int) - (1 : Int) ∧ (0 : Nat) + ((↑r.length : Int) + (1 : Int) - (1 : Int)).toNat ≤ (a :: r).length + jk.length)) = true by (simp; omega))
            let t19 : Tp pr := .c (show (((↑r.length : Int) + (1 : Int) - (1 : Int)).toNat - (0 : Nat) : Nat) = r.length by omega)
            let t26 : Tp pr := .b (show (decide (a = (0 : Int))) = true by (simp; omega))
            exact .tpe [t0, t1, t2, .a (hm), t4, .b (rfl : false = false), t6, t7, t8, t9, .b (rfl : true = true), t11, t12, t13, t14, t15, t16, t17, .c (rfl : ((0 : Nat)) = _), t19, .b (rfl : false = false), .b (rfl : false = false), .b (rfl : false = false), .b (rfl : false = false), .b (rfl : false = false), .b (rfl : true = true), t26] (Out.val (V.tup [V.t (T.int IntKind.i64 (0 : Int)), V.t (T.int IntKind.i64 (0 : Int))]) [Ob.box [V.vec (1 : Nat) ((a :: r).length + jk.length) (1 : Nat) (0 : Nat) r.length, V.vec (2 : Nat) (10 : Nat) (1 : Nat) (0 : Nat) (10 : Nat), V.t (T.int IntKind.i64 m)], Ob.vec true (1 : Nat) (ints ((a :: r).reverse ++ jk)), Ob.vec true (1 : Nat) (ints lo)]) (by kernel_rfl) ((congrArg (fun x => Out.val (V.tup [V.t (T.int IntKind.i64 (0 : Int)), V.t (T.int IntKind.i64 (0 : Int))]) [Ob.box [V.vec (1 : Nat) x (1 : Nat) (0 : Nat) r.length, V.vec (2 : Nat) (10 : Nat) (1 : Nat) (0 : Nat) (10 : Nat), V.t (T.int IntKind.i64 m)], Ob.vec true (1 : Nat) (ints ((a :: r).reverse ++ jk)), Ob.vec true (1 : Nat) (ints lo)]) (show ((a :: r).length + jk.length) = (r.length + (a :: jk).length) by (simp; omega))).trans (congrArg (fun x => Out.val (V.tup [V.t (T.int IntKind.i64 (0 : Int)), V.t (T.int IntKind.i64 (0 : Int))]) [Ob.box [V.vec (1 : Nat) (r.length + (a :: jk).length) (1 : Nat) (0 : Nat) r.length, V.vec (2 : Nat) (10 : Nat) (1 : Nat) (0 : Nat) (10 : Nat), V.t (T.int IntKind.i64 m)], Ob.vec true (1 : Nat) x, Ob.vec true (1 : Nat) (ints lo)]) (show (ints ((a :: r).reverse ++ jk)) = (ints (r.reverse ++ a :: jk)) by simp [ints_app, ints_cons, intc])))
          · rw [if_neg hz]
            let t0 : Tp pr := .i (show ((↑(List.map Bc.ce l).length : Int) : Int) = (↑l.length : Int) by simp)
            let t1 : Tp pr := .b (show (decide ((↑n : Int) ≥ (↑l.length : Int))) = false by (simp; omega))
            let t2 : Tp pr := .g .row (show (lkp (List.map Bc.ce l) (↑n : Int)) = some ((Bc.mk (7 : Int) m t).ce) from hgl)
            let t4 : Tp pr := .i (show ((↑(a :: r).length : Int) : Int) = (↑r.length : Int) + (1 : Int) by simp)
            let t6 : Tp pr := .i (wrap_i64 (a := (↑r.length : Int) + (1 : Int) - (1 : Int)) (by omega) (by omega))
            let t7 : Tp pr := .i (wrap_i64 (a := (↑r.length : Int) + (1 : Int) - (1 : Int) + (0 : Int)) (by omega) (by omega))
            let t8 : Tp pr := .b (show (decide ((↑r.length : Int) + (1 : Int) - (1 : Int) + (0 : Int) > (30 : Int))) = false by (simp; omega))
            let t9 : Tp pr := .i (wrap_i64 (a := (↑n : Int) + (1 : Int)) (by omega) (by omega))
            let t11 : Tp pr := .i (wrap_i64 (a := (↑r.length : Int) + (1 : Int) - (1 : Int)) (by omega) (by omega))
            let t12 : Tp pr := .m (show (decide ((0 : Int) ≤ (↑r.length : Int) + (1 : Int) - (1 : Int) ∧ ((↑r.length : Int) + (1 : Int) - (1 : Int)).toNat < (a :: r).length)) = true by simp)
            let t13 : Tp pr := .c (show ((0 : Nat) + ((↑r.length : Int) + (1 : Int) - (1 : Int)).toNat : Nat) = r.length by omega)
            let t14 : Tp pr := .m (show (decide ((ints ((a :: r).reverse ++ jk)).length = (a :: r).length + jk.length)) = true by (simp; omega))
            let t15 : Tp pr := .g .crow (show ((ints ((a :: r).reverse ++ jk))[r.length]?) = some (intc a) from gt)
            let t16 : Tp pr := .i (wrap_i64 (a := (↑r.length : Int) + (1 : Int) - (1 : Int)) (by omega) (by omega))
            let t17 : Tp pr := .m (show (decide ((0 : Int) ≤ (0 : Int) ∧ (0 : Int) ≤ (↑r.length : Int) + (1 : Int) - (1 : Int) ∧ (0 : Nat) + ((↑r.length : Int) + (1 : Int) - (1 : Int)).toNat ≤ (a :: r).length + jk.length)) = true by (simp; omega))
            let t19 : Tp pr := .c (show (((↑r.length : Int) + (1 : Int) - (1 : Int)).toNat - (0 : Nat) : Nat) = r.length by omega)
            let t26 : Tp pr := .b (show (decide (a = (0 : Int))) = false by (simp; omega))
            exact .tpe [t0, t1, t2, .a (hm), t4, .b (rfl : false = false), t6, t7, t8, t9, .b (rfl : true = true), t11, t12, t13, t14, t15, t16, t17, .c (rfl : ((0 : Nat)) = _), t19, .b (rfl : false = false), .b (rfl : false = false), .b (rfl : false = false), .b (rfl : false = false), .b (rfl : false = false), .b (rfl : true = true), t26] (Out.val (V.tup [V.t (T.int IntKind.i64 (0 : Int)), V.t (T.int IntKind.i64 (0 : Int))]) [Ob.box [V.vec (1 : Nat) ((a :: r).length + jk.length) (1 : Nat) (0 : Nat) r.length, V.vec (2 : Nat) (10 : Nat) (1 : Nat) (0 : Nat) (10 : Nat), V.t (T.int IntKind.i64 ((↑n : Int) + (1 : Int)))], Ob.vec true (1 : Nat) (ints ((a :: r).reverse ++ jk)), Ob.vec true (1 : Nat) (ints lo)]) (by kernel_rfl) ((congrArg (fun x => Out.val (V.tup [V.t (T.int IntKind.i64 (0 : Int)), V.t (T.int IntKind.i64 (0 : Int))]) [Ob.box [V.vec (1 : Nat) x (1 : Nat) (0 : Nat) r.length, V.vec (2 : Nat) (10 : Nat) (1 : Nat) (0 : Nat) (10 : Nat), V.t (T.int IntKind.i64 ((↑n : Int) + (1 : Int)))], Ob.vec true (1 : Nat) (ints ((a :: r).reverse ++ jk)), Ob.vec true (1 : Nat) (ints lo)]) (show ((a :: r).length + jk.length) = (r.length + (a :: jk).length) by (simp; omega))).trans (congrArg (fun x => Out.val (V.tup [V.t (T.int IntKind.i64 (0 : Int)), V.t (T.int IntKind.i64 (0 : Int))]) [Ob.box [V.vec (1 : Nat) (r.length + (a :: jk).length) (1 : Nat) (0 : Nat) r.length, V.vec (2 : Nat) (10 : Nat) (1 : Nat) (0 : Nat) (10 : Nat), V.t (T.int IntKind.i64 ((↑n : Int) + (1 : Int)))], Ob.vec true (1 : Nat) x, Ob.vec true (1 : Nat) (ints lo)]) (show (ints ((a :: r).reverse ++ jk)) = (ints (r.reverse ++ a :: jk)) by simp [ints_app, ints_cons, intc])))
      · have hm := l16Takes_ev ⟨8, m, t⟩
        have e1 : mvOff (8 : Int) = 1 := rfl
        have e2 : mvOn (8 : Int) = 0 := rfl
        simp only [e1, e2] at hm hc
        cases st with
        | nil => simp at hc
        | cons a r =>
          simp only [List.length_cons] at h3 hc
          have ha := h4 a (by simp)
          have gt : (ints ((a :: r).reverse ++ jk))[r.length]? = some (intc a) := by simp
          rw [show stepX ⟨8, m, t⟩ lo (a :: r) jk n = ⟨0, lo, r, a :: jk, n + 1⟩ by simp [stepX, e1, e2]; omega]
          rw [sOut0]
          let t0 : Tp pr := .i (show ((↑(List.map Bc.ce l).length : Int) : Int) = (↑l.length : Int) by simp)
          let t1 : Tp pr := .b (show (decide ((↑n : Int) ≥ (↑l.length : Int))) = false by (simp; omega))
          let t2 : Tp pr := .g .row (show (lkp (List.map Bc.ce l) (↑n : Int)) = some ((Bc.mk (8 : Int) m t).ce) from hgl)
          let t4 : Tp pr := .i (show ((↑(a :: r).length : Int) : Int) = (↑r.length : Int) + (1 : Int) by simp)
          let t6 : Tp pr := .i (wrap_i64 (a := (↑r.length : Int) + (1 : Int) - (1 : Int)) (by omega) (by omega))
          let t7 : Tp pr := .i (wrap_i64 (a := (↑r.length : Int) + (1 : Int) - (1 : Int) + (0 : Int)) (by omega) (by omega))
          let t8 : Tp pr := .b (show (decide ((↑r.length : Int) + (1 : Int) - (1 : Int) + (0 : Int) > (30 : Int))) = false by (simp; omega))
          let t9 : Tp pr := .i (wrap_i64 (a := (↑n : Int) + (1 : Int)) (by omega) (by omega))
          let t11 : Tp pr := .i (wrap_i64 (a := (↑r.length : Int) + (1 : Int) - (1 : Int)) (by omega) (by omega))
          let t12 : Tp pr := .m (show (decide ((0 : Int) ≤ (↑r.length : Int) + (1 : Int) - (1 : Int) ∧ ((↑r.length : Int) + (1 : Int) - (1 : Int)).toNat < (a :: r).length)) = true by simp)
          let t13 : Tp pr := .c (show ((0 : Nat) + ((↑r.length : Int) + (1 : Int) - (1 : Int)).toNat : Nat) = r.length by omega)
          let t14 : Tp pr := .m (show (decide ((ints ((a :: r).reverse ++ jk)).length = (a :: r).length + jk.length)) = true by (simp; omega))
          let t15 : Tp pr := .g .crow (show ((ints ((a :: r).reverse ++ jk))[r.length]?) = some (intc a) from gt)
          let t16 : Tp pr := .i (wrap_i64 (a := (↑r.length : Int) + (1 : Int) - (1 : Int)) (by omega) (by omega))
          let t17 : Tp pr := .m (show (decide ((0 : Int) ≤ (0 : Int) ∧ (0 : Int) ≤ (↑r.length : Int) + (1 : Int) - (1 : Int) ∧ (0 : Nat) + ((↑r.length : Int) + (1 : Int) - (1 : Int)).toNat ≤ (a :: r).length + jk.length)) = true by (simp; omega))
          let t19 : Tp pr := .c (show (((↑r.length : Int) + (1 : Int) - (1 : Int)).toNat - (0 : Nat) : Nat) = r.length by omega)
          exact .tpe [t0, t1, t2, .a (hm), t4, .b (rfl : false = false), t6, t7, t8, t9, .b (rfl : true = true), t11, t12, t13, t14, t15, t16, t17, .c (rfl : ((0 : Nat)) = _), t19, .b (rfl : false = false), .b (rfl : false = false), .b (rfl : false = false), .b (rfl : false = false), .b (rfl : false = false), .b (rfl : false = false), .b (rfl : false = false), .b (rfl : false = false)] (Out.val (V.tup [V.t (T.int IntKind.i64 (0 : Int)), V.t (T.int IntKind.i64 (0 : Int))]) [Ob.box [V.vec (1 : Nat) ((a :: r).length + jk.length) (1 : Nat) (0 : Nat) r.length, V.vec (2 : Nat) (10 : Nat) (1 : Nat) (0 : Nat) (10 : Nat), V.t (T.int IntKind.i64 ((↑n : Int) + (1 : Int)))], Ob.vec true (1 : Nat) (ints ((a :: r).reverse ++ jk)), Ob.vec true (1 : Nat) (ints lo)]) (by kernel_rfl) ((congrArg (fun x => Out.val (V.tup [V.t (T.int IntKind.i64 (0 : Int)), V.t (T.int IntKind.i64 (0 : Int))]) [Ob.box [V.vec (1 : Nat) x (1 : Nat) (0 : Nat) r.length, V.vec (2 : Nat) (10 : Nat) (1 : Nat) (0 : Nat) (10 : Nat), V.t (T.int IntKind.i64 ((↑n : Int) + (1 : Int)))], Ob.vec true (1 : Nat) (ints ((a :: r).reverse ++ jk)), Ob.vec true (1 : Nat) (ints lo)]) (show ((a :: r).length + jk.length) = (r.length + (a :: jk).length) by (simp; omega))).trans (congrArg (fun x => Out.val (V.tup [V.t (T.int IntKind.i64 (0 : Int)), V.t (T.int IntKind.i64 (0 : Int))]) [Ob.box [V.vec (1 : Nat) (r.length + (a :: jk).length) (1 : Nat) (0 : Nat) r.length, V.vec (2 : Nat) (10 : Nat) (1 : Nat) (0 : Nat) (10 : Nat), V.t (T.int IntKind.i64 ((↑n : Int) + (1 : Int)))], Ob.vec true (1 : Nat) x, Ob.vec true (1 : Nat) (ints lo)]) (show (ints ((a :: r).reverse ++ jk)) = (ints (r.reverse ++ a :: jk)) by simp [ints_app, ints_cons, intc])))
      · have hm := l16Takes_ev ⟨9, m, t⟩
        have e1 : mvOff (9 : Int) = 1 := rfl
        have e2 : mvOn (9 : Int) = 1 := rfl
        simp only [e1, e2] at hm hc
        cases st with
        | nil => simp at hc
        | cons a r =>
          simp only [List.length_cons] at h3 hc
          have ha := h4 a (by simp)
          have gt : (ints ((a :: r).reverse ++ jk))[r.length]? = some (intc a) := by simp
          rw [show stepX ⟨9, m, t⟩ lo (a :: r) jk n = ⟨1, lo, a :: r, jk, n + 1⟩ by simp [stepX, e1, e2]; omega]
          rw [sOut1]
          let t0 : Tp pr := .i (show ((↑(List.map Bc.ce l).length : Int) : Int) = (↑l.length : Int) by simp)
          let t1 : Tp pr := .b (show (decide ((↑n : Int) ≥ (↑l.length : Int))) = false by (simp; omega))
          let t2 : Tp pr := .g .row (show (lkp (List.map Bc.ce l) (↑n : Int)) = some ((Bc.mk (9 : Int) m t).ce) from hgl)
          let t4 : Tp pr := .i (show ((↑(a :: r).length : Int) : Int) = (↑r.length : Int) + (1 : Int) by simp)
          let t6 : Tp pr := .i (wrap_i64 (a := (↑r.length : Int) + (1 : Int) - (1 : Int)) (by omega) (by omega))
          let t7 : Tp pr := .i (wrap_i64 (a := (↑r.length : Int) + (1 : Int) - (1 : Int) + (1 : Int)) (by omega) (by omega))
          let t8 : Tp pr := .b (show (decide ((↑r.length : Int) + (1 : Int) - (1 : Int) + (1 : Int) > (30 : Int))) = false by (simp; omega))
          let t9 : Tp pr := .i (wrap_i64 (a := (↑n : Int) + (1 : Int)) (by omega) (by omega))
          let t11 : Tp pr := .i (wrap_i64 (a := (↑r.length : Int) + (1 : Int) - (1 : Int)) (by omega) (by omega))
          let t12 : Tp pr := .m (show (decide ((0 : Int) ≤ (↑r.length : Int) + (1 : Int) - (1 : Int) ∧ ((↑r.length : Int) + (1 : Int) - (1 : Int)).toNat < (a :: r).length)) = true by simp)
          let t13 : Tp pr := .c (show ((0 : Nat) + ((↑r.length : Int) + (1 : Int) - (1 : Int)).toNat : Nat) = r.length by omega)
          let t14 : Tp pr := .m (show (decide ((ints ((a :: r).reverse ++ jk)).length = (a :: r).length + jk.length)) = true by (simp; omega))
          let t15 : Tp pr := .g .crow (show ((ints ((a :: r).reverse ++ jk))[r.length]?) = some (intc a) from gt)
          let t16 : Tp pr := .i (wrap_i64 (a := (↑r.length : Int) + (1 : Int) - (1 : Int)) (by omega) (by omega))
          let t17 : Tp pr := .m (show (decide ((0 : Int) ≤ (0 : Int) ∧ (0 : Int) ≤ (↑r.length : Int) + (1 : Int) - (1 : Int) ∧ (0 : Nat) + ((↑r.length : Int) + (1 : Int) - (1 : Int)).toNat ≤ (a :: r).length + jk.length)) = true by (simp; omega))
          let t19 : Tp pr := .c (show (((↑r.length : Int) + (1 : Int) - (1 : Int)).toNat - (0 : Nat) : Nat) = r.length by omega)
          exact .tpe [t0, t1, t2, .a (hm), t4, .b (rfl : false = false), t6, t7, t8, t9, .b (rfl : true = true), t11, t12, t13, t14, t15, t16, t17, .c (rfl : ((0 : Nat)) = _), t19, .b (rfl : true = true)] (Out.val (V.tup [V.t (T.int IntKind.i64 (1 : Int)), V.t (T.int IntKind.i64 a)]) [Ob.box [V.vec (1 : Nat) ((a :: r).length + jk.length) (1 : Nat) (0 : Nat) (a :: r).length, V.vec (2 : Nat) (10 : Nat) (1 : Nat) (0 : Nat) (10 : Nat), V.t (T.int IntKind.i64 ((↑n : Int) + (1 : Int)))], Ob.vec true (1 : Nat) (ints ((a :: r).reverse ++ jk)), Ob.vec true (1 : Nat) (ints lo)]) (by kernel_rfl) (congrArg (fun x => Out.val (V.tup [V.t (T.int IntKind.i64 (1 : Int)), V.t (T.int IntKind.i64 x)]) [Ob.box [V.vec (1 : Nat) ((a :: r).length + jk.length) (1 : Nat) (0 : Nat) (a :: r).length, V.vec (2 : Nat) (10 : Nat) (1 : Nat) (0 : Nat) (10 : Nat), V.t (T.int IntKind.i64 ((↑n : Int) + (1 : Int)))], Ob.vec true (1 : Nat) (ints ((a :: r).reverse ++ jk)), Ob.vec true (1 : Nat) (ints lo)]) (show (a) = ((a :: r).headD (0 : Int)) by rfl))
end Go.Ev

/- Code that runs: RunBc of the reference. -/
namespace Go.Ev
set_option linter.unusedVariables false
set_option linter.unusedSimpArgs false
open Go.Proofs
set_option maxRecDepth 100000
set_option linter.unusedVariables false
set_option maxHeartbeats 1000000
attribute [local simp] e0
theorem runSL_ev (l : List Bc) (hg : goodCode l = true) (fuel : Int) (hf : 0 ≤ fuel ∧ fuel ≤ 2000) : ∀ (n : Nat) (d : Int) (lo st jk : List Int) (k : Int), d + n = fuel → 0 ≤ d → RunOk l lo st k →
    Ev pr (.loop (lq pr 90 0) (at_ [(0, bcs l), (2, i64 fuel), (9, .ptr 0 1 0 0), (10, i64 d)] (stkS lo st jk k) 0))
      (.ret (at_ [(6, i64 (runA l n d lo st jk k).1), (7, i64 (runA l n d lo st jk k).2.1), (8, i64 (runA l n d lo st jk k).2.2)] [] 0))
  | 0, d, lo, st, jk, k, h, h0, hr => by
    have e : d = fuel := by omega
    rw [show runA l 0 d lo st jk k = (4, 0, d) from rfl]
    let t0 : Tp pr := .b (show (decide (d = fuel)) = true by (simp; omega))
    exact .tp [t0] (by kernel_rfl)
  | n + 1, d, lo, st, jk, k, h, h0, hr => by
    have hs := stepS_ev l lo st jk k hg hr
    have hr2 := stepI_ok (jk := jk) hg hr
    have hne : ¬ d = fuel := by omega
    unfold runA
    unfold stepSOut at hs
    generalize stepI l lo st jk k = q at *
    obtain ⟨e, lo2, st2, jk2, k2⟩ := q
    dsimp only at hs hr2 ⊢
    by_cases h1 : e = 0
    · have ih := runSL_ev l hg fuel hf n (d + 1) lo2 st2 jk2 k2 (by omega) (by omega) hr2
      rw [if_pos h1] at hs ⊢
      subst h1
      let t0 : Tp pr := .b (show (decide (d = fuel)) = false by (simp; omega))
      let t3 : Tp pr := .i (wrap_i64 (a := d + (1 : Int)) (by omega) (by omega))
      exact .tp [t0, .a (hs), .b (rfl : false = false), t3, .a (ih)] (by kernel_rfl)
    · rw [if_neg h1] at hs ⊢
      by_cases h2 : e = 1
      · rw [if_pos h2] at hs ⊢
        subst h2
        let t0 : Tp pr := .b (show (decide (d = fuel)) = false by (simp; omega))
        let t3 : Tp pr := .i (wrap_i64 (a := d + (1 : Int)) (by omega) (by omega))
        exact .tp [t0, .a (hs), .b (rfl : true = true), t3] (by kernel_rfl)
      · rw [if_neg h2] at hs ⊢
        let t0 : Tp pr := .b (show (decide (d = fuel)) = false by (simp; omega))
        let t2 : Tp pr := .b (show (e != (0 : Int)) = true by (simp; omega))
        let t3 : Tp pr := .i (wrap_i64 (a := d + (1 : Int)) (by omega) (by omega))
        exact .tp [t0, .a (hs), t2, t3] (by kernel_rfl)
theorem l16Run_ev (l : List Bc) (lo : List Int) (fuel : Int) (hg : goodCode l = true) (hlo : lo.length = 10) (hf : 0 ≤ fuel ∧ fuel ≤ 2000) (hr : RunOk l lo [] 0) :
    Ev pr (.call 90 [bcs l, .t (.seq 1 (lo.map intt)), i64 fuel] []) (.val (.tup [i64 (runA l fuel.toNat 0 lo [] [] 0).1, i64 (runA l fuel.toNat 0 lo [] [] 0).2.1, i64 (runA l fuel.toNat 0 lo [] [] 0).2.2]) []) := by
  have hL0 := runSL_ev l hg fuel hf fuel.toNat 0 lo [] [] 0 (by omega) (by omega) hr
  have hL : Ev pr (.loop (lq pr 90 0) (at_ [(0, bcs l), (2, i64 fuel), (9, .ptr 0 1 0 0), (10, i64 0)] [.box [.vec 1 0 1 0 0, .vec 2 lo.length 1 0 lo.length, i64 0], .vec true 1 [], .vec true 1 (ints lo)] 0))
      (.ret (at_ [(6, i64 (runA l fuel.toNat 0 lo [] [] 0).1), (7, i64 (runA l fuel.toNat 0 lo [] [] 0).2.1), (8, i64 (runA l fuel.toNat 0 lo [] [] 0).2.2)] [] 0)) := by
    rw [hlo]
    exact hL0
  clear hL0
  let t0 : Tp pr := .m (show (decide ((0 : Nat) = (0 : Nat) ∧ (0 : Nat) ≤ (0 : Nat) ∧ (0 : Nat) + (List.map (fun x => List.map C.t x) (List.map intt lo)).length ≤ (4294967296 : Nat))) = true by simp [*])
  let t1 : Tp pr := .b (show (decide ((0 : Nat) + (List.map (fun x => List.map C.t x) (List.map intt lo)).length ≤ (0 : Nat))) = false by simp [*])
  let t2 : Tp pr := .c (show ((0 : Nat) + (List.map (fun x => List.map C.t x) (List.map intt lo)).length : Nat) = lo.length by simp)
  let t3 : Tp pr := .n .crows (show ([].append (List.map (fun x => List.map C.t x) (List.map intt lo))) = List.map ((fun x => List.map C.t x) ∘ intt) lo by simp)
  exact .tp [t0, t1, t2, t3, .a (hL)] (by kernel_rfl)
theorem locSL_ev (l : List Bc) (lo : List Int) (fuel : Int) (hl : lo.length ≤ 1048576) : ∀ (rest done : List Int) (i : Int), lo = done ++ rest → i = done.length →
    Ev pr (.loop (lq pr 69 0) (at_ [(0, bcs l), (1, .t (.seq 1 (lo.map intt))), (2, i64 fuel), (28, .t (.seq 1 (lo.map intt))), (29, i64 lo.length), (30, i64 i)] [] 0))
      (bif rest.all bdB then .exit 0 (at_ [(0, bcs l), (1, .t (.seq 1 (lo.map intt))), (2, i64 fuel)] [] 0) else .ret (at_ [(6, i64 0), (7, i64 0), (8, i64 0), (9, bl false)] [] 0))
  | [], done, i, h, hi => by
    have hll : (lo.length : Int) = done.length := by simp [h]
    let t0 : Tp pr := .b (show (decide (i < (↑lo.length : Int))) = false by (simp; omega))
    exact .tp [t0] (by kernel_rfl)
  | x :: rest, done, i, h, hi => by
    have hll : (lo.length : Int) = done.length + 1 + rest.length := by simp [h]; omega
    have hg : lkp (lo.map intt) i = some [T.int .i64 x] := by subst hi; subst h; simp [intt]
    have ih := locSL_ev l lo fuel hl rest (done ++ [x]) (i + 1) (by simp [h]) (by simp [hi])
    have hx := l2Bound_ev x
    rw [show (decide (x ≥ -1000000000) && decide (x ≤ 1000000000)) = bdB x from rfl] at hx
    cases hb : bdB x with
    | false =>
      rw [hb] at hx
      simp only [List.all_cons, hb, Bool.false_and]
      let t0 : Tp pr := .b (show (decide (i < (↑lo.length : Int))) = true by (simp; omega))
      let t1 : Tp pr := .g .row (show (lkp (List.map intt lo) i) = some ([T.int IntKind.i64 x]) from hg)
      exact .tp [t0, t1, .a (hx), .b (rfl : true = true)] (by kernel_rfl)
    | true =>
      rw [hb] at hx
      simp only [List.all_cons, hb, Bool.true_and]
      cases hr : rest.all bdB with
      | true => rw [hr] at ih; (
        let t0 : Tp pr := .b (show (decide (i < (↑lo.length : Int))) = true by (simp; omega))
        let t1 : Tp pr := .g .row (show (lkp (List.map intt lo) i) = some ([T.int IntKind.i64 x]) from hg)
        let t4 : Tp pr := .i (wrap_i64 (a := i + (1 : Int)) (by omega) (by omega))
        exact .tp [t0, t1, .a (hx), .b (rfl : false = false), t4, .a (ih)] (by kernel_rfl))
      | false => rw [hr] at ih; (
        let t0 : Tp pr := .b (show (decide (i < (↑lo.length : Int))) = true by (simp; omega))
        let t1 : Tp pr := .g .row (show (lkp (List.map intt lo) i) = some ([T.int IntKind.i64 x]) from hg)
        let t4 : Tp pr := .i (wrap_i64 (a := i + (1 : Int)) (by omega) (by omega))
        exact .tp [t0, t1, .a (hx), .b (rfl : false = false), t4, .a (ih)] (by kernel_rfl))
theorem RunBcS_ev (l : List Bc) (lo : List Int) (fuel : Int) (hl : l.length ≤ 1000000) (hlo : lo.length ≤ 1048576) : Ev pr (.call 69 [bcs l, .t (.seq 1 (lo.map intt)), i64 fuel] []) (match runBc l lo fuel with
    | some r => .val (.tup [i64 r.1, i64 r.2.1, i64 r.2.2, bl true]) []
    | none => .val (.tup [i64 0, i64 0, i64 0, bl false]) []) := by
  have h1 := GoodCodeS_ev l hl
  have h2 := locSL_ev l lo fuel hlo lo [] 0 rfl rfl
  unfold runBc localsOk
  cases hg : goodCode l with
  | false => rw [hg] at h1; rw [if_neg (by simp)]; exact .tp [.a (h1), .b (rfl : true = true), .b (rfl : true = true), .b (rfl : true = true)] (by kernel_rfl)
  | true =>
    rw [hg] at h1
    by_cases hlen : lo.length = 10
    · by_cases hf : 0 ≤ fuel ∧ fuel ≤ 2000
      · cases hgl : lo.all bdB with
        | false => rw [hgl] at h2; rw [if_neg (by simp)]; (
          let t2 : Tp pr := .i (show ((↑(List.map intt lo).length : Int) : Int) = (↑lo.length : Int) by simp)
          let t3 : Tp pr := .b (show ((↑lo.length : Int) != (10 : Int)) = false by (simp; omega))
          let t4 : Tp pr := .a (l1In_ev (fuel) ((0 : Int)) ((2000 : Int)))
          let t5 : Tp pr := .b (show (!(decide (fuel ≥ (0 : Int)) && decide (fuel ≤ (2000 : Int)))) = false by (simp; omega))
          let t6 : Tp pr := .i (show ((↑(List.map intt lo).length : Int) : Int) = (↑lo.length : Int) by simp)
          exact .tp [.a (h1), .b (rfl : false = false), t2, t3, t4, t5, t6, .a (h2)] (by kernel_rfl))
        | true =>
          rw [hgl] at h2
          rw [if_pos ⟨rfl, by simp [hlen], hf⟩]
          have h3 := l16Run_ev l lo fuel hg hlen hf (localsOk_ok (by simp [localsOk, hlen, hgl]))
          let t2 : Tp pr := .i (show ((↑(List.map intt lo).length : Int) : Int) = (↑lo.length : Int) by simp)
          let t3 : Tp pr := .b (show ((↑lo.length : Int) != (10 : Int)) = false by (simp; omega))
          let t4 : Tp pr := .a (l1In_ev (fuel) ((0 : Int)) ((2000 : Int)))
          let t5 : Tp pr := .b (show (!(decide (fuel ≥ (0 : Int)) && decide (fuel ≤ (2000 : Int)))) = false by (simp; omega))
          let t6 : Tp pr := .i (show ((↑(List.map intt lo).length : Int) : Int) = (↑lo.length : Int) by simp)
          exact .tp [.a (h1), .b (rfl : false = false), t2, t3, t4, t5, t6, .a (h2), .a (h3)] (by kernel_rfl)
      · rw [if_neg (fun h => hf h.2.2)]
        let t2 : Tp pr := .i (show ((↑(List.map intt lo).length : Int) : Int) = (↑lo.length : Int) by simp)
        let t3 : Tp pr := .b (show ((↑lo.length : Int) != (10 : Int)) = false by (simp; omega))
        let t4 : Tp pr := .a (l1In_ev (fuel) ((0 : Int)) ((2000 : Int)))
        let t5 : Tp pr := .b (show (!(decide (fuel ≥ (0 : Int)) && decide (fuel ≤ (2000 : Int)))) = true by (simp; omega))
        exact .tp [.a (h1), .b (rfl : false = false), t2, t3, t4, t5] (by kernel_rfl)
    · rw [if_neg (fun h => by simp [hlen] at h)]
      let t2 : Tp pr := .i (show ((↑(List.map intt lo).length : Int) : Int) = (↑lo.length : Int) by simp)
      let t3 : Tp pr := .b (show ((↑lo.length : Int) != (10 : Int)) = true by (simp; omega))
      exact .tp [.a (h1), .b (rfl : false = false), t2, t3, .b (rfl : true = true)] (by kernel_rfl)
end Go.Ev

/- Programs that are made and run. -/
namespace Go.Ev
set_option linter.unusedVariables false
set_option linter.unusedSimpArgs false
open Go.Proofs
set_option maxRecDepth 100000
set_option linter.unusedVariables false
set_option maxHeartbeats 1000000
def runMade (p : List Line) (lo : List Int) (fuel : Int) : Option (Int × Int × Int) :=
  match makeCode p with
  | some c => runBc c lo fuel
  | none => none
theorem makeCode_len {l : List Line} {c : List Bc} (h : makeCode l = some c) : c.length ≤ 120 := by
  unfold makeCode at h
  split at h
  · split at h
    · split at h
      · obtain rfl := Option.some.inj h; assumption
      · cases h
    · cases h
  · cases h
theorem RunMadeI_ev (l : List Line) (lo : List Int) (fuel : Int) (hl : l.length ≤ 1048576) (hs : ∀ x ∈ l, x.expr.length ≤ 1048576 ∧ ∀ y ∈ x.expr, y.text.size ≤ 9223372036854775807) (hlo : lo.length ≤ 1048576) :
    Ev pr (.call 36 [lines l, .t (.seq 1 (lo.map intt)), i64 fuel] []) (match runMade l lo fuel with
    | some r => .val (.tup [i64 r.1, i64 r.2.1, bl true]) []
    | none => .val (.tup [i64 0, i64 0, bl false]) []) := by
  have h1 := MakeCodeI_ev l hl hs
  unfold runMade
  cases hm : makeCode l with
  | none => rw [hm] at h1; exact .tp [.a (h1), .b (rfl : true = true)] (by kernel_rfl)
  | some c =>
    rw [hm] at h1
    have hc := makeCode_len hm
    have h2 := RunBcI_ev c lo fuel (by omega) hlo
    cases hr : runBc c lo fuel with
    | none => rw [hr] at h2; (
      let t2 : Tp pr := .m (show (decide ((bcc c).length = c.length ∧ (0 : Nat) + c.length ≤ c.length)) = true by simp)
      let t3 : Tp pr := .n .rows (show (List.map (fun x => List.map C.fz x) (List.take c.length (List.drop (0 : Nat) (bcc c)))) = List.map Bc.ce c by simp)
      exact .tpe [.a (h1), .b (rfl : false = false), t2, t3, .a (h2), .m (rfl : true = true)] (Out.val (V.tup [V.t (T.int IntKind.i64 (0 : Int)), V.t (T.int IntKind.i64 (0 : Int)), V.t (T.bool false)]) []) (by kernel_rfl) (congrArg (fun x => x) (show (Out.val (V.tup [V.t (T.int IntKind.i64 (0 : Int)), V.t (T.int IntKind.i64 (0 : Int)), V.t (T.bool false)]) []) = (match
        match some c with
        | some c => runBc c lo fuel
        | none => none with
      | some r => Out.val (V.tup [i64 r.fst, i64 r.snd.fst, bl true]) []
      | none => Out.val (V.tup [i64 (0 : Int), i64 (0 : Int), bl false]) []) by simp [*])))
    | some r => rw [hr] at h2; (
      let t2 : Tp pr := .m (show (decide ((bcc c).length = c.length ∧ (0 : Nat) + c.length ≤ c.length)) = true by simp)
      let t3 : Tp pr := .n .rows (show (List.map (fun x => List.map C.fz x) (List.take c.length (List.drop (0 : Nat) (bcc c)))) = List.map Bc.ce c by simp)
      exact .tpe [.a (h1), .b (rfl : false = false), t2, t3, .a (h2), .m (rfl : true = true)] (Out.val (V.tup [V.t (T.int IntKind.i64 r.fst), V.t (T.int IntKind.i64 r.snd.fst), V.t (T.bool true)]) []) (by kernel_rfl) (congrArg (fun x => x) (show (Out.val (V.tup [V.t (T.int IntKind.i64 r.fst), V.t (T.int IntKind.i64 r.snd.fst), V.t (T.bool true)]) []) = (match
        match some c with
        | some c => runBc c lo fuel
        | none => none with
      | some r => Out.val (V.tup [i64 r.fst, i64 r.snd.fst, bl true]) []
      | none => Out.val (V.tup [i64 (0 : Int), i64 (0 : Int), bl false]) []) by simp [*])))
theorem RunMadeS_ev (l : List Line) (lo : List Int) (fuel : Int) (hl : l.length ≤ 1048576) (hs : ∀ x ∈ l, x.expr.length ≤ 1048576 ∧ ∀ y ∈ x.expr, y.text.size ≤ 9223372036854775807) (hlo : lo.length ≤ 1048576) :
    Ev pr (.call 35 [lines l, .t (.seq 1 (lo.map intt)), i64 fuel] []) (match runMade l lo fuel with
    | some r => .val (.tup [i64 r.1, i64 r.2.1, bl true]) []
    | none => .val (.tup [i64 0, i64 0, bl false]) []) := by
  have h1 := MakeCodeS_ev l hl hs
  unfold runMade
  cases hm : makeCode l with
  | none => rw [hm] at h1; exact .tp [.a (h1), .b (rfl : true = true)] (by kernel_rfl)
  | some c =>
    rw [hm] at h1
    have hc := makeCode_len hm
    have h2 := RunBcS_ev c lo fuel (by omega) hlo
    cases hr : runBc c lo fuel with
    | none => rw [hr] at h2; (
      exact .tpe [.a (h1), .b (rfl : false = false), .a (h2), .b (rfl : true = true)] (Out.val (V.tup [V.t (T.int IntKind.i64 (0 : Int)), V.t (T.int IntKind.i64 (0 : Int)), V.t (T.bool false)]) []) (by kernel_rfl) (congrArg (fun x => x) (show (Out.val (V.tup [V.t (T.int IntKind.i64 (0 : Int)), V.t (T.int IntKind.i64 (0 : Int)), V.t (T.bool false)]) []) = (match
        match some c with
        | some c => runBc c lo fuel
        | none => none with
      | some r => Out.val (V.tup [i64 r.fst, i64 r.snd.fst, bl true]) []
      | none => Out.val (V.tup [i64 (0 : Int), i64 (0 : Int), bl false]) []) by simp [*])))
    | some r => rw [hr] at h2; (
      exact .tpe [.a (h1), .b (rfl : false = false), .a (h2), .b (rfl : false = false)] (Out.val (V.tup [V.t (T.int IntKind.i64 r.fst), V.t (T.int IntKind.i64 r.snd.fst), V.t (T.bool true)]) []) (by kernel_rfl) (congrArg (fun x => x) (show (Out.val (V.tup [V.t (T.int IntKind.i64 r.fst), V.t (T.int IntKind.i64 r.snd.fst), V.t (T.bool true)]) []) = (match
        match some c with
        | some c => runBc c lo fuel
        | none => none with
      | some r => Out.val (V.tup [i64 r.fst, i64 r.snd.fst, bl true]) []
      | none => Out.val (V.tup [i64 (0 : Int), i64 (0 : Int), bl false]) []) by simp [*])))
end Go.Ev

/- Marks. -/
namespace Go.Ev
set_option linter.unusedVariables false
set_option linter.unusedSimpArgs false
open Go.Proofs
set_option maxRecDepth 100000
set_option linter.unusedVariables false
set_option maxHeartbeats 1000000
attribute [local simp] e0
theorem markTextL_ev : ∀ (n : Nat) (k : Int) (o : ByteArray), 0 ≤ k → k < 10 ^ n → o.size + n ≤ 1000 → n ≤ 18 →
    Ev pr (.loop (lq pr 54 0) (at_ [(0, i64 k), (3, .t (.str o))] [] 0)) (.exit 0 (at_ [(3, .t (.str (mtGo n k o)))] [] 0))
  | 0, k, o, h0, h1, h2, h3 => by
    have hk : k = 0 := by simp at h1; omega
    subst hk
    exact .tp [.b (rfl : false = false)] (by kernel_rfl)
  | n + 1, k, o, h0, h1, h2, h3 => by
    have hp : (10 : Int) ^ (n + 1) = 10 * 10 ^ n := by rw [Int.pow_succ]; omega
    have hb : (10 : Int) ^ n ≤ 10 ^ 17 := by
      have : n ≤ 17 := by omega
      exact_mod_cast Nat.pow_le_pow_right (by omega) this
    have hb2 : (10 : Int) ^ 17 = 100000000000000000 := by decide
    have hm0 : 0 ≤ k.tmod 10 := Int.tmod_nonneg _ h0
    have hm1 : k.tmod 10 < 10 := Int.tmod_lt_of_pos _ (by omega)
    have hd : k.tdiv 10 = k / 10 := Int.tdiv_eq_ediv_of_nonneg h0
    have hs : (strOf [48 + k.tmod 10]).size = 1 := by simp [strOf_size]
    by_cases hk : k > 0
    · have ih := markTextL_ev n (k.tdiv 10) (strOf [48 + k.tmod 10] ++ o) (by omega) (by omega) (by rw [ByteArray.size_append]; omega) (by omega)
      have e : mtGo (n + 1) k o = mtGo n (k.tdiv 10) (strOf [48 + k.tmod 10] ++ o) := by simp [mtGo, hk]
      rw [e]
      let t0 : Tp pr := .b (show (decide (k > (0 : Int))) = true by (simp; omega))
      let t3 : Tp pr := .i (wrap_i64 (a := (48 : Int) + k.tmod (10 : Int)) (by omega) (by omega))
      let t4 : Tp pr := .i (wrap_u8 (a := (48 : Int) + k.tmod (10 : Int)) (by omega) (by omega))
      let t6 : Tp pr := .n .rows (show (List.map (fun x => List.map C.fz x) (List.take (1 : Nat) (List.drop (0 : Nat) [[C.t (T.int IntKind.u8 ((48 : Int) + k.tmod (10 : Int)))]]))) = [[(C.t (T.int IntKind.u8 ((48 : Int) + k.tmod (10 : Int)))).fz]] by simp)
      let t7 : Tp pr := .m (show (decide ((1 : Nat) + o.size ≤ (9223372036854775807 : Nat))) = true by (simp; omega))
      let t8 : Tp pr := .n .str (show ((ByteArray.mk (Array.mk [UInt8.ofNat ((48 : Int) + k.tmod (10 : Int)).toNat])).append o) = ByteArray.mk (Array.mk [UInt8.ofNat ((48 : Int) + k.tmod (10 : Int)).toNat]) ++ o by simp)
      let t10 : Tp pr := .i (wrap_i64 (a := k.tdiv (10 : Int)) (by omega) (by omega))
      exact .tp [t0, .m (rfl : true = true), .i (rfl : (k.tmod (10 : Int)) = _), t3, t4, .m (rfl : true = true), t6, t7, t8, .m (rfl : true = true), t10, .a (ih)] (by kernel_rfl)
    · have e : mtGo (n + 1) k o = o := by simp [mtGo, hk]
      rw [e]
      let t0 : Tp pr := .b (show (decide (k > (0 : Int))) = false by (simp; omega))
      exact .tp [t0] (by kernel_rfl)
theorem markText_ev (k : Int) (h0 : 0 ≤ k) (h : k ≤ 10000000000) : Ev pr (.call 54 [i64 k] []) (.val (.t (.str (mText k))) []) := by
  unfold mText
  by_cases hk : k ≤ 0
  · rw [if_pos hk]; (
    let t0 : Tp pr := .b (show (decide (k ≤ (0 : Int))) = true by (simp; omega))
    exact .tp [t0] (by kernel_rfl))
  · rw [if_neg hk]
    have hl := markTextL_ev 18 k ⟨#[]⟩ h0 (by omega) (by decide) (by omega)
    have hz : (mtGo 18 k ⟨#[]⟩).size ≤ 1000 := mtGo_size 18 k ⟨#[]⟩ (by decide)
    let t0 : Tp pr := .b (show (decide (k ≤ (0 : Int))) = false by (simp; omega))
    let t2 : Tp pr := .m (show (decide ((1 : Nat) + (mtGo (18 : Nat) k (ByteArray.mk #[])).size ≤ (9223372036854775807 : Nat))) = true by (simp; omega))
    let t3 : Tp pr := .n .str (show ((ByteArray.mk #[(109 : UInt8)]).append (mtGo (18 : Nat) k (ByteArray.mk #[]))) = ByteArray.mk #[(109 : UInt8)] ++ mtGo (18 : Nat) k (ByteArray.mk #[]) by simp)
    exact .tp [t0, .a (hl), t2, t3] (by kernel_rfl)
theorem markBcL_ev (mt : Int → ByteArray) (hmt : ∀ k, 0 ≤ k → k ≤ 10000000000 → Ev pr (.call 54 [i64 k] []) (.val (.t (.str (mt k))) [])) : ∀ (rest m : List Bc) (k : Int), 0 ≤ k → k + 3 * rest.length ≤ 9000000 → m.length + rest.length ≤ 1048576 →
    Ev pr (.loop (lq pr 21 0) (at_ [(0, .vec 0 (m.length + rest.length) 3 0 (m.length + rest.length)), (1, i64 k), (5, i64 m.length)] [.vec true 3 (bcc (m ++ rest))] 1))
      (.exit 0 (at_ [(1, i64 (k + 3 * rest.length))] [.vec true 3 (bcc (m ++ mark3 mt k rest.length))] 1))
  | [], m, k, h0, h1, h2 => by
    let t0 : Tp pr := .i (show ((↑(m.length + (0 : Nat)) : Int) : Int) = (↑m.length : Int) by omega)
    let t1 : Tp pr := .b (show (decide ((↑m.length : Int) < (↑m.length : Int))) = false by simp)
    exact .tpe [t0, t1] (Out.exit (0 : Nat) (at_ [((1 : Nat), V.t (T.int IntKind.i64 k))] [Ob.vec true (3 : Nat) (bcc (m ++ []))] (1 : Nat))) (by kernel_rfl) ((congrArg (fun x => Out.exit (0 : Nat) (at_ [((1 : Nat), V.t (T.int IntKind.i64 x))] [Ob.vec true (3 : Nat) (bcc (m ++ []))] (1 : Nat))) (show (k) = (k + (0 : Int)) by simp [mark3])).trans (congrArg (fun x => Out.exit (0 : Nat) (at_ [((1 : Nat), V.t (T.int IntKind.i64 (k + (0 : Int))))] [Ob.vec true (3 : Nat) x] (1 : Nat))) (show (bcc (m ++ [])) = (bcc (m ++ mark3 mt k (0 : Nat))) by simp [mark3])))
  | x :: rest, m, k, h0, h1, h2 => by
    simp at h1 h2
    have ht := hmt (k + 1 + 1) (by omega) (by omega)
    have ih := markBcL_ev mt hmt rest (m ++ [⟨k, k + 1, mt (k + 1 + 1)⟩]) (k + 1 + 1 + 1) (by omega) (by omega) (by simp; omega)
    let t0 : Tp pr := .i (show ((↑(m.length + (x :: rest).length) : Int) : Int) = (↑m.length : Int) + ((↑rest.length : Int) + (1 : Int)) by simp)
    let t1 : Tp pr := .b (show (decide ((↑m.length : Int) < (↑m.length : Int) + ((↑rest.length : Int) + (1 : Int)))) = true by (simp; omega))
    let t2 : Tp pr := .m (show (decide ((0 : Int) ≤ (↑m.length : Int) ∧ (↑m.length : Int).toNat < m.length + (x :: rest).length)) = true by simp)
    let t3 : Tp pr := .c (show ((0 : Nat) + (↑m.length : Int).toNat : Nat) = m.length by omega)
    let t4 : Tp pr := .m (show (decide ((bcc (m ++ x :: rest)).length = m.length + (x :: rest).length)) = true by simp)
    let t5 : Tp pr := .g .crow (show ((bcc (m ++ x :: rest))[m.length]?) = some ([C.t (T.int IntKind.i64 x.op), C.t (T.int IntKind.i64 x.n), C.t (T.str x.text)]) by simp)
    let t6 : Tp pr := .m (show (decide ((bcc (m ++ x :: rest)).length = m.length + (x :: rest).length)) = true by simp)
    let t7 : Tp pr := .g .crow (show ((bcc (m ++ x :: rest))[m.length]?) = some ([C.t (T.int IntKind.i64 x.op), C.t (T.int IntKind.i64 x.n), C.t (T.str x.text)]) by simp)
    let t8 : Tp pr := .n .crows (show ((bcc (m ++ x :: rest)).set m.length [C.t (T.int IntKind.i64 k), C.t (T.int IntKind.i64 x.n), C.t (T.str x.text)]) = bcc (m ++ Bc.mk k x.n x.text :: rest) by simp)
    let t9 : Tp pr := .i (wrap_i64 (a := k + (1 : Int)) (by omega) (by omega))
    let t10 : Tp pr := .m (show (decide ((0 : Int) ≤ (↑m.length : Int) ∧ (↑m.length : Int).toNat < m.length + (x :: rest).length)) = true by simp)
    let t11 : Tp pr := .c (show ((0 : Nat) + (↑m.length : Int).toNat : Nat) = m.length by omega)
    let t12 : Tp pr := .m (show (decide ((bcc (m ++ Bc.mk k x.n x.text :: rest)).length = m.length + (x :: rest).length)) = true by simp)
    let t13 : Tp pr := .g .crow (show ((bcc (m ++ Bc.mk k x.n x.text :: rest))[m.length]?) = some ([C.t (T.int IntKind.i64 k), C.t (T.int IntKind.i64 x.n), C.t (T.str x.text)]) by simp)
    let t14 : Tp pr := .n .crows (show ((bcc (m ++ Bc.mk k x.n x.text :: rest)).set m.length [C.t (T.int IntKind.i64 k), C.t (T.int IntKind.i64 (k + (1 : Int))), C.t (T.str x.text)]) = bcc (m ++ Bc.mk k (k + (1 : Int)) x.text :: rest) by simp)
    let t15 : Tp pr := .i (wrap_i64 (a := k + (1 : Int) + (1 : Int)) (by omega) (by omega))
    let t16 : Tp pr := .a (hmt (k + (1 : Int) + (1 : Int)) (by omega) (by omega))
    let t17 : Tp pr := .m (show (decide ((0 : Int) ≤ (↑m.length : Int) ∧ (↑m.length : Int).toNat < m.length + (x :: rest).length)) = true by simp)
    let t18 : Tp pr := .c (show ((0 : Nat) + (↑m.length : Int).toNat : Nat) = m.length by omega)
    let t19 : Tp pr := .m (show (decide ((bcc (m ++ Bc.mk k (k + (1 : Int)) x.text :: rest)).length = m.length + (x :: rest).length)) = true by simp)
    let t20 : Tp pr := .g .crow (show ((bcc (m ++ Bc.mk k (k + (1 : Int)) x.text :: rest))[m.length]?) = some ([C.t (T.int IntKind.i64 k), C.t (T.int IntKind.i64 (k + (1 : Int))), C.t (T.str x.text)]) by simp)
    let t21 : Tp pr := .n .crows (show ((bcc (m ++ Bc.mk k (k + (1 : Int)) x.text :: rest)).set m.length [C.t (T.int IntKind.i64 k), C.t (T.int IntKind.i64 (k + (1 : Int))), C.t (T.str (mt (k + (1 : Int) + (1 : Int))))]) = bcc (m ++ Bc.mk k (k + (1 : Int)) (mt (k + (1 : Int) + (1 : Int))) :: rest) by simp)
    let t22 : Tp pr := .i (wrap_i64 (a := k + (1 : Int) + (1 : Int) + (1 : Int)) (by omega) (by omega))
    let t23 : Tp pr := .i (wrap_i64 (a := (↑m.length : Int) + (1 : Int)) (by omega) (by omega))
    let t24 : Tp pr := .a (Ev.castq (((congrArg (fun x => Q.loop (lq pr (21 : FuncId) (0 : Nat)) (at_ [((0 : Nat), V.vec (0 : Nat) x (3 : Nat) (0 : Nat) x), ((1 : Nat), i64 (k + (1 : Int) + (1 : Int) + (1 : Int))), ((5 : Nat), i64 (↑(m ++ [Bc.mk k (k + (1 : Int)) (mt (k + (1 : Int) + (1 : Int)))]).length : Int))] [Ob.vec true (3 : Nat) (bcc (m ++ [Bc.mk k (k + (1 : Int)) (mt (k + (1 : Int) + (1 : Int)))] ++ rest))] (1 : Nat))) (show ((m ++ [Bc.mk k (k + (1 : Int)) (mt (k + (1 : Int) + (1 : Int)))]).length + rest.length) = (m.length + (x :: rest).length) by (simp [mark3] <;> omega))).trans (congrArg (fun x_1 => Q.loop (lq pr (21 : FuncId) (0 : Nat)) (at_ [((0 : Nat), V.vec (0 : Nat) (m.length + (x :: rest).length) (3 : Nat) (0 : Nat) (m.length + (x :: rest).length)), ((1 : Nat), i64 (k + (1 : Int) + (1 : Int) + (1 : Int))), ((5 : Nat), i64 x_1)] [Ob.vec true (3 : Nat) (bcc (m ++ [Bc.mk k (k + (1 : Int)) (mt (k + (1 : Int) + (1 : Int)))] ++ rest))] (1 : Nat))) (show ((↑(m ++ [Bc.mk k (k + (1 : Int)) (mt (k + (1 : Int) + (1 : Int)))]).length : Int)) = ((↑m.length : Int) + (1 : Int)) by (simp [mark3] <;> omega)))).trans (congrArg (fun x_1 => Q.loop (lq pr (21 : FuncId) (0 : Nat)) (at_ [((0 : Nat), V.vec (0 : Nat) (m.length + (x :: rest).length) (3 : Nat) (0 : Nat) (m.length + (x :: rest).length)), ((1 : Nat), i64 (k + (1 : Int) + (1 : Int) + (1 : Int))), ((5 : Nat), i64 ((↑m.length : Int) + (1 : Int)))] [Ob.vec true (3 : Nat) x_1] (1 : Nat))) (show (bcc (m ++ [Bc.mk k (k + (1 : Int)) (mt (k + (1 : Int) + (1 : Int)))] ++ rest)) = (bcc (m ++ Bc.mk k (k + (1 : Int)) (mt (k + (1 : Int) + (1 : Int))) :: rest)) by (simp [mark3] <;> omega)))) (ih))
    exact .tpe [t0, t1, t2, t3, t4, t5, t6, t7, t8, t9, t10, t11, t12, t13, t14, t15, t16, t17, t18, t19, t20, t21, t22, t23, t24] (Out.exit (0 : Nat) (at_ [((1 : Nat), V.t (T.int IntKind.i64 (k + (1 : Int) + (1 : Int) + (1 : Int) + (3 : Int) * (↑rest.length : Int))))] [Ob.vec true (3 : Nat) (bcc (m ++ [Bc.mk k (k + (1 : Int)) (mt (k + (1 : Int) + (1 : Int)))] ++ mark3 mt (k + (1 : Int) + (1 : Int) + (1 : Int)) rest.length))] (1 : Nat))) (by kernel_rfl) ((congrArg (fun x => Out.exit (0 : Nat) (at_ [((1 : Nat), V.t (T.int IntKind.i64 x))] [Ob.vec true (3 : Nat) (bcc (m ++ [Bc.mk k (k + (1 : Int)) (mt (k + (1 : Int) + (1 : Int)))] ++ mark3 mt (k + (1 : Int) + (1 : Int) + (1 : Int)) rest.length))] (1 : Nat))) (show (k + (1 : Int) + (1 : Int) + (1 : Int) + (3 : Int) * (↑rest.length : Int)) = (k + (3 : Int) * (↑(x :: rest).length : Int)) by (simp [mark3] <;> omega))).trans (congrArg (fun x_1 => Out.exit (0 : Nat) (at_ [((1 : Nat), V.t (T.int IntKind.i64 (k + (3 : Int) * (↑(x :: rest).length : Int))))] [Ob.vec true (3 : Nat) x_1] (1 : Nat))) (show (bcc (m ++ [Bc.mk k (k + (1 : Int)) (mt (k + (1 : Int) + (1 : Int)))] ++ mark3 mt (k + (1 : Int) + (1 : Int) + (1 : Int)) rest.length)) = (bcc (m ++ mark3 mt k (x :: rest).length)) by (simp [mark3] <;> omega))))
theorem markBcS_ev (mt : Int → ByteArray) (hmt : ∀ k, 0 ≤ k → k ≤ 10000000000 → Ev pr (.call 54 [i64 k] []) (.val (.t (.str (mt k))) [])) (l : List Bc) (k : Int) (h0 : 0 ≤ k) (h : k + 3 * l.length ≤ 9000000) (h2 : l.length ≤ 1048576) : Ev pr (.call 21 [.vec 0 l.length 3 0 l.length, i64 k] [.vec true 3 (bcc l)]) (.val (i64 (k + 3 * l.length)) [.vec true 3 (bcc (mark3 mt k l.length))]) := by
  have := markBcL_ev mt hmt l [] k h0 h (by simpa using h2)
  let t0 : Tp pr := .a (Ev.castq (congrArg (fun x => Q.loop (lq pr (21 : FuncId) (0 : Nat)) (at_ [((0 : Nat), V.vec (0 : Nat) x (3 : Nat) (0 : Nat) x), ((1 : Nat), i64 k), ((5 : Nat), i64 (↑(0 : Nat) : Int))] [Ob.vec true (3 : Nat) (bcc ([] ++ l))] (1 : Nat))) (show ((0 : Nat) + l.length) = (l.length) by simp)) (this))
  exact .tp [t0] (by kernel_rfl)
theorem markExL_ev (mt : Int → ByteArray) (hmt : ∀ k, 0 ≤ k → k ≤ 10000000000 → Ev pr (.call 54 [i64 k] []) (.val (.t (.str (mt k))) [])) : ∀ (rest m : List Bc) (k : Int), 0 ≤ k → k + 3 * rest.length ≤ 9000000 → m.length + rest.length ≤ 1048576 →
    Ev pr (.loop (lq pr 20 0) (at_ [(0, .vec 0 (m.length + rest.length) 3 0 (m.length + rest.length)), (1, i64 k), (5, i64 m.length)] [.vec true 3 (bcc (m ++ rest))] 1))
      (.exit 0 (at_ [(1, i64 (k + 3 * rest.length))] [.vec true 3 (bcc (m ++ mark3 mt k rest.length))] 1))
  | [], m, k, h0, h1, h2 => by
    let t0 : Tp pr := .i (show ((↑(m.length + (0 : Nat)) : Int) : Int) = (↑m.length : Int) by omega)
    let t1 : Tp pr := .b (show (decide ((↑m.length : Int) < (↑m.length : Int))) = false by simp)
    exact .tpe [t0, t1] (Out.exit (0 : Nat) (at_ [((1 : Nat), V.t (T.int IntKind.i64 k))] [Ob.vec true (3 : Nat) (bcc (m ++ []))] (1 : Nat))) (by kernel_rfl) ((congrArg (fun x => Out.exit (0 : Nat) (at_ [((1 : Nat), V.t (T.int IntKind.i64 x))] [Ob.vec true (3 : Nat) (bcc (m ++ []))] (1 : Nat))) (show (k) = (k + (0 : Int)) by simp [mark3])).trans (congrArg (fun x => Out.exit (0 : Nat) (at_ [((1 : Nat), V.t (T.int IntKind.i64 (k + (0 : Int))))] [Ob.vec true (3 : Nat) x] (1 : Nat))) (show (bcc (m ++ [])) = (bcc (m ++ mark3 mt k (0 : Nat))) by simp [mark3])))
  | x :: rest, m, k, h0, h1, h2 => by
    simp at h1 h2
    have ht := hmt (k + 1 + 1) (by omega) (by omega)
    have ih := markExL_ev mt hmt rest (m ++ [⟨k, k + 1, mt (k + 1 + 1)⟩]) (k + 1 + 1 + 1) (by omega) (by omega) (by simp; omega)
    let t0 : Tp pr := .i (show ((↑(m.length + (x :: rest).length) : Int) : Int) = (↑m.length : Int) + ((↑rest.length : Int) + (1 : Int)) by simp)
    let t1 : Tp pr := .b (show (decide ((↑m.length : Int) < (↑m.length : Int) + ((↑rest.length : Int) + (1 : Int)))) = true by (simp; omega))
    let t2 : Tp pr := .m (show (decide ((0 : Int) ≤ (↑m.length : Int) ∧ (↑m.length : Int).toNat < m.length + (x :: rest).length)) = true by simp)
    let t3 : Tp pr := .c (show ((0 : Nat) + (↑m.length : Int).toNat : Nat) = m.length by omega)
    let t4 : Tp pr := .m (show (decide ((bcc (m ++ x :: rest)).length = m.length + (x :: rest).length)) = true by simp)
    let t5 : Tp pr := .g .crow (show ((bcc (m ++ x :: rest))[m.length]?) = some ([C.t (T.int IntKind.i64 x.op), C.t (T.int IntKind.i64 x.n), C.t (T.str x.text)]) by simp)
    let t6 : Tp pr := .m (show (decide ((bcc (m ++ x :: rest)).length = m.length + (x :: rest).length)) = true by simp)
    let t7 : Tp pr := .g .crow (show ((bcc (m ++ x :: rest))[m.length]?) = some ([C.t (T.int IntKind.i64 x.op), C.t (T.int IntKind.i64 x.n), C.t (T.str x.text)]) by simp)
    let t8 : Tp pr := .n .crows (show ((bcc (m ++ x :: rest)).set m.length [C.t (T.int IntKind.i64 k), C.t (T.int IntKind.i64 x.n), C.t (T.str x.text)]) = bcc (m ++ Bc.mk k x.n x.text :: rest) by simp)
    let t9 : Tp pr := .i (wrap_i64 (a := k + (1 : Int)) (by omega) (by omega))
    let t10 : Tp pr := .m (show (decide ((0 : Int) ≤ (↑m.length : Int) ∧ (↑m.length : Int).toNat < m.length + (x :: rest).length)) = true by simp)
    let t11 : Tp pr := .c (show ((0 : Nat) + (↑m.length : Int).toNat : Nat) = m.length by omega)
    let t12 : Tp pr := .m (show (decide ((bcc (m ++ Bc.mk k x.n x.text :: rest)).length = m.length + (x :: rest).length)) = true by simp)
    let t13 : Tp pr := .g .crow (show ((bcc (m ++ Bc.mk k x.n x.text :: rest))[m.length]?) = some ([C.t (T.int IntKind.i64 k), C.t (T.int IntKind.i64 x.n), C.t (T.str x.text)]) by simp)
    let t14 : Tp pr := .n .crows (show ((bcc (m ++ Bc.mk k x.n x.text :: rest)).set m.length [C.t (T.int IntKind.i64 k), C.t (T.int IntKind.i64 (k + (1 : Int))), C.t (T.str x.text)]) = bcc (m ++ Bc.mk k (k + (1 : Int)) x.text :: rest) by simp)
    let t15 : Tp pr := .i (wrap_i64 (a := k + (1 : Int) + (1 : Int)) (by omega) (by omega))
    let t16 : Tp pr := .a (hmt (k + (1 : Int) + (1 : Int)) (by omega) (by omega))
    let t17 : Tp pr := .m (show (decide ((0 : Int) ≤ (↑m.length : Int) ∧ (↑m.length : Int).toNat < m.length + (x :: rest).length)) = true by simp)
    let t18 : Tp pr := .c (show ((0 : Nat) + (↑m.length : Int).toNat : Nat) = m.length by omega)
    let t19 : Tp pr := .m (show (decide ((bcc (m ++ Bc.mk k (k + (1 : Int)) x.text :: rest)).length = m.length + (x :: rest).length)) = true by simp)
    let t20 : Tp pr := .g .crow (show ((bcc (m ++ Bc.mk k (k + (1 : Int)) x.text :: rest))[m.length]?) = some ([C.t (T.int IntKind.i64 k), C.t (T.int IntKind.i64 (k + (1 : Int))), C.t (T.str x.text)]) by simp)
    let t21 : Tp pr := .n .crows (show ((bcc (m ++ Bc.mk k (k + (1 : Int)) x.text :: rest)).set m.length [C.t (T.int IntKind.i64 k), C.t (T.int IntKind.i64 (k + (1 : Int))), C.t (T.str (mt (k + (1 : Int) + (1 : Int))))]) = bcc (m ++ Bc.mk k (k + (1 : Int)) (mt (k + (1 : Int) + (1 : Int))) :: rest) by simp)
    let t22 : Tp pr := .i (wrap_i64 (a := k + (1 : Int) + (1 : Int) + (1 : Int)) (by omega) (by omega))
    let t23 : Tp pr := .i (wrap_i64 (a := (↑m.length : Int) + (1 : Int)) (by omega) (by omega))
    let t24 : Tp pr := .a (Ev.castq (((congrArg (fun x => Q.loop (lq pr (20 : FuncId) (0 : Nat)) (at_ [((0 : Nat), V.vec (0 : Nat) x (3 : Nat) (0 : Nat) x), ((1 : Nat), i64 (k + (1 : Int) + (1 : Int) + (1 : Int))), ((5 : Nat), i64 (↑(m ++ [Bc.mk k (k + (1 : Int)) (mt (k + (1 : Int) + (1 : Int)))]).length : Int))] [Ob.vec true (3 : Nat) (bcc (m ++ [Bc.mk k (k + (1 : Int)) (mt (k + (1 : Int) + (1 : Int)))] ++ rest))] (1 : Nat))) (show ((m ++ [Bc.mk k (k + (1 : Int)) (mt (k + (1 : Int) + (1 : Int)))]).length + rest.length) = (m.length + (x :: rest).length) by (simp [mark3] <;> omega))).trans (congrArg (fun x_1 => Q.loop (lq pr (20 : FuncId) (0 : Nat)) (at_ [((0 : Nat), V.vec (0 : Nat) (m.length + (x :: rest).length) (3 : Nat) (0 : Nat) (m.length + (x :: rest).length)), ((1 : Nat), i64 (k + (1 : Int) + (1 : Int) + (1 : Int))), ((5 : Nat), i64 x_1)] [Ob.vec true (3 : Nat) (bcc (m ++ [Bc.mk k (k + (1 : Int)) (mt (k + (1 : Int) + (1 : Int)))] ++ rest))] (1 : Nat))) (show ((↑(m ++ [Bc.mk k (k + (1 : Int)) (mt (k + (1 : Int) + (1 : Int)))]).length : Int)) = ((↑m.length : Int) + (1 : Int)) by (simp [mark3] <;> omega)))).trans (congrArg (fun x_1 => Q.loop (lq pr (20 : FuncId) (0 : Nat)) (at_ [((0 : Nat), V.vec (0 : Nat) (m.length + (x :: rest).length) (3 : Nat) (0 : Nat) (m.length + (x :: rest).length)), ((1 : Nat), i64 (k + (1 : Int) + (1 : Int) + (1 : Int))), ((5 : Nat), i64 ((↑m.length : Int) + (1 : Int)))] [Ob.vec true (3 : Nat) x_1] (1 : Nat))) (show (bcc (m ++ [Bc.mk k (k + (1 : Int)) (mt (k + (1 : Int) + (1 : Int)))] ++ rest)) = (bcc (m ++ Bc.mk k (k + (1 : Int)) (mt (k + (1 : Int) + (1 : Int))) :: rest)) by (simp [mark3] <;> omega)))) (ih))
    exact .tpe [t0, t1, t2, t3, t4, t5, t6, t7, t8, t9, t10, t11, t12, t13, t14, t15, t16, t17, t18, t19, t20, t21, t22, t23, t24] (Out.exit (0 : Nat) (at_ [((1 : Nat), V.t (T.int IntKind.i64 (k + (1 : Int) + (1 : Int) + (1 : Int) + (3 : Int) * (↑rest.length : Int))))] [Ob.vec true (3 : Nat) (bcc (m ++ [Bc.mk k (k + (1 : Int)) (mt (k + (1 : Int) + (1 : Int)))] ++ mark3 mt (k + (1 : Int) + (1 : Int) + (1 : Int)) rest.length))] (1 : Nat))) (by kernel_rfl) ((congrArg (fun x => Out.exit (0 : Nat) (at_ [((1 : Nat), V.t (T.int IntKind.i64 x))] [Ob.vec true (3 : Nat) (bcc (m ++ [Bc.mk k (k + (1 : Int)) (mt (k + (1 : Int) + (1 : Int)))] ++ mark3 mt (k + (1 : Int) + (1 : Int) + (1 : Int)) rest.length))] (1 : Nat))) (show (k + (1 : Int) + (1 : Int) + (1 : Int) + (3 : Int) * (↑rest.length : Int)) = (k + (3 : Int) * (↑(x :: rest).length : Int)) by (simp [mark3] <;> omega))).trans (congrArg (fun x_1 => Out.exit (0 : Nat) (at_ [((1 : Nat), V.t (T.int IntKind.i64 (k + (3 : Int) * (↑(x :: rest).length : Int))))] [Ob.vec true (3 : Nat) x_1] (1 : Nat))) (show (bcc (m ++ [Bc.mk k (k + (1 : Int)) (mt (k + (1 : Int) + (1 : Int)))] ++ mark3 mt (k + (1 : Int) + (1 : Int) + (1 : Int)) rest.length)) = (bcc (m ++ mark3 mt k (x :: rest).length)) by (simp [mark3] <;> omega))))
theorem markExS_ev (mt : Int → ByteArray) (hmt : ∀ k, 0 ≤ k → k ≤ 10000000000 → Ev pr (.call 54 [i64 k] []) (.val (.t (.str (mt k))) [])) (l : List Bc) (k : Int) (h0 : 0 ≤ k) (h : k + 3 * l.length ≤ 9000000) (h2 : l.length ≤ 1048576) : Ev pr (.call 20 [.vec 0 l.length 3 0 l.length, i64 k] [.vec true 3 (bcc l)]) (.val (i64 (k + 3 * l.length)) [.vec true 3 (bcc (mark3 mt k l.length))]) := by
  have := markExL_ev mt hmt l [] k h0 h (by simpa using h2)
  let t0 : Tp pr := .a (Ev.castq (congrArg (fun x => Q.loop (lq pr (20 : FuncId) (0 : Nat)) (at_ [((0 : Nat), V.vec (0 : Nat) x (3 : Nat) (0 : Nat) x), ((1 : Nat), i64 k), ((5 : Nat), i64 (↑(0 : Nat) : Int))] [Ob.vec true (3 : Nat) (bcc ([] ++ l))] (1 : Nat))) (show ((0 : Nat) + l.length) = (l.length) by simp)) (this))
  exact .tp [t0] (by kernel_rfl)
theorem heldBcL_ev (mt : Int → ByteArray) (hmt : ∀ k, 0 ≤ k → k ≤ 10000000000 → Ev pr (.call 54 [i64 k] []) (.val (.t (.str (mt k))) [])) : ∀ (n : Nat) (m : List Bc) (k : Int), 0 ≤ k → k + 3 * n ≤ 9000000 → m.length + n ≤ 1048576 →
    Ev pr (.loop (lq pr 22 0) (at_ [(0, bcs (m ++ mark3 mt k n)), (1, i64 k), (5, i64 m.length)] [] 0)) (.exit 0 (at_ [(1, i64 (k + 3 * n))] [] 0))
  | 0, m, k, h0, h1, h2 => by
    let t0 : Tp pr := .i (show ((↑(List.map Bc.ce (m ++ mark3 mt k (0 : Nat))).length : Int) : Int) = (↑m.length : Int) + (↑(mark3 mt k (0 : Nat)).length : Int) by simp)
    let t1 : Tp pr := .b (show (decide ((↑m.length : Int) < (↑m.length : Int) + (0 : Int))) = false by simp)
    exact .tpe [t0, t1] (Out.exit (0 : Nat) (at_ [((1 : Nat), V.t (T.int IntKind.i64 k))] [] (0 : Nat))) (by kernel_rfl) (congrArg (fun x => Out.exit (0 : Nat) (at_ [((1 : Nat), V.t (T.int IntKind.i64 x))] [] (0 : Nat))) (show (k) = (k + (0 : Int)) by simp [mark3]))
  | n + 1, m, k, h0, h1, h2 => by
    have ht := hmt (k + 1 + 1) (by omega) (by omega)
    have ih := heldBcL_ev mt hmt n (m ++ [⟨k, k + 1, mt (k + 1 + 1)⟩]) (k + 1 + 1 + 1) (by omega) (by omega) (by simp; omega)
    have hm := mark3_len mt (k + 1 + 1 + 1) n
    rw [show mark3 mt k (n + 1) = ⟨k, k + 1, mt (k + 1 + 1)⟩ :: mark3 mt (k + 1 + 1 + 1) n from rfl]
    let t0 : Tp pr := .i (show ((↑(List.map Bc.ce (m ++ Bc.mk k (k + (1 : Int)) (mt (k + (1 : Int) + (1 : Int))) :: mark3 mt (k + (1 : Int) + (1 : Int) + (1 : Int)) n)).length : Int) : Int) = (↑m.length : Int) + ((↑(mark3 mt (k + (1 : Int) + (1 : Int) + (1 : Int)) n).length : Int) + (1 : Int)) by simp)
    let t1 : Tp pr := .b (show (decide ((↑m.length : Int) < (↑m.length : Int) + ((↑(mark3 mt (k + (1 : Int) + (1 : Int) + (1 : Int)) n).length : Int) + (1 : Int)))) = true by (simp; omega))
    let t2 : Tp pr := .g .row (show (lkp (List.map Bc.ce (m ++ Bc.mk k (k + (1 : Int)) (mt (k + (1 : Int) + (1 : Int))) :: mark3 mt (k + (1 : Int) + (1 : Int) + (1 : Int)) n)) (↑m.length : Int)) = some ((Bc.mk k (k + (1 : Int)) (mt (k + (1 : Int) + (1 : Int)))).ce) by simp)
    let t4 : Tp pr := .i (wrap_i64 (a := k + (1 : Int)) (by omega) (by omega))
    let t5 : Tp pr := .g .row (show (lkp (List.map Bc.ce (m ++ Bc.mk k (k + (1 : Int)) (mt (k + (1 : Int) + (1 : Int))) :: mark3 mt (k + (1 : Int) + (1 : Int) + (1 : Int)) n)) (↑m.length : Int)) = some ((Bc.mk k (k + (1 : Int)) (mt (k + (1 : Int) + (1 : Int)))).ce) by simp)
    let t6 : Tp pr := .b (show (k + (1 : Int) != k + (1 : Int)) = false by simp)
    let t7 : Tp pr := .i (wrap_i64 (a := k + (1 : Int) + (1 : Int)) (by omega) (by omega))
    let t10 : Tp pr := .g .row (show (lkp (List.map Bc.ce (m ++ Bc.mk k (k + (1 : Int)) (mt (k + (1 : Int) + (1 : Int))) :: mark3 mt (k + (1 : Int) + (1 : Int) + (1 : Int)) n)) (↑m.length : Int)) = some ((Bc.mk k (k + (1 : Int)) (mt (k + (1 : Int) + (1 : Int)))).ce) by simp)
    let t15 : Tp pr := .a (hmt (k + (1 : Int) + (1 : Int)) (by omega) (by omega))
    let t18 : Tp pr := .b (show (!(mt (k + (1 : Int) + (1 : Int))).toList == (mt (k + (1 : Int) + (1 : Int))).toList) = false by simp)
    let t19 : Tp pr := .i (wrap_i64 (a := k + (1 : Int) + (1 : Int) + (1 : Int)) (by omega) (by omega))
    let t20 : Tp pr := .i (wrap_i64 (a := (↑m.length : Int) + (1 : Int)) (by omega) (by omega))
    let t21 : Tp pr := .a (Ev.castq ((congrArg (fun x => Q.loop (lq pr (22 : FuncId) (0 : Nat)) (at_ [((0 : Nat), V.t (T.seq (3 : Nat) x)), ((1 : Nat), V.t (T.int IntKind.i64 (k + (1 : Int) + (1 : Int) + (1 : Int)))), ((5 : Nat), V.t (T.int IntKind.i64 (↑(m ++ [Bc.mk k (k + (1 : Int)) (mt (k + (1 : Int) + (1 : Int)))]).length : Int)))] [] (0 : Nat))) (show (List.map Bc.ce (m ++ [Bc.mk k (k + (1 : Int)) (mt (k + (1 : Int) + (1 : Int)))] ++ mark3 mt (k + (1 : Int) + (1 : Int) + (1 : Int)) n)) = (List.map Bc.ce (m ++ Bc.mk k (k + (1 : Int)) (mt (k + (1 : Int) + (1 : Int))) :: mark3 mt (k + (1 : Int) + (1 : Int) + (1 : Int)) n)) by (simp <;> omega))).trans (congrArg (fun x => Q.loop (lq pr (22 : FuncId) (0 : Nat)) (at_ [((0 : Nat), V.t (T.seq (3 : Nat) (List.map Bc.ce (m ++ Bc.mk k (k + (1 : Int)) (mt (k + (1 : Int) + (1 : Int))) :: mark3 mt (k + (1 : Int) + (1 : Int) + (1 : Int)) n)))), ((1 : Nat), V.t (T.int IntKind.i64 (k + (1 : Int) + (1 : Int) + (1 : Int)))), ((5 : Nat), V.t (T.int IntKind.i64 x))] [] (0 : Nat))) (show ((↑(m ++ [Bc.mk k (k + (1 : Int)) (mt (k + (1 : Int) + (1 : Int)))]).length : Int)) = ((↑m.length : Int) + (1 : Int)) by (simp <;> omega)))) (ih))
    exact .tpe [t0, t1, t2, .b (show (k != k) = false by simp), t4, t5, t6, t7, .m (rfl : true = true), .m (rfl : true = true), t10, .m (rfl : true = true), .m (rfl : true = true), .m (rfl : true = true), .m (rfl : true = true), t15, .m (rfl : true = true), .m (rfl : true = true), t18, t19, t20, t21] (Out.exit (0 : Nat) (at_ [((1 : Nat), V.t (T.int IntKind.i64 (k + (1 : Int) + (1 : Int) + (1 : Int) + (3 : Int) * (↑n : Int))))] [] (0 : Nat))) (by kernel_rfl) (congrArg (fun x => Out.exit (0 : Nat) (at_ [((1 : Nat), V.t (T.int IntKind.i64 x))] [] (0 : Nat))) (show (k + (1 : Int) + (1 : Int) + (1 : Int) + (3 : Int) * (↑n : Int)) = (k + (3 : Int) * (↑(n + (1 : Nat)) : Int)) by (simp <;> omega)))
theorem heldBcS_ev (mt : Int → ByteArray) (hmt : ∀ k, 0 ≤ k → k ≤ 10000000000 → Ev pr (.call 54 [i64 k] []) (.val (.t (.str (mt k))) [])) (n : Nat) (k : Int) (h0 : 0 ≤ k) (h : k + 3 * n ≤ 9000000) (h2 : n ≤ 1048576) : Ev pr (.call 22 [bcs (mark3 mt k n), i64 k] []) (.val (i64 (k + 3 * n)) []) := by
  have := heldBcL_ev mt hmt n [] k h0 h (by simpa using h2)
  exact .tp [.a (this)] (by kernel_rfl)
theorem eqBc_ev (x : Bc) : Ev pr (.call 52 [vs x.ce, vs x.ce] []) (.val (bl true) []) := by
  let t0 : Tp pr := .b (show (x.op != x.op) = false by simp)
  let t2 : Tp pr := .b (show (!x.text.toList == x.text.toList) = false by simp)
  exact .tp [t0, .b (show (x.n != x.n) = false by simp), t2] (by kernel_rfl)
theorem eqBcL_ev : ∀ (rest m : List Bc), m.length + rest.length ≤ 1048576 → Ev pr (.loop (lq pr 18 0) (at_ [(0, bcs (m ++ rest)), (1, bcs (m ++ rest)), (5, i64 m.length)] [] 0)) (.exit 0 (at_ [] [] 0))
  | [], m, h => by
    let t0 : Tp pr := .i (show ((↑(List.map Bc.ce (m ++ [])).length : Int) : Int) = (↑m.length : Int) by simp)
    let t1 : Tp pr := .b (show (decide ((↑m.length : Int) < (↑m.length : Int))) = false by simp)
    exact .tp [t0, t1] (by kernel_rfl)
  | x :: rest, m, h => by
    simp at h
    have ih := eqBcL_ev rest (m ++ [x]) (by simp; omega)
    have hx := eqBc_ev x
    let t0 : Tp pr := .i (show ((↑(List.map Bc.ce (m ++ x :: rest)).length : Int) : Int) = (↑m.length : Int) + ((↑rest.length : Int) + (1 : Int)) by simp)
    let t1 : Tp pr := .b (show (decide ((↑m.length : Int) < (↑m.length : Int) + ((↑rest.length : Int) + (1 : Int)))) = true by (simp; omega))
    let t4 : Tp pr := .g .row (show (lkp (List.map Bc.ce (m ++ x :: rest)) (↑m.length : Int)) = some (x.ce) by simp)
    let t9 : Tp pr := .g .row (show (lkp (List.map Bc.ce (m ++ x :: rest)) (↑m.length : Int)) = some (x.ce) by simp)
    let t16 : Tp pr := .i (wrap_i64 (a := (↑m.length : Int) + (1 : Int)) (by omega) (by omega))
    let t17 : Tp pr := .a (Ev.castq ((congrArg (fun x_1 => Q.loop (lq pr (18 : FuncId) (0 : Nat)) (at_ [((0 : Nat), V.t (T.seq (3 : Nat) x_1)), ((1 : Nat), V.t (T.seq (3 : Nat) x_1)), ((5 : Nat), V.t (T.int IntKind.i64 (↑(m ++ [x]).length : Int)))] [] (0 : Nat))) (show (List.map Bc.ce (m ++ [x] ++ rest)) = (List.map Bc.ce (m ++ x :: rest)) by simp)).trans (congrArg (fun x_1 => Q.loop (lq pr (18 : FuncId) (0 : Nat)) (at_ [((0 : Nat), V.t (T.seq (3 : Nat) (List.map Bc.ce (m ++ x :: rest)))), ((1 : Nat), V.t (T.seq (3 : Nat) (List.map Bc.ce (m ++ x :: rest)))), ((5 : Nat), V.t (T.int IntKind.i64 x_1))] [] (0 : Nat))) (show ((↑(m ++ [x]).length : Int)) = ((↑m.length : Int) + (1 : Int)) by simp))) (ih))
    exact .tp [t0, t1, .m (rfl : true = true), .m (rfl : true = true), t4, .m (rfl : true = true), .m (rfl : true = true), .m (rfl : true = true), .m (rfl : true = true), t9, .m (rfl : true = true), .m (rfl : true = true), .a (hx), .m (rfl : true = true), .m (rfl : true = true), .b (rfl : false = false), t16, t17] (by kernel_rfl)
theorem eqBcS_ev (l : List Bc) (h : l.length ≤ 1048576) : Ev pr (.call 18 [bcs l, bcs l] []) (.val (bl true) []) := by
  have := eqBcL_ev l [] (by simpa using h)
  let t0 : Tp pr := .i (show ((↑(List.map Bc.ce l).length : Int) : Int) = (↑l.length : Int) by simp)
  let t1 : Tp pr := .i (show ((↑(List.map Bc.ce l).length : Int) : Int) = (↑l.length : Int) by simp)
  let t2 : Tp pr := .b (show ((↑l.length : Int) != (↑l.length : Int)) = false by simp)
  exact .tp [t0, t1, t2, .a (this)] (by kernel_rfl)
theorem eqBcNL_ev : Ev pr (.loop (lq pr 18 0) (at_ [(0, .t .nils), (1, .t (.seq 3 [])), (5, i64 0)] [] 0)) (.exit 0 (at_ [] [] 0)) := by
  let t0 : Tp pr := .i (rfl : ((0 : Int) : Int) = (0 : Int))
  exact .tp [t0, .b (rfl : false = false)] (by kernel_rfl)
theorem eqBcN_ev : Ev pr (.call 18 [.t .nils, .t (.seq 3 [])] []) (.val (bl true) []) := by
  let t0 : Tp pr := .i (rfl : ((0 : Int) : Int) = (0 : Int))
  let t1 : Tp pr := .i (rfl : ((0 : Int) : Int) = (0 : Int))
  exact .tp [t0, t1, .b (rfl : false = false), .a (eqBcNL_ev)] (by kernel_rfl)
theorem toEx2_ev (x : Ex) : Ev pr (.call 49 [vs x.ce] []) (.val (vs x.ce) []) := by
  exact .tp [] (by kernel_rfl)
theorem toExL2_ev : ∀ (rest m : List Ex), m.length + rest.length ≤ 1048576 → Ev pr (.loop (lq pr 16 0) (at_ [(0, exs (m ++ rest)), (3, .vec 0 (m.length + rest.length) 3 0 (m.length + rest.length)), (4, i64 m.length)] [.vec true 3 (bcc (exb m ++ List.replicate rest.length ⟨0, 0, e0⟩))] 0))
    (.exit 0 (at_ [(3, .vec 0 (m.length + rest.length) 3 0 (m.length + rest.length))] [.vec true 3 (bcc (exb (m ++ rest)))] 0))
  | [], m, h => by
    let t0 : Tp pr := .i (show ((↑(List.map Ex.ce (m ++ [])).length : Int) : Int) = (↑m.length : Int) by simp)
    let t1 : Tp pr := .b (show (decide ((↑m.length : Int) < (↑m.length : Int))) = false by simp)
    exact .tpe [t0, t1] (Out.exit (0 : Nat) (at_ [((3 : Nat), V.vec (0 : Nat) (m.length + (0 : Nat)) (3 : Nat) (0 : Nat) (m.length + (0 : Nat)))] [Ob.vec true (3 : Nat) (bcc (exb m ++ List.replicate (0 : Nat) (Bc.mk (0 : Int) (0 : Int) e0)))] (0 : Nat))) (by kernel_rfl) (congrArg (fun x => Out.exit (0 : Nat) (at_ [((3 : Nat), V.vec (0 : Nat) (m.length + (0 : Nat)) (3 : Nat) (0 : Nat) (m.length + (0 : Nat)))] [Ob.vec true (3 : Nat) x] (0 : Nat))) (show (bcc (exb m ++ List.replicate (0 : Nat) (Bc.mk (0 : Int) (0 : Int) e0))) = (bcc (exb (m ++ []))) by simp))
  | x :: rest, m, h => by
    simp at h
    have ih := toExL2_ev rest (m ++ [x]) (by simp; omega)
    have hx := toEx2_ev x
    rw [show List.replicate (x :: rest).length (⟨0, 0, e0⟩ : Bc) = ⟨0, 0, e0⟩ :: List.replicate rest.length ⟨0, 0, e0⟩ from rfl]
    have hg : (bcc (exb m ++ ⟨0, 0, e0⟩ :: List.replicate rest.length ⟨0, 0, e0⟩))[m.length]? = some [C.t (.int .i64 0), C.t (.int .i64 0), C.t (.str ⟨#[]⟩)] := by simpa using bcc_get_mid (exb m) ⟨0, 0, e0⟩ (List.replicate rest.length ⟨0, 0, e0⟩)
    let t0 : Tp pr := .i (show ((↑(List.map Ex.ce (m ++ x :: rest)).length : Int) : Int) = (↑m.length : Int) + ((↑rest.length : Int) + (1 : Int)) by simp)
    let t1 : Tp pr := .b (show (decide ((↑m.length : Int) < (↑m.length : Int) + ((↑rest.length : Int) + (1 : Int)))) = true by (simp; omega))
    let t2 : Tp pr := .g .row (show (lkp (List.map Ex.ce (m ++ x :: rest)) (↑m.length : Int)) = some (x.ce) by simp)
    let t4 : Tp pr := .m (show (decide ((0 : Int) ≤ (↑m.length : Int) ∧ (↑m.length : Int).toNat < m.length + (x :: rest).length)) = true by simp)
    let t5 : Tp pr := .c (show ((0 : Nat) + (↑m.length : Int).toNat : Nat) = m.length by omega)
    let t6 : Tp pr := .m (show (decide ((bcc (exb m ++ Bc.mk (0 : Int) (0 : Int) e0 :: List.replicate rest.length (Bc.mk (0 : Int) (0 : Int) e0))).length = m.length + (x :: rest).length)) = true by simp)
    let t7 : Tp pr := .g .crow (show ((bcc (exb m ++ Bc.mk (0 : Int) (0 : Int) e0 :: List.replicate rest.length (Bc.mk (0 : Int) (0 : Int) e0)))[m.length]?) = some ([C.t (T.int IntKind.i64 (0 : Int)), C.t (T.int IntKind.i64 (0 : Int)), C.t (T.str (ByteArray.mk #[]))]) from hg)
    let t8 : Tp pr := .n .crows (show ((bcc (exb m ++ Bc.mk (0 : Int) (0 : Int) e0 :: List.replicate rest.length (Bc.mk (0 : Int) (0 : Int) e0))).set m.length [C.t (T.int IntKind.i64 x.kind), C.t (T.int IntKind.i64 x.num), C.t (T.str x.text)]) = bcc (exb m ++ Bc.mk x.kind x.num x.text :: List.replicate rest.length (Bc.mk (0 : Int) (0 : Int) (ByteArray.mk #[]))) by simp)
    let t9 : Tp pr := .i (wrap_i64 (a := (↑m.length : Int) + (1 : Int)) (by omega) (by omega))
    let t10 : Tp pr := .a (Ev.castq ((((congrArg (fun x_1 => Q.loop (lq pr (16 : FuncId) (0 : Nat)) (at_ [((0 : Nat), V.t (T.seq (3 : Nat) x_1)), ((3 : Nat), V.vec (0 : Nat) ((m ++ [x]).length + rest.length) (3 : Nat) (0 : Nat) ((m ++ [x]).length + rest.length)), ((4 : Nat), V.t (T.int IntKind.i64 (↑(m ++ [x]).length : Int)))] [Ob.vec true (3 : Nat) (bcc (exb (m ++ [x]) ++ List.replicate rest.length (Bc.mk (0 : Int) (0 : Int) e0)))] (0 : Nat))) (show (List.map Ex.ce (m ++ [x] ++ rest)) = (List.map Ex.ce (m ++ x :: rest)) by (simp [exb] <;> omega))).trans (congrArg (fun x_1 => Q.loop (lq pr (16 : FuncId) (0 : Nat)) (at_ [((0 : Nat), V.t (T.seq (3 : Nat) (List.map Ex.ce (m ++ x :: rest)))), ((3 : Nat), V.vec (0 : Nat) x_1 (3 : Nat) (0 : Nat) x_1), ((4 : Nat), V.t (T.int IntKind.i64 (↑(m ++ [x]).length : Int)))] [Ob.vec true (3 : Nat) (bcc (exb (m ++ [x]) ++ List.replicate rest.length (Bc.mk (0 : Int) (0 : Int) e0)))] (0 : Nat))) (show ((m ++ [x]).length + rest.length) = (m.length + (x :: rest).length) by (simp [exb] <;> omega)))).trans (congrArg (fun x_1 => Q.loop (lq pr (16 : FuncId) (0 : Nat)) (at_ [((0 : Nat), V.t (T.seq (3 : Nat) (List.map Ex.ce (m ++ x :: rest)))), ((3 : Nat), V.vec (0 : Nat) (m.length + (x :: rest).length) (3 : Nat) (0 : Nat) (m.length + (x :: rest).length)), ((4 : Nat), V.t (T.int IntKind.i64 x_1))] [Ob.vec true (3 : Nat) (bcc (exb (m ++ [x]) ++ List.replicate rest.length (Bc.mk (0 : Int) (0 : Int) e0)))] (0 : Nat))) (show ((↑(m ++ [x]).length : Int)) = ((↑m.length : Int) + (1 : Int)) by (simp [exb] <;> omega)))).trans (congrArg (fun x_1 => Q.loop (lq pr (16 : FuncId) (0 : Nat)) (at_ [((0 : Nat), V.t (T.seq (3 : Nat) (List.map Ex.ce (m ++ x :: rest)))), ((3 : Nat), V.vec (0 : Nat) (m.length + (x :: rest).length) (3 : Nat) (0 : Nat) (m.length + (x :: rest).length)), ((4 : Nat), V.t (T.int IntKind.i64 ((↑m.length : Int) + (1 : Int))))] [Ob.vec true (3 : Nat) x_1] (0 : Nat))) (show (bcc (exb (m ++ [x]) ++ List.replicate rest.length (Bc.mk (0 : Int) (0 : Int) e0))) = (bcc (exb m ++ Bc.mk x.kind x.num x.text :: List.replicate rest.length (Bc.mk (0 : Int) (0 : Int) (ByteArray.mk #[])))) by (simp [exb] <;> omega)))) (ih))
    exact .tpe [t0, t1, t2, .a (hx), t4, t5, t6, t7, t8, t9, t10] (Out.exit (0 : Nat) (at_ [((3 : Nat), V.vec (0 : Nat) ((m ++ [x]).length + rest.length) (3 : Nat) (0 : Nat) ((m ++ [x]).length + rest.length))] [Ob.vec true (3 : Nat) (bcc (exb (m ++ [x] ++ rest)))] (0 : Nat))) (by kernel_rfl) (((congrArg (fun x_1 => Out.exit (0 : Nat) (at_ [((3 : Nat), V.vec (0 : Nat) x_1 (3 : Nat) (0 : Nat) ((m ++ [x]).length + rest.length))] [Ob.vec true (3 : Nat) (bcc (exb (m ++ [x] ++ rest)))] (0 : Nat))) (show ((m ++ [x]).length + rest.length) = (m.length + (x :: rest).length) by (simp [exb] <;> omega))).trans (congrArg (fun x_1 => Out.exit (0 : Nat) (at_ [((3 : Nat), V.vec (0 : Nat) (m.length + (x :: rest).length) (3 : Nat) (0 : Nat) x_1)] [Ob.vec true (3 : Nat) (bcc (exb (m ++ [x] ++ rest)))] (0 : Nat))) (show ((m ++ [x]).length + rest.length) = (m.length + (x :: rest).length) by (simp [exb] <;> omega)))).trans (congrArg (fun x_1 => Out.exit (0 : Nat) (at_ [((3 : Nat), V.vec (0 : Nat) (m.length + (x :: rest).length) (3 : Nat) (0 : Nat) (m.length + (x :: rest).length))] [Ob.vec true (3 : Nat) x_1] (0 : Nat))) (show (bcc (exb (m ++ [x] ++ rest))) = (bcc (exb (m ++ x :: rest))) by (simp [exb] <;> omega))))
theorem toExS2_ev (l : List Ex) (hl : l.length ≤ 1048576) : Ev pr (.call 16 [exs l] []) (.val (.vec 0 l.length 3 0 l.length) [.vec true 3 (bcc (exb l))]) := by
  have := toExL2_ev l [] (by simpa using hl)
  let t0 : Tp pr := .i (show ((↑(List.map Ex.ce l).length : Int) : Int) = (↑l.length : Int) by simp)
  let t1 : Tp pr := .m (show (decide ((0 : Int) ≤ (↑l.length : Int) ∧ (↑l.length : Int) ≤ (↑l.length : Int) ∧ (↑l.length : Int) ≤ (4294967296 : Int))) = true by (simp; omega))
  let t2 : Tp pr := .c (show ((↑l.length : Int).toNat : Nat) = l.length by omega)
  let t3 : Tp pr := .n .crows (rfl : (List.replicate l.length [C.t (T.int IntKind.i64 (0 : Int)), C.t (T.int IntKind.i64 (0 : Int)), C.t (T.str (ByteArray.mk #[]))]) = _)
  let t4 : Tp pr := .a (Ev.castq ((congrArg (fun x => Q.loop (lq pr (16 : FuncId) (0 : Nat)) (at_ [((0 : Nat), exs ([] ++ l)), ((3 : Nat), V.vec (0 : Nat) x (3 : Nat) (0 : Nat) x), ((4 : Nat), i64 (↑(0 : Nat) : Int))] [Ob.vec true (3 : Nat) (bcc (exb [] ++ List.replicate l.length (Bc.mk (0 : Int) (0 : Int) e0)))] (0 : Nat))) (show ((0 : Nat) + l.length) = (l.length) by simp [exb, bcc, Bc.cc])).trans (congrArg (fun x => Q.loop (lq pr (16 : FuncId) (0 : Nat)) (at_ [((0 : Nat), exs ([] ++ l)), ((3 : Nat), V.vec (0 : Nat) l.length (3 : Nat) (0 : Nat) l.length), ((4 : Nat), i64 (↑(0 : Nat) : Int))] [Ob.vec true (3 : Nat) x] (0 : Nat))) (show (bcc (exb [] ++ List.replicate l.length (Bc.mk (0 : Int) (0 : Int) e0))) = (List.replicate l.length [C.t (T.int IntKind.i64 (0 : Int)), C.t (T.int IntKind.i64 (0 : Int)), C.t (T.str (ByteArray.mk #[]))]) by simp [exb, bcc, Bc.cc]))) (this))
  exact .tpe [t0, t1, t2, t3, t4] (Out.val (V.vec (0 : Nat) ((0 : Nat) + l.length) (3 : Nat) (0 : Nat) ((0 : Nat) + l.length)) [Ob.vec true (3 : Nat) (bcc (exb ([] ++ l)))]) (by kernel_rfl) (((congrArg (fun x => Out.val (V.vec (0 : Nat) x (3 : Nat) (0 : Nat) ((0 : Nat) + l.length)) [Ob.vec true (3 : Nat) (bcc (exb ([] ++ l)))]) (show ((0 : Nat) + l.length) = (l.length) by simp [exb, bcc, Bc.cc])).trans (congrArg (fun x => Out.val (V.vec (0 : Nat) l.length (3 : Nat) (0 : Nat) x) [Ob.vec true (3 : Nat) (bcc (exb ([] ++ l)))]) (show ((0 : Nat) + l.length) = (l.length) by simp [exb, bcc, Bc.cc]))).trans (congrArg (fun x => Out.val (V.vec (0 : Nat) l.length (3 : Nat) (0 : Nat) l.length) [Ob.vec true (3 : Nat) x]) (show (bcc (exb ([] ++ l))) = (bcc (exb l)) by simp [exb, bcc, Bc.cc])))
theorem eqEx2_ev (x : Ex) : Ev pr (.call 53 [vs x.ce, vs x.ce] []) (.val (bl true) []) := by
  let t0 : Tp pr := .b (show (x.kind != x.kind) = false by simp)
  let t1 : Tp pr := .b (show (x.num != x.num) = false by simp)
  let t2 : Tp pr := .b (show (!x.text.toList == x.text.toList) = false by simp)
  exact .tp [t0, t1, t2] (by kernel_rfl)
theorem eqExL2_ev : ∀ (rest m : List Ex), m.length + rest.length ≤ 1048576 → Ev pr (.loop (lq pr 19 0) (at_ [(0, exs (m ++ rest)), (1, exs (m ++ rest)), (5, i64 m.length)] [] 0)) (.exit 0 (at_ [] [] 0))
  | [], m, h => by
    let t0 : Tp pr := .i (show ((↑(List.map Ex.ce (m ++ [])).length : Int) : Int) = (↑m.length : Int) by simp)
    let t1 : Tp pr := .b (show (decide ((↑m.length : Int) < (↑m.length : Int))) = false by simp)
    exact .tp [t0, t1] (by kernel_rfl)
  | x :: rest, m, h => by
    simp at h
    have ih := eqExL2_ev rest (m ++ [x]) (by simp; omega)
    have hx := eqEx2_ev x
    let t0 : Tp pr := .i (show ((↑(List.map Ex.ce (m ++ x :: rest)).length : Int) : Int) = (↑m.length : Int) + ((↑rest.length : Int) + (1 : Int)) by simp)
    let t1 : Tp pr := .b (show (decide ((↑m.length : Int) < (↑m.length : Int) + ((↑rest.length : Int) + (1 : Int)))) = true by (simp; omega))
    let t4 : Tp pr := .g .row (show (lkp (List.map Ex.ce (m ++ x :: rest)) (↑m.length : Int)) = some (x.ce) by simp)
    let t9 : Tp pr := .g .row (show (lkp (List.map Ex.ce (m ++ x :: rest)) (↑m.length : Int)) = some (x.ce) by simp)
    let t16 : Tp pr := .i (wrap_i64 (a := (↑m.length : Int) + (1 : Int)) (by omega) (by omega))
    let t17 : Tp pr := .a (Ev.castq ((congrArg (fun x_1 => Q.loop (lq pr (19 : FuncId) (0 : Nat)) (at_ [((0 : Nat), V.t (T.seq (3 : Nat) x_1)), ((1 : Nat), V.t (T.seq (3 : Nat) x_1)), ((5 : Nat), V.t (T.int IntKind.i64 (↑(m ++ [x]).length : Int)))] [] (0 : Nat))) (show (List.map Ex.ce (m ++ [x] ++ rest)) = (List.map Ex.ce (m ++ x :: rest)) by simp)).trans (congrArg (fun x_1 => Q.loop (lq pr (19 : FuncId) (0 : Nat)) (at_ [((0 : Nat), V.t (T.seq (3 : Nat) (List.map Ex.ce (m ++ x :: rest)))), ((1 : Nat), V.t (T.seq (3 : Nat) (List.map Ex.ce (m ++ x :: rest)))), ((5 : Nat), V.t (T.int IntKind.i64 x_1))] [] (0 : Nat))) (show ((↑(m ++ [x]).length : Int)) = ((↑m.length : Int) + (1 : Int)) by simp))) (ih))
    exact .tp [t0, t1, .m (rfl : true = true), .m (rfl : true = true), t4, .m (rfl : true = true), .m (rfl : true = true), .m (rfl : true = true), .m (rfl : true = true), t9, .m (rfl : true = true), .m (rfl : true = true), .a (hx), .m (rfl : true = true), .m (rfl : true = true), .b (rfl : false = false), t16, t17] (by kernel_rfl)
theorem eqExS2_ev (l : List Ex) (h : l.length ≤ 1048576) : Ev pr (.call 19 [exs l, exs l] []) (.val (bl true) []) := by
  have := eqExL2_ev l [] (by simpa using h)
  let t0 : Tp pr := .i (show ((↑(List.map Ex.ce l).length : Int) : Int) = (↑l.length : Int) by simp)
  let t1 : Tp pr := .i (show ((↑(List.map Ex.ce l).length : Int) : Int) = (↑l.length : Int) by simp)
  let t2 : Tp pr := .b (show ((↑l.length : Int) != (↑l.length : Int)) = false by simp)
  exact .tp [t0, t1, t2, .a (this)] (by kernel_rfl)
end Go.Ev

/- Expressions and lines: what the laws' own functions do with them. -/
namespace Go.Ev
set_option linter.unusedVariables false
set_option linter.unusedSimpArgs false
open Go.Proofs
set_option maxRecDepth 100000
set_option linter.unusedVariables false
set_option maxHeartbeats 1000000
def Line.cc (x : Line) : List C := x.ce.map C.t
/-! Sizes. -/
def szEx (x : Ex) (n : Int) : Int := if n - x.text.size < 0 then -1 else n - x.text.size
theorem szEx_ev (x : Ex) (n : Int) (h0 : 0 ≤ n) (h1 : n ≤ 1048576) (hs : x.text.size ≤ 9223372036854775807) : Ev pr (.call 47 [vs x.ce, i64 n] []) (.val (i64 (szEx x n)) []) := by
  have hw := wrap_i64 (a := n - x.text.size) (by omega) (by omega)
  unfold szEx
  by_cases h : n - x.text.size < 0
  · rw [if_pos h]; exact .tp [.l x.text.size, .i hw, .b (decide_eq_true h)] (by kernel_rfl)
  · rw [if_neg h]; exact .tp [.l x.text.size, .i hw, .b (decide_eq_false h)] (by kernel_rfl)
def szExL : List Ex → Int → Option Int
  | [], n => some n
  | x :: r, n => if szEx x n < 0 then none else szExL r (szEx x n)
theorem szEx_le (x : Ex) (n : Int) (h0 : ¬ szEx x n < 0) : 0 ≤ szEx x n ∧ szEx x n ≤ n := by
  unfold szEx at *
  split at h0 <;> split <;> omega
theorem szExL_ev (l : List Ex) (hl : l.length ≤ 9223372036854775807) (hs : ∀ x ∈ l, x.text.size ≤ 9223372036854775807) : ∀ (rest done : List Ex) (n : Int), l = done ++ rest → 0 ≤ n → n ≤ 1048576 →
    Ev pr (.loop (lq pr 14 0) (at_ [(0, exs l), (1, i64 n), (5, i64 done.length)] [] 0)) (match szExL rest n with
      | some m => .exit 0 (at_ [(1, i64 m)] [] 0)
      | none => .ret (at_ [(4, i64 (-1))] [] 0))
  | [], done, n, he, h0, h1 => by
    have h : ¬ (done.length : Int) < l.length := by subst he; simp
    exact .tp [.ll Ex.ce l, .b (decide_eq_false h)] (by kernel_rfl)
  | x :: rest, done, n, he, h0, h1 => by
    have h : (done.length : Int) < l.length := by subst he; simp; omega
    have hx : x.text.size ≤ 9223372036854775807 := hs x (by subst he; simp)
    have hw := wrap_i64 (a := done.length + 1) (by omega) (by omega)
    unfold szExL
    by_cases h2 : szEx x n < 0
    · rw [if_pos h2]
      exact .tp [.ll Ex.ce l, .b (decide_eq_true h), .e (lkp_at Ex.ce he), .a (szEx_ev x n h0 h1 hx), .b (decide_eq_true h2)] (by kernel_rfl)
    · rw [if_neg h2]
      have hle := szEx_le x n h2
      have ih := szExL_ev l hl hs rest (done ++ [x]) (szEx x n) (by simp [he]) hle.1 (by omega)
      rw [show ((done ++ [x]).length : Int) = done.length + 1 by simp] at ih
      exact .tp [.ll Ex.ce l, .b (decide_eq_true h), .e (lkp_at Ex.ce he), .a (szEx_ev x n h0 h1 hx), .b (decide_eq_false h2), .i hw, .a ih] (by kernel_rfl)
def szExS (l : List Ex) (n : Int) : Int := if n - l.length < 0 then -1 else (szExL l (n - l.length)).getD (-1)
theorem szExS_ev (l : List Ex) (n : Int) (h0 : 0 ≤ n) (h1 : n ≤ 1048576) (hl : l.length ≤ 9223372036854775807) (hs : ∀ x ∈ l, x.text.size ≤ 9223372036854775807) : Ev pr (.call 14 [exs l, i64 n] []) (.val (i64 (szExS l n)) []) := by
  have hw := wrap_i64 (a := n - l.length) (by omega) (by omega)
  unfold szExS
  by_cases h : n - l.length < 0
  · rw [if_pos h]; exact .tp [.ll Ex.ce l, .i hw, .b (decide_eq_true h)] (by kernel_rfl)
  · rw [if_neg h]
    have hL := szExL_ev l hl hs l [] (n - l.length) rfl (by omega) (by omega)
    cases hr : szExL l (n - l.length) with
    | none => rw [hr] at hL; exact .tp [.ll Ex.ce l, .i hw, .b (decide_eq_false h), .a hL] (by kernel_rfl)
    | some m => rw [hr] at hL; exact .tp [.ll Ex.ce l, .i hw, .b (decide_eq_false h), .a hL] (by kernel_rfl)
theorem szExL_le : ∀ (l : List Ex) (n m : Int), 0 ≤ n → szExL l n = some m → 0 ≤ m ∧ m ≤ n
  | [], n, m, h0, h => by obtain rfl := Option.some.inj h; exact ⟨h0, Int.le_refl _⟩
  | x :: l, n, m, h0, h => by
    unfold szExL at h
    split at h
    · cases h
    · rename_i h2
      have h3 := szEx_le x n h2
      have := szExL_le l _ m h3.1 h
      omega
theorem szExS_le (l : List Ex) (n : Int) (h0 : ¬ szExS l n < 0) : 0 ≤ szExS l n ∧ szExS l n ≤ n - l.length := by
  unfold szExS at *
  split at h0
  · omega
  · rename_i h
    rw [if_neg h]
    cases hr : szExL l (n - l.length) with
    | none => rw [hr] at h0; simp at h0
    | some m => have := szExL_le l _ m (by omega) hr; simpa using this
theorem szLine_ev (x : Line) (n : Int) (h0 : 0 ≤ n) (h1 : n ≤ 1048576) (hl : x.expr.length ≤ 9223372036854775807) (hs : ∀ y ∈ x.expr, y.text.size ≤ 9223372036854775807) : Ev pr (.call 37 [vs x.ce, i64 n] []) (.val (i64 (if szExS x.expr n < 0 then -1 else szExS x.expr n)) []) := by
  have hE := szExS_ev x.expr n h0 h1 hl hs
  by_cases h : szExS x.expr n < 0
  · rw [if_pos h]; exact .tp [.a hE, .b (decide_eq_true h)] (by kernel_rfl)
  · rw [if_neg h]; exact .tp [.a hE, .b (decide_eq_false h)] (by kernel_rfl)
def szLine (x : Line) (n : Int) : Int := if szExS x.expr n < 0 then -1 else szExS x.expr n
def szLineL : List Line → Int → Option Int
  | [], n => some n
  | x :: r, n => if szLine x n < 0 then none else szLineL r (szLine x n)
theorem szLine_le (x : Line) (n : Int) (h0 : ¬ szLine x n < 0) : 0 ≤ szLine x n ∧ szLine x n ≤ n - x.expr.length := by
  unfold szLine at *
  split at h0
  · omega
  · rename_i h; rw [if_neg h]; exact szExS_le _ _ h
structure Line.ok (x : Line) : Prop where
  len : x.expr.length ≤ 9223372036854775807
  text : ∀ y ∈ x.expr, y.text.size ≤ 9223372036854775807
theorem szLineL_ev (l : List Line) (hl : l.length ≤ 9223372036854775807) (hs : ∀ x ∈ l, x.ok) : ∀ (rest done : List Line) (n : Int), l = done ++ rest → 0 ≤ n → n ≤ 1048576 →
    Ev pr (.loop (lq pr 9 0) (at_ [(0, lines l), (1, i64 n), (5, i64 done.length)] [] 0)) (match szLineL rest n with
      | some m => .exit 0 (at_ [(1, i64 m)] [] 0)
      | none => .ret (at_ [(4, i64 (-1))] [] 0))
  | [], done, n, he, h0, h1 => by
    have h : ¬ (done.length : Int) < l.length := by subst he; simp
    exact .tp [.ll Line.ce l, .b (decide_eq_false h)] (by kernel_rfl)
  | x :: rest, done, n, he, h0, h1 => by
    have h : (done.length : Int) < l.length := by subst he; simp; omega
    have hx : x.ok := hs x (by subst he; simp)
    have hw := wrap_i64 (a := done.length + 1) (by omega) (by omega)
    have hE : Ev pr (.call 37 [vs x.ce, i64 n] []) (.val (i64 (szLine x n)) []) := szLine_ev x n h0 h1 hx.len hx.text
    unfold szLineL
    by_cases h2 : szLine x n < 0
    · rw [if_pos h2]
      exact .tp [.ll Line.ce l, .b (decide_eq_true h), .e (lkp_at Line.ce he), .a hE, .b (decide_eq_true h2)] (by kernel_rfl)
    · rw [if_neg h2]
      have hle := szLine_le x n h2
      have ih := szLineL_ev l hl hs rest (done ++ [x]) (szLine x n) (by simp [he]) hle.1 (by omega)
      rw [show ((done ++ [x]).length : Int) = done.length + 1 by simp] at ih
      exact .tp [.ll Line.ce l, .b (decide_eq_true h), .e (lkp_at Line.ce he), .a hE, .b (decide_eq_false h2), .i hw, .a ih] (by kernel_rfl)
def szLineS (l : List Line) (n : Int) : Int := if n - l.length < 0 then -1 else (szLineL l (n - l.length)).getD (-1)
theorem szLineS_ev (l : List Line) (n : Int) (h0 : 0 ≤ n) (h1 : n ≤ 1048576) (hl : l.length ≤ 9223372036854775807) (hs : ∀ x ∈ l, x.ok) : Ev pr (.call 9 [lines l, i64 n] []) (.val (i64 (szLineS l n)) []) := by
  have hw := wrap_i64 (a := n - l.length) (by omega) (by omega)
  unfold szLineS
  by_cases h : n - l.length < 0
  · rw [if_pos h]; exact .tp [.ll Line.ce l, .i hw, .b (decide_eq_true h)] (by kernel_rfl)
  · rw [if_neg h]
    have hL := szLineL_ev l hl hs l [] (n - l.length) rfl (by omega) (by omega)
    cases hr : szLineL l (n - l.length) with
    | none => rw [hr] at hL; exact .tp [.ll Line.ce l, .i hw, .b (decide_eq_false h), .a hL] (by kernel_rfl)
    | some m => rw [hr] at hL; exact .tp [.ll Line.ce l, .i hw, .b (decide_eq_false h), .a hL] (by kernel_rfl)
/-! To the program's own. -/
theorem toLine_ev (x : Line) (hl : x.expr.length ≤ 1048576) : Ev pr (.call 40 [vs x.ce] []) (.val (vs x.ce) []) := by
  have h := toExS2_ev x.expr hl
  let t1 : Tp pr := .m (show (decide ((bcc (exb x.expr)).length = x.expr.length ∧ (0 : Nat) + x.expr.length ≤ x.expr.length)) = true by simp)
  let t2 : Tp pr := .n .rows (show (List.map (fun x => List.map C.fz x) (List.take x.expr.length (List.drop (0 : Nat) (bcc (exb x.expr))))) = List.map Ex.ce x.expr by simp)
  exact .tp [.a (h), t1, t2] (by kernel_rfl)
theorem toLineL_ev (l : List Line) (hl : l.length ≤ 1048576) (hs : ∀ x ∈ l, x.expr.length ≤ 1048576) : ∀ (rest done : List Line), l = done ++ rest →
    Ev pr (.loop (lq pr 11 0) (at_ [(0, lines l), (3, .vec 0 l.length 3 0 l.length), (4, i64 done.length)] [.vec true 3 (part Line.cc Line.z l done)] 0)) (.exit 0 (at_ [(3, .vec 0 l.length 3 0 l.length)] [.vec true 3 (l.map Line.cc)] 0))
  | [], done, he => by
    have h : ¬ (done.length : Int) < l.length := by subst he; simp
    rw [← part_all Line.cc Line.z he]
    exact .tp [.ll Line.ce l, .b (decide_eq_false h)] (by kernel_rfl)
  | x :: rest, done, he => by
    have h0 : done.length < l.length := by subst he; simp
    have h : (done.length : Int) < l.length := by omega
    have hw := wrap_i64 (a := done.length + 1) (by omega) (by omega)
    have ih := toLineL_ev l hl hs rest (done ++ [x]) (by simp [he])
    rw [show ((done ++ [x]).length : Int) = done.length + 1 by simp] at ih
    have hm : decide ((0:Int) ≤ done.length ∧ (done.length : Int).toNat < l.length) = true := decide_eq_true (by omega)
    have hc : 0 + (done.length : Int).toNat = done.length := by omega
    exact .tp [.ll Line.ce l, .b (decide_eq_true h), .e (lkp_at Line.ce he), .a (toLine_ev x (hs x (by subst he; simp))), .m hm, .c hc, .m (decide_eq_true (part_len Line.cc Line.z he)), .g .crow (part_get Line.cc Line.z he), .n .crows (part_set Line.cc Line.z he), .i hw, .a ih] (by kernel_rfl)
theorem toLineS_ev (l : List Line) (hl : l.length ≤ 1048576) (hs : ∀ x ∈ l, x.expr.length ≤ 1048576) : Ev pr (.call 11 [lines l] []) (.val (lines l) []) := by
  have h : decide ((0:Int) ≤ l.length ∧ (l.length:Int) ≤ l.length ∧ (l.length:Int) ≤ 4294967296) = true := decide_eq_true (by omega)
  exact .tp [.ll Line.ce l, .m h, .c (Int.toNat_natCast l.length), .n .crows (part_nil Line.cc Line.z l).symm, .a (toLineL_ev l hl hs l [] rfl), .m (full_ok Line.cc l), .n .rows (fz_all Line.ce l)] (by kernel_rfl)
theorem eqLine_ev (x : Line) (hl : x.expr.length ≤ 1048576) : Ev pr (.call 46 [vs x.ce, vs x.ce] []) (.val (bl true) []) := by
  have h := eqExS2_ev x.expr hl
  let t0 : Tp pr := .b (show (x.kind != x.kind) = false by simp)
  let t1 : Tp pr := .b (show (x.name != x.name) = false by simp)
  exact .tp [t0, t1, .a (h), .b (rfl : false = false)] (by kernel_rfl)
theorem eqLineL_ev : ∀ (rest m : List Line), m.length + rest.length ≤ 1048576 → (∀ x ∈ rest, x.expr.length ≤ 1048576) → Ev pr (.loop (lq pr 13 0) (at_ [(0, lines (m ++ rest)), (1, lines (m ++ rest)), (5, i64 m.length)] [] 0)) (.exit 0 (at_ [] [] 0))
  | [], m, h, hs => by
    let t0 : Tp pr := .i (show ((↑(List.map Line.ce (m ++ [])).length : Int) : Int) = (↑m.length : Int) by simp)
    let t1 : Tp pr := .b (show (decide ((↑m.length : Int) < (↑m.length : Int))) = false by simp)
    exact .tp [t0, t1] (by kernel_rfl)
  | x :: rest, m, h, hs => by
    simp at h
    have ih := eqLineL_ev rest (m ++ [x]) (by simp; omega) (fun y hy => hs y (by simp [hy]))
    have hx := eqLine_ev x (hs x (by simp))
    have hg : lkp ((m ++ x :: rest).map Line.ce) (m.length : Int) = some x.ce := by simp
    let t0 : Tp pr := .i (show ((↑(List.map Line.ce (m ++ x :: rest)).length : Int) : Int) = (↑m.length : Int) + ((↑rest.length : Int) + (1 : Int)) by simp)
    let t1 : Tp pr := .b (show (decide ((↑m.length : Int) < (↑m.length : Int) + ((↑rest.length : Int) + (1 : Int)))) = true by (simp; omega))
    let t4 : Tp pr := .g .row (show (lkp (List.map Line.ce (m ++ x :: rest)) (↑m.length : Int)) = some (x.ce) from hg)
    let t9 : Tp pr := .g .row (show (lkp (List.map Line.ce (m ++ x :: rest)) (↑m.length : Int)) = some (x.ce) from hg)
    let t16 : Tp pr := .i (wrap_i64 (a := (↑m.length : Int) + (1 : Int)) (by omega) (by omega))
    let t17 : Tp pr := .a (Ev.castq ((congrArg (fun x_1 => Q.loop (lq pr (13 : FuncId) (0 : Nat)) (at_ [((0 : Nat), V.t (T.seq (3 : Nat) x_1)), ((1 : Nat), V.t (T.seq (3 : Nat) x_1)), ((5 : Nat), V.t (T.int IntKind.i64 (↑(m ++ [x]).length : Int)))] [] (0 : Nat))) (show (List.map Line.ce (m ++ [x] ++ rest)) = (List.map Line.ce (m ++ x :: rest)) by simp)).trans (congrArg (fun x_1 => Q.loop (lq pr (13 : FuncId) (0 : Nat)) (at_ [((0 : Nat), V.t (T.seq (3 : Nat) (List.map Line.ce (m ++ x :: rest)))), ((1 : Nat), V.t (T.seq (3 : Nat) (List.map Line.ce (m ++ x :: rest)))), ((5 : Nat), V.t (T.int IntKind.i64 x_1))] [] (0 : Nat))) (show ((↑(m ++ [x]).length : Int)) = ((↑m.length : Int) + (1 : Int)) by simp))) (ih))
    exact .tp [t0, t1, .m (rfl : true = true), .m (rfl : true = true), t4, .m (rfl : true = true), .m (rfl : true = true), .m (rfl : true = true), .m (rfl : true = true), t9, .m (rfl : true = true), .m (rfl : true = true), .a (hx), .m (rfl : true = true), .m (rfl : true = true), .b (rfl : false = false), t16, t17] (by kernel_rfl)
theorem eqLineS_ev (l : List Line) (h : l.length ≤ 1048576) (hs : ∀ x ∈ l, x.expr.length ≤ 1048576) : Ev pr (.call 13 [lines l, lines l] []) (.val (bl true) []) := by
  have := eqLineL_ev l [] (by simpa using h) hs
  let t0 : Tp pr := .i (show ((↑(List.map Line.ce l).length : Int) : Int) = (↑l.length : Int) by simp)
  let t1 : Tp pr := .i (show ((↑(List.map Line.ce l).length : Int) : Int) = (↑l.length : Int) by simp)
  let t2 : Tp pr := .b (show ((↑l.length : Int) != (↑l.length : Int)) = false by simp)
  exact .tp [t0, t1, t2, .a (this)] (by kernel_rfl)
/-! Integers. -/
theorem toIntL_ev (l : List Int) : ∀ (rest m : List Int), l = m ++ rest → l.length ≤ 1048576 → Ev pr (.loop (lq pr 30 0) (at_ [(0, .t (.seq 1 (l.map intt))), (3, .vec 0 l.length 1 0 l.length), (4, i64 m.length)] [.vec true 1 (ints (m ++ List.replicate rest.length 0))] 0))
    (.exit 0 (at_ [(3, .vec 0 l.length 1 0 l.length)] [.vec true 1 (ints l)] 0))
  | [], m, he, h => by
    have hll : (l.length : Int) = m.length := by simp [he]
    have he2 : l = m := by simpa using he
    subst he2
    let t0 : Tp pr := .i (show ((↑(List.map intt l).length : Int) : Int) = (↑l.length : Int) by simp)
    let t1 : Tp pr := .b (show (decide ((↑l.length : Int) < (↑l.length : Int))) = false by simp)
    exact .tpe [t0, t1] (Out.exit (0 : Nat) (at_ [((3 : Nat), V.vec (0 : Nat) l.length (1 : Nat) (0 : Nat) l.length)] [Ob.vec true (1 : Nat) (ints (l ++ List.replicate (0 : Nat) (0 : Int)))] (0 : Nat))) (by kernel_rfl) (congrArg (fun x => Out.exit (0 : Nat) (at_ [((3 : Nat), V.vec (0 : Nat) l.length (1 : Nat) (0 : Nat) l.length)] [Ob.vec true (1 : Nat) x] (0 : Nat))) (show (ints (l ++ List.replicate (0 : Nat) (0 : Int))) = (ints l) by simp))
  | x :: rest, m, he, h => by
    have hll : (l.length : Int) = m.length + 1 + rest.length := by simp [he]; omega
    have hg : lkp (l.map intt) (m.length : Int) = some [T.int .i64 x] := by subst he; simp [intt]
    have ih := toIntL_ev l rest (m ++ [x]) (by simp [he]) h
    have hg2 : (ints (m ++ 0 :: List.replicate rest.length 0))[m.length]? = some (intc 0) := by simp [ints]
    rw [show List.replicate (x :: rest).length (0 : Int) = 0 :: List.replicate rest.length 0 from rfl]
    let t0 : Tp pr := .i (show ((↑(List.map intt l).length : Int) : Int) = (↑l.length : Int) by simp)
    let t1 : Tp pr := .b (show (decide ((↑m.length : Int) < (↑l.length : Int))) = true by (simp; omega))
    let t2 : Tp pr := .g .row (show (lkp (List.map intt l) (↑m.length : Int)) = some ([T.int IntKind.i64 x]) from hg)
    let t3 : Tp pr := .m (show (decide ((0 : Int) ≤ (↑m.length : Int) ∧ (↑m.length : Int).toNat < l.length)) = true by simp [*])
    let t4 : Tp pr := .c (show ((0 : Nat) + (↑m.length : Int).toNat : Nat) = m.length by omega)
    let t5 : Tp pr := .m (show (decide ((ints (m ++ (0 : Int) :: List.replicate rest.length (0 : Int))).length = l.length)) = true by simp [*])
    let t6 : Tp pr := .g .crow (show ((ints (m ++ (0 : Int) :: List.replicate rest.length (0 : Int)))[m.length]?) = some (intc (0 : Int)) from hg2)
    let t7 : Tp pr := .n .crows (show ((ints (m ++ (0 : Int) :: List.replicate rest.length (0 : Int))).set m.length [C.t (T.int IntKind.i64 x)]) = ints (m ++ x :: List.replicate rest.length (0 : Int)) by simp)
    let t8 : Tp pr := .i (wrap_i64 (a := (↑m.length : Int) + (1 : Int)) (by omega) (by omega))
    let t9 : Tp pr := .a (Ev.castq ((congrArg (fun x_1 => Q.loop (lq pr (30 : FuncId) (0 : Nat)) (at_ [((0 : Nat), V.t (T.seq (1 : Nat) (List.map intt l))), ((3 : Nat), V.vec (0 : Nat) l.length (1 : Nat) (0 : Nat) l.length), ((4 : Nat), i64 x_1)] [Ob.vec true (1 : Nat) (ints (m ++ [x] ++ List.replicate rest.length (0 : Int)))] (0 : Nat))) (show ((↑(m ++ [x]).length : Int)) = ((↑m.length : Int) + (1 : Int)) by simp [ints, intc])).trans (congrArg (fun x => Q.loop (lq pr (30 : FuncId) (0 : Nat)) (at_ [((0 : Nat), V.t (T.seq (1 : Nat) (List.map intt l))), ((3 : Nat), V.vec (0 : Nat) l.length (1 : Nat) (0 : Nat) l.length), ((4 : Nat), i64 ((↑m.length : Int) + (1 : Int)))] [Ob.vec true (1 : Nat) x] (0 : Nat))) (show (ints (m ++ [x] ++ List.replicate rest.length (0 : Int))) = (ints (m ++ x :: List.replicate rest.length (0 : Int))) by simp [ints, intc]))) (ih))
    exact .tp [t0, t1, t2, t3, t4, t5, t6, t7, t8, t9] (by kernel_rfl)
theorem toIntS_ev (l : List Int) (hl : l.length ≤ 1048576) : Ev pr (.call 30 [.t (.seq 1 (l.map intt))] []) (.val (.vec 0 l.length 1 0 l.length) [.vec true 1 (ints l)]) := by
  have := toIntL_ev l l [] rfl hl
  let t0 : Tp pr := .i (show ((↑(List.map intt l).length : Int) : Int) = (↑l.length : Int) by simp)
  let t1 : Tp pr := .m (show (decide ((0 : Int) ≤ (↑l.length : Int) ∧ (↑l.length : Int) ≤ (↑l.length : Int) ∧ (↑l.length : Int) ≤ (4294967296 : Int))) = true by (simp; omega))
  let t2 : Tp pr := .c (show ((↑l.length : Int).toNat : Nat) = l.length by omega)
  let t3 : Tp pr := .n .crows (rfl : (List.replicate l.length [C.t (T.int IntKind.i64 (0 : Int))]) = _)
  let t4 : Tp pr := .a (Ev.castq (congrArg (fun x => Q.loop (lq pr (30 : FuncId) (0 : Nat)) (at_ [((0 : Nat), V.t (T.seq (1 : Nat) (List.map intt l))), ((3 : Nat), V.vec (0 : Nat) l.length (1 : Nat) (0 : Nat) l.length), ((4 : Nat), i64 (↑(0 : Nat) : Int))] [Ob.vec true (1 : Nat) x] (0 : Nat))) (show (ints ([] ++ List.replicate l.length (0 : Int))) = (List.replicate l.length [C.t (T.int IntKind.i64 (0 : Int))]) by simp [ints, intc])) (this))
  exact .tp [t0, t1, t2, t3, t4] (by kernel_rfl)
theorem eqIntL_ev : ∀ (rest m : List Int), m.length + rest.length ≤ 1048576 → Ev pr (.loop (lq pr 32 0) (at_ [(0, .t (.seq 1 ((m ++ rest).map intt))), (1, .t (.seq 1 ((m ++ rest).map intt))), (5, i64 m.length)] [] 0)) (.exit 0 (at_ [] [] 0))
  | [], m, h => by
    let t0 : Tp pr := .i (show ((↑(List.map intt (m ++ [])).length : Int) : Int) = (↑m.length : Int) by simp)
    let t1 : Tp pr := .b (show (decide ((↑m.length : Int) < (↑m.length : Int))) = false by simp)
    exact .tp [t0, t1] (by kernel_rfl)
  | x :: rest, m, h => by
    simp at h
    have ih := eqIntL_ev rest (m ++ [x]) (by simp; omega)
    have hg : lkp ((m ++ x :: rest).map intt) (m.length : Int) = some [T.int .i64 x] := by simp [intt]
    let t0 : Tp pr := .i (show ((↑(List.map intt (m ++ x :: rest)).length : Int) : Int) = (↑m.length : Int) + ((↑rest.length : Int) + (1 : Int)) by simp)
    let t1 : Tp pr := .b (show (decide ((↑m.length : Int) < (↑m.length : Int) + ((↑rest.length : Int) + (1 : Int)))) = true by (simp; omega))
    let t4 : Tp pr := .g .row (show (lkp (List.map intt (m ++ x :: rest)) (↑m.length : Int)) = some ([T.int IntKind.i64 x]) from hg)
    let t9 : Tp pr := .g .row (show (lkp (List.map intt (m ++ x :: rest)) (↑m.length : Int)) = some ([T.int IntKind.i64 x]) from hg)
    let t14 : Tp pr := .i (wrap_i64 (a := (↑m.length : Int) + (1 : Int)) (by omega) (by omega))
    let t15 : Tp pr := .a (Ev.castq ((congrArg (fun x_1 => Q.loop (lq pr (32 : FuncId) (0 : Nat)) (at_ [((0 : Nat), V.t (T.seq (1 : Nat) x_1)), ((1 : Nat), V.t (T.seq (1 : Nat) x_1)), ((5 : Nat), i64 (↑(m ++ [x]).length : Int))] [] (0 : Nat))) (show (List.map intt (m ++ [x] ++ rest)) = (List.map intt (m ++ x :: rest)) by simp)).trans (congrArg (fun x_1 => Q.loop (lq pr (32 : FuncId) (0 : Nat)) (at_ [((0 : Nat), V.t (T.seq (1 : Nat) (List.map intt (m ++ x :: rest)))), ((1 : Nat), V.t (T.seq (1 : Nat) (List.map intt (m ++ x :: rest)))), ((5 : Nat), i64 x_1)] [] (0 : Nat))) (show ((↑(m ++ [x]).length : Int)) = ((↑m.length : Int) + (1 : Int)) by simp))) (ih))
    exact .tp [t0, t1, .m (rfl : true = true), .m (rfl : true = true), t4, .m (rfl : true = true), .m (rfl : true = true), .m (rfl : true = true), .m (rfl : true = true), t9, .m (rfl : true = true), .m (rfl : true = true), .m (rfl : true = true), .b (show (x != x) = false by simp), t14, t15] (by kernel_rfl)
theorem eqIntS_ev (l : List Int) (h : l.length ≤ 1048576) : Ev pr (.call 32 [.t (.seq 1 (l.map intt)), .t (.seq 1 (l.map intt))] []) (.val (bl true) []) := by
  have := eqIntL_ev l [] (by simpa using h)
  let t0 : Tp pr := .i (show ((↑(List.map intt l).length : Int) : Int) = (↑l.length : Int) by simp)
  let t1 : Tp pr := .i (show ((↑(List.map intt l).length : Int) : Int) = (↑l.length : Int) by simp)
  let t2 : Tp pr := .b (show ((↑l.length : Int) != (↑l.length : Int)) = false by simp)
  exact .tp [t0, t1, t2, .a (this)] (by kernel_rfl)
end Go.Ev

/- The law: the program's RunMade returns what the reference's returns. -/
namespace Go.Ev
set_option linter.unusedVariables false
set_option linter.unusedSimpArgs false
open Go.Proofs
set_option maxRecDepth 100000
set_option linter.unusedVariables false
set_option maxHeartbeats 1000000
theorem szLineL_all : ∀ (l : List Line) (n m : Int), 0 ≤ n → n ≤ 1048576 → szLineL l n = some m → ∀ x ∈ l, x.expr.length ≤ 1048576
  | [], n, m, h0, h1, h, x, hx => by cases hx
  | y :: l, n, m, h0, h1, h, x, hx => by
    unfold szLineL at h
    split at h
    · cases h
    · rename_i h2
      have h3 := szLine_le y n h2
      rcases List.mem_cons.1 hx with rfl | hx
      · omega
      · exact szLineL_all l _ m h3.1 (by omega) h x hx
theorem szLineS_all (l : List Line) (h : ¬ szLineS l 1048576 < 0) : l.length ≤ 1048576 ∧ ∀ x ∈ l, x.expr.length ≤ 1048576 := by
  unfold szLineS at h
  split at h
  · omega
  · rename_i h1
    cases hr : szLineL l (1048576 - l.length) with
    | none => rw [hr] at h; simp at h
    | some m => exact ⟨by omega, szLineL_all l _ m (by omega) (by omega) hr⟩
def Ex.wf (x : Ex) : Prop := (Lit.int .i64 x.kind).wf = true ∧ (Lit.int .i64 x.num).wf = true ∧ x.text.size ≤ 9223372036854775807
def Line.wf (x : Line) : Prop := (Lit.int .i64 x.kind).wf = true ∧ (Lit.int .i64 x.name).wf = true ∧ x.expr.length ≤ 9223372036854775807 ∧ ∀ y ∈ x.expr, y.wf
theorem Line.wf.ok {x : Line} (h : x.wf) : x.ok := ⟨h.2.2.1, fun y hy => (h.2.2.2 y hy).2.2⟩
theorem prim_none : PrimOk pr := fun f p h => by cases h
theorem law0_ev (l : List Line) (lo : List Int) (fuel : Int) (hl : l.length ≤ 9223372036854775807) (hs : ∀ x ∈ l, x.ok) (hlo : lo.length ≤ 9223372036854775807) : Ev pr (.call 8 [lines l, .t (.seq 1 (lo.map intt)), i64 fuel] []) (.val (bl true) []) := by
  by_cases hz0 : (lo.length : Int) > 1048576
  · let t0 : Tp pr := .i (show ((↑(List.map intt lo).length : Int) : Int) = (↑lo.length : Int) by simp)
    let t1 : Tp pr := .b (show (decide ((↑lo.length : Int) > (1048576 : Int))) = true by (simp; omega))
    exact .tp [t0, t1] (by kernel_rfl)
  · have hz1 : lo.length ≤ 1048576 := by omega
    have h0 := szLineS_ev l 1048576 (by omega) (by omega) hl hs
    by_cases hz : szLineS l 1048576 < 0
    · let t0 : Tp pr := .i (show ((↑(List.map intt lo).length : Int) : Int) = (↑lo.length : Int) by simp)
      let t1 : Tp pr := .b (show (decide ((↑lo.length : Int) > (1048576 : Int))) = false by (simp; omega))
      let t3 : Tp pr := .b (show (decide (szLineS l (1048576 : Int) < (0 : Int))) = true by (simp; omega))
      exact .tp [t0, t1, .a (h0), t3] (by kernel_rfl)
    · obtain ⟨k1, k2⟩ := szLineS_all l hz
      have k3 : ∀ x ∈ l, x.expr.length ≤ 1048576 ∧ ∀ y ∈ x.expr, y.text.size ≤ 9223372036854775807 := fun x hx => ⟨k2 x hx, (hs x hx).text⟩
      have k4 : ∀ x ∈ l, x.expr.length ≤ 9223372036854775807 := fun x hx => (hs x hx).len
      have g1 := toLineS_ev l k1 k2
      have g2 := toIntS_ev lo hz1
      have g3 := RunMadeS_ev l lo fuel k1 k3 hz1
      have g4 := RunMadeI_ev l lo fuel k1 k3 hz1
      have g5 := eqLineS_ev l k1 k2
      have g6 := eqIntS_ev lo hz1
      cases hr : runMade l lo fuel with
      | none => rw [hr] at g3 g4; (
        let t0 : Tp pr := .i (show ((↑(List.map intt lo).length : Int) : Int) = (↑lo.length : Int) by simp)
        let t1 : Tp pr := .b (show (decide ((↑lo.length : Int) > (1048576 : Int))) = false by (simp; omega))
        let t3 : Tp pr := .b (show (decide (szLineS l (1048576 : Int) < (0 : Int))) = false by (simp; omega))
        let t6 : Tp pr := .m (show (decide ((ints lo).length = lo.length ∧ (0 : Nat) + lo.length ≤ lo.length)) = true by simp)
        let t7 : Tp pr := .n .rows (show (List.map (fun x => List.map C.fz x) (List.take lo.length (List.drop (0 : Nat) (ints lo)))) = List.map intt lo by simp)
        let t11 : Tp pr := .m (show (decide ((ints lo).length = lo.length ∧ (0 : Nat) + lo.length ≤ lo.length)) = true by simp)
        let t12 : Tp pr := .n .rows (show (List.map (fun x => List.map C.fz x) (List.take lo.length (List.drop (0 : Nat) (ints lo)))) = List.map intt lo by simp)
        let t22 : Tp pr := .m (show (decide ((ints lo).length = lo.length ∧ (0 : Nat) + lo.length ≤ lo.length)) = true by simp)
        let t23 : Tp pr := .n .rows (show (List.map (fun x => List.map C.fz x) (List.take lo.length (List.drop (0 : Nat) (ints lo)))) = List.map intt lo by simp)
        let t24 : Tp pr := .m (show (decide ((ints lo).length = lo.length ∧ (0 : Nat) + lo.length ≤ lo.length)) = true by simp)
        let t25 : Tp pr := .n .rows (show (List.map (fun x => List.map C.fz x) (List.take lo.length (List.drop (0 : Nat) (ints lo)))) = List.map intt lo by simp)
        exact .tp [t0, t1, .a (h0), t3, .a (g1), .a (g2), t6, t7, .a (g3), .a (g1), .a (g2), t11, t12, .a (g4), .m (rfl : true = true), .b (rfl : false = false), .b (rfl : false = false), .b (rfl : false = false), .a (g1), .a (g5), .b (rfl : false = false), .a (g2), t22, t23, t24, t25, .a (g6), .m (rfl : true = true), .b (rfl : false = false)] (by kernel_rfl))
      | some r => rw [hr] at g3 g4; (
        let t0 : Tp pr := .i (show ((↑(List.map intt lo).length : Int) : Int) = (↑lo.length : Int) by simp)
        let t1 : Tp pr := .b (show (decide ((↑lo.length : Int) > (1048576 : Int))) = false by (simp; omega))
        let t3 : Tp pr := .b (show (decide (szLineS l (1048576 : Int) < (0 : Int))) = false by (simp; omega))
        let t6 : Tp pr := .m (show (decide ((ints lo).length = lo.length ∧ (0 : Nat) + lo.length ≤ lo.length)) = true by simp)
        let t7 : Tp pr := .n .rows (show (List.map (fun x => List.map C.fz x) (List.take lo.length (List.drop (0 : Nat) (ints lo)))) = List.map intt lo by simp)
        let t11 : Tp pr := .m (show (decide ((ints lo).length = lo.length ∧ (0 : Nat) + lo.length ≤ lo.length)) = true by simp)
        let t12 : Tp pr := .n .rows (show (List.map (fun x => List.map C.fz x) (List.take lo.length (List.drop (0 : Nat) (ints lo)))) = List.map intt lo by simp)
        let t15 : Tp pr := .b (show (r.fst != r.fst) = false by simp)
        let t16 : Tp pr := .b (show (r.snd.fst != r.snd.fst) = false by simp)
        let t22 : Tp pr := .m (show (decide ((ints lo).length = lo.length ∧ (0 : Nat) + lo.length ≤ lo.length)) = true by simp)
        let t23 : Tp pr := .n .rows (show (List.map (fun x => List.map C.fz x) (List.take lo.length (List.drop (0 : Nat) (ints lo)))) = List.map intt lo by simp)
        let t24 : Tp pr := .m (show (decide ((ints lo).length = lo.length ∧ (0 : Nat) + lo.length ≤ lo.length)) = true by simp)
        let t25 : Tp pr := .n .rows (show (List.map (fun x => List.map C.fz x) (List.take lo.length (List.drop (0 : Nat) (ints lo)))) = List.map intt lo by simp)
        exact .tp [t0, t1, .a (h0), t3, .a (g1), .a (g2), t6, t7, .a (g3), .a (g1), .a (g2), t11, t12, .a (g4), .m (rfl : true = true), t15, t16, .b (rfl : false = false), .a (g1), .a (g5), .b (rfl : false = false), .a (g2), t22, t23, t24, t25, .a (g6), .m (rfl : true = true), .b (rfl : false = false)] (by kernel_rfl))
theorem law_ev (l : List Line) (h : l.length ≤ 9223372036854775807 ∧ ∀ x ∈ l, x.wf) (lo : List Int) (h2 : lo.length ≤ 9223372036854775807 ∧ ∀ x ∈ lo, (Lit.int .i64 x).wf = true) (fuel : Int) (h3 : (Lit.int .i64 fuel).wf = true) :
    Ev pr (.call 8 [lines l, .t (.seq 1 (lo.map intt)), i64 fuel] []) (.val (.t (.bool true)) []) := law0_ev l lo fuel h.1 (fun x hx => (h.2 x hx).ok) h2.1
end Go.Ev
