import Derived.Test.YtipolnpffmfmmabKFnChecked4
/- Code that runs, by the reference. -/
namespace Go.Ev
set_option linter.unusedVariables false
set_option linter.unusedSimpArgs false
open Go.Proofs
set_option maxRecDepth 100000
set_option linter.unusedVariables false
set_option maxHeartbeats 8000000
attribute [local simp] e0
@[local simp] theorem tn2 (n : Nat) : ((n : Int) + 1 + 1 - 2).toNat = n := by omega
def stkS (lo st jk : List Int) (k : Int) : List Ob := [.box [.vec 1 (st.length + jk.length) 1 0 st.length, .vec 2 10 1 0 10, i64 k], .vec true 1 (ints (st.reverse ++ jk)), .vec true 1 (ints lo)]
def stepSOut (q : StepR) (lo st jk : List Int) (k : Int) : Out :=
  if q.e = 0 then .val (.tup [i64 0, i64 0]) (stkS q.lo q.st q.jk q.at_)
  else .val (.tup [i64 q.e, i64 (if q.e = 1 then q.st.headD 0 else 0)]) (stkS lo st jk (if q.e = 5 then k else k + 1))
theorem sOut0 (lo2 st2 jk2 : List Int) (k2 : Int) (lo st jk : List Int) (k : Int) : stepSOut ⟨0, lo2, st2, jk2, k2⟩ lo st jk k = .val (.tup [i64 0, i64 0]) (stkS lo2 st2 jk2 k2) := by simp [stepSOut]
theorem sOut5 (lo2 st2 jk2 : List Int) (k2 : Int) (lo st jk : List Int) (k : Int) : stepSOut ⟨5, lo2, st2, jk2, k2⟩ lo st jk k = .val (.tup [i64 5, i64 0]) (stkS lo st jk k) := by simp [stepSOut]
theorem sOut1 (lo2 st2 jk2 : List Int) (k2 : Int) (lo st jk : List Int) (k : Int) : stepSOut ⟨1, lo2, st2, jk2, k2⟩ lo st jk k = .val (.tup [i64 1, i64 (st2.headD 0)]) (stkS lo st jk (k + 1)) := by simp [stepSOut]
theorem sOut2 (lo2 st2 jk2 : List Int) (k2 : Int) (lo st jk : List Int) (k : Int) : stepSOut ⟨2, lo2, st2, jk2, k2⟩ lo st jk k = .val (.tup [i64 2, i64 0]) (stkS lo st jk (k + 1)) := by simp [stepSOut]
theorem sOut3 (lo2 st2 jk2 : List Int) (k2 : Int) (lo st jk : List Int) (k : Int) : stepSOut ⟨3, lo2, st2, jk2, k2⟩ lo st jk k = .val (.tup [i64 3, i64 0]) (stkS lo st jk (k + 1)) := by simp [stepSOut]
theorem stepS_ev (l : List Bc) (lo st jk : List Int) (k : Int) (hg : goodCode l = true) (h : RunOk l lo st k) : Ev pr (.call 112 [.ptr 0 1 0 0, bcs l] (stkS lo st jk k)) (stepSOut (stepI l lo st jk k) lo st jk k) := by
  have hl := goodCode_len hg
  obtain ⟨h1, h2, h3, h4, h5, h6⟩ := h
  obtain ⟨n, rfl⟩ : ∃ n : Nat, k = n := ⟨k.toNat, by omega⟩
  by_cases hk : (n : Int) = l.length
  · rw [show stepI l lo st jk n = ⟨5, lo, st, jk, n⟩ by simp [stepI, show l.length ≤ n by omega]]
    rw [sOut5]
    let t0 : Tp pr := .i (show ((↑(List.map Bc.ce l).length : Int) : Int) = (↑l.length : Int) by simp)
    let t1 : Tp pr := .b (show (decide ((↑n : Int) ≥ (↑l.length : Int))) = true by (simp; omega))
    exact .tp [t0, t1] (by kernel_rfl)
  · have hlt : n < l.length := by omega
    obtain ⟨x, hx⟩ : ∃ x, l[n]? = some x := ⟨l[n], List.getElem?_eq_getElem hlt⟩
    have hgl : lkp (l.map Bc.ce) (n : Int) = some x.ce := by simp [lkp, hx]
    have hb := goodCode_mem hg (List.mem_of_getElem? hx)
    rw [show stepI l lo st jk n = stepX x lo st jk n by simp [stepI, hx]]
    have hmv := mv_bd x.op
    by_cases hc : (st.length : Int) < mvOff x.op ∨ st.length - mvOff x.op + mvOn x.op > 30
    · rw [show stepX x lo st jk n = ⟨5, lo, st, jk, n⟩ by unfold stepX; rw [if_pos hc]]
      rw [sOut5]
      let t0 : Tp pr := .i (show ((↑(List.map Bc.ce l).length : Int) : Int) = (↑l.length : Int) by simp)
      let t1 : Tp pr := .b (show (decide ((↑n : Int) ≥ (↑l.length : Int))) = false by (simp; omega))
      let t2 : Tp pr := .g .row (show (lkp (List.map Bc.ce l) (↑n : Int)) = some (x.ce) from hgl)
      by_cases hc5 : (↑st.length : Int) < mvOff x.op
      · let t5 : Tp pr := .b (show (decide ((↑st.length : Int) < mvOff x.op)) = true by simpa using hc5)
        exact .tp [t0, t1, t2, .a (l16Takes_ev (x)), .i (rfl : ((↑st.length : Int)) = _), t5, .b (rfl : true = true)] (by kernel_rfl)
      · let t5 : Tp pr := .b (show (decide ((↑st.length : Int) < mvOff x.op)) = false by simpa using hc5)
        let t6 : Tp pr := .i (wrap_i64 (a := (↑st.length : Int) - mvOff x.op) (by omega) (by omega))
        let t7 : Tp pr := .i (wrap_i64 (a := (↑st.length : Int) - mvOff x.op + mvOn x.op) (by omega) (by omega))
        let t8 : Tp pr := .b (show (decide ((↑st.length : Int) - mvOff x.op + mvOn x.op > (30 : Int))) = true by (simp; omega))
        exact .tp [t0, t1, t2, .a (l16Takes_ev (x)), .i (rfl : ((↑st.length : Int)) = _), t5, t6, t7, t8] (by kernel_rfl)
    · have hop := bcOk_op hb
      obtain ⟨o, m, t⟩ := x
      dsimp only at hop hc hmv hgl
      clear hx hmv
      rcases hop with rfl | rfl | rfl | rfl | rfl | rfl | rfl | rfl | rfl
      · have hm := l16Takes_ev ⟨1, m, t⟩
        have e1 : mvOff (1 : Int) = 0 := rfl
        have e2 : mvOn (1 : Int) = 1 := rfl
        simp only [e1, e2] at hm hc
        rw [show stepX ⟨1, m, t⟩ lo st jk n = ⟨0, lo, m :: st, jk.tail, n + 1⟩ by simp [stepX, e1, e2]; omega]
        rw [sOut0]
        cases jk with
        | nil => (
          let t0 : Tp pr := .i (show ((↑(List.map Bc.ce l).length : Int) : Int) = (↑l.length : Int) by simp)
          let t1 : Tp pr := .b (show (decide ((↑n : Int) ≥ (↑l.length : Int))) = false by (simp; omega))
          let t2 : Tp pr := .g .row (show (lkp (List.map Bc.ce l) (↑n : Int)) = some ((Bc.mk (1 : Int) m t).ce) from hgl)
          let t6 : Tp pr := .i (wrap_i64 (a := (↑st.length : Int) - (0 : Int)) (by omega) (by omega))
          let t7 : Tp pr := .i (wrap_i64 (a := (↑st.length : Int) - (0 : Int) + (1 : Int)) (by omega) (by omega))
          let t8 : Tp pr := .b (show (decide ((↑st.length : Int) - (0 : Int) + (1 : Int) > (30 : Int))) = false by (simp; omega))
          let t9 : Tp pr := .i (wrap_i64 (a := (↑n : Int) + (1 : Int)) (by omega) (by omega))
          let t11 : Tp pr := .i (wrap_i64 (a := (↑st.length : Int) - (0 : Int)) (by omega) (by omega))
          let t12 : Tp pr := .m (show (decide ((0 : Int) ≤ (0 : Int) ∧ (0 : Int) ≤ (↑st.length : Int) - (0 : Int) ∧ (0 : Nat) + ((↑st.length : Int) - (0 : Int)).toNat ≤ st.length + (0 : Nat))) = true by simp)
          let t14 : Tp pr := .c (show (((↑st.length : Int) - (0 : Int)).toNat - (0 : Nat) : Nat) = st.length by omega)
          let t18 : Tp pr := .m (show (decide ((ints (st.reverse ++ [])).length = st.length + (0 : Nat) ∧ (0 : Nat) + st.length ≤ st.length + (0 : Nat) ∧ st.length + (1 : Nat) ≤ (4294967296 : Nat))) = true by (simp; omega))
          let t19 : Tp pr := .b (show (decide (st.length + (1 : Nat) ≤ st.length + (0 : Nat))) = false by simp)
          let t21 : Tp pr := .n .crows (show ((List.take st.length (ints (st.reverse ++ []))).append (List.take (1 : Nat) (List.drop (0 : Nat) [[C.t (T.int IntKind.i64 m)]]))) = ints st.reverse ++ [[C.t (T.int IntKind.i64 m)]] by simp)
          exact .tpe [t0, t1, t2, .a (hm), .i (rfl : ((↑st.length : Int)) = _), .b (rfl : false = false), t6, t7, t8, t9, .b (rfl : false = false), t11, t12, .c (rfl : ((0 : Nat)) = _), t14, .b (rfl : false = false), .b (rfl : true = true), .m (rfl : true = true), t18, t19, .c (rfl : (st.length + (1 : Nat)) = _), t21] (Out.val (V.tup [V.t (T.int IntKind.i64 (0 : Int)), V.t (T.int IntKind.i64 (0 : Int))]) [Ob.box [V.vec (1 : Nat) (st.length + (1 : Nat)) (1 : Nat) (0 : Nat) (st.length + (1 : Nat)), V.vec (2 : Nat) (10 : Nat) (1 : Nat) (0 : Nat) (10 : Nat), V.t (T.int IntKind.i64 ((↑n : Int) + (1 : Int)))], Ob.vec true (1 : Nat) ((ints st.reverse).append [[C.t (T.int IntKind.i64 m)]]), Ob.vec true (1 : Nat) (ints lo)]) (by kernel_rfl) (((congrArg (fun x => Out.val (V.tup [V.t (T.int IntKind.i64 (0 : Int)), V.t (T.int IntKind.i64 (0 : Int))]) [Ob.box [V.vec (1 : Nat) x (1 : Nat) (0 : Nat) (st.length + (1 : Nat)), V.vec (2 : Nat) (10 : Nat) (1 : Nat) (0 : Nat) (10 : Nat), V.t (T.int IntKind.i64 ((↑n : Int) + (1 : Int)))], Ob.vec true (1 : Nat) ((ints st.reverse).append [[C.t (T.int IntKind.i64 m)]]), Ob.vec true (1 : Nat) (ints lo)]) (show (st.length + (1 : Nat)) = ((m :: st).length + (0 : Nat)) by simp [ints_app, ints_cons, intc])).trans (congrArg (fun x => Out.val (V.tup [V.t (T.int IntKind.i64 (0 : Int)), V.t (T.int IntKind.i64 (0 : Int))]) [Ob.box [V.vec (1 : Nat) ((m :: st).length + (0 : Nat)) (1 : Nat) (0 : Nat) x, V.vec (2 : Nat) (10 : Nat) (1 : Nat) (0 : Nat) (10 : Nat), V.t (T.int IntKind.i64 ((↑n : Int) + (1 : Int)))], Ob.vec true (1 : Nat) ((ints st.reverse).append [[C.t (T.int IntKind.i64 m)]]), Ob.vec true (1 : Nat) (ints lo)]) (show (st.length + (1 : Nat)) = ((m :: st).length) by simp [ints_app, ints_cons, intc]))).trans (congrArg (fun x => Out.val (V.tup [V.t (T.int IntKind.i64 (0 : Int)), V.t (T.int IntKind.i64 (0 : Int))]) [Ob.box [V.vec (1 : Nat) ((m :: st).length + (0 : Nat)) (1 : Nat) (0 : Nat) (m :: st).length, V.vec (2 : Nat) (10 : Nat) (1 : Nat) (0 : Nat) (10 : Nat), V.t (T.int IntKind.i64 ((↑n : Int) + (1 : Int)))], Ob.vec true (1 : Nat) x, Ob.vec true (1 : Nat) (ints lo)]) (show ((ints st.reverse).append [[C.t (T.int IntKind.i64 m)]]) = (ints ((m :: st).reverse ++ [].tail)) by simp [ints_app, ints_cons, intc]))))
        | cons j jk => (
          let t0 : Tp pr := .i (show ((↑(List.map Bc.ce l).length : Int) : Int) = (↑l.length : Int) by simp)
          let t1 : Tp pr := .b (show (decide ((↑n : Int) ≥ (↑l.length : Int))) = false by (simp; omega))
          let t2 : Tp pr := .g .row (show (lkp (List.map Bc.ce l) (↑n : Int)) = some ((Bc.mk (1 : Int) m t).ce) from hgl)
          let t6 : Tp pr := .i (wrap_i64 (a := (↑st.length : Int) - (0 : Int)) (by omega) (by omega))
          let t7 : Tp pr := .i (wrap_i64 (a := (↑st.length : Int) - (0 : Int) + (1 : Int)) (by omega) (by omega))
          let t8 : Tp pr := .b (show (decide ((↑st.length : Int) - (0 : Int) + (1 : Int) > (30 : Int))) = false by (simp; omega))
          let t9 : Tp pr := .i (wrap_i64 (a := (↑n : Int) + (1 : Int)) (by omega) (by omega))
          let t11 : Tp pr := .i (wrap_i64 (a := (↑st.length : Int) - (0 : Int)) (by omega) (by omega))
          let t12 : Tp pr := .m (show (decide ((0 : Int) ≤ (0 : Int) ∧ (0 : Int) ≤ (↑st.length : Int) - (0 : Int) ∧ (0 : Nat) + ((↑st.length : Int) - (0 : Int)).toNat ≤ st.length + (j :: jk).length)) = true by simp)
          let t14 : Tp pr := .c (show (((↑st.length : Int) - (0 : Int)).toNat - (0 : Nat) : Nat) = st.length by omega)
          let t18 : Tp pr := .m (show (decide ((ints (st.reverse ++ j :: jk)).length = st.length + (j :: jk).length ∧ (0 : Nat) + st.length ≤ st.length + (j :: jk).length ∧ st.length + (1 : Nat) ≤ (4294967296 : Nat))) = true by (simp; omega))
          let t19 : Tp pr := .b (show (decide (st.length + (1 : Nat) ≤ st.length + (j :: jk).length)) = true by simp)
          let t21 : Tp pr := .n .crows (show (((List.take st.length (ints (st.reverse ++ j :: jk))).append (List.take (1 : Nat) (List.drop (0 : Nat) [[C.t (T.int IntKind.i64 m)]]))).append (List.drop (st.length + (1 : Nat)) (ints (st.reverse ++ j :: jk)))) = ints st.reverse ++ [C.t (T.int IntKind.i64 m)] :: ints jk by simp)
          exact .tpe [t0, t1, t2, .a (hm), .i (rfl : ((↑st.length : Int)) = _), .b (rfl : false = false), t6, t7, t8, t9, .b (rfl : false = false), t11, t12, .c (rfl : ((0 : Nat)) = _), t14, .b (rfl : false = false), .b (rfl : true = true), .m (rfl : true = true), t18, t19, .c (rfl : (st.length + (1 : Nat)) = _), t21] (Out.val (V.tup [V.t (T.int IntKind.i64 (0 : Int)), V.t (T.int IntKind.i64 (0 : Int))]) [Ob.box [V.vec (1 : Nat) (st.length + (j :: jk).length) (1 : Nat) (0 : Nat) (st.length + (1 : Nat)), V.vec (2 : Nat) (10 : Nat) (1 : Nat) (0 : Nat) (10 : Nat), V.t (T.int IntKind.i64 ((↑n : Int) + (1 : Int)))], Ob.vec true (1 : Nat) ((ints st.reverse).append ([C.t (T.int IntKind.i64 m)] :: ints jk)), Ob.vec true (1 : Nat) (ints lo)]) (by kernel_rfl) (((congrArg (fun x => Out.val (V.tup [V.t (T.int IntKind.i64 (0 : Int)), V.t (T.int IntKind.i64 (0 : Int))]) [Ob.box [V.vec (1 : Nat) x (1 : Nat) (0 : Nat) (st.length + (1 : Nat)), V.vec (2 : Nat) (10 : Nat) (1 : Nat) (0 : Nat) (10 : Nat), V.t (T.int IntKind.i64 ((↑n : Int) + (1 : Int)))], Ob.vec true (1 : Nat) ((ints st.reverse).append ([C.t (T.int IntKind.i64 m)] :: ints jk)), Ob.vec true (1 : Nat) (ints lo)]) (show (st.length + (j :: jk).length) = ((m :: st).length + (j :: jk).tail.length) by (simp; omega))).trans (congrArg (fun x => Out.val (V.tup [V.t (T.int IntKind.i64 (0 : Int)), V.t (T.int IntKind.i64 (0 : Int))]) [Ob.box [V.vec (1 : Nat) ((m :: st).length + (j :: jk).tail.length) (1 : Nat) (0 : Nat) x, V.vec (2 : Nat) (10 : Nat) (1 : Nat) (0 : Nat) (10 : Nat), V.t (T.int IntKind.i64 ((↑n : Int) + (1 : Int)))], Ob.vec true (1 : Nat) ((ints st.reverse).append ([C.t (T.int IntKind.i64 m)] :: ints jk)), Ob.vec true (1 : Nat) (ints lo)]) (show (st.length + (1 : Nat)) = ((m :: st).length) by simp [ints_app, ints_cons, intc]))).trans (congrArg (fun x => Out.val (V.tup [V.t (T.int IntKind.i64 (0 : Int)), V.t (T.int IntKind.i64 (0 : Int))]) [Ob.box [V.vec (1 : Nat) ((m :: st).length + (j :: jk).tail.length) (1 : Nat) (0 : Nat) (m :: st).length, V.vec (2 : Nat) (10 : Nat) (1 : Nat) (0 : Nat) (10 : Nat), V.t (T.int IntKind.i64 ((↑n : Int) + (1 : Int)))], Ob.vec true (1 : Nat) x, Ob.vec true (1 : Nat) (ints lo)]) (show ((ints st.reverse).append ([C.t (T.int IntKind.i64 m)] :: ints jk)) = (ints ((m :: st).reverse ++ (j :: jk).tail)) by simp [ints_app, ints_cons, intc]))))
      · have hm := l16Takes_ev ⟨2, m, t⟩
        have e1 : mvOff (2 : Int) = 0 := rfl
        have e2 : mvOn (2 : Int) = 1 := rfl
        simp only [e1, e2] at hm hc
        have hmb : 0 ≤ m ∧ m ≤ 9 := by simp [bcOk] at hb; omega
        have gl := ints_get (l := lo) (k := m.toNat) (by omega)
        rw [show stepX ⟨2, m, t⟩ lo st jk n = ⟨0, lo, lo.getD m.toNat 0 :: st, jk.tail, n + 1⟩ by simp [stepX, e1, e2]; omega]
        rw [sOut0]
        generalize lo.getD m.toNat 0 = v at *
        cases jk with
        | nil => (
          let t0 : Tp pr := .i (show ((↑(List.map Bc.ce l).length : Int) : Int) = (↑l.length : Int) by simp)
          let t1 : Tp pr := .b (show (decide ((↑n : Int) ≥ (↑l.length : Int))) = false by (simp; omega))
          let t2 : Tp pr := .g .row (show (lkp (List.map Bc.ce l) (↑n : Int)) = some ((Bc.mk (2 : Int) m t).ce) from hgl)
          let t6 : Tp pr := .i (wrap_i64 (a := (↑st.length : Int) - (0 : Int)) (by omega) (by omega))
          let t7 : Tp pr := .i (wrap_i64 (a := (↑st.length : Int) - (0 : Int) + (1 : Int)) (by omega) (by omega))
          let t8 : Tp pr := .b (show (decide ((↑st.length : Int) - (0 : Int) + (1 : Int) > (30 : Int))) = false by (simp; omega))
          let t9 : Tp pr := .i (wrap_i64 (a := (↑n : Int) + (1 : Int)) (by omega) (by omega))
          let t11 : Tp pr := .i (wrap_i64 (a := (↑st.length : Int) - (0 : Int)) (by omega) (by omega))
          let t12 : Tp pr := .m (show (decide ((0 : Int) ≤ (0 : Int) ∧ (0 : Int) ≤ (↑st.length : Int) - (0 : Int) ∧ (0 : Nat) + ((↑st.length : Int) - (0 : Int)).toNat ≤ st.length + (0 : Nat))) = true by simp)
          let t14 : Tp pr := .c (show (((↑st.length : Int) - (0 : Int)).toNat - (0 : Nat) : Nat) = st.length by omega)
          let t25 : Tp pr := .m (show (decide ((0 : Int) ≤ m ∧ m.toNat < (10 : Nat))) = true by (simp; omega))
          let t26 : Tp pr := .c (show ((0 : Nat) + m.toNat : Nat) = m.toNat by omega)
          let t28 : Tp pr := .m (show (decide ((ints lo).length = (10 : Nat))) = true by simp [*])
          let t29 : Tp pr := .g .crow (show ((ints lo)[m.toNat]?) = some (intc v) from gl)
          let t33 : Tp pr := .m (show (decide ((ints (st.reverse ++ [])).length = st.length + (0 : Nat) ∧ (0 : Nat) + st.length ≤ st.length + (0 : Nat) ∧ st.length + (1 : Nat) ≤ (4294967296 : Nat))) = true by (simp; omega))
          let t34 : Tp pr := .b (show (decide (st.length + (1 : Nat) ≤ st.length + (0 : Nat))) = false by simp)
          let t36 : Tp pr := .n .crows (show ((List.take st.length (ints (st.reverse ++ []))).append (List.take (1 : Nat) (List.drop (0 : Nat) [[C.t (T.int IntKind.i64 v)]]))) = ints st.reverse ++ [[C.t (T.int IntKind.i64 v)]] by simp)
          exact .tpe [t0, t1, t2, .a (hm), .i (rfl : ((↑st.length : Int)) = _), .b (rfl : false = false), t6, t7, t8, t9, .b (rfl : false = false), t11, t12, .c (rfl : ((0 : Nat)) = _), t14, .b (rfl : false = false), .b (rfl : false = false), .b (rfl : true = true), .m (rfl : true = true), .m (rfl : true = true), .m (rfl : true = true), .m (rfl : true = true), .m (rfl : true = true), .m (rfl : true = true), .m (rfl : true = true), t25, t26, .m (rfl : true = true), t28, t29, .m (rfl : true = true), .m (rfl : true = true), .m (rfl : true = true), t33, t34, .c (rfl : (st.length + (1 : Nat)) = _), t36, .m (rfl : true = true), .m (rfl : true = true)] (Out.val (V.tup [V.t (T.int IntKind.i64 (0 : Int)), V.t (T.int IntKind.i64 (0 : Int))]) [Ob.box [V.vec (1 : Nat) (st.length + (1 : Nat)) (1 : Nat) (0 : Nat) (st.length + (1 : Nat)), V.vec (2 : Nat) (10 : Nat) (1 : Nat) (0 : Nat) (10 : Nat), V.t (T.int IntKind.i64 ((↑n : Int) + (1 : Int)))], Ob.vec true (1 : Nat) ((ints st.reverse).append [[C.t (T.int IntKind.i64 v)]]), Ob.vec true (1 : Nat) (ints lo)]) (by kernel_rfl) (((congrArg (fun x => Out.val (V.tup [V.t (T.int IntKind.i64 (0 : Int)), V.t (T.int IntKind.i64 (0 : Int))]) [Ob.box [V.vec (1 : Nat) x (1 : Nat) (0 : Nat) (st.length + (1 : Nat)), V.vec (2 : Nat) (10 : Nat) (1 : Nat) (0 : Nat) (10 : Nat), V.t (T.int IntKind.i64 ((↑n : Int) + (1 : Int)))], Ob.vec true (1 : Nat) ((ints st.reverse).append [[C.t (T.int IntKind.i64 v)]]), Ob.vec true (1 : Nat) (ints lo)]) (show (st.length + (1 : Nat)) = ((v :: st).length + (0 : Nat)) by simp [ints_app, ints_cons, intc])).trans (congrArg (fun x => Out.val (V.tup [V.t (T.int IntKind.i64 (0 : Int)), V.t (T.int IntKind.i64 (0 : Int))]) [Ob.box [V.vec (1 : Nat) ((v :: st).length + (0 : Nat)) (1 : Nat) (0 : Nat) x, V.vec (2 : Nat) (10 : Nat) (1 : Nat) (0 : Nat) (10 : Nat), V.t (T.int IntKind.i64 ((↑n : Int) + (1 : Int)))], Ob.vec true (1 : Nat) ((ints st.reverse).append [[C.t (T.int IntKind.i64 v)]]), Ob.vec true (1 : Nat) (ints lo)]) (show (st.length + (1 : Nat)) = ((v :: st).length) by simp [ints_app, ints_cons, intc]))).trans (congrArg (fun x => Out.val (V.tup [V.t (T.int IntKind.i64 (0 : Int)), V.t (T.int IntKind.i64 (0 : Int))]) [Ob.box [V.vec (1 : Nat) ((v :: st).length + (0 : Nat)) (1 : Nat) (0 : Nat) (v :: st).length, V.vec (2 : Nat) (10 : Nat) (1 : Nat) (0 : Nat) (10 : Nat), V.t (T.int IntKind.i64 ((↑n : Int) + (1 : Int)))], Ob.vec true (1 : Nat) x, Ob.vec true (1 : Nat) (ints lo)]) (show ((ints st.reverse).append [[C.t (T.int IntKind.i64 v)]]) = (ints ((v :: st).reverse ++ [].tail)) by simp [ints_app, ints_cons, intc]))))
        | cons j jk => (
          let t0 : Tp pr := .i (show ((↑(List.map Bc.ce l).length : Int) : Int) = (↑l.length : Int) by simp)
          let t1 : Tp pr := .b (show (decide ((↑n : Int) ≥ (↑l.length : Int))) = false by (simp; omega))
          let t2 : Tp pr := .g .row (show (lkp (List.map Bc.ce l) (↑n : Int)) = some ((Bc.mk (2 : Int) m t).ce) from hgl)
          let t6 : Tp pr := .i (wrap_i64 (a := (↑st.length : Int) - (0 : Int)) (by omega) (by omega))
          let t7 : Tp pr := .i (wrap_i64 (a := (↑st.length : Int) - (0 : Int) + (1 : Int)) (by omega) (by omega))
          let t8 : Tp pr := .b (show (decide ((↑st.length : Int) - (0 : Int) + (1 : Int) > (30 : Int))) = false by (simp; omega))
          let t9 : Tp pr := .i (wrap_i64 (a := (↑n : Int) + (1 : Int)) (by omega) (by omega))
          let t11 : Tp pr := .i (wrap_i64 (a := (↑st.length : Int) - (0 : Int)) (by omega) (by omega))
          let t12 : Tp pr := .m (show (decide ((0 : Int) ≤ (0 : Int) ∧ (0 : Int) ≤ (↑st.length : Int) - (0 : Int) ∧ (0 : Nat) + ((↑st.length : Int) - (0 : Int)).toNat ≤ st.length + (j :: jk).length)) = true by simp)
          let t14 : Tp pr := .c (show (((↑st.length : Int) - (0 : Int)).toNat - (0 : Nat) : Nat) = st.length by omega)
          let t25 : Tp pr := .m (show (decide ((0 : Int) ≤ m ∧ m.toNat < (10 : Nat))) = true by (simp; omega))
          let t26 : Tp pr := .c (show ((0 : Nat) + m.toNat : Nat) = m.toNat by omega)
          let t28 : Tp pr := .m (show (decide ((ints lo).length = (10 : Nat))) = true by simp [*])
          let t29 : Tp pr := .g .crow (show ((ints lo)[m.toNat]?) = some (intc v) from gl)
          let t33 : Tp pr := .m (show (decide ((ints (st.reverse ++ j :: jk)).length = st.length + (j :: jk).length ∧ (0 : Nat) + st.length ≤ st.length + (j :: jk).length ∧ st.length + (1 : Nat) ≤ (4294967296 : Nat))) = true by (simp; omega))
          let t34 : Tp pr := .b (show (decide (st.length + (1 : Nat) ≤ st.length + (j :: jk).length)) = true by simp)
          let t36 : Tp pr := .n .crows (show (((List.take st.length (ints (st.reverse ++ j :: jk))).append (List.take (1 : Nat) (List.drop (0 : Nat) [[C.t (T.int IntKind.i64 v)]]))).append (List.drop (st.length + (1 : Nat)) (ints (st.reverse ++ j :: jk)))) = ints st.reverse ++ [C.t (T.int IntKind.i64 v)] :: ints jk by simp)
          exact .tpe [t0, t1, t2, .a (hm), .i (rfl : ((↑st.length : Int)) = _), .b (rfl : false = false), t6, t7, t8, t9, .b (rfl : false = false), t11, t12, .c (rfl : ((0 : Nat)) = _), t14, .b (rfl : false = false), .b (rfl : false = false), .b (rfl : true = true), .m (rfl : true = true), .m (rfl : true = true), .m (rfl : true = true), .m (rfl : true = true), .m (rfl : true = true), .m (rfl : true = true), .m (rfl : true = true), t25, t26, .m (rfl : true = true), t28, t29, .m (rfl : true = true), .m (rfl : true = true), .m (rfl : true = true), t33, t34, .c (rfl : (st.length + (1 : Nat)) = _), t36, .m (rfl : true = true), .m (rfl : true = true)] (Out.val (V.tup [V.t (T.int IntKind.i64 (0 : Int)), V.t (T.int IntKind.i64 (0 : Int))]) [Ob.box [V.vec (1 : Nat) (st.length + (j :: jk).length) (1 : Nat) (0 : Nat) (st.length + (1 : Nat)), V.vec (2 : Nat) (10 : Nat) (1 : Nat) (0 : Nat) (10 : Nat), V.t (T.int IntKind.i64 ((↑n : Int) + (1 : Int)))], Ob.vec true (1 : Nat) ((ints st.reverse).append ([C.t (T.int IntKind.i64 v)] :: ints jk)), Ob.vec true (1 : Nat) (ints lo)]) (by kernel_rfl) (((congrArg (fun x => Out.val (V.tup [V.t (T.int IntKind.i64 (0 : Int)), V.t (T.int IntKind.i64 (0 : Int))]) [Ob.box [V.vec (1 : Nat) x (1 : Nat) (0 : Nat) (st.length + (1 : Nat)), V.vec (2 : Nat) (10 : Nat) (1 : Nat) (0 : Nat) (10 : Nat), V.t (T.int IntKind.i64 ((↑n : Int) + (1 : Int)))], Ob.vec true (1 : Nat) ((ints st.reverse).append ([C.t (T.int IntKind.i64 v)] :: ints jk)), Ob.vec true (1 : Nat) (ints lo)]) (show (st.length + (j :: jk).length) = ((v :: st).length + (j :: jk).tail.length) by (simp; omega))).trans (congrArg (fun x => Out.val (V.tup [V.t (T.int IntKind.i64 (0 : Int)), V.t (T.int IntKind.i64 (0 : Int))]) [Ob.box [V.vec (1 : Nat) ((v :: st).length + (j :: jk).tail.length) (1 : Nat) (0 : Nat) x, V.vec (2 : Nat) (10 : Nat) (1 : Nat) (0 : Nat) (10 : Nat), V.t (T.int IntKind.i64 ((↑n : Int) + (1 : Int)))], Ob.vec true (1 : Nat) ((ints st.reverse).append ([C.t (T.int IntKind.i64 v)] :: ints jk)), Ob.vec true (1 : Nat) (ints lo)]) (show (st.length + (1 : Nat)) = ((v :: st).length) by simp [ints_app, ints_cons, intc]))).trans (congrArg (fun x => Out.val (V.tup [V.t (T.int IntKind.i64 (0 : Int)), V.t (T.int IntKind.i64 (0 : Int))]) [Ob.box [V.vec (1 : Nat) ((v :: st).length + (j :: jk).tail.length) (1 : Nat) (0 : Nat) (v :: st).length, V.vec (2 : Nat) (10 : Nat) (1 : Nat) (0 : Nat) (10 : Nat), V.t (T.int IntKind.i64 ((↑n : Int) + (1 : Int)))], Ob.vec true (1 : Nat) x, Ob.vec true (1 : Nat) (ints lo)]) (show ((ints st.reverse).append ([C.t (T.int IntKind.i64 v)] :: ints jk)) = (ints ((v :: st).reverse ++ (j :: jk).tail)) by simp [ints_app, ints_cons, intc]))))
      · have hm := l16Takes_ev ⟨3, m, t⟩
        have e1 : mvOff (3 : Int) = 1 := rfl
        have e2 : mvOn (3 : Int) = 0 := rfl
        simp only [e1, e2] at hm hc
        have hmb : 0 ≤ m ∧ m ≤ 9 := by simp [bcOk] at hb; omega
        have gl := ints_get (l := lo) (k := m.toNat) (by omega)
        cases st with
        | nil => simp at hc
        | cons a r =>
          simp only [List.length_cons] at h3 hc
          have ha := h4 a (by simp)
          have gt : (ints ((a :: r).reverse ++ jk))[r.length]? = some (intc a) := by simp
          rw [show stepX ⟨3, m, t⟩ lo (a :: r) jk n = ⟨0, lo.set m.toNat a, r, a :: jk, n + 1⟩ by simp [stepX, e1, e2]; omega]
          rw [sOut0]
          let t0 : Tp pr := .i (show ((↑(List.map Bc.ce l).length : Int) : Int) = (↑l.length : Int) by simp)
          let t1 : Tp pr := .b (show (decide ((↑n : Int) ≥ (↑l.length : Int))) = false by (simp; omega))
          let t2 : Tp pr := .g .row (show (lkp (List.map Bc.ce l) (↑n : Int)) = some ((Bc.mk (3 : Int) m t).ce) from hgl)
          let t4 : Tp pr := .i (show ((↑(a :: r).length : Int) : Int) = (↑r.length : Int) + (1 : Int) by simp)
          let t6 : Tp pr := .i (wrap_i64 (a := (↑r.length : Int) + (1 : Int) - (1 : Int)) (by omega) (by omega))
          let t7 : Tp pr := .i (wrap_i64 (a := (↑r.length : Int) + (1 : Int) - (1 : Int) + (0 : Int)) (by omega) (by omega))
          let t8 : Tp pr := .b (show (decide ((↑r.length : Int) + (1 : Int) - (1 : Int) + (0 : Int) > (30 : Int))) = false by (simp; omega))
          let t9 : Tp pr := .i (wrap_i64 (a := (↑n : Int) + (1 : Int)) (by omega) (by omega))
          let t11 : Tp pr := .i (wrap_i64 (a := (↑r.length : Int) + (1 : Int) - (1 : Int)) (by omega) (by omega))
          let t12 : Tp pr := .m (show (decide ((0 : Int) ≤ (↑r.length : Int) + (1 : Int) - (1 : Int) ∧ ((↑r.length : Int) + (1 : Int) - (1 : Int)).toNat < (a :: r).length)) = true by simp)
          let t13 : Tp pr := .c (show ((0 : Nat) + ((↑r.length : Int) + (1 : Int) - (1 : Int)).toNat : Nat) = r.length by omega)
          let t14 : Tp pr := .m (show (decide ((ints ((a :: r).reverse ++ jk)).length = (a :: r).length + jk.length)) = true by (simp; omega))
          let t15 : Tp pr := .g .crow (show ((ints ((a :: r).reverse ++ jk))[r.length]?) = some (intc a) from gt)
          let t16 : Tp pr := .i (wrap_i64 (a := (↑r.length : Int) + (1 : Int) - (1 : Int)) (by omega) (by omega))
          let t17 : Tp pr := .m (show (decide ((0 : Int) ≤ (0 : Int) ∧ (0 : Int) ≤ (↑r.length : Int) + (1 : Int) - (1 : Int) ∧ (0 : Nat) + ((↑r.length : Int) + (1 : Int) - (1 : Int)).toNat ≤ (a :: r).length + jk.length)) = true by (simp; omega))
          let t19 : Tp pr := .c (show (((↑r.length : Int) + (1 : Int) - (1 : Int)).toNat - (0 : Nat) : Nat) = r.length by omega)
          let t31 : Tp pr := .m (show (decide ((0 : Int) ≤ m ∧ m.toNat < (10 : Nat))) = true by (simp; omega))
          let t32 : Tp pr := .c (show ((0 : Nat) + m.toNat : Nat) = m.toNat by omega)
          let t34 : Tp pr := .m (show (decide ((ints lo).length = (10 : Nat))) = true by simp [*])
          let t35 : Tp pr := .g .crow (show ((ints lo)[m.toNat]?) = some (intc (lo.getD m.toNat (0 : Int))) from gl)
          let t36 : Tp pr := .n .crows (show ((ints lo).set m.toNat [C.t (T.int IntKind.i64 a)]) = ints (lo.set m.toNat a) by simp)
          exact .tpe [t0, t1, t2, .a (hm), t4, .b (rfl : false = false), t6, t7, t8, t9, .b (rfl : true = true), t11, t12, t13, t14, t15, t16, t17, .c (rfl : ((0 : Nat)) = _), t19, .b (rfl : false = false), .b (rfl : false = false), .b (rfl : false = false), .b (rfl : true = true), .m (rfl : true = true), .m (rfl : true = true), .m (rfl : true = true), .m (rfl : true = true), .m (rfl : true = true), .m (rfl : true = true), .m (rfl : true = true), t31, t32, .m (rfl : true = true), t34, t35, t36, .m (rfl : true = true)] (Out.val (V.tup [V.t (T.int IntKind.i64 (0 : Int)), V.t (T.int IntKind.i64 (0 : Int))]) [Ob.box [V.vec (1 : Nat) ((a :: r).length + jk.length) (1 : Nat) (0 : Nat) r.length, V.vec (2 : Nat) (10 : Nat) (1 : Nat) (0 : Nat) (10 : Nat), V.t (T.int IntKind.i64 ((↑n : Int) + (1 : Int)))], Ob.vec true (1 : Nat) (ints ((a :: r).reverse ++ jk)), Ob.vec true (1 : Nat) (ints (lo.set m.toNat a))]) (by kernel_rfl) ((congrArg (fun x => Out.val (V.tup [V.t (T.int IntKind.i64 (0 : Int)), V.t (T.int IntKind.i64 (0 : Int))]) [Ob.box [V.vec (1 : Nat) x (1 : Nat) (0 : Nat) r.length, V.vec (2 : Nat) (10 : Nat) (1 : Nat) (0 : Nat) (10 : Nat), V.t (T.int IntKind.i64 ((↑n : Int) + (1 : Int)))], Ob.vec true (1 : Nat) (ints ((a :: r).reverse ++ jk)), Ob.vec true (1 : Nat) (ints (lo.set m.toNat a))]) (show ((a :: r).length + jk.length) = (r.length + (a :: jk).length) by (simp; omega))).trans (congrArg (fun x => Out.val (V.tup [V.t (T.int IntKind.i64 (0 : Int)), V.t (T.int IntKind.i64 (0 : Int))]) [Ob.box [V.vec (1 : Nat) (r.length + (a :: jk).length) (1 : Nat) (0 : Nat) r.length, V.vec (2 : Nat) (10 : Nat) (1 : Nat) (0 : Nat) (10 : Nat), V.t (T.int IntKind.i64 ((↑n : Int) + (1 : Int)))], Ob.vec true (1 : Nat) x, Ob.vec true (1 : Nat) (ints (lo.set m.toNat a))]) (show (ints ((a :: r).reverse ++ jk)) = (ints (r.reverse ++ a :: jk)) by simp [ints_app, ints_cons, intc])))
      · have hm := l16Takes_ev ⟨4, m, t⟩
        have e1 : mvOff (4 : Int) = 2 := rfl
        have e2 : mvOn (4 : Int) = 1 := rfl
        simp only [e1, e2] at hm hc
        cases st with
        | nil => simp at hc
        | cons a r =>
         cases r with
         | nil => simp at hc
         | cons b q =>
          simp only [List.length_cons] at h3 hc
          obtain ⟨ha1, ha2⟩ := h4 a (by simp)
          obtain ⟨hb1, hb2⟩ := h4 b (by simp)
          have gt : (ints ((a :: b :: q).reverse ++ jk))[q.length + 1]? = some (intc a) := by
            have := get_rev (b :: q) jk a
            simpa using this
          have gt2 : (ints ((a :: b :: q).reverse ++ jk))[q.length]? = some (intc b) := by
            simp
          have gt3 : (ints ((a :: b :: q).reverse ++ jk))[((q.length : Int) + 1 + 1 - 2).toNat]? = some (intc b) := by rw [show ((q.length : Int) + 1 + 1 - 2).toNat = q.length by omega]; exact gt2
          have hst : strength t.toList > 2 := by simp [bcOk] at hb; exact hb.2
          have hd := do2_two t.toList b a (by omega) (fun e => by rw [e] at hst; exact absurd hst (by decide)) (fun e => by rw [e] at hst; exact absurd hst (by decide)) hb1 hb2
          have hdo := l2Do_ev t b a hb1 hb2 ha1 ha2
          have hcode := two2_code t.toList b a
          rw [show stepX ⟨4, m, t⟩ lo (a :: b :: q) jk n = ⟨endOf (two2 t.toList b a).2, lo, (two2 t.toList b a).1 :: q, a :: jk, n + 1⟩ by simp [stepX, e1, e2]; omega]
          rw [hd] at hcode ⊢
          clear hd
          generalize do2 t.toList b a = d at *
          obtain ⟨v, c⟩ := d
          dsimp only at hdo
          unfold outB at hcode ⊢
          dsimp only at hcode ⊢
          by_cases hc0 : c = 0
          · subst hc0
            by_cases hv : -1000000000 ≤ v ∧ v ≤ 1000000000
            · rw [if_neg (fun h => h.2 hv)]
              rw [show endOf (v, (0 : Int)).2 = 0 from rfl, sOut0]
              let t0 : Tp pr := .i (show ((↑(List.map Bc.ce l).length : Int) : Int) = (↑l.length : Int) by simp)
              let t1 : Tp pr := .b (show (decide ((↑n : Int) ≥ (↑l.length : Int))) = false by (simp; omega))
              let t2 : Tp pr := .g .row (show (lkp (List.map Bc.ce l) (↑n : Int)) = some ((Bc.mk (4 : Int) m t).ce) from hgl)
              let t4 : Tp pr := .i (show ((↑(a :: b :: q).length : Int) : Int) = (↑q.length : Int) + (1 : Int) + (1 : Int) by simp)
              let t6 : Tp pr := .i (wrap_i64 (a := (↑q.length : Int) + (1 : Int) + (1 : Int) - (2 : Int)) (by omega) (by omega))
              let t7 : Tp pr := .i (wrap_i64 (a := (↑q.length : Int) + (1 : Int) + (1 : Int) - (2 : Int) + (1 : Int)) (by omega) (by omega))
              let t8 : Tp pr := .b (show (decide ((↑q.length : Int) + (1 : Int) + (1 : Int) - (2 : Int) + (1 : Int) > (30 : Int))) = false by (simp; omega))
              let t9 : Tp pr := .i (wrap_i64 (a := (↑n : Int) + (1 : Int)) (by omega) (by omega))
              let t11 : Tp pr := .i (wrap_i64 (a := (↑q.length : Int) + (1 : Int) + (1 : Int) - (1 : Int)) (by omega) (by omega))
              let t12 : Tp pr := .m (show (decide ((0 : Int) ≤ (↑q.length : Int) + (1 : Int) + (1 : Int) - (1 : Int) ∧ ((↑q.length : Int) + (1 : Int) + (1 : Int) - (1 : Int)).toNat < (a :: b :: q).length)) = true by (simp; omega))
              let t13 : Tp pr := .c (show ((0 : Nat) + ((↑q.length : Int) + (1 : Int) + (1 : Int) - (1 : Int)).toNat : Nat) = q.length + (1 : Nat) by omega)
              let t14 : Tp pr := .m (show (decide ((ints ((a :: b :: q).reverse ++ jk)).length = (a :: b :: q).length + jk.length)) = true by (simp; omega))
              let t15 : Tp pr := .g .crow (show ((ints ((a :: b :: q).reverse ++ jk))[q.length + (1 : Nat)]?) = some (intc a) from gt)
              let t16 : Tp pr := .i (wrap_i64 (a := (↑q.length : Int) + (1 : Int) + (1 : Int) - (2 : Int)) (by omega) (by omega))
              let t17 : Tp pr := .m (show (decide ((0 : Int) ≤ (0 : Int) ∧ (0 : Int) ≤ (↑q.length : Int) + (1 : Int) + (1 : Int) - (2 : Int) ∧ (0 : Nat) + ((↑q.length : Int) + (1 : Int) + (1 : Int) - (2 : Int)).toNat ≤ (a :: b :: q).length + jk.length)) = true by (simp; omega))
              let t19 : Tp pr := .c (show (((↑q.length : Int) + (1 : Int) + (1 : Int) - (2 : Int)).toNat - (0 : Nat) : Nat) = q.length by omega)
              let t35 : Tp pr := .i (wrap_i64 (a := (↑q.length : Int) + (1 : Int) + (1 : Int) - (2 : Int)) (by omega) (by omega))
              let t37 : Tp pr := .m (show (decide ((0 : Int) ≤ (↑q.length : Int) + (1 : Int) + (1 : Int) - (2 : Int) ∧ ((↑q.length : Int) + (1 : Int) + (1 : Int) - (2 : Int)).toNat < (a :: b :: q).length)) = true by (simp; omega))
              let t38 : Tp pr := .c (show ((0 : Nat) + ((↑q.length : Int) + (1 : Int) + (1 : Int) - (2 : Int)).toNat : Nat) = q.length by omega)
              let t40 : Tp pr := .m (show (decide ((ints ((a :: b :: q).reverse ++ jk)).length = (a :: b :: q).length + jk.length)) = true by (simp; omega))
              let t41 : Tp pr := .g .crow (show ((ints ((a :: b :: q).reverse ++ jk))[q.length]?) = some (intc b) from gt2)
              let t54 : Tp pr := .b (show (!(decide (v ≥ (-1000000000 : Int)) && decide (v ≤ (1000000000 : Int)))) = false by (simp; omega))
              let t56 : Tp pr := .m (show (decide ((ints ((a :: b :: q).reverse ++ jk)).length = (a :: b :: q).length + jk.length ∧ (0 : Nat) + q.length ≤ (a :: b :: q).length + jk.length ∧ q.length + (1 : Nat) ≤ (4294967296 : Nat))) = true by (simp; omega))
              let t57 : Tp pr := .b (show (decide (q.length + (1 : Nat) ≤ (a :: b :: q).length + jk.length)) = true by (simp; omega))
              let t59 : Tp pr := .n .crows (show (((List.take q.length (ints ((a :: b :: q).reverse ++ jk))).append (List.take (1 : Nat) (List.drop (0 : Nat) [[C.t (T.int IntKind.i64 v)]]))).append (List.drop (q.length + (1 : Nat)) (ints ((a :: b :: q).reverse ++ jk)))) = ints q.reverse ++ [C.t (T.int IntKind.i64 v)] :: ints (a :: jk) by simp)
              exact .tpe [t0, t1, t2, .a (hm), t4, .b (rfl : false = false), t6, t7, t8, t9, .b (rfl : true = true), t11, t12, t13, t14, t15, t16, t17, .c (rfl : ((0 : Nat)) = _), t19, .b (rfl : false = false), .b (rfl : false = false), .b (rfl : false = false), .b (rfl : false = false), .b (rfl : false = false), .b (rfl : false = false), .b (rfl : false = false), .b (rfl : true = true), .m (rfl : true = true), .m (rfl : true = true), .m (rfl : true = true), .m (rfl : true = true), .m (rfl : true = true), .m (rfl : true = true), .m (rfl : true = true), t35, .m (rfl : true = true), t37, t38, .m (rfl : true = true), t40, t41, .m (rfl : true = true), .m (rfl : true = true), .a (hdo), .m (rfl : true = true), .m (rfl : true = true), .m (rfl : true = true), .m (rfl : true = true), .m (rfl : true = true), .m (rfl : true = true), .b (rfl : false = false), .b (rfl : false = false), .a (l2Bound_ev (v)), t54, .m (rfl : true = true), t56, t57, .c (rfl : (q.length + (1 : Nat)) = _), t59] (Out.val (V.tup [V.t (T.int IntKind.i64 (0 : Int)), V.t (T.int IntKind.i64 (0 : Int))]) [Ob.box [V.vec (1 : Nat) ((a :: b :: q).length + jk.length) (1 : Nat) (0 : Nat) (q.length + (1 : Nat)), V.vec (2 : Nat) (10 : Nat) (1 : Nat) (0 : Nat) (10 : Nat), V.t (T.int IntKind.i64 ((↑n : Int) + (1 : Int)))], Ob.vec true (1 : Nat) ((ints q.reverse).append ([C.t (T.int IntKind.i64 v)] :: ints (a :: jk))), Ob.vec true (1 : Nat) (ints lo)]) (by kernel_rfl) (((congrArg (fun x => Out.val (V.tup [V.t (T.int IntKind.i64 (0 : Int)), V.t (T.int IntKind.i64 (0 : Int))]) [Ob.box [V.vec (1 : Nat) x (1 : Nat) (0 : Nat) (q.length + (1 : Nat)), V.vec (2 : Nat) (10 : Nat) (1 : Nat) (0 : Nat) (10 : Nat), V.t (T.int IntKind.i64 ((↑n : Int) + (1 : Int)))], Ob.vec true (1 : Nat) ((ints q.reverse).append ([C.t (T.int IntKind.i64 v)] :: ints (a :: jk))), Ob.vec true (1 : Nat) (ints lo)]) (show ((a :: b :: q).length + jk.length) = (((v, (0 : Int)).fst :: q).length + (a :: jk).length) by (simp; omega))).trans (congrArg (fun x => Out.val (V.tup [V.t (T.int IntKind.i64 (0 : Int)), V.t (T.int IntKind.i64 (0 : Int))]) [Ob.box [V.vec (1 : Nat) (((v, (0 : Int)).fst :: q).length + (a :: jk).length) (1 : Nat) (0 : Nat) x, V.vec (2 : Nat) (10 : Nat) (1 : Nat) (0 : Nat) (10 : Nat), V.t (T.int IntKind.i64 ((↑n : Int) + (1 : Int)))], Ob.vec true (1 : Nat) ((ints q.reverse).append ([C.t (T.int IntKind.i64 v)] :: ints (a :: jk))), Ob.vec true (1 : Nat) (ints lo)]) (show (q.length + (1 : Nat)) = (((v, (0 : Int)).fst :: q).length) by simp [ints_app, ints_cons, intc]))).trans (congrArg (fun x => Out.val (V.tup [V.t (T.int IntKind.i64 (0 : Int)), V.t (T.int IntKind.i64 (0 : Int))]) [Ob.box [V.vec (1 : Nat) (((v, (0 : Int)).fst :: q).length + (a :: jk).length) (1 : Nat) (0 : Nat) ((v, (0 : Int)).fst :: q).length, V.vec (2 : Nat) (10 : Nat) (1 : Nat) (0 : Nat) (10 : Nat), V.t (T.int IntKind.i64 ((↑n : Int) + (1 : Int)))], Ob.vec true (1 : Nat) x, Ob.vec true (1 : Nat) (ints lo)]) (show ((ints q.reverse).append ([C.t (T.int IntKind.i64 v)] :: ints (a :: jk))) = (ints (((v, (0 : Int)).fst :: q).reverse ++ a :: jk)) by simp [ints_app, ints_cons, intc])))
            · rw [if_pos ⟨rfl, hv⟩]
              rw [show endOf ((0 : Int), (3 : Int)).2 = 3 from rfl, sOut3]
              let t0 : Tp pr := .i (show ((↑(List.map Bc.ce l).length : Int) : Int) = (↑l.length : Int) by simp)
              let t1 : Tp pr := .b (show (decide ((↑n : Int) ≥ (↑l.length : Int))) = false by (simp; omega))
              let t2 : Tp pr := .g .row (show (lkp (List.map Bc.ce l) (↑n : Int)) = some ((Bc.mk (4 : Int) m t).ce) from hgl)
              let t4 : Tp pr := .i (show ((↑(a :: b :: q).length : Int) : Int) = (↑q.length : Int) + (1 : Int) + (1 : Int) by simp)
              let t6 : Tp pr := .i (wrap_i64 (a := (↑q.length : Int) + (1 : Int) + (1 : Int) - (2 : Int)) (by omega) (by omega))
              let t7 : Tp pr := .i (wrap_i64 (a := (↑q.length : Int) + (1 : Int) + (1 : Int) - (2 : Int) + (1 : Int)) (by omega) (by omega))
              let t8 : Tp pr := .b (show (decide ((↑q.length : Int) + (1 : Int) + (1 : Int) - (2 : Int) + (1 : Int) > (30 : Int))) = false by (simp; omega))
              let t9 : Tp pr := .i (wrap_i64 (a := (↑n : Int) + (1 : Int)) (by omega) (by omega))
              let t11 : Tp pr := .i (wrap_i64 (a := (↑q.length : Int) + (1 : Int) + (1 : Int) - (1 : Int)) (by omega) (by omega))
              let t12 : Tp pr := .m (show (decide ((0 : Int) ≤ (↑q.length : Int) + (1 : Int) + (1 : Int) - (1 : Int) ∧ ((↑q.length : Int) + (1 : Int) + (1 : Int) - (1 : Int)).toNat < (a :: b :: q).length)) = true by (simp; omega))
              let t13 : Tp pr := .c (show ((0 : Nat) + ((↑q.length : Int) + (1 : Int) + (1 : Int) - (1 : Int)).toNat : Nat) = q.length + (1 : Nat) by omega)
              let t14 : Tp pr := .m (show (decide ((ints ((a :: b :: q).reverse ++ jk)).length = (a :: b :: q).length + jk.length)) = true by (simp; omega))
              let t15 : Tp pr := .g .crow (show ((ints ((a :: b :: q).reverse ++ jk))[q.length + (1 : Nat)]?) = some (intc a) from gt)
              let t16 : Tp pr := .i (wrap_i64 (a := (↑q.length : Int) + (1 : Int) + (1 : Int) - (2 : Int)) (by omega) (by omega))
              let t17 : Tp pr := .m (show (decide ((0 : Int) ≤ (0 : Int) ∧ (0 : Int) ≤ (↑q.length : Int) + (1 : Int) + (1 : Int) - (2 : Int) ∧ (0 : Nat) + ((↑q.length : Int) + (1 : Int) + (1 : Int) - (2 : Int)).toNat ≤ (a :: b :: q).length + jk.length)) = true by (simp; omega))
              let t19 : Tp pr := .c (show (((↑q.length : Int) + (1 : Int) + (1 : Int) - (2 : Int)).toNat - (0 : Nat) : Nat) = q.length by omega)
              let t35 : Tp pr := .i (wrap_i64 (a := (↑q.length : Int) + (1 : Int) + (1 : Int) - (2 : Int)) (by omega) (by omega))
              let t37 : Tp pr := .m (show (decide ((0 : Int) ≤ (↑q.length : Int) + (1 : Int) + (1 : Int) - (2 : Int) ∧ ((↑q.length : Int) + (1 : Int) + (1 : Int) - (2 : Int)).toNat < (a :: b :: q).length)) = true by (simp; omega))
              let t38 : Tp pr := .c (show ((0 : Nat) + ((↑q.length : Int) + (1 : Int) + (1 : Int) - (2 : Int)).toNat : Nat) = q.length by omega)
              let t40 : Tp pr := .m (show (decide ((ints ((a :: b :: q).reverse ++ jk)).length = (a :: b :: q).length + jk.length)) = true by (simp; omega))
              let t41 : Tp pr := .g .crow (show ((ints ((a :: b :: q).reverse ++ jk))[q.length]?) = some (intc b) from gt2)
              let t54 : Tp pr := .b (show (!(decide (v ≥ (-1000000000 : Int)) && decide (v ≤ (1000000000 : Int)))) = true by (simp; omega))
              exact .tp [t0, t1, t2, .a (hm), t4, .b (rfl : false = false), t6, t7, t8, t9, .b (rfl : true = true), t11, t12, t13, t14, t15, t16, t17, .c (rfl : ((0 : Nat)) = _), t19, .b (rfl : false = false), .b (rfl : false = false), .b (rfl : false = false), .b (rfl : false = false), .b (rfl : false = false), .b (rfl : false = false), .b (rfl : false = false), .b (rfl : true = true), .m (rfl : true = true), .m (rfl : true = true), .m (rfl : true = true), .m (rfl : true = true), .m (rfl : true = true), .m (rfl : true = true), .m (rfl : true = true), t35, .m (rfl : true = true), t37, t38, .m (rfl : true = true), t40, t41, .m (rfl : true = true), .m (rfl : true = true), .a (hdo), .m (rfl : true = true), .m (rfl : true = true), .m (rfl : true = true), .m (rfl : true = true), .m (rfl : true = true), .m (rfl : true = true), .b (rfl : false = false), .b (rfl : false = false), .a (l2Bound_ev (v)), t54] (by kernel_rfl)
          · rw [if_neg (fun h => hc0 h.1)] at hcode ⊢
            dsimp only at hcode
            rcases hcode with h | rfl | rfl
            · exact absurd h hc0
            · rw [show endOf (v, (2 : Int)).2 = 2 from rfl, sOut2]
              let t0 : Tp pr := .i (show ((↑(List.map Bc.ce l).length : Int) : Int) = (↑l.length : Int) by simp)
              let t1 : Tp pr := .b (show (decide ((↑n : Int) ≥ (↑l.length : Int))) = false by (simp; omega))
              let t2 : Tp pr := .g .row (show (lkp (List.map Bc.ce l) (↑n : Int)) = some ((Bc.mk (4 : Int) m t).ce) from hgl)
              let t4 : Tp pr := .i (show ((↑(a :: b :: q).length : Int) : Int) = (↑q.length : Int) + (1 : Int) + (1 : Int) by simp)
              let t6 : Tp pr := .i (wrap_i64 (a := (↑q.length : Int) + (1 : Int) + (1 : Int) - (2 : Int)) (by omega) (by omega))
              let t7 : Tp pr := .i (wrap_i64 (a := (↑q.length : Int) + (1 : Int) + (1 : Int) - (2 : Int) + (1 : Int)) (by omega) (by omega))
              let t8 : Tp pr := .b (show (decide ((↑q.length : Int) + (1 : Int) + (1 : Int) - (2 : Int) + (1 : Int) > (30 : Int))) = false by (simp; omega))
              let t9 : Tp pr := .i (wrap_i64 (a := (↑n : Int) + (1 : Int)) (by omega) (by omega))
              let t11 : Tp pr := .i (wrap_i64 (a := (↑q.length : Int) + (1 : Int) + (1 : Int) - (1 : Int)) (by omega) (by omega))
              let t12 : Tp pr := .m (show (decide ((0 : Int) ≤ (↑q.length : Int) + (1 : Int) + (1 : Int) - (1 : Int) ∧ ((↑q.length : Int) + (1 : Int) + (1 : Int) - (1 : Int)).toNat < (a :: b :: q).length)) = true by (simp; omega))
              let t13 : Tp pr := .c (show ((0 : Nat) + ((↑q.length : Int) + (1 : Int) + (1 : Int) - (1 : Int)).toNat : Nat) = q.length + (1 : Nat) by omega)
              let t14 : Tp pr := .m (show (decide ((ints ((a :: b :: q).reverse ++ jk)).length = (a :: b :: q).length + jk.length)) = true by (simp; omega))
              let t15 : Tp pr := .g .crow (show ((ints ((a :: b :: q).reverse ++ jk))[q.length + (1 : Nat)]?) = some (intc a) from gt)
              let t16 : Tp pr := .i (wrap_i64 (a := (↑q.length : Int) + (1 : Int) + (1 : Int) - (2 : Int)) (by omega) (by omega))
              let t17 : Tp pr := .m (show (decide ((0 : Int) ≤ (0 : Int) ∧ (0 : Int) ≤ (↑q.length : Int) + (1 : Int) + (1 : Int) - (2 : Int) ∧ (0 : Nat) + ((↑q.length : Int) + (1 : Int) + (1 : Int) - (2 : Int)).toNat ≤ (a :: b :: q).length + jk.length)) = true by (simp; omega))
              let t19 : Tp pr := .c (show (((↑q.length : Int) + (1 : Int) + (1 : Int) - (2 : Int)).toNat - (0 : Nat) : Nat) = q.length by omega)
              let t35 : Tp pr := .i (wrap_i64 (a := (↑q.length : Int) + (1 : Int) + (1 : Int) - (2 : Int)) (by omega) (by omega))
              let t37 : Tp pr := .m (show (decide ((0 : Int) ≤ (↑q.length : Int) + (1 : Int) + (1 : Int) - (2 : Int) ∧ ((↑q.length : Int) + (1 : Int) + (1 : Int) - (2 : Int)).toNat < (a :: b :: q).length)) = true by (simp; omega))
              let t38 : Tp pr := .c (show ((0 : Nat) + ((↑q.length : Int) + (1 : Int) + (1 : Int) - (2 : Int)).toNat : Nat) = q.length by omega)
              let t40 : Tp pr := .m (show (decide ((ints ((a :: b :: q).reverse ++ jk)).length = (a :: b :: q).length + jk.length)) = true by (simp; omega))
              let t41 : Tp pr := .g .crow (show ((ints ((a :: b :: q).reverse ++ jk))[q.length]?) = some (intc b) from gt2)
              exact .tp [t0, t1, t2, .a (hm), t4, .b (rfl : false = false), t6, t7, t8, t9, .b (rfl : true = true), t11, t12, t13, t14, t15, t16, t17, .c (rfl : ((0 : Nat)) = _), t19, .b (rfl : false = false), .b (rfl : false = false), .b (rfl : false = false), .b (rfl : false = false), .b (rfl : false = false), .b (rfl : false = false), .b (rfl : false = false), .b (rfl : true = true), .m (rfl : true = true), .m (rfl : true = true), .m (rfl : true = true), .m (rfl : true = true), .m (rfl : true = true), .m (rfl : true = true), .m (rfl : true = true), t35, .m (rfl : true = true), t37, t38, .m (rfl : true = true), t40, t41, .m (rfl : true = true), .m (rfl : true = true), .a (hdo), .m (rfl : true = true), .m (rfl : true = true), .m (rfl : true = true), .m (rfl : true = true), .m (rfl : true = true), .m (rfl : true = true), .b (rfl : true = true)] (by kernel_rfl)
            · rw [show endOf (v, (3 : Int)).2 = 3 from rfl, sOut3]
              let t0 : Tp pr := .i (show ((↑(List.map Bc.ce l).length : Int) : Int) = (↑l.length : Int) by simp)
              let t1 : Tp pr := .b (show (decide ((↑n : Int) ≥ (↑l.length : Int))) = false by (simp; omega))
              let t2 : Tp pr := .g .row (show (lkp (List.map Bc.ce l) (↑n : Int)) = some ((Bc.mk (4 : Int) m t).ce) from hgl)
              let t4 : Tp pr := .i (show ((↑(a :: b :: q).length : Int) : Int) = (↑q.length : Int) + (1 : Int) + (1 : Int) by simp)
              let t6 : Tp pr := .i (wrap_i64 (a := (↑q.length : Int) + (1 : Int) + (1 : Int) - (2 : Int)) (by omega) (by omega))
              let t7 : Tp pr := .i (wrap_i64 (a := (↑q.length : Int) + (1 : Int) + (1 : Int) - (2 : Int) + (1 : Int)) (by omega) (by omega))
              let t8 : Tp pr := .b (show (decide ((↑q.length : Int) + (1 : Int) + (1 : Int) - (2 : Int) + (1 : Int) > (30 : Int))) = false by (simp; omega))
              let t9 : Tp pr := .i (wrap_i64 (a := (↑n : Int) + (1 : Int)) (by omega) (by omega))
              let t11 : Tp pr := .i (wrap_i64 (a := (↑q.length : Int) + (1 : Int) + (1 : Int) - (1 : Int)) (by omega) (by omega))
              let t12 : Tp pr := .m (show (decide ((0 : Int) ≤ (↑q.length : Int) + (1 : Int) + (1 : Int) - (1 : Int) ∧ ((↑q.length : Int) + (1 : Int) + (1 : Int) - (1 : Int)).toNat < (a :: b :: q).length)) = true by (simp; omega))
              let t13 : Tp pr := .c (show ((0 : Nat) + ((↑q.length : Int) + (1 : Int) + (1 : Int) - (1 : Int)).toNat : Nat) = q.length + (1 : Nat) by omega)
              let t14 : Tp pr := .m (show (decide ((ints ((a :: b :: q).reverse ++ jk)).length = (a :: b :: q).length + jk.length)) = true by (simp; omega))
              let t15 : Tp pr := .g .crow (show ((ints ((a :: b :: q).reverse ++ jk))[q.length + (1 : Nat)]?) = some (intc a) from gt)
              let t16 : Tp pr := .i (wrap_i64 (a := (↑q.length : Int) + (1 : Int) + (1 : Int) - (2 : Int)) (by omega) (by omega))
              let t17 : Tp pr := .m (show (decide ((0 : Int) ≤ (0 : Int) ∧ (0 : Int) ≤ (↑q.length : Int) + (1 : Int) + (1 : Int) - (2 : Int) ∧ (0 : Nat) + ((↑q.length : Int) + (1 : Int) + (1 : Int) - (2 : Int)).toNat ≤ (a :: b :: q).length + jk.length)) = true by (simp; omega))
              let t19 : Tp pr := .c (show (((↑q.length : Int) + (1 : Int) + (1 : Int) - (2 : Int)).toNat - (0 : Nat) : Nat) = q.length by omega)
              let t35 : Tp pr := .i (wrap_i64 (a := (↑q.length : Int) + (1 : Int) + (1 : Int) - (2 : Int)) (by omega) (by omega))
              let t37 : Tp pr := .m (show (decide ((0 : Int) ≤ (↑q.length : Int) + (1 : Int) + (1 : Int) - (2 : Int) ∧ ((↑q.length : Int) + (1 : Int) + (1 : Int) - (2 : Int)).toNat < (a :: b :: q).length)) = true by (simp; omega))
              let t38 : Tp pr := .c (show ((0 : Nat) + ((↑q.length : Int) + (1 : Int) + (1 : Int) - (2 : Int)).toNat : Nat) = q.length by omega)
              let t40 : Tp pr := .m (show (decide ((ints ((a :: b :: q).reverse ++ jk)).length = (a :: b :: q).length + jk.length)) = true by (simp; omega))
              let t41 : Tp pr := .g .crow (show ((ints ((a :: b :: q).reverse ++ jk))[q.length]?) = some (intc b) from gt2)
              exact .tp [t0, t1, t2, .a (hm), t4, .b (rfl : false = false), t6, t7, t8, t9, .b (rfl : true = true), t11, t12, t13, t14, t15, t16, t17, .c (rfl : ((0 : Nat)) = _), t19, .b (rfl : false = false), .b (rfl : false = false), .b (rfl : false = false), .b (rfl : false = false), .b (rfl : false = false), .b (rfl : false = false), .b (rfl : false = false), .b (rfl : true = true), .m (rfl : true = true), .m (rfl : true = true), .m (rfl : true = true), .m (rfl : true = true), .m (rfl : true = true), .m (rfl : true = true), .m (rfl : true = true), t35, .m (rfl : true = true), t37, t38, .m (rfl : true = true), t40, t41, .m (rfl : true = true), .m (rfl : true = true), .a (hdo), .m (rfl : true = true), .m (rfl : true = true), .m (rfl : true = true), .m (rfl : true = true), .m (rfl : true = true), .m (rfl : true = true), .b (rfl : false = false), .b (rfl : true = true), .b (rfl : true = true)] (by kernel_rfl)
      · have hm := l16Takes_ev ⟨5, m, t⟩
        have e1 : mvOff (5 : Int) = 1 := rfl
        have e2 : mvOn (5 : Int) = 1 := rfl
        simp only [e1, e2] at hm hc
        cases st with
        | nil => simp at hc
        | cons a r =>
          simp only [List.length_cons] at h3 hc
          have ha := h4 a (by simp)
          have gt : (ints ((a :: r).reverse ++ jk))[r.length]? = some (intc a) := by simp
          rw [show stepX ⟨5, m, t⟩ lo (a :: r) jk n = ⟨0, lo, one1 t a :: r, jk, n + 1⟩ by simp [stepX, e1, e2]; omega]
          rw [sOut0]
          obtain ⟨ha1, ha2⟩ := ha
          have hneg : Int.neg a = -a := rfl
          unfold one1
          by_cases ht : t.toList = [45]
          · rw [if_pos ht]
            let t0 : Tp pr := .i (show ((↑(List.map Bc.ce l).length : Int) : Int) = (↑l.length : Int) by simp)
            let t1 : Tp pr := .b (show (decide ((↑n : Int) ≥ (↑l.length : Int))) = false by (simp; omega))
            let t2 : Tp pr := .g .row (show (lkp (List.map Bc.ce l) (↑n : Int)) = some ((Bc.mk (5 : Int) m t).ce) from hgl)
            let t4 : Tp pr := .i (show ((↑(a :: r).length : Int) : Int) = (↑r.length : Int) + (1 : Int) by simp)
            let t6 : Tp pr := .i (wrap_i64 (a := (↑r.length : Int) + (1 : Int) - (1 : Int)) (by omega) (by omega))
            let t7 : Tp pr := .i (wrap_i64 (a := (↑r.length : Int) + (1 : Int) - (1 : Int) + (1 : Int)) (by omega) (by omega))
            let t8 : Tp pr := .b (show (decide ((↑r.length : Int) + (1 : Int) - (1 : Int) + (1 : Int) > (30 : Int))) = false by (simp; omega))
            let t9 : Tp pr := .i (wrap_i64 (a := (↑n : Int) + (1 : Int)) (by omega) (by omega))
            let t11 : Tp pr := .i (wrap_i64 (a := (↑r.length : Int) + (1 : Int) - (1 : Int)) (by omega) (by omega))
            let t12 : Tp pr := .m (show (decide ((0 : Int) ≤ (↑r.length : Int) + (1 : Int) - (1 : Int) ∧ ((↑r.length : Int) + (1 : Int) - (1 : Int)).toNat < (a :: r).length)) = true by simp)
            let t13 : Tp pr := .c (show ((0 : Nat) + ((↑r.length : Int) + (1 : Int) - (1 : Int)).toNat : Nat) = r.length by omega)
            let t14 : Tp pr := .m (show (decide ((ints ((a :: r).reverse ++ jk)).length = (a :: r).length + jk.length)) = true by (simp; omega))
            let t15 : Tp pr := .g .crow (show ((ints ((a :: r).reverse ++ jk))[r.length]?) = some (intc a) from gt)
            let t16 : Tp pr := .i (wrap_i64 (a := (↑r.length : Int) + (1 : Int) - (1 : Int)) (by omega) (by omega))
            let t17 : Tp pr := .m (show (decide ((0 : Int) ≤ (0 : Int) ∧ (0 : Int) ≤ (↑r.length : Int) + (1 : Int) - (1 : Int) ∧ (0 : Nat) + ((↑r.length : Int) + (1 : Int) - (1 : Int)).toNat ≤ (a :: r).length + jk.length)) = true by (simp; omega))
            let t19 : Tp pr := .c (show (((↑r.length : Int) + (1 : Int) - (1 : Int)).toNat - (0 : Nat) : Nat) = r.length by omega)
            let t27 : Tp pr := .b (show (t.toList == [(45 : UInt8)]) = true by (simp; omega))
            let t28 : Tp pr := .i (wrap_i64 (a := (0 : Int) - a) (by omega) (by omega))
            let t30 : Tp pr := .m (show (decide ((ints ((a :: r).reverse ++ jk)).length = (a :: r).length + jk.length ∧ (0 : Nat) + r.length ≤ (a :: r).length + jk.length ∧ r.length + (1 : Nat) ≤ (4294967296 : Nat))) = true by (simp; omega))
            let t31 : Tp pr := .b (show (decide (r.length + (1 : Nat) ≤ (a :: r).length + jk.length)) = true by simp)
            let t33 : Tp pr := .n .crows (show (((List.take r.length (ints ((a :: r).reverse ++ jk))).append (List.take (1 : Nat) (List.drop (0 : Nat) [[C.t (T.int IntKind.i64 ((0 : Int) - a))]]))).append (List.drop (r.length + (1 : Nat)) (ints ((a :: r).reverse ++ jk)))) = ints r.reverse ++ [C.t (T.int IntKind.i64 (-a))] :: ints jk by simp)
            exact .tpe [t0, t1, t2, .a (hm), t4, .b (rfl : false = false), t6, t7, t8, t9, .b (rfl : true = true), t11, t12, t13, t14, t15, t16, t17, .c (rfl : ((0 : Nat)) = _), t19, .b (rfl : false = false), .b (rfl : false = false), .b (rfl : false = false), .b (rfl : false = false), .b (rfl : false = false), .b (rfl : false = false), .b (rfl : true = true), t27, t28, .m (rfl : true = true), t30, t31, .c (rfl : (r.length + (1 : Nat)) = _), t33] (Out.val (V.tup [V.t (T.int IntKind.i64 (0 : Int)), V.t (T.int IntKind.i64 (0 : Int))]) [Ob.box [V.vec (1 : Nat) ((a :: r).length + jk.length) (1 : Nat) (0 : Nat) (r.length + (1 : Nat)), V.vec (2 : Nat) (10 : Nat) (1 : Nat) (0 : Nat) (10 : Nat), V.t (T.int IntKind.i64 ((↑n : Int) + (1 : Int)))], Ob.vec true (1 : Nat) ((ints r.reverse).append ([C.t (T.int IntKind.i64 a.neg)] :: ints jk)), Ob.vec true (1 : Nat) (ints lo)]) (by kernel_rfl) (((congrArg (fun x => Out.val (V.tup [V.t (T.int IntKind.i64 (0 : Int)), V.t (T.int IntKind.i64 (0 : Int))]) [Ob.box [V.vec (1 : Nat) x (1 : Nat) (0 : Nat) (r.length + (1 : Nat)), V.vec (2 : Nat) (10 : Nat) (1 : Nat) (0 : Nat) (10 : Nat), V.t (T.int IntKind.i64 ((↑n : Int) + (1 : Int)))], Ob.vec true (1 : Nat) ((ints r.reverse).append ([C.t (T.int IntKind.i64 a.neg)] :: ints jk)), Ob.vec true (1 : Nat) (ints lo)]) (show ((a :: r).length + jk.length) = ((-a :: r).length + jk.length) by simp [ints_app, ints_cons, intc, hneg])).trans (congrArg (fun x => Out.val (V.tup [V.t (T.int IntKind.i64 (0 : Int)), V.t (T.int IntKind.i64 (0 : Int))]) [Ob.box [V.vec (1 : Nat) ((-a :: r).length + jk.length) (1 : Nat) (0 : Nat) x, V.vec (2 : Nat) (10 : Nat) (1 : Nat) (0 : Nat) (10 : Nat), V.t (T.int IntKind.i64 ((↑n : Int) + (1 : Int)))], Ob.vec true (1 : Nat) ((ints r.reverse).append ([C.t (T.int IntKind.i64 a.neg)] :: ints jk)), Ob.vec true (1 : Nat) (ints lo)]) (show (r.length + (1 : Nat)) = ((-a :: r).length) by simp [ints_app, ints_cons, intc, hneg]))).trans (congrArg (fun x => Out.val (V.tup [V.t (T.int IntKind.i64 (0 : Int)), V.t (T.int IntKind.i64 (0 : Int))]) [Ob.box [V.vec (1 : Nat) ((-a :: r).length + jk.length) (1 : Nat) (0 : Nat) (-a :: r).length, V.vec (2 : Nat) (10 : Nat) (1 : Nat) (0 : Nat) (10 : Nat), V.t (T.int IntKind.i64 ((↑n : Int) + (1 : Int)))], Ob.vec true (1 : Nat) x, Ob.vec true (1 : Nat) (ints lo)]) (show ((ints r.reverse).append ([C.t (T.int IntKind.i64 a.neg)] :: ints jk)) = (ints ((-a :: r).reverse ++ jk)) by simp [ints_app, ints_cons, intc, hneg])))
          · rw [if_neg ht]
            let t0 : Tp pr := .i (show ((↑(List.map Bc.ce l).length : Int) : Int) = (↑l.length : Int) by simp)
            let t1 : Tp pr := .b (show (decide ((↑n : Int) ≥ (↑l.length : Int))) = false by (simp; omega))
            let t2 : Tp pr := .g .row (show (lkp (List.map Bc.ce l) (↑n : Int)) = some ((Bc.mk (5 : Int) m t).ce) from hgl)
            let t4 : Tp pr := .i (show ((↑(a :: r).length : Int) : Int) = (↑r.length : Int) + (1 : Int) by simp)
            let t6 : Tp pr := .i (wrap_i64 (a := (↑r.length : Int) + (1 : Int) - (1 : Int)) (by omega) (by omega))
            let t7 : Tp pr := .i (wrap_i64 (a := (↑r.length : Int) + (1 : Int) - (1 : Int) + (1 : Int)) (by omega) (by omega))
            let t8 : Tp pr := .b (show (decide ((↑r.length : Int) + (1 : Int) - (1 : Int) + (1 : Int) > (30 : Int))) = false by (simp; omega))
            let t9 : Tp pr := .i (wrap_i64 (a := (↑n : Int) + (1 : Int)) (by omega) (by omega))
            let t11 : Tp pr := .i (wrap_i64 (a := (↑r.length : Int) + (1 : Int) - (1 : Int)) (by omega) (by omega))
            let t12 : Tp pr := .m (show (decide ((0 : Int) ≤ (↑r.length : Int) + (1 : Int) - (1 : Int) ∧ ((↑r.length : Int) + (1 : Int) - (1 : Int)).toNat < (a :: r).length)) = true by simp)
            let t13 : Tp pr := .c (show ((0 : Nat) + ((↑r.length : Int) + (1 : Int) - (1 : Int)).toNat : Nat) = r.length by omega)
            let t14 : Tp pr := .m (show (decide ((ints ((a :: r).reverse ++ jk)).length = (a :: r).length + jk.length)) = true by (simp; omega))
            let t15 : Tp pr := .g .crow (show ((ints ((a :: r).reverse ++ jk))[r.length]?) = some (intc a) from gt)
            let t16 : Tp pr := .i (wrap_i64 (a := (↑r.length : Int) + (1 : Int) - (1 : Int)) (by omega) (by omega))
            let t17 : Tp pr := .m (show (decide ((0 : Int) ≤ (0 : Int) ∧ (0 : Int) ≤ (↑r.length : Int) + (1 : Int) - (1 : Int) ∧ (0 : Nat) + ((↑r.length : Int) + (1 : Int) - (1 : Int)).toNat ≤ (a :: r).length + jk.length)) = true by (simp; omega))
            let t19 : Tp pr := .c (show (((↑r.length : Int) + (1 : Int) - (1 : Int)).toNat - (0 : Nat) : Nat) = r.length by omega)
            let t27 : Tp pr := .b (show (t.toList == [(45 : UInt8)]) = false by (simp; omega))
            let t28 : Tp pr := .a (l2Truth_ev (decide (a = (0 : Int))))
            let t30 : Tp pr := .m (show (decide ((ints ((a :: r).reverse ++ jk)).length = (a :: r).length + jk.length ∧ (0 : Nat) + r.length ≤ (a :: r).length + jk.length ∧ r.length + (1 : Nat) ≤ (4294967296 : Nat))) = true by (simp; omega))
            let t31 : Tp pr := .b (show (decide (r.length + (1 : Nat) ≤ (a :: r).length + jk.length)) = true by simp)
            let t33 : Tp pr := .n .crows (show (((List.take r.length (ints ((a :: r).reverse ++ jk))).append (List.take (1 : Nat) (List.drop (0 : Nat) [[C.t (T.int IntKind.i64 (tru (decide (a = (0 : Int)))))]]))).append (List.drop (r.length + (1 : Nat)) (ints ((a :: r).reverse ++ jk)))) = ints r.reverse ++ [C.t (T.int IntKind.i64 (tru (decide (a = (0 : Int)))))] :: ints jk by simp)
            exact .tpe [t0, t1, t2, .a (hm), t4, .b (rfl : false = false), t6, t7, t8, t9, .b (rfl : true = true), t11, t12, t13, t14, t15, t16, t17, .c (rfl : ((0 : Nat)) = _), t19, .b (rfl : false = false), .b (rfl : false = false), .b (rfl : false = false), .b (rfl : false = false), .b (rfl : false = false), .b (rfl : false = false), .b (rfl : true = true), t27, t28, .m (rfl : true = true), t30, t31, .c (rfl : (r.length + (1 : Nat)) = _), t33] (Out.val (V.tup [V.t (T.int IntKind.i64 (0 : Int)), V.t (T.int IntKind.i64 (0 : Int))]) [Ob.box [V.vec (1 : Nat) ((a :: r).length + jk.length) (1 : Nat) (0 : Nat) (r.length + (1 : Nat)), V.vec (2 : Nat) (10 : Nat) (1 : Nat) (0 : Nat) (10 : Nat), V.t (T.int IntKind.i64 ((↑n : Int) + (1 : Int)))], Ob.vec true (1 : Nat) ((ints r.reverse).append ([C.t (T.int IntKind.i64 (tru (decide (a = (0 : Int)))))] :: ints jk)), Ob.vec true (1 : Nat) (ints lo)]) (by kernel_rfl) (((congrArg (fun x => Out.val (V.tup [V.t (T.int IntKind.i64 (0 : Int)), V.t (T.int IntKind.i64 (0 : Int))]) [Ob.box [V.vec (1 : Nat) x (1 : Nat) (0 : Nat) (r.length + (1 : Nat)), V.vec (2 : Nat) (10 : Nat) (1 : Nat) (0 : Nat) (10 : Nat), V.t (T.int IntKind.i64 ((↑n : Int) + (1 : Int)))], Ob.vec true (1 : Nat) ((ints r.reverse).append ([C.t (T.int IntKind.i64 (tru (decide (a = (0 : Int)))))] :: ints jk)), Ob.vec true (1 : Nat) (ints lo)]) (show ((a :: r).length + jk.length) = ((tru (decide (a = (0 : Int))) :: r).length + jk.length) by simp [ints_app, ints_cons, intc])).trans (congrArg (fun x => Out.val (V.tup [V.t (T.int IntKind.i64 (0 : Int)), V.t (T.int IntKind.i64 (0 : Int))]) [Ob.box [V.vec (1 : Nat) ((tru (decide (a = (0 : Int))) :: r).length + jk.length) (1 : Nat) (0 : Nat) x, V.vec (2 : Nat) (10 : Nat) (1 : Nat) (0 : Nat) (10 : Nat), V.t (T.int IntKind.i64 ((↑n : Int) + (1 : Int)))], Ob.vec true (1 : Nat) ((ints r.reverse).append ([C.t (T.int IntKind.i64 (tru (decide (a = (0 : Int)))))] :: ints jk)), Ob.vec true (1 : Nat) (ints lo)]) (show (r.length + (1 : Nat)) = ((tru (decide (a = (0 : Int))) :: r).length) by simp [ints_app, ints_cons, intc]))).trans (congrArg (fun x => Out.val (V.tup [V.t (T.int IntKind.i64 (0 : Int)), V.t (T.int IntKind.i64 (0 : Int))]) [Ob.box [V.vec (1 : Nat) ((tru (decide (a = (0 : Int))) :: r).length + jk.length) (1 : Nat) (0 : Nat) (tru (decide (a = (0 : Int))) :: r).length, V.vec (2 : Nat) (10 : Nat) (1 : Nat) (0 : Nat) (10 : Nat), V.t (T.int IntKind.i64 ((↑n : Int) + (1 : Int)))], Ob.vec true (1 : Nat) x, Ob.vec true (1 : Nat) (ints lo)]) (show ((ints r.reverse).append ([C.t (T.int IntKind.i64 (tru (decide (a = (0 : Int)))))] :: ints jk)) = (ints ((tru (decide (a = (0 : Int))) :: r).reverse ++ jk)) by simp [ints_app, ints_cons, intc])))
      · have hm := l16Takes_ev ⟨6, m, t⟩
        have e1 : mvOff (6 : Int) = 0 := rfl
        have e2 : mvOn (6 : Int) = 0 := rfl
        simp only [e1, e2] at hm hc
        rw [show stepX ⟨6, m, t⟩ lo st jk n = ⟨0, lo, st, jk, m⟩ by simp [stepX, e1, e2]; omega]
        rw [sOut0]
        let t0 : Tp pr := .i (show ((↑(List.map Bc.ce l).length : Int) : Int) = (↑l.length : Int) by simp)
        let t1 : Tp pr := .b (show (decide ((↑n : Int) ≥ (↑l.length : Int))) = false by (simp; omega))
        let t2 : Tp pr := .g .row (show (lkp (List.map Bc.ce l) (↑n : Int)) = some ((Bc.mk (6 : Int) m t).ce) from hgl)
        let t6 : Tp pr := .i (wrap_i64 (a := (↑st.length : Int) - (0 : Int)) (by omega) (by omega))
        let t7 : Tp pr := .i (wrap_i64 (a := (↑st.length : Int) - (0 : Int) + (0 : Int)) (by omega) (by omega))
        let t8 : Tp pr := .b (show (decide ((↑st.length : Int) - (0 : Int) + (0 : Int) > (30 : Int))) = false by (simp; omega))
        let t9 : Tp pr := .i (wrap_i64 (a := (↑n : Int) + (1 : Int)) (by omega) (by omega))
        let t11 : Tp pr := .i (wrap_i64 (a := (↑st.length : Int) - (0 : Int)) (by omega) (by omega))
        let t12 : Tp pr := .m (show (decide ((0 : Int) ≤ (0 : Int) ∧ (0 : Int) ≤ (↑st.length : Int) - (0 : Int) ∧ (0 : Nat) + ((↑st.length : Int) - (0 : Int)).toNat ≤ st.length + jk.length)) = true by simp)
        let t14 : Tp pr := .c (show (((↑st.length : Int) - (0 : Int)).toNat - (0 : Nat) : Nat) = st.length by omega)
        exact .tp [t0, t1, t2, .a (hm), .i (rfl : ((↑st.length : Int)) = _), .b (rfl : false = false), t6, t7, t8, t9, .b (rfl : false = false), t11, t12, .c (rfl : ((0 : Nat)) = _), t14, .b (rfl : false = false), .b (rfl : false = false), .b (rfl : false = false), .b (rfl : false = false), .b (rfl : true = true)] (by kernel_rfl)
      · have hm := l16Takes_ev ⟨7, m, t⟩
        have e1 : mvOff (7 : Int) = 1 := rfl
        have e2 : mvOn (7 : Int) = 0 := rfl
        simp only [e1, e2] at hm hc
        cases st with
        | nil => simp at hc
        | cons a r =>
          simp only [List.length_cons] at h3 hc
          have ha := h4 a (by simp)
          have gt : (ints ((a :: r).reverse ++ jk))[r.length]? = some (intc a) := by simp
          rw [show stepX ⟨7, m, t⟩ lo (a :: r) jk n = ⟨0, lo, r, a :: jk, if a = 0 then m else n + 1⟩ by simp [stepX, e1, e2]; omega]
          rw [sOut0]
          by_cases hz : a = 0
          · rw [if_pos hz]
            let t0 : Tp pr := .i (show ((↑(List.map Bc.ce l).length : Int) : Int) = (↑l.length : Int) by simp)
            let t1 : Tp pr := .b (show (decide ((↑n : Int) ≥ (↑l.length : Int))) = false by (simp; omega))
            let t2 : Tp pr := .g .row (show (lkp (List.map Bc.ce l) (↑n : Int)) = some ((Bc.mk (7 : Int) m t).ce) from hgl)
            let t4 : Tp pr := .i (show ((↑(a :: r).length : Int) : Int) = (↑r.length : Int) + (1 : Int) by simp)
            let t6 : Tp pr := .i (wrap_i64 (a := (↑r.length : Int) + (1 : Int) - (1 : Int)) (by omega) (by omega))
            let t7 : Tp pr := .i (wrap_i64 (a := (↑r.length : Int) + (1 : Int) - (1 : Int) + (0 : Int)) (by omega) (by omega))
            let t8 : Tp pr := .b (show (decide ((↑r.length : Int) + (1 : Int) - (1 : Int) + (0 : Int) > (30 : Int))) = false by (simp; omega))
            let t9 : Tp pr := .i (wrap_i64 (a := (↑n : Int) + (1 : Int)) (by omega) (by omega))
            let t11 : Tp pr := .i (wrap_i64 (a := (↑r.length : Int) + (1 : Int) - (1 : Int)) (by omega) (by omega))
            let t12 : Tp pr := .m (show (decide ((0 : Int) ≤ (↑r.length : Int) + (1 : Int) - (1 : Int) ∧ ((↑r.length : Int) + (1 : Int) - (1 : Int)).toNat < (a :: r).length)) = true by simp)
            let t13 : Tp pr := .c (show ((0 : Nat) + ((↑r.length : Int) + (1 : Int) - (1 : Int)).toNat : Nat) = r.length by omega)
            let t14 : Tp pr := .m (show (decide ((ints ((a :: r).reverse ++ jk)).length = (a :: r).length + jk.length)) = true by (simp; omega))
            let t15 : Tp pr := .g .crow (show ((ints ((a :: r).reverse ++ jk))[r.length]?) = some (intc a) from gt)
            let t16 : Tp pr := .i (wrap_i64 (a := (↑r.length : Int) + (1 : Int) - (1 : Int)) (by omega) (by omega))
            let t17 : Tp pr := .m (show (decide ((0 : Int) ≤ (0 : Int) ∧ (0 : Int) ≤ (↑r.length : Int) + (1 : Int) - (1 : Int) ∧ (0 : Nat) + ((↑r.length : Int) + (1 : Int) - (1 : Int)).toNat ≤ (a :: r).length + jk.length)) = true by (simp; omega))
            let t19 : Tp pr := .c (show (((↑r.length : Int) + (1 : Int) - (1 : Int)).toNat - (0 : Nat) : Nat) = r.length by omega)
            let t26 : Tp pr := .b (show (decide (a = (0 : Int))) = true by (simp; omega))
            exact .tpe [t0, t1, t2, .a (hm), t4, .b (rfl : false = false), t6, t7, t8, t9, .b (rfl : true = true), t11, t12, t13, t14, t15, t16, t17, .c (rfl : ((0 : Nat)) = _), t19, .b (rfl : false = false), .b (rfl : false = false), .b (rfl : false = false), .b (rfl : false = false), .b (rfl : false = false), .b (rfl : true = true), t26] (Out.val (V.tup [V.t (T.int IntKind.i64 (0 : Int)), V.t (T.int IntKind.i64 (0 : Int))]) [Ob.box [V.vec (1 : Nat) ((a :: r).length + jk.length) (1 : Nat) (0 : Nat) r.length, V.vec (2 : Nat) (10 : Nat) (1 : Nat) (0 : Nat) (10 : Nat), V.t (T.int IntKind.i64 m)], Ob.vec true (1 : Nat) (ints ((a :: r).reverse ++ jk)), Ob.vec true (1 : Nat) (ints lo)]) (by kernel_rfl) ((congrArg (fun x => Out.val (V.tup [V.t (T.int IntKind.i64 (0 : Int)), V.t (T.int IntKind.i64 (0 : Int))]) [Ob.box [V.vec (1 : Nat) x (1 : Nat) (0 : Nat) r.length, V.vec (2 : Nat) (10 : Nat) (1 : Nat) (0 : Nat) (10 : Nat), V.t (T.int IntKind.i64 m)], Ob.vec true (1 : Nat) (ints ((a :: r).reverse ++ jk)), Ob.vec true (1 : Nat) (ints lo)]) (show ((a :: r).length + jk.length) = (r.length + (a :: jk).length) by (simp; omega))).trans (congrArg (fun x => Out.val (V.tup [V.t (T.int IntKind.i64 (0 : Int)), V.t (T.int IntKind.i64 (0 : Int))]) [Ob.box [V.vec (1 : Nat) (r.length + (a :: jk).length) (1 : Nat) (0 : Nat) r.length, V.vec (2 : Nat) (10 : Nat) (1 : Nat) (0 : Nat) (10 : Nat), V.t (T.int IntKind.i64 m)], Ob.vec true (1 : Nat) x, Ob.vec true (1 : Nat) (ints lo)]) (show (ints ((a :: r).reverse ++ jk)) = (ints (r.reverse ++ a :: jk)) by simp [ints_app, ints_cons, intc])))
          · rw [if_neg hz]
            let t0 : Tp pr := .i (show ((↑(List.map Bc.ce l).length : Int) : Int) = (↑l.length : Int) by simp)
            let t1 : Tp pr := .b (show (decide ((↑n : Int) ≥ (↑l.length : Int))) = false by (simp; omega))
            let t2 : Tp pr := .g .row (show (lkp (List.map Bc.ce l) (↑n : Int)) = some ((Bc.mk (7 : Int) m t).ce) from hgl)
            let t4 : Tp pr := .i (show ((↑(a :: r).length : Int) : Int) = (↑r.length : Int) + (1 : Int) by simp)
            let t6 : Tp pr := .i (wrap_i64 (a := (↑r.length : Int) + (1 : Int) - (1 : Int)) (by omega) (by omega))
            let t7 : Tp pr := .i (wrap_i64 (a := (↑r.length : Int) + (1 : Int) - (1 : Int) + (0 : Int)) (by omega) (by omega))
            let t8 : Tp pr := .b (show (decide ((↑r.length : Int) + (1 : Int) - (1 : Int) + (0 : Int) > (30 : Int))) = false by (simp; omega))
            let t9 : Tp pr := .i (wrap_i64 (a := (↑n : Int) + (1 : Int)) (by omega) (by omega))
            let t11 : Tp pr := .i (wrap_i64 (a := (↑r.length : Int) + (1 : Int) - (1 : Int)) (by omega) (by omega))
            let t12 : Tp pr := .m (show (decide ((0 : Int) ≤ (↑r.length : Int) + (1 : Int) - (1 : Int) ∧ ((↑r.length : Int) + (1 : Int) - (1 : Int)).toNat < (a :: r).length)) = true by simp)
            let t13 : Tp pr := .c (show ((0 : Nat) + ((↑r.length : Int) + (1 : Int) - (1 : Int)).toNat : Nat) = r.length by omega)
            let t14 : Tp pr := .m (show (decide ((ints ((a :: r).reverse ++ jk)).length = (a :: r).length + jk.length)) = true by (simp; omega))
            let t15 : Tp pr := .g .crow (show ((ints ((a :: r).reverse ++ jk))[r.length]?) = some (intc a) from gt)
            let t16 : Tp pr := .i (wrap_i64 (a := (↑r.length : Int) + (1 : Int) - (1 : Int)) (by omega) (by omega))
            let t17 : Tp pr := .m (show (decide ((0 : Int) ≤ (0 : Int) ∧ (0 : Int) ≤ (↑r.length : Int) + (1 : Int) - (1 : Int) ∧ (0 : Nat) + ((↑r.length : Int) + (1 : Int) - (1 : Int)).toNat ≤ (a :: r).length + jk.length)) = true by (simp; omega))
            let t19 : Tp pr := .c (show (((↑r.length : Int) + (1 : Int) - (1 : Int)).toNat - (0 : Nat) : Nat) = r.length by omega)
            let t26 : Tp pr := .b (show (decide (a = (0 : Int))) = false by (simp; omega))
            exact .tpe [t0, t1, t2, .a (hm), t4, .b (rfl : false = false), t6, t7, t8, t9, .b (rfl : true = true), t11, t12, t13, t14, t15, t16, t17, .c (rfl : ((0 : Nat)) = _), t19, .b (rfl : false = false), .b (rfl : false = false), .b (rfl : false = false), .b (rfl : false = false), .b (rfl : false = false), .b (rfl : true = true), t26] (Out.val (V.tup [V.t (T.int IntKind.i64 (0 : Int)), V.t (T.int IntKind.i64 (0 : Int))]) [Ob.box [V.vec (1 : Nat) ((a :: r).length + jk.length) (1 : Nat) (0 : Nat) r.length, V.vec (2 : Nat) (10 : Nat) (1 : Nat) (0 : Nat) (10 : Nat), V.t (T.int IntKind.i64 ((↑n : Int) + (1 : Int)))], Ob.vec true (1 : Nat) (ints ((a :: r).reverse ++ jk)), Ob.vec true (1 : Nat) (ints lo)]) (by kernel_rfl) ((congrArg (fun x => Out.val (V.tup [V.t (T.int IntKind.i64 (0 : Int)), V.t (T.int IntKind.i64 (0 : Int))]) [Ob.box [V.vec (1 : Nat) x (1 : Nat) (0 : Nat) r.length, V.vec (2 : Nat) (10 : Nat) (1 : Nat) (0 : Nat) (10 : Nat), V.t (T.int IntKind.i64 ((↑n : Int) + (1 : Int)))], Ob.vec true (1 : Nat) (ints ((a :: r).reverse ++ jk)), Ob.vec true (1 : Nat) (ints lo)]) (show ((a :: r).length + jk.length) = (r.length + (a :: jk).length) by (simp; omega))).trans (congrArg (fun x => Out.val (V.tup [V.t (T.int IntKind.i64 (0 : Int)), V.t (T.int IntKind.i64 (0 : Int))]) [Ob.box [V.vec (1 : Nat) (r.length + (a :: jk).length) (1 : Nat) (0 : Nat) r.length, V.vec (2 : Nat) (10 : Nat) (1 : Nat) (0 : Nat) (10 : Nat), V.t (T.int IntKind.i64 ((↑n : Int) + (1 : Int)))], Ob.vec true (1 : Nat) x, Ob.vec true (1 : Nat) (ints lo)]) (show (ints ((a :: r).reverse ++ jk)) = (ints (r.reverse ++ a :: jk)) by simp [ints_app, ints_cons, intc])))
      · have hm := l16Takes_ev ⟨8, m, t⟩
        have e1 : mvOff (8 : Int) = 1 := rfl
        have e2 : mvOn (8 : Int) = 0 := rfl
        simp only [e1, e2] at hm hc
        cases st with
        | nil => simp at hc
        | cons a r =>
          simp only [List.length_cons] at h3 hc
          have ha := h4 a (by simp)
          have gt : (ints ((a :: r).reverse ++ jk))[r.length]? = some (intc a) := by simp
          rw [show stepX ⟨8, m, t⟩ lo (a :: r) jk n = ⟨0, lo, r, a :: jk, n + 1⟩ by simp [stepX, e1, e2]; omega]
          rw [sOut0]
          let t0 : Tp pr := .i (show ((↑(List.map Bc.ce l).length : Int) : Int) = (↑l.length : Int) by simp)
          let t1 : Tp pr := .b (show (decide ((↑n : Int) ≥ (↑l.length : Int))) = false by (simp; omega))
          let t2 : Tp pr := .g .row (show (lkp (List.map Bc.ce l) (↑n : Int)) = some ((Bc.mk (8 : Int) m t).ce) from hgl)
          let t4 : Tp pr := .i (show ((↑(a :: r).length : Int) : Int) = (↑r.length : Int) + (1 : Int) by simp)
          let t6 : Tp pr := .i (wrap_i64 (a := (↑r.length : Int) + (1 : Int) - (1 : Int)) (by omega) (by omega))
          let t7 : Tp pr := .i (wrap_i64 (a := (↑r.length : Int) + (1 : Int) - (1 : Int) + (0 : Int)) (by omega) (by omega))
          let t8 : Tp pr := .b (show (decide ((↑r.length : Int) + (1 : Int) - (1 : Int) + (0 : Int) > (30 : Int))) = false by (simp; omega))
          let t9 : Tp pr := .i (wrap_i64 (a := (↑n : Int) + (1 : Int)) (by omega) (by omega))
          let t11 : Tp pr := .i (wrap_i64 (a := (↑r.length : Int) + (1 : Int) - (1 : Int)) (by omega) (by omega))
          let t12 : Tp pr := .m (show (decide ((0 : Int) ≤ (↑r.length : Int) + (1 : Int) - (1 : Int) ∧ ((↑r.length : Int) + (1 : Int) - (1 : Int)).toNat < (a :: r).length)) = true by simp)
          let t13 : Tp pr := .c (show ((0 : Nat) + ((↑r.length : Int) + (1 : Int) - (1 : Int)).toNat : Nat) = r.length by omega)
          let t14 : Tp pr := .m (show (decide ((ints ((a :: r).reverse ++ jk)).length = (a :: r).length + jk.length)) = true by (simp; omega))
          let t15 : Tp pr := .g .crow (show ((ints ((a :: r).reverse ++ jk))[r.length]?) = some (intc a) from gt)
          let t16 : Tp pr := .i (wrap_i64 (a := (↑r.length : Int) + (1 : Int) - (1 : Int)) (by omega) (by omega))
          let t17 : Tp pr := .m (show (decide ((0 : Int) ≤ (0 : Int) ∧ (0 : Int) ≤ (↑r.length : Int) + (1 : Int) - (1 : Int) ∧ (0 : Nat) + ((↑r.length : Int) + (1 : Int) - (1 : Int)).toNat ≤ (a :: r).length + jk.length)) = true by (simp; omega))
          let t19 : Tp pr := .c (show (((↑r.length : Int) + (1 : Int) - (1 : Int)).toNat - (0 : Nat) : Nat) = r.length by omega)
          exact .tpe [t0, t1, t2, .a (hm), t4, .b (rfl : false = false), t6, t7, t8, t9, .b (rfl : true = true), t11, t12, t13, t14, t15, t16, t17, .c (rfl : ((0 : Nat)) = _), t19, .b (rfl : false = false), .b (rfl : false = false), .b (rfl : false = false), .b (rfl : false = false), .b (rfl : false = false), .b (rfl : false = false), .b (rfl : false = false), .b (rfl : false = false)] (Out.val (V.tup [V.t (T.int IntKind.i64 (0 : Int)), V.t (T.int IntKind.i64 (0 : Int))]) [Ob.box [V.vec (1 : Nat) ((a :: r).length + jk.length) (1 : Nat) (0 : Nat) r.length, V.vec (2 : Nat) (10 : Nat) (1 : Nat) (0 : Nat) (10 : Nat), V.t (T.int IntKind.i64 ((↑n : Int) + (1 : Int)))], Ob.vec true (1 : Nat) (ints ((a :: r).reverse ++ jk)), Ob.vec true (1 : Nat) (ints lo)]) (by kernel_rfl) ((congrArg (fun x => Out.val (V.tup [V.t (T.int IntKind.i64 (0 : Int)), V.t (T.int IntKind.i64 (0 : Int))]) [Ob.box [V.vec (1 : Nat) x (1 : Nat) (0 : Nat) r.length, V.vec (2 : Nat) (10 : Nat) (1 : Nat) (0 : Nat) (10 : Nat), V.t (T.int IntKind.i64 ((↑n : Int) + (1 : Int)))], Ob.vec true (1 : Nat) (ints ((a :: r).reverse ++ jk)), Ob.vec true (1 : Nat) (ints lo)]) (show ((a :: r).length + jk.length) = (r.length + (a :: jk).length) by (simp; omega))).trans (congrArg (fun x => Out.val (V.tup [V.t (T.int IntKind.i64 (0 : Int)), V.t (T.int IntKind.i64 (0 : Int))]) [Ob.box [V.vec (1 : Nat) (r.length + (a :: jk).length) (1 : Nat) (0 : Nat) r.length, V.vec (2 : Nat) (10 : Nat) (1 : Nat) (0 : Nat) (10 : Nat), V.t (T.int IntKind.i64 ((↑n : Int) + (1 : Int)))], Ob.vec true (1 : Nat) x, Ob.vec true (1 : Nat) (ints lo)]) (show (ints ((a :: r).reverse ++ jk)) = (ints (r.reverse ++ a :: jk)) by simp [ints_app, ints_cons, intc])))
      · have hm := l16Takes_ev ⟨9, m, t⟩
        have e1 : mvOff (9 : Int) = 1 := rfl
        have e2 : mvOn (9 : Int) = 1 := rfl
        simp only [e1, e2] at hm hc
        cases st with
        | nil => simp at hc
        | cons a r =>
          simp only [List.length_cons] at h3 hc
          have ha := h4 a (by simp)
          have gt : (ints ((a :: r).reverse ++ jk))[r.length]? = some (intc a) := by simp
          rw [show stepX ⟨9, m, t⟩ lo (a :: r) jk n = ⟨1, lo, a :: r, jk, n + 1⟩ by simp [stepX, e1, e2]; omega]
          rw [sOut1]
          let t0 : Tp pr := .i (show ((↑(List.map Bc.ce l).length : Int) : Int) = (↑l.length : Int) by simp)
          let t1 : Tp pr := .b (show (decide ((↑n : Int) ≥ (↑l.length : Int))) = false by (simp; omega))
          let t2 : Tp pr := .g .row (show (lkp (List.map Bc.ce l) (↑n : Int)) = some ((Bc.mk (9 : Int) m t).ce) from hgl)
          let t4 : Tp pr := .i (show ((↑(a :: r).length : Int) : Int) = (↑r.length : Int) + (1 : Int) by simp)
          let t6 : Tp pr := .i (wrap_i64 (a := (↑r.length : Int) + (1 : Int) - (1 : Int)) (by omega) (by omega))
          let t7 : Tp pr := .i (wrap_i64 (a := (↑r.length : Int) + (1 : Int) - (1 : Int) + (1 : Int)) (by omega) (by omega))
          let t8 : Tp pr := .b (show (decide ((↑r.length : Int) + (1 : Int) - (1 : Int) + (1 : Int) > (30 : Int))) = false by (simp; omega))
          let t9 : Tp pr := .i (wrap_i64 (a := (↑n : Int) + (1 : Int)) (by omega) (by omega))
          let t11 : Tp pr := .i (wrap_i64 (a := (↑r.length : Int) + (1 : Int) - (1 : Int)) (by omega) (by omega))
          let t12 : Tp pr := .m (show (decide ((0 : Int) ≤ (↑r.length : Int) + (1 : Int) - (1 : Int) ∧ ((↑r.length : Int) + (1 : Int) - (1 : Int)).toNat < (a :: r).length)) = true by simp)
          let t13 : Tp pr := .c (show ((0 : Nat) + ((↑r.length : Int) + (1 : Int) - (1 : Int)).toNat : Nat) = r.length by omega)
          let t14 : Tp pr := .m (show (decide ((ints ((a :: r).reverse ++ jk)).length = (a :: r).length + jk.length)) = true by (simp; omega))
          let t15 : Tp pr := .g .crow (show ((ints ((a :: r).reverse ++ jk))[r.length]?) = some (intc a) from gt)
          let t16 : Tp pr := .i (wrap_i64 (a := (↑r.length : Int) + (1 : Int) - (1 : Int)) (by omega) (by omega))
          let t17 : Tp pr := .m (show (decide ((0 : Int) ≤ (0 : Int) ∧ (0 : Int) ≤ (↑r.length : Int) + (1 : Int) - (1 : Int) ∧ (0 : Nat) + ((↑r.length : Int) + (1 : Int) - (1 : Int)).toNat ≤ (a :: r).length + jk.length)) = true by (simp; omega))
          let t19 : Tp pr := .c (show (((↑r.length : Int) + (1 : Int) - (1 : Int)).toNat - (0 : Nat) : Nat) = r.length by omega)
          exact .tpe [t0, t1, t2, .a (hm), t4, .b (rfl : false = false), t6, t7, t8, t9, .b (rfl : true = true), t11, t12, t13, t14, t15, t16, t17, .c (rfl : ((0 : Nat)) = _), t19, .b (rfl : true = true)] (Out.val (V.tup [V.t (T.int IntKind.i64 (1 : Int)), V.t (T.int IntKind.i64 a)]) [Ob.box [V.vec (1 : Nat) ((a :: r).length + jk.length) (1 : Nat) (0 : Nat) (a :: r).length, V.vec (2 : Nat) (10 : Nat) (1 : Nat) (0 : Nat) (10 : Nat), V.t (T.int IntKind.i64 ((↑n : Int) + (1 : Int)))], Ob.vec true (1 : Nat) (ints ((a :: r).reverse ++ jk)), Ob.vec true (1 : Nat) (ints lo)]) (by kernel_rfl) (congrArg (fun x => Out.val (V.tup [V.t (T.int IntKind.i64 (1 : Int)), V.t (T.int IntKind.i64 x)]) [Ob.box [V.vec (1 : Nat) ((a :: r).length + jk.length) (1 : Nat) (0 : Nat) (a :: r).length, V.vec (2 : Nat) (10 : Nat) (1 : Nat) (0 : Nat) (10 : Nat), V.t (T.int IntKind.i64 ((↑n : Int) + (1 : Int)))], Ob.vec true (1 : Nat) (ints ((a :: r).reverse ++ jk)), Ob.vec true (1 : Nat) (ints lo)]) (show (a) = ((a :: r).headD (0 : Int)) by rfl))
end Go.Ev

/- Code that runs: RunBc of the reference. -/
namespace Go.Ev
set_option linter.unusedVariables false
set_option linter.unusedSimpArgs false
open Go.Proofs
set_option maxRecDepth 100000
set_option linter.unusedVariables false
set_option maxHeartbeats 1000000
attribute [local simp] e0
theorem runSL_ev (l : List Bc) (hg : goodCode l = true) (fuel : Int) (hf : 0 ≤ fuel ∧ fuel ≤ 2000) : ∀ (n : Nat) (d : Int) (lo st jk : List Int) (k : Int), d + n = fuel → 0 ≤ d → RunOk l lo st k →
    Ev pr (.loop (lq pr 91 0) (at_ [(0, bcs l), (2, i64 fuel), (9, .ptr 0 1 0 0), (10, i64 d)] (stkS lo st jk k) 0))
      (.ret (at_ [(6, i64 (runA l n d lo st jk k).1), (7, i64 (runA l n d lo st jk k).2.1), (8, i64 (runA l n d lo st jk k).2.2)] [] 0))
  | 0, d, lo, st, jk, k, h, h0, hr => by
    have e : d = fuel := by omega
    rw [show runA l 0 d lo st jk k = (4, 0, d) from rfl]
    let t0 : Tp pr := .b (show (decide (d = fuel)) = true by (simp; omega))
    exact .tp [t0] (by kernel_rfl)
  | n + 1, d, lo, st, jk, k, h, h0, hr => by
    have hs := stepS_ev l lo st jk k hg hr
    have hr2 := stepI_ok (jk := jk) hg hr
    have hne : ¬ d = fuel := by omega
    unfold runA
    unfold stepSOut at hs
    generalize stepI l lo st jk k = q at *
    obtain ⟨e, lo2, st2, jk2, k2⟩ := q
    dsimp only at hs hr2 ⊢
    by_cases h1 : e = 0
    · have ih := runSL_ev l hg fuel hf n (d + 1) lo2 st2 jk2 k2 (by omega) (by omega) hr2
      rw [if_pos h1] at hs ⊢
      subst h1
      let t0 : Tp pr := .b (show (decide (d = fuel)) = false by (simp; omega))
      let t3 : Tp pr := .i (wrap_i64 (a := d + (1 : Int)) (by omega) (by omega))
      exact .tp [t0, .a (hs), .b (rfl : false = false), t3, .a (ih)] (by kernel_rfl)
    · rw [if_neg h1] at hs ⊢
      by_cases h2 : e = 1
      · rw [if_pos h2] at hs ⊢
        subst h2
        let t0 : Tp pr := .b (show (decide (d = fuel)) = false by (simp; omega))
        let t3 : Tp pr := .i (wrap_i64 (a := d + (1 : Int)) (by omega) (by omega))
        exact .tp [t0, .a (hs), .b (rfl : true = true), t3] (by kernel_rfl)
      · rw [if_neg h2] at hs ⊢
        let t0 : Tp pr := .b (show (decide (d = fuel)) = false by (simp; omega))
        let t2 : Tp pr := .b (show (e != (0 : Int)) = true by (simp; omega))
        let t3 : Tp pr := .i (wrap_i64 (a := d + (1 : Int)) (by omega) (by omega))
        exact .tp [t0, .a (hs), t2, t3] (by kernel_rfl)
theorem l16Run_ev (l : List Bc) (lo : List Int) (fuel : Int) (hg : goodCode l = true) (hlo : lo.length = 10) (hf : 0 ≤ fuel ∧ fuel ≤ 2000) (hr : RunOk l lo [] 0) :
    Ev pr (.call 91 [bcs l, .t (.seq 1 (lo.map intt)), i64 fuel] []) (.val (.tup [i64 (runA l fuel.toNat 0 lo [] [] 0).1, i64 (runA l fuel.toNat 0 lo [] [] 0).2.1, i64 (runA l fuel.toNat 0 lo [] [] 0).2.2]) []) := by
  have hL0 := runSL_ev l hg fuel hf fuel.toNat 0 lo [] [] 0 (by omega) (by omega) hr
  have hL : Ev pr (.loop (lq pr 91 0) (at_ [(0, bcs l), (2, i64 fuel), (9, .ptr 0 1 0 0), (10, i64 0)] [.box [.vec 1 0 1 0 0, .vec 2 lo.length 1 0 lo.length, i64 0], .vec true 1 [], .vec true 1 (ints lo)] 0))
      (.ret (at_ [(6, i64 (runA l fuel.toNat 0 lo [] [] 0).1), (7, i64 (runA l fuel.toNat 0 lo [] [] 0).2.1), (8, i64 (runA l fuel.toNat 0 lo [] [] 0).2.2)] [] 0)) := by
    rw [hlo]
    exact hL0
  clear hL0
  let t0 : Tp pr := .m (show (decide ((0 : Nat) = (0 : Nat) ∧ (0 : Nat) ≤ (0 : Nat) ∧ (0 : Nat) + (List.map (fun x => List.map C.t x) (List.map intt lo)).length ≤ (4294967296 : Nat))) = true by simp [*])
  let t1 : Tp pr := .b (show (decide ((0 : Nat) + (List.map (fun x => List.map C.t x) (List.map intt lo)).length ≤ (0 : Nat))) = false by simp [*])
  let t2 : Tp pr := .c (show ((0 : Nat) + (List.map (fun x => List.map C.t x) (List.map intt lo)).length : Nat) = lo.length by simp)
  let t3 : Tp pr := .n .crows (show ([].append (List.map (fun x => List.map C.t x) (List.map intt lo))) = List.map ((fun x => List.map C.t x) ∘ intt) lo by simp)
  exact .tp [t0, t1, t2, t3, .a (hL)] (by kernel_rfl)
theorem locSL_ev (l : List Bc) (lo : List Int) (fuel : Int) (hl : lo.length ≤ 1048576) : ∀ (rest done : List Int) (i : Int), lo = done ++ rest → i = done.length →
    Ev pr (.loop (lq pr 46 0) (at_ [(0, bcs l), (1, .t (.seq 1 (lo.map intt))), (2, i64 fuel), (28, .t (.seq 1 (lo.map intt))), (29, i64 lo.length), (30, i64 i)] [] 0))
      (bif rest.all bdB then .exit 0 (at_ [(0, bcs l), (1, .t (.seq 1 (lo.map intt))), (2, i64 fuel)] [] 0) else .ret (at_ [(6, i64 0), (7, i64 0), (8, i64 0), (9, bl false)] [] 0))
  | [], done, i, h, hi => by
    have hll : (lo.length : Int) = done.length := by simp [h]
    let t0 : Tp pr := .b (show (decide (i < (↑lo.length : Int))) = false by (simp; omega))
    exact .tp [t0] (by kernel_rfl)
  | x :: rest, done, i, h, hi => by
    have hll : (lo.length : Int) = done.length + 1 + rest.length := by simp [h]; omega
    have hg : lkp (lo.map intt) i = some [T.int .i64 x] := by subst hi; subst h; simp [intt]
    have ih := locSL_ev l lo fuel hl rest (done ++ [x]) (i + 1) (by simp [h]) (by simp [hi])
    have hx := l2Bound_ev x
    rw [show (decide (x ≥ -1000000000) && decide (x ≤ 1000000000)) = bdB x from rfl] at hx
    cases hb : bdB x with
    | false =>
      rw [hb] at hx
      simp only [List.all_cons, hb, Bool.false_and]
      let t0 : Tp pr := .b (show (decide (i < (↑lo.length : Int))) = true by (simp; omega))
      let t1 : Tp pr := .g .row (show (lkp (List.map intt lo) i) = some ([T.int IntKind.i64 x]) from hg)
      exact .tp [t0, t1, .a (hx), .b (rfl : true = true)] (by kernel_rfl)
    | true =>
      rw [hb] at hx
      simp only [List.all_cons, hb, Bool.true_and]
      cases hr : rest.all bdB with
      | true => rw [hr] at ih; (
        let t0 : Tp pr := .b (show (decide (i < (↑lo.length : Int))) = true by (simp; omega))
        let t1 : Tp pr := .g .row (show (lkp (List.map intt lo) i) = some ([T.int IntKind.i64 x]) from hg)
        let t4 : Tp pr := .i (wrap_i64 (a := i + (1 : Int)) (by omega) (by omega))
        exact .tp [t0, t1, .a (hx), .b (rfl : false = false), t4, .a (ih)] (by kernel_rfl))
      | false => rw [hr] at ih; (
        let t0 : Tp pr := .b (show (decide (i < (↑lo.length : Int))) = true by (simp; omega))
        let t1 : Tp pr := .g .row (show (lkp (List.map intt lo) i) = some ([T.int IntKind.i64 x]) from hg)
        let t4 : Tp pr := .i (wrap_i64 (a := i + (1 : Int)) (by omega) (by omega))
        exact .tp [t0, t1, .a (hx), .b (rfl : false = false), t4, .a (ih)] (by kernel_rfl))
theorem RunBcS_ev (l : List Bc) (lo : List Int) (fuel : Int) (hl : l.length ≤ 1000000) (hlo : lo.length ≤ 1048576) : Ev pr (.call 46 [bcs l, .t (.seq 1 (lo.map intt)), i64 fuel] []) (match runBc l lo fuel with
    | some r => .val (.tup [i64 r.1, i64 r.2.1, i64 r.2.2, bl true]) []
    | none => .val (.tup [i64 0, i64 0, i64 0, bl false]) []) := by
  have h1 := GoodCodeS_ev l hl
  have h2 := locSL_ev l lo fuel hlo lo [] 0 rfl rfl
  unfold runBc localsOk
  cases hg : goodCode l with
  | false => rw [hg] at h1; rw [if_neg (by simp)]; exact .tp [.a (h1), .b (rfl : true = true), .b (rfl : true = true), .b (rfl : true = true)] (by kernel_rfl)
  | true =>
    rw [hg] at h1
    by_cases hlen : lo.length = 10
    · by_cases hf : 0 ≤ fuel ∧ fuel ≤ 2000
      · cases hgl : lo.all bdB with
        | false => rw [hgl] at h2; rw [if_neg (by simp)]; (
          let t2 : Tp pr := .i (show ((↑(List.map intt lo).length : Int) : Int) = (↑lo.length : Int) by simp)
          let t3 : Tp pr := .b (show ((↑lo.length : Int) != (10 : Int)) = false by (simp; omega))
          let t4 : Tp pr := .a (l1In_ev (fuel) ((0 : Int)) ((2000 : Int)))
          let t5 : Tp pr := .b (show (!(decide (fuel ≥ (0 : Int)) && decide (fuel ≤ (2000 : Int)))) = false by (simp; omega))
          let t6 : Tp pr := .i (show ((↑(List.map intt lo).length : Int) : Int) = (↑lo.length : Int) by simp)
          exact .tp [.a (h1), .b (rfl : false = false), t2, t3, t4, t5, t6, .a (h2)] (by kernel_rfl))
        | true =>
          rw [hgl] at h2
          rw [if_pos ⟨rfl, by simp [hlen], hf⟩]
          have h3 := l16Run_ev l lo fuel hg hlen hf (localsOk_ok (by simp [localsOk, hlen, hgl]))
          let t2 : Tp pr := .i (show ((↑(List.map intt lo).length : Int) : Int) = (↑lo.length : Int) by simp)
          let t3 : Tp pr := .b (show ((↑lo.length : Int) != (10 : Int)) = false by (simp; omega))
          let t4 : Tp pr := .a (l1In_ev (fuel) ((0 : Int)) ((2000 : Int)))
          let t5 : Tp pr := .b (show (!(decide (fuel ≥ (0 : Int)) && decide (fuel ≤ (2000 : Int)))) = false by (simp; omega))
          let t6 : Tp pr := .i (show ((↑(List.map intt lo).length : Int) : Int) = (↑lo.length : Int) by simp)
          exact .tp [.a (h1), .b (rfl : false = false), t2, t3, t4, t5, t6, .a (h2), .a (h3)] (by kernel_rfl)
      · rw [if_neg (fun h => hf h.2.2)]
        let t2 : Tp pr := .i (show ((↑(List.map intt lo).length : Int) : Int) = (↑lo.length : Int) by simp)
        let t3 : Tp pr := .b (show ((↑lo.length : Int) != (10 : Int)) = false by (simp; omega))
        let t4 : Tp pr := .a (l1In_ev (fuel) ((0 : Int)) ((2000 : Int)))
        let t5 : Tp pr := .b (show (!(decide (fuel ≥ (0 : Int)) && decide (fuel ≤ (2000 : Int)))) = true by (simp; omega))
        exact .tp [.a (h1), .b (rfl : false = false), t2, t3, t4, t5] (by kernel_rfl)
    · rw [if_neg (fun h => by simp [hlen] at h)]
      let t2 : Tp pr := .i (show ((↑(List.map intt lo).length : Int) : Int) = (↑lo.length : Int) by simp)
      let t3 : Tp pr := .b (show ((↑lo.length : Int) != (10 : Int)) = true by (simp; omega))
      exact .tp [.a (h1), .b (rfl : false = false), t2, t3, .b (rfl : true = true)] (by kernel_rfl)
end Go.Ev

/- Copies of heaps: rows repeated. -/
namespace Go.Ev
set_option linter.unusedVariables false
set_option linter.unusedSimpArgs false
open Go.Proofs
set_option maxRecDepth 100000
set_option linter.unusedVariables false
set_option maxHeartbeats 4000000
theorem mulE (n : Nat) (hn : n ≤ 1000) : IntKind.u64.wrap
      (IntKind.u64.wrap (0 * (n : Int).fdiv 4294967296 + (IntKind.u64.wrap ((IntKind.u64.wrap (IntKind.u64.wrap (((n.mod 18446744073709551616).land 4294967295 : Nat) : Int))).fdiv 4294967296)).fdiv 4294967296) +
        (IntKind.u64.wrap (IntKind.u64.wrap (((((IntKind.u64.wrap ((IntKind.u64.wrap (IntKind.u64.wrap (((n.mod 18446744073709551616).land 4294967295 : Nat) : Int))).fdiv 4294967296)).emod 18446744073709551616).toNat.land 4294967295 : Nat)) : Int) +
              IntKind.u64.wrap ((n : Int).fdiv 4294967296))).fdiv 4294967296) = 0 := by
  have h1 : n.mod 18446744073709551616 = n := Nat.mod_eq_of_lt (by omega)
  have h2 : n.land 4294967295 = n := by
    have := Nat.and_two_pow_sub_one_eq_mod n 32
    rw [Nat.mod_eq_of_lt (by omega)] at this
    exact this
  have h3 : (n : Int).fdiv 4294967296 = 0 := by
    rw [Int.fdiv_eq_ediv_of_nonneg _ (by omega)]
    omega
  have hw : IntKind.u64.wrap (n : Int) = n := wrap_u64 (by omega) (by omega)
  have hw0 : IntKind.u64.wrap 0 = 0 := wrap_u64 (by omega) (by omega)
  rw [h1, h2, hw, hw, h3, hw0]
  rfl
theorem mul64_ev (n : Nat) (hn : n ≤ 1000) : Ev pr (.call 127 [.t (.int .u64 1), .t (.int .u64 n)] []) (.val (.tup [.t (.int .u64 0), .t (.int .u64 n)]) []) := by
  let t0 : Tp pr := .i (rfl : ((1 : Int) : Int) = (1 : Int))
  let t2 : Tp pr := .i (rfl : ((0 : Int) : Int) = (0 : Int))
  let t3 : Tp pr := .i (show (have x := BitVec.ofInt IntKind.u64.bits (↑n : Int);
  have y := BitVec.ofInt IntKind.u64.bits (4294967295 : Int);
  match BinOp.and with
  | BinOp.and => IntKind.u64.wrap (↑(x &&& y).toNat : Int)
  | BinOp.or => IntKind.u64.wrap (↑(x ||| y).toNat : Int)
  | BinOp.xor => IntKind.u64.wrap (↑(x ^^^ y).toNat : Int)
  | x_1 => IntKind.u64.wrap (↑(x &&& ~~~y).toNat : Int) : Int) = IntKind.u64.wrap (↑(n % (2 : Nat) ^ IntKind.u64.bits &&& (4294967295 : Nat) % (2 : Nat) ^ IntKind.u64.bits) : Int) by simp)
  let t5 : Tp pr := .i (rfl : ((↑n : Int).fdiv (4294967296 : Int)) = _)
  let t6 : Tp pr := .i (rfl : (IntKind.u64.wrap ((1 : Int) * IntKind.u64.wrap (↑((n.mod (18446744073709551616 : Nat)).land (4294967295 : Nat)) : Int))) = _)
  let t7 : Tp pr := .i (wrap_u64 (a := (0 : Int) * IntKind.u64.wrap (↑((n.mod (18446744073709551616 : Nat)).land (4294967295 : Nat)) : Int)) (by omega) (by omega))
  let t9 : Tp pr := .i (show ((IntKind.u64.wrap ((1 : Int) * IntKind.u64.wrap (↑((n.mod (18446744073709551616 : Nat)).land (4294967295 : Nat)) : Int))).fdiv (4294967296 : Int) : Int) = (IntKind.u64.wrap (IntKind.u64.wrap (↑(n.mod (18446744073709551616 : Nat) &&& (4294967295 : Nat)) : Int))).fdiv (4294967296 : Int) by simp)
  let t10 : Tp pr := .i (rfl : (IntKind.u64.wrap ((0 : Int) * IntKind.u64.wrap (↑((n.mod (18446744073709551616 : Nat)).land (4294967295 : Nat)) : Int) + (IntKind.u64.wrap (IntKind.u64.wrap (↑((n.mod (18446744073709551616 : Nat)).land (4294967295 : Nat)) : Int))).fdiv (4294967296 : Int))) = _)
  let t11 : Tp pr := .i (show (have x := BitVec.ofInt IntKind.u64.bits (IntKind.u64.wrap ((0 : Int) * IntKind.u64.wrap (↑((n.mod (18446744073709551616 : Nat)).land (4294967295 : Nat)) : Int) + (IntKind.u64.wrap (IntKind.u64.wrap (↑((n.mod (18446744073709551616 : Nat)).land (4294967295 : Nat)) : Int))).fdiv (4294967296 : Int)));
  have y := BitVec.ofInt IntKind.u64.bits (4294967295 : Int);
  match BinOp.and with
  | BinOp.and => IntKind.u64.wrap (↑(x &&& y).toNat : Int)
  | BinOp.or => IntKind.u64.wrap (↑(x ||| y).toNat : Int)
  | BinOp.xor => IntKind.u64.wrap (↑(x ^^^ y).toNat : Int)
  | x_1 => IntKind.u64.wrap (↑(x &&& ~~~y).toNat : Int) : Int) = IntKind.u64.wrap (↑((IntKind.u64.wrap ((IntKind.u64.wrap (IntKind.u64.wrap (↑(n.mod (18446744073709551616 : Nat) &&& (4294967295 : Nat)) : Int))).fdiv (4294967296 : Int)) % (2 : Int) ^ IntKind.u64.bits).toNat &&& (4294967295 : Nat) % (2 : Nat) ^ IntKind.u64.bits) : Int) by simp)
  let t13 : Tp pr := .i (show ((IntKind.u64.wrap ((0 : Int) * IntKind.u64.wrap (↑((n.mod (18446744073709551616 : Nat)).land (4294967295 : Nat)) : Int) + (IntKind.u64.wrap (IntKind.u64.wrap (↑((n.mod (18446744073709551616 : Nat)).land (4294967295 : Nat)) : Int))).fdiv (4294967296 : Int))).fdiv (4294967296 : Int) : Int) = (IntKind.u64.wrap ((IntKind.u64.wrap (IntKind.u64.wrap (↑(n.mod (18446744073709551616 : Nat) &&& (4294967295 : Nat)) : Int))).fdiv (4294967296 : Int))).fdiv (4294967296 : Int) by simp)
  let t14 : Tp pr := .i (rfl : (IntKind.u64.wrap ((1 : Int) * (↑n : Int).fdiv (4294967296 : Int))) = _)
  let t15 : Tp pr := .i (rfl : (IntKind.u64.wrap (IntKind.u64.wrap (↑(((IntKind.u64.wrap ((IntKind.u64.wrap (IntKind.u64.wrap (↑((n.mod (18446744073709551616 : Nat)).land (4294967295 : Nat)) : Int))).fdiv (4294967296 : Int))).emod (18446744073709551616 : Int)).toNat.land (4294967295 : Nat)) : Int) + IntKind.u64.wrap ((1 : Int) * (↑n : Int).fdiv (4294967296 : Int)))) = _)
  let t16 : Tp pr := .i (wrap_u64 (a := (0 : Int) * (↑n : Int).fdiv (4294967296 : Int)) (by omega) (by omega))
  let t17 : Tp pr := .i (rfl : (IntKind.u64.wrap ((0 : Int) * (↑n : Int).fdiv (4294967296 : Int) + (IntKind.u64.wrap ((IntKind.u64.wrap (IntKind.u64.wrap (↑((n.mod (18446744073709551616 : Nat)).land (4294967295 : Nat)) : Int))).fdiv (4294967296 : Int))).fdiv (4294967296 : Int))) = _)
  let t19 : Tp pr := .i (show ((IntKind.u64.wrap (IntKind.u64.wrap (↑(((IntKind.u64.wrap ((IntKind.u64.wrap (IntKind.u64.wrap (↑((n.mod (18446744073709551616 : Nat)).land (4294967295 : Nat)) : Int))).fdiv (4294967296 : Int))).emod (18446744073709551616 : Int)).toNat.land (4294967295 : Nat)) : Int) + IntKind.u64.wrap ((1 : Int) * (↑n : Int).fdiv (4294967296 : Int)))).fdiv (4294967296 : Int) : Int) = (IntKind.u64.wrap (IntKind.u64.wrap (↑(((IntKind.u64.wrap ((IntKind.u64.wrap (IntKind.u64.wrap (↑(n.mod (18446744073709551616 : Nat) &&& (4294967295 : Nat)) : Int))).fdiv (4294967296 : Int))).emod (18446744073709551616 : Int)).toNat &&& (4294967295 : Nat)) : Int) + IntKind.u64.wrap ((↑n : Int).fdiv (4294967296 : Int)))).fdiv (4294967296 : Int) by simp)
  let t20 : Tp pr := .i (rfl : (IntKind.u64.wrap (IntKind.u64.wrap ((0 : Int) * (↑n : Int).fdiv (4294967296 : Int) + (IntKind.u64.wrap ((IntKind.u64.wrap (IntKind.u64.wrap (↑((n.mod (18446744073709551616 : Nat)).land (4294967295 : Nat)) : Int))).fdiv (4294967296 : Int))).fdiv (4294967296 : Int)) + (IntKind.u64.wrap (IntKind.u64.wrap (↑(((IntKind.u64.wrap ((IntKind.u64.wrap (IntKind.u64.wrap (↑((n.mod (18446744073709551616 : Nat)).land (4294967295 : Nat)) : Int))).fdiv (4294967296 : Int))).emod (18446744073709551616 : Int)).toNat.land (4294967295 : Nat)) : Int) + IntKind.u64.wrap ((↑n : Int).fdiv (4294967296 : Int)))).fdiv (4294967296 : Int))) = _)
  let t21 : Tp pr := .i (wrap_u64 (a := (1 : Int) * (↑n : Int)) (by omega) (by omega))
  exact .tpe [t0, .m (rfl : true = true), t2, t3, .m (rfl : true = true), t5, t6, t7, .m (rfl : true = true), t9, t10, t11, .m (rfl : true = true), t13, t14, t15, t16, t17, .m (rfl : true = true), t19, t20, t21] (Out.val (V.tup [V.t (T.int IntKind.u64 (IntKind.u64.wrap (IntKind.u64.wrap ((0 : Int) * (↑n : Int).fdiv (4294967296 : Int) + (IntKind.u64.wrap ((IntKind.u64.wrap (IntKind.u64.wrap (↑((n.mod (18446744073709551616 : Nat)).land (4294967295 : Nat)) : Int))).fdiv (4294967296 : Int))).fdiv (4294967296 : Int)) + (IntKind.u64.wrap (IntKind.u64.wrap (↑(((IntKind.u64.wrap ((IntKind.u64.wrap (IntKind.u64.wrap (↑((n.mod (18446744073709551616 : Nat)).land (4294967295 : Nat)) : Int))).fdiv (4294967296 : Int))).emod (18446744073709551616 : Int)).toNat.land (4294967295 : Nat)) : Int) + IntKind.u64.wrap ((↑n : Int).fdiv (4294967296 : Int)))).fdiv (4294967296 : Int)))), V.t (T.int IntKind.u64 ((1 : Int) * (↑n : Int)))]) []) (by kernel_rfl) ((congrArg (fun x => Out.val (V.tup [V.t (T.int IntKind.u64 x), V.t (T.int IntKind.u64 ((1 : Int) * (↑n : Int)))]) []) (show (IntKind.u64.wrap (IntKind.u64.wrap ((0 : Int) * (↑n : Int).fdiv (4294967296 : Int) + (IntKind.u64.wrap ((IntKind.u64.wrap (IntKind.u64.wrap (↑((n.mod (18446744073709551616 : Nat)).land (4294967295 : Nat)) : Int))).fdiv (4294967296 : Int))).fdiv (4294967296 : Int)) + (IntKind.u64.wrap (IntKind.u64.wrap (↑(((IntKind.u64.wrap ((IntKind.u64.wrap (IntKind.u64.wrap (↑((n.mod (18446744073709551616 : Nat)).land (4294967295 : Nat)) : Int))).fdiv (4294967296 : Int))).emod (18446744073709551616 : Int)).toNat.land (4294967295 : Nat)) : Int) + IntKind.u64.wrap ((↑n : Int).fdiv (4294967296 : Int)))).fdiv (4294967296 : Int))) = ((0 : Int)) by first | exact mulE n hn | simp)).trans (congrArg (fun x => Out.val (V.tup [V.t (T.int IntKind.u64 (0 : Int)), V.t (T.int IntKind.u64 x)]) []) (show ((1 : Int) * (↑n : Int)) = ((↑n : Int)) by first | exact mulE n hn | simp)))
theorem mul_ev (n : Nat) (h : n ≤ 1000) : Ev pr (.call 116 [.t (.int .u64 1), .t (.int .u64 n)] []) (.val (.tup [.t (.int .u64 0), .t (.int .u64 n)]) []) := by
  have := mul64_ev n h
  exact .tp [.b (rfl : false = false), .a (this)] (by kernel_rfl)
theorem rep_take {m k n : Nat} (hk : k ≤ m) : List.take k (ints (List.replicate m (-1) ++ List.replicate n 0)) = ints (List.replicate k (-1)) := by
  rw [ints, ← List.map_take, List.take_append_of_le_length (by simpa using hk), List.take_replicate, Nat.min_eq_left hk]
  rfl
theorem rep_drop {m k n : Nat} : List.drop (m + k) (ints (List.replicate m (-1) ++ List.replicate n 0)) = ints (List.replicate (n - k) 0) := by
  rw [ints, ← List.map_drop, List.drop_append, List.drop_of_length_le (by simp), List.drop_replicate]
  simp [ints]
theorem rep_step {m k n : Nat} (hk : k ≤ m) (h : k ≤ n - m) (hm : m ≤ n) : List.take m (ints (List.replicate m (-1) ++ List.replicate (n - m) 0)) ++ (List.take k (ints (List.replicate m (-1) ++ List.replicate (n - m) 0)) ++ List.drop (m + k) (ints (List.replicate m (-1) ++ List.replicate (n - m) 0))) =
    ints (List.replicate (m + k) (-1) ++ List.replicate (n - (m + k)) 0) := by
  rw [rep_take (Nat.le_refl m), rep_take hk, rep_drop, ← ints_app, ← ints_app, ← List.append_assoc, List.replicate_append_replicate, Nat.sub_sub]
theorem repL_ev (n : Nat) (hn : n ≤ 1000) : ∀ (q m : Nat), n - m ≤ q → 1 ≤ m → m ≤ n →
    Ev pr (.loop (lq pr 96 0) (at_ [(7, .vec 0 n 1 0 n), (8, i64 m)] [.vec true 1 (ints (List.replicate m (-1) ++ List.replicate (n - m) 0))] 0))
      (.exit 0 (at_ [(7, .vec 0 n 1 0 n)] [.vec true 1 (ints (List.replicate n (-1)))] 0))
  | 0, m, hq, h1, hm => by
    have e : n = m := by omega
    subst e
    rw [show List.replicate (n - n) (0 : Int) = [] by simp]
    let t1 : Tp pr := .b (show (decide ((↑n : Int) < (↑n : Int))) = false by simp)
    exact .tpe [.i (rfl : ((↑n : Int)) = _), t1] (Out.exit (0 : Nat) (at_ [((7 : Nat), V.vec (0 : Nat) n (1 : Nat) (0 : Nat) n)] [Ob.vec true (1 : Nat) (ints (List.replicate n (-1 : Int) ++ []))] (0 : Nat))) (by kernel_rfl) (congrArg (fun x => Out.exit (0 : Nat) (at_ [((7 : Nat), V.vec (0 : Nat) n (1 : Nat) (0 : Nat) n)] [Ob.vec true (1 : Nat) x] (0 : Nat))) (show (ints (List.replicate n (-1 : Int) ++ [])) = (ints (List.replicate n (-1 : Int))) by simp))
  | q + 1, m, hq, h1, hm => by
    by_cases he : n = m
    · subst he
      rw [show List.replicate (n - n) (0 : Int) = [] by simp]
      let t1 : Tp pr := .b (show (decide ((↑n : Int) < (↑n : Int))) = false by simp)
      exact .tpe [.i (rfl : ((↑n : Int)) = _), t1] (Out.exit (0 : Nat) (at_ [((7 : Nat), V.vec (0 : Nat) n (1 : Nat) (0 : Nat) n)] [Ob.vec true (1 : Nat) (ints (List.replicate n (-1 : Int) ++ []))] (0 : Nat))) (by kernel_rfl) (congrArg (fun x => Out.exit (0 : Nat) (at_ [((7 : Nat), V.vec (0 : Nat) n (1 : Nat) (0 : Nat) n)] [Ob.vec true (1 : Nat) x] (0 : Nat))) (show (ints (List.replicate n (-1 : Int) ++ [])) = (ints (List.replicate n (-1 : Int))) by simp))
    · by_cases hh : m ≤ n - m
      · have ih := repL_ev n hn q (m + m) (by omega) (by omega) (by omega)
        rw [← rep_step (Nat.le_refl m) hh hm] at ih
        let t1 : Tp pr := .b (show (decide ((↑m : Int) < (↑n : Int))) = true by (simp; omega))
        let t5 : Tp pr := .m (show (decide ((0 : Int) ≤ (↑m : Int) ∧ (↑m : Int) ≤ (↑n : Int) ∧ (0 : Nat) + (↑n : Int).toNat ≤ n)) = true by simp [*])
        let t6 : Tp pr := .c (show ((0 : Nat) + (↑m : Int).toNat : Nat) = m by omega)
        let t7 : Tp pr := .c (show ((↑n : Int).toNat - (↑m : Int).toNat : Nat) = n - m by omega)
        let t11 : Tp pr := .m (show (decide ((0 : Int) ≤ (0 : Int) ∧ (0 : Int) ≤ (↑m : Int) ∧ (0 : Nat) + (↑m : Int).toNat ≤ n)) = true by simp [*])
        let t13 : Tp pr := .c (show ((↑m : Int).toNat - (0 : Nat) : Nat) = m by omega)
        let t15 : Tp pr := .b (show (decide (m ≤ n - m)) = true by (simp; omega))
        let t16 : Tp pr := .m (show (decide ((ints (List.replicate m (-1 : Int) ++ List.replicate (n - m) (0 : Int))).length = n ∧ (0 : Nat) + m ≤ n)) = true by simp [*])
        let t17 : Tp pr := .m (show (decide ((ints (List.replicate m (-1 : Int) ++ List.replicate (n - m) (0 : Int))).length = n ∧ m + (n - m) ≤ n ∧ (List.take m (List.drop (0 : Nat) (ints (List.replicate m (-1 : Int) ++ List.replicate (n - m) (0 : Int))))).length ≤ n - m)) = true by simp [*])
        let t18 : Tp pr := .c (show ((List.take m (List.drop (0 : Nat) (ints (List.replicate m (-1 : Int) ++ List.replicate (n - m) (0 : Int))))).length : Nat) = m by simp)
        let t19 : Tp pr := .n .crows (show (((List.take m (ints (List.replicate m (-1 : Int) ++ List.replicate (n - m) (0 : Int)))).append (List.take m (List.drop (0 : Nat) (ints (List.replicate m (-1 : Int) ++ List.replicate (n - m) (0 : Int)))))).append (List.drop (m + (List.take m (List.drop (0 : Nat) (ints (List.replicate m (-1 : Int) ++ List.replicate (n - m) (0 : Int))))).length) (ints (List.replicate m (-1 : Int) ++ List.replicate (n - m) (0 : Int))))) = List.take m (ints (List.replicate m (-1 : Int) ++ List.replicate (n - m) (0 : Int))) ++ (List.take m (ints (List.replicate m (-1 : Int) ++ List.replicate (n - m) (0 : Int))) ++ List.drop (m + m) (ints (List.replicate m (-1 : Int) ++ List.replicate (n - m) (0 : Int)))) by simp)
        let t21 : Tp pr := .i (wrap_i64 (a := (↑m : Int) + (↑m : Int)) (by omega) (by omega))
        exact .tp [.i (rfl : ((↑n : Int)) = _), t1, .m (rfl : true = true), .m (rfl : true = true), .m (rfl : true = true), t5, t6, t7, .m (rfl : true = true), .m (rfl : true = true), .m (rfl : true = true), t11, .c (rfl : ((0 : Nat)) = _), t13, .m (rfl : true = true), t15, t16, t17, t18, t19, .m (rfl : true = true), t21, .m (rfl : true = true), .m (rfl : true = true), .a (ih)] (by kernel_rfl)
      · have ih := repL_ev n hn q (m + (n - m)) (by omega) (by omega) (by omega)
        rw [← rep_step (k := n - m) (by omega) (Nat.le_refl _) hm] at ih
        let t1 : Tp pr := .b (show (decide ((↑m : Int) < (↑n : Int))) = true by (simp; omega))
        let t5 : Tp pr := .m (show (decide ((0 : Int) ≤ (↑m : Int) ∧ (↑m : Int) ≤ (↑n : Int) ∧ (0 : Nat) + (↑n : Int).toNat ≤ n)) = true by simp [*])
        let t6 : Tp pr := .c (show ((0 : Nat) + (↑m : Int).toNat : Nat) = m by omega)
        let t7 : Tp pr := .c (show ((↑n : Int).toNat - (↑m : Int).toNat : Nat) = n - m by omega)
        let t11 : Tp pr := .m (show (decide ((0 : Int) ≤ (0 : Int) ∧ (0 : Int) ≤ (↑m : Int) ∧ (0 : Nat) + (↑m : Int).toNat ≤ n)) = true by simp [*])
        let t13 : Tp pr := .c (show ((↑m : Int).toNat - (0 : Nat) : Nat) = m by omega)
        let t15 : Tp pr := .b (show (decide (m ≤ n - m)) = false by (simp; omega))
        let t16 : Tp pr := .m (show (decide ((ints (List.replicate m (-1 : Int) ++ List.replicate (n - m) (0 : Int))).length = n ∧ (0 : Nat) + (n - m) ≤ n)) = true by simp [*])
        let t17 : Tp pr := .m (show (decide ((ints (List.replicate m (-1 : Int) ++ List.replicate (n - m) (0 : Int))).length = n ∧ m + (n - m) ≤ n ∧ (List.take (n - m) (List.drop (0 : Nat) (ints (List.replicate m (-1 : Int) ++ List.replicate (n - m) (0 : Int))))).length ≤ n - m)) = true by simp [*])
        let t18 : Tp pr := .c (show ((List.take (n - m) (List.drop (0 : Nat) (ints (List.replicate m (-1 : Int) ++ List.replicate (n - m) (0 : Int))))).length : Nat) = n - m by simp)
        let t19 : Tp pr := .n .crows (show (((List.take m (ints (List.replicate m (-1 : Int) ++ List.replicate (n - m) (0 : Int)))).append (List.take (n - m) (List.drop (0 : Nat) (ints (List.replicate m (-1 : Int) ++ List.replicate (n - m) (0 : Int)))))).append (List.drop (m + (List.take (n - m) (List.drop (0 : Nat) (ints (List.replicate m (-1 : Int) ++ List.replicate (n - m) (0 : Int))))).length) (ints (List.replicate m (-1 : Int) ++ List.replicate (n - m) (0 : Int))))) = List.take m (ints (List.replicate m (-1 : Int) ++ List.replicate (n - m) (0 : Int))) ++ (List.take (n - m) (ints (List.replicate m (-1 : Int) ++ List.replicate (n - m) (0 : Int))) ++ List.drop (m + (n - m)) (ints (List.replicate m (-1 : Int) ++ List.replicate (n - m) (0 : Int)))) by simp)
        let t21 : Tp pr := .i (wrap_i64 (a := (↑m : Int) + (↑(n - m) : Int)) (by omega) (by omega))
        exact .tp [.i (rfl : ((↑n : Int)) = _), t1, .m (rfl : true = true), .m (rfl : true = true), .m (rfl : true = true), t5, t6, t7, .m (rfl : true = true), .m (rfl : true = true), .m (rfl : true = true), t11, .c (rfl : ((0 : Nat)) = _), t13, .m (rfl : true = true), t15, t16, t17, t18, t19, .m (rfl : true = true), t21, .m (rfl : true = true), .m (rfl : true = true), .a (ih)] (by kernel_rfl)
theorem repeat_ev (n : Nat) (h : n ≤ 1000) : Ev pr (.call 96 [isq [-1], i64 n] []) (.val (.vec 0 n 1 0 n) [.vec true 1 (ints (List.replicate n (-1)))]) := by
  have hm := mul_ev n h
  by_cases h0 : n = 0
  · subst h0
    have hL : Ev pr (.loop (lq pr 96 0) (at_ [(7, .vec 0 0 1 0 0), (8, i64 0)] [.vec true 1 []] 0)) (.exit 0 (at_ [(7, .vec 0 0 1 0 0)] [.vec true 1 []] 0)) := by
      let t0 : Tp pr := .i (rfl : ((0 : Int) : Int) = (0 : Int))
      exact .tp [t0, .b (rfl : false = false)] (by kernel_rfl)
    let t1 : Tp pr := .i (rfl : ((1 : Int) : Int) = (1 : Int))
    let t2 : Tp pr := .i (rfl : ((1 : Int) : Int) = (1 : Int))
    let t3 : Tp pr := .i (rfl : ((0 : Int) : Int) = (0 : Int))
    let t7 : Tp pr := .i (rfl : ((0 : Int) : Int) = (0 : Int))
    exact .tp [.b (rfl : false = false), t1, t2, t3, .a (hm), .b (rfl : false = false), .b (rfl : false = false), t7, .m (rfl : true = true), .c (rfl : ((0 : Nat)) = _), .n .crows (rfl : ([]) = _), .b (rfl : false = false), .m (rfl : true = true), .c (rfl : ((0 : Nat)) = _), .n .crows (rfl : ([]) = _), .a (hL)] (by kernel_rfl)
  · have h1 : 1 ≤ n := by omega
    have hL := repL_ev n h n 1 (by omega) (by omega) h1
    rw [show ints (List.replicate 1 (-1) ++ List.replicate (n - 1) 0) = [C.t (.int .i64 (-1))] :: List.replicate (n - 1) [C.t (.int .i64 0)] by simp [ints, intc]] at hL
    let t1 : Tp pr := .i (rfl : ((1 : Int) : Int) = (1 : Int))
    let t2 : Tp pr := .i (rfl : ((1 : Int) : Int) = (1 : Int))
    let t3 : Tp pr := .i (wrap_u64 (a := (↑n : Int)) (by omega) (by omega))
    let t6 : Tp pr := .b (show (decide ((↑n : Int) > (9223372036854775807 : Int))) = false by (simp; omega))
    let t7 : Tp pr := .i (wrap_i64 (a := (↑n : Int)) (by omega) (by omega))
    let t8 : Tp pr := .m (show (decide ((0 : Int) ≤ (↑n : Int) ∧ (↑n : Int) ≤ (↑n : Int) ∧ (↑n : Int) ≤ (4294967296 : Int))) = true by (simp; omega))
    let t9 : Tp pr := .c (show ((↑n : Int).toNat : Nat) = n by omega)
    let t10 : Tp pr := .n .crows (rfl : (List.replicate n [C.t (T.int IntKind.i64 (0 : Int))]) = _)
    let t11 : Tp pr := .b (show (decide ((1 : Nat) ≤ n)) = true by (simp; omega))
    let t12 : Tp pr := .m (show (decide ((List.replicate n [C.t (T.int IntKind.i64 (0 : Int))]).length = n ∧ (0 : Nat) + n ≤ n ∧ (1 : Nat) ≤ n)) = true by simp [*])
    let t14 : Tp pr := .n .crows (show (([].append (List.map (fun x => List.map C.t x) (List.map intt [(-1 : Int)]))).append (List.drop (1 : Nat) (List.replicate n [C.t (T.int IntKind.i64 (0 : Int))]))) = List.map C.t (intt (-1 : Int)) :: List.replicate (n - (1 : Nat)) [C.t (T.int IntKind.i64 (0 : Int))] by simp)
    exact .tp [.b (rfl : false = false), t1, t2, t3, .a (hm), .b (rfl : false = false), t6, t7, t8, t9, t10, t11, t12, .c (rfl : ((1 : Nat)) = _), t14, .a (hL)] (by kernel_rfl)
end Go.Ev

/- What is drawn from bytes: next, pick, one, among. -/
namespace Go.Ev
set_option linter.unusedVariables false
set_option linter.unusedSimpArgs false
open Go.Proofs
set_option maxRecDepth 100000
set_option linter.unusedVariables false
set_option maxHeartbeats 2000000
attribute [local simp] vA_simp
theorem nextA_ev (A B : List Int) (b s : Int) (hb : 0 ≤ b ∧ b ≤ 255) (ha : A.length ≤ 50000000) (hlb : (A ++ b :: B).length ≤ 9223372036854775807) :
    Ev pr (.call 115 [.ptr 0 1 0 0] [cuB (A ++ b :: B) A.length s]) (.val (i64 b) [cuB (A ++ b :: B) (A.length + 1) (sdN s b)]) := by
  have hg : lkp ((A ++ b :: B).map u8t) (A.length : Int) = some [T.int .u8 b] := by simp [u8t]
  have hl : ((A ++ b :: B).length : Int) = A.length + 1 + B.length := by simp; omega
  have hl2 : (A ++ b :: B).length = A.length + 1 + B.length := by simp; omega
  have w := wrap_i64 (a := b) (by omega) (by omega)
  unfold cuB sdN
  let t8 : Tp pr := .i (show ((↑(List.map u8t (A ++ b :: B)).length : Int) : Int) = (↑A.length : Int) + ((↑B.length : Int) + (1 : Int)) by simp)
  let t11 : Tp pr := .b (show (decide ((↑A.length : Int) < (↑A.length : Int) + ((↑B.length : Int) + (1 : Int)))) = true by (simp; omega))
  let t20 : Tp pr := .g .row (show (lkp (List.map u8t (A ++ b :: B)) (↑A.length : Int)) = some ([T.int IntKind.u8 b]) from hg)
  let t23 : Tp pr := .i (wrap_i64 (a := b) (by omega) (by omega))
  let t26 : Tp pr := .i (wrap_i64 (a := (↑A.length : Int) + (1 : Int)) (by omega) (by omega))
  let t27 : Tp pr := .i (rfl : (IntKind.u64.wrap (s * (6364136223846793005 : Int))) = _)
  let t28 : Tp pr := .i (wrap_u64 (a := b) (by omega) (by omega))
  let t29 : Tp pr := .i (rfl : (IntKind.u64.wrap (IntKind.u64.wrap (s * (6364136223846793005 : Int)) + b)) = _)
  let t30 : Tp pr := .i (rfl : (IntKind.u64.wrap (IntKind.u64.wrap (IntKind.u64.wrap (s * (6364136223846793005 : Int)) + b) + (1442695040888963407 : Int))) = _)
  let t39 : Tp pr := .i (show ((↑(List.map u8t (A ++ b :: B)).length : Int) : Int) = (↑A.length : Int) + ((↑B.length : Int) + (1 : Int)) by simp)
  let t42 : Tp pr := .b (show (decide ((↑A.length : Int) + (1 : Int) ≤ (↑A.length : Int) + ((↑B.length : Int) + (1 : Int)))) = true by (simp; omega))
  exact .tp [.m (rfl : true = true), .m (rfl : true = true), .m (rfl : true = true), .m (rfl : true = true), .m (rfl : true = true), .m (rfl : true = true), .m (rfl : true = true), .m (rfl : true = true), t8, .m (rfl : true = true), .m (rfl : true = true), t11, .m (rfl : true = true), .m (rfl : true = true), .m (rfl : true = true), .m (rfl : true = true), .m (rfl : true = true), .m (rfl : true = true), .m (rfl : true = true), .m (rfl : true = true), t20, .m (rfl : true = true), .m (rfl : true = true), t23, .m (rfl : true = true), .m (rfl : true = true), t26, t27, t28, t29, t30, .m (rfl : true = true), .m (rfl : true = true), .m (rfl : true = true), .m (rfl : true = true), .m (rfl : true = true), .m (rfl : true = true), .m (rfl : true = true), .m (rfl : true = true), t39, .m (rfl : true = true), .m (rfl : true = true), t42] (by kernel_rfl)
theorem nextB_ev (bs : List Int) (a s : Int) (h0 : (bs.length : Int) ≤ a) (ha : a ≤ 100000000) :
    Ev pr (.call 115 [.ptr 0 1 0 0] [cuB bs a s]) (.val (i64 (vvN (sdN s 0))) [cuB bs (a + 1) (sdN s 0)]) := by
  have hv := vvN_bd (sdN s 0)
  unfold cuB
  unfold vvN at *
  unfold sdN at *
  rw [Int.add_zero] at hv ⊢
  let t8 : Tp pr := .i (show ((↑(List.map u8t bs).length : Int) : Int) = (↑bs.length : Int) by simp)
  let t11 : Tp pr := .b (show (decide (a < (↑bs.length : Int))) = false by (simp; omega))
  let t12 : Tp pr := .i (wrap_i64 (a := a + (1 : Int)) (by omega) (by omega))
  let t13 : Tp pr := .i (rfl : (IntKind.u64.wrap (s * (6364136223846793005 : Int))) = _)
  let t14 : Tp pr := .i (rfl : ((0 : Int) : Int) = (0 : Int))
  let t15 : Tp pr := .i (rfl : (IntKind.u64.wrap (IntKind.u64.wrap (s * (6364136223846793005 : Int)) + (0 : Int))) = _)
  let t16 : Tp pr := .i (rfl : (IntKind.u64.wrap (IntKind.u64.wrap (IntKind.u64.wrap (s * (6364136223846793005 : Int)) + (0 : Int)) + (1442695040888963407 : Int))) = _)
  let t25 : Tp pr := .i (show ((↑(List.map u8t bs).length : Int) : Int) = (↑bs.length : Int) by simp)
  let t28 : Tp pr := .b (show (decide (a + (1 : Int) ≤ (↑bs.length : Int))) = false by (simp; omega))
  let t30 : Tp pr := .i (show ((IntKind.u64.wrap (IntKind.u64.wrap (IntKind.u64.wrap (s * (6364136223846793005 : Int)) + (0 : Int)) + (1442695040888963407 : Int))).fdiv (1099511627776 : Int) : Int) = (IntKind.u64.wrap (IntKind.u64.wrap (IntKind.u64.wrap (s * (6364136223846793005 : Int))) + (1442695040888963407 : Int))).fdiv (1099511627776 : Int) by simp)
  let t31 : Tp pr := .i (show (have x := BitVec.ofInt IntKind.u64.bits ((IntKind.u64.wrap (IntKind.u64.wrap (IntKind.u64.wrap (s * (6364136223846793005 : Int))) + (1442695040888963407 : Int))).fdiv (1099511627776 : Int));
  have y := BitVec.ofInt IntKind.u64.bits (255 : Int);
  match BinOp.and with
  | BinOp.and => IntKind.u64.wrap (↑(x &&& y).toNat : Int)
  | BinOp.or => IntKind.u64.wrap (↑(x ||| y).toNat : Int)
  | BinOp.xor => IntKind.u64.wrap (↑(x ^^^ y).toNat : Int)
  | x_1 => IntKind.u64.wrap (↑(x &&& ~~~y).toNat : Int) : Int) = vA ((IntKind.u64.wrap (IntKind.u64.wrap (IntKind.u64.wrap (s * (6364136223846793005 : Int))) + (1442695040888963407 : Int))).fdiv (1099511627776 : Int)) by simp)
  let t32 : Tp pr := .i (wrap_i64 (a := vA ((IntKind.u64.wrap (IntKind.u64.wrap (IntKind.u64.wrap (s * (6364136223846793005 : Int))) + (1442695040888963407 : Int))).fdiv (1099511627776 : Int))) (by omega) (by omega))
  exact .tpe [.m (rfl : true = true), .m (rfl : true = true), .m (rfl : true = true), .m (rfl : true = true), .m (rfl : true = true), .m (rfl : true = true), .m (rfl : true = true), .m (rfl : true = true), t8, .m (rfl : true = true), .m (rfl : true = true), t11, t12, t13, t14, t15, t16, .m (rfl : true = true), .m (rfl : true = true), .m (rfl : true = true), .m (rfl : true = true), .m (rfl : true = true), .m (rfl : true = true), .m (rfl : true = true), .m (rfl : true = true), t25, .m (rfl : true = true), .m (rfl : true = true), t28, .m (rfl : true = true), t30, t31, t32] (Out.val (V.t (T.int IntKind.i64 (vA ((IntKind.u64.wrap (IntKind.u64.wrap (IntKind.u64.wrap (s * (6364136223846793005 : Int))) + (1442695040888963407 : Int))).fdiv (1099511627776 : Int))))) [Ob.box [V.t (T.seq (1 : Nat) (List.map u8t bs)), V.t (T.int IntKind.i64 (a + (1 : Int))), V.t (T.int IntKind.u64 (IntKind.u64.wrap (IntKind.u64.wrap (IntKind.u64.wrap (s * (6364136223846793005 : Int)) + (0 : Int)) + (1442695040888963407 : Int))))]]) (by kernel_rfl) (congrArg (fun x => Out.val (V.t (T.int IntKind.i64 (vA ((IntKind.u64.wrap (IntKind.u64.wrap (IntKind.u64.wrap (s * (6364136223846793005 : Int))) + (1442695040888963407 : Int))).fdiv (1099511627776 : Int))))) [Ob.box [V.t (T.seq (1 : Nat) (List.map u8t bs)), V.t (T.int IntKind.i64 (a + (1 : Int))), V.t (T.int IntKind.u64 x)]]) (show (IntKind.u64.wrap (IntKind.u64.wrap (IntKind.u64.wrap (s * (6364136223846793005 : Int)) + (0 : Int)) + (1442695040888963407 : Int))) = (IntKind.u64.wrap (IntKind.u64.wrap (IntKind.u64.wrap (s * (6364136223846793005 : Int))) + (1442695040888963407 : Int))) by simp))
end Go.Ev

/- What is drawn from bytes: that it ends, and in which bounds. -/
namespace Go.Ev
set_option linter.unusedVariables false
set_option linter.unusedSimpArgs false
open Go.Proofs
set_option maxRecDepth 100000
set_option linter.unusedVariables false
set_option maxHeartbeats 2000000
def okB (bs : List Int) : Prop := bs.length ≤ 9223372036854775807 ∧ ∀ b ∈ bs, 0 ≤ b ∧ b ≤ 255
theorem next_ex (bs : List Int) (hb : okB bs) (a s : Int) (h0 : 0 ≤ a) (ha : a ≤ 50000000) :
    ∃ v s' : Int, (0 ≤ v ∧ v ≤ 255) ∧ Ev pr (.call 115 [.ptr 0 1 0 0] [cuB bs a s]) (.val (i64 v) [cuB bs (a + 1) s']) := by
  by_cases h : a < bs.length
  · have hn : a.toNat < bs.length := by omega
    have e : bs = bs.take a.toNat ++ bs[a.toNat] :: bs.drop (a.toNat + 1) := by
      rw [← List.drop_eq_getElem_cons hn, List.take_append_drop]
    have hl : (bs.take a.toNat).length = a.toNat := by simp; omega
    have hm := hb.2 _ (List.getElem_mem hn)
    generalize bs[a.toNat] = b at e hm
    have hlen := hb.1
    generalize bs.take a.toNat = A at e hl
    generalize bs.drop (a.toNat + 1) = B at e
    have hA : a = A.length := by omega
    subst e
    rw [hA]
    exact ⟨b, sdN s b, hm, nextA_ev A B b s hm (by omega) hlen⟩
  · exact ⟨vvN (sdN s 0), sdN s 0, vvN_bd _, nextB_ev bs a s (by omega) (by omega)⟩
theorem pick_ex (bs : List Int) (hb : okB bs) (a s : Int) (h0 : 0 ≤ a) (ha : a ≤ 50000000) (n : Int) (hn : n ≤ 200) :
    ∃ v a' s' : Int, (0 ≤ v ∧ (v < n ∨ v = 0)) ∧ (a ≤ a' ∧ a' ≤ a + 1) ∧ Ev pr (.call 95 [.ptr 0 1 0 0, i64 n] [cuB bs a s]) (.val (i64 v) [cuB bs a' s']) := by
  by_cases h : n ≤ 1
  · refine ⟨0, a, s, by omega, by omega, ?_⟩
    unfold cuB
    let t0 : Tp pr := .b (show (decide (n ≤ (1 : Int))) = true by (simp; omega))
    exact .tp [t0] (by kernel_rfl)
  · obtain ⟨v, s', hv, e⟩ := next_ex bs hb a s h0 ha
    have hm : v.tmod n = v % n := Int.tmod_eq_emod_of_nonneg hv.1
    have h1 := Int.emod_nonneg v (show n ≠ 0 by omega)
    have h2 := Int.emod_lt_of_pos v (show 0 < n by omega)
    refine ⟨v % n, a + 1, s', by omega, by omega, ?_⟩
    unfold cuB at *
    have h3 : ¬ n > 200 := by omega
    rw [← hm] at h1 h2 ⊢
    let t0 : Tp pr := .b (show (decide (n ≤ (1 : Int))) = false by (simp; omega))
    let t2 : Tp pr := .b (show (decide (n > (200 : Int))) = false by (simp; omega))
    let t3 : Tp pr := .m (show (decide (n ≠ (0 : Int))) = true by (simp; omega))
    exact .tp [t0, .a (e), t2, t3, .i (rfl : (v.tmod n) = _)] (by kernel_rfl)
theorem one_ex (bs : List Int) (hb : okB bs) (a s : Int) (h0 : 0 ≤ a) (ha : a ≤ 50000000) (n : Int) (hn : n ≤ 200) :
    ∃ (v : Bool) (a' s' : Int), (a ≤ a' ∧ a' ≤ a + 1) ∧ Ev pr (.call 79 [.ptr 0 1 0 0, i64 n] [cuB bs a s]) (.val (bl v) [cuB bs a' s']) := by
  obtain ⟨v, a', s', hv, h1, e⟩ := pick_ex bs hb a s h0 ha n hn
  by_cases hz : v = 0
  · refine ⟨true, a', s', h1, ?_⟩
    subst hz
    unfold cuB at *
    exact .tp [.a (e)] (by kernel_rfl)
  · refine ⟨false, a', s', h1, ?_⟩
    unfold cuB at *
    exact .tpe [.a (e)] (Out.val (V.t (T.bool (decide (v = (0 : Int))))) [Ob.box [V.t (T.seq (1 : Nat) (List.map u8t bs)), V.t (T.int IntKind.i64 a'), V.t (T.int IntKind.u64 s')]]) (by kernel_rfl) (congrArg (fun x => Out.val (V.t (T.bool x)) [Ob.box [V.t (T.seq (1 : Nat) (List.map u8t bs)), V.t (T.int IntKind.i64 a'), V.t (T.int IntKind.u64 s')]]) (show (decide (v = (0 : Int))) = (false) by simp [*]))
theorem among_ex (bs : List Int) (hb : okB bs) (a s : Int) (h0 : 0 ≤ a) (ha : a ≤ 50000000) (l : List Int) (hl : 0 < l.length) (hl2 : l.length ≤ 100) :
    ∃ (v : Int) (a' s' : Int), v ∈ l ∧ (a ≤ a' ∧ a' ≤ a + 1) ∧ Ev pr (.call 50 [.ptr 0 1 0 0, isq l] [cuB bs a s]) (.val (i64 v) [cuB bs a' s']) := by
  obtain ⟨v, a', s', hv, h1, e⟩ := pick_ex bs hb a s h0 ha l.length (by omega)
  have hlt : v.toNat < l.length := by omega
  have hg : lkp (l.map intt) v = some [T.int .i64 l[v.toNat]] := by simp [lkp, intt, hv.1, hlt]
  refine ⟨l[v.toNat], a', s', List.getElem_mem hlt, h1, ?_⟩
  generalize l[v.toNat] = x at hg ⊢
  unfold cuB at *
  let t0 : Tp pr := .i (show ((↑(List.map intt l).length : Int) : Int) = (↑l.length : Int) by simp)
  let t2 : Tp pr := .g .row (show (lkp (List.map intt l) v) = some ([T.int IntKind.i64 x]) from hg)
  exact .tp [t0, .a (e), t2] (by kernel_rfl)
end Go.Ev

/- Where a step goes on. -/
namespace Go.Ev
set_option linter.unusedVariables false
set_option linter.unusedSimpArgs false
open Go.Proofs
set_option maxRecDepth 100000
set_option linter.unusedVariables false
set_option linter.unusedSimpArgs false
set_option maxHeartbeats 2000000
theorem goesTo_ev (x : Bc) (k : Int) (h0 : 0 ≤ k) (h1 : k ≤ 1000) : Ev pr (.call 107 [vs x.ce, i64 k] []) (.val (isq (nextOf x k)) []) := by
  unfold nextOf
  by_cases c6 : x.op = 6
  · rw [if_pos c6]; (
    let t0 : Tp pr := .b (show (decide (x.op = (6 : Int))) = true by (simp; omega))
    let t2 : Tp pr := .n .rows (show (List.map (fun x => List.map C.fz x) (List.take (1 : Nat) (List.drop (0 : Nat) [[C.t (T.int IntKind.i64 x.n)]]))) = [[(C.t (T.int IntKind.i64 x.n)).fz]] by simp)
    exact .tp [t0, .m (rfl : true = true), t2] (by kernel_rfl))
  · rw [if_neg c6]
    by_cases c7 : x.op = 7
    · rw [if_pos c7]; (
      let t0 : Tp pr := .b (show (decide (x.op = (6 : Int))) = false by (simp; omega))
      let t1 : Tp pr := .b (show (decide (x.op = (7 : Int))) = true by (simp; omega))
      let t2 : Tp pr := .i (wrap_i64 (a := k + (1 : Int)) (by omega) (by omega))
      let t4 : Tp pr := .n .rows (show (List.map (fun x => List.map C.fz x) (List.take (2 : Nat) (List.drop (0 : Nat) [[C.t (T.int IntKind.i64 (k + (1 : Int)))], [C.t (T.int IntKind.i64 x.n)]]))) = [[(C.t (T.int IntKind.i64 (k + (1 : Int)))).fz], [(C.t (T.int IntKind.i64 x.n)).fz]] by simp)
      exact .tp [t0, t1, t2, .m (rfl : true = true), t4] (by kernel_rfl))
    · rw [if_neg c7]
      by_cases c9 : x.op = 9
      · rw [if_pos c9]; (
        let t0 : Tp pr := .b (show (decide (x.op = (6 : Int))) = false by (simp; omega))
        let t1 : Tp pr := .b (show (decide (x.op = (7 : Int))) = false by (simp; omega))
        let t2 : Tp pr := .b (show (decide (x.op = (9 : Int))) = true by (simp; omega))
        exact .tp [t0, t1, t2] (by kernel_rfl))
      · rw [if_neg c9]; (
        let t0 : Tp pr := .b (show (decide (x.op = (6 : Int))) = false by (simp; omega))
        let t1 : Tp pr := .b (show (decide (x.op = (7 : Int))) = false by (simp; omega))
        let t2 : Tp pr := .b (show (decide (x.op = (9 : Int))) = false by (simp; omega))
        let t3 : Tp pr := .i (wrap_i64 (a := k + (1 : Int)) (by omega) (by omega))
        let t5 : Tp pr := .n .rows (show (List.map (fun x => List.map C.fz x) (List.take (1 : Nat) (List.drop (0 : Nat) [[C.t (T.int IntKind.i64 (k + (1 : Int)))]]))) = [[(C.t (T.int IntKind.i64 (k + (1 : Int)))).fz]] by simp)
        exact .tp [t0, t1, t2, t3, .m (rfl : true = true), t5] (by kernel_rfl))
theorem bcAt_lkp {l : List Bc} {k : Int} (h0 : 0 ≤ k) (h1 : k < l.length) : lkp (l.map Bc.ce) k = some (bcAt l k).ce := by
  have hk : k.toNat < l.length := by omega
  simp [lkp, bcAt, h0, hk, List.getD_eq_getElem?_getD]
theorem next_ev (l : List Bc) (k : Int) (h0 : 0 ≤ k) (h1 : k < l.length) (hl : l.length ≤ 1000) : Ev pr (.call 105 [.t (.seq 3 (l.map Bc.ce)), i64 k] []) (.val (isq (nextOf (bcAt l k) k)) []) := by
  have hg := bcAt_lkp h0 h1
  generalize bcAt l k = x at *
  unfold nextOf
  by_cases c6 : x.op = 6
  · rw [if_pos c6]; (
    let t0 : Tp pr := .g .row (show (lkp (List.map Bc.ce l) k) = some (x.ce) from hg)
    let t1 : Tp pr := .b (show (decide (x.op = (9 : Int))) = false by (simp; omega))
    let t2 : Tp pr := .b (show (decide (x.op = (6 : Int))) = true by (simp; omega))
    let t3 : Tp pr := .g .row (show (lkp (List.map Bc.ce l) k) = some (x.ce) from hg)
    let t5 : Tp pr := .n .rows (show (List.map (fun x => List.map C.fz x) (List.take (1 : Nat) (List.drop (0 : Nat) [[C.t (T.int IntKind.i64 x.n)]]))) = [[(C.t (T.int IntKind.i64 x.n)).fz]] by simp)
    exact .tp [t0, t1, t2, t3, .m (rfl : true = true), t5] (by kernel_rfl))
  · rw [if_neg c6]
    by_cases c7 : x.op = 7
    · rw [if_pos c7]; (
      let t0 : Tp pr := .g .row (show (lkp (List.map Bc.ce l) k) = some (x.ce) from hg)
      let t1 : Tp pr := .b (show (decide (x.op = (9 : Int))) = false by (simp; omega))
      let t2 : Tp pr := .b (show (decide (x.op = (6 : Int))) = false by (simp; omega))
      let t3 : Tp pr := .b (show (decide (x.op = (7 : Int))) = true by (simp; omega))
      let t4 : Tp pr := .i (wrap_i64 (a := k + (1 : Int)) (by omega) (by omega))
      let t5 : Tp pr := .g .row (show (lkp (List.map Bc.ce l) k) = some (x.ce) from hg)
      let t7 : Tp pr := .n .rows (show (List.map (fun x => List.map C.fz x) (List.take (2 : Nat) (List.drop (0 : Nat) [[C.t (T.int IntKind.i64 (k + (1 : Int)))], [C.t (T.int IntKind.i64 x.n)]]))) = [[(C.t (T.int IntKind.i64 (k + (1 : Int)))).fz], [(C.t (T.int IntKind.i64 x.n)).fz]] by simp)
      exact .tp [t0, t1, t2, t3, t4, t5, .m (rfl : true = true), t7] (by kernel_rfl))
    · rw [if_neg c7]
      by_cases c9 : x.op = 9
      · rw [if_pos c9]; (
        let t0 : Tp pr := .g .row (show (lkp (List.map Bc.ce l) k) = some (x.ce) from hg)
        let t1 : Tp pr := .b (show (decide (x.op = (9 : Int))) = true by (simp; omega))
        exact .tp [t0, t1] (by kernel_rfl))
      · rw [if_neg c9]; (
        let t0 : Tp pr := .g .row (show (lkp (List.map Bc.ce l) k) = some (x.ce) from hg)
        let t1 : Tp pr := .b (show (decide (x.op = (9 : Int))) = false by (simp; omega))
        let t2 : Tp pr := .b (show (decide (x.op = (6 : Int))) = false by (simp; omega))
        let t3 : Tp pr := .b (show (decide (x.op = (7 : Int))) = false by (simp; omega))
        let t4 : Tp pr := .i (wrap_i64 (a := k + (1 : Int)) (by omega) (by omega))
        let t6 : Tp pr := .n .rows (show (List.map (fun x => List.map C.fz x) (List.take (1 : Nat) (List.drop (0 : Nat) [[C.t (T.int IntKind.i64 (k + (1 : Int)))]]))) = [[(C.t (T.int IntKind.i64 (k + (1 : Int)))).fz]] by simp)
        exact .tp [t0, t1, t2, t3, t4, .m (rfl : true = true), t6] (by kernel_rfl))
end Go.Ev

/- How many are on the stack at each step, by the program. -/
namespace Go.Ev
set_option linter.unusedVariables false
set_option linter.unusedSimpArgs false
open Go.Proofs
set_option maxRecDepth 100000
set_option linter.unusedVariables false
set_option linter.unusedSimpArgs false
set_option maxHeartbeats 4000000
def bdo (o : List Int) : Prop := ∀ i : Int, -1 ≤ da o i ∧ da o i ≤ 30
theorem ints_da {o : List Int} {k : Int} (h0 : 0 ≤ k) (h1 : k < o.length) : (ints o)[k.toNat]? = some [C.t (.int .i64 (da o k))] := by
  have hk : k.toNat < o.length := by omega
  simp [ints, intc, hk, da, List.getD_eq_getElem?_getD]
@[local simp] theorem drop_pre (pre r : List Int) : List.drop pre.length (ints (pre ++ r)) = ints r := by
  rw [ints, List.map_append, List.drop_left' (by simp)]
  rfl
@[local simp] theorem take_all (r : List Int) : List.take r.length (ints r) = ints r := List.take_of_length_le (by simp)
theorem ints_sn (l : List Int) (x : Int) : ints (l ++ [x]) = (ints l).append [[C.t (.int .i64 x)]] := by simp [ints, intc]
theorem bdo_set {o : List Int} {t n : Int} (h : bdo o) (t0 : 0 ≤ t) (t1 : t < o.length) (n0 : 0 ≤ n) (n1 : n ≤ 30) : bdo (o.set t.toNat n) := fun i => by
  rcases Int.lt_or_le i 0 with c | c
  · have e : da (o.set t.toNat n) i = da (o.set t.toNat n) 0 := by unfold da; rw [show i.toNat = 0 by omega]; rfl
    rw [e, da_set n t0 t1 (Int.le_refl _)]
    split
    · omega
    · exact h 0
  · rw [da_set n t0 t1 c]
    split
    · omega
    · exact h i
/-- What the inner loop comes to. -/
def InO (l : List Bc) (ks : List Int) (e : Nat) : Option (List Int × List Int) → List Int → Out
  | none, pre => .ret (at_ [(2, .t .nils), (3, bl false)] [] 0)
  | some q, pre => .exit e (at_ [(0, bcs l), (4, .vec 0 q.1.length 1 0 q.1.length), (5, .vec 1 (pre ++ (ks ++ q.2)).length 1 pre.length (ks ++ q.2).length)] [.vec true 1 (ints q.1), .vec true 1 (ints (pre ++ (ks ++ q.2)))] 0)
theorem dInI_s1 (l : List Bc) (hl : l.length ≤ 120) (k off on : Int) (k0 : 0 ≤ k) (k1 : k < l.length) (f0 : 0 ≤ off ∧ off ≤ 2) (g0 : 0 ≤ on ∧ on ≤ 1) (nx : List Int) (hnx : nx.length ≤ 10) (d : Int) (d0 : 0 ≤ d) (d1 : d < nx.length)
    (o r : List Int) (p : Nat) (h2 : o.length = l.length) (h3 : bdo o) (t : Int) (ht : 0 ≤ t) (hlt : t < l.length) (h6 : 0 ≤ da o k - off + on) (h7 : da o k - off + on ≤ 30) (hrl : p + r.length ≤ 2000)
    (hg : lkp (nx.map intt) d = some [T.int .i64 t]) (c3 : da o t = da o k - off + on) (R : List (List C)) (Z : Out)
    (ih : Ev pr (.loop (lq pr 83 1) (at_ [(0, bcs l), (4, .vec 0 o.length 1 0 o.length), (5, .vec 1 (p + r.length) 1 p r.length), (6, i64 k), (7, i64 off), (8, i64 on), (56, isq nx), (57, i64 nx.length), (58, i64 (d + 1))] [.vec true 1 (ints o), .vec true 1 R] 0)) Z) :
    Ev pr (.loop (lq pr 83 1) (at_ [(0, bcs l), (4, .vec 0 o.length 1 0 o.length), (5, .vec 1 (p + r.length) 1 p r.length), (6, i64 k), (7, i64 off), (8, i64 on), (56, isq nx), (57, i64 nx.length), (58, i64 d)] [.vec true 1 (ints o), .vec true 1 R] 0)) Z := by
  have hkk := ints_da k0 (show k < o.length by omega)
  have htt := ints_da ht (show t < o.length by omega)
  have bk := h3 k
  have bt := h3 t
  let t0 : Tp pr := .b (show (decide (d < (↑nx.length : Int))) = true by (simp; omega))
  let t1 : Tp pr := .g .row (show (lkp (List.map intt nx) d) = some ([T.int IntKind.i64 t]) from hg)
  let t4 : Tp pr := .i (show ((↑(List.map Bc.ce l).length : Int) : Int) = (↑l.length : Int) by simp)
  let t8 : Tp pr := .b (show (decide (t = (↑l.length : Int))) = false by (simp; omega))
  let t11 : Tp pr := .m (show (decide ((0 : Int) ≤ t ∧ t.toNat < o.length)) = true by simp [*])
  let t12 : Tp pr := .c (show ((0 : Nat) + t.toNat : Nat) = t.toNat by omega)
  let t14 : Tp pr := .m (show (decide ((ints o).length = o.length)) = true by simp)
  let t15 : Tp pr := .g .crow (show ((ints o)[t.toNat]?) = some ([C.t (T.int IntKind.i64 (da o t))]) from htt)
  let t19 : Tp pr := .b (show (decide (da o t ≥ (0 : Int))) = true by (simp; omega))
  let t22 : Tp pr := .m (show (decide ((0 : Int) ≤ t ∧ t.toNat < o.length)) = true by simp [*])
  let t23 : Tp pr := .c (show ((0 : Nat) + t.toNat : Nat) = t.toNat by omega)
  let t25 : Tp pr := .m (show (decide ((ints o).length = o.length)) = true by simp)
  let t26 : Tp pr := .g .crow (show ((ints o)[t.toNat]?) = some ([C.t (T.int IntKind.i64 (da o t))]) from htt)
  let t30 : Tp pr := .m (show (decide ((0 : Int) ≤ k ∧ k.toNat < o.length)) = true by simp [*])
  let t31 : Tp pr := .c (show ((0 : Nat) + k.toNat : Nat) = k.toNat by omega)
  let t33 : Tp pr := .m (show (decide ((ints o).length = o.length)) = true by simp)
  let t34 : Tp pr := .g .crow (show ((ints o)[k.toNat]?) = some ([C.t (T.int IntKind.i64 (da o k))]) from hkk)
  let t37 : Tp pr := .i (wrap_i64 (a := da o k - off) (by omega) (by omega))
  let t40 : Tp pr := .i (wrap_i64 (a := da o k - off + on) (by omega) (by omega))
  let t45 : Tp pr := .b (show (da o t != da o k - off + on) = false by (simp; omega))
  let t46 : Tp pr := .m (show (decide ((0 : Int) ≤ t ∧ t.toNat < o.length)) = true by simp [*])
  let t47 : Tp pr := .c (show ((0 : Nat) + t.toNat : Nat) = t.toNat by omega)
  let t48 : Tp pr := .m (show (decide ((ints o).length = o.length)) = true by simp)
  let t49 : Tp pr := .g .crow (show ((ints o)[t.toNat]?) = some ([C.t (T.int IntKind.i64 (da o t))]) from htt)
  let t50 : Tp pr := .b (show (decide (da o t < (0 : Int))) = false by (simp; omega))
  let t51 : Tp pr := .i (wrap_i64 (a := d + (1 : Int)) (by omega) (by omega))
  exact .tp [t0, t1, .m (rfl : true = true), .m (rfl : true = true), t4, .m (rfl : true = true), .m (rfl : true = true), .m (rfl : true = true), t8, .m (rfl : true = true), .m (rfl : true = true), t11, t12, .m (rfl : true = true), t14, t15, .m (rfl : true = true), .m (rfl : true = true), .m (rfl : true = true), t19, .m (rfl : true = true), .m (rfl : true = true), t22, t23, .m (rfl : true = true), t25, t26, .m (rfl : true = true), .m (rfl : true = true), .m (rfl : true = true), t30, t31, .m (rfl : true = true), t33, t34, .m (rfl : true = true), .m (rfl : true = true), t37, .m (rfl : true = true), .m (rfl : true = true), t40, .m (rfl : true = true), .m (rfl : true = true), .m (rfl : true = true), .m (rfl : true = true), t45, t46, t47, t48, t49, t50, t51, .a (ih)] (by kernel_rfl)
@[local simp] theorem drop_pre1 (y : Int) (pre r : List Int) : List.drop (pre.length + 1) (ints (y :: (pre ++ r))) = ints r := by
  rw [show ints (y :: (pre ++ r)) = [C.t (.int .i64 y)] :: ints (pre ++ r) from rfl, List.drop_succ_cons, drop_pre]
theorem dInI_s2a (l : List Bc) (hl : l.length ≤ 120) (k off on : Int) (k0 : 0 ≤ k) (k1 : k < l.length) (f0 : 0 ≤ off ∧ off ≤ 2) (g0 : 0 ≤ on ∧ on ≤ 1) (nx : List Int) (hnx : nx.length ≤ 10) (d : Int) (d0 : 0 ≤ d) (d1 : d < nx.length)
    (o r : List Int) (h2 : o.length = l.length) (h3 : bdo o) (t : Int) (ht : 0 ≤ t) (hlt : t < l.length) (h6 : 0 ≤ da o k - off + on) (h7 : da o k - off + on ≤ 30) (hrl : r.length ≤ 2000)
    (hg : lkp (nx.map intt) d = some [T.int .i64 t]) (c2 : da o t < 0) (Z : Out)
    (ih : Ev pr (.loop (lq pr 83 1) (at_ [(0, bcs l), (4, .vec 0 o.length 1 0 o.length), (5, .vec 1 (r.length + 1) 1 0 (r.length + 1)), (6, i64 k), (7, i64 off), (8, i64 on), (56, isq nx), (57, i64 nx.length), (58, i64 (d + 1))] [.vec true 1 (ints (o.set t.toNat (da o k - off + on))), .vec true 1 ((ints r).append [[C.t (.int .i64 t)]])] 0)) Z) :
    Ev pr (.loop (lq pr 83 1) (at_ [(0, bcs l), (4, .vec 0 o.length 1 0 o.length), (5, .vec 1 r.length 1 0 r.length), (6, i64 k), (7, i64 off), (8, i64 on), (56, isq nx), (57, i64 nx.length), (58, i64 d)] [.vec true 1 (ints o), .vec true 1 (ints r)] 0)) Z := by
  have hkk := ints_da k0 (show k < o.length by omega)
  have htt := ints_da ht (show t < o.length by omega)
  have bk := h3 k
  have bt := h3 t
  let t0 : Tp pr := .b (show (decide (d < (↑nx.length : Int))) = true by (simp; omega))
  let t1 : Tp pr := .g .row (show (lkp (List.map intt nx) d) = some ([T.int IntKind.i64 t]) from hg)
  let t4 : Tp pr := .i (show ((↑(List.map Bc.ce l).length : Int) : Int) = (↑l.length : Int) by simp)
  let t8 : Tp pr := .b (show (decide (t = (↑l.length : Int))) = false by (simp; omega))
  let t11 : Tp pr := .m (show (decide ((0 : Int) ≤ t ∧ t.toNat < o.length)) = true by simp [*])
  let t12 : Tp pr := .c (show ((0 : Nat) + t.toNat : Nat) = t.toNat by omega)
  let t14 : Tp pr := .m (show (decide ((ints o).length = o.length)) = true by simp)
  let t15 : Tp pr := .g .crow (show ((ints o)[t.toNat]?) = some ([C.t (T.int IntKind.i64 (da o t))]) from htt)
  let t19 : Tp pr := .b (show (decide (da o t ≥ (0 : Int))) = false by (simp; omega))
  let t36 : Tp pr := .m (show (decide ((0 : Int) ≤ t ∧ t.toNat < o.length)) = true by simp [*])
  let t37 : Tp pr := .c (show ((0 : Nat) + t.toNat : Nat) = t.toNat by omega)
  let t38 : Tp pr := .m (show (decide ((ints o).length = o.length)) = true by simp)
  let t39 : Tp pr := .g .crow (show ((ints o)[t.toNat]?) = some ([C.t (T.int IntKind.i64 (da o t))]) from htt)
  let t40 : Tp pr := .b (show (decide (da o t < (0 : Int))) = true by (simp; omega))
  let t41 : Tp pr := .m (show (decide ((0 : Int) ≤ k ∧ k.toNat < o.length)) = true by simp [*])
  let t42 : Tp pr := .c (show ((0 : Nat) + k.toNat : Nat) = k.toNat by omega)
  let t43 : Tp pr := .m (show (decide ((ints o).length = o.length)) = true by simp)
  let t44 : Tp pr := .g .crow (show ((ints o)[k.toNat]?) = some ([C.t (T.int IntKind.i64 (da o k))]) from hkk)
  let t45 : Tp pr := .i (wrap_i64 (a := da o k - off) (by omega) (by omega))
  let t46 : Tp pr := .i (wrap_i64 (a := da o k - off + on) (by omega) (by omega))
  let t47 : Tp pr := .m (show (decide ((0 : Int) ≤ t ∧ t.toNat < o.length)) = true by simp [*])
  let t48 : Tp pr := .c (show ((0 : Nat) + t.toNat : Nat) = t.toNat by omega)
  let t49 : Tp pr := .m (show (decide ((ints o).length = o.length)) = true by simp)
  let t50 : Tp pr := .g .crow (show ((ints o)[t.toNat]?) = some ([C.t (T.int IntKind.i64 (da o t))]) from htt)
  let t51 : Tp pr := .n .crows (show ((ints o).set t.toNat [C.t (T.int IntKind.i64 (da o k - off + on))]) = ints (o.set t.toNat (da o k - off + on)) by simp)
  let t53 : Tp pr := .m (show (decide ((ints r).length = r.length ∧ (0 : Nat) + r.length ≤ r.length ∧ r.length + (1 : Nat) ≤ (4294967296 : Nat))) = true by (simp; omega))
  let t54 : Tp pr := .b (show (decide (r.length + (1 : Nat) ≤ r.length)) = false by simp)
  let t56 : Tp pr := .n .crows (show ((List.take r.length (ints r)).append (List.take (1 : Nat) (List.drop (0 : Nat) [[C.t (T.int IntKind.i64 t)]]))) = ints r ++ [[C.t (T.int IntKind.i64 t)]] by simp)
  let t57 : Tp pr := .i (wrap_i64 (a := d + (1 : Int)) (by omega) (by omega))
  exact .tp [t0, t1, .m (rfl : true = true), .m (rfl : true = true), t4, .m (rfl : true = true), .m (rfl : true = true), .m (rfl : true = true), t8, .m (rfl : true = true), .m (rfl : true = true), t11, t12, .m (rfl : true = true), t14, t15, .m (rfl : true = true), .m (rfl : true = true), .m (rfl : true = true), t19, .m (rfl : true = true), .m (rfl : true = true), .m (rfl : true = true), .m (rfl : true = true), .m (rfl : true = true), .m (rfl : true = true), .m (rfl : true = true), .m (rfl : true = true), .m (rfl : true = true), .m (rfl : true = true), .m (rfl : true = true), .m (rfl : true = true), .m (rfl : true = true), .m (rfl : true = true), .m (rfl : true = true), .b (rfl : false = false), t36, t37, t38, t39, t40, t41, t42, t43, t44, t45, t46, t47, t48, t49, t50, t51, .m (rfl : true = true), t53, t54, .c (rfl : (r.length + (1 : Nat)) = _), t56, t57, .a (ih)] (by kernel_rfl)
theorem dInI_s2b (l : List Bc) (hl : l.length ≤ 120) (k off on : Int) (k0 : 0 ≤ k) (k1 : k < l.length) (f0 : 0 ≤ off ∧ off ≤ 2) (g0 : 0 ≤ on ∧ on ≤ 1) (nx : List Int) (hnx : nx.length ≤ 10) (d : Int) (d0 : 0 ≤ d) (d1 : d < nx.length)
    (o r pre : List Int) (y : Int) (h2 : o.length = l.length) (h3 : bdo o) (t : Int) (ht : 0 ≤ t) (hlt : t < l.length) (h6 : 0 ≤ da o k - off + on) (h7 : da o k - off + on ≤ 30) (hrl : pre.length + r.length ≤ 2000)
    (hg : lkp (nx.map intt) d = some [T.int .i64 t]) (c2 : da o t < 0) (Z : Out)
    (ih : Ev pr (.loop (lq pr 83 1) (at_ [(0, bcs l), (4, .vec 0 o.length 1 0 o.length), (5, .vec 1 (r.length + 1) 1 0 (r.length + 1)), (6, i64 k), (7, i64 off), (8, i64 on), (56, isq nx), (57, i64 nx.length), (58, i64 (d + 1))] [.vec true 1 (ints (o.set t.toNat (da o k - off + on))), .vec true 1 ((ints r).append [[C.t (.int .i64 t)]])] 0)) Z) :
    Ev pr (.loop (lq pr 83 1) (at_ [(0, bcs l), (4, .vec 0 o.length 1 0 o.length), (5, .vec 1 (pre.length + 1 + r.length) 1 (pre.length + 1) r.length), (6, i64 k), (7, i64 off), (8, i64 on), (56, isq nx), (57, i64 nx.length), (58, i64 d)] [.vec true 1 (ints o), .vec true 1 (ints (y :: (pre ++ r)))] 0)) Z := by
  have hkk := ints_da k0 (show k < o.length by omega)
  have htt := ints_da ht (show t < o.length by omega)
  have bk := h3 k
  have bt := h3 t
  let t0 : Tp pr := .b (show (decide (d < (↑nx.length : Int))) = true by (simp; omega))
  let t1 : Tp pr := .g .row (show (lkp (List.map intt nx) d) = some ([T.int IntKind.i64 t]) from hg)
  let t4 : Tp pr := .i (show ((↑(List.map Bc.ce l).length : Int) : Int) = (↑l.length : Int) by simp)
  let t8 : Tp pr := .b (show (decide (t = (↑l.length : Int))) = false by (simp; omega))
  let t11 : Tp pr := .m (show (decide ((0 : Int) ≤ t ∧ t.toNat < o.length)) = true by simp [*])
  let t12 : Tp pr := .c (show ((0 : Nat) + t.toNat : Nat) = t.toNat by omega)
  let t14 : Tp pr := .m (show (decide ((ints o).length = o.length)) = true by simp)
  let t15 : Tp pr := .g .crow (show ((ints o)[t.toNat]?) = some ([C.t (T.int IntKind.i64 (da o t))]) from htt)
  let t19 : Tp pr := .b (show (decide (da o t ≥ (0 : Int))) = false by (simp; omega))
  let t36 : Tp pr := .m (show (decide ((0 : Int) ≤ t ∧ t.toNat < o.length)) = true by simp [*])
  let t37 : Tp pr := .c (show ((0 : Nat) + t.toNat : Nat) = t.toNat by omega)
  let t38 : Tp pr := .m (show (decide ((ints o).length = o.length)) = true by simp)
  let t39 : Tp pr := .g .crow (show ((ints o)[t.toNat]?) = some ([C.t (T.int IntKind.i64 (da o t))]) from htt)
  let t40 : Tp pr := .b (show (decide (da o t < (0 : Int))) = true by (simp; omega))
  let t41 : Tp pr := .m (show (decide ((0 : Int) ≤ k ∧ k.toNat < o.length)) = true by simp [*])
  let t42 : Tp pr := .c (show ((0 : Nat) + k.toNat : Nat) = k.toNat by omega)
  let t43 : Tp pr := .m (show (decide ((ints o).length = o.length)) = true by simp)
  let t44 : Tp pr := .g .crow (show ((ints o)[k.toNat]?) = some ([C.t (T.int IntKind.i64 (da o k))]) from hkk)
  let t45 : Tp pr := .i (wrap_i64 (a := da o k - off) (by omega) (by omega))
  let t46 : Tp pr := .i (wrap_i64 (a := da o k - off + on) (by omega) (by omega))
  let t47 : Tp pr := .m (show (decide ((0 : Int) ≤ t ∧ t.toNat < o.length)) = true by simp [*])
  let t48 : Tp pr := .c (show ((0 : Nat) + t.toNat : Nat) = t.toNat by omega)
  let t49 : Tp pr := .m (show (decide ((ints o).length = o.length)) = true by simp)
  let t50 : Tp pr := .g .crow (show ((ints o)[t.toNat]?) = some ([C.t (T.int IntKind.i64 (da o t))]) from htt)
  let t51 : Tp pr := .n .crows (show ((ints o).set t.toNat [C.t (T.int IntKind.i64 (da o k - off + on))]) = ints (o.set t.toNat (da o k - off + on)) by simp)
  let t53 : Tp pr := .m (show (decide ((ints (y :: (pre ++ r))).length = pre.length + (1 : Nat) + r.length ∧ pre.length + (1 : Nat) + r.length ≤ pre.length + (1 : Nat) + r.length ∧ r.length + (1 : Nat) ≤ (4294967296 : Nat))) = true by (simp; omega))
  let t54 : Tp pr := .m (show (decide (pre.length + (1 : Nat) + r.length = pre.length + (1 : Nat) + r.length)) = true by simp)
  let t55 : Tp pr := .b (show (decide (r.length + (1 : Nat) ≤ pre.length + (1 : Nat) + r.length - (pre.length + (1 : Nat)))) = false by simp)
  let t57 : Tp pr := .n .crows (show ((List.take r.length (List.drop (pre.length + (1 : Nat)) (ints (y :: (pre ++ r))))).append (List.take (1 : Nat) (List.drop (0 : Nat) [[C.t (T.int IntKind.i64 t)]]))) = ints r ++ [[C.t (T.int IntKind.i64 t)]] by simp)
  let t58 : Tp pr := .i (wrap_i64 (a := d + (1 : Int)) (by omega) (by omega))
  exact .tp [t0, t1, .m (rfl : true = true), .m (rfl : true = true), t4, .m (rfl : true = true), .m (rfl : true = true), .m (rfl : true = true), t8, .m (rfl : true = true), .m (rfl : true = true), t11, t12, .m (rfl : true = true), t14, t15, .m (rfl : true = true), .m (rfl : true = true), .m (rfl : true = true), t19, .m (rfl : true = true), .m (rfl : true = true), .m (rfl : true = true), .m (rfl : true = true), .m (rfl : true = true), .m (rfl : true = true), .m (rfl : true = true), .m (rfl : true = true), .m (rfl : true = true), .m (rfl : true = true), .m (rfl : true = true), .m (rfl : true = true), .m (rfl : true = true), .m (rfl : true = true), .m (rfl : true = true), .b (rfl : false = false), t36, t37, t38, t39, t40, t41, t42, t43, t44, t45, t46, t47, t48, t49, t50, t51, .m (rfl : true = true), t53, t54, t55, .c (rfl : (r.length + (1 : Nat)) = _), t57, t58, .a (ih)] (by kernel_rfl)
theorem dInI_ev (l : List Bc) (hl : l.length ≤ 120) (k off on : Int) (k0 : 0 ≤ k) (k1 : k < l.length) (f0 : 0 ≤ off ∧ off ≤ 2) (g0 : 0 ≤ on ∧ on ≤ 1) (nx : List Int) (hnx : nx.length ≤ 10) :
    ∀ (rest dn o td pre : List Int), nx = dn ++ rest → o.length = l.length → bdo o → (∀ t ∈ rest, 0 ≤ t ∧ t ≤ l.length) → 0 ≤ da o k → 0 ≤ da o k - off + on → da o k - off + on ≤ 30 → td.length + rest.length ≤ 500 → pre.length ≤ 1000 →
    ∃ pre' : List Int, pre'.length ≤ pre.length ∧
    Ev pr (.loop (lq pr 83 1) (at_ [(0, bcs l), (4, .vec 0 o.length 1 0 o.length), (5, .vec 1 (pre ++ (k :: td)).length 1 pre.length (k :: td).length), (6, i64 k), (7, i64 off), (8, i64 on), (56, isq nx), (57, i64 nx.length), (58, i64 dn.length)] [.vec true 1 (ints o), .vec true 1 (ints (pre ++ (k :: td)))] 0))
      (InO l [k] 2 (putN l.length (da o k - off + on) rest o td) pre')
  | [], dn, o, td, pre, h1, h2, h3, h4, h5, h6, h7, h8, h9 => by
    have hll : (nx.length : Int) = dn.length := by simp [h1]
    refine ⟨pre, Nat.le_refl _, ?_⟩
    unfold putN InO
    let t0 : Tp pr := .b (show (decide ((↑dn.length : Int) < (↑nx.length : Int))) = false by (simp; omega))
    exact .tp [t0] (by kernel_rfl)
  | t :: rest, dn, o, td, pre, h1, h2, h3, h4, h5, h6, h7, h8, h9 => by
    have hll : (nx.length : Int) = dn.length + 1 + rest.length := by simp [h1]; omega
    have hg : lkp (nx.map intt) (dn.length : Int) = some [T.int .i64 t] := by rw [h1]; simp [intt]
    have ht := h4 t (by simp)
    have hkk := ints_da k0 (show k < o.length by omega)
    have bk := h3 k
    have bt := h3 t
    simp only [List.length_cons] at h8
    unfold putN
    by_cases c1 : t = l.length
    · rw [if_pos (.inl (by omega))]
      refine ⟨pre, Nat.le_refl _, ?_⟩
      unfold InO
      let t0 : Tp pr := .b (show (decide ((↑dn.length : Int) < (↑nx.length : Int))) = true by (simp; omega))
      let t1 : Tp pr := .g .row (show (lkp (List.map intt nx) (↑dn.length : Int)) = some ([T.int IntKind.i64 t]) from hg)
      let t4 : Tp pr := .i (show ((↑(List.map Bc.ce l).length : Int) : Int) = (↑l.length : Int) by simp)
      let t8 : Tp pr := .b (show (decide (t = (↑l.length : Int))) = true by (simp; omega))
      exact .tp [t0, t1, .m (rfl : true = true), .m (rfl : true = true), t4, .m (rfl : true = true), .m (rfl : true = true), .m (rfl : true = true), t8, .m (rfl : true = true), .m (rfl : true = true), .m (rfl : true = true), .m (rfl : true = true), .m (rfl : true = true), .m (rfl : true = true), .m (rfl : true = true), .m (rfl : true = true), .m (rfl : true = true), .m (rfl : true = true), .m (rfl : true = true), .m (rfl : true = true), .m (rfl : true = true), .m (rfl : true = true), .m (rfl : true = true), .m (rfl : true = true), .m (rfl : true = true), .m (rfl : true = true), .m (rfl : true = true), .m (rfl : true = true), .m (rfl : true = true), .b (rfl : true = true)] (by kernel_rfl)
    · have hlt : t < l.length := by omega
      have htt := ints_da ht.1 (show t < o.length by omega)
      by_cases c2 : da o t ≥ 0
      · by_cases c3 : da o t = da o k - off + on
        · obtain ⟨pre', hp, ih⟩ := dInI_ev l hl k off on k0 k1 f0 g0 nx hnx rest (dn ++ [t]) o td pre (by simp [h1]) h2 h3 (fun x hx => h4 x (by simp [hx])) h5 h6 h7 (by omega) h9
          refine ⟨pre', hp, ?_⟩
          rw [if_neg (by omega), if_neg (by omega)]
          rw [show (((dn ++ [t]).length : Nat) : Int) = (dn.length : Int) + 1 by simp, show (pre ++ (k :: td)).length = pre.length + (k :: td).length by simp] at ih
          rw [show (pre ++ (k :: td)).length = pre.length + (k :: td).length by simp]
          exact dInI_s1 l hl k off on k0 k1 f0 g0 nx hnx dn.length (by omega) (by omega) o (k :: td) pre.length h2 h3 t ht.1 hlt h6 h7 (by simp; omega) hg c3 _ _ ih
        · rw [if_pos (.inr ⟨c2, c3⟩)]
          refine ⟨pre, Nat.le_refl _, ?_⟩
          unfold InO
          let t0 : Tp pr := .b (show (decide ((↑dn.length : Int) < (↑nx.length : Int))) = true by (simp; omega))
          let t1 : Tp pr := .g .row (show (lkp (List.map intt nx) (↑dn.length : Int)) = some ([T.int IntKind.i64 t]) from hg)
          let t4 : Tp pr := .i (show ((↑(List.map Bc.ce l).length : Int) : Int) = (↑l.length : Int) by simp)
          let t8 : Tp pr := .b (show (decide (t = (↑l.length : Int))) = false by (simp; omega))
          let t11 : Tp pr := .m (show (decide ((0 : Int) ≤ t ∧ t.toNat < o.length)) = true by simp [*])
          let t12 : Tp pr := .c (show ((0 : Nat) + t.toNat : Nat) = t.toNat by omega)
          let t14 : Tp pr := .m (show (decide ((ints o).length = o.length)) = true by simp)
          let t15 : Tp pr := .g .crow (show ((ints o)[t.toNat]?) = some ([C.t (T.int IntKind.i64 (da o t))]) from htt)
          let t19 : Tp pr := .b (show (decide (da o t ≥ (0 : Int))) = true by (simp; omega))
          let t22 : Tp pr := .m (show (decide ((0 : Int) ≤ t ∧ t.toNat < o.length)) = true by simp [*])
          let t23 : Tp pr := .c (show ((0 : Nat) + t.toNat : Nat) = t.toNat by omega)
          let t25 : Tp pr := .m (show (decide ((ints o).length = o.length)) = true by simp)
          let t26 : Tp pr := .g .crow (show ((ints o)[t.toNat]?) = some ([C.t (T.int IntKind.i64 (da o t))]) from htt)
          let t30 : Tp pr := .m (show (decide ((0 : Int) ≤ k ∧ k.toNat < o.length)) = true by simp [*])
          let t31 : Tp pr := .c (show ((0 : Nat) + k.toNat : Nat) = k.toNat by omega)
          let t33 : Tp pr := .m (show (decide ((ints o).length = o.length)) = true by simp)
          let t34 : Tp pr := .g .crow (show ((ints o)[k.toNat]?) = some ([C.t (T.int IntKind.i64 (da o k))]) from hkk)
          let t37 : Tp pr := .i (wrap_i64 (a := da o k - off) (by omega) (by omega))
          let t40 : Tp pr := .i (wrap_i64 (a := da o k - off + on) (by omega) (by omega))
          let t45 : Tp pr := .b (show (da o t != da o k - off + on) = true by (simp; omega))
          exact .tp [t0, t1, .m (rfl : true = true), .m (rfl : true = true), t4, .m (rfl : true = true), .m (rfl : true = true), .m (rfl : true = true), t8, .m (rfl : true = true), .m (rfl : true = true), t11, t12, .m (rfl : true = true), t14, t15, .m (rfl : true = true), .m (rfl : true = true), .m (rfl : true = true), t19, .m (rfl : true = true), .m (rfl : true = true), t22, t23, .m (rfl : true = true), t25, t26, .m (rfl : true = true), .m (rfl : true = true), .m (rfl : true = true), t30, t31, .m (rfl : true = true), t33, t34, .m (rfl : true = true), .m (rfl : true = true), t37, .m (rfl : true = true), .m (rfl : true = true), t40, .m (rfl : true = true), .m (rfl : true = true), .m (rfl : true = true), .m (rfl : true = true), t45] (by kernel_rfl)
      · have ne : k ≠ t := fun e => by subst e; omega
        have e1 : da (o.set t.toNat (da o k - off + on)) k = da o k := by rw [da_set _ ht.1 (by omega) k0, if_neg ne]
        obtain ⟨pre', hp, ih⟩ := dInI_ev l hl k off on k0 k1 f0 g0 nx hnx rest (dn ++ [t]) (o.set t.toNat (da o k - off + on)) (td ++ [t]) [] (by simp [h1]) (by simpa using h2) (bdo_set h3 ht.1 (by omega) h6 h7) (fun x hx => h4 x (by simp [hx])) (by rw [e1]; exact h5) (by rw [e1]; exact h6) (by rw [e1]; exact h7) (by simp; omega) (by simp)
        refine ⟨pre', by simp only [List.length_nil] at hp; omega, ?_⟩
        rw [e1] at ih
        rw [if_neg (by omega), if_pos (by omega)]
        rw [show (((dn ++ [t]).length : Nat) : Int) = (dn.length : Int) + 1 by simp, show [] ++ k :: (td ++ [t]) = (k :: td) ++ [t] by simp, ints_sn, List.length_set, show ((k :: td) ++ [t]).length = (k :: td).length + 1 by simp, show (k :: (td ++ [t])).length = (k :: td).length + 1 by simp, show ([] : List Int).length = 0 from rfl] at ih
        cases pre with
        | nil =>
          exact dInI_s2a l hl k off on k0 k1 f0 g0 nx hnx dn.length (by omega) (by omega) o (k :: td) h2 h3 t ht.1 hlt h6 h7 (by simp; omega) hg (by omega) _ ih
        | cons y pre =>
          simp only [List.length_cons] at h9
          rw [show (y :: pre ++ (k :: td)).length = pre.length + 1 + (k :: td).length by simp; omega]
          exact dInI_s2b l hl k off on k0 k1 f0 g0 nx hnx dn.length (by omega) (by omega) o (k :: td) pre y h2 h3 t ht.1 hlt h6 h7 (by simp; omega) hg (by omega) _ ih
end Go.Ev

/- How many are on the stack at each step, by the program: the whole. -/
namespace Go.Ev
set_option linter.unusedVariables false
set_option linter.unusedSimpArgs false
open Go.Proofs
set_option maxRecDepth 100000
set_option linter.unusedVariables false
set_option linter.unusedSimpArgs false
set_option maxHeartbeats 4000000
attribute [local simp] drop_pre take_all
@[local simp] theorem ints_flatC (fl : Bool) (n : Nat) (l : List Int) : Ob.flat (.vec fl n (ints l)) = true := by simp [Ob.flat, ints, intc, C.flat, T.flat]
@[local simp] theorem rep_flatC (fl : Bool) (n m : Nat) (k : Int) : Ob.flat (.vec fl n (List.replicate m [C.t (.int .i64 k)])) = true := by simp [Ob.flat, C.flat, T.flat]
theorem bdo_of {l : List Bc} {o td : List Int} (h : DInv l o td) : bdo o := fun i => by
  rcases Int.lt_or_le i 0 with c | c
  · have e : da o i = da o 0 := by unfold da; rw [show i.toNat = 0 by omega]; rfl
    rw [e, h.zero]
    omega
  · rcases Int.lt_or_le i l.length with d | d
    · exact h.bd i c d
    · have e : da o i = 0 := by
        unfold da
        rw [List.getD_eq_getElem?_getD, List.getElem?_eq_none (by have := h.len; omega)]
        rfl
      rw [e]
      omega
@[local simp] theorem get_pre (pre td : List Int) (k : Int) : (ints (pre ++ k :: td))[pre.length]? = some [C.t (.int .i64 k)] := by simp [ints, intc]
def DO : Option (List Int) → Out
  | none => .ret (at_ [(2, .t .nils), (3, bl false)] [] 0)
  | some r => .exit 0 (at_ [(4, .vec 0 r.length 1 0 r.length)] [.vec true 1 (ints r)] 0)
theorem dI_bad (l : List Bc) (hl : l.length ≤ 120) (k : Int) (k0 : 0 ≤ k) (k1 : k < l.length) (o td pre : List Int) (h2 : o.length = l.length) (h3 : bdo o) (hlen : pre.length + td.length ≤ 1500) (hb : badN l o k = true) :
    Ev pr (.loop (lq pr 83 0) (at_ [(0, bcs l), (4, .vec 0 o.length 1 0 o.length), (5, .vec 1 (pre.length + (td.length + 1)) 1 pre.length (td.length + 1))] [.vec true 1 (ints o), .vec true 1 (ints (pre ++ (k :: td)))] 0)) (DO none) := by
  have hkk := ints_da k0 (show k < o.length by omega)
  have hg := bcAt_lkp k0 k1
  have bk := h3 k
  have hm := moves_ev (bcAt l k)
  have mb := mv_bd (bcAt l k).op
  unfold DO
  simp only [badN, Bool.or_eq_true, decide_eq_true_eq] at hb
  unfold newN at hb
  generalize bcAt l k = x at *
  generalize mvOff x.op = off at *
  generalize mvOn x.op = on at *
  by_cases c1 : da o k < off
  · let t0 : Tp pr := .i (show ((↑(td.length + (1 : Nat)) : Int) : Int) = (↑td.length : Int) + (1 : Int) by omega)
    let t1 : Tp pr := .b (show (decide ((↑td.length : Int) + (1 : Int) > (0 : Int))) = true by simp)
    let t3 : Tp pr := .c (show (pre.length + (0 : Nat) : Nat) = pre.length by omega)
    let t4 : Tp pr := .m (show (decide ((ints (pre ++ k :: td)).length = pre.length + (td.length + (1 : Nat)))) = true by simp)
    let t5 : Tp pr := .g .crow (show ((ints (pre ++ k :: td))[pre.length]?) = some ([C.t (T.int IntKind.i64 k)]) by simp)
    let t6 : Tp pr := .g .row (show (lkp (List.map Bc.ce l) k) = some (x.ce) from hg)
    let t8 : Tp pr := .m (show (decide ((0 : Int) ≤ k ∧ k.toNat < o.length)) = true by simp [*])
    let t9 : Tp pr := .c (show ((0 : Nat) + k.toNat : Nat) = k.toNat by omega)
    let t10 : Tp pr := .m (show (decide ((ints o).length = o.length)) = true by simp)
    let t11 : Tp pr := .g .crow (show ((ints o)[k.toNat]?) = some ([C.t (T.int IntKind.i64 (da o k))]) from hkk)
    let t12 : Tp pr := .b (show (decide (da o k < off)) = true by (simp; omega))
    exact .tp [t0, t1, .m (rfl : true = true), t3, t4, t5, t6, .a (hm), t8, t9, t10, t11, t12, .b (rfl : true = true)] (by kernel_rfl)
  · have c2 : da o k - off + on > 30 := hb.resolve_left c1
    let t0 : Tp pr := .i (show ((↑(td.length + (1 : Nat)) : Int) : Int) = (↑td.length : Int) + (1 : Int) by omega)
    let t1 : Tp pr := .b (show (decide ((↑td.length : Int) + (1 : Int) > (0 : Int))) = true by simp)
    let t3 : Tp pr := .c (show (pre.length + (0 : Nat) : Nat) = pre.length by omega)
    let t4 : Tp pr := .m (show (decide ((ints (pre ++ k :: td)).length = pre.length + (td.length + (1 : Nat)))) = true by simp)
    let t5 : Tp pr := .g .crow (show ((ints (pre ++ k :: td))[pre.length]?) = some ([C.t (T.int IntKind.i64 k)]) by simp)
    let t6 : Tp pr := .g .row (show (lkp (List.map Bc.ce l) k) = some (x.ce) from hg)
    let t8 : Tp pr := .m (show (decide ((0 : Int) ≤ k ∧ k.toNat < o.length)) = true by simp [*])
    let t9 : Tp pr := .c (show ((0 : Nat) + k.toNat : Nat) = k.toNat by omega)
    let t10 : Tp pr := .m (show (decide ((ints o).length = o.length)) = true by simp)
    let t11 : Tp pr := .g .crow (show ((ints o)[k.toNat]?) = some ([C.t (T.int IntKind.i64 (da o k))]) from hkk)
    let t12 : Tp pr := .b (show (decide (da o k < off)) = false by (simp; omega))
    let t13 : Tp pr := .m (show (decide ((0 : Int) ≤ k ∧ k.toNat < o.length)) = true by simp [*])
    let t14 : Tp pr := .c (show ((0 : Nat) + k.toNat : Nat) = k.toNat by omega)
    let t15 : Tp pr := .m (show (decide ((ints o).length = o.length)) = true by simp)
    let t16 : Tp pr := .g .crow (show ((ints o)[k.toNat]?) = some ([C.t (T.int IntKind.i64 (da o k))]) from hkk)
    let t17 : Tp pr := .i (wrap_i64 (a := da o k - off) (by omega) (by omega))
    let t18 : Tp pr := .i (wrap_i64 (a := da o k - off + on) (by omega) (by omega))
    let t19 : Tp pr := .b (show (decide (da o k - off + on > (30 : Int))) = true by (simp; omega))
    exact .tp [t0, t1, .m (rfl : true = true), t3, t4, t5, t6, .a (hm), t8, t9, t10, t11, t12, t13, t14, t15, t16, t17, t18, t19] (by kernel_rfl)
theorem dI_go (l : List Bc) (hl : l.length ≤ 120) (k : Int) (k0 : 0 ≤ k) (k1 : k < l.length) (o td pre : List Int) (h2 : o.length = l.length) (h3 : bdo o) (hlen : pre.length + td.length ≤ 1500) (hb : badN l o k = false) (Z : Out)
    (g : Ev pr (.loop (lq pr 83 1) (at_ [(0, bcs l), (4, .vec 0 o.length 1 0 o.length), (5, .vec 1 (pre.length + (td.length + 1)) 1 pre.length (td.length + 1)), (6, i64 k), (7, i64 (mvOff (bcAt l k).op)), (8, i64 (mvOn (bcAt l k).op)), (56, isq (nextOf (bcAt l k) k)), (57, i64 (nextOf (bcAt l k) k).length), (58, i64 0)] [.vec true 1 (ints o), .vec true 1 (ints (pre ++ (k :: td)))] 0)) Z)
    (Y : Out) (hY : (Z = .ret (at_ [(2, .t .nils), (3, bl false)] [] 0) ∧ Y = Z) ∨ ∃ o' td' pre' : List Int, pre'.length + td'.length ≤ 2000 ∧
      Z = .exit 2 (at_ [(0, bcs l), (4, .vec 0 o'.length 1 0 o'.length), (5, .vec 1 (pre'.length + (td'.length + 1)) 1 pre'.length (td'.length + 1))] [.vec true 1 (ints o'), .vec true 1 (ints (pre' ++ (k :: td')))] 0) ∧
      Ev pr (.loop (lq pr 83 0) (at_ [(0, bcs l), (4, .vec 0 o'.length 1 0 o'.length), (5, .vec 1 (pre'.length + (td'.length + 1)) 1 (pre'.length + 1) td'.length)] [.vec true 1 (ints o'), .vec true 1 (ints (pre' ++ (k :: td')))] 0)) Y) :
    Ev pr (.loop (lq pr 83 0) (at_ [(0, bcs l), (4, .vec 0 o.length 1 0 o.length), (5, .vec 1 (pre.length + (td.length + 1)) 1 pre.length (td.length + 1))] [.vec true 1 (ints o), .vec true 1 (ints (pre ++ (k :: td)))] 0)) Y := by
  have hkk := ints_da k0 (show k < o.length by omega)
  have hg := bcAt_lkp k0 k1
  have bk := h3 k
  have hm := moves_ev (bcAt l k)
  have mb := mv_bd (bcAt l k).op
  have hn := goesTo_ev (bcAt l k) k k0 (by omega)
  simp only [badN, Bool.or_eq_false_iff, decide_eq_false_iff_not] at hb
  unfold newN at hb
  have hb1 := hb.1
  have hb2 := hb.2
  generalize nextOf (bcAt l k) k = nx at *
  generalize bcAt l k = x at *
  generalize mvOff x.op = off at *
  generalize mvOn x.op = on at *
  rcases hY with ⟨e1, e2⟩ | ⟨o', td', pre', hl2, e1, ih⟩
  · subst e2
    subst e1
    let t0 : Tp pr := .i (show ((↑(td.length + (1 : Nat)) : Int) : Int) = (↑td.length : Int) + (1 : Int) by omega)
    let t1 : Tp pr := .b (show (decide ((↑td.length : Int) + (1 : Int) > (0 : Int))) = true by simp)
    let t3 : Tp pr := .c (show (pre.length + (0 : Nat) : Nat) = pre.length by omega)
    let t4 : Tp pr := .m (show (decide ((ints (pre ++ k :: td)).length = pre.length + (td.length + (1 : Nat)))) = true by simp)
    let t5 : Tp pr := .g .crow (show ((ints (pre ++ k :: td))[pre.length]?) = some ([C.t (T.int IntKind.i64 k)]) by simp)
    let t6 : Tp pr := .g .row (show (lkp (List.map Bc.ce l) k) = some (x.ce) from hg)
    let t8 : Tp pr := .m (show (decide ((0 : Int) ≤ k ∧ k.toNat < o.length)) = true by simp [*])
    let t9 : Tp pr := .c (show ((0 : Nat) + k.toNat : Nat) = k.toNat by omega)
    let t10 : Tp pr := .m (show (decide ((ints o).length = o.length)) = true by simp)
    let t11 : Tp pr := .g .crow (show ((ints o)[k.toNat]?) = some ([C.t (T.int IntKind.i64 (da o k))]) from hkk)
    let t12 : Tp pr := .b (show (decide (da o k < off)) = false by (simp; omega))
    let t13 : Tp pr := .m (show (decide ((0 : Int) ≤ k ∧ k.toNat < o.length)) = true by simp [*])
    let t14 : Tp pr := .c (show ((0 : Nat) + k.toNat : Nat) = k.toNat by omega)
    let t15 : Tp pr := .m (show (decide ((ints o).length = o.length)) = true by simp)
    let t16 : Tp pr := .g .crow (show ((ints o)[k.toNat]?) = some ([C.t (T.int IntKind.i64 (da o k))]) from hkk)
    let t17 : Tp pr := .i (wrap_i64 (a := da o k - off) (by omega) (by omega))
    let t18 : Tp pr := .i (wrap_i64 (a := da o k - off + on) (by omega) (by omega))
    let t19 : Tp pr := .b (show (decide (da o k - off + on > (30 : Int))) = false by (simp; omega))
    let t20 : Tp pr := .g .row (show (lkp (List.map Bc.ce l) k) = some (x.ce) from hg)
    let t22 : Tp pr := .i (show ((↑(List.map intt nx).length : Int) : Int) = (↑nx.length : Int) by simp)
    exact .tp [t0, t1, .m (rfl : true = true), t3, t4, t5, t6, .a (hm), t8, t9, t10, t11, t12, t13, t14, t15, t16, t17, t18, t19, t20, .a (hn), t22, .a (g)] (by kernel_rfl)
  · subst e1
    let t0 : Tp pr := .i (show ((↑(td.length + (1 : Nat)) : Int) : Int) = (↑td.length : Int) + (1 : Int) by omega)
    let t1 : Tp pr := .b (show (decide ((↑td.length : Int) + (1 : Int) > (0 : Int))) = true by simp)
    let t3 : Tp pr := .c (show (pre.length + (0 : Nat) : Nat) = pre.length by omega)
    let t4 : Tp pr := .m (show (decide ((ints (pre ++ k :: td)).length = pre.length + (td.length + (1 : Nat)))) = true by simp)
    let t5 : Tp pr := .g .crow (show ((ints (pre ++ k :: td))[pre.length]?) = some ([C.t (T.int IntKind.i64 k)]) by simp)
    let t6 : Tp pr := .g .row (show (lkp (List.map Bc.ce l) k) = some (x.ce) from hg)
    let t8 : Tp pr := .m (show (decide ((0 : Int) ≤ k ∧ k.toNat < o.length)) = true by simp [*])
    let t9 : Tp pr := .c (show ((0 : Nat) + k.toNat : Nat) = k.toNat by omega)
    let t10 : Tp pr := .m (show (decide ((ints o).length = o.length)) = true by simp)
    let t11 : Tp pr := .g .crow (show ((ints o)[k.toNat]?) = some ([C.t (T.int IntKind.i64 (da o k))]) from hkk)
    let t12 : Tp pr := .b (show (decide (da o k < off)) = false by (simp; omega))
    let t13 : Tp pr := .m (show (decide ((0 : Int) ≤ k ∧ k.toNat < o.length)) = true by simp [*])
    let t14 : Tp pr := .c (show ((0 : Nat) + k.toNat : Nat) = k.toNat by omega)
    let t15 : Tp pr := .m (show (decide ((ints o).length = o.length)) = true by simp)
    let t16 : Tp pr := .g .crow (show ((ints o)[k.toNat]?) = some ([C.t (T.int IntKind.i64 (da o k))]) from hkk)
    let t17 : Tp pr := .i (wrap_i64 (a := da o k - off) (by omega) (by omega))
    let t18 : Tp pr := .i (wrap_i64 (a := da o k - off + on) (by omega) (by omega))
    let t19 : Tp pr := .b (show (decide (da o k - off + on > (30 : Int))) = false by (simp; omega))
    let t20 : Tp pr := .g .row (show (lkp (List.map Bc.ce l) k) = some (x.ce) from hg)
    let t22 : Tp pr := .i (show ((↑(List.map intt nx).length : Int) : Int) = (↑nx.length : Int) by simp)
    let t24 : Tp pr := .m (show (decide ((0 : Int) ≤ (1 : Int) ∧ (1 : Int) ≤ (↑(td'.length + (1 : Nat)) : Int) ∧ pre'.length + (↑(td'.length + (1 : Nat)) : Int).toNat ≤ pre'.length + (td'.length + (1 : Nat)))) = true by (simp; omega))
    let t25 : Tp pr := .c (rfl : (pre'.length + (1 : Nat)) = _)
    let t26 : Tp pr := .c (show ((↑(td'.length + (1 : Nat)) : Int).toNat - (1 : Nat) : Nat) = td'.length by omega)
    exact .tp [t0, t1, .m (rfl : true = true), t3, t4, t5, t6, .a (hm), t8, t9, t10, t11, t12, t13, t14, t15, t16, t17, t18, t19, t20, .a (hn), t22, .a (g), t24, t25, t26, .a (ih)] (by kernel_rfl)
theorem nextOf_len (x : Bc) (k : Int) : (nextOf x k).length ≤ 2 := by
  unfold nextOf
  repeat' split
  all_goals simp
theorem nextOf_le {l : List Bc} (hg : goodCode l = true) {k : Int} (h0 : 0 ≤ k) (h1 : k < l.length) : ∀ t ∈ nextOf (bcAt l k) k, 0 ≤ t ∧ t ≤ l.length := fun t ht => by
  refine ⟨next_nn hg h0 h1 t ht, ?_⟩
  have hk : k.toNat < l.length := by omega
  have hx : bcAt l k ∈ l := by
    unfold bcAt
    rw [List.getD_eq_getElem?_getD, List.getElem?_eq_getElem hk]
    exact List.getElem_mem hk
  have hb := goodCode_mem hg hx
  generalize bcAt l k = x at *
  unfold nextOf at ht
  by_cases c6 : x.op = 6
  · rw [if_pos c6] at ht
    simp only [bcOk, c6] at hb
    simp at ht
    grind
  · rw [if_neg c6] at ht
    by_cases c7 : x.op = 7
    · rw [if_pos c7] at ht
      simp only [bcOk, c7] at hb
      simp at ht
      grind
    · rw [if_neg c7] at ht
      split at ht
      · simp at ht
      · simp at ht; omega
theorem dOutI_ev (l : List Bc) (hg : goodCode l = true) : ∀ (f : Nat) (o td pre : List Int), DInv l o td → 2 * neg1 o + td.length < f → pre.length + f ≤ 500 →
    Ev pr (.loop (lq pr 83 0) (at_ [(0, bcs l), (4, .vec 0 o.length 1 0 o.length), (5, .vec 1 (pre.length + td.length) 1 pre.length td.length)] [.vec true 1 (ints o), .vec true 1 (ints (pre ++ td))] 0)) (DO (depGo l f o td))
  | 0, o, td, pre, h, hf, hp => absurd hf (by omega)
  | f + 1, o, [], pre, h, hf, hp => by
    have hl := (goodCode_len hg).2
    unfold depGo DO
    have := h.len
    let t0 : Tp pr := .i (rfl : ((0 : Int) : Int) = (0 : Int))
    exact .tp [t0, .b (rfl : false = false)] (by kernel_rfl)
  | f + 1, o, k :: td, pre, h, hf, hp => by
    have hl := (goodCode_len hg).2
    obtain ⟨⟨k0, k1⟩, k2⟩ := h.tds k (by simp)
    have hbd := bdo_of h
    have hlen := h.len
    simp only [List.length_cons] at hf
    cases hb : badN l o k
    · have mv := mv_all l o k hb
      have mb := mv_bd (bcAt l k).op
      obtain ⟨pre', hp', g⟩ := dInI_ev l hl k (mvOff (bcAt l k).op) (mvOn (bcAt l k).op) k0 k1 ⟨mb.1, mb.2.1⟩ ⟨mb.2.2.1, mb.2.2.2⟩ (nextOf (bcAt l k) k) (by have := nextOf_len (bcAt l k) k; omega) (nextOf (bcAt l k) k) [] o td pre rfl hlen hbd (nextOf_le hg k0 k1) k2 mv.1 mv.2.1 (by have := nextOf_len (bcAt l k) k; omega) (by omega)
      rw [show da o k - mvOff (bcAt l k).op + mvOn (bcAt l k).op = newN l o k from rfl, show (pre ++ (k :: td)).length = pre.length + (td.length + 1) by simp] at g
      refine dI_go l hl k k0 k1 o td pre hlen hbd (by omega) hb _ g _ ?_
      rw [depGo, if_neg (by simp [hb])]
      cases hz : putN l.length (newN l o k) (nextOf (bcAt l k) k) o td with
      | none => exact .inl ⟨rfl, rfl⟩
      | some q =>
        have st := dInv_step hg h hb (o' := q.1) (td' := q.2) hz
        have ih := dOutI_ev l hg f q.1 q.2 (pre' ++ [k]) st.1 (by omega) (by simp; omega)
        refine .inr ⟨q.1, q.2, pre', by omega, ?_, ?_⟩
        · rw [show InO l [k] 2 (some q) pre' = .exit 2 (at_ [(0, bcs l), (4, .vec 0 q.1.length 1 0 q.1.length), (5, .vec 1 (pre' ++ (k :: q.2)).length 1 pre'.length (q.2.length + 1))] [.vec true 1 (ints q.1), .vec true 1 (ints (pre' ++ (k :: q.2)))] 0) from rfl, show (pre' ++ (k :: q.2)).length = pre'.length + (q.2.length + 1) by simp]
        · rw [show (pre' ++ [k]).length = pre'.length + 1 by simp, show pre' ++ [k] ++ q.2 = pre' ++ (k :: q.2) by simp, show pre'.length + 1 + q.2.length = pre'.length + (q.2.length + 1) by omega] at ih
          exact ih
    · have g := dI_bad l hl k k0 k1 o td pre hlen hbd (by omega) hb
      rw [depGo, if_pos hb]
      exact g
def depO (e : V) : Option (List Int) → Out
  | none => .val (.tup [e, bl false]) []
  | some r => .val (.tup [isq r, bl true]) []
theorem dep_loop (l : List Bc) (hg : goodCode l = true) : Ev pr (.loop (lq pr 83 0) (at_ [(0, bcs l), (4, .vec 0 l.length 1 0 l.length), (5, .vec 1 1 1 0 1)] [.vec true 1 (ints (dep0 l.length)), .vec true 1 [[C.t (.int .i64 0)]]] 0)) (DO (depP l)) := by
  have h := dep0_neg (n := l.length)
  have hl := (goodCode_len hg).2
  have g := dOutI_ev l hg (2 * l.length + 2) (dep0 l.length) [0] [] (dInv0 hg) (by simp only [List.length_singleton]; omega) (by simp; omega)
  rw [show (dep0 l.length).length = l.length by simp [dep0]] at g
  exact g
theorem depths_ev (l : List Bc) (hg : goodCode l = true) : Ev pr (.call 83 [bcs l] []) (depO (isq []) (depP l)) := by
  have hl := goodCode_len hg
  have r := repeat_ev l.length (by omega)
  have g := dep_loop l hg
  rw [show ints (dep0 l.length) = (List.replicate l.length [C.t (.int .i64 (-1))]).set 0 [C.t (.int .i64 0)] by simp [ints, dep0, List.map_set, intc]] at g
  have hset : (ints (List.replicate l.length (-1))).set 0 [C.t (.int .i64 0)] = ints (dep0 l.length) := by simp [ints, dep0, List.map_set, intc]
  have hget : (ints (List.replicate l.length (-1)))[0]? = some [C.t (.int .i64 (-1))] := by
    rw [ints, List.getElem?_map, List.getElem?_replicate, if_pos (by omega)]
    rfl
  cases hd : depP l with
  | none =>
    rw [hd] at g
    unfold DO at g
    unfold depO
    let t0 : Tp pr := .i (show ((↑(List.map Bc.ce l).length : Int) : Int) = (↑l.length : Int) by simp)
    let t2 : Tp pr := .n .rows (show (List.map (fun x => List.map C.fz x) (List.take (1 : Nat) (List.drop (0 : Nat) [[C.t (T.int IntKind.i64 (-1 : Int))]]))) = [[(C.t (T.int IntKind.i64 (-1 : Int))).fz]] by simp)
    let t4 : Tp pr := .m (show (true && [Ob.vec true (1 : Nat) (ints (List.replicate l.length (-1 : Int)))].all Ob.flat) = true by simp)
    let t5 : Tp pr := .m (show (decide ((0 : Int) ≤ (0 : Int) ∧ (0 : Nat) < l.length)) = true by (simp; omega))
    let t7 : Tp pr := .m (show (decide ((ints (List.replicate l.length (-1 : Int))).length = l.length)) = true by simp)
    let t8 : Tp pr := .g .crow (show ((ints (List.replicate l.length (-1 : Int)))[(0 : Nat)]?) = some ([C.t (T.int IntKind.i64 (-1 : Int))]) from hget)
    let t9 : Tp pr := .n .crows (show ((ints (List.replicate l.length (-1 : Int))).set (0 : Nat) [C.t (T.int IntKind.i64 (0 : Int))]) = (List.replicate l.length [C.t (T.int IntKind.i64 (-1 : Int))]).set (0 : Nat) [C.t (T.int IntKind.i64 (0 : Int))] by simp)
    exact .tp [t0, .m (rfl : true = true), t2, .a (r), t4, t5, .c (rfl : ((0 : Nat)) = _), t7, t8, t9, .a (g)] (by kernel_rfl)
  | some o =>
    have ho := (dep_ok hg hd).len
    rw [hd] at g
    unfold DO at g
    unfold depO
    let t0 : Tp pr := .i (show ((↑(List.map Bc.ce l).length : Int) : Int) = (↑l.length : Int) by simp)
    let t2 : Tp pr := .n .rows (show (List.map (fun x => List.map C.fz x) (List.take (1 : Nat) (List.drop (0 : Nat) [[C.t (T.int IntKind.i64 (-1 : Int))]]))) = [[(C.t (T.int IntKind.i64 (-1 : Int))).fz]] by simp)
    let t4 : Tp pr := .m (show (true && [Ob.vec true (1 : Nat) (ints (List.replicate l.length (-1 : Int)))].all Ob.flat) = true by simp)
    let t5 : Tp pr := .m (show (decide ((0 : Int) ≤ (0 : Int) ∧ (0 : Nat) < l.length)) = true by (simp; omega))
    let t7 : Tp pr := .m (show (decide ((ints (List.replicate l.length (-1 : Int))).length = l.length)) = true by simp)
    let t8 : Tp pr := .g .crow (show ((ints (List.replicate l.length (-1 : Int)))[(0 : Nat)]?) = some ([C.t (T.int IntKind.i64 (-1 : Int))]) from hget)
    let t9 : Tp pr := .n .crows (show ((ints (List.replicate l.length (-1 : Int))).set (0 : Nat) [C.t (T.int IntKind.i64 (0 : Int))]) = (List.replicate l.length [C.t (T.int IntKind.i64 (-1 : Int))]).set (0 : Nat) [C.t (T.int IntKind.i64 (0 : Int))] by simp)
    let t11 : Tp pr := .m (show (decide ((ints o).length = o.length ∧ (0 : Nat) + o.length ≤ o.length)) = true by simp)
    let t12 : Tp pr := .n .rows (show (List.map (fun x => List.map C.fz x) (List.take o.length (List.drop (0 : Nat) (ints o)))) = List.map intt o by simp)
    exact .tp [t0, .m (rfl : true = true), t2, .a (r), t4, t5, .c (rfl : ((0 : Nat)) = _), t7, t8, t9, .a (g), t11, t12] (by kernel_rfl)
end Go.Ev

/- How many are on the stack at each step, by the reference. -/
namespace Go.Ev
set_option linter.unusedVariables false
set_option linter.unusedSimpArgs false
open Go.Proofs
set_option maxRecDepth 100000
set_option linter.unusedVariables false
set_option linter.unusedSimpArgs false
set_option maxHeartbeats 4000000
attribute [local simp] drop_pre take_all get_pre ints_flatC rep_flatC
def InS (l : List Bc) : Option (List Int × List Int) → List Int → Out
  | none, pre => .ret (at_ [(2, .t .nils), (3, bl false)] [] 0)
  | some q, pre => .exit 4 (at_ [(0, bcs l), (4, .vec 0 q.1.length 1 0 q.1.length), (5, .vec 1 (pre.length + q.2.length) 1 pre.length q.2.length)] [.vec true 1 (ints q.1), .vec true 1 (ints (pre ++ q.2))] 0)
theorem dS_s1 (l : List Bc) (hl : l.length ≤ 120) (n : Int) (nx : List Int) (hnx : nx.length ≤ 10) (d : Int) (d0 : 0 ≤ d) (d1 : d < nx.length)
    (o r : List Int) (p : Nat) (h2 : o.length = l.length) (h3 : bdo o) (t : Int) (ht : 0 ≤ t) (hlt : t < l.length) (h6 : 0 ≤ n) (h7 : n ≤ 30) (hrl : p + r.length ≤ 2000)
    (hg : lkp (nx.map intt) d = some [T.int .i64 t]) (c3 : da o t = n) (R : List (List C)) (Z : Out)
    (ih : Ev pr (.loop (lq pr 82 2) (at_ [(0, bcs l), (4, .vec 0 o.length 1 0 o.length), (5, .vec 1 (p + r.length) 1 p r.length), (9, i64 n), (59, isq nx), (60, i64 nx.length), (61, i64 (d + 1))] [.vec true 1 (ints o), .vec true 1 R] 0)) Z) :
    Ev pr (.loop (lq pr 82 2) (at_ [(0, bcs l), (4, .vec 0 o.length 1 0 o.length), (5, .vec 1 (p + r.length) 1 p r.length), (9, i64 n), (59, isq nx), (60, i64 nx.length), (61, i64 d)] [.vec true 1 (ints o), .vec true 1 R] 0)) Z := by
  have htt := ints_da ht (show t < o.length by omega)
  have bt := h3 t
  let t0 : Tp pr := .b (show (decide (d < (↑nx.length : Int))) = true by (simp; omega))
  let t1 : Tp pr := .g .row (show (lkp (List.map intt nx) d) = some ([T.int IntKind.i64 t]) from hg)
  let t2 : Tp pr := .i (show ((↑(List.map Bc.ce l).length : Int) : Int) = (↑l.length : Int) by simp)
  let t3 : Tp pr := .b (show (decide (t ≥ (↑l.length : Int))) = false by (simp; omega))
  let t4 : Tp pr := .m (show (decide ((0 : Int) ≤ t ∧ t.toNat < o.length)) = true by simp [*])
  let t5 : Tp pr := .c (show ((0 : Nat) + t.toNat : Nat) = t.toNat by omega)
  let t6 : Tp pr := .m (show (decide ((ints o).length = o.length)) = true by simp)
  let t7 : Tp pr := .g .crow (show ((ints o)[t.toNat]?) = some ([C.t (T.int IntKind.i64 (da o t))]) from htt)
  let t8 : Tp pr := .b (show (decide (da o t ≥ (0 : Int))) = true by (simp; omega))
  let t9 : Tp pr := .m (show (decide ((0 : Int) ≤ t ∧ t.toNat < o.length)) = true by simp [*])
  let t10 : Tp pr := .c (show ((0 : Nat) + t.toNat : Nat) = t.toNat by omega)
  let t11 : Tp pr := .m (show (decide ((ints o).length = o.length)) = true by simp)
  let t12 : Tp pr := .g .crow (show ((ints o)[t.toNat]?) = some ([C.t (T.int IntKind.i64 (da o t))]) from htt)
  let t13 : Tp pr := .b (show (da o t != n) = false by (simp; omega))
  let t14 : Tp pr := .m (show (decide ((0 : Int) ≤ t ∧ t.toNat < o.length)) = true by simp [*])
  let t15 : Tp pr := .c (show ((0 : Nat) + t.toNat : Nat) = t.toNat by omega)
  let t16 : Tp pr := .m (show (decide ((ints o).length = o.length)) = true by simp)
  let t17 : Tp pr := .g .crow (show ((ints o)[t.toNat]?) = some ([C.t (T.int IntKind.i64 (da o t))]) from htt)
  let t18 : Tp pr := .b (show (decide (da o t < (0 : Int))) = false by (simp; omega))
  let t19 : Tp pr := .i (wrap_i64 (a := d + (1 : Int)) (by omega) (by omega))
  exact .tp [t0, t1, t2, t3, t4, t5, t6, t7, t8, t9, t10, t11, t12, t13, t14, t15, t16, t17, t18, t19, .a (ih)] (by kernel_rfl)
theorem dS_s2 (l : List Bc) (hl : l.length ≤ 120) (n : Int) (nx : List Int) (hnx : nx.length ≤ 10) (d : Int) (d0 : 0 ≤ d) (d1 : d < nx.length)
    (o r pre : List Int) (h2 : o.length = l.length) (h3 : bdo o) (t : Int) (ht : 0 ≤ t) (hlt : t < l.length) (h6 : 0 ≤ n) (h7 : n ≤ 30) (hrl : pre.length + r.length ≤ 2000)
    (hg : lkp (nx.map intt) d = some [T.int .i64 t]) (c2 : da o t < 0) (Z : Out)
    (ih : Ev pr (.loop (lq pr 82 2) (at_ [(0, bcs l), (4, .vec 0 o.length 1 0 o.length), (5, .vec 1 (r.length + 1) 1 0 (r.length + 1)), (9, i64 n), (59, isq nx), (60, i64 nx.length), (61, i64 (d + 1))] [.vec true 1 (ints (o.set t.toNat n)), .vec true 1 ((ints r).append [[C.t (.int .i64 t)]])] 0)) Z) :
    Ev pr (.loop (lq pr 82 2) (at_ [(0, bcs l), (4, .vec 0 o.length 1 0 o.length), (5, .vec 1 (pre.length + r.length) 1 pre.length r.length), (9, i64 n), (59, isq nx), (60, i64 nx.length), (61, i64 d)] [.vec true 1 (ints o), .vec true 1 (ints (pre ++ r))] 0)) Z := by
  have htt := ints_da ht (show t < o.length by omega)
  have bt := h3 t
  let t0 : Tp pr := .b (show (decide (d < (↑nx.length : Int))) = true by (simp; omega))
  let t1 : Tp pr := .g .row (show (lkp (List.map intt nx) d) = some ([T.int IntKind.i64 t]) from hg)
  let t2 : Tp pr := .i (show ((↑(List.map Bc.ce l).length : Int) : Int) = (↑l.length : Int) by simp)
  let t3 : Tp pr := .b (show (decide (t ≥ (↑l.length : Int))) = false by (simp; omega))
  let t4 : Tp pr := .m (show (decide ((0 : Int) ≤ t ∧ t.toNat < o.length)) = true by simp [*])
  let t5 : Tp pr := .c (show ((0 : Nat) + t.toNat : Nat) = t.toNat by omega)
  let t6 : Tp pr := .m (show (decide ((ints o).length = o.length)) = true by simp)
  let t7 : Tp pr := .g .crow (show ((ints o)[t.toNat]?) = some ([C.t (T.int IntKind.i64 (da o t))]) from htt)
  let t8 : Tp pr := .b (show (decide (da o t ≥ (0 : Int))) = false by (simp; omega))
  let t10 : Tp pr := .m (show (decide ((0 : Int) ≤ t ∧ t.toNat < o.length)) = true by simp [*])
  let t11 : Tp pr := .c (show ((0 : Nat) + t.toNat : Nat) = t.toNat by omega)
  let t12 : Tp pr := .m (show (decide ((ints o).length = o.length)) = true by simp)
  let t13 : Tp pr := .g .crow (show ((ints o)[t.toNat]?) = some ([C.t (T.int IntKind.i64 (da o t))]) from htt)
  let t14 : Tp pr := .b (show (decide (da o t < (0 : Int))) = true by (simp; omega))
  let t15 : Tp pr := .m (show (decide ((0 : Int) ≤ t ∧ t.toNat < o.length)) = true by simp [*])
  let t16 : Tp pr := .c (show ((0 : Nat) + t.toNat : Nat) = t.toNat by omega)
  let t17 : Tp pr := .m (show (decide ((ints o).length = o.length)) = true by simp)
  let t18 : Tp pr := .g .crow (show ((ints o)[t.toNat]?) = some ([C.t (T.int IntKind.i64 (da o t))]) from htt)
  let t19 : Tp pr := .n .crows (show ((ints o).set t.toNat [C.t (T.int IntKind.i64 n)]) = ints (o.set t.toNat n) by simp)
  let t20 : Tp pr := .m (show (decide ((ints (pre ++ r)).length = pre.length + r.length ∧ pre.length + r.length ≤ pre.length + r.length)) = true by simp)
  let t21 : Tp pr := .m (show (decide ((0 : Nat) = (0 : Nat) ∧ (0 : Nat) ≤ (0 : Nat) ∧ (0 : Nat) + (List.take r.length (List.drop pre.length (ints (pre ++ r)))).length ≤ (4294967296 : Nat))) = true by (simp; omega))
  by_cases hc22 : r = []
  · let t22 : Tp pr := .b (show (decide ((0 : Nat) + (List.take r.length (List.drop pre.length (ints (pre ++ r)))).length ≤ (0 : Nat))) = true by simpa using hc22)
    let t23 : Tp pr := .c (show ((0 : Nat) + (List.take r.length (List.drop pre.length (ints (pre ++ r)))).length : Nat) = r.length by simp)
    let t24 : Tp pr := .n .crows (show (([].append (List.take r.length (List.drop pre.length (ints (pre ++ r))))).append (List.drop ((0 : Nat) + (List.take r.length (List.drop pre.length (ints (pre ++ r)))).length) [])) = ints r by simp)
    let t26 : Tp pr := .m (show (decide ((ints r).length = (0 : Nat) ∧ (0 : Nat) + r.length ≤ (0 : Nat) ∧ r.length + (1 : Nat) ≤ (4294967296 : Nat))) = true by simp [*])
    let t29 : Tp pr := .n .crows (show ((List.take r.length (ints r)).append (List.take (1 : Nat) (List.drop (0 : Nat) [[C.t (T.int IntKind.i64 t)]]))) = ints r ++ [[C.t (T.int IntKind.i64 t)]] by simp)
    let t30 : Tp pr := .i (wrap_i64 (a := d + (1 : Int)) (by omega) (by omega))
    exact .tp [t0, t1, t2, t3, t4, t5, t6, t7, t8, .b (rfl : false = false), t10, t11, t12, t13, t14, t15, t16, t17, t18, t19, t20, t21, t22, t23, t24, .m (rfl : true = true), t26, .b (rfl : false = false), .c (rfl : (r.length + (1 : Nat)) = _), t29, t30, .a (ih)] (by kernel_rfl)
  · let t22 : Tp pr := .b (show (decide ((0 : Nat) + (List.take r.length (List.drop pre.length (ints (pre ++ r)))).length ≤ (0 : Nat))) = false by simpa using hc22)
    let t23 : Tp pr := .c (show ((0 : Nat) + (List.take r.length (List.drop pre.length (ints (pre ++ r)))).length : Nat) = r.length by simp)
    let t24 : Tp pr := .n .crows (show ([].append (List.take r.length (List.drop pre.length (ints (pre ++ r))))) = ints r by simp)
    let t26 : Tp pr := .m (show (decide ((ints r).length = r.length ∧ (0 : Nat) + r.length ≤ r.length ∧ r.length + (1 : Nat) ≤ (4294967296 : Nat))) = true by (simp; omega))
    let t27 : Tp pr := .b (show (decide (r.length + (1 : Nat) ≤ r.length)) = false by simp)
    let t29 : Tp pr := .n .crows (show ((List.take r.length (ints r)).append (List.take (1 : Nat) (List.drop (0 : Nat) [[C.t (T.int IntKind.i64 t)]]))) = ints r ++ [[C.t (T.int IntKind.i64 t)]] by simp)
    let t30 : Tp pr := .i (wrap_i64 (a := d + (1 : Int)) (by omega) (by omega))
    exact .tp [t0, t1, t2, t3, t4, t5, t6, t7, t8, .b (rfl : false = false), t10, t11, t12, t13, t14, t15, t16, t17, t18, t19, t20, t21, t22, t23, t24, .m (rfl : true = true), t26, t27, .c (rfl : (r.length + (1 : Nat)) = _), t29, t30, .a (ih)] (by kernel_rfl)
theorem dInS_ev (l : List Bc) (hl : l.length ≤ 120) (n : Int) (n0 : 0 ≤ n) (n1 : n ≤ 30) (nx : List Int) (hnx : nx.length ≤ 10) :
    ∀ (rest dn o td pre : List Int), nx = dn ++ rest → o.length = l.length → bdo o → (∀ t ∈ rest, 0 ≤ t ∧ t ≤ l.length) → td.length + rest.length ≤ 500 → pre.length ≤ 1000 →
    ∃ pre' : List Int, pre'.length ≤ pre.length ∧
    Ev pr (.loop (lq pr 82 2) (at_ [(0, bcs l), (4, .vec 0 o.length 1 0 o.length), (5, .vec 1 (pre.length + td.length) 1 pre.length td.length), (9, i64 n), (59, isq nx), (60, i64 nx.length), (61, i64 dn.length)] [.vec true 1 (ints o), .vec true 1 (ints (pre ++ td))] 0))
      (InS l (putN l.length n rest o td) pre')
  | [], dn, o, td, pre, h1, h2, h3, h4, h8, h9 => by
    have hll : (nx.length : Int) = dn.length := by simp [h1]
    refine ⟨pre, Nat.le_refl _, ?_⟩
    unfold putN InS
    let t0 : Tp pr := .b (show (decide ((↑dn.length : Int) < (↑nx.length : Int))) = false by (simp; omega))
    exact .tp [t0] (by kernel_rfl)
  | t :: rest, dn, o, td, pre, h1, h2, h3, h4, h8, h9 => by
    have hll : (nx.length : Int) = dn.length + 1 + rest.length := by simp [h1]; omega
    have hg : lkp (nx.map intt) (dn.length : Int) = some [T.int .i64 t] := by rw [h1]; simp [intt]
    have ht := h4 t (by simp)
    have bt := h3 t
    simp only [List.length_cons] at h8
    unfold putN
    by_cases c1 : t = l.length
    · rw [if_pos (.inl (by omega))]
      refine ⟨pre, Nat.le_refl _, ?_⟩
      unfold InS
      let t0 : Tp pr := .b (show (decide ((↑dn.length : Int) < (↑nx.length : Int))) = true by (simp; omega))
      let t1 : Tp pr := .g .row (show (lkp (List.map intt nx) (↑dn.length : Int)) = some ([T.int IntKind.i64 t]) from hg)
      let t2 : Tp pr := .i (show ((↑(List.map Bc.ce l).length : Int) : Int) = (↑l.length : Int) by simp)
      let t3 : Tp pr := .b (show (decide (t ≥ (↑l.length : Int))) = true by (simp; omega))
      exact .tp [t0, t1, t2, t3, .b (rfl : true = true)] (by kernel_rfl)
    · have hlt : t < l.length := by omega
      have htt := ints_da ht.1 (show t < o.length by omega)
      by_cases c2 : da o t ≥ 0
      · by_cases c3 : da o t = n
        · obtain ⟨pre', hp, ih⟩ := dInS_ev l hl n n0 n1 nx hnx rest (dn ++ [t]) o td pre (by simp [h1]) h2 h3 (fun x hx => h4 x (by simp [hx])) (by omega) h9
          refine ⟨pre', hp, ?_⟩
          rw [if_neg (by omega), if_neg (by omega)]
          rw [show (((dn ++ [t]).length : Nat) : Int) = (dn.length : Int) + 1 by simp] at ih
          exact dS_s1 l hl n nx hnx dn.length (by omega) (by omega) o td pre.length h2 h3 t ht.1 hlt n0 n1 (by omega) hg c3 _ _ ih
        · rw [if_pos (.inr ⟨c2, c3⟩)]
          refine ⟨pre, Nat.le_refl _, ?_⟩
          unfold InS
          let t0 : Tp pr := .b (show (decide ((↑dn.length : Int) < (↑nx.length : Int))) = true by (simp; omega))
          let t1 : Tp pr := .g .row (show (lkp (List.map intt nx) (↑dn.length : Int)) = some ([T.int IntKind.i64 t]) from hg)
          let t2 : Tp pr := .i (show ((↑(List.map Bc.ce l).length : Int) : Int) = (↑l.length : Int) by simp)
          let t3 : Tp pr := .b (show (decide (t ≥ (↑l.length : Int))) = false by (simp; omega))
          let t4 : Tp pr := .m (show (decide ((0 : Int) ≤ t ∧ t.toNat < o.length)) = true by simp [*])
          let t5 : Tp pr := .c (show ((0 : Nat) + t.toNat : Nat) = t.toNat by omega)
          let t6 : Tp pr := .m (show (decide ((ints o).length = o.length)) = true by simp)
          let t7 : Tp pr := .g .crow (show ((ints o)[t.toNat]?) = some ([C.t (T.int IntKind.i64 (da o t))]) from htt)
          let t8 : Tp pr := .b (show (decide (da o t ≥ (0 : Int))) = true by (simp; omega))
          let t9 : Tp pr := .m (show (decide ((0 : Int) ≤ t ∧ t.toNat < o.length)) = true by simp [*])
          let t10 : Tp pr := .c (show ((0 : Nat) + t.toNat : Nat) = t.toNat by omega)
          let t11 : Tp pr := .m (show (decide ((ints o).length = o.length)) = true by simp)
          let t12 : Tp pr := .g .crow (show ((ints o)[t.toNat]?) = some ([C.t (T.int IntKind.i64 (da o t))]) from htt)
          let t13 : Tp pr := .b (show (da o t != n) = true by (simp; omega))
          exact .tp [t0, t1, t2, t3, t4, t5, t6, t7, t8, t9, t10, t11, t12, t13] (by kernel_rfl)
      · obtain ⟨pre', hp, ih⟩ := dInS_ev l hl n n0 n1 nx hnx rest (dn ++ [t]) (o.set t.toNat n) (td ++ [t]) [] (by simp [h1]) (by simpa using h2) (bdo_set h3 ht.1 (by omega) n0 n1) (fun x hx => h4 x (by simp [hx])) (by simp; omega) (by simp)
        refine ⟨pre', by simp only [List.length_nil] at hp; omega, ?_⟩
        rw [if_neg (by omega), if_pos (by omega)]
        rw [show (((dn ++ [t]).length : Nat) : Int) = (dn.length : Int) + 1 by simp, List.nil_append, ints_sn, List.length_set, show (td ++ [t]).length = td.length + 1 by simp, show ([] : List Int).length = 0 from rfl, Nat.zero_add] at ih
        exact dS_s2 l hl n nx hnx dn.length (by omega) (by omega) o td pre h2 h3 t ht.1 hlt n0 n1 (by omega) hg (by omega) _ ih
def DS : Option (List Int) → Out
  | none => .ret (at_ [(2, .t .nils), (3, bl false)] [] 0)
  | some r => .exit 2 (at_ [(4, .vec 0 r.length 1 0 r.length)] [.vec true 1 (ints r)] 0)
theorem dS_bad (l : List Bc) (hl : l.length ≤ 120) (k : Int) (k0 : 0 ≤ k) (k1 : k < l.length) (o td pre : List Int) (h2 : o.length = l.length) (h3 : bdo o) (hlen : pre.length + td.length ≤ 1500) (hb : badN l o k = true) :
    Ev pr (.loop (lq pr 82 1) (at_ [(0, bcs l), (4, .vec 0 o.length 1 0 o.length), (5, .vec 1 (pre.length + (td.length + 1)) 1 pre.length (td.length + 1))] [.vec true 1 (ints o), .vec true 1 (ints (pre ++ (k :: td)))] 0)) (DS none) := by
  have hkk := ints_da k0 (show k < o.length by omega)
  have hg := bcAt_lkp k0 k1
  have bk := h3 k
  have hm := l16Takes_ev (bcAt l k)
  have mb := mv_bd (bcAt l k).op
  unfold DS
  simp only [badN, Bool.or_eq_true, decide_eq_true_eq] at hb
  unfold newN at hb
  generalize bcAt l k = x at *
  generalize mvOff x.op = off at *
  generalize mvOn x.op = on at *
  by_cases c1 : da o k < off
  · let t0 : Tp pr := .i (show ((↑(td.length + (1 : Nat)) : Int) : Int) = (↑td.length : Int) + (1 : Int) by omega)
    let t1 : Tp pr := .b (show (decide ((↑td.length : Int) + (1 : Int) > (0 : Int))) = true by simp)
    let t3 : Tp pr := .c (show (pre.length + (0 : Nat) : Nat) = pre.length by omega)
    let t4 : Tp pr := .m (show (decide ((ints (pre ++ k :: td)).length = pre.length + (td.length + (1 : Nat)))) = true by simp)
    let t5 : Tp pr := .g .crow (show ((ints (pre ++ k :: td))[pre.length]?) = some ([C.t (T.int IntKind.i64 k)]) by simp)
    let t6 : Tp pr := .m (show (decide ((0 : Int) ≤ (1 : Int) ∧ (1 : Int) ≤ (↑(td.length + (1 : Nat)) : Int) ∧ pre.length + (↑(td.length + (1 : Nat)) : Int).toNat ≤ pre.length + (td.length + (1 : Nat)))) = true by (simp; omega))
    let t8 : Tp pr := .c (show ((↑(td.length + (1 : Nat)) : Int).toNat - (1 : Nat) : Nat) = td.length by omega)
    let t9 : Tp pr := .g .row (show (lkp (List.map Bc.ce l) k) = some (x.ce) from hg)
    let t11 : Tp pr := .m (show (decide ((0 : Int) ≤ k ∧ k.toNat < o.length)) = true by simp [*])
    let t12 : Tp pr := .c (show ((0 : Nat) + k.toNat : Nat) = k.toNat by omega)
    let t13 : Tp pr := .m (show (decide ((ints o).length = o.length)) = true by simp)
    let t14 : Tp pr := .g .crow (show ((ints o)[k.toNat]?) = some ([C.t (T.int IntKind.i64 (da o k))]) from hkk)
    let t15 : Tp pr := .i (wrap_i64 (a := da o k - off) (by omega) (by omega))
    let t16 : Tp pr := .i (wrap_i64 (a := da o k - off + on) (by omega) (by omega))
    let t17 : Tp pr := .m (show (decide ((0 : Int) ≤ k ∧ k.toNat < o.length)) = true by simp [*])
    let t18 : Tp pr := .c (show ((0 : Nat) + k.toNat : Nat) = k.toNat by omega)
    let t19 : Tp pr := .m (show (decide ((ints o).length = o.length)) = true by simp)
    let t20 : Tp pr := .g .crow (show ((ints o)[k.toNat]?) = some ([C.t (T.int IntKind.i64 (da o k))]) from hkk)
    let t21 : Tp pr := .b (show (decide (da o k < off)) = true by (simp; omega))
    exact .tp [t0, t1, .m (rfl : true = true), t3, t4, t5, t6, .c (rfl : (pre.length + (1 : Nat)) = _), t8, t9, .a (hm), t11, t12, t13, t14, t15, t16, t17, t18, t19, t20, t21, .b (rfl : true = true)] (by kernel_rfl)
  · have c2 : da o k - off + on > 30 := hb.resolve_left c1
    let t0 : Tp pr := .i (show ((↑(td.length + (1 : Nat)) : Int) : Int) = (↑td.length : Int) + (1 : Int) by omega)
    let t1 : Tp pr := .b (show (decide ((↑td.length : Int) + (1 : Int) > (0 : Int))) = true by simp)
    let t3 : Tp pr := .c (show (pre.length + (0 : Nat) : Nat) = pre.length by omega)
    let t4 : Tp pr := .m (show (decide ((ints (pre ++ k :: td)).length = pre.length + (td.length + (1 : Nat)))) = true by simp)
    let t5 : Tp pr := .g .crow (show ((ints (pre ++ k :: td))[pre.length]?) = some ([C.t (T.int IntKind.i64 k)]) by simp)
    let t6 : Tp pr := .m (show (decide ((0 : Int) ≤ (1 : Int) ∧ (1 : Int) ≤ (↑(td.length + (1 : Nat)) : Int) ∧ pre.length + (↑(td.length + (1 : Nat)) : Int).toNat ≤ pre.length + (td.length + (1 : Nat)))) = true by (simp; omega))
    let t8 : Tp pr := .c (show ((↑(td.length + (1 : Nat)) : Int).toNat - (1 : Nat) : Nat) = td.length by omega)
    let t9 : Tp pr := .g .row (show (lkp (List.map Bc.ce l) k) = some (x.ce) from hg)
    let t11 : Tp pr := .m (show (decide ((0 : Int) ≤ k ∧ k.toNat < o.length)) = true by simp [*])
    let t12 : Tp pr := .c (show ((0 : Nat) + k.toNat : Nat) = k.toNat by omega)
    let t13 : Tp pr := .m (show (decide ((ints o).length = o.length)) = true by simp)
    let t14 : Tp pr := .g .crow (show ((ints o)[k.toNat]?) = some ([C.t (T.int IntKind.i64 (da o k))]) from hkk)
    let t15 : Tp pr := .i (wrap_i64 (a := da o k - off) (by omega) (by omega))
    let t16 : Tp pr := .i (wrap_i64 (a := da o k - off + on) (by omega) (by omega))
    let t17 : Tp pr := .m (show (decide ((0 : Int) ≤ k ∧ k.toNat < o.length)) = true by simp [*])
    let t18 : Tp pr := .c (show ((0 : Nat) + k.toNat : Nat) = k.toNat by omega)
    let t19 : Tp pr := .m (show (decide ((ints o).length = o.length)) = true by simp)
    let t20 : Tp pr := .g .crow (show ((ints o)[k.toNat]?) = some ([C.t (T.int IntKind.i64 (da o k))]) from hkk)
    let t21 : Tp pr := .b (show (decide (da o k < off)) = false by (simp; omega))
    let t22 : Tp pr := .b (show (decide (da o k - off + on > (30 : Int))) = true by (simp; omega))
    exact .tp [t0, t1, .m (rfl : true = true), t3, t4, t5, t6, .c (rfl : (pre.length + (1 : Nat)) = _), t8, t9, .a (hm), t11, t12, t13, t14, t15, t16, t17, t18, t19, t20, t21, t22] (by kernel_rfl)
theorem dS_go (l : List Bc) (hl : l.length ≤ 120) (k : Int) (k0 : 0 ≤ k) (k1 : k < l.length) (o td pre : List Int) (h2 : o.length = l.length) (h3 : bdo o) (hlen : pre.length + td.length ≤ 1500) (hb : badN l o k = false) (Z : Out)
    (g : Ev pr (.loop (lq pr 82 2) (at_ [(0, bcs l), (4, .vec 0 o.length 1 0 o.length), (5, .vec 1 (pre.length + (td.length + 1)) 1 (pre.length + 1) td.length), (9, i64 (newN l o k)), (59, isq (nextOf (bcAt l k) k)), (60, i64 (nextOf (bcAt l k) k).length), (61, i64 0)] [.vec true 1 (ints o), .vec true 1 (ints (pre ++ (k :: td)))] 0)) Z)
    (Y : Out) (hY : (Z = .ret (at_ [(2, .t .nils), (3, bl false)] [] 0) ∧ Y = Z) ∨ ∃ o' td' pre' : List Int, pre'.length + td'.length ≤ 2000 ∧
      Z = .exit 4 (at_ [(0, bcs l), (4, .vec 0 o'.length 1 0 o'.length), (5, .vec 1 (pre'.length + td'.length) 1 pre'.length td'.length)] [.vec true 1 (ints o'), .vec true 1 (ints (pre' ++ td'))] 0) ∧
      Ev pr (.loop (lq pr 82 1) (at_ [(0, bcs l), (4, .vec 0 o'.length 1 0 o'.length), (5, .vec 1 (pre'.length + td'.length) 1 pre'.length td'.length)] [.vec true 1 (ints o'), .vec true 1 (ints (pre' ++ td'))] 0)) Y) :
    Ev pr (.loop (lq pr 82 1) (at_ [(0, bcs l), (4, .vec 0 o.length 1 0 o.length), (5, .vec 1 (pre.length + (td.length + 1)) 1 pre.length (td.length + 1))] [.vec true 1 (ints o), .vec true 1 (ints (pre ++ (k :: td)))] 0)) Y := by
  have hkk := ints_da k0 (show k < o.length by omega)
  have hg := bcAt_lkp k0 k1
  have bk := h3 k
  have hm := l16Takes_ev (bcAt l k)
  have mb := mv_bd (bcAt l k).op
  have hn := next_ev l k k0 k1 (by omega)
  simp only [badN, Bool.or_eq_false_iff, decide_eq_false_iff_not] at hb
  unfold newN at hb g
  have hb1 := hb.1
  have hb2 := hb.2
  generalize nextOf (bcAt l k) k = nx at *
  generalize bcAt l k = x at *
  generalize mvOff x.op = off at *
  generalize mvOn x.op = on at *
  rcases hY with ⟨e1, e2⟩ | ⟨o', td', pre', hl2, e1, ih⟩
  · subst e2
    subst e1
    let t0 : Tp pr := .i (show ((↑(td.length + (1 : Nat)) : Int) : Int) = (↑td.length : Int) + (1 : Int) by omega)
    let t1 : Tp pr := .b (show (decide ((↑td.length : Int) + (1 : Int) > (0 : Int))) = true by simp)
    let t3 : Tp pr := .c (show (pre.length + (0 : Nat) : Nat) = pre.length by omega)
    let t4 : Tp pr := .m (show (decide ((ints (pre ++ k :: td)).length = pre.length + (td.length + (1 : Nat)))) = true by simp)
    let t5 : Tp pr := .g .crow (show ((ints (pre ++ k :: td))[pre.length]?) = some ([C.t (T.int IntKind.i64 k)]) by simp)
    let t6 : Tp pr := .m (show (decide ((0 : Int) ≤ (1 : Int) ∧ (1 : Int) ≤ (↑(td.length + (1 : Nat)) : Int) ∧ pre.length + (↑(td.length + (1 : Nat)) : Int).toNat ≤ pre.length + (td.length + (1 : Nat)))) = true by (simp; omega))
    let t8 : Tp pr := .c (show ((↑(td.length + (1 : Nat)) : Int).toNat - (1 : Nat) : Nat) = td.length by omega)
    let t9 : Tp pr := .g .row (show (lkp (List.map Bc.ce l) k) = some (x.ce) from hg)
    let t11 : Tp pr := .m (show (decide ((0 : Int) ≤ k ∧ k.toNat < o.length)) = true by simp [*])
    let t12 : Tp pr := .c (show ((0 : Nat) + k.toNat : Nat) = k.toNat by omega)
    let t13 : Tp pr := .m (show (decide ((ints o).length = o.length)) = true by simp)
    let t14 : Tp pr := .g .crow (show ((ints o)[k.toNat]?) = some ([C.t (T.int IntKind.i64 (da o k))]) from hkk)
    let t15 : Tp pr := .i (wrap_i64 (a := da o k - off) (by omega) (by omega))
    let t16 : Tp pr := .i (wrap_i64 (a := da o k - off + on) (by omega) (by omega))
    let t17 : Tp pr := .m (show (decide ((0 : Int) ≤ k ∧ k.toNat < o.length)) = true by simp [*])
    let t18 : Tp pr := .c (show ((0 : Nat) + k.toNat : Nat) = k.toNat by omega)
    let t19 : Tp pr := .m (show (decide ((ints o).length = o.length)) = true by simp)
    let t20 : Tp pr := .g .crow (show ((ints o)[k.toNat]?) = some ([C.t (T.int IntKind.i64 (da o k))]) from hkk)
    let t21 : Tp pr := .b (show (decide (da o k < off)) = false by (simp; omega))
    let t22 : Tp pr := .b (show (decide (da o k - off + on > (30 : Int))) = false by (simp; omega))
    let t24 : Tp pr := .i (show ((↑(List.map intt nx).length : Int) : Int) = (↑nx.length : Int) by simp)
    exact .tp [t0, t1, .m (rfl : true = true), t3, t4, t5, t6, .c (rfl : (pre.length + (1 : Nat)) = _), t8, t9, .a (hm), t11, t12, t13, t14, t15, t16, t17, t18, t19, t20, t21, t22, .a (hn), t24, .a (g)] (by kernel_rfl)
  · subst e1
    let t0 : Tp pr := .i (show ((↑(td.length + (1 : Nat)) : Int) : Int) = (↑td.length : Int) + (1 : Int) by omega)
    let t1 : Tp pr := .b (show (decide ((↑td.length : Int) + (1 : Int) > (0 : Int))) = true by simp)
    let t3 : Tp pr := .c (show (pre.length + (0 : Nat) : Nat) = pre.length by omega)
    let t4 : Tp pr := .m (show (decide ((ints (pre ++ k :: td)).length = pre.length + (td.length + (1 : Nat)))) = true by simp)
    let t5 : Tp pr := .g .crow (show ((ints (pre ++ k :: td))[pre.length]?) = some ([C.t (T.int IntKind.i64 k)]) by simp)
    let t6 : Tp pr := .m (show (decide ((0 : Int) ≤ (1 : Int) ∧ (1 : Int) ≤ (↑(td.length + (1 : Nat)) : Int) ∧ pre.length + (↑(td.length + (1 : Nat)) : Int).toNat ≤ pre.length + (td.length + (1 : Nat)))) = true by (simp; omega))
    let t8 : Tp pr := .c (show ((↑(td.length + (1 : Nat)) : Int).toNat - (1 : Nat) : Nat) = td.length by omega)
    let t9 : Tp pr := .g .row (show (lkp (List.map Bc.ce l) k) = some (x.ce) from hg)
    let t11 : Tp pr := .m (show (decide ((0 : Int) ≤ k ∧ k.toNat < o.length)) = true by simp [*])
    let t12 : Tp pr := .c (show ((0 : Nat) + k.toNat : Nat) = k.toNat by omega)
    let t13 : Tp pr := .m (show (decide ((ints o).length = o.length)) = true by simp)
    let t14 : Tp pr := .g .crow (show ((ints o)[k.toNat]?) = some ([C.t (T.int IntKind.i64 (da o k))]) from hkk)
    let t15 : Tp pr := .i (wrap_i64 (a := da o k - off) (by omega) (by omega))
    let t16 : Tp pr := .i (wrap_i64 (a := da o k - off + on) (by omega) (by omega))
    let t17 : Tp pr := .m (show (decide ((0 : Int) ≤ k ∧ k.toNat < o.length)) = true by simp [*])
    let t18 : Tp pr := .c (show ((0 : Nat) + k.toNat : Nat) = k.toNat by omega)
    let t19 : Tp pr := .m (show (decide ((ints o).length = o.length)) = true by simp)
    let t20 : Tp pr := .g .crow (show ((ints o)[k.toNat]?) = some ([C.t (T.int IntKind.i64 (da o k))]) from hkk)
    let t21 : Tp pr := .b (show (decide (da o k < off)) = false by (simp; omega))
    let t22 : Tp pr := .b (show (decide (da o k - off + on > (30 : Int))) = false by (simp; omega))
    let t24 : Tp pr := .i (show ((↑(List.map intt nx).length : Int) : Int) = (↑nx.length : Int) by simp)
    exact .tp [t0, t1, .m (rfl : true = true), t3, t4, t5, t6, .c (rfl : (pre.length + (1 : Nat)) = _), t8, t9, .a (hm), t11, t12, t13, t14, t15, t16, t17, t18, t19, t20, t21, t22, .a (hn), t24, .a (g), .a (ih)] (by kernel_rfl)
theorem dOutS_ev (l : List Bc) (hg : goodCode l = true) : ∀ (f : Nat) (o td pre : List Int), DInv l o td → 2 * neg1 o + td.length < f → pre.length + f ≤ 500 →
    Ev pr (.loop (lq pr 82 1) (at_ [(0, bcs l), (4, .vec 0 o.length 1 0 o.length), (5, .vec 1 (pre.length + td.length) 1 pre.length td.length)] [.vec true 1 (ints o), .vec true 1 (ints (pre ++ td))] 0)) (DS (depGo l f o td))
  | 0, o, td, pre, h, hf, hp => absurd hf (by omega)
  | f + 1, o, [], pre, h, hf, hp => by
    have hl := (goodCode_len hg).2
    unfold depGo DS
    have := h.len
    let t0 : Tp pr := .i (rfl : ((0 : Int) : Int) = (0 : Int))
    exact .tp [t0, .b (rfl : false = false)] (by kernel_rfl)
  | f + 1, o, k :: td, pre, h, hf, hp => by
    have hl := (goodCode_len hg).2
    obtain ⟨⟨k0, k1⟩, k2⟩ := h.tds k (by simp)
    have hbd := bdo_of h
    have hlen := h.len
    simp only [List.length_cons] at hf
    cases hb : badN l o k
    · have mv := mv_all l o k hb
      obtain ⟨pre', hp', g⟩ := dInS_ev l hl (newN l o k) mv.1 mv.2.1 (nextOf (bcAt l k) k) (by have := nextOf_len (bcAt l k) k; omega) (nextOf (bcAt l k) k) [] o td (pre ++ [k]) rfl hlen hbd (nextOf_le hg k0 k1) (by have := nextOf_len (bcAt l k) k; omega) (by simp; omega)
      rw [show (pre ++ [k]).length = pre.length + 1 by simp, show pre ++ [k] ++ td = pre ++ (k :: td) by simp, show pre.length + 1 + td.length = pre.length + (td.length + 1) by omega] at g
      rw [show (pre ++ [k]).length = pre.length + 1 by simp] at hp'
      refine dS_go l hl k k0 k1 o td pre hlen hbd (by omega) hb _ g _ ?_
      rw [depGo, if_neg (by simp [hb])]
      cases hz : putN l.length (newN l o k) (nextOf (bcAt l k) k) o td with
      | none => exact .inl ⟨rfl, rfl⟩
      | some q =>
        have st := dInv_step hg h hb (o' := q.1) (td' := q.2) hz
        have ih := dOutS_ev l hg f q.1 q.2 pre' st.1 (by omega) (by omega)
        exact .inr ⟨q.1, q.2, pre', by omega, rfl, ih⟩
    · have g := dS_bad l hl k k0 k1 o td pre hlen hbd (by omega) hb
      rw [depGo, if_pos hb]
      exact g
end Go.Ev

/- Code that is checked, by both. -/
namespace Go.Ev
set_option linter.unusedVariables false
set_option linter.unusedSimpArgs false
open Go.Proofs
set_option maxRecDepth 100000
set_option linter.unusedVariables false
set_option linter.unusedSimpArgs false
set_option maxHeartbeats 4000000
attribute [local simp] drop_pre take_all get_pre ints_flatC rep_flatC
theorem ngL_ev (l : List Bc) (hl : l.length ≤ 120) : ∀ (n m : Nat), m + n = l.length →
    Ev pr (.loop (lq pr 82 0) (at_ [(0, bcs l), (4, .vec 0 m 1 0 m), (13, i64 l.length), (14, i64 m)] [.vec true 1 (List.replicate m [C.t (.int .i64 (-1))])] 0))
      (.exit 0 (at_ [(0, bcs l), (4, .vec 0 l.length 1 0 l.length)] [.vec true 1 (List.replicate l.length [C.t (.int .i64 (-1))])] 0))
  | 0, m, h => by
    obtain rfl : m = l.length := by omega
    let t0 : Tp pr := .b (show (decide ((↑l.length : Int) < (↑l.length : Int))) = false by simp)
    exact .tp [t0] (by kernel_rfl)
  | n + 1, m, h => by
    have ih := ngL_ev l hl n (m + 1) (by omega)
    rw [show List.replicate (m + 1) [C.t (.int .i64 (-1))] = (List.replicate m [C.t (.int .i64 (-1))]).append [[C.t (.int .i64 (-1))]] by rw [List.replicate_succ']; rfl] at ih
    have ht : List.take m (List.replicate m [C.t (.int .i64 (-1))]) = List.replicate m [C.t (.int .i64 (-1))] := List.take_of_length_le (by simp)
    let t0 : Tp pr := .b (show (decide ((↑m : Int) < (↑l.length : Int))) = true by (simp; omega))
    let t2 : Tp pr := .m (show (decide ((List.replicate m [C.t (T.int IntKind.i64 (-1 : Int))]).length = m ∧ (0 : Nat) + m ≤ m ∧ m + (1 : Nat) ≤ (4294967296 : Nat))) = true by (simp; omega))
    let t3 : Tp pr := .b (show (decide (m + (1 : Nat) ≤ m)) = false by simp)
    let t5 : Tp pr := .n .crows (show ((List.take m (List.replicate m [C.t (T.int IntKind.i64 (-1 : Int))])).append (List.take (1 : Nat) (List.drop (0 : Nat) [[C.t (T.int IntKind.i64 (-1 : Int))]]))) = List.replicate m [C.t (T.int IntKind.i64 (-1 : Int))] ++ [[C.t (T.int IntKind.i64 (-1 : Int))]] by simp)
    let t6 : Tp pr := .i (wrap_i64 (a := (↑m : Int) + (1 : Int)) (by omega) (by omega))
    exact .tp [t0, .m (rfl : true = true), t2, t3, .c (rfl : (m + (1 : Nat)) = _), t5, t6, .a (ih)] (by kernel_rfl)
theorem l16Check_ev (l : List Bc) (hg : goodCode l = true) : Ev pr (.call 82 [bcs l] []) (depO (isq []) (depP l)) := by
  have hl := goodCode_len hg
  have r := ngL_ev l hl.2 l.length 0 (by omega)
  have hneg := dep0_neg (n := l.length)
  have g := dOutS_ev l hg (2 * l.length + 2) (dep0 l.length) [0] [] (dInv0 hg) (by simp only [List.length_singleton]; omega) (by simp; omega)
  rw [show (dep0 l.length).length = l.length by simp [dep0], show depGo l (2 * l.length + 2) (dep0 l.length) [0] = depP l from rfl, show ints (dep0 l.length) = (List.replicate l.length [C.t (.int .i64 (-1))]).set 0 [C.t (.int .i64 0)] by simp [ints, dep0, List.map_set, intc],
    show ([] : List Int) ++ [0] = [0] from rfl, show ints [0] = [[C.t (.int .i64 0)]] from rfl, show ([] : List Int).length = 0 from rfl, show ([0] : List Int).length = 1 from rfl, Nat.zero_add] at g
  rw [show List.replicate 0 [C.t (.int .i64 (-1))] = [] from rfl] at r
  have hget : (List.replicate l.length [C.t (.int .i64 (-1))])[0]? = some [C.t (.int .i64 (-1))] := by
    rw [List.getElem?_replicate, if_pos (by omega)]
  cases hd : depP l with
  | none =>
    rw [hd] at g
    unfold DS at g
    unfold depO
    let t0 : Tp pr := .i (show ((↑(List.map Bc.ce l).length : Int) : Int) = (↑l.length : Int) by simp)
    let t2 : Tp pr := .m (show (decide ((0 : Int) ≤ (0 : Int) ∧ (0 : Nat) < l.length)) = true by (simp; omega))
    let t4 : Tp pr := .m (show (decide ((List.replicate l.length [C.t (T.int IntKind.i64 (-1 : Int))]).length = l.length)) = true by simp)
    let t5 : Tp pr := .g .crow (show ((List.replicate l.length [C.t (T.int IntKind.i64 (-1 : Int))])[(0 : Nat)]?) = some ([C.t (T.int IntKind.i64 (-1 : Int))]) from hget)
    let t6 : Tp pr := .n .crows (rfl : ((List.replicate l.length [C.t (T.int IntKind.i64 (-1 : Int))]).set (0 : Nat) [C.t (T.int IntKind.i64 (0 : Int))]) = _)
    exact .tp [t0, .a (r), t2, .c (rfl : ((0 : Nat)) = _), t4, t5, t6, .a (g)] (by kernel_rfl)
  | some o =>
    have ho := (dep_ok hg hd).len
    rw [hd] at g
    unfold DS at g
    unfold depO
    let t0 : Tp pr := .i (show ((↑(List.map Bc.ce l).length : Int) : Int) = (↑l.length : Int) by simp)
    let t2 : Tp pr := .m (show (decide ((0 : Int) ≤ (0 : Int) ∧ (0 : Nat) < l.length)) = true by (simp; omega))
    let t4 : Tp pr := .m (show (decide ((List.replicate l.length [C.t (T.int IntKind.i64 (-1 : Int))]).length = l.length)) = true by simp)
    let t5 : Tp pr := .g .crow (show ((List.replicate l.length [C.t (T.int IntKind.i64 (-1 : Int))])[(0 : Nat)]?) = some ([C.t (T.int IntKind.i64 (-1 : Int))]) from hget)
    let t6 : Tp pr := .n .crows (rfl : ((List.replicate l.length [C.t (T.int IntKind.i64 (-1 : Int))]).set (0 : Nat) [C.t (T.int IntKind.i64 (0 : Int))]) = _)
    let t8 : Tp pr := .m (show (decide ((ints o).length = o.length ∧ (0 : Nat) + o.length ≤ o.length)) = true by simp)
    let t9 : Tp pr := .n .rows (show (List.map (fun x => List.map C.fz x) (List.take o.length (List.drop (0 : Nat) (ints o)))) = List.map intt o by simp)
    exact .tp [t0, .a (r), t2, .c (rfl : ((0 : Nat)) = _), t4, t5, t6, .a (g), t8, t9] (by kernel_rfl)
theorem CheckI0_ev (l : List Bc) (hl : l.length ≤ 1000000) (hg : goodCode l = false) : Ev pr (.call 39 [bcs l] []) (.val (.tup [isq [], bl false, bl false]) []) := by
  have g := GoodCodeI_ev l hl
  rw [hg] at g
  exact .tp [.a (g), .b (rfl : true = true)] (by kernel_rfl)
theorem CheckI1_ev (l : List Bc) (hg : goodCode l = true) (hd : depP l = none) : Ev pr (.call 39 [bcs l] []) (.val (.tup [isq [], bl false, bl true]) []) := by
  have hl := goodCode_len hg
  have g := GoodCodeI_ev l (by omega)
  rw [hg] at g
  have d := depths_ev l hg
  rw [hd] at d
  unfold depO at d
  exact .tp [.a (g), .b (rfl : false = false), .a (d)] (by kernel_rfl)
theorem CheckI2_ev (l : List Bc) (o : List Int) (hg : goodCode l = true) (hd : depP l = some o) : Ev pr (.call 39 [bcs l] []) (.val (.tup [isq o, bl true, bl true]) []) := by
  have hl := goodCode_len hg
  have g := GoodCodeI_ev l (by omega)
  rw [hg] at g
  have d := depths_ev l hg
  rw [hd] at d
  unfold depO at d
  exact .tp [.a (g), .b (rfl : false = false), .a (d)] (by kernel_rfl)
theorem CheckS0_ev (l : List Bc) (hl : l.length ≤ 1000000) (hg : goodCode l = false) : Ev pr (.call 38 [bcs l] []) (.val (.tup [isq [], bl false, bl false]) []) := by
  have g := GoodCodeS_ev l hl
  rw [hg] at g
  exact .tp [.a (g), .b (rfl : true = true)] (by kernel_rfl)
theorem CheckS1_ev (l : List Bc) (hg : goodCode l = true) (hd : depP l = none) : Ev pr (.call 38 [bcs l] []) (.val (.tup [isq [], bl false, bl true]) []) := by
  have hl := goodCode_len hg
  have g := GoodCodeS_ev l (by omega)
  rw [hg] at g
  have d := l16Check_ev l hg
  rw [hd] at d
  unfold depO at d
  exact .tp [.a (g), .b (rfl : false = false), .a (d), .b (rfl : true = true)] (by kernel_rfl)
theorem CheckS2_ev (l : List Bc) (o : List Int) (hg : goodCode l = true) (hd : depP l = some o) : Ev pr (.call 38 [bcs l] []) (.val (.tup [isq o, bl true, bl true]) []) := by
  have hl := goodCode_len hg
  have g := GoodCodeS_ev l (by omega)
  rw [hg] at g
  have d := l16Check_ev l hg
  rw [hd] at d
  unfold depO at d
  exact .tp [.a (g), .b (rfl : false = false), .a (d), .b (rfl : false = false)] (by kernel_rfl)
theorem maxL_ev (o : List Int) (ho : o.length ≤ 1000) : ∀ (rest dn : List Int) (m : Int), o = dn ++ rest →
    Ev pr (.loop (lq pr 70 0) (at_ [(0, isq o), (3, i64 m), (4, i64 dn.length)] [] 0)) (.exit 0 (at_ [(3, i64 (rest.foldl (fun m n => if n > m then n else m) m))] [] 0))
  | [], dn, m, h => by
    have hll : (o.length : Int) = dn.length := by simp [h]
    let t0 : Tp pr := .i (show ((↑(List.map intt o).length : Int) : Int) = (↑o.length : Int) by simp)
    let t1 : Tp pr := .b (show (decide ((↑dn.length : Int) < (↑o.length : Int))) = false by (simp; omega))
    exact .tp [t0, t1] (by kernel_rfl)
  | x :: rest, dn, m, h => by
    have hll : (o.length : Int) = dn.length + 1 + rest.length := by simp [h]; omega
    have hg : lkp (o.map intt) (dn.length : Int) = some [T.int .i64 x] := by rw [h]; simp [intt]
    have ih := maxL_ev o ho rest (dn ++ [x]) (if x > m then x else m) (by simp [h])
    rw [List.foldl_cons]
    by_cases c : x > m
    · rw [if_pos c] at ih ⊢
      generalize rest.foldl (fun m n => if n > m then n else m) x = z at *
      let t0 : Tp pr := .i (show ((↑(List.map intt o).length : Int) : Int) = (↑o.length : Int) by simp)
      let t1 : Tp pr := .b (show (decide ((↑dn.length : Int) < (↑o.length : Int))) = true by (simp; omega))
      let t2 : Tp pr := .g .row (show (lkp (List.map intt o) (↑dn.length : Int)) = some ([T.int IntKind.i64 x]) from hg)
      let t3 : Tp pr := .i (show (if x > m then x else m : Int) = if m < x then x else m by omega)
      let t4 : Tp pr := .i (wrap_i64 (a := (↑dn.length : Int) + (1 : Int)) (by omega) (by omega))
      let t5 : Tp pr := .a (Ev.castq ((congrArg (fun x_1 => Q.loop (lq pr (70 : FuncId) (0 : Nat)) (at_ [((0 : Nat), V.t (T.seq (1 : Nat) (List.map intt o))), ((3 : Nat), V.t (T.int IntKind.i64 x)), ((4 : Nat), V.t (T.int IntKind.i64 x_1))] [] (0 : Nat))) (show ((↑(dn ++ [x]).length : Int)) = ((↑dn.length : Int) + (1 : Int)) by simp)).trans (congrArg (fun x => Q.loop (lq pr (70 : FuncId) (0 : Nat)) (at_ [((0 : Nat), V.t (T.seq (1 : Nat) (List.map intt o))), ((3 : Nat), V.t (T.int IntKind.i64 x)), ((4 : Nat), V.t (T.int IntKind.i64 ((↑dn.length : Int) + (1 : Int))))] [] (0 : Nat))) (show (x) = (if m < x then x else m) by omega))) (ih))
      exact .tp [t0, t1, t2, t3, t4, t5] (by kernel_rfl)
    · rw [if_neg c] at ih ⊢
      generalize rest.foldl (fun m n => if n > m then n else m) m = z at *
      let t0 : Tp pr := .i (show ((↑(List.map intt o).length : Int) : Int) = (↑o.length : Int) by simp)
      let t1 : Tp pr := .b (show (decide ((↑dn.length : Int) < (↑o.length : Int))) = true by (simp; omega))
      let t2 : Tp pr := .g .row (show (lkp (List.map intt o) (↑dn.length : Int)) = some ([T.int IntKind.i64 x]) from hg)
      let t3 : Tp pr := .i (show (if x > m then x else m : Int) = if m < x then x else m by omega)
      let t4 : Tp pr := .i (wrap_i64 (a := (↑dn.length : Int) + (1 : Int)) (by omega) (by omega))
      let t5 : Tp pr := .a (Ev.castq ((congrArg (fun x_1 => Q.loop (lq pr (70 : FuncId) (0 : Nat)) (at_ [((0 : Nat), isq o), ((3 : Nat), i64 x_1), ((4 : Nat), i64 (↑(dn ++ [x]).length : Int))] [] (0 : Nat))) (show (m) = (if m < x then x else m) by omega)).trans (congrArg (fun x_1 => Q.loop (lq pr (70 : FuncId) (0 : Nat)) (at_ [((0 : Nat), isq o), ((3 : Nat), i64 (if m < x then x else m)), ((4 : Nat), i64 x_1)] [] (0 : Nat))) (show ((↑(dn ++ [x]).length : Int)) = ((↑dn.length : Int) + (1 : Int)) by simp))) (ih))
      exact .tp [t0, t1, t2, t3, t4, t5] (by kernel_rfl)
theorem Max_ev (r : List Int) (hr : r.length ≤ 900) : Ev pr (.call 70 [isq (0 :: r)] []) (.val (i64 (mostI (0 :: r))) []) := by
  have g := maxL_ev (0 :: r) (by simp; omega) r [0] 0 rfl
  rw [show mostI (0 :: r) = r.foldl (fun m n => if n > m then n else m) 0 from rfl]
  generalize r.foldl (fun m n => if n > m then n else m) 0 = z at *
  let t0 : Tp pr := .i (show ((↑(List.map intt ((0 : Int) :: r)).length : Int) : Int) = (↑r.length : Int) + (1 : Int) by simp)
  let t2 : Tp pr := .g .row (show (lkp (List.map intt ((0 : Int) :: r)) (0 : Int)) = some (intt (0 : Int)) by simp)
  exact .tp [t0, .b (rfl : false = false), t2, .a (g)] (by kernel_rfl)
theorem mostL_ev (o : List Int) (ho : o.length ≤ 1000) : ∀ (rest dn : List Int) (m : Int), o = dn ++ rest →
    Ev pr (.loop (lq pr 27 0) (at_ [(7, i64 m), (22, isq o), (23, i64 o.length), (24, i64 dn.length)] [] 0)) (.exit 0 (at_ [(7, i64 (rest.foldl (fun m n => if n > m then n else m) m))] [] 0))
  | [], dn, m, h => by
    have hll : (o.length : Int) = dn.length := by simp [h]
    let t0 : Tp pr := .b (show (decide ((↑dn.length : Int) < (↑o.length : Int))) = false by (simp; omega))
    exact .tp [t0] (by kernel_rfl)
  | x :: rest, dn, m, h => by
    have hll : (o.length : Int) = dn.length + 1 + rest.length := by simp [h]; omega
    have hg : lkp (o.map intt) (dn.length : Int) = some [T.int .i64 x] := by rw [h]; simp [intt]
    have ih := mostL_ev o ho rest (dn ++ [x]) (if x > m then x else m) (by simp [h])
    rw [List.foldl_cons]
    by_cases c : x > m
    · rw [if_pos c] at ih ⊢
      generalize rest.foldl (fun m n => if n > m then n else m) x = z at *
      let t0 : Tp pr := .b (show (decide ((↑dn.length : Int) < (↑o.length : Int))) = true by (simp; omega))
      let t1 : Tp pr := .g .row (show (lkp (List.map intt o) (↑dn.length : Int)) = some ([T.int IntKind.i64 x]) from hg)
      let t2 : Tp pr := .b (show (decide (x > m)) = true by (simp; omega))
      let t3 : Tp pr := .i (wrap_i64 (a := (↑dn.length : Int) + (1 : Int)) (by omega) (by omega))
      let t4 : Tp pr := .a (Ev.castq (congrArg (fun x_1 => Q.loop (lq pr (27 : FuncId) (0 : Nat)) (at_ [((7 : Nat), i64 x), ((22 : Nat), isq o), ((23 : Nat), i64 (↑o.length : Int)), ((24 : Nat), i64 x_1)] [] (0 : Nat))) (show ((↑(dn ++ [x]).length : Int)) = ((↑dn.length : Int) + (1 : Int)) by simp)) (ih))
      exact .tp [t0, t1, t2, t3, t4] (by kernel_rfl)
    · rw [if_neg c] at ih ⊢
      generalize rest.foldl (fun m n => if n > m then n else m) m = z at *
      let t0 : Tp pr := .b (show (decide ((↑dn.length : Int) < (↑o.length : Int))) = true by (simp; omega))
      let t1 : Tp pr := .g .row (show (lkp (List.map intt o) (↑dn.length : Int)) = some ([T.int IntKind.i64 x]) from hg)
      let t2 : Tp pr := .b (show (decide (x > m)) = false by (simp; omega))
      let t3 : Tp pr := .i (wrap_i64 (a := (↑dn.length : Int) + (1 : Int)) (by omega) (by omega))
      let t4 : Tp pr := .a (Ev.castq (congrArg (fun x => Q.loop (lq pr (27 : FuncId) (0 : Nat)) (at_ [((7 : Nat), i64 m), ((22 : Nat), isq o), ((23 : Nat), i64 (↑o.length : Int)), ((24 : Nat), i64 x)] [] (0 : Nat))) (show ((↑(dn ++ [x]).length : Int)) = ((↑dn.length : Int) + (1 : Int)) by simp)) (ih))
      exact .tp [t0, t1, t2, t3, t4] (by kernel_rfl)
theorem chk_head {l : List Bc} {o : List Int} (hg : goodCode l = true) (h : Checked l o) : ∃ r, o = 0 :: r := by
  have hl := (goodCode_len hg).1
  have hz := h.zero
  cases o with
  | nil => have := h.len; simp at this; omega
  | cons x r =>
    refine ⟨r, ?_⟩
    simp [da] at hz
    rw [hz]
def depN (l : List Bc) : Int × Bool := if goodCode l = true then (match depP l with
    | none => (0, false)
    | some o => (mostI o, true)) else (0, false)
theorem DepthI_ev (l : List Bc) (hl : l.length ≤ 1000000) : Ev pr (.call 29 [bcs l] []) (.val (.tup [i64 (depN l).1, bl (depN l).2]) []) := by
  unfold depN
  cases hg : goodCode l
  · have g := CheckI0_ev l hl hg
    rw [if_neg (by simp)]
    exact .tp [.a (g), .b (rfl : true = true), .b (rfl : true = true)] (by kernel_rfl)
  · rw [if_pos rfl]
    cases hd : depP l with
    | none =>
      have g := CheckI1_ev l hg hd
      dsimp only
      exact .tp [.a (g), .b (rfl : true = true), .b (rfl : true = true)] (by kernel_rfl)
    | some o =>
      have g := CheckI2_ev l o hg hd
      have hc := dep_ok hg hd
      obtain ⟨r, rfl⟩ := chk_head hg hc
      have hlen := hc.len
      have hl2 := (goodCode_len hg).2
      simp only [List.length_cons] at hlen
      have m := Max_ev r (by omega)
      dsimp only
      generalize mostI (0 :: r) = z at *
      exact .tp [.a (g), .b (rfl : false = false), .b (rfl : false = false), .a (m)] (by kernel_rfl)
theorem DepthS_ev (l : List Bc) (hl : l.length ≤ 1000000) : Ev pr (.call 27 [bcs l] []) (.val (.tup [i64 (depN l).1, bl (depN l).2]) []) := by
  unfold depN
  cases hg : goodCode l
  · have g := CheckS0_ev l hl hg
    rw [if_neg (by simp)]
    exact .tp [.a (g), .b (rfl : true = true), .b (rfl : true = true)] (by kernel_rfl)
  · rw [if_pos rfl]
    cases hd : depP l with
    | none =>
      have g := CheckS1_ev l hg hd
      dsimp only
      exact .tp [.a (g), .b (rfl : true = true), .b (rfl : true = true)] (by kernel_rfl)
    | some o =>
      have g := CheckS2_ev l o hg hd
      have hlen := (dep_ok hg hd).len
      have hl2 := (goodCode_len hg).2
      have m := mostL_ev o (by omega) o [] 0 rfl
      rw [show o.foldl (fun m n => if n > m then n else m) 0 = mostI o from rfl] at m
      dsimp only
      generalize mostI o = z at *
      let t3 : Tp pr := .i (show ((↑(List.map intt o).length : Int) : Int) = (↑o.length : Int) by simp)
      exact .tp [.a (g), .b (rfl : false = false), .b (rfl : false = false), t3, .a (m)] (by kernel_rfl)
end Go.Ev

/- Words and locals that are drawn. -/
namespace Go.Ev
set_option linter.unusedVariables false
set_option linter.unusedSimpArgs false
open Go.Proofs
set_option maxRecDepth 100000
set_option linter.unusedVariables false
set_option linter.unusedSimpArgs false
set_option maxHeartbeats 4000000
def strr (s : ByteArray) : List T := [T.str s]
abbrev strq (l : List ByteArray) : V := .t (.seq 1 (l.map strr))
theorem of_ex (bs : List Int) (hb : okB bs) (a s : Int) (h0 : 0 ≤ a) (ha : a ≤ 50000000) (l : List ByteArray) (hl : 0 < l.length) (hl2 : l.length ≤ 100) :
    ∃ (v : ByteArray) (a' s' : Int), (a ≤ a' ∧ a' ≤ a + 1) ∧ Ev pr (.call 104 [.ptr 0 1 0 0, strq l] [cuB bs a s]) (.val (.t (.str v)) [cuB bs a' s']) := by
  obtain ⟨v, a', s', hv, h1, e⟩ := pick_ex bs hb a s h0 ha l.length (by omega)
  have hlt : v.toNat < l.length := by omega
  have hg : lkp (l.map strr) v = some [T.str l[v.toNat]] := by simp [lkp, strr, hv.1, hlt]
  refine ⟨l[v.toNat], a', s', h1, ?_⟩
  generalize l[v.toNat] = x at hg ⊢
  unfold cuB at *
  let t0 : Tp pr := .i (show ((↑(List.map strr l).length : Int) : Int) = (↑l.length : Int) by simp)
  let t2 : Tp pr := .g .row (show (lkp (List.map strr l) v) = some ([T.str x]) from hg)
  exact .tp [t0, .a (e), t2] (by kernel_rfl)
theorem ints_snC (l : List Int) (x : Int) : ints (l ++ [x]) = (ints l).append [[C.t (.int .i64 x)]] := by simp [ints, intc]
@[local simp] theorem take_allC (r : List Int) : List.take r.length (ints r) = ints r := List.take_of_length_le (by simp)
theorem loL_ex (bs : List Int) (hb : okB bs) : ∀ (k : Nat) (l : List Int) (a s : Int), 0 ≤ a → a + k ≤ 40000000 → l.length + k = 10 →
    ∃ (l' : List Int) (a' s' : Int), l'.length = 10 ∧ (a ≤ a' ∧ a' ≤ a + k) ∧
    Ev pr (.loop (lq pr 85 0) (at_ [(0, .ptr 0 1 0 0), (3, .vec 1 l.length 1 0 l.length), (4, i64 l.length)] [cuB bs a s, .vec true 1 (ints l)] 1))
      (.exit 0 (at_ [(0, .ptr 0 1 0 0), (3, .vec 1 l'.length 1 0 l'.length)] [cuB bs a' s', .vec true 1 (ints l')] 1))
  | 0, l, a, s, h0, h1, h2 => by
    refine ⟨l, a, s, by omega, by omega, ?_⟩
    unfold cuB
    let t0 : Tp pr := .b (show (decide ((↑l.length : Int) < (10 : Int))) = false by (simp; omega))
    exact .tp [t0] (by kernel_rfl)
  | k + 1, l, a, s, h0, h1, h2 => by
    obtain ⟨v, a1, s1, hv, ha1, e1⟩ := pick_ex bs hb a s h0 (by omega) 5 (by omega)
    obtain ⟨l', a', s', hl, ha, ih⟩ := loL_ex bs hb k (l ++ [v]) a1 s1 (by omega) (by omega) (by simp; omega)
    refine ⟨l', a', s', hl, by omega, ?_⟩
    rw [ints_snC, List.length_append, List.length_singleton] at ih
    unfold cuB at *
    let t0 : Tp pr := .b (show (decide ((↑l.length : Int) < (10 : Int))) = true by (simp; omega))
    let t3 : Tp pr := .m (show (decide ((ints l).length = l.length ∧ (0 : Nat) + l.length ≤ l.length ∧ l.length + (1 : Nat) ≤ (4294967296 : Nat))) = true by (simp; omega))
    let t4 : Tp pr := .b (show (decide (l.length + (1 : Nat) ≤ l.length)) = false by simp)
    let t6 : Tp pr := .n .crows (show ((List.take l.length (ints l)).append (List.take (1 : Nat) (List.drop (0 : Nat) [[C.t (T.int IntKind.i64 v)]]))) = ints l ++ [[C.t (T.int IntKind.i64 v)]] by simp)
    let t7 : Tp pr := .i (wrap_i64 (a := (↑l.length : Int) + (1 : Int)) (by omega) (by omega))
    exact .tp [t0, .a (e1), .m (rfl : true = true), t3, t4, .c (rfl : (l.length + (1 : Nat)) = _), t6, t7, .a (ih)] (by kernel_rfl)
theorem locals_ex (bs : List Int) (hb : okB bs) (a s : Int) (h0 : 0 ≤ a) (ha : a ≤ 10000000) :
    ∃ (l : List Int) (a' s' : Int), l.length = 10 ∧ (a ≤ a' ∧ a' ≤ a + 20) ∧ Ev pr (.call 85 [.ptr 0 1 0 0] [cuB bs a s]) (.val (isq l) [cuB bs a' s']) := by
  obtain ⟨l, a1, s1, hl, ha1, e1⟩ := loL_ex bs hb 10 [] a s h0 (by omega) rfl
  obtain ⟨b, a2, s2, ha2, e2⟩ := one_ex bs hb a1 s1 (by omega) (by omega) 30 (by omega)
  rw [show ints [] = [] from rfl, show (([] : List Int).length) = 0 from rfl] at e1
  cases l with
  | nil => simp at hl
  | cons x r =>
    cases b
    · refine ⟨x :: r, a2, s2, hl, by omega, ?_⟩
      unfold cuB at *
      let t3 : Tp pr := .m (show (decide ((ints (x :: r)).length = (x :: r).length ∧ (0 : Nat) + (x :: r).length ≤ (x :: r).length)) = true by simp)
      let t4 : Tp pr := .n .rows (show (List.map (fun x => List.map C.fz x) (List.take (x :: r).length (List.drop (0 : Nat) (ints (x :: r))))) = intt x :: List.map intt r by simp)
      exact .tp [.a (e1), .a (e2), .b (rfl : false = false), t3, t4] (by kernel_rfl)
    · obtain ⟨v, a3, s3, hv, ha3, e3⟩ := among_ex bs hb a2 s2 (by omega) (by omega) [1000000000, 1000000001] (by simp) (by simp)
      have hset : (ints (x :: r)).set 0 [C.t (.int .i64 v)] = ints (v :: r) := by simp [ints, intc]
      have hget : (ints (x :: r))[0]? = some [C.t (.int .i64 x)] := by simp [ints, intc]
      refine ⟨v :: r, a3, s3, by simpa using hl, by omega, ?_⟩
      unfold cuB at *
      let t4 : Tp pr := .n .rows (show (List.map (fun x => List.map C.fz x) (List.take (2 : Nat) (List.drop (0 : Nat) [[C.t (T.int IntKind.i64 (1000000000 : Int))], [C.t (T.int IntKind.i64 (1000000001 : Int))]]))) = [[(C.t (T.int IntKind.i64 (1000000000 : Int))).fz], [(C.t (T.int IntKind.i64 (1000000001 : Int))).fz]] by simp)
      let t8 : Tp pr := .m (show (decide ((ints (x :: r)).length = (x :: r).length)) = true by simp)
      let t9 : Tp pr := .g .crow (show (some [C.t (T.int IntKind.i64 x)]) = some ([C.t (T.int IntKind.i64 x)]) from hget)
      let t10 : Tp pr := .n .crows (show ((ints (x :: r)).set (0 : Nat) [C.t (T.int IntKind.i64 v)]) = ints (v :: r) by simp)
      let t11 : Tp pr := .m (show (decide ((ints (v :: r)).length = (x :: r).length ∧ (0 : Nat) + (x :: r).length ≤ (x :: r).length)) = true by simp)
      let t12 : Tp pr := .n .rows (show (List.map (fun x => List.map C.fz x) (List.take (x :: r).length (List.drop (0 : Nat) (ints (v :: r))))) = intt v :: List.map intt r by simp)
      exact .tp [.a (e1), .a (e2), .b (rfl : true = true), .m (rfl : true = true), t4, .a (e3), .m (rfl : true = true), .c (rfl : ((0 : Nat)) = _), t8, t9, t10, t11, t12] (by kernel_rfl)
end Go.Ev
