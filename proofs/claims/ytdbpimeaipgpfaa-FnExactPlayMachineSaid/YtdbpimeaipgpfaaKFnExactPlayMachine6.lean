import Derived.Test.YtdbpimeaipgpfaaKFnExactPlayMachine5
/- Rows of the laws: sizes, copies, comparisons, marks. -/
namespace Go.Ev
set_option linter.unusedVariables false
set_option linter.unusedSimpArgs false
open Go.Proofs
set_option maxRecDepth 100000
set_option linter.unusedVariables false
set_option linter.unusedSimpArgs false
set_option maxHeartbeats 4000000
def mkCell (k : Int) : Nat → List Cell
  | 0 => []
  | n + 1 => ⟨k, k + 1⟩ :: mkCell (k + 1 + 1) n
theorem mkCell_len (k : Int) (n : Nat) : (mkCell k n).length = n := by induction n generalizing k with
  | zero => rfl
  | succ n ih => simp [mkCell, ih]
theorem markCellL_ev (J : List (List C)) : ∀ (rest m : List Cell) (k : Int), 0 ≤ k → k + 2 * rest.length ≤ 9000000 → m.length + rest.length ≤ 1048576 →
    Ev pr (.loop (lq pr 17 0) (at_ [(0, .vec 0 (m.length + rest.length + J.length) 2 0 (m.length + rest.length)), (1, i64 k), (5, i64 m.length)] [.vec true 2 (m.map Cell.cc ++ (rest.map Cell.cc ++ J))] 1))
      (.exit 0 (at_ [(1, i64 (k + 2 * rest.length))] [.vec true 2 ((m ++ mkCell k rest.length).map Cell.cc ++ J)] 1))
  | [], m, k, h0, h1, h2 => by
    simp only [List.length_nil, Nat.add_zero, mkCell, List.append_nil, Int.natCast_zero, Int.mul_zero, Int.add_zero, List.map_nil, List.nil_append] at *
    let t1 : Tp pr := .b (show (decide ((↑m.length : Int) < (↑m.length : Int))) = false by simp)
    exact .tp [.i (rfl : ((↑m.length : Int)) = _), t1] (by kernel_rfl)
  | x :: rest, m, k, h0, h1, h2 => by
    have hlr : (x :: rest).length = rest.length + 1 := rfl
    rw [hlr] at h1 h2 ⊢
    have ih := markCellL_ev J rest (m ++ [⟨k, k + 1⟩]) (k + 1 + 1) (by omega) (by omega) (by simp; omega)
    simp only [List.length_append, List.length_singleton, List.append_assoc, List.singleton_append, List.map_append, List.map_cons, List.map_nil] at ih
    rw [show k + 2 * ((rest.length + 1 : Nat) : Int) = k + 1 + 1 + 2 * rest.length by omega, show m.length + (rest.length + 1) = m.length + 1 + rest.length by omega, show mkCell k (rest.length + 1) = ⟨k, k + 1⟩ :: mkCell (k + 1 + 1) rest.length from rfl]
    simp only [List.map_append, List.map_cons, List.cons_append, List.append_assoc] at ih ⊢
    have hlm : (m.map Cell.cc).length = m.length := by simp
    have hlb : (rest.map Cell.cc ++ J).length = rest.length + J.length := by simp
    generalize rest.map Cell.cc ++ J = B at *
    let t0 : Tp pr := .i (show ((↑(m.length + (1 : Nat) + rest.length) : Int) : Int) = (↑m.length : Int) + (1 : Int) + (↑rest.length : Int) by omega)
    let t1 : Tp pr := .b (show (decide ((↑m.length : Int) < (↑m.length : Int) + (1 : Int) + (↑rest.length : Int))) = true by (simp; omega))
    let t2 : Tp pr := .m (show (decide ((0 : Int) ≤ (↑m.length : Int) ∧ (↑m.length : Int).toNat < m.length + (1 : Nat) + rest.length)) = true by (simp; omega))
    let t3 : Tp pr := .c (show ((0 : Nat) + (↑m.length : Int).toNat : Nat) = m.length by omega)
    let t4 : Tp pr := .m (show (decide (((List.map Cell.cc m).append ([C.t (T.int IntKind.i64 x.kind), C.t (T.int IntKind.i64 x.n)] :: B)).length = m.length + (1 : Nat) + rest.length + J.length)) = true by (simp; omega))
    let t5 : Tp pr := .g .crow (show (((List.map Cell.cc m).append ([C.t (T.int IntKind.i64 x.kind), C.t (T.int IntKind.i64 x.n)] :: B))[m.length]?) = some ([C.t (T.int IntKind.i64 x.kind), C.t (T.int IntKind.i64 x.n)]) by simp)
    let t8 : Tp pr := .n .crows (show (((List.map Cell.cc m).append ([C.t (T.int IntKind.i64 x.kind), C.t (T.int IntKind.i64 x.n)] :: B)).set m.length [C.t (T.int IntKind.i64 k), C.t (T.int IntKind.i64 x.n)]) = List.map Cell.cc m ++ [C.t (T.int IntKind.i64 k), C.t (T.int IntKind.i64 x.n)] :: B by simp)
    let t9 : Tp pr := .i (wrap_i64 (a := k + (1 : Int)) (by omega) (by omega))
    let t12 : Tp pr := .m (show (decide (((List.map Cell.cc m).append ([C.t (T.int IntKind.i64 k), C.t (T.int IntKind.i64 x.n)] :: B)).length = m.length + (1 : Nat) + rest.length + J.length)) = true by (simp; omega))
    let t13 : Tp pr := .g .crow (show (((List.map Cell.cc m).append ([C.t (T.int IntKind.i64 k), C.t (T.int IntKind.i64 x.n)] :: B))[m.length]?) = some ([C.t (T.int IntKind.i64 k), C.t (T.int IntKind.i64 x.n)]) by simp)
    let t14 : Tp pr := .n .crows (show (((List.map Cell.cc m).append ([C.t (T.int IntKind.i64 k), C.t (T.int IntKind.i64 x.n)] :: B)).set m.length [C.t (T.int IntKind.i64 k), C.t (T.int IntKind.i64 (k + (1 : Int)))]) = List.map Cell.cc m ++ [C.t (T.int IntKind.i64 k), C.t (T.int IntKind.i64 (k + (1 : Int)))] :: B by simp)
    let t15 : Tp pr := .i (wrap_i64 (a := k + (1 : Int) + (1 : Int)) (by omega) (by omega))
    let t16 : Tp pr := .i (wrap_i64 (a := (↑m.length : Int) + (1 : Int)) (by omega) (by omega))
    exact .tp [t0, t1, t2, t3, t4, t5, t4, t5, t8, t9, t2, t3, t12, t13, t14, t15, t16, .a (ih)] (by kernel_rfl)
theorem markCellJ_ev (J : List (List C)) (l : List Cell) (k : Int) (h0 : 0 ≤ k) (h : k + 2 * l.length ≤ 9000000) (h2 : l.length ≤ 1048576) : Ev pr (.call 17 [.vec 0 (l.length + J.length) 2 0 l.length, i64 k] [.vec true 2 (l.map Cell.cc ++ J)]) (.val (i64 (k + 2 * l.length)) [.vec true 2 ((mkCell k l.length).map Cell.cc ++ J)]) := by
  have := markCellL_ev J l [] k h0 h (by simpa using h2)
  simp only [List.length_nil, Nat.zero_add, List.nil_append, List.map_nil] at this
  exact .tp [.a (this)] (by kernel_rfl)
theorem markCellS_ev (l : List Cell) (k : Int) (h0 : 0 ≤ k) (h : k + 2 * l.length ≤ 9000000) (h2 : l.length ≤ 1048576) : Ev pr (.call 17 [.vec 0 l.length 2 0 l.length, i64 k] [.vec true 2 (l.map Cell.cc)]) (.val (i64 (k + 2 * l.length)) [.vec true 2 ((mkCell k l.length).map Cell.cc)]) := by
  have := markCellJ_ev [] l k h0 h h2
  simpa only [List.append_nil, List.length_nil, Nat.add_zero] using this
@[simp high] theorem Frm_get_mid (m : List Frm) (x : Frm) (r : List Frm) : ((m ++ x :: r).map Frm.cc)[m.length]? = some [C.t (.int .i64 x.kind), C.t (.int .i64 x.pl), C.t (.int .i64 x.env), C.t (.int .i64 x.val)] := by simp [Frm.cc]
@[simp high] theorem Frm_lkp_mid (m : List Frm) (x : Frm) (r : List Frm) : lkp ((m ++ x :: r).map Frm.ce) (m.length : Int) = some [T.int .i64 x.kind, T.int .i64 x.pl, T.int .i64 x.env, T.int .i64 x.val] := by simp [Frm.ce]
theorem eqFrm_ev (x : Frm) : Ev pr (.call 111 [.agg (x.ce.map V.t), .agg (x.ce.map V.t)] []) (.val (bl true) []) := by
  obtain ⟨a0, a1, a2, a3⟩ := x
  exact .tp [.b (show (a0 != a0) = false by simp), .b (show (a1 != a1) = false by simp), .b (show (a2 != a2) = false by simp), .b (show (a3 != a3) = false by simp)] (by kernel_rfl)
theorem eqFrmL_ev : ∀ (rest m : List Frm), m.length + rest.length ≤ 1048576 → Ev pr (.loop (lq pr 63 0) (at_ [(0, .t (.seq 4 ((m ++ rest).map Frm.ce))), (1, .t (.seq 4 ((m ++ rest).map Frm.ce))), (5, i64 m.length)] [] 0)) (.exit 0 (at_ [] [] 0))
  | [], m, h => by
    simp only [List.append_nil]
    let t0 : Tp pr := .i (show ((↑(List.map Frm.ce m).length : Int) : Int) = (↑m.length : Int) by simp)
    let t1 : Tp pr := .b (show (decide ((↑m.length : Int) < (↑m.length : Int))) = false by simp)
    exact .tp [t0, t1] (by kernel_rfl)
  | x :: rest, m, h => by
    simp only [List.length_cons] at h
    have ih := eqFrmL_ev rest (m ++ [x]) (by simp; omega)
    simp only [List.length_append, List.length_singleton, List.append_assoc, List.singleton_append] at ih
    have hx := eqFrm_ev x
    have hg := Frm_lkp_mid m x rest
    have hlen : ((m ++ x :: rest).map Frm.ce).length = m.length + 1 + rest.length := by simp; omega
    generalize (m ++ x :: rest).map Frm.ce = R at *
    let t1 : Tp pr := .b (show (decide ((↑m.length : Int) < (↑R.length : Int))) = true by (simp; omega))
    let t4 : Tp pr := .g .row (show (lkp R (↑m.length : Int)) = some ([T.int IntKind.i64 x.kind, T.int IntKind.i64 x.pl, T.int IntKind.i64 x.env, T.int IntKind.i64 x.val]) from hg)
    let t16 : Tp pr := .i (wrap_i64 (a := (↑m.length : Int) + (1 : Int)) (by omega) (by omega))
    exact .tp [.i (rfl : ((↑R.length : Int)) = _), t1, .mT, .mT, t4, .mT, .mT, .mT, .mT, t4, .mT, .mT, .a (hx), .mT, .mT, .bF, t16, .a (ih)] (by kernel_rfl)
theorem eqFrmS_ev (l : List Frm) (h : l.length ≤ 1048576) : Ev pr (.call 63 [.t (.seq 4 (l.map Frm.ce)), .t (.seq 4 (l.map Frm.ce))] []) (.val (bl true) []) := by
  have := eqFrmL_ev l [] (by simpa using h)
  simp only [List.length_nil, List.nil_append] at this
  let t0 : Tp pr := .i (show ((↑(List.map Frm.ce l).length : Int) : Int) = (↑l.length : Int) by simp)
  let t2 : Tp pr := .b (show ((↑l.length : Int) != (↑l.length : Int)) = false by simp)
  exact .tp [t0, t0, t2, .a (this)] (by kernel_rfl)
def mkFrm (k : Int) : Nat → List Frm
  | 0 => []
  | n + 1 => ⟨k, k + 1, k + 1 + 1, k + 1 + 1 + 1⟩ :: mkFrm (k + 1 + 1 + 1 + 1) n
theorem mkFrm_len (k : Int) (n : Nat) : (mkFrm k n).length = n := by induction n generalizing k with
  | zero => rfl
  | succ n ih => simp [mkFrm, ih]
theorem markFrmL_ev (J : List (List C)) : ∀ (rest m : List Frm) (k : Int), 0 ≤ k → k + 4 * rest.length ≤ 9000000 → m.length + rest.length ≤ 1048576 →
    Ev pr (.loop (lq pr 66 0) (at_ [(0, .vec 0 (m.length + rest.length + J.length) 4 0 (m.length + rest.length)), (1, i64 k), (5, i64 m.length)] [.vec true 4 (m.map Frm.cc ++ (rest.map Frm.cc ++ J))] 1))
      (.exit 0 (at_ [(1, i64 (k + 4 * rest.length))] [.vec true 4 ((m ++ mkFrm k rest.length).map Frm.cc ++ J)] 1))
  | [], m, k, h0, h1, h2 => by
    simp only [List.length_nil, Nat.add_zero, mkFrm, List.append_nil, Int.natCast_zero, Int.mul_zero, Int.add_zero, List.map_nil, List.nil_append] at *
    let t1 : Tp pr := .b (show (decide ((↑m.length : Int) < (↑m.length : Int))) = false by simp)
    exact .tp [.i (rfl : ((↑m.length : Int)) = _), t1] (by kernel_rfl)
  | x :: rest, m, k, h0, h1, h2 => by
    have hlr : (x :: rest).length = rest.length + 1 := rfl
    rw [hlr] at h1 h2 ⊢
    have ih := markFrmL_ev J rest (m ++ [⟨k, k + 1, k + 1 + 1, k + 1 + 1 + 1⟩]) (k + 1 + 1 + 1 + 1) (by omega) (by omega) (by simp; omega)
    simp only [List.length_append, List.length_singleton, List.append_assoc, List.singleton_append, List.map_append, List.map_cons, List.map_nil] at ih
    rw [show k + 4 * ((rest.length + 1 : Nat) : Int) = k + 1 + 1 + 1 + 1 + 4 * rest.length by omega, show m.length + (rest.length + 1) = m.length + 1 + rest.length by omega, show mkFrm k (rest.length + 1) = ⟨k, k + 1, k + 1 + 1, k + 1 + 1 + 1⟩ :: mkFrm (k + 1 + 1 + 1 + 1) rest.length from rfl]
    simp only [List.map_append, List.map_cons, List.cons_append, List.append_assoc] at ih ⊢
    have hlm : (m.map Frm.cc).length = m.length := by simp
    have hlb : (rest.map Frm.cc ++ J).length = rest.length + J.length := by simp
    generalize rest.map Frm.cc ++ J = B at *
    let t0 : Tp pr := .i (show ((↑(m.length + (1 : Nat) + rest.length) : Int) : Int) = (↑m.length : Int) + (1 : Int) + (↑rest.length : Int) by omega)
    let t1 : Tp pr := .b (show (decide ((↑m.length : Int) < (↑m.length : Int) + (1 : Int) + (↑rest.length : Int))) = true by (simp; omega))
    let t2 : Tp pr := .m (show (decide ((0 : Int) ≤ (↑m.length : Int) ∧ (↑m.length : Int).toNat < m.length + (1 : Nat) + rest.length)) = true by (simp; omega))
    let t3 : Tp pr := .c (show ((0 : Nat) + (↑m.length : Int).toNat : Nat) = m.length by omega)
    let t4 : Tp pr := .m (show (decide (((List.map Frm.cc m).append ([C.t (T.int IntKind.i64 x.kind), C.t (T.int IntKind.i64 x.pl), C.t (T.int IntKind.i64 x.env), C.t (T.int IntKind.i64 x.val)] :: B)).length = m.length + (1 : Nat) + rest.length + J.length)) = true by (simp; omega))
    let t5 : Tp pr := .g .crow (show (((List.map Frm.cc m).append ([C.t (T.int IntKind.i64 x.kind), C.t (T.int IntKind.i64 x.pl), C.t (T.int IntKind.i64 x.env), C.t (T.int IntKind.i64 x.val)] :: B))[m.length]?) = some ([C.t (T.int IntKind.i64 x.kind), C.t (T.int IntKind.i64 x.pl), C.t (T.int IntKind.i64 x.env), C.t (T.int IntKind.i64 x.val)]) by simp)
    let t8 : Tp pr := .n .crows (show (((List.map Frm.cc m).append ([C.t (T.int IntKind.i64 x.kind), C.t (T.int IntKind.i64 x.pl), C.t (T.int IntKind.i64 x.env), C.t (T.int IntKind.i64 x.val)] :: B)).set m.length [C.t (T.int IntKind.i64 k), C.t (T.int IntKind.i64 x.pl), C.t (T.int IntKind.i64 x.env), C.t (T.int IntKind.i64 x.val)]) = List.map Frm.cc m ++ [C.t (T.int IntKind.i64 k), C.t (T.int IntKind.i64 x.pl), C.t (T.int IntKind.i64 x.env), C.t (T.int IntKind.i64 x.val)] :: B by simp)
    let t9 : Tp pr := .i (wrap_i64 (a := k + (1 : Int)) (by omega) (by omega))
    let t12 : Tp pr := .m (show (decide (((List.map Frm.cc m).append ([C.t (T.int IntKind.i64 k), C.t (T.int IntKind.i64 x.pl), C.t (T.int IntKind.i64 x.env), C.t (T.int IntKind.i64 x.val)] :: B)).length = m.length + (1 : Nat) + rest.length + J.length)) = true by (simp; omega))
    let t13 : Tp pr := .g .crow (show (((List.map Frm.cc m).append ([C.t (T.int IntKind.i64 k), C.t (T.int IntKind.i64 x.pl), C.t (T.int IntKind.i64 x.env), C.t (T.int IntKind.i64 x.val)] :: B))[m.length]?) = some ([C.t (T.int IntKind.i64 k), C.t (T.int IntKind.i64 x.pl), C.t (T.int IntKind.i64 x.env), C.t (T.int IntKind.i64 x.val)]) by simp)
    let t14 : Tp pr := .n .crows (show (((List.map Frm.cc m).append ([C.t (T.int IntKind.i64 k), C.t (T.int IntKind.i64 x.pl), C.t (T.int IntKind.i64 x.env), C.t (T.int IntKind.i64 x.val)] :: B)).set m.length [C.t (T.int IntKind.i64 k), C.t (T.int IntKind.i64 (k + (1 : Int))), C.t (T.int IntKind.i64 x.env), C.t (T.int IntKind.i64 x.val)]) = List.map Frm.cc m ++ [C.t (T.int IntKind.i64 k), C.t (T.int IntKind.i64 (k + (1 : Int))), C.t (T.int IntKind.i64 x.env), C.t (T.int IntKind.i64 x.val)] :: B by simp)
    let t15 : Tp pr := .i (wrap_i64 (a := k + (1 : Int) + (1 : Int)) (by omega) (by omega))
    let t18 : Tp pr := .m (show (decide (((List.map Frm.cc m).append ([C.t (T.int IntKind.i64 k), C.t (T.int IntKind.i64 (k + (1 : Int))), C.t (T.int IntKind.i64 x.env), C.t (T.int IntKind.i64 x.val)] :: B)).length = m.length + (1 : Nat) + rest.length + J.length)) = true by (simp; omega))
    let t19 : Tp pr := .g .crow (show (((List.map Frm.cc m).append ([C.t (T.int IntKind.i64 k), C.t (T.int IntKind.i64 (k + (1 : Int))), C.t (T.int IntKind.i64 x.env), C.t (T.int IntKind.i64 x.val)] :: B))[m.length]?) = some ([C.t (T.int IntKind.i64 k), C.t (T.int IntKind.i64 (k + (1 : Int))), C.t (T.int IntKind.i64 x.env), C.t (T.int IntKind.i64 x.val)]) by simp)
    let t20 : Tp pr := .n .crows (show (((List.map Frm.cc m).append ([C.t (T.int IntKind.i64 k), C.t (T.int IntKind.i64 (k + (1 : Int))), C.t (T.int IntKind.i64 x.env), C.t (T.int IntKind.i64 x.val)] :: B)).set m.length [C.t (T.int IntKind.i64 k), C.t (T.int IntKind.i64 (k + (1 : Int))), C.t (T.int IntKind.i64 (k + (1 : Int) + (1 : Int))), C.t (T.int IntKind.i64 x.val)]) = List.map Frm.cc m ++ [C.t (T.int IntKind.i64 k), C.t (T.int IntKind.i64 (k + (1 : Int))), C.t (T.int IntKind.i64 (k + (1 : Int) + (1 : Int))), C.t (T.int IntKind.i64 x.val)] :: B by simp)
    let t21 : Tp pr := .i (wrap_i64 (a := k + (1 : Int) + (1 : Int) + (1 : Int)) (by omega) (by omega))
    let t24 : Tp pr := .m (show (decide (((List.map Frm.cc m).append ([C.t (T.int IntKind.i64 k), C.t (T.int IntKind.i64 (k + (1 : Int))), C.t (T.int IntKind.i64 (k + (1 : Int) + (1 : Int))), C.t (T.int IntKind.i64 x.val)] :: B)).length = m.length + (1 : Nat) + rest.length + J.length)) = true by (simp; omega))
    let t25 : Tp pr := .g .crow (show (((List.map Frm.cc m).append ([C.t (T.int IntKind.i64 k), C.t (T.int IntKind.i64 (k + (1 : Int))), C.t (T.int IntKind.i64 (k + (1 : Int) + (1 : Int))), C.t (T.int IntKind.i64 x.val)] :: B))[m.length]?) = some ([C.t (T.int IntKind.i64 k), C.t (T.int IntKind.i64 (k + (1 : Int))), C.t (T.int IntKind.i64 (k + (1 : Int) + (1 : Int))), C.t (T.int IntKind.i64 x.val)]) by simp)
    let t26 : Tp pr := .n .crows (show (((List.map Frm.cc m).append ([C.t (T.int IntKind.i64 k), C.t (T.int IntKind.i64 (k + (1 : Int))), C.t (T.int IntKind.i64 (k + (1 : Int) + (1 : Int))), C.t (T.int IntKind.i64 x.val)] :: B)).set m.length [C.t (T.int IntKind.i64 k), C.t (T.int IntKind.i64 (k + (1 : Int))), C.t (T.int IntKind.i64 (k + (1 : Int) + (1 : Int))), C.t (T.int IntKind.i64 (k + (1 : Int) + (1 : Int) + (1 : Int)))]) = List.map Frm.cc m ++ [C.t (T.int IntKind.i64 k), C.t (T.int IntKind.i64 (k + (1 : Int))), C.t (T.int IntKind.i64 (k + (1 : Int) + (1 : Int))), C.t (T.int IntKind.i64 (k + (1 : Int) + (1 : Int) + (1 : Int)))] :: B by simp)
    let t27 : Tp pr := .i (wrap_i64 (a := k + (1 : Int) + (1 : Int) + (1 : Int) + (1 : Int)) (by omega) (by omega))
    let t28 : Tp pr := .i (wrap_i64 (a := (↑m.length : Int) + (1 : Int)) (by omega) (by omega))
    exact .tp [t0, t1, t2, t3, t4, t5, t4, t5, t8, t9, t2, t3, t12, t13, t14, t15, t2, t3, t18, t19, t20, t21, t2, t3, t24, t25, t26, t27, t28, .a (ih)] (by kernel_rfl)
theorem markFrmJ_ev (J : List (List C)) (l : List Frm) (k : Int) (h0 : 0 ≤ k) (h : k + 4 * l.length ≤ 9000000) (h2 : l.length ≤ 1048576) : Ev pr (.call 66 [.vec 0 (l.length + J.length) 4 0 l.length, i64 k] [.vec true 4 (l.map Frm.cc ++ J)]) (.val (i64 (k + 4 * l.length)) [.vec true 4 ((mkFrm k l.length).map Frm.cc ++ J)]) := by
  have := markFrmL_ev J l [] k h0 h (by simpa using h2)
  simp only [List.length_nil, Nat.zero_add, List.nil_append, List.map_nil] at this
  exact .tp [.a (this)] (by kernel_rfl)
theorem markFrmS_ev (l : List Frm) (k : Int) (h0 : 0 ≤ k) (h : k + 4 * l.length ≤ 9000000) (h2 : l.length ≤ 1048576) : Ev pr (.call 66 [.vec 0 l.length 4 0 l.length, i64 k] [.vec true 4 (l.map Frm.cc)]) (.val (i64 (k + 4 * l.length)) [.vec true 4 ((mkFrm k l.length).map Frm.cc)]) := by
  have := markFrmJ_ev [] l k h0 h h2
  simpa only [List.append_nil, List.length_nil, Nat.add_zero] using this
theorem heldFrmL_ev : ∀ (n : Nat) (m : List Frm) (k : Int), 0 ≤ k → k + 4 * n ≤ 9000000 → m.length + n ≤ 1048576 →
    Ev pr (.loop (lq pr 69 0) (at_ [(0, .t (.seq 4 ((m ++ mkFrm k n).map Frm.ce))), (1, i64 k), (5, i64 m.length)] [] 0)) (.exit 0 (at_ [(1, i64 (k + 4 * n))] [] 0))
  | 0, m, k, h0, h1, h2 => by
    simp only [mkFrm, List.append_nil, Int.natCast_zero, Int.mul_zero, Int.add_zero]
    let t0 : Tp pr := .i (show ((↑(List.map Frm.ce m).length : Int) : Int) = (↑m.length : Int) by simp)
    let t1 : Tp pr := .b (show (decide ((↑m.length : Int) < (↑m.length : Int))) = false by simp)
    exact .tp [t0, t1] (by kernel_rfl)
  | n + 1, m, k, h0, h1, h2 => by
    have ih := heldFrmL_ev n (m ++ [⟨k, k + 1, k + 1 + 1, k + 1 + 1 + 1⟩]) (k + 1 + 1 + 1 + 1) (by omega) (by omega) (by simp; omega)
    simp only [List.length_append, List.length_singleton, List.append_assoc, List.singleton_append] at ih
    have hm := mkFrm_len (k + 1 + 1 + 1 + 1) n
    have hg := Frm_lkp_mid m ⟨k, k + 1, k + 1 + 1, k + 1 + 1 + 1⟩ (mkFrm (k + 1 + 1 + 1 + 1) n)
    rw [show k + 4 * ((n + 1 : Nat) : Int) = k + 1 + 1 + 1 + 1 + 4 * n by omega, show mkFrm k (n + 1) = ⟨k, k + 1, k + 1 + 1, k + 1 + 1 + 1⟩ :: mkFrm (k + 1 + 1 + 1 + 1) n from rfl]
    have hlen : ((m ++ ⟨k, k + 1, k + 1 + 1, k + 1 + 1 + 1⟩ :: mkFrm (k + 1 + 1 + 1 + 1) n).map Frm.ce).length = m.length + 1 + n := by simp [hm]; omega
    generalize (m ++ ⟨k, k + 1, k + 1 + 1, k + 1 + 1 + 1⟩ :: mkFrm (k + 1 + 1 + 1 + 1) n).map Frm.ce = R at *
    let t1 : Tp pr := .b (show (decide ((↑m.length : Int) < (↑R.length : Int))) = true by (simp; omega))
    let t2 : Tp pr := .g .row (show (lkp R (↑m.length : Int)) = some ([T.int IntKind.i64 (Frm.mk k (k + (1 : Int)) (k + (1 : Int) + (1 : Int)) (k + (1 : Int) + (1 : Int) + (1 : Int))).kind, T.int IntKind.i64 (Frm.mk k (k + (1 : Int)) (k + (1 : Int) + (1 : Int)) (k + (1 : Int) + (1 : Int) + (1 : Int))).pl, T.int IntKind.i64 (Frm.mk k (k + (1 : Int)) (k + (1 : Int) + (1 : Int)) (k + (1 : Int) + (1 : Int) + (1 : Int))).env, T.int IntKind.i64 (Frm.mk k (k + (1 : Int)) (k + (1 : Int) + (1 : Int)) (k + (1 : Int) + (1 : Int) + (1 : Int))).val]) from hg)
    let t4 : Tp pr := .i (wrap_i64 (a := k + (1 : Int)) (by omega) (by omega))
    let t6 : Tp pr := .b (show (k + (1 : Int) != k + (1 : Int)) = false by simp)
    let t7 : Tp pr := .i (wrap_i64 (a := k + (1 : Int) + (1 : Int)) (by omega) (by omega))
    let t9 : Tp pr := .b (show (k + (1 : Int) + (1 : Int) != k + (1 : Int) + (1 : Int)) = false by simp)
    let t10 : Tp pr := .i (wrap_i64 (a := k + (1 : Int) + (1 : Int) + (1 : Int)) (by omega) (by omega))
    let t12 : Tp pr := .b (show (k + (1 : Int) + (1 : Int) + (1 : Int) != k + (1 : Int) + (1 : Int) + (1 : Int)) = false by simp)
    let t13 : Tp pr := .i (wrap_i64 (a := k + (1 : Int) + (1 : Int) + (1 : Int) + (1 : Int)) (by omega) (by omega))
    let t14 : Tp pr := .i (wrap_i64 (a := (↑m.length : Int) + (1 : Int)) (by omega) (by omega))
    exact .tp [.i (rfl : ((↑R.length : Int)) = _), t1, t2, .b (show (k != k) = false by simp), t4, t2, t6, t7, t2, t9, t10, t2, t12, t13, t14, .a (ih)] (by kernel_rfl)
theorem heldFrmS_ev (n : Nat) (k : Int) (h0 : 0 ≤ k) (h : k + 4 * n ≤ 9000000) (h2 : n ≤ 1048576) : Ev pr (.call 69 [.t (.seq 4 ((mkFrm k n).map Frm.ce)), i64 k] []) (.val (i64 (k + 4 * n)) []) := by
  have := heldFrmL_ev n [] k h0 h (by simpa using h2)
  simp only [List.length_nil, List.nil_append] at this
  exact .tp [.a (this)] (by kernel_rfl)
@[simp high] theorem Vl_get_mid (m : List Vl) (x : Vl) (r : List Vl) : ((m ++ x :: r).map Vl.cc)[m.length]? = some [C.t (.bool x.fn), C.t (.int .i64 x.num), C.t (.int .i64 x.pl), C.t (.int .i64 x.env)] := by simp [Vl.cc]
@[simp high] theorem Vl_lkp_mid (m : List Vl) (x : Vl) (r : List Vl) : lkp ((m ++ x :: r).map Vl.ce) (m.length : Int) = some [T.bool x.fn, T.int .i64 x.num, T.int .i64 x.pl, T.int .i64 x.env] := by simp [Vl.ce]
theorem eqVl_ev (x : Vl) : Ev pr (.call 112 [.agg (x.ce.map V.t), .agg (x.ce.map V.t)] []) (.val (bl true) []) := by
  obtain ⟨a0, a1, a2, a3⟩ := x
  let t0 : Tp pr := .b (show (!decide (a0 = a0)) = false by simp)
  exact .tp [t0, .b (show (a1 != a1) = false by simp), .b (show (a2 != a2) = false by simp), .b (show (a3 != a3) = false by simp)] (by kernel_rfl)
theorem eqVlL_ev : ∀ (rest m : List Vl), m.length + rest.length ≤ 1048576 → Ev pr (.loop (lq pr 64 0) (at_ [(0, .t (.seq 4 ((m ++ rest).map Vl.ce))), (1, .t (.seq 4 ((m ++ rest).map Vl.ce))), (5, i64 m.length)] [] 0)) (.exit 0 (at_ [] [] 0))
  | [], m, h => by
    simp only [List.append_nil]
    let t0 : Tp pr := .i (show ((↑(List.map Vl.ce m).length : Int) : Int) = (↑m.length : Int) by simp)
    let t1 : Tp pr := .b (show (decide ((↑m.length : Int) < (↑m.length : Int))) = false by simp)
    exact .tp [t0, t1] (by kernel_rfl)
  | x :: rest, m, h => by
    simp only [List.length_cons] at h
    have ih := eqVlL_ev rest (m ++ [x]) (by simp; omega)
    simp only [List.length_append, List.length_singleton, List.append_assoc, List.singleton_append] at ih
    have hx := eqVl_ev x
    have hg := Vl_lkp_mid m x rest
    have hlen : ((m ++ x :: rest).map Vl.ce).length = m.length + 1 + rest.length := by simp; omega
    generalize (m ++ x :: rest).map Vl.ce = R at *
    let t1 : Tp pr := .b (show (decide ((↑m.length : Int) < (↑R.length : Int))) = true by (simp; omega))
    let t4 : Tp pr := .g .row (show (lkp R (↑m.length : Int)) = some ([T.bool x.fn, T.int IntKind.i64 x.num, T.int IntKind.i64 x.pl, T.int IntKind.i64 x.env]) from hg)
    let t16 : Tp pr := .i (wrap_i64 (a := (↑m.length : Int) + (1 : Int)) (by omega) (by omega))
    exact .tp [.i (rfl : ((↑R.length : Int)) = _), t1, .mT, .mT, t4, .mT, .mT, .mT, .mT, t4, .mT, .mT, .a (hx), .mT, .mT, .bF, t16, .a (ih)] (by kernel_rfl)
theorem eqVlS_ev (l : List Vl) (h : l.length ≤ 1048576) : Ev pr (.call 64 [.t (.seq 4 (l.map Vl.ce)), .t (.seq 4 (l.map Vl.ce))] []) (.val (bl true) []) := by
  have := eqVlL_ev l [] (by simpa using h)
  simp only [List.length_nil, List.nil_append] at this
  let t0 : Tp pr := .i (show ((↑(List.map Vl.ce l).length : Int) : Int) = (↑l.length : Int) by simp)
  let t2 : Tp pr := .b (show ((↑l.length : Int) != (↑l.length : Int)) = false by simp)
  exact .tp [t0, t0, t2, .a (this)] (by kernel_rfl)
def mkVl (k : Int) : Nat → List Vl
  | 0 => []
  | n + 1 => ⟨decide ((k).tmod 3 = 0), k + 1, k + 1 + 1, k + 1 + 1 + 1⟩ :: mkVl (k + 1 + 1 + 1 + 1) n
theorem mkVl_len (k : Int) (n : Nat) : (mkVl k n).length = n := by induction n generalizing k with
  | zero => rfl
  | succ n ih => simp [mkVl, ih]
theorem markVlL_ev (J : List (List C)) : ∀ (rest m : List Vl) (k : Int), 0 ≤ k → k + 4 * rest.length ≤ 9000000 → m.length + rest.length ≤ 1048576 →
    Ev pr (.loop (lq pr 67 0) (at_ [(0, .vec 0 (m.length + rest.length + J.length) 4 0 (m.length + rest.length)), (1, i64 k), (5, i64 m.length)] [.vec true 4 (m.map Vl.cc ++ (rest.map Vl.cc ++ J))] 1))
      (.exit 0 (at_ [(1, i64 (k + 4 * rest.length))] [.vec true 4 ((m ++ mkVl k rest.length).map Vl.cc ++ J)] 1))
  | [], m, k, h0, h1, h2 => by
    simp only [List.length_nil, Nat.add_zero, mkVl, List.append_nil, Int.natCast_zero, Int.mul_zero, Int.add_zero, List.map_nil, List.nil_append] at *
    let t1 : Tp pr := .b (show (decide ((↑m.length : Int) < (↑m.length : Int))) = false by simp)
    exact .tp [.i (rfl : ((↑m.length : Int)) = _), t1] (by kernel_rfl)
  | x :: rest, m, k, h0, h1, h2 => by
    have hlr : (x :: rest).length = rest.length + 1 := rfl
    rw [hlr] at h1 h2 ⊢
    have ih := markVlL_ev J rest (m ++ [⟨decide ((k).tmod 3 = 0), k + 1, k + 1 + 1, k + 1 + 1 + 1⟩]) (k + 1 + 1 + 1 + 1) (by omega) (by omega) (by simp; omega)
    simp only [List.length_append, List.length_singleton, List.append_assoc, List.singleton_append, List.map_append, List.map_cons, List.map_nil] at ih
    rw [show k + 4 * ((rest.length + 1 : Nat) : Int) = k + 1 + 1 + 1 + 1 + 4 * rest.length by omega, show m.length + (rest.length + 1) = m.length + 1 + rest.length by omega, show mkVl k (rest.length + 1) = ⟨decide ((k).tmod 3 = 0), k + 1, k + 1 + 1, k + 1 + 1 + 1⟩ :: mkVl (k + 1 + 1 + 1 + 1) rest.length from rfl]
    simp only [List.map_append, List.map_cons, List.cons_append, List.append_assoc] at ih ⊢
    have hlm : (m.map Vl.cc).length = m.length := by simp
    have hlb : (rest.map Vl.cc ++ J).length = rest.length + J.length := by simp
    generalize rest.map Vl.cc ++ J = B at *
    let t0 : Tp pr := .i (show ((↑(m.length + (1 : Nat) + rest.length) : Int) : Int) = (↑m.length : Int) + (1 : Int) + (↑rest.length : Int) by omega)
    let t1 : Tp pr := .b (show (decide ((↑m.length : Int) < (↑m.length : Int) + (1 : Int) + (↑rest.length : Int))) = true by (simp; omega))
    let t4 : Tp pr := .m (show (decide ((0 : Int) ≤ (↑m.length : Int) ∧ (↑m.length : Int).toNat < m.length + (1 : Nat) + rest.length)) = true by (simp; omega))
    let t5 : Tp pr := .c (show ((0 : Nat) + (↑m.length : Int).toNat : Nat) = m.length by omega)
    let t6 : Tp pr := .m (show (decide (((List.map Vl.cc m).append ([C.t (T.bool x.fn), C.t (T.int IntKind.i64 x.num), C.t (T.int IntKind.i64 x.pl), C.t (T.int IntKind.i64 x.env)] :: B)).length = m.length + (1 : Nat) + rest.length + J.length)) = true by (simp; omega))
    let t7 : Tp pr := .g .crow (show (((List.map Vl.cc m).append ([C.t (T.bool x.fn), C.t (T.int IntKind.i64 x.num), C.t (T.int IntKind.i64 x.pl), C.t (T.int IntKind.i64 x.env)] :: B))[m.length]?) = some ([C.t (T.bool x.fn), C.t (T.int IntKind.i64 x.num), C.t (T.int IntKind.i64 x.pl), C.t (T.int IntKind.i64 x.env)]) by simp)
    let t10 : Tp pr := .n .crows (show (((List.map Vl.cc m).append ([C.t (T.bool x.fn), C.t (T.int IntKind.i64 x.num), C.t (T.int IntKind.i64 x.pl), C.t (T.int IntKind.i64 x.env)] :: B)).set m.length [C.t (T.bool (decide (k.tmod (3 : Int) = (0 : Int)))), C.t (T.int IntKind.i64 x.num), C.t (T.int IntKind.i64 x.pl), C.t (T.int IntKind.i64 x.env)]) = List.map Vl.cc m ++ [C.t (T.bool (decide (k.tmod (3 : Int) = (0 : Int)))), C.t (T.int IntKind.i64 x.num), C.t (T.int IntKind.i64 x.pl), C.t (T.int IntKind.i64 x.env)] :: B by simp)
    let t11 : Tp pr := .i (wrap_i64 (a := k + (1 : Int)) (by omega) (by omega))
    let t14 : Tp pr := .m (show (decide (((List.map Vl.cc m).append ([C.t (T.bool (decide (k.tmod (3 : Int) = (0 : Int)))), C.t (T.int IntKind.i64 x.num), C.t (T.int IntKind.i64 x.pl), C.t (T.int IntKind.i64 x.env)] :: B)).length = m.length + (1 : Nat) + rest.length + J.length)) = true by (simp; omega))
    let t15 : Tp pr := .g .crow (show (((List.map Vl.cc m).append ([C.t (T.bool (decide (k.tmod (3 : Int) = (0 : Int)))), C.t (T.int IntKind.i64 x.num), C.t (T.int IntKind.i64 x.pl), C.t (T.int IntKind.i64 x.env)] :: B))[m.length]?) = some ([C.t (T.bool (decide (k.tmod (3 : Int) = (0 : Int)))), C.t (T.int IntKind.i64 x.num), C.t (T.int IntKind.i64 x.pl), C.t (T.int IntKind.i64 x.env)]) by simp)
    let t16 : Tp pr := .n .crows (show (((List.map Vl.cc m).append ([C.t (T.bool (decide (k.tmod (3 : Int) = (0 : Int)))), C.t (T.int IntKind.i64 x.num), C.t (T.int IntKind.i64 x.pl), C.t (T.int IntKind.i64 x.env)] :: B)).set m.length [C.t (T.bool (decide (k.tmod (3 : Int) = (0 : Int)))), C.t (T.int IntKind.i64 (k + (1 : Int))), C.t (T.int IntKind.i64 x.pl), C.t (T.int IntKind.i64 x.env)]) = List.map Vl.cc m ++ [C.t (T.bool (decide (k.tmod (3 : Int) = (0 : Int)))), C.t (T.int IntKind.i64 (k + (1 : Int))), C.t (T.int IntKind.i64 x.pl), C.t (T.int IntKind.i64 x.env)] :: B by simp)
    let t17 : Tp pr := .i (wrap_i64 (a := k + (1 : Int) + (1 : Int)) (by omega) (by omega))
    let t20 : Tp pr := .m (show (decide (((List.map Vl.cc m).append ([C.t (T.bool (decide (k.tmod (3 : Int) = (0 : Int)))), C.t (T.int IntKind.i64 (k + (1 : Int))), C.t (T.int IntKind.i64 x.pl), C.t (T.int IntKind.i64 x.env)] :: B)).length = m.length + (1 : Nat) + rest.length + J.length)) = true by (simp; omega))
    let t21 : Tp pr := .g .crow (show (((List.map Vl.cc m).append ([C.t (T.bool (decide (k.tmod (3 : Int) = (0 : Int)))), C.t (T.int IntKind.i64 (k + (1 : Int))), C.t (T.int IntKind.i64 x.pl), C.t (T.int IntKind.i64 x.env)] :: B))[m.length]?) = some ([C.t (T.bool (decide (k.tmod (3 : Int) = (0 : Int)))), C.t (T.int IntKind.i64 (k + (1 : Int))), C.t (T.int IntKind.i64 x.pl), C.t (T.int IntKind.i64 x.env)]) by simp)
    let t22 : Tp pr := .n .crows (show (((List.map Vl.cc m).append ([C.t (T.bool (decide (k.tmod (3 : Int) = (0 : Int)))), C.t (T.int IntKind.i64 (k + (1 : Int))), C.t (T.int IntKind.i64 x.pl), C.t (T.int IntKind.i64 x.env)] :: B)).set m.length [C.t (T.bool (decide (k.tmod (3 : Int) = (0 : Int)))), C.t (T.int IntKind.i64 (k + (1 : Int))), C.t (T.int IntKind.i64 (k + (1 : Int) + (1 : Int))), C.t (T.int IntKind.i64 x.env)]) = List.map Vl.cc m ++ [C.t (T.bool (decide (k.tmod (3 : Int) = (0 : Int)))), C.t (T.int IntKind.i64 (k + (1 : Int))), C.t (T.int IntKind.i64 (k + (1 : Int) + (1 : Int))), C.t (T.int IntKind.i64 x.env)] :: B by simp)
    let t23 : Tp pr := .i (wrap_i64 (a := k + (1 : Int) + (1 : Int) + (1 : Int)) (by omega) (by omega))
    let t26 : Tp pr := .m (show (decide (((List.map Vl.cc m).append ([C.t (T.bool (decide (k.tmod (3 : Int) = (0 : Int)))), C.t (T.int IntKind.i64 (k + (1 : Int))), C.t (T.int IntKind.i64 (k + (1 : Int) + (1 : Int))), C.t (T.int IntKind.i64 x.env)] :: B)).length = m.length + (1 : Nat) + rest.length + J.length)) = true by (simp; omega))
    let t27 : Tp pr := .g .crow (show (((List.map Vl.cc m).append ([C.t (T.bool (decide (k.tmod (3 : Int) = (0 : Int)))), C.t (T.int IntKind.i64 (k + (1 : Int))), C.t (T.int IntKind.i64 (k + (1 : Int) + (1 : Int))), C.t (T.int IntKind.i64 x.env)] :: B))[m.length]?) = some ([C.t (T.bool (decide (k.tmod (3 : Int) = (0 : Int)))), C.t (T.int IntKind.i64 (k + (1 : Int))), C.t (T.int IntKind.i64 (k + (1 : Int) + (1 : Int))), C.t (T.int IntKind.i64 x.env)]) by simp)
    let t28 : Tp pr := .n .crows (show (((List.map Vl.cc m).append ([C.t (T.bool (decide (k.tmod (3 : Int) = (0 : Int)))), C.t (T.int IntKind.i64 (k + (1 : Int))), C.t (T.int IntKind.i64 (k + (1 : Int) + (1 : Int))), C.t (T.int IntKind.i64 x.env)] :: B)).set m.length [C.t (T.bool (decide (k.tmod (3 : Int) = (0 : Int)))), C.t (T.int IntKind.i64 (k + (1 : Int))), C.t (T.int IntKind.i64 (k + (1 : Int) + (1 : Int))), C.t (T.int IntKind.i64 (k + (1 : Int) + (1 : Int) + (1 : Int)))]) = List.map Vl.cc m ++ [C.t (T.bool (decide (k.tmod (3 : Int) = (0 : Int)))), C.t (T.int IntKind.i64 (k + (1 : Int))), C.t (T.int IntKind.i64 (k + (1 : Int) + (1 : Int))), C.t (T.int IntKind.i64 (k + (1 : Int) + (1 : Int) + (1 : Int)))] :: B by simp)
    let t29 : Tp pr := .i (wrap_i64 (a := k + (1 : Int) + (1 : Int) + (1 : Int) + (1 : Int)) (by omega) (by omega))
    let t30 : Tp pr := .i (wrap_i64 (a := (↑m.length : Int) + (1 : Int)) (by omega) (by omega))
    exact .tp [t0, t1, .mT, .i (rfl : (k.tmod (3 : Int)) = _), t4, t5, t6, t7, t6, t7, t10, t11, t4, t5, t14, t15, t16, t17, t4, t5, t20, t21, t22, t23, t4, t5, t26, t27, t28, t29, t30, .a (ih)] (by kernel_rfl)
theorem markVlJ_ev (J : List (List C)) (l : List Vl) (k : Int) (h0 : 0 ≤ k) (h : k + 4 * l.length ≤ 9000000) (h2 : l.length ≤ 1048576) : Ev pr (.call 67 [.vec 0 (l.length + J.length) 4 0 l.length, i64 k] [.vec true 4 (l.map Vl.cc ++ J)]) (.val (i64 (k + 4 * l.length)) [.vec true 4 ((mkVl k l.length).map Vl.cc ++ J)]) := by
  have := markVlL_ev J l [] k h0 h (by simpa using h2)
  simp only [List.length_nil, Nat.zero_add, List.nil_append, List.map_nil] at this
  exact .tp [.a (this)] (by kernel_rfl)
theorem markVlS_ev (l : List Vl) (k : Int) (h0 : 0 ≤ k) (h : k + 4 * l.length ≤ 9000000) (h2 : l.length ≤ 1048576) : Ev pr (.call 67 [.vec 0 l.length 4 0 l.length, i64 k] [.vec true 4 (l.map Vl.cc)]) (.val (i64 (k + 4 * l.length)) [.vec true 4 ((mkVl k l.length).map Vl.cc)]) := by
  have := markVlJ_ev [] l k h0 h h2
  simpa only [List.append_nil, List.length_nil, Nat.add_zero] using this
theorem heldVlL_ev : ∀ (n : Nat) (m : List Vl) (k : Int), 0 ≤ k → k + 4 * n ≤ 9000000 → m.length + n ≤ 1048576 →
    Ev pr (.loop (lq pr 70 0) (at_ [(0, .t (.seq 4 ((m ++ mkVl k n).map Vl.ce))), (1, i64 k), (5, i64 m.length)] [] 0)) (.exit 0 (at_ [(1, i64 (k + 4 * n))] [] 0))
  | 0, m, k, h0, h1, h2 => by
    simp only [mkVl, List.append_nil, Int.natCast_zero, Int.mul_zero, Int.add_zero]
    let t0 : Tp pr := .i (show ((↑(List.map Vl.ce m).length : Int) : Int) = (↑m.length : Int) by simp)
    let t1 : Tp pr := .b (show (decide ((↑m.length : Int) < (↑m.length : Int))) = false by simp)
    exact .tp [t0, t1] (by kernel_rfl)
  | n + 1, m, k, h0, h1, h2 => by
    have ih := heldVlL_ev n (m ++ [⟨decide ((k).tmod 3 = 0), k + 1, k + 1 + 1, k + 1 + 1 + 1⟩]) (k + 1 + 1 + 1 + 1) (by omega) (by omega) (by simp; omega)
    simp only [List.length_append, List.length_singleton, List.append_assoc, List.singleton_append] at ih
    have hm := mkVl_len (k + 1 + 1 + 1 + 1) n
    have hg := Vl_lkp_mid m ⟨decide ((k).tmod 3 = 0), k + 1, k + 1 + 1, k + 1 + 1 + 1⟩ (mkVl (k + 1 + 1 + 1 + 1) n)
    rw [show k + 4 * ((n + 1 : Nat) : Int) = k + 1 + 1 + 1 + 1 + 4 * n by omega, show mkVl k (n + 1) = ⟨decide ((k).tmod 3 = 0), k + 1, k + 1 + 1, k + 1 + 1 + 1⟩ :: mkVl (k + 1 + 1 + 1 + 1) n from rfl]
    have hlen : ((m ++ ⟨decide ((k).tmod 3 = 0), k + 1, k + 1 + 1, k + 1 + 1 + 1⟩ :: mkVl (k + 1 + 1 + 1 + 1) n).map Vl.ce).length = m.length + 1 + n := by simp [hm]; omega
    generalize (m ++ ⟨decide ((k).tmod 3 = 0), k + 1, k + 1 + 1, k + 1 + 1 + 1⟩ :: mkVl (k + 1 + 1 + 1 + 1) n).map Vl.ce = R at *
    let t1 : Tp pr := .b (show (decide ((↑m.length : Int) < (↑R.length : Int))) = true by (simp; omega))
    let t2 : Tp pr := .g .row (show (lkp R (↑m.length : Int)) = some ([T.bool (Vl.mk (decide (k.tmod (3 : Int) = (0 : Int))) (k + (1 : Int)) (k + (1 : Int) + (1 : Int)) (k + (1 : Int) + (1 : Int) + (1 : Int))).fn, T.int IntKind.i64 (Vl.mk (decide (k.tmod (3 : Int) = (0 : Int))) (k + (1 : Int)) (k + (1 : Int) + (1 : Int)) (k + (1 : Int) + (1 : Int) + (1 : Int))).num, T.int IntKind.i64 (Vl.mk (decide (k.tmod (3 : Int) = (0 : Int))) (k + (1 : Int)) (k + (1 : Int) + (1 : Int)) (k + (1 : Int) + (1 : Int) + (1 : Int))).pl, T.int IntKind.i64 (Vl.mk (decide (k.tmod (3 : Int) = (0 : Int))) (k + (1 : Int)) (k + (1 : Int) + (1 : Int)) (k + (1 : Int) + (1 : Int) + (1 : Int))).env]) from hg)
    let t5 : Tp pr := .b (show (!decide (decide (k.tmod (3 : Int) = (0 : Int)) = decide (k.tmod (3 : Int) = (0 : Int)))) = false by simp)
    let t6 : Tp pr := .i (wrap_i64 (a := k + (1 : Int)) (by omega) (by omega))
    let t8 : Tp pr := .b (show (k + (1 : Int) != k + (1 : Int)) = false by simp)
    let t9 : Tp pr := .i (wrap_i64 (a := k + (1 : Int) + (1 : Int)) (by omega) (by omega))
    let t11 : Tp pr := .b (show (k + (1 : Int) + (1 : Int) != k + (1 : Int) + (1 : Int)) = false by simp)
    let t12 : Tp pr := .i (wrap_i64 (a := k + (1 : Int) + (1 : Int) + (1 : Int)) (by omega) (by omega))
    let t14 : Tp pr := .b (show (k + (1 : Int) + (1 : Int) + (1 : Int) != k + (1 : Int) + (1 : Int) + (1 : Int)) = false by simp)
    let t15 : Tp pr := .i (wrap_i64 (a := k + (1 : Int) + (1 : Int) + (1 : Int) + (1 : Int)) (by omega) (by omega))
    let t16 : Tp pr := .i (wrap_i64 (a := (↑m.length : Int) + (1 : Int)) (by omega) (by omega))
    exact .tp [.i (rfl : ((↑R.length : Int)) = _), t1, t2, .mT, .i (rfl : (k.tmod (3 : Int)) = _), t5, t6, t2, t8, t9, t2, t11, t12, t2, t14, t15, t16, .a (ih)] (by kernel_rfl)
theorem heldVlS_ev (n : Nat) (k : Int) (h0 : 0 ≤ k) (h : k + 4 * n ≤ 9000000) (h2 : n ≤ 1048576) : Ev pr (.call 70 [.t (.seq 4 ((mkVl k n).map Vl.ce)), i64 k] []) (.val (i64 (k + 4 * n)) []) := by
  have := heldVlL_ev n [] k h0 h (by simpa using h2)
  simp only [List.length_nil, List.nil_append] at this
  exact .tp [.a (this)] (by kernel_rfl)
@[simp high] theorem Bd_get_mid (m : List Bd) (x : Bd) (r : List Bd) : ((m ++ x :: r).map Bd.cc)[m.length]? = some [C.t (.int .i64 x.val), C.t (.int .i64 x.up)] := by simp [Bd.cc]
@[simp high] theorem Bd_lkp_mid (m : List Bd) (x : Bd) (r : List Bd) : lkp ((m ++ x :: r).map Bd.ce) (m.length : Int) = some [T.int .i64 x.val, T.int .i64 x.up] := by simp [Bd.ce]
theorem eqBd_ev (x : Bd) : Ev pr (.call 113 [.agg (x.ce.map V.t), .agg (x.ce.map V.t)] []) (.val (bl true) []) := by
  obtain ⟨a0, a1⟩ := x
  exact .tp [.b (show (a0 != a0) = false by simp), .b (show (a1 != a1) = false by simp)] (by kernel_rfl)
theorem eqBdL_ev : ∀ (rest m : List Bd), m.length + rest.length ≤ 1048576 → Ev pr (.loop (lq pr 65 0) (at_ [(0, .t (.seq 2 ((m ++ rest).map Bd.ce))), (1, .t (.seq 2 ((m ++ rest).map Bd.ce))), (5, i64 m.length)] [] 0)) (.exit 0 (at_ [] [] 0))
  | [], m, h => by
    simp only [List.append_nil]
    let t0 : Tp pr := .i (show ((↑(List.map Bd.ce m).length : Int) : Int) = (↑m.length : Int) by simp)
    let t1 : Tp pr := .b (show (decide ((↑m.length : Int) < (↑m.length : Int))) = false by simp)
    exact .tp [t0, t1] (by kernel_rfl)
  | x :: rest, m, h => by
    simp only [List.length_cons] at h
    have ih := eqBdL_ev rest (m ++ [x]) (by simp; omega)
    simp only [List.length_append, List.length_singleton, List.append_assoc, List.singleton_append] at ih
    have hx := eqBd_ev x
    have hg := Bd_lkp_mid m x rest
    have hlen : ((m ++ x :: rest).map Bd.ce).length = m.length + 1 + rest.length := by simp; omega
    generalize (m ++ x :: rest).map Bd.ce = R at *
    let t1 : Tp pr := .b (show (decide ((↑m.length : Int) < (↑R.length : Int))) = true by (simp; omega))
    let t4 : Tp pr := .g .row (show (lkp R (↑m.length : Int)) = some ([T.int IntKind.i64 x.val, T.int IntKind.i64 x.up]) from hg)
    let t16 : Tp pr := .i (wrap_i64 (a := (↑m.length : Int) + (1 : Int)) (by omega) (by omega))
    exact .tp [.i (rfl : ((↑R.length : Int)) = _), t1, .mT, .mT, t4, .mT, .mT, .mT, .mT, t4, .mT, .mT, .a (hx), .mT, .mT, .bF, t16, .a (ih)] (by kernel_rfl)
theorem eqBdS_ev (l : List Bd) (h : l.length ≤ 1048576) : Ev pr (.call 65 [.t (.seq 2 (l.map Bd.ce)), .t (.seq 2 (l.map Bd.ce))] []) (.val (bl true) []) := by
  have := eqBdL_ev l [] (by simpa using h)
  simp only [List.length_nil, List.nil_append] at this
  let t0 : Tp pr := .i (show ((↑(List.map Bd.ce l).length : Int) : Int) = (↑l.length : Int) by simp)
  let t2 : Tp pr := .b (show ((↑l.length : Int) != (↑l.length : Int)) = false by simp)
  exact .tp [t0, t0, t2, .a (this)] (by kernel_rfl)
def mkBd (k : Int) : Nat → List Bd
  | 0 => []
  | n + 1 => ⟨k, k + 1⟩ :: mkBd (k + 1 + 1) n
theorem mkBd_len (k : Int) (n : Nat) : (mkBd k n).length = n := by induction n generalizing k with
  | zero => rfl
  | succ n ih => simp [mkBd, ih]
theorem markBdL_ev (J : List (List C)) : ∀ (rest m : List Bd) (k : Int), 0 ≤ k → k + 2 * rest.length ≤ 9000000 → m.length + rest.length ≤ 1048576 →
    Ev pr (.loop (lq pr 68 0) (at_ [(0, .vec 0 (m.length + rest.length + J.length) 2 0 (m.length + rest.length)), (1, i64 k), (5, i64 m.length)] [.vec true 2 (m.map Bd.cc ++ (rest.map Bd.cc ++ J))] 1))
      (.exit 0 (at_ [(1, i64 (k + 2 * rest.length))] [.vec true 2 ((m ++ mkBd k rest.length).map Bd.cc ++ J)] 1))
  | [], m, k, h0, h1, h2 => by
    simp only [List.length_nil, Nat.add_zero, mkBd, List.append_nil, Int.natCast_zero, Int.mul_zero, Int.add_zero, List.map_nil, List.nil_append] at *
    let t1 : Tp pr := .b (show (decide ((↑m.length : Int) < (↑m.length : Int))) = false by simp)
    exact .tp [.i (rfl : ((↑m.length : Int)) = _), t1] (by kernel_rfl)
  | x :: rest, m, k, h0, h1, h2 => by
    have hlr : (x :: rest).length = rest.length + 1 := rfl
    rw [hlr] at h1 h2 ⊢
    have ih := markBdL_ev J rest (m ++ [⟨k, k + 1⟩]) (k + 1 + 1) (by omega) (by omega) (by simp; omega)
    simp only [List.length_append, List.length_singleton, List.append_assoc, List.singleton_append, List.map_append, List.map_cons, List.map_nil] at ih
    rw [show k + 2 * ((rest.length + 1 : Nat) : Int) = k + 1 + 1 + 2 * rest.length by omega, show m.length + (rest.length + 1) = m.length + 1 + rest.length by omega, show mkBd k (rest.length + 1) = ⟨k, k + 1⟩ :: mkBd (k + 1 + 1) rest.length from rfl]
    simp only [List.map_append, List.map_cons, List.cons_append, List.append_assoc] at ih ⊢
    have hlm : (m.map Bd.cc).length = m.length := by simp
    have hlb : (rest.map Bd.cc ++ J).length = rest.length + J.length := by simp
    generalize rest.map Bd.cc ++ J = B at *
    let t0 : Tp pr := .i (show ((↑(m.length + (1 : Nat) + rest.length) : Int) : Int) = (↑m.length : Int) + (1 : Int) + (↑rest.length : Int) by omega)
    let t1 : Tp pr := .b (show (decide ((↑m.length : Int) < (↑m.length : Int) + (1 : Int) + (↑rest.length : Int))) = true by (simp; omega))
    let t2 : Tp pr := .m (show (decide ((0 : Int) ≤ (↑m.length : Int) ∧ (↑m.length : Int).toNat < m.length + (1 : Nat) + rest.length)) = true by (simp; omega))
    let t3 : Tp pr := .c (show ((0 : Nat) + (↑m.length : Int).toNat : Nat) = m.length by omega)
    let t4 : Tp pr := .m (show (decide (((List.map Bd.cc m).append ([C.t (T.int IntKind.i64 x.val), C.t (T.int IntKind.i64 x.up)] :: B)).length = m.length + (1 : Nat) + rest.length + J.length)) = true by (simp; omega))
    let t5 : Tp pr := .g .crow (show (((List.map Bd.cc m).append ([C.t (T.int IntKind.i64 x.val), C.t (T.int IntKind.i64 x.up)] :: B))[m.length]?) = some ([C.t (T.int IntKind.i64 x.val), C.t (T.int IntKind.i64 x.up)]) by simp)
    let t8 : Tp pr := .n .crows (show (((List.map Bd.cc m).append ([C.t (T.int IntKind.i64 x.val), C.t (T.int IntKind.i64 x.up)] :: B)).set m.length [C.t (T.int IntKind.i64 k), C.t (T.int IntKind.i64 x.up)]) = List.map Bd.cc m ++ [C.t (T.int IntKind.i64 k), C.t (T.int IntKind.i64 x.up)] :: B by simp)
    let t9 : Tp pr := .i (wrap_i64 (a := k + (1 : Int)) (by omega) (by omega))
    let t12 : Tp pr := .m (show (decide (((List.map Bd.cc m).append ([C.t (T.int IntKind.i64 k), C.t (T.int IntKind.i64 x.up)] :: B)).length = m.length + (1 : Nat) + rest.length + J.length)) = true by (simp; omega))
    let t13 : Tp pr := .g .crow (show (((List.map Bd.cc m).append ([C.t (T.int IntKind.i64 k), C.t (T.int IntKind.i64 x.up)] :: B))[m.length]?) = some ([C.t (T.int IntKind.i64 k), C.t (T.int IntKind.i64 x.up)]) by simp)
    let t14 : Tp pr := .n .crows (show (((List.map Bd.cc m).append ([C.t (T.int IntKind.i64 k), C.t (T.int IntKind.i64 x.up)] :: B)).set m.length [C.t (T.int IntKind.i64 k), C.t (T.int IntKind.i64 (k + (1 : Int)))]) = List.map Bd.cc m ++ [C.t (T.int IntKind.i64 k), C.t (T.int IntKind.i64 (k + (1 : Int)))] :: B by simp)
    let t15 : Tp pr := .i (wrap_i64 (a := k + (1 : Int) + (1 : Int)) (by omega) (by omega))
    let t16 : Tp pr := .i (wrap_i64 (a := (↑m.length : Int) + (1 : Int)) (by omega) (by omega))
    exact .tp [t0, t1, t2, t3, t4, t5, t4, t5, t8, t9, t2, t3, t12, t13, t14, t15, t16, .a (ih)] (by kernel_rfl)
theorem markBdJ_ev (J : List (List C)) (l : List Bd) (k : Int) (h0 : 0 ≤ k) (h : k + 2 * l.length ≤ 9000000) (h2 : l.length ≤ 1048576) : Ev pr (.call 68 [.vec 0 (l.length + J.length) 2 0 l.length, i64 k] [.vec true 2 (l.map Bd.cc ++ J)]) (.val (i64 (k + 2 * l.length)) [.vec true 2 ((mkBd k l.length).map Bd.cc ++ J)]) := by
  have := markBdL_ev J l [] k h0 h (by simpa using h2)
  simp only [List.length_nil, Nat.zero_add, List.nil_append, List.map_nil] at this
  exact .tp [.a (this)] (by kernel_rfl)
theorem markBdS_ev (l : List Bd) (k : Int) (h0 : 0 ≤ k) (h : k + 2 * l.length ≤ 9000000) (h2 : l.length ≤ 1048576) : Ev pr (.call 68 [.vec 0 l.length 2 0 l.length, i64 k] [.vec true 2 (l.map Bd.cc)]) (.val (i64 (k + 2 * l.length)) [.vec true 2 ((mkBd k l.length).map Bd.cc)]) := by
  have := markBdJ_ev [] l k h0 h h2
  simpa only [List.append_nil, List.length_nil, Nat.add_zero] using this
theorem heldBdL_ev : ∀ (n : Nat) (m : List Bd) (k : Int), 0 ≤ k → k + 2 * n ≤ 9000000 → m.length + n ≤ 1048576 →
    Ev pr (.loop (lq pr 71 0) (at_ [(0, .t (.seq 2 ((m ++ mkBd k n).map Bd.ce))), (1, i64 k), (5, i64 m.length)] [] 0)) (.exit 0 (at_ [(1, i64 (k + 2 * n))] [] 0))
  | 0, m, k, h0, h1, h2 => by
    simp only [mkBd, List.append_nil, Int.natCast_zero, Int.mul_zero, Int.add_zero]
    let t0 : Tp pr := .i (show ((↑(List.map Bd.ce m).length : Int) : Int) = (↑m.length : Int) by simp)
    let t1 : Tp pr := .b (show (decide ((↑m.length : Int) < (↑m.length : Int))) = false by simp)
    exact .tp [t0, t1] (by kernel_rfl)
  | n + 1, m, k, h0, h1, h2 => by
    have ih := heldBdL_ev n (m ++ [⟨k, k + 1⟩]) (k + 1 + 1) (by omega) (by omega) (by simp; omega)
    simp only [List.length_append, List.length_singleton, List.append_assoc, List.singleton_append] at ih
    have hm := mkBd_len (k + 1 + 1) n
    have hg := Bd_lkp_mid m ⟨k, k + 1⟩ (mkBd (k + 1 + 1) n)
    rw [show k + 2 * ((n + 1 : Nat) : Int) = k + 1 + 1 + 2 * n by omega, show mkBd k (n + 1) = ⟨k, k + 1⟩ :: mkBd (k + 1 + 1) n from rfl]
    have hlen : ((m ++ ⟨k, k + 1⟩ :: mkBd (k + 1 + 1) n).map Bd.ce).length = m.length + 1 + n := by simp [hm]; omega
    generalize (m ++ ⟨k, k + 1⟩ :: mkBd (k + 1 + 1) n).map Bd.ce = R at *
    let t1 : Tp pr := .b (show (decide ((↑m.length : Int) < (↑R.length : Int))) = true by (simp; omega))
    let t2 : Tp pr := .g .row (show (lkp R (↑m.length : Int)) = some ([T.int IntKind.i64 (Bd.mk k (k + (1 : Int))).val, T.int IntKind.i64 (Bd.mk k (k + (1 : Int))).up]) from hg)
    let t4 : Tp pr := .i (wrap_i64 (a := k + (1 : Int)) (by omega) (by omega))
    let t6 : Tp pr := .b (show (k + (1 : Int) != k + (1 : Int)) = false by simp)
    let t7 : Tp pr := .i (wrap_i64 (a := k + (1 : Int) + (1 : Int)) (by omega) (by omega))
    let t8 : Tp pr := .i (wrap_i64 (a := (↑m.length : Int) + (1 : Int)) (by omega) (by omega))
    exact .tp [.i (rfl : ((↑R.length : Int)) = _), t1, t2, .b (show (k != k) = false by simp), t4, t2, t6, t7, t8, .a (ih)] (by kernel_rfl)
theorem heldBdS_ev (n : Nat) (k : Int) (h0 : 0 ≤ k) (h : k + 2 * n ≤ 9000000) (h2 : n ≤ 1048576) : Ev pr (.call 71 [.t (.seq 2 ((mkBd k n).map Bd.ce)), i64 k] []) (.val (i64 (k + 2 * n)) []) := by
  have := heldBdL_ev n [] k h0 h (by simpa using h2)
  simp only [List.length_nil, List.nil_append] at this
  exact .tp [.a (this)] (by kernel_rfl)
end Go.Ev

/- The machine plays and is told, by the reference; machines in the laws. -/
namespace Go.Ev
set_option linter.unusedVariables false
set_option linter.unusedSimpArgs false
open Go.Proofs
set_option maxRecDepth 100000
set_option linter.unusedVariables false
set_option linter.unusedSimpArgs false
set_option maxHeartbeats 4000000
/-- The machine behind so many steps, and how many they were. -/
def playM (l : List Cell) (k : Int) : Option (Mc × Nat) :=
  match codeOf l with
  | none => none
  | some t => if 0 ≤ k ∧ k ≤ 2000 then some (Mc.start.play t.cd k.toNat) else none
def pmIO (jk : List Frm) : Option (Mc × Nat) → Out
  | none => .val (.tup [mZ, i64 0, bl false]) []
  | some (m, n) => .val (.tup [.agg [bl m.done, i64 m.pl, i64 m.env, i64 m.val, .vec 0 ((m.frs.reverse ++ jk).map Frm.cc).length 4 0 m.frs.length, .vec 1 (m.vals.map Vl.cc).length 4 0 (m.vals.map Vl.cc).length, .vec 2 (m.bds.map Bd.cc).length 2 0 (m.bds.map Bd.cc).length], i64 n, bl true]) [.vec true 4 ((m.frs.reverse ++ jk).map Frm.cc), .vec true 4 (m.vals.map Vl.cc), .vec true 2 (m.bds.map Bd.cc)]
/-- No row of a machine is long. -/
def mSmall (m : Mc) : Prop := m.frs.length ≤ 500 ∧ m.vals.length ≤ 500 ∧ m.bds.length ≤ 500
theorem PlayMachineI_ev (l : List Cell) (k : Int) (h2 : l.length ≤ 1048576) : ∃ jk : List Frm, (∀ m n, playM l k = some (m, n) → mSmall m ∧ m.frs.length + jk.length ≤ 500) ∧ Ev pr (.call 24 [.t (.seq 2 (l.map Cell.ce)), i64 k] []) (pmIO jk (playM l k)) := by
  unfold playM
  rcases newEngine_ev l h2 with ⟨e, g⟩ | ⟨t, e, hl, ho, hf, h6, g⟩
  · rw [e]
    exact ⟨[], fun m n h => (by cases h), pq_nil _ k g⟩
  · rw [e]
    dsimp only
    have hcd := cd_ok ho hf (by rw [← hl]; exact h6)
    by_cases hk : 0 ≤ k ∧ k ≤ 2000
    · rw [if_pos hk]
      obtain ⟨n, rfl⟩ : ∃ n : Nat, k = n := ⟨k.toNat, by omega⟩
      simp only [Int.toNat_natCast]
      have hn : n ≤ 2000 := by omega
      obtain ⟨jk, lg, hj, hp⟩ := pm_play t.cd hcd n hn n 0 .start (by omega) (Mc.start_good hcd) [] (by simp [Mc.start])
      have hG := play_good hcd n .start (Mc.start_good hcd)
      have hS : t.sizes.length = l.length := by rw [sizes_len, ← hl]
      have hB : (t.bounds 0).length = l.length := by rw [bounds_len, ← hl]
      have hc : t.cd.cells = l := hl.symm
      have eS0 : eB1 t.cd .start [] false = eS1 (l.map Cell.ce) l.length (ints t.sizes) (ints (t.bounds 0)) false 0 (-1) (-1) 0 [] [] [] false := by
        unfold eB1
        rw [hc]
        rfl
      rw [eS0, Nat.zero_add] at hp
      refine ⟨jk, fun m j h => ?_, ?_⟩
      · have := Option.some.inj h
        rw [this] at hG hj
        exact ⟨⟨hG.lf, hG.lv, hG.lb⟩, hj⟩
      · exact pq_ok l _ _ hS hB n hn g _ _ _ _ _ _ _ _ _ _ _ _ _ _ hp
    · rw [if_neg hk]
      exact ⟨[], fun m n h => (by cases h), pq_fuel l _ _ k hk g⟩
def pmSO : Option (Mc × Nat) → Out
  | none => .val (.tup [mF false 0 0 0 [] [] [], i64 0, bl false]) []
  | some (m, n) => .val (.tup [mF m.done m.pl m.env m.val (m.frs.reverse.map Frm.ce) (m.vals.map Vl.ce) (m.bds.map Bd.ce), i64 n, bl true]) []
theorem ps_nil (L : List (List T)) (k : Int) (g : Ev pr (.call 32 [.t (.seq 2 L)] []) (.val (.tup [.t .nilp, bl false]) [])) : Ev pr (.call 23 [.t (.seq 2 L), i64 k] []) (pmSO none) := by
  unfold pmSO mF
  exact .tp [.a (g), .bT, .bT] (by kernel_rfl)
theorem ps_fuel (L KT BT : List (List T)) (k : Int) (hk : ¬ (0 ≤ k ∧ k ≤ 2000)) (g : Ev pr (.call 32 [.t (.seq 2 L)] []) (.val (.tup [cT L KT BT, bl true]) [])) : Ev pr (.call 23 [.t (.seq 2 L), i64 k] []) (pmSO none) := by
  unfold pmSO mF cT at *
  have hb : (decide (k ≥ 0) && decide (k ≤ 2000)) = false := by simp; omega
  have gw := l1In_ev k 0 2000
  rw [hb] at gw
  exact .tp [.a (g), .bF, .a (gw), .bT] (by kernel_rfl)
theorem ps_ok (L KT BT : List (List T)) (k : Nat) (hk : k ≤ 2000) (g : Ev pr (.call 32 [.t (.seq 2 L)] []) (.val (.tup [cT L KT BT, bl true]) [])) (d : Bool) (p e v : Int) (X Y Z : List (List T)) (hX : X.length ≤ 1000) (hY : Y.length ≤ 1000) (hZ : Z.length ≤ 1000) (j : Nat) (b b2 : Bool)
    (g2 : Ev pr (.call 34 [cT L KT BT, i64 k] []) (.val (.tup [mF d p e v X Y Z, i64 j, bl b, bl b2]) [])) : Ev pr (.call 23 [.t (.seq 2 L), i64 k] []) (.val (.tup [mF d p e v X Y Z, i64 j, bl true]) []) := by
  have hb : (decide ((k : Int) ≥ 0) && decide ((k : Int) ≤ 2000)) = true := by simp; omega
  have gw := l1In_ev k 0 2000
  rw [hb] at gw
  have go := l6OwnG_ev d p e v X Y Z hX hY hZ
  have eX : (X.map (List.map C.t)).map (List.map C.fz) = X := map_tc_fz2 X
  have eY : (Y.map (List.map C.t)).map (List.map C.fz) = Y := map_tc_fz2 Y
  have eZ : (Z.map (List.map C.t)).map (List.map C.fz) = Z := map_tc_fz2 Z
  have lX : (X.map (List.map C.t)).length = X.length := by simp
  have lY : (Y.map (List.map C.t)).length = Y.length := by simp
  have lZ : (Z.map (List.map C.t)).length = Z.length := by simp
  have tX : List.take X.length X = X := List.take_length
  have tY : List.take Y.length Y = Y := List.take_length
  have tZ : List.take Z.length Z = Z := List.take_length
  unfold mF mA mM cT at *
  rw [lX, lY, lZ] at go
  rw [← eX] at tX
  rw [← eY] at tY
  rw [← eZ] at tZ
  simp only [List.length_map] at tX tY tZ
  let t6 : Tp pr := .m (show (decide ((List.map (List.map C.t) X).length = X.length ∧ (0 : Nat) + X.length ≤ X.length)) = true by simp)
  let t7 : Tp pr := .n .rows (show (List.map (fun x => List.map C.fz x) (List.take X.length (List.drop (0 : Nat) (List.map (List.map C.t) X)))) = List.map ((fun x => List.map C.fz x) ∘ List.map C.t) X by simp)
  let t8 : Tp pr := .m (show (decide ((List.map (List.map C.t) Y).length = Y.length ∧ (0 : Nat) + Y.length ≤ Y.length)) = true by simp)
  let t9 : Tp pr := .n .rows (show (List.map (fun x => List.map C.fz x) (List.take Y.length (List.drop (0 : Nat) (List.map (List.map C.t) Y)))) = List.map ((fun x => List.map C.fz x) ∘ List.map C.t) Y by simp)
  let t10 : Tp pr := .m (show (decide ((List.map (List.map C.t) Z).length = Z.length ∧ (0 : Nat) + Z.length ≤ Z.length)) = true by simp)
  let t11 : Tp pr := .n .rows (show (List.map (fun x => List.map C.fz x) (List.take Z.length (List.drop (0 : Nat) (List.map (List.map C.t) Z)))) = List.map ((fun x => List.map C.fz x) ∘ List.map C.t) Z by simp)
  exact .tpe [.a (g), .bF, .a (gw), .bF, .a (g2), .a (go), t6, t7, t8, t9, t10, t11] (Out.val (V.tup [V.agg [V.t (T.bool d), V.t (T.int IntKind.i64 p), V.t (T.int IntKind.i64 e), V.t (T.int IntKind.i64 v), V.t (T.seq (4 : Nat) (List.map ((fun x => List.map C.fz x) ∘ List.map C.t) X)), V.t (T.seq (4 : Nat) (List.map ((fun x => List.map C.fz x) ∘ List.map C.t) Y)), V.t (T.seq (2 : Nat) (List.map ((fun x => List.map C.fz x) ∘ List.map C.t) Z))], V.t (T.int IntKind.i64 (↑j : Int)), V.t (T.bool true)]) []) (by kernel_rfl) (((congrArg (fun x => Out.val (V.tup [V.agg [V.t (T.bool d), V.t (T.int IntKind.i64 p), V.t (T.int IntKind.i64 e), V.t (T.int IntKind.i64 v), V.t (T.seq (4 : Nat) x), V.t (T.seq (4 : Nat) (List.map ((fun x => List.map C.fz x) ∘ List.map C.t) Y)), V.t (T.seq (2 : Nat) (List.map ((fun x => List.map C.fz x) ∘ List.map C.t) Z))], V.t (T.int IntKind.i64 (↑j : Int)), V.t (T.bool true)]) []) (show (List.map ((fun x => List.map C.fz x) ∘ List.map C.t) X) = (X) by (simp at *; omega))).trans (congrArg (fun x => Out.val (V.tup [V.agg [V.t (T.bool d), V.t (T.int IntKind.i64 p), V.t (T.int IntKind.i64 e), V.t (T.int IntKind.i64 v), V.t (T.seq (4 : Nat) X), V.t (T.seq (4 : Nat) x), V.t (T.seq (2 : Nat) (List.map ((fun x => List.map C.fz x) ∘ List.map C.t) Z))], V.t (T.int IntKind.i64 (↑j : Int)), V.t (T.bool true)]) []) (show (List.map ((fun x => List.map C.fz x) ∘ List.map C.t) Y) = (Y) by (simp at *; omega)))).trans (congrArg (fun x => Out.val (V.tup [V.agg [V.t (T.bool d), V.t (T.int IntKind.i64 p), V.t (T.int IntKind.i64 e), V.t (T.int IntKind.i64 v), V.t (T.seq (4 : Nat) X), V.t (T.seq (4 : Nat) Y), V.t (T.seq (2 : Nat) x)], V.t (T.int IntKind.i64 (↑j : Int)), V.t (T.bool true)]) []) (show (List.map ((fun x => List.map C.fz x) ∘ List.map C.t) Z) = (Z) by (simp at *; omega))))
theorem PlayMachineS_ev (l : List Cell) (k : Int) (h2 : l.length ≤ 1048576) : Ev pr (.call 23 [.t (.seq 2 (l.map Cell.ce)), i64 k] []) (pmSO (playM l k)) := by
  unfold playM
  rcases l6Of_ev l h2 with ⟨e, g⟩ | ⟨t, e, hl, ho, hf, h6, g⟩
  · rw [e]
    exact ps_nil _ k g
  · rw [e]
    dsimp only
    have hcd := cd_ok ho hf (by rw [← hl]; exact h6)
    have ht : V.t t.cd.tp = cT (l.map Cell.ce) (t.cd.kids.map kT) (t.cd.bounds.map intt) := by rw [hl]; rfl
    rw [ht] at g
    by_cases hk : 0 ≤ k ∧ k ≤ 2000
    · rw [if_pos hk]
      obtain ⟨n, rfl⟩ : ∃ n : Nat, k = n := ⟨k.toNat, by omega⟩
      simp only [Int.toNat_natCast]
      have hp := l6Play_ev t.cd hcd n (by omega)
      have hcells : t.cd.cells = l := hl.symm
      rw [hcells] at hp
      have hG := play_good hcd n .start (Mc.start_good hcd)
      have lf := hG.lf
      have lv := hG.lv
      have lb := hG.lb
      exact ps_ok _ _ _ n (by omega) g _ _ _ _ _ _ _ (by simp; omega) (by simp; omega) (by simp; omega) _ _ _ hp
    · rw [if_neg hk]
      exact ps_fuel _ _ _ k hk g
theorem eqMachine_ev (d : Bool) (p e v : Int) (X Y Z : List (List T)) (gX : Ev pr (.call 63 [.t (.seq 4 X), .t (.seq 4 X)] []) (.val (bl true) [])) (gY : Ev pr (.call 64 [.t (.seq 4 Y), .t (.seq 4 Y)] []) (.val (bl true) [])) (gZ : Ev pr (.call 65 [.t (.seq 2 Z), .t (.seq 2 Z)] []) (.val (bl true) [])) :
    Ev pr (.call 25 [mF d p e v X Y Z, mF d p e v X Y Z] []) (.val (bl true) []) := by
  unfold mF
  let t0 : Tp pr := .b (show (!decide (d = d)) = false by simp)
  exact .tp [t0, .b (show (p != p) = false by simp), .b (show (e != e) = false by simp), .b (show (v != v) = false by simp), .a (gX), .bF, .a (gY), .bF, .a (gZ), .bF] (by kernel_rfl)
theorem eqFrameN_ev : Ev pr (.call 63 [.t .nils, .t (.seq 4 [])] []) (.val (bl true) []) := by
  have g : Ev pr (.loop (lq pr 63 0) (at_ [(0, .t .nils), (1, .t (.seq 4 [])), (5, i64 0)] [] 0)) (.exit 0 (at_ [] [] 0)) := by
    let t0 : Tp pr := .i (rfl : ((0 : Int) : Int) = (0 : Int))
    exact .tp [t0, .bF] (by kernel_rfl)
  let t0 : Tp pr := .i (rfl : ((0 : Int) : Int) = (0 : Int))
  exact .tp [t0, t0, .bF, .a (g)] (by kernel_rfl)
theorem eqValN_ev : Ev pr (.call 64 [.t .nils, .t (.seq 4 [])] []) (.val (bl true) []) := by
  have g : Ev pr (.loop (lq pr 64 0) (at_ [(0, .t .nils), (1, .t (.seq 4 [])), (5, i64 0)] [] 0)) (.exit 0 (at_ [] [] 0)) := by
    let t0 : Tp pr := .i (rfl : ((0 : Int) : Int) = (0 : Int))
    exact .tp [t0, .bF] (by kernel_rfl)
  let t0 : Tp pr := .i (rfl : ((0 : Int) : Int) = (0 : Int))
  exact .tp [t0, t0, .bF, .a (g)] (by kernel_rfl)
theorem eqBindN_ev : Ev pr (.call 65 [.t .nils, .t (.seq 2 [])] []) (.val (bl true) []) := by
  have g : Ev pr (.loop (lq pr 65 0) (at_ [(0, .t .nils), (1, .t (.seq 2 [])), (5, i64 0)] [] 0)) (.exit 0 (at_ [] [] 0)) := by
    let t0 : Tp pr := .i (rfl : ((0 : Int) : Int) = (0 : Int))
    exact .tp [t0, .bF] (by kernel_rfl)
  let t0 : Tp pr := .i (rfl : ((0 : Int) : Int) = (0 : Int))
  exact .tp [t0, t0, .bF, .a (g)] (by kernel_rfl)
theorem eqMachineN_ev : Ev pr (.call 25 [mZ, mF false 0 0 0 [] [] []] []) (.val (bl true) []) := by
  unfold mZ mF
  exact .tp [.bF, .bF, .bF, .bF, .a (eqFrameN_ev), .bF, .a (eqValN_ev), .bF, .a (eqBindN_ev), .bF] (by kernel_rfl)
theorem markFrameN_ev (k : Int) : Ev pr (.call 66 [.t .nils, i64 k] []) (.val (i64 k) []) := by
  have g : Ev pr (.loop (lq pr 66 0) (at_ [(0, .t .nils), (1, i64 k), (5, i64 0)] [] 0)) (.exit 0 (at_ [(1, i64 k)] [] 0)) := by
    let t0 : Tp pr := .i (rfl : ((0 : Int) : Int) = (0 : Int))
    exact .tp [t0, .bF] (by kernel_rfl)
  exact .tp [.a (g)] (by kernel_rfl)
theorem heldFrameN_ev (k : Int) : Ev pr (.call 69 [.t .nils, i64 k] []) (.val (i64 k) []) := by
  have g : Ev pr (.loop (lq pr 69 0) (at_ [(0, .t .nils), (1, i64 k), (5, i64 0)] [] 0)) (.exit 0 (at_ [(1, i64 k)] [] 0)) := by
    let t0 : Tp pr := .i (rfl : ((0 : Int) : Int) = (0 : Int))
    exact .tp [t0, .bF] (by kernel_rfl)
  exact .tp [.a (g)] (by kernel_rfl)
theorem markValN_ev (k : Int) : Ev pr (.call 67 [.t .nils, i64 k] []) (.val (i64 k) []) := by
  have g : Ev pr (.loop (lq pr 67 0) (at_ [(0, .t .nils), (1, i64 k), (5, i64 0)] [] 0)) (.exit 0 (at_ [(1, i64 k)] [] 0)) := by
    let t0 : Tp pr := .i (rfl : ((0 : Int) : Int) = (0 : Int))
    exact .tp [t0, .bF] (by kernel_rfl)
  exact .tp [.a (g)] (by kernel_rfl)
theorem heldValN_ev (k : Int) : Ev pr (.call 70 [.t .nils, i64 k] []) (.val (i64 k) []) := by
  have g : Ev pr (.loop (lq pr 70 0) (at_ [(0, .t .nils), (1, i64 k), (5, i64 0)] [] 0)) (.exit 0 (at_ [(1, i64 k)] [] 0)) := by
    let t0 : Tp pr := .i (rfl : ((0 : Int) : Int) = (0 : Int))
    exact .tp [t0, .bF] (by kernel_rfl)
  exact .tp [.a (g)] (by kernel_rfl)
theorem markBindN_ev (k : Int) : Ev pr (.call 68 [.t .nils, i64 k] []) (.val (i64 k) []) := by
  have g : Ev pr (.loop (lq pr 68 0) (at_ [(0, .t .nils), (1, i64 k), (5, i64 0)] [] 0)) (.exit 0 (at_ [(1, i64 k)] [] 0)) := by
    let t0 : Tp pr := .i (rfl : ((0 : Int) : Int) = (0 : Int))
    exact .tp [t0, .bF] (by kernel_rfl)
  exact .tp [.a (g)] (by kernel_rfl)
theorem heldBindN_ev (k : Int) : Ev pr (.call 71 [.t .nils, i64 k] []) (.val (i64 k) []) := by
  have g : Ev pr (.loop (lq pr 71 0) (at_ [(0, .t .nils), (1, i64 k), (5, i64 0)] [] 0)) (.exit 0 (at_ [(1, i64 k)] [] 0)) := by
    let t0 : Tp pr := .i (rfl : ((0 : Int) : Int) = (0 : Int))
    exact .tp [t0, .bF] (by kernel_rfl)
  exact .tp [.a (g)] (by kernel_rfl)
theorem markMachineN_ev (k : Int) : Ev pr (.call 26 [mZ, i64 k] []) (.val (i64 k) []) := by
  unfold mZ
  exact .tp [.a (markFrameN_ev (k)), .a (markValN_ev (k)), .a (markBindN_ev (k))] (by kernel_rfl)
theorem heldMachineN_ev (k : Int) (hk : 0 ≤ k) : Ev pr (.call 27 [mZ, i64 k] []) (.val (i64 k) []) := by
  unfold mZ
  let t1 : Tp pr := .b (show (decide (k < (0 : Int))) = false by (simp; omega))
  exact .tp [.a (heldFrameN_ev (k)), t1, .a (heldValN_ev (k)), t1, .a (heldBindN_ev (k)), t1] (by kernel_rfl)
/-- A machine of ours. -/
def mV (d : Bool) (p e v : Int) (lF : Nat) (F W D : List (List C)) : V := .agg [bl d, i64 p, i64 e, i64 v, .vec 0 F.length 4 0 lF, .vec 1 W.length 4 0 W.length, .vec 2 D.length 2 0 D.length]
theorem markMachine_ev (d : Bool) (p e v : Int) (lF : Nat) (F W D F2 W2 D2 : List (List C)) (hF : F2.length = F.length) (hW : W2.length = W.length) (hD : D2.length = D.length) (k k1 k2 k3 : Int)
    (g1 : Ev pr (.call 66 [.vec 0 F.length 4 0 lF, i64 k] [.vec true 4 F]) (.val (i64 k1) [.vec true 4 F2])) (g2 : Ev pr (.call 67 [.vec 0 W.length 4 0 W.length, i64 k1] [.vec true 4 W]) (.val (i64 k2) [.vec true 4 W2]))
    (g3 : Ev pr (.call 68 [.vec 0 D.length 2 0 D.length, i64 k2] [.vec true 2 D]) (.val (i64 k3) [.vec true 2 D2])) :
    Ev pr (.call 26 [mV d p e v lF F W D, i64 k] [.vec true 4 F, .vec true 4 W, .vec true 2 D]) (.val (i64 k3) [.vec true 4 F2, .vec true 4 W2, .vec true 2 D2]) := by
  unfold mV
  exact .tp [.a (g1), .a (g2), .a (g3)] (by kernel_rfl)
theorem heldMachine_ev (d : Bool) (p e v : Int) (X Y Z : List (List T)) (k k1 k2 k3 : Int) (h1 : 0 ≤ k1) (h2 : 0 ≤ k2) (h3 : 0 ≤ k3)
    (g1 : Ev pr (.call 69 [.t (.seq 4 X), i64 k] []) (.val (i64 k1) [])) (g2 : Ev pr (.call 70 [.t (.seq 4 Y), i64 k1] []) (.val (i64 k2) [])) (g3 : Ev pr (.call 71 [.t (.seq 2 Z), i64 k2] []) (.val (i64 k3) [])) :
    Ev pr (.call 27 [mF d p e v X Y Z, i64 k] []) (.val (i64 k3) []) := by
  unfold mF
  let t1 : Tp pr := .b (show (decide (k1 < (0 : Int))) = false by (simp; omega))
  let t3 : Tp pr := .b (show (decide (k2 < (0 : Int))) = false by (simp; omega))
  let t5 : Tp pr := .b (show (decide (k3 < (0 : Int))) = false by (simp; omega))
  exact .tp [.a (g1), t1, .a (g2), t3, .a (g3), t5] (by kernel_rfl)
end Go.Ev

/- The law: the program's PlayMachine returns what the reference's returns. -/
namespace Go.Ev
set_option linter.unusedVariables false
set_option linter.unusedSimpArgs false
open Go.Proofs
set_option maxRecDepth 100000
set_option linter.unusedVariables false
set_option linter.unusedSimpArgs false
set_option maxHeartbeats 4000000
def Cell.wf (x : Cell) : Prop := (Lit.int .i64 x.kind).wf = true ∧ (Lit.int .i64 x.n).wf = true
theorem prim_none : PrimOk pr := prim_all
theorem lawN (l : List Cell) (k : Int) (h1 : l.length ≤ 1048576) (h0 : Ev pr (.call 9 [.t (.seq 2 (l.map Cell.ce)), i64 1048576] []) (.val (i64 (1048576 - l.length)) []))
    (g2 : Ev pr (.call 23 [.t (.seq 2 (l.map Cell.ce)), i64 k] []) (pmSO none)) (g3 : Ev pr (.call 24 [.t (.seq 2 (l.map Cell.ce)), i64 k] []) (.val (.tup [mZ, i64 0, bl false]) [])) :
    Ev pr (.call 7 [.t (.seq 2 (l.map Cell.ce)), i64 k] []) (.val (bl true) []) := by
  have g1 := toCellS_ev l h1
  have g4 := eqCellS_ev l h1
  have g5 := eqMachineN_ev
  have g6 := markCellS_ev l 1 (by omega) (by omega) h1
  have g7 := markMachineN_ev 1
  have g8 := heldMachineN_ev 1 (by omega)
  have hf : (l.map Cell.cc).map (List.map C.fz) = l.map Cell.ce := by simp [Cell.cc, Cell.ce, C.fz, Function.comp_def]
  have ht : List.take l.length (l.map Cell.cc) = l.map Cell.cc := List.take_of_length_le (by simp)
  have hl : (l.map Cell.cc).length = l.length := by simp
  have hl2 : (l.map Cell.ce).length = l.length := by simp
  unfold pmSO mZ mF at *
  let t1 : Tp pr := .b (show (decide ((1048576 : Int) - (↑l.length : Int) < (0 : Int))) = false by (simp; omega))
  let t3 : Tp pr := .m (show (decide ((List.map Cell.cc l).length = l.length ∧ (0 : Nat) + l.length ≤ l.length)) = true by simp)
  let t4 : Tp pr := .n .rows (show (List.map (fun x => List.map C.fz x) (List.take l.length (List.drop (0 : Nat) (List.map Cell.cc l)))) = List.map ((fun x => List.map C.fz x) ∘ Cell.cc) l by simp)
  exact .tp [.a (h0), t1, .a (g1), t3, t4, .a (g2), .a (g1), t3, t4, .a (g3), .mT, .a (g5), .bF, .bF, .bF, .a (g1), t3, t4, t3, t4, .a (g4), .mT, .bF, .a (g6), .bF, .a (g5), .bF, .bF, .bF, .a (g7), .a (g8), .bF, .bF, .a (g1), t3, t4, .a (g3), .mT, .a (g5), .bF, .bF, .bF, .a (g8), .bF, .bF] (by kernel_rfl)
theorem lawS (l : List Cell) (k : Int) (h1 : l.length ≤ 1048576) (h0 : Ev pr (.call 9 [.t (.seq 2 (l.map Cell.ce)), i64 1048576] []) (.val (i64 (1048576 - l.length)) []))
    (d : Bool) (p e v : Int) (lF : Nat) (F W D F2 W2 D2 : List (List C)) (hlF : lF ≤ F.length) (hF2 : F2.length = F.length) (hW2 : W2.length = W.length) (hD2 : D2.length = D.length) (n : Nat) (k1 k2 k3 : Int) (p1 : 0 ≤ k1) (p2 : 0 ≤ k2) (p3 : 0 ≤ k3)
    (hW : List.take W.length W = W) (hD : List.take D.length D = D) (hfl : (true && [Ob.vec true 4 F, Ob.vec true 4 W, Ob.vec true 2 D].all Ob.flat) = true)
    (X : List (List T)) (hX : X = (List.take lF F).map (List.map C.fz)) (g2 : Ev pr (.call 23 [.t (.seq 2 (l.map Cell.ce)), i64 k] []) (.val (.tup [mF d p e v X (W.map (List.map C.fz)) (D.map (List.map C.fz)), i64 n, bl true]) []))
    (g3 : Ev pr (.call 24 [.t (.seq 2 (l.map Cell.ce)), i64 k] []) (.val (.tup [mV d p e v lF F W D, i64 n, bl true]) [.vec true 4 F, .vec true 4 W, .vec true 2 D]))
    (q1 : Ev pr (.call 63 [.t (.seq 4 ((List.take lF F).map (List.map C.fz))), .t (.seq 4 ((List.take lF F).map (List.map C.fz)))] []) (.val (bl true) [])) (q2 : Ev pr (.call 64 [.t (.seq 4 (W.map (List.map C.fz))), .t (.seq 4 (W.map (List.map C.fz)))] []) (.val (bl true) [])) (q3 : Ev pr (.call 65 [.t (.seq 2 (D.map (List.map C.fz))), .t (.seq 2 (D.map (List.map C.fz)))] []) (.val (bl true) []))
    (m1 : Ev pr (.call 66 [.vec 0 F.length 4 0 lF, i64 1] [.vec true 4 F]) (.val (i64 k1) [.vec true 4 F2])) (m2 : Ev pr (.call 67 [.vec 0 W.length 4 0 W.length, i64 k1] [.vec true 4 W]) (.val (i64 k2) [.vec true 4 W2])) (m3 : Ev pr (.call 68 [.vec 0 D.length 2 0 D.length, i64 k2] [.vec true 2 D]) (.val (i64 k3) [.vec true 2 D2]))
    (r1 : Ev pr (.call 69 [.t (.seq 4 ((List.take lF F2).map (List.map C.fz))), i64 1] []) (.val (i64 k1) [])) (r2 : Ev pr (.call 70 [.t (.seq 4 ((List.take W.length W2).map (List.map C.fz))), i64 k1] []) (.val (i64 k2) [])) (r3 : Ev pr (.call 71 [.t (.seq 2 ((List.take D.length D2).map (List.map C.fz))), i64 k2] []) (.val (i64 k3) [])) :
    Ev pr (.call 7 [.t (.seq 2 (l.map Cell.ce)), i64 k] []) (.val (bl true) []) := by
  have g1 := toCellS_ev l h1
  have g4 := eqCellS_ev l h1
  have g5 : Ev pr (.call 25 [mF d p e v ((List.take lF F).map (List.map C.fz)) (W.map (List.map C.fz)) (D.map (List.map C.fz)), mF d p e v X (W.map (List.map C.fz)) (D.map (List.map C.fz))] []) (.val (bl true) []) := by
    rw [hX]
    exact eqMachine_ev d p e v _ _ _ q1 q2 q3
  clear hX
  have g6 := markCellS_ev l 1 (by omega) (by omega) h1
  have g7 := markMachine_ev d p e v lF F W D F2 W2 D2 hF2 hW2 hD2 1 k1 k2 k3 m1 m2 m3
  have g8 := heldMachine_ev d p e v _ _ _ 1 k1 k2 k3 p1 p2 p3 r1 r2 r3
  clear q1 q2 q3 m1 m2 m3 r1 r2 r3
  have hf : (l.map Cell.cc).map (List.map C.fz) = l.map Cell.ce := by simp [Cell.cc, Cell.ce, C.fz, Function.comp_def]
  have ht : List.take l.length (l.map Cell.cc) = l.map Cell.cc := List.take_of_length_le (by simp)
  have hl : (l.map Cell.cc).length = l.length := by simp
  have hl2 : (l.map Cell.ce).length = l.length := by simp
  unfold mV mF at *
  let t1 : Tp pr := .b (show (decide ((1048576 : Int) - (↑l.length : Int) < (0 : Int))) = false by (simp; omega))
  let t3 : Tp pr := .m (show (decide ((List.map Cell.cc l).length = l.length ∧ (0 : Nat) + l.length ≤ l.length)) = true by simp)
  let t4 : Tp pr := .n .rows (show (List.map (fun x => List.map C.fz x) (List.take l.length (List.drop (0 : Nat) (List.map Cell.cc l)))) = List.map ((fun x => List.map C.fz x) ∘ Cell.cc) l by simp)
  let t10 : Tp pr := .m (show (true && [Ob.vec true (4 : Nat) F, Ob.vec true (4 : Nat) W, Ob.vec true (2 : Nat) D].all Ob.flat) = true by assumption)
  let t11 : Tp pr := .m (show (decide (F.length = F.length ∧ (0 : Nat) + lF ≤ F.length)) = true by simp [*])
  let t12 : Tp pr := .n .rows (show (List.map (fun x => List.map C.fz x) (List.take lF (List.drop (0 : Nat) F))) = List.take lF (List.map (fun x => List.map C.fz x) F) by simp)
  let t13 : Tp pr := .m (show (decide (W.length = W.length ∧ (0 : Nat) + W.length ≤ W.length)) = true by simp)
  let t14 : Tp pr := .n .rows (show (List.map (fun x => List.map C.fz x) (List.take W.length (List.drop (0 : Nat) W))) = List.map (fun x => List.map C.fz x) W by simp)
  let t15 : Tp pr := .m (show (decide (D.length = D.length ∧ (0 : Nat) + D.length ≤ D.length)) = true by simp)
  let t16 : Tp pr := .n .rows (show (List.map (fun x => List.map C.fz x) (List.take D.length (List.drop (0 : Nat) D))) = List.map (fun x => List.map C.fz x) D by simp)
  let t17 : Tp pr := .a (Ev.castq (congrArg (fun x => Q.call (25 : FuncId) [V.agg [bl d, i64 p, i64 e, i64 v, V.t (T.seq (4 : Nat) x), V.t (T.seq (4 : Nat) (List.map (List.map C.fz) W)), V.t (T.seq (2 : Nat) (List.map (List.map C.fz) D))], V.agg [bl d, i64 p, i64 e, i64 v, V.t (T.seq (4 : Nat) X), V.t (T.seq (4 : Nat) (List.map (List.map C.fz) W)), V.t (T.seq (2 : Nat) (List.map (List.map C.fz) D))]] []) (show (List.map (List.map C.fz) (List.take lF F)) = (List.take lF (List.map (fun x => List.map C.fz x) F)) by simp)) (g5))
  let t20 : Tp pr := .b (show ((↑n : Int) != (↑n : Int)) = false by simp)
  let t44 : Tp pr := .m (show (decide (F2.length = F.length ∧ (0 : Nat) + lF ≤ F.length)) = true by simp [*])
  let t45 : Tp pr := .n .rows (show (List.map (fun x => List.map C.fz x) (List.take lF (List.drop (0 : Nat) F2))) = List.take lF (List.map (fun x => List.map C.fz x) F2) by simp)
  let t46 : Tp pr := .m (show (decide (W2.length = W.length ∧ (0 : Nat) + W.length ≤ W.length)) = true by simp [*])
  let t47 : Tp pr := .n .rows (show (List.map (fun x => List.map C.fz x) (List.take W.length (List.drop (0 : Nat) W2))) = List.take W.length (List.map (fun x => List.map C.fz x) W2) by simp)
  let t48 : Tp pr := .m (show (decide (D2.length = D.length ∧ (0 : Nat) + D.length ≤ D.length)) = true by simp [*])
  let t49 : Tp pr := .n .rows (show (List.map (fun x => List.map C.fz x) (List.take D.length (List.drop (0 : Nat) D2))) = List.take D.length (List.map (fun x => List.map C.fz x) D2) by simp)
  let t50 : Tp pr := .a (Ev.castq (((congrArg (fun x => Q.call (27 : FuncId) [V.agg [bl d, i64 p, i64 e, i64 v, V.t (T.seq (4 : Nat) x), V.t (T.seq (4 : Nat) (List.map (List.map C.fz) (List.take W.length W2))), V.t (T.seq (2 : Nat) (List.map (List.map C.fz) (List.take D.length D2)))], i64 (1 : Int)] []) (show (List.map (List.map C.fz) (List.take lF F2)) = (List.take lF (List.map (fun x => List.map C.fz x) F2)) by simp)).trans (congrArg (fun x => Q.call (27 : FuncId) [V.agg [bl d, i64 p, i64 e, i64 v, V.t (T.seq (4 : Nat) (List.take lF (List.map (fun x => List.map C.fz x) F2))), V.t (T.seq (4 : Nat) x), V.t (T.seq (2 : Nat) (List.map (List.map C.fz) (List.take D.length D2)))], i64 (1 : Int)] []) (show (List.map (List.map C.fz) (List.take W.length W2)) = (List.take W.length (List.map (fun x => List.map C.fz x) W2)) by simp))).trans (congrArg (fun x => Q.call (27 : FuncId) [V.agg [bl d, i64 p, i64 e, i64 v, V.t (T.seq (4 : Nat) (List.take lF (List.map (fun x => List.map C.fz x) F2))), V.t (T.seq (4 : Nat) (List.take W.length (List.map (fun x => List.map C.fz x) W2))), V.t (T.seq (2 : Nat) x)], i64 (1 : Int)] []) (show (List.map (List.map C.fz) (List.take D.length D2)) = (List.take D.length (List.map (fun x => List.map C.fz x) D2)) by simp))) (g8))
  let t52 : Tp pr := .b (show (decide (k3 < (0 : Int))) = false by (simp; omega))
  exact .tp [.a (h0), t1, .a (g1), t3, t4, .a (g2), .a (g1), t3, t4, .a (g3), t10, t11, t12, t13, t14, t15, t16, t17, .mT, .bF, t20, .bF, .a (g1), t3, t4, t3, t4, .a (g4), .mT, .bF, .a (g6), .bF, t11, t12, t13, t14, t15, t16, t17, .mT, .bF, t20, .bF, .a (g7), t44, t45, t46, t47, t48, t49, t50, .mT, t52, .b (show (k3 != k3) = false by simp), .a (g1), t3, t4, .a (g3), t10, t11, t12, t13, t14, t15, t16, t17, .mT, .bF, t20, .bF, t44, t45, t46, t47, t48, t49, t50, .mT, t52, .b (show (k3 != k3) = false by simp)] (by kernel_rfl)
theorem frm_take (l J : List Frm) : List.take l.length ((l ++ J).map Frm.cc) = l.map Frm.cc := by
  rw [List.map_append]
  exact List.take_left' (by simp)
theorem law0_ev (l : List Cell) (k : Int) (hl : l.length ≤ 9223372036854775807) : Ev pr (.call 7 [.t (.seq 2 (l.map Cell.ce)), i64 k] []) (.val (bl true) []) := by
  have h0 := szCellS_ev l 1048576 (by omega) (by omega) hl
  unfold szCell at h0
  by_cases hz : (1048576 : Int) - l.length < 0
  · rw [if_pos hz] at h0
    exact .tp [.a (h0), .bT] (by kernel_rfl)
  · rw [if_neg hz] at h0
    have h1 : l.length ≤ 1048576 := by omega
    have g2 := PlayMachineS_ev l k h1
    obtain ⟨jk, hs, g3⟩ := PlayMachineI_ev l k h1
    cases hp : playM l k with
    | none =>
      rw [hp] at g2 g3
      exact lawN l k h1 h0 g2 g3
    | some r =>
      obtain ⟨m, n⟩ := r
      obtain ⟨⟨s1, s2, s3⟩, s4⟩ := hs m n hp
      rw [hp] at g2 g3
      clear hs hp
      have s5 : m.frs.length = m.frs.reverse.length := by simp
      unfold pmIO at g3
      unfold pmSO at g2
      dsimp only at g2 g3
      rw [s5] at g3 s1 s4
      clear s5
      generalize m.frs.reverse = L at *
      have a1 := markFrmJ_ev (jk.map Frm.cc) L 1 (by omega) (by omega) (by omega)
      have a2 := markVlS_ev m.vals (1 + 4 * L.length) (by omega) (by omega) (by omega)
      have a3 := markBdS_ev m.bds (1 + 4 * L.length + 4 * m.vals.length) (by omega) (by omega) (by omega)
      have b1 := heldFrmS_ev L.length 1 (by omega) (by omega) (by omega)
      have b2 := heldVlS_ev m.vals.length (1 + 4 * L.length) (by omega) (by omega) (by omega)
      have b3 := heldBdS_ev m.bds.length (1 + 4 * L.length + 4 * m.vals.length) (by omega) (by omega) (by omega)
      have c1 := eqFrmS_ev L (by omega)
      have c2 := eqVlS_ev m.vals (by omega)
      have c3 := eqBdS_ev m.bds (by omega)
      have l1 : (m.vals.map Vl.cc).length = m.vals.length := by simp
      have l2 : (m.bds.map Bd.cc).length = m.bds.length := by simp
      have k1 := mkFrm_len 1 L.length
      have k2 := mkVl_len (1 + 4 * L.length) m.vals.length
      have k3 := mkBd_len (1 + 4 * L.length + 4 * m.vals.length) m.bds.length
      have F2 : List.take L.length ((mkFrm 1 L.length).map Frm.cc ++ jk.map Frm.cc) = (mkFrm 1 L.length).map Frm.cc := List.take_left' (by simp [k1])
      refine lawS l k h1 h0 m.done m.pl m.env m.val L.length ((L ++ jk).map Frm.cc) (m.vals.map Vl.cc) (m.bds.map Bd.cc) ((mkFrm 1 L.length).map Frm.cc ++ jk.map Frm.cc) ((mkVl (1 + 4 * L.length) m.vals.length).map Vl.cc) ((mkBd (1 + 4 * L.length + 4 * m.vals.length) m.bds.length).map Bd.cc)
        (by simp) (by simp [k1]) (by simp [k2]) (by simp [k3]) n (1 + 4 * L.length) (1 + 4 * L.length + 4 * m.vals.length) (1 + 4 * L.length + 4 * m.vals.length + 2 * m.bds.length) (by omega) (by omega) (by omega) (take_all _) (take_all _) ?_ (L.map Frm.ce) ?_ ?_ ?_ ?_ ?_ ?_ ?_ ?_ ?_ ?_ ?_ ?_
      · simp [Ob.flat, Frm.cc, Vl.cc, Bd.cc, C.flat, T.flat]
      · rw [frm_take, frm_fz]
      · rw [vl_fz, bd_fz]
        exact g2
      · exact g3
      · rw [frm_take, frm_fz]
        exact c1
      · rw [vl_fz]
        exact c2
      · rw [bd_fz]
        exact c3
      · rw [List.map_append]
        simp only [List.length_append, List.length_map] at a1 ⊢
        exact a1
      · rw [l1]
        exact a2
      · rw [l2]
        exact a3
      · rw [F2, frm_fz]
        exact b1
      · rw [l1, List.take_of_length_le (by simp [k2]), vl_fz]
        exact b2
      · rw [l2, List.take_of_length_le (by simp [k3]), bd_fz]
        exact b3
theorem law_ev (l : List Cell) (h : l.length ≤ 9223372036854775807 ∧ ∀ x ∈ l, x.wf) (k : Int) (h3 : (Lit.int .i64 k).wf = true) : Ev pr (.call 7 [.t (.seq 2 (l.map Cell.ce)), i64 k] []) (.val (.t (.bool true)) []) := law0_ev l k h.1
end Go.Ev
