import Derived.Test.YtipolnpffmfmmaaKFnExactScanSpans4
/- Spans: none placed yet; in turn. -/
namespace Go.Ev
set_option linter.unusedVariables false
set_option linter.unusedSimpArgs false
open Go.Proofs
set_option maxRecDepth 100000
set_option linter.unusedVariables false
set_option linter.unusedSimpArgs false
set_option maxHeartbeats 2000000
@[local simp] theorem ints_flatK (fl : Bool) (n : Nat) (l : List Int) : Ob.flat (.vec fl n (ints l)) = true := by simp [Ob.flat, ints, intc, C.flat, T.flat]
@[local simp] theorem rep_flatK (fl : Bool) (n m : Nat) (k : Int) : Ob.flat (.vec fl n (List.replicate m [C.t (.int .i64 k)])) = true := by simp [Ob.flat, C.flat, T.flat]
theorem noP_ev (n : Nat) (h : n ≤ 40) : Ev pr (.call 87 [i64 n] []) (.val (.vec 0 n 1 0 n) [.vec true 1 (ints (List.replicate n (-1)))]) := by
  have g := repeat_ev n h
  let t1 : Tp pr := .n .rows (show (List.map (fun x => List.map C.fz x) (List.take (1 : Nat) (List.drop (0 : Nat) [[C.t (T.int IntKind.i64 (-1 : Int))]]))) = [[(C.t (T.int IntKind.i64 (-1 : Int))).fz]] by simp)
  let t3 : Tp pr := .m (show (true && [Ob.vec true (1 : Nat) (ints (List.replicate n (-1 : Int)))].all Ob.flat) = true by simp)
  exact .tp [.m (rfl : true = true), t1, .a (g), t3] (by kernel_rfl)
theorem intsM (l : List Int) : ints l ++ [[C.t (.int .i64 (-1))]] = ints (l ++ [-1]) := by simp [ints, intc]
theorem rep1 (k : Nat) : List.replicate k (-1 : Int) ++ [-1] = List.replicate (k + 1) (-1) := List.replicate_succ'.symm
theorem noneL_ev : ∀ (n k : Nat), n + k ≤ 1000 → Ev pr (.loop (lq pr 82 0) (at_ [(0, i64 n), (3, .vec 0 k 1 0 k)] [.vec true 1 (ints (List.replicate k (-1)))] 0)) (.exit 0 (at_ [(3, .vec 0 (k + n) 1 0 (k + n))] [.vec true 1 (ints (List.replicate (k + n) (-1)))] 0))
  | 0, k, h => by
    exact .tp [.b (rfl : false = false)] (by kernel_rfl)
  | n + 1, k, h => by
    have ih := noneL_ev n (k + 1) (by omega)
    rw [← rep1, ← intsM, show k + 1 + n = k + (n + 1) by omega] at ih
    let t0 : Tp pr := .b (show (decide ((↑(n + (1 : Nat)) : Int) > (0 : Int))) = true by simp)
    let t2 : Tp pr := .m (show (decide ((ints (List.replicate k (-1 : Int))).length = k ∧ (0 : Nat) + k ≤ k ∧ k + (1 : Nat) ≤ (4294967296 : Nat))) = true by (simp; omega))
    let t3 : Tp pr := .b (show (decide (k + (1 : Nat) ≤ k)) = false by simp)
    let t5 : Tp pr := .n .crows (show ((List.take k (ints (List.replicate k (-1 : Int)))).append (List.take (1 : Nat) (List.drop (0 : Nat) [[C.t (T.int IntKind.i64 (-1 : Int))]]))) = List.replicate k [C.t (T.int IntKind.i64 (-1 : Int))] ++ [[C.t (T.int IntKind.i64 (-1 : Int))]] by simp)
    let t6 : Tp pr := .i (wrap_i64 (a := (↑(n + (1 : Nat)) : Int) - (1 : Int)) (by omega) (by omega))
    let t7 : Tp pr := .a (Ev.castq ((congrArg (fun x => Q.loop (lq pr (82 : FuncId) (0 : Nat)) (at_ [((0 : Nat), i64 x), ((3 : Nat), V.vec (0 : Nat) (k + (1 : Nat)) (1 : Nat) (0 : Nat) (k + (1 : Nat)))] [Ob.vec true (1 : Nat) (ints (List.replicate k (-1 : Int)) ++ [[C.t (T.int IntKind.i64 (-1 : Int))]])] (0 : Nat))) (show ((↑n : Int)) = ((↑(n + (1 : Nat)) : Int) - (1 : Int)) by simp)).trans (congrArg (fun x => Q.loop (lq pr (82 : FuncId) (0 : Nat)) (at_ [((0 : Nat), i64 ((↑(n + (1 : Nat)) : Int) - (1 : Int))), ((3 : Nat), V.vec (0 : Nat) (k + (1 : Nat)) (1 : Nat) (0 : Nat) (k + (1 : Nat)))] [Ob.vec true (1 : Nat) x] (0 : Nat))) (show (ints (List.replicate k (-1 : Int)) ++ [[C.t (T.int IntKind.i64 (-1 : Int))]]) = ((List.replicate k [C.t (T.int IntKind.i64 (-1 : Int))]).append [[C.t (T.int IntKind.i64 (-1 : Int))]]) by simp))) (ih))
    exact .tp [t0, .m (rfl : true = true), t2, t3, .c (rfl : (k + (1 : Nat)) = _), t5, t6, t7] (by kernel_rfl)
theorem noneS_ev (n : Nat) (h : n ≤ 1000) : Ev pr (.call 82 [i64 n] []) (.val (.vec 0 n 1 0 n) [.vec true 1 (ints (List.replicate n (-1)))]) := by
  have g := noneL_ev n 0 (by omega)
  rw [Nat.zero_add] at g
  exact .tp [.a (g)] (by kernel_rfl)
theorem upL_ev (l : List Span) (hl : l.length ≤ 1000) : ∀ (n k : Nat), k + n = l.length →
    Ev pr (.loop (lq pr 88 0) (at_ [(1, .ptr 0 1 0 0), (3, .vec 1 l.length 1 0 l.length), (9, i64 l.length), (10, i64 k)] [.box [spq l], .vec true 1 (ints (upN k ++ List.replicate n 0))] 0))
      (.exit 0 (at_ [(1, .ptr 0 1 0 0), (3, .vec 1 l.length 1 0 l.length)] [.box [spq l], .vec true 1 (ints (upN l.length))] 0))
  | 0, k, h => by
    have e : k = l.length := by omega
    subst e
    rw [show List.replicate 0 (0 : Int) = [] from rfl, List.append_nil]
    let t0 : Tp pr := .b (show (decide ((↑l.length : Int) < (↑l.length : Int))) = false by simp)
    exact .tp [t0] (by kernel_rfl)
  | n + 1, k, h => by
    have ih := upL_ev l hl n (k + 1) (by omega)
    rw [upN_succ] at ih
    have e1 : (upN k ++ List.replicate (n + 1) 0).set k (k : Int) = upN k ++ [(k : Int)] ++ List.replicate n 0 := by
      rw [show List.replicate (n + 1) (0 : Int) = 0 :: List.replicate n 0 from rfl, List.append_assoc]
      have := set_at (upN k) (List.replicate n 0) 0 k
      rw [upN_len] at this
      exact this
    have e2 : (ints (upN k ++ List.replicate (n + 1) 0))[k]? = some [C.t (.int .i64 0)] := by
      rw [show List.replicate (n + 1) (0 : Int) = 0 :: List.replicate n 0 from rfl]
      have := ints_get_mid (upN k) 0 (List.replicate n 0)
      rw [upN_len] at this
      exact this
    have hlen : (upN k ++ List.replicate (n + 1) 0).length = l.length := by simp [upN_len]; omega
    generalize upN k ++ List.replicate (n + 1) 0 = D at *
    generalize upN k ++ [(k : Int)] ++ List.replicate n 0 = D2 at *
    let t0 : Tp pr := .b (show (decide ((↑k : Int) < (↑l.length : Int))) = true by (simp; omega))
    let t1 : Tp pr := .m (show (decide ((0 : Int) ≤ (↑k : Int) ∧ (↑k : Int).toNat < l.length)) = true by (simp; omega))
    let t2 : Tp pr := .c (show ((0 : Nat) + (↑k : Int).toNat : Nat) = k by omega)
    let t3 : Tp pr := .m (show (decide ((ints D).length = l.length)) = true by simp [*])
    let t4 : Tp pr := .g .crow (show ((ints D)[k]?) = some ([C.t (T.int IntKind.i64 (0 : Int))]) from e2)
    let t5 : Tp pr := .n .crows (show ((ints D).set k [C.t (T.int IntKind.i64 (↑k : Int))]) = ints (D.set k (↑k : Int)) by simp)
    let t6 : Tp pr := .i (wrap_i64 (a := (↑k : Int) + (1 : Int)) (by omega) (by omega))
    let t7 : Tp pr := .a (Ev.castq (congrArg (fun x => Q.loop (lq pr (88 : FuncId) (0 : Nat)) (at_ [((1 : Nat), V.ptr (0 : Nat) (1 : Nat) (0 : Nat) (0 : Nat)), ((3 : Nat), V.vec (1 : Nat) l.length (1 : Nat) (0 : Nat) l.length), ((9 : Nat), i64 (↑l.length : Int)), ((10 : Nat), i64 (↑(k + (1 : Nat)) : Int))] [Ob.box [spq l], Ob.vec true (1 : Nat) x] (0 : Nat))) (show (ints D2) = (ints (D.set k (↑k : Int))) by simp [e1])) (ih))
    exact .tp [t0, t1, t2, t3, t4, t5, t6, t7] (by kernel_rfl)
theorem turn0_ev (l : List Span) (hl : l.length ≤ 30) : Ev pr (.call 88 [spq l] []) (.val (isq (orderS l)) []) := by
  have g := upL_ev l (by omega) l.length 0 (by omega)
  rw [show ints (upN 0 ++ List.replicate l.length 0) = List.replicate l.length [C.t (.int .i64 0)] by simp [upN, ints, intc]] at g
  have s := sortF_ev l hl l.length (by omega) (upN l.length) (upN_len _) (fun x hx => upN_mem.1 hx) (upN_lt _)
  have e : (isort (keyW l) (upN l.length)).length = l.length := orderS_len l
  unfold orderS
  generalize isort (keyW l) (upN l.length) = D at *
  have t : List.take l.length (D.map intt) = D.map intt := List.take_of_length_le (by simp [e])
  let t0 : Tp pr := .i (show ((↑(List.map Span.ce l).length : Int) : Int) = (↑l.length : Int) by simp)
  let t1 : Tp pr := .m (show (decide ((0 : Int) ≤ (↑l.length : Int) ∧ (↑l.length : Int) ≤ (↑l.length : Int) ∧ (↑l.length : Int) ≤ (4294967296 : Int))) = true by (simp; omega))
  let t2 : Tp pr := .c (show ((↑l.length : Int).toNat : Nat) = l.length by omega)
  let t3 : Tp pr := .n .crows (rfl : (List.replicate l.length [C.t (T.int IntKind.i64 (0 : Int))]) = _)
  let t7 : Tp pr := .m (show (true && [Ob.vec true (1 : Nat) (ints D)].all Ob.flat) = true by simp)
  let t8 : Tp pr := .m (show (decide ((ints D).length = l.length ∧ (0 : Nat) + l.length ≤ l.length)) = true by simp [*])
  let t9 : Tp pr := .n .rows (show (List.map (fun x => List.map C.fz x) (List.take l.length (List.drop (0 : Nat) (ints D)))) = List.take l.length (List.map intt D) by simp)
  exact .tpe [t0, t1, t2, t3, .i (rfl : ((↑l.length : Int)) = _), .a (g), .a (s), t7, t8, t9] (Out.val (V.t (T.seq (1 : Nat) (List.take l.length (List.map intt D)))) []) (by kernel_rfl) (congrArg (fun x => Out.val (V.t (T.seq (1 : Nat) x)) []) (show (List.take l.length (List.map intt D)) = (List.map intt D) by simp [t]))
def leF (l : List Span) (k : Int) (y : Int) : Bool := decide ((spAt l y).from_ ≤ (spAt l k).from_)
theorem ins_leF (l : List Span) (hl : l.length ≤ 30) (k : Int) (hk : k < l.length) : ∀ out : List Int, (∀ y ∈ out, 0 ≤ y ∧ y < k) → ins (keyW l) k out = out.takeWhile (leF l k) ++ k :: out.dropWhile (leF l k)
  | [], h => rfl
  | y :: out, h => by
    have hy := h y (by simp)
    have c := keyW_cmp (l := l) hy.1 hy.2 (by omega)
    rw [cmpI_neg] at c
    unfold ins
    rw [List.takeWhile_cons, List.dropWhile_cons]
    by_cases d : (spAt l y).from_ ≤ (spAt l k).from_
    · rw [if_neg (by omega), if_pos (by simp [leF, d]), if_pos (by simp [leF, d]), ins_leF l hl k hk out fun z hz => h z (by simp [hz])]
      rfl
    · rw [if_pos (by omega), if_neg (by simp [leF, d]), if_neg (by simp [leF, d])]
      rfl
theorem ordI_ev (l : List Span) (hl : l.length ≤ 30) (k : Nat) (hk : k < l.length) (out : List Int) (ho : out.length ≤ 30) : ∀ (rest m : List Int), out = m ++ rest → (∀ y ∈ rest, 0 ≤ y ∧ y < k) →
  Ev pr (.loop (lq pr 83 1) (at_ [(0, spq l), (3, .vec 0 out.length 1 0 out.length), (4, i64 k), (5, .ptr 1 1 0 0), (6, i64 m.length), (8, spq l), (9, i64 l.length), (10, i64 k)] [.vec true 1 (ints out), .box [i64 (spAt l k).from_, i64 (spAt l k).to_]] 0))
    (.exit 2 (at_ [(0, spq l), (3, .vec 0 out.length 1 0 out.length), (4, i64 k), (6, i64 (m.length + (rest.takeWhile (leF l k)).length)), (8, spq l), (9, i64 l.length), (10, i64 k)] [.vec true 1 (ints out)] 0))
  | [], m, he, hy => by
    have hll : (out.length : Int) = m.length := by simp [he]
    rw [show ([] : List Int).takeWhile (leF l k) = [] from rfl]
    let t6 : Tp pr := .b (show (decide ((↑m.length : Int) < (↑out.length : Int))) = false by (simp; omega))
    exact .tp [.m (rfl : true = true), .m (rfl : true = true), .i (rfl : ((↑out.length : Int)) = _), .m (rfl : true = true), .m (rfl : true = true), .m (rfl : true = true), t6, .m (rfl : true = true), .m (rfl : true = true), .m (rfl : true = true), .m (rfl : true = true), .m (rfl : true = true), .m (rfl : true = true), .m (rfl : true = true), .m (rfl : true = true), .m (rfl : true = true), .m (rfl : true = true), .m (rfl : true = true), .m (rfl : true = true), .b (rfl : false = false)] (by kernel_rfl)
  | y :: rest, m, he, hb => by
    have hll : (out.length : Int) = m.length + 1 + rest.length := by simp [he]; omega
    have hll2 : out.length = m.length + 1 + rest.length := by omega
    have hg : (ints out)[m.length]? = some [C.t (.int .i64 y)] := by subst he; simp
    have hyb := hb y (by simp)
    have hg2 := spAt_lkp (l := l) (k := y) hyb.1 (by omega)
    have ih := ordI_ev l hl k hk out ho rest (m ++ [y]) (by simp [he]) fun z hz => hb z (by simp [hz])
    rw [List.takeWhile_cons]
    by_cases d : (spAt l y).from_ ≤ (spAt l k).from_
    · rw [if_pos (by simp [leF, d])]
      generalize spAt l y = sy at *
      let t6 : Tp pr := .b (show (decide ((↑m.length : Int) < (↑out.length : Int))) = true by (simp; omega))
      let t10 : Tp pr := .m (show (decide ((0 : Int) ≤ (↑m.length : Int) ∧ (↑m.length : Int).toNat < out.length)) = true by simp [*])
      let t11 : Tp pr := .c (show ((0 : Nat) + (↑m.length : Int).toNat : Nat) = m.length by omega)
      let t13 : Tp pr := .m (show (decide ((ints out).length = out.length)) = true by simp)
      let t14 : Tp pr := .g .crow (show ((ints out)[m.length]?) = some ([C.t (T.int IntKind.i64 y)]) from hg)
      let t16 : Tp pr := .g .row (show (lkp (List.map Span.ce l) y) = some (sy.ce) from hg2)
      let t24 : Tp pr := .b (show (decide (sy.from_ ≤ (spAt l (↑k : Int)).from_)) = true by (simp; omega))
      let t25 : Tp pr := .i (wrap_i64 (a := (↑m.length : Int) + (1 : Int)) (by omega) (by omega))
      let t26 : Tp pr := .a (Ev.castq (congrArg (fun x => Q.loop (lq pr (83 : FuncId) (1 : Nat)) (at_ [((0 : Nat), spq l), ((3 : Nat), V.vec (0 : Nat) out.length (1 : Nat) (0 : Nat) out.length), ((4 : Nat), i64 (↑k : Int)), ((5 : Nat), V.ptr (1 : Nat) (1 : Nat) (0 : Nat) (0 : Nat)), ((6 : Nat), i64 x), ((8 : Nat), spq l), ((9 : Nat), i64 (↑l.length : Int)), ((10 : Nat), i64 (↑k : Int))] [Ob.vec true (1 : Nat) (ints out), Ob.box [i64 (spAt l (↑k : Int)).from_, i64 (spAt l (↑k : Int)).to_]] (0 : Nat))) (show ((↑(m ++ [y]).length : Int)) = ((↑m.length : Int) + (1 : Int)) by (simp <;> omega))) (ih))
      exact .tpe [.m (rfl : true = true), .m (rfl : true = true), .i (rfl : ((↑out.length : Int)) = _), .m (rfl : true = true), .m (rfl : true = true), .m (rfl : true = true), t6, .m (rfl : true = true), .m (rfl : true = true), .m (rfl : true = true), t10, t11, .m (rfl : true = true), t13, t14, .m (rfl : true = true), t16, .m (rfl : true = true), .m (rfl : true = true), .m (rfl : true = true), .m (rfl : true = true), .m (rfl : true = true), .m (rfl : true = true), .m (rfl : true = true), t24, t25, t26] (Out.exit (2 : Nat) (at_ [((0 : Nat), V.t (T.seq (2 : Nat) (List.map Span.ce l))), ((3 : Nat), V.vec (0 : Nat) out.length (1 : Nat) (0 : Nat) out.length), ((4 : Nat), V.t (T.int IntKind.i64 (↑k : Int))), ((6 : Nat), V.t (T.int IntKind.i64 ((↑(m ++ [y]).length : Int) + (↑(List.takeWhile (leF l (↑k : Int)) rest).length : Int)))), ((8 : Nat), V.t (T.seq (2 : Nat) (List.map Span.ce l))), ((9 : Nat), V.t (T.int IntKind.i64 (↑l.length : Int))), ((10 : Nat), V.t (T.int IntKind.i64 (↑k : Int)))] [Ob.vec true (1 : Nat) (ints out)] (0 : Nat))) (by kernel_rfl) (congrArg (fun x => Out.exit (2 : Nat) (at_ [((0 : Nat), V.t (T.seq (2 : Nat) (List.map Span.ce l))), ((3 : Nat), V.vec (0 : Nat) out.length (1 : Nat) (0 : Nat) out.length), ((4 : Nat), V.t (T.int IntKind.i64 (↑k : Int))), ((6 : Nat), V.t (T.int IntKind.i64 x)), ((8 : Nat), V.t (T.seq (2 : Nat) (List.map Span.ce l))), ((9 : Nat), V.t (T.int IntKind.i64 (↑l.length : Int))), ((10 : Nat), V.t (T.int IntKind.i64 (↑k : Int)))] [Ob.vec true (1 : Nat) (ints out)] (0 : Nat))) (show ((↑(m ++ [y]).length : Int) + (↑(List.takeWhile (leF l (↑k : Int)) rest).length : Int)) = ((↑m.length : Int) + (↑(y :: List.takeWhile (leF l (↑k : Int)) rest).length : Int)) by (simp <;> omega)))
    · rw [if_neg (by simp [leF, d])]
      generalize spAt l y = sy at *
      let t6 : Tp pr := .b (show (decide ((↑m.length : Int) < (↑out.length : Int))) = true by (simp; omega))
      let t10 : Tp pr := .m (show (decide ((0 : Int) ≤ (↑m.length : Int) ∧ (↑m.length : Int).toNat < out.length)) = true by simp [*])
      let t11 : Tp pr := .c (show ((0 : Nat) + (↑m.length : Int).toNat : Nat) = m.length by omega)
      let t13 : Tp pr := .m (show (decide ((ints out).length = out.length)) = true by simp)
      let t14 : Tp pr := .g .crow (show ((ints out)[m.length]?) = some ([C.t (T.int IntKind.i64 y)]) from hg)
      let t16 : Tp pr := .g .row (show (lkp (List.map Span.ce l) y) = some (sy.ce) from hg2)
      let t24 : Tp pr := .b (show (decide (sy.from_ ≤ (spAt l (↑k : Int)).from_)) = false by (simp; omega))
      exact .tp [.m (rfl : true = true), .m (rfl : true = true), .i (rfl : ((↑out.length : Int)) = _), .m (rfl : true = true), .m (rfl : true = true), .m (rfl : true = true), t6, .m (rfl : true = true), .m (rfl : true = true), .m (rfl : true = true), t10, t11, .m (rfl : true = true), t13, t14, .m (rfl : true = true), t16, .m (rfl : true = true), .m (rfl : true = true), .m (rfl : true = true), .m (rfl : true = true), .m (rfl : true = true), .m (rfl : true = true), .m (rfl : true = true), t24] (by kernel_rfl)
attribute [local simp] toNatS
@[local simp] theorem kt1 (a b : List Int) : List.take a.length (ints (a ++ b)) = ints a := by rw [ints_app]; exact List.take_left' (by simp)
@[local simp] theorem kd1 (a b : List Int) : List.drop a.length (ints (a ++ b)) = ints b := by rw [ints_app]; exact List.drop_left' (by simp)
@[local simp] theorem kt0 (a : List Int) : List.take a.length (ints a) = ints a := List.take_of_length_le (by simp)
@[local simp] theorem kt2 (a : List Int) (z : List C) : List.take (a.length + 1) (ints a ++ [z]) = ints a ++ [z] := List.take_of_length_le (by simp)
@[local simp] theorem kd2 (a : List Int) (z : List C) (n : Nat) : List.drop (a.length + 1 + n) (ints a ++ [z]) = [] := List.drop_of_length_le (by simp)
theorem intsK (a b : List Int) (k : Int) : ints (a ++ k :: b) = ints a ++ [C.t (.int .i64 k)] :: ints b := by simp [ints, intc]
theorem ordS_ev (l : List Span) (hl : l.length ≤ 30) (k : Nat) (hk : k < l.length) (out Z : List Int) (ho : out.length = k) (hb : ∀ y ∈ out, 0 ≤ y ∧ y < k)
    (ih : Ev pr (.loop (lq pr 83 0) (at_ [(0, spq l), (3, .vec 0 (ins (keyW l) k out).length 1 0 (ins (keyW l) k out).length), (8, spq l), (9, i64 l.length), (10, i64 ((k + 1 : Nat) : Int))] [.vec true 1 (ints (ins (keyW l) k out))] 0))
      (.exit 0 (at_ [(3, .vec 0 l.length 1 0 l.length)] [.vec true 1 (ints Z)] 0))) :
    Ev pr (.loop (lq pr 83 0) (at_ [(0, spq l), (3, .vec 0 out.length 1 0 out.length), (8, spq l), (9, i64 l.length), (10, i64 k)] [.vec true 1 (ints out)] 0))
      (.exit 0 (at_ [(3, .vec 0 l.length 1 0 l.length)] [.vec true 1 (ints Z)] 0)) := by
  have g := ordI_ev l hl k hk out (by omega) out [] rfl hb
  have hins := ins_leF l hl k (by omega) out hb
  rw [hins] at ih
  have hsp : out = out.takeWhile (leF l k) ++ out.dropWhile (leF l k) := List.takeWhile_append_dropWhile.symm
  have hgs := spAt_lkp (l := l) (k := k) (by omega) (by omega)
  generalize out.takeWhile (leF l k) = a at *
  generalize out.dropWhile (leF l k) = b at *
  clear hins
  subst hsp
  simp only [List.length_append] at ho
  by_cases h0 : b = []
  · subst h0
    rw [intsK, show (a ++ [(k : Int)]).length = a.length + 1 by simp, ints_nil] at ih
    rw [List.append_nil]
    rw [List.append_nil] at g
    let t0 : Tp pr := .b (show (decide ((↑k : Int) < (↑l.length : Int))) = true by (simp; omega))
    let t1 : Tp pr := .g .row (show (lkp (List.map Span.ce l) (↑k : Int)) = some ((spAt l (↑k : Int)).ce) from hgs)
    let t3 : Tp pr := .m (show (decide ((0 : Int) ≤ (0 : Int) ∧ (0 : Int) ≤ (0 : Int) + (↑a.length : Int) ∧ (0 : Nat) + ((0 : Int) + (↑a.length : Int)).toNat ≤ a.length)) = true by simp)
    let t5 : Tp pr := .c (show (((0 : Int) + (↑a.length : Int)).toNat - (0 : Nat) : Nat) = a.length by omega)
    let t6 : Tp pr := .m (show (decide ((ints a).length = a.length ∧ (0 : Nat) + a.length ≤ a.length)) = true by simp)
    let t7 : Tp pr := .m (show (decide ((List.take a.length (List.drop (0 : Nat) (ints a))).length ≤ (4294967296 : Nat))) = true by (simp; omega))
    let t8 : Tp pr := .c (show ((List.take a.length (List.drop (0 : Nat) (ints a))).length : Nat) = a.length by simp)
    let t9 : Tp pr := .n .crows (show (List.take a.length (List.drop (0 : Nat) (ints a))) = ints a by simp)
    let t11 : Tp pr := .m (show (decide ((ints a).length = a.length ∧ (0 : Nat) + a.length ≤ a.length ∧ a.length + (1 : Nat) ≤ (4294967296 : Nat))) = true by (simp; omega))
    let t12 : Tp pr := .b (show (decide (a.length + (1 : Nat) ≤ a.length)) = false by simp)
    let t14 : Tp pr := .n .crows (show ((List.take a.length (ints a)).append (List.take (1 : Nat) (List.drop (0 : Nat) [[C.t (T.int IntKind.i64 (↑k : Int))]]))) = ints a ++ [[C.t (T.int IntKind.i64 (↑k : Int))]] by simp)
    let t15 : Tp pr := .m (show (decide ((0 : Int) ≤ (0 : Int) + (↑a.length : Int) ∧ (0 : Int) + (↑a.length : Int) ≤ (↑a.length : Int) ∧ (0 : Nat) + (↑a.length : Int).toNat ≤ a.length)) = true by simp)
    let t16 : Tp pr := .c (show ((0 : Nat) + ((0 : Int) + (↑a.length : Int)).toNat : Nat) = a.length by omega)
    let t17 : Tp pr := .c (show ((↑a.length : Int).toNat - ((0 : Int) + (↑a.length : Int)).toNat : Nat) = (0 : Nat) by omega)
    let t18 : Tp pr := .m (show (decide ((ints a).length = a.length ∧ a.length + (0 : Nat) ≤ a.length)) = true by simp)
    let t19 : Tp pr := .m (show (decide (((ints a).append [[C.t (T.int IntKind.i64 (↑k : Int))]]).length = a.length + (1 : Nat) ∧ (0 : Nat) + (a.length + (1 : Nat)) ≤ a.length + (1 : Nat) ∧ a.length + (1 : Nat) + (0 : Nat) ≤ (4294967296 : Nat))) = true by (simp; omega))
    let t20 : Tp pr := .b (show (decide (a.length + (1 : Nat) + (0 : Nat) ≤ a.length + (1 : Nat))) = true by simp)
    let t21 : Tp pr := .c (show (a.length + (1 : Nat) + (0 : Nat) : Nat) = a.length + (1 : Nat) by omega)
    let t22 : Tp pr := .n .crows (show (((List.take (a.length + (1 : Nat)) ((ints a).append [[C.t (T.int IntKind.i64 (↑k : Int))]])).append []).append (List.drop (a.length + (1 : Nat) + (0 : Nat)) ((ints a).append [[C.t (T.int IntKind.i64 (↑k : Int))]]))) = ints a ++ [C.t (T.int IntKind.i64 (↑k : Int))] :: List.drop (a.length + (1 : Nat)) (ints a ++ [[C.t (T.int IntKind.i64 (↑k : Int))]]) by simp)
    let t23 : Tp pr := .i (wrap_i64 (a := (↑k : Int) + (1 : Int)) (by omega) (by omega))
    let t24 : Tp pr := .a (Ev.castq (congrArg (fun x => Q.loop (lq pr (83 : FuncId) (0 : Nat)) (at_ [((0 : Nat), spq l), ((3 : Nat), V.vec (0 : Nat) (a.length + (1 : Nat)) (1 : Nat) (0 : Nat) (a.length + (1 : Nat))), ((8 : Nat), spq l), ((9 : Nat), i64 (↑l.length : Int)), ((10 : Nat), i64 (↑(k + (1 : Nat)) : Int))] [Ob.vec true (1 : Nat) x] (0 : Nat))) (show (ints a ++ [[C.t (T.int IntKind.i64 (↑k : Int))]]) = ((ints a).append ([C.t (T.int IntKind.i64 (↑k : Int))] :: List.drop (a.length + (1 : Nat)) ((ints a).append [[C.t (T.int IntKind.i64 (↑k : Int))]]))) by simp)) (ih))
    exact .tp [t0, t1, .a (g), t3, .c (rfl : ((0 : Nat)) = _), t5, t6, t7, t8, t9, .m (rfl : true = true), t11, t12, .c (rfl : (a.length + (1 : Nat)) = _), t14, t15, t16, t17, t18, t19, t20, t21, t22, t23, t24] (by kernel_rfl)
  · have hb1 : 1 ≤ b.length := by
      cases b with
      | nil => exact absurd rfl h0
      | cons y b => simp
    rw [intsK, show (a ++ (k : Int) :: b).length = a.length + 1 + b.length by simp; omega] at ih
    have hno : ¬ a.length + 1 + b.length ≤ a.length + 1 := by omega
    let t0 : Tp pr := .b (show (decide ((↑k : Int) < (↑l.length : Int))) = true by (simp; omega))
    let t1 : Tp pr := .g .row (show (lkp (List.map Span.ce l) (↑k : Int)) = some ((spAt l (↑k : Int)).ce) from hgs)
    let t3 : Tp pr := .m (show (decide ((0 : Int) ≤ (0 : Int) ∧ (0 : Int) ≤ (0 : Int) + (↑a.length : Int) ∧ (0 : Nat) + ((0 : Int) + (↑a.length : Int)).toNat ≤ (a ++ b).length)) = true by simp)
    let t5 : Tp pr := .c (show (((0 : Int) + (↑a.length : Int)).toNat - (0 : Nat) : Nat) = a.length by omega)
    let t6 : Tp pr := .m (show (decide ((ints (a ++ b)).length = (a ++ b).length ∧ (0 : Nat) + a.length ≤ (a ++ b).length)) = true by simp)
    let t7 : Tp pr := .m (show (decide ((List.take a.length (List.drop (0 : Nat) (ints (a ++ b)))).length ≤ (4294967296 : Nat))) = true by (simp; omega))
    let t8 : Tp pr := .c (show ((List.take a.length (List.drop (0 : Nat) (ints (a ++ b)))).length : Nat) = a.length by simp)
    let t9 : Tp pr := .n .crows (show (List.take a.length (List.drop (0 : Nat) (ints (a ++ b)))) = ints a by simp)
    let t11 : Tp pr := .m (show (decide ((ints a).length = a.length ∧ (0 : Nat) + a.length ≤ a.length ∧ a.length + (1 : Nat) ≤ (4294967296 : Nat))) = true by (simp; omega))
    let t12 : Tp pr := .b (show (decide (a.length + (1 : Nat) ≤ a.length)) = false by simp)
    let t14 : Tp pr := .n .crows (show ((List.take a.length (ints a)).append (List.take (1 : Nat) (List.drop (0 : Nat) [[C.t (T.int IntKind.i64 (↑k : Int))]]))) = ints a ++ [[C.t (T.int IntKind.i64 (↑k : Int))]] by simp)
    let t15 : Tp pr := .m (show (decide ((0 : Int) ≤ (0 : Int) + (↑a.length : Int) ∧ (0 : Int) + (↑a.length : Int) ≤ (↑(a ++ b).length : Int) ∧ (0 : Nat) + (↑(a ++ b).length : Int).toNat ≤ (a ++ b).length)) = true by (simp; omega))
    let t16 : Tp pr := .c (show ((0 : Nat) + ((0 : Int) + (↑a.length : Int)).toNat : Nat) = a.length by omega)
    let t17 : Tp pr := .c (show ((↑(a ++ b).length : Int).toNat - ((0 : Int) + (↑a.length : Int)).toNat : Nat) = b.length by simp)
    let t18 : Tp pr := .m (show (decide ((ints (a ++ b)).length = (a ++ b).length ∧ a.length + b.length ≤ (a ++ b).length)) = true by simp)
    let t19 : Tp pr := .m (show (decide (((ints a).append [[C.t (T.int IntKind.i64 (↑k : Int))]]).length = a.length + (1 : Nat) ∧ (0 : Nat) + (a.length + (1 : Nat)) ≤ a.length + (1 : Nat) ∧ a.length + (1 : Nat) + (List.take b.length (List.drop a.length (ints (a ++ b)))).length ≤ (4294967296 : Nat))) = true by (simp; omega))
    let t20 : Tp pr := .b (show (decide (a.length + (1 : Nat) + (List.take b.length (List.drop a.length (ints (a ++ b)))).length ≤ a.length + (1 : Nat))) = false by (simp; omega))
    let t21 : Tp pr := .c (show (a.length + (1 : Nat) + (List.take b.length (List.drop a.length (ints (a ++ b)))).length : Nat) = a.length + (1 : Nat) + b.length by simp)
    let t22 : Tp pr := .n .crows (show ((List.take (a.length + (1 : Nat)) ((ints a).append [[C.t (T.int IntKind.i64 (↑k : Int))]])).append (List.take b.length (List.drop a.length (ints (a ++ b))))) = ints a ++ [C.t (T.int IntKind.i64 (↑k : Int))] :: ints b by simp)
    let t23 : Tp pr := .i (wrap_i64 (a := (↑k : Int) + (1 : Int)) (by omega) (by omega))
    exact .tp [t0, t1, .a (g), t3, .c (rfl : ((0 : Nat)) = _), t5, t6, t7, t8, t9, .m (rfl : true = true), t11, t12, .c (rfl : (a.length + (1 : Nat)) = _), t14, t15, t16, t17, t18, t19, t20, t21, t22, t23, .a (ih)] (by kernel_rfl)
theorem ordE_ev (l : List Span) (hl : l.length ≤ 30) (out : List Int) (ho : out.length = l.length) :
    Ev pr (.loop (lq pr 83 0) (at_ [(0, spq l), (3, .vec 0 out.length 1 0 out.length), (8, spq l), (9, i64 l.length), (10, i64 l.length)] [.vec true 1 (ints out)] 0))
      (.exit 0 (at_ [(3, .vec 0 l.length 1 0 l.length)] [.vec true 1 (ints out)] 0)) := by
  let t0 : Tp pr := .b (show (decide ((↑l.length : Int) < (↑l.length : Int))) = false by simp)
  exact .tpe [t0] (Out.exit (0 : Nat) (at_ [((3 : Nat), V.vec (0 : Nat) out.length (1 : Nat) (0 : Nat) out.length)] [Ob.vec true (1 : Nat) (ints out)] (0 : Nat))) (by kernel_rfl) ((congrArg (fun x => Out.exit (0 : Nat) (at_ [((3 : Nat), V.vec (0 : Nat) x (1 : Nat) (0 : Nat) out.length)] [Ob.vec true (1 : Nat) (ints out)] (0 : Nat))) (show (out.length) = (l.length) by assumption)).trans (congrArg (fun x => Out.exit (0 : Nat) (at_ [((3 : Nat), V.vec (0 : Nat) l.length (1 : Nat) (0 : Nat) x)] [Ob.vec true (1 : Nat) (ints out)] (0 : Nat))) (show (out.length) = (l.length) by assumption)))
theorem upF_step (W : Int → Int) (k n : Nat) (out : List Int) : ((List.range' k (n + 1)).map fun (i : Nat) => (i : Int)).foldl (fun P x => ins W x P) out = ((List.range' (k + 1) n).map fun (i : Nat) => (i : Int)).foldl (fun P x => ins W x P) (ins W k out) := by
  rw [List.range'_succ, List.map_cons, List.foldl_cons]
theorem ordO_ev (l : List Span) (hl : l.length ≤ 30) (n : Nat) : ∀ (k : Nat) (out : List Int), k + n = l.length → out.length = k → (∀ y ∈ out, 0 ≤ y ∧ y < k) →
    Ev pr (.loop (lq pr 83 0) (at_ [(0, spq l), (3, .vec 0 out.length 1 0 out.length), (8, spq l), (9, i64 l.length), (10, i64 k)] [.vec true 1 (ints out)] 0))
      (.exit 0 (at_ [(3, .vec 0 l.length 1 0 l.length)] [.vec true 1 (ints (((List.range' k n).map fun (i : Nat) => (i : Int)).foldl (fun P x => ins (keyW l) x P) out))] 0)) := by
  induction n with
  | zero =>
    intro k out h ho hb
    have e : k = l.length := by omega
    rw [show ((List.range' k 0).map fun (i : Nat) => (i : Int)).foldl (fun P x => ins (keyW l) x P) out = out from rfl, e]
    exact ordE_ev l hl out (by omega)
  | succ n ih =>
    intro k out h ho hb
    rw [upF_step]
    refine ordS_ev l hl k (by omega) out _ ho hb (ih (k + 1) _ (by omega) (by rw [ins_len]; omega) fun y hy => ?_)
    rcases List.mem_cons.1 ((ins_perm (k : Int) out).mem_iff.1 hy) with rfl | hy
    · omega
    · have := hb y hy; omega
theorem orderSE_ev (l : List Span) (hl : l.length ≤ 30) : Ev pr (.call 83 [spq l] []) (.val (isq (orderS l)) []) := by
  have g := ordO_ev l hl l.length 0 [] (by omega) rfl (by simp)
  have e : ((List.range' 0 l.length).map fun (i : Nat) => (i : Int)).foldl (fun P x => ins (keyW l) x P) [] = orderS l := by
    rw [← List.range_eq_range']; rfl
  rw [e] at g
  have e2 := orderS_len l
  have t : List.take l.length ((orderS l).map intt) = (orderS l).map intt := List.take_of_length_le (by simp [e2])
  generalize orderS l = D at *
  let t0 : Tp pr := .i (show ((↑(List.map Span.ce l).length : Int) : Int) = (↑l.length : Int) by simp)
  let t2 : Tp pr := .m (show (decide ((ints D).length = l.length ∧ (0 : Nat) + l.length ≤ l.length)) = true by simp [*])
  let t3 : Tp pr := .n .rows (show (List.map (fun x => List.map C.fz x) (List.take l.length (List.drop (0 : Nat) (ints D)))) = List.take l.length (List.map intt D) by simp)
  exact .tpe [t0, .a (g), t2, t3] (Out.val (V.t (T.seq (1 : Nat) (List.take l.length (List.map intt D)))) []) (by kernel_rfl) (congrArg (fun x => Out.val (V.t (T.seq (1 : Nat) x)) []) (show (List.take l.length (List.map intt D)) = (List.map intt D) by simp [t]))
end Go.Ev

/- Spans: places for them, by both. -/
namespace Go.Ev
set_option linter.unusedVariables false
set_option linter.unusedSimpArgs false
open Go.Proofs
set_option maxRecDepth 100000
set_option linter.unusedVariables false
set_option linter.unusedSimpArgs false
set_option maxHeartbeats 2000000
theorem scanIL_ev (l : List Span) (hl : l.length ≤ 30) (O : List Int) (hO : O.length ≤ 30) (hb : ∀ x ∈ O, 0 ≤ x ∧ x < l.length) : ∀ (rest m : List Int) (p : List Int) (many : Int), O = m ++ rest → p.length = l.length → 0 ≤ many → many ≤ l.length + 1 →
    Ev pr (.loop (lq pr 44 0) (at_ [(0, spq l), (5, .vec 0 l.length 1 0 l.length), (6, i64 many), (16, isq O), (17, i64 O.length), (18, i64 m.length)] [.vec true 1 (ints p)] 0))
      (.exit 0 (at_ [(5, .vec 0 l.length 1 0 l.length), (6, i64 (scanGo l rest p many).2)] [.vec true 1 (ints (scanGo l rest p many).1)] 0))
  | [], m, p, many, he, hp, h0, h1 => by
    have hll : (O.length : Int) = m.length := by simp [he]
    unfold scanGo
    let t0 : Tp pr := .b (show (decide ((↑m.length : Int) < (↑O.length : Int))) = false by (simp; omega))
    exact .tp [t0] (by kernel_rfl)
  | x :: rest, m, p, many, he, hp, h0, h1 => by
    have hll : (O.length : Int) = m.length + 1 + rest.length := by simp [he]; omega
    have hg : lkp (O.map intt) (m.length : Int) = some [T.int .i64 x] := by subst he; simp [intt]
    have hx := hb x (by simp [he])
    have hg2 := spAt_lkp (l := l) (k := x) hx.1 hx.2
    have g := least_ev l p (by omega) hp (spAt l x).from_
    have H := leastN_least l p (spAt l x).from_
    have H0 := H.h0
    have H1 := H.h1
    have ih := scanIL_ev l hl O hO hb rest (m ++ [x]) (p.set x.toNat (leastN l p (spAt l x).from_)) (if leastN l p (spAt l x).from_ + 1 > many then leastN l p (spAt l x).from_ + 1 else many) (by simp [he]) (by simp [hp]) (by split <;> omega) (by split <;> omega)
    unfold scanGo
    generalize (scanGo l rest (p.set x.toNat (leastN l p (spAt l x).from_)) (if leastN l p (spAt l x).from_ + 1 > many then leastN l p (spAt l x).from_ + 1 else many)) = Z at *
    generalize leastN l p (spAt l x).from_ = n at *
    have ht : List.take l.length (p.map intt) = p.map intt := List.take_of_length_le (by simp [hp])
    have hgx : (ints p)[x.toNat]? = some [C.t (.int .i64 (p.getD x.toNat 0))] := by
      rw [ints, List.getElem?_map, List.getElem?_eq_getElem (by omega)]
      simp [intc, List.getD_eq_getElem?_getD, List.getElem?_eq_getElem (show x.toNat < p.length by omega)]
    have hgx2 : (ints (p.set x.toNat n))[x.toNat]? = some [C.t (.int .i64 n)] := by
      rw [ints, List.getElem?_map, List.getElem?_set_self (by omega)]
      rfl
    generalize spAt l x = sx at *
    by_cases hm : n + 1 > many
    · rw [if_pos hm] at ih
      let t0 : Tp pr := .b (show (decide ((↑m.length : Int) < (↑O.length : Int))) = true by (simp; omega))
      let t1 : Tp pr := .g .row (show (lkp (List.map intt O) (↑m.length : Int)) = some ([T.int IntKind.i64 x]) from hg)
      let t2 : Tp pr := .g .row (show (lkp (List.map Span.ce l) x) = some (sx.ce) from hg2)
      let t3 : Tp pr := .m (show (decide ((ints p).length = l.length ∧ (0 : Nat) + l.length ≤ l.length)) = true by simp [*])
      let t4 : Tp pr := .n .rows (show (List.map (fun x => List.map C.fz x) (List.take l.length (List.drop (0 : Nat) (ints p)))) = List.take l.length (List.map intt p) by simp)
      let t5 : Tp pr := .a (Ev.castq (congrArg (fun x => Q.call (89 : FuncId) [V.t (T.seq (2 : Nat) (List.map Span.ce l)), V.t (T.seq (1 : Nat) x), V.t (T.int IntKind.i64 sx.from_)] []) (show (List.map intt p) = (List.take l.length (List.map intt p)) by simp [*])) (g))
      let t7 : Tp pr := .m (show (decide ((0 : Int) ≤ x ∧ x.toNat < l.length)) = true by simp [*])
      let t8 : Tp pr := .c (show ((0 : Nat) + x.toNat : Nat) = x.toNat by omega)
      let t9 : Tp pr := .m (show (decide ((ints p).length = l.length)) = true by simp [*])
      let t10 : Tp pr := .g .crow (show ((ints p)[x.toNat]?) = some ([C.t (T.int IntKind.i64 (p.getD x.toNat (0 : Int)))]) from hgx)
      let t11 : Tp pr := .n .crows (show ((ints p).set x.toNat [C.t (T.int IntKind.i64 n)]) = ints (p.set x.toNat n) by simp)
      let t12 : Tp pr := .m (show (decide ((0 : Int) ≤ x ∧ x.toNat < l.length)) = true by simp [*])
      let t13 : Tp pr := .c (show ((0 : Nat) + x.toNat : Nat) = x.toNat by omega)
      let t14 : Tp pr := .m (show (decide ((ints (p.set x.toNat n)).length = l.length)) = true by simp [*])
      let t15 : Tp pr := .g .crow (show ((ints (p.set x.toNat n))[x.toNat]?) = some ([C.t (T.int IntKind.i64 n)]) from hgx2)
      let t16 : Tp pr := .i (wrap_i64 (a := n + (1 : Int)) (by omega) (by omega))
      let t17 : Tp pr := .i (show (if n + (1 : Int) > many then n + (1 : Int) else many : Int) = if many < n + (1 : Int) then n + (1 : Int) else many by omega)
      let t18 : Tp pr := .i (wrap_i64 (a := (↑m.length : Int) + (1 : Int)) (by omega) (by omega))
      let t19 : Tp pr := .a (Ev.castq ((congrArg (fun x_1 => Q.loop (lq pr (44 : FuncId) (0 : Nat)) (at_ [((0 : Nat), spq l), ((5 : Nat), V.vec (0 : Nat) l.length (1 : Nat) (0 : Nat) l.length), ((6 : Nat), i64 x_1), ((16 : Nat), isq O), ((17 : Nat), i64 (↑O.length : Int)), ((18 : Nat), i64 (↑(m ++ [x]).length : Int))] [Ob.vec true (1 : Nat) (ints (p.set x.toNat n))] (0 : Nat))) (show (n + (1 : Int)) = (if many < n + (1 : Int) then n + (1 : Int) else many) by omega)).trans (congrArg (fun x_1 => Q.loop (lq pr (44 : FuncId) (0 : Nat)) (at_ [((0 : Nat), spq l), ((5 : Nat), V.vec (0 : Nat) l.length (1 : Nat) (0 : Nat) l.length), ((6 : Nat), i64 (if many < n + (1 : Int) then n + (1 : Int) else many)), ((16 : Nat), isq O), ((17 : Nat), i64 (↑O.length : Int)), ((18 : Nat), i64 x_1)] [Ob.vec true (1 : Nat) (ints (p.set x.toNat n))] (0 : Nat))) (show ((↑(m ++ [x]).length : Int)) = ((↑m.length : Int) + (1 : Int)) by simp))) (ih))
      exact .tp [t0, t1, t2, t3, t4, t5, .m (rfl : true = true), t7, t8, t9, t10, t11, t12, t13, t14, t15, t16, t17, t18, t19] (by kernel_rfl)
    · rw [if_neg hm] at ih
      let t0 : Tp pr := .b (show (decide ((↑m.length : Int) < (↑O.length : Int))) = true by (simp; omega))
      let t1 : Tp pr := .g .row (show (lkp (List.map intt O) (↑m.length : Int)) = some ([T.int IntKind.i64 x]) from hg)
      let t2 : Tp pr := .g .row (show (lkp (List.map Span.ce l) x) = some (sx.ce) from hg2)
      let t3 : Tp pr := .m (show (decide ((ints p).length = l.length ∧ (0 : Nat) + l.length ≤ l.length)) = true by simp [*])
      let t4 : Tp pr := .n .rows (show (List.map (fun x => List.map C.fz x) (List.take l.length (List.drop (0 : Nat) (ints p)))) = List.take l.length (List.map intt p) by simp)
      let t5 : Tp pr := .a (Ev.castq (congrArg (fun x => Q.call (89 : FuncId) [V.t (T.seq (2 : Nat) (List.map Span.ce l)), V.t (T.seq (1 : Nat) x), V.t (T.int IntKind.i64 sx.from_)] []) (show (List.map intt p) = (List.take l.length (List.map intt p)) by simp [*])) (g))
      let t7 : Tp pr := .m (show (decide ((0 : Int) ≤ x ∧ x.toNat < l.length)) = true by simp [*])
      let t8 : Tp pr := .c (show ((0 : Nat) + x.toNat : Nat) = x.toNat by omega)
      let t9 : Tp pr := .m (show (decide ((ints p).length = l.length)) = true by simp [*])
      let t10 : Tp pr := .g .crow (show ((ints p)[x.toNat]?) = some ([C.t (T.int IntKind.i64 (p.getD x.toNat (0 : Int)))]) from hgx)
      let t11 : Tp pr := .n .crows (show ((ints p).set x.toNat [C.t (T.int IntKind.i64 n)]) = ints (p.set x.toNat n) by simp)
      let t12 : Tp pr := .m (show (decide ((0 : Int) ≤ x ∧ x.toNat < l.length)) = true by simp [*])
      let t13 : Tp pr := .c (show ((0 : Nat) + x.toNat : Nat) = x.toNat by omega)
      let t14 : Tp pr := .m (show (decide ((ints (p.set x.toNat n)).length = l.length)) = true by simp [*])
      let t15 : Tp pr := .g .crow (show ((ints (p.set x.toNat n))[x.toNat]?) = some ([C.t (T.int IntKind.i64 n)]) from hgx2)
      let t16 : Tp pr := .i (wrap_i64 (a := n + (1 : Int)) (by omega) (by omega))
      let t17 : Tp pr := .i (show (if n + (1 : Int) > many then n + (1 : Int) else many : Int) = if many < n + (1 : Int) then n + (1 : Int) else many by omega)
      let t18 : Tp pr := .i (wrap_i64 (a := (↑m.length : Int) + (1 : Int)) (by omega) (by omega))
      let t19 : Tp pr := .a (Ev.castq ((congrArg (fun x_1 => Q.loop (lq pr (44 : FuncId) (0 : Nat)) (at_ [((0 : Nat), spq l), ((5 : Nat), V.vec (0 : Nat) l.length (1 : Nat) (0 : Nat) l.length), ((6 : Nat), i64 x_1), ((16 : Nat), isq O), ((17 : Nat), i64 (↑O.length : Int)), ((18 : Nat), i64 (↑(m ++ [x]).length : Int))] [Ob.vec true (1 : Nat) (ints (p.set x.toNat n))] (0 : Nat))) (show (many) = (if many < n + (1 : Int) then n + (1 : Int) else many) by omega)).trans (congrArg (fun x_1 => Q.loop (lq pr (44 : FuncId) (0 : Nat)) (at_ [((0 : Nat), spq l), ((5 : Nat), V.vec (0 : Nat) l.length (1 : Nat) (0 : Nat) l.length), ((6 : Nat), i64 (if many < n + (1 : Int) then n + (1 : Int) else many)), ((16 : Nat), isq O), ((17 : Nat), i64 (↑O.length : Int)), ((18 : Nat), i64 x_1)] [Ob.vec true (1 : Nat) (ints (p.set x.toNat n))] (0 : Nat))) (show ((↑(m ++ [x]).length : Int)) = ((↑m.length : Int) + (1 : Int)) by simp))) (ih))
      exact .tp [t0, t1, t2, t3, t4, t5, .m (rfl : true = true), t7, t8, t9, t10, t11, t12, t13, t14, t15, t16, t17, t18, t19] (by kernel_rfl)
theorem scanSL_ev (l : List Span) (hl : l.length ≤ 30) (O : List Int) (hO : O.length ≤ 30) (hb : ∀ x ∈ O, 0 ≤ x ∧ x < l.length) : ∀ (rest m : List Int) (p : List Int) (many : Int), O = m ++ rest → p.length = l.length → 0 ≤ many → many ≤ l.length + 1 →
    Ev pr (.loop (lq pr 42 0) (at_ [(0, spq l), (5, .vec 0 l.length 1 0 l.length), (6, i64 many), (17, isq O), (18, i64 O.length), (19, i64 m.length)] [.vec true 1 (ints p)] 0))
      (.exit 0 (at_ [(5, .vec 0 l.length 1 0 l.length), (6, i64 (scanGo l rest p many).2)] [.vec true 1 (ints (scanGo l rest p many).1)] 0))
  | [], m, p, many, he, hp, h0, h1 => by
    have hll : (O.length : Int) = m.length := by simp [he]
    unfold scanGo
    let t0 : Tp pr := .b (show (decide ((↑m.length : Int) < (↑O.length : Int))) = false by (simp; omega))
    exact .tp [t0] (by kernel_rfl)
  | x :: rest, m, p, many, he, hp, h0, h1 => by
    have hll : (O.length : Int) = m.length + 1 + rest.length := by simp [he]; omega
    have hg : lkp (O.map intt) (m.length : Int) = some [T.int .i64 x] := by subst he; simp [intt]
    have hx := hb x (by simp [he])
    have hg2 := spAt_lkp (l := l) (k := x) hx.1 hx.2
    have g := leastS_ev l p (by omega) hp (spAt l x).from_
    have H := leastN_least l p (spAt l x).from_
    have H0 := H.h0
    have H1 := H.h1
    have ih := scanSL_ev l hl O hO hb rest (m ++ [x]) (p.set x.toNat (leastN l p (spAt l x).from_)) (if leastN l p (spAt l x).from_ + 1 > many then leastN l p (spAt l x).from_ + 1 else many) (by simp [he]) (by simp [hp]) (by split <;> omega) (by split <;> omega)
    unfold scanGo
    generalize (scanGo l rest (p.set x.toNat (leastN l p (spAt l x).from_)) (if leastN l p (spAt l x).from_ + 1 > many then leastN l p (spAt l x).from_ + 1 else many)) = Z at *
    generalize leastN l p (spAt l x).from_ = n at *
    have ht : List.take l.length (p.map intt) = p.map intt := List.take_of_length_le (by simp [hp])
    have hgx : (ints p)[x.toNat]? = some [C.t (.int .i64 (p.getD x.toNat 0))] := by
      rw [ints, List.getElem?_map, List.getElem?_eq_getElem (by omega)]
      simp [intc, List.getD_eq_getElem?_getD, List.getElem?_eq_getElem (show x.toNat < p.length by omega)]
    have hgx2 : (ints (p.set x.toNat n))[x.toNat]? = some [C.t (.int .i64 n)] := by
      rw [ints, List.getElem?_map, List.getElem?_set_self (by omega)]
      rfl
    generalize spAt l x = sx at *
    by_cases hm : n + 1 > many
    · rw [if_pos hm] at ih
      let t0 : Tp pr := .b (show (decide ((↑m.length : Int) < (↑O.length : Int))) = true by (simp; omega))
      let t1 : Tp pr := .g .row (show (lkp (List.map intt O) (↑m.length : Int)) = some ([T.int IntKind.i64 x]) from hg)
      let t2 : Tp pr := .g .row (show (lkp (List.map Span.ce l) x) = some (sx.ce) from hg2)
      let t3 : Tp pr := .m (show (decide ((ints p).length = l.length ∧ (0 : Nat) + l.length ≤ l.length)) = true by simp [*])
      let t4 : Tp pr := .n .rows (show (List.map (fun x => List.map C.fz x) (List.take l.length (List.drop (0 : Nat) (ints p)))) = List.take l.length (List.map intt p) by simp)
      let t5 : Tp pr := .a (Ev.castq (congrArg (fun x => Q.call (84 : FuncId) [V.t (T.seq (2 : Nat) (List.map Span.ce l)), V.t (T.seq (1 : Nat) x), V.t (T.int IntKind.i64 sx.from_)] []) (show (List.map intt p) = (List.take l.length (List.map intt p)) by simp [*])) (g))
      let t7 : Tp pr := .m (show (decide ((0 : Int) ≤ x ∧ x.toNat < l.length)) = true by simp [*])
      let t8 : Tp pr := .c (show ((0 : Nat) + x.toNat : Nat) = x.toNat by omega)
      let t9 : Tp pr := .m (show (decide ((ints p).length = l.length)) = true by simp [*])
      let t10 : Tp pr := .g .crow (show ((ints p)[x.toNat]?) = some ([C.t (T.int IntKind.i64 (p.getD x.toNat (0 : Int)))]) from hgx)
      let t11 : Tp pr := .n .crows (show ((ints p).set x.toNat [C.t (T.int IntKind.i64 n)]) = ints (p.set x.toNat n) by simp)
      let t12 : Tp pr := .i (wrap_i64 (a := n + (1 : Int)) (by omega) (by omega))
      let t13 : Tp pr := .b (show (decide (n + (1 : Int) > many)) = true by (simp; omega))
      let t14 : Tp pr := .i (wrap_i64 (a := n + (1 : Int)) (by omega) (by omega))
      let t15 : Tp pr := .i (wrap_i64 (a := (↑m.length : Int) + (1 : Int)) (by omega) (by omega))
      let t16 : Tp pr := .a (Ev.castq (congrArg (fun x_1 => Q.loop (lq pr (42 : FuncId) (0 : Nat)) (at_ [((0 : Nat), spq l), ((5 : Nat), V.vec (0 : Nat) l.length (1 : Nat) (0 : Nat) l.length), ((6 : Nat), i64 (n + (1 : Int))), ((17 : Nat), isq O), ((18 : Nat), i64 (↑O.length : Int)), ((19 : Nat), i64 x_1)] [Ob.vec true (1 : Nat) (ints (p.set x.toNat n))] (0 : Nat))) (show ((↑(m ++ [x]).length : Int)) = ((↑m.length : Int) + (1 : Int)) by simp)) (ih))
      exact .tp [t0, t1, t2, t3, t4, t5, .m (rfl : true = true), t7, t8, t9, t10, t11, t12, t13, t14, t15, t16] (by kernel_rfl)
    · rw [if_neg hm] at ih
      let t0 : Tp pr := .b (show (decide ((↑m.length : Int) < (↑O.length : Int))) = true by (simp; omega))
      let t1 : Tp pr := .g .row (show (lkp (List.map intt O) (↑m.length : Int)) = some ([T.int IntKind.i64 x]) from hg)
      let t2 : Tp pr := .g .row (show (lkp (List.map Span.ce l) x) = some (sx.ce) from hg2)
      let t3 : Tp pr := .m (show (decide ((ints p).length = l.length ∧ (0 : Nat) + l.length ≤ l.length)) = true by simp [*])
      let t4 : Tp pr := .n .rows (show (List.map (fun x => List.map C.fz x) (List.take l.length (List.drop (0 : Nat) (ints p)))) = List.take l.length (List.map intt p) by simp)
      let t5 : Tp pr := .a (Ev.castq (congrArg (fun x => Q.call (84 : FuncId) [V.t (T.seq (2 : Nat) (List.map Span.ce l)), V.t (T.seq (1 : Nat) x), V.t (T.int IntKind.i64 sx.from_)] []) (show (List.map intt p) = (List.take l.length (List.map intt p)) by simp [*])) (g))
      let t7 : Tp pr := .m (show (decide ((0 : Int) ≤ x ∧ x.toNat < l.length)) = true by simp [*])
      let t8 : Tp pr := .c (show ((0 : Nat) + x.toNat : Nat) = x.toNat by omega)
      let t9 : Tp pr := .m (show (decide ((ints p).length = l.length)) = true by simp [*])
      let t10 : Tp pr := .g .crow (show ((ints p)[x.toNat]?) = some ([C.t (T.int IntKind.i64 (p.getD x.toNat (0 : Int)))]) from hgx)
      let t11 : Tp pr := .n .crows (show ((ints p).set x.toNat [C.t (T.int IntKind.i64 n)]) = ints (p.set x.toNat n) by simp)
      let t12 : Tp pr := .i (wrap_i64 (a := n + (1 : Int)) (by omega) (by omega))
      let t13 : Tp pr := .b (show (decide (n + (1 : Int) > many)) = false by (simp; omega))
      let t14 : Tp pr := .i (wrap_i64 (a := (↑m.length : Int) + (1 : Int)) (by omega) (by omega))
      let t15 : Tp pr := .a (Ev.castq (congrArg (fun x_1 => Q.loop (lq pr (42 : FuncId) (0 : Nat)) (at_ [((0 : Nat), spq l), ((5 : Nat), V.vec (0 : Nat) l.length (1 : Nat) (0 : Nat) l.length), ((6 : Nat), i64 many), ((17 : Nat), isq O), ((18 : Nat), i64 (↑O.length : Int)), ((19 : Nat), i64 x_1)] [Ob.vec true (1 : Nat) (ints (p.set x.toNat n))] (0 : Nat))) (show ((↑(m ++ [x]).length : Int)) = ((↑m.length : Int) + (1 : Int)) by simp)) (ih))
      exact .tp [t0, t1, t2, t3, t4, t5, .m (rfl : true = true), t7, t8, t9, t10, t11, t12, t13, t14, t15] (by kernel_rfl)
theorem ScanI0_ev (l : List Span) (hl : l.length ≤ 1048576) (h : goodSp l = true) : Ev pr (.call 44 [spq l] []) (.val (.tup [.vec 0 l.length 1 0 l.length, i64 (scanS l).2, bl true]) [.vec true 1 (ints (scanS l).1)]) := by
  have h30 : l.length ≤ 30 := by simp [goodSp] at h; exact h.1
  have g := GoodSpansI_ev l hl
  rw [h] at g
  have a := noP_ev l.length (by omega)
  have b := turn0_ev l h30
  have c := scanIL_ev l h30 (orderS l) (by rw [orderS_len]; exact h30) (fun x hx => orderS_mem.1 hx) (orderS l) [] (List.replicate l.length (-1)) 0 rfl (by simp) (by omega) (by omega)
  rw [show scanGo l (orderS l) (List.replicate l.length (-1)) 0 = scanS l from rfl] at c
  generalize scanS l = Z at *
  let t2 : Tp pr := .i (show ((↑(List.map Span.ce l).length : Int) : Int) = (↑l.length : Int) by simp)
  let t5 : Tp pr := .i (show ((↑(List.map intt (orderS l)).length : Int) : Int) = (↑(orderS l).length : Int) by simp)
  exact .tp [.a (g), .b (rfl : false = false), t2, .a (a), .a (b), t5, .a (c)] (by kernel_rfl)
theorem ScanS0_ev (l : List Span) (hl : l.length ≤ 1048576) (h : goodSp l = true) : Ev pr (.call 42 [spq l] []) (.val (.tup [isq (scanS l).1, i64 (scanS l).2, bl true]) []) := by
  have h30 : l.length ≤ 30 := by simp [goodSp] at h; exact h.1
  have g := GoodSpansS_ev l hl
  rw [h] at g
  have a := noneS_ev l.length (by omega)
  have b := orderSE_ev l h30
  have c := scanSL_ev l h30 (orderS l) (by rw [orderS_len]; exact h30) (fun x hx => orderS_mem.1 hx) (orderS l) [] (List.replicate l.length (-1)) 0 rfl (by simp) (by omega) (by omega)
  rw [show scanGo l (orderS l) (List.replicate l.length (-1)) 0 = scanS l from rfl] at c
  have e : (scanS l).1.length = l.length := by rw [scanS, scanGo_len]; simp
  generalize scanS l = Z at *
  have ht : List.take l.length (Z.1.map intt) = Z.1.map intt := List.take_of_length_le (by simp [e])
  let t2 : Tp pr := .i (show ((↑(List.map Span.ce l).length : Int) : Int) = (↑l.length : Int) by simp)
  let t5 : Tp pr := .i (show ((↑(List.map intt (orderS l)).length : Int) : Int) = (↑(orderS l).length : Int) by simp)
  let t7 : Tp pr := .m (show (decide ((ints Z.fst).length = l.length ∧ (0 : Nat) + l.length ≤ l.length)) = true by simp [*])
  let t8 : Tp pr := .n .rows (show (List.map (fun x => List.map C.fz x) (List.take l.length (List.drop (0 : Nat) (ints Z.fst)))) = List.take l.length (List.map intt Z.fst) by simp)
  exact .tpe [.a (g), .b (rfl : false = false), t2, .a (a), .a (b), t5, .a (c), t7, t8] (Out.val (V.tup [V.t (T.seq (1 : Nat) (List.take l.length (List.map intt Z.fst))), V.t (T.int IntKind.i64 Z.snd), V.t (T.bool true)]) []) (by kernel_rfl) (congrArg (fun x => Out.val (V.tup [V.t (T.seq (1 : Nat) x), V.t (T.int IntKind.i64 Z.snd), V.t (T.bool true)]) []) (show (List.take l.length (List.map intt Z.fst)) = (List.map intt Z.fst) by simp [ht]))
theorem ScanIn_ev (l : List Span) (hl : l.length ≤ 1048576) (h : goodSp l = false) : Ev pr (.call 44 [spq l] []) (.val (.tup [.t .nils, i64 0, bl false]) []) := by
  have g := GoodSpansI_ev l hl
  rw [h] at g
  exact .tp [.a (g), .b (rfl : true = true)] (by kernel_rfl)
theorem ScanSn_ev (l : List Span) (hl : l.length ≤ 1048576) (h : goodSp l = false) : Ev pr (.call 42 [spq l] []) (.val (.tup [isq [], i64 0, bl false]) []) := by
  have g := GoodSpansS_ev l hl
  rw [h] at g
  exact .tp [.a (g), .b (rfl : true = true)] (by kernel_rfl)
end Go.Ev

/- slices.Clone: what it makes, by the machine itself and by its contract. -/
namespace Go.Ev
set_option linter.unusedVariables false
set_option linter.unusedSimpArgs false
open Go.Proofs
set_option maxRecDepth 100000
set_option linter.unusedVariables false
set_option maxHeartbeats 1000000
theorem cloneN_ev : Ev pr0 (.call 76 [.t (.sn true)] []) (.val (.t .nils) []) := by
  exact .tp [.b (rfl : true = true)] (by kernel_rfl)
theorem cloneE_ev : Ev pr0 (.call 76 [.t (.sn false)] []) (.val (.vec 0 0 1 0 0) [.vec true 1 []]) := by
  exact .tp [.b (rfl : false = false), .m (rfl : true = true), .b (rfl : true = true), .c (rfl : ((0 : Nat)) = _), .n .crows (rfl : ([]) = _)] (by kernel_rfl)
theorem cloneL_ev (e : List T) (es : List (List T)) (h : es.length + 1 ≤ 1048576) : Ev pr0 (.call 76 [.t (.seq 1 (e :: es))] []) (.val (.vec 0 (es.length + 1) 1 0 (es.length + 1)) [.vec true 1 ((e :: es).map (List.map C.t))]) := by
  let t2 : Tp pr0 := .m (show (decide ((0 : Nat) = (0 : Nat) ∧ (0 : Nat) ≤ (0 : Nat) ∧ (0 : Nat) + (List.map (fun x => List.map C.t x) (e :: es)).length ≤ (4294967296 : Nat))) = true by (simp; omega))
  let t4 : Tp pr0 := .c (show ((0 : Nat) + (List.map (fun x => List.map C.t x) (e :: es)).length : Nat) = es.length + (1 : Nat) by simp)
  let t5 : Tp pr0 := .n .crows (show ([].append (List.map (fun x => List.map C.t x) (e :: es))) = List.map C.t e :: List.map (fun x => List.map C.t x) es by simp)
  exact .tp [.m (rfl : true = true), .b (rfl : false = false), t2, .b (rfl : false = false), t4, t5] (by kernel_rfl)
theorem follows_ok : pr0.P.follows .mixedOrders = true := by kernel_rfl
theorem prim_none : PrimOk pr := by
  intro f p hf
  have hf' : (if f = 76 then some clonePrim else none) = some p := hf
  split at hf'
  · rename_i e
    subst e
    obtain rfl := Option.some.inj hf'
    exact clone_ok (pr0 := pr0) follows_ok (fun _ _ h => by cases h) cloneN_ev cloneE_ev cloneL_ev
  · cases hf'
theorem clone_ev (l : List Int) (h : l.length ≤ 1048576) : Ev pr (.call 76 [isq l] []) (.val (.vec 0 l.length 1 0 l.length) [.vec true 1 (ints l)]) := by
  have h2 : clonePrim [isq l] [] = some (.vec 0 l.length 1 0 l.length, [.vec true 1 (ints l)]) := by
    simp only [clonePrim]
    rw [if_pos (by simpa using h)]
    simp [ints, intt, intc, Function.comp_def]
  exact Ev.prim (p := clonePrim) (by kernel_rfl) rfl h2
end Go.Ev

/- The law: the program's ScanSpans returns what the reference's returns. -/
namespace Go.Ev
set_option linter.unusedVariables false
set_option linter.unusedSimpArgs false
open Go.Proofs
set_option maxRecDepth 100000
set_option linter.unusedVariables false
set_option linter.unusedSimpArgs false
set_option maxHeartbeats 4000000
def Span.wf (s : Span) : Prop := (Lit.int .i64 s.from_).wf = true ∧ (Lit.int .i64 s.to_).wf = true
@[local simp] theorem ints_flatK5 (fl : Bool) (n : Nat) (l : List Int) : Ob.flat (.vec fl n (ints l)) = true := by simp [Ob.flat, ints, intc, C.flat, T.flat]
@[local simp] theorem spc_flatK5 (fl : Bool) (n : Nat) (l : List Span) : Ob.flat (.vec fl n (spc l)) = true := by simp [Ob.flat, spc, Span.cc, C.flat, T.flat]
attribute [local simp] markI_len
@[local simp] theorem mkT5 (k : Int) (n : Nat) : List.take n ((markI k n).map intt) = (markI k n).map intt := List.take_of_length_le (by simp)
@[local simp] theorem mkI5 (k : Int) (n : Nat) : List.take n (ints (markI k n)) = ints (markI k n) := List.take_of_length_le (by simp)
theorem law0_ev (l : List Span) (hl : l.length ≤ 9223372036854775807) : Ev pr (.call 7 [spq l] []) (.val (bl true) []) := by
  have h0 := szSpanS_ev l 1048576 (by omega) (by omega) hl
  by_cases hz : (1048576 : Int) - l.length < 0
  · rw [if_pos hz] at h0
    exact .tp [.a (h0), .b (rfl : true = true)] (by kernel_rfl)
  · rw [if_neg hz] at h0
    have hl1 : l.length ≤ 1048576 := by omega
    have h1 := toSpanS_ev l hl1
    have h4 := eqSpanS_ev l hl1
    have h5 := markSpanS_ev l 1 (by omega) (by omega) hl1
    cases hg : goodSp l
    · have s := ScanSn_ev l hl1 hg
      have i := ScanIn_ev l hl1 hg
      have e1 := eqIntN_ev
      have e2 := markIntN_ev 1
      have e3 := heldIntN_ev 1
      let t1 : Tp pr := .b (show (decide ((1048576 : Int) - (↑l.length : Int) < (0 : Int))) = false by (simp; omega))
      let t3 : Tp pr := .m (show (decide ((spc l).length = l.length ∧ (0 : Nat) + l.length ≤ l.length)) = true by simp)
      let t4 : Tp pr := .n .rows (show (List.map (fun x => List.map C.fz x) (List.take l.length (List.drop (0 : Nat) (spc l)))) = List.map Span.ce l by simp)
      let t7 : Tp pr := .m (show (decide ((spc l).length = l.length ∧ (0 : Nat) + l.length ≤ l.length)) = true by simp)
      let t8 : Tp pr := .n .rows (show (List.map (fun x => List.map C.fz x) (List.take l.length (List.drop (0 : Nat) (spc l)))) = List.map Span.ce l by simp)
      let t16 : Tp pr := .m (show (decide ((spc l).length = l.length ∧ (0 : Nat) + l.length ≤ l.length)) = true by simp)
      let t17 : Tp pr := .n .rows (show (List.map (fun x => List.map C.fz x) (List.take l.length (List.drop (0 : Nat) (spc l)))) = List.map Span.ce l by simp)
      let t18 : Tp pr := .m (show (decide ((spc l).length = l.length ∧ (0 : Nat) + l.length ≤ l.length)) = true by simp)
      let t19 : Tp pr := .n .rows (show (List.map (fun x => List.map C.fz x) (List.take l.length (List.drop (0 : Nat) (spc l)))) = List.map Span.ce l by simp)
      let t34 : Tp pr := .m (show (decide ((spc l).length = l.length ∧ (0 : Nat) + l.length ≤ l.length)) = true by simp)
      let t35 : Tp pr := .n .rows (show (List.map (fun x => List.map C.fz x) (List.take l.length (List.drop (0 : Nat) (spc l)))) = List.map Span.ce l by simp)
      exact .tp [.a (h0), t1, .a (h1), t3, t4, .a (s), .a (h1), t7, t8, .a (i), .m (rfl : true = true), .a (e1), .b (rfl : false = false), .b (rfl : false = false), .b (rfl : false = false), .a (h1), t16, t17, t18, t19, .a (h4), .m (rfl : true = true), .b (rfl : false = false), .a (h5), .b (rfl : false = false), .a (e1), .b (rfl : false = false), .b (rfl : false = false), .b (rfl : false = false), .a (e2), .a (e3), .b (rfl : false = false), .b (rfl : false = false), .a (h1), t34, t35, .a (i), .m (rfl : true = true), .a (e1), .b (rfl : false = false), .b (rfl : false = false), .b (rfl : false = false), .a (e3), .b (rfl : false = false), .b (rfl : false = false)] (by kernel_rfl)
    · have h30 : l.length ≤ 30 := by simp [goodSp] at hg; exact hg.1
      have s := ScanS0_ev l hl1 hg
      have i := ScanI0_ev l hl1 hg
      have e : (scanS l).1.length = l.length := by rw [scanS, scanGo_len]; simp
      generalize scanS l = Z at *
      have f1 := eqIntS_ev Z.1 (by omega)
      have f2 := markIntS_ev Z.1 1 (by omega) (by omega) (by omega)
      have f3 := heldIntS_ev Z.1.length 1 (by omega) (by omega) (by omega)
      rw [← e] at i
      let t1 : Tp pr := .b (show (decide ((1048576 : Int) - (↑l.length : Int) < (0 : Int))) = false by (simp; omega))
      let t3 : Tp pr := .m (show (decide ((spc l).length = l.length ∧ (0 : Nat) + l.length ≤ l.length)) = true by simp)
      let t4 : Tp pr := .n .rows (show (List.map (fun x => List.map C.fz x) (List.take l.length (List.drop (0 : Nat) (spc l)))) = List.map Span.ce l by simp)
      let t7 : Tp pr := .m (show (decide ((spc l).length = l.length ∧ (0 : Nat) + l.length ≤ l.length)) = true by simp)
      let t8 : Tp pr := .n .rows (show (List.map (fun x => List.map C.fz x) (List.take l.length (List.drop (0 : Nat) (spc l)))) = List.map Span.ce l by simp)
      let t10 : Tp pr := .m (show (true && [Ob.vec true (1 : Nat) (ints Z.fst)].all Ob.flat) = true by simp)
      let t11 : Tp pr := .m (show (decide ((ints Z.fst).length = Z.fst.length ∧ (0 : Nat) + Z.fst.length ≤ Z.fst.length)) = true by simp)
      let t12 : Tp pr := .n .rows (show (List.map (fun x => List.map C.fz x) (List.take Z.fst.length (List.drop (0 : Nat) (ints Z.fst)))) = List.map intt Z.fst by simp)
      let t16 : Tp pr := .b (show (Z.snd != Z.snd) = false by simp)
      let t19 : Tp pr := .m (show (decide ((spc l).length = l.length ∧ (0 : Nat) + l.length ≤ l.length)) = true by simp)
      let t20 : Tp pr := .n .rows (show (List.map (fun x => List.map C.fz x) (List.take l.length (List.drop (0 : Nat) (spc l)))) = List.map Span.ce l by simp)
      let t21 : Tp pr := .m (show (decide ((spc l).length = l.length ∧ (0 : Nat) + l.length ≤ l.length)) = true by simp)
      let t22 : Tp pr := .n .rows (show (List.map (fun x => List.map C.fz x) (List.take l.length (List.drop (0 : Nat) (spc l)))) = List.map Span.ce l by simp)
      let t28 : Tp pr := .m (show (decide ((ints Z.fst).length = Z.fst.length ∧ (0 : Nat) + Z.fst.length ≤ Z.fst.length)) = true by simp)
      let t29 : Tp pr := .n .rows (show (List.map (fun x => List.map C.fz x) (List.take Z.fst.length (List.drop (0 : Nat) (ints Z.fst)))) = List.map intt Z.fst by simp)
      let t33 : Tp pr := .b (show (Z.snd != Z.snd) = false by simp)
      let t36 : Tp pr := .m (show (decide ((ints (markI (1 : Int) Z.fst.length)).length = Z.fst.length ∧ (0 : Nat) + Z.fst.length ≤ Z.fst.length)) = true by simp)
      let t37 : Tp pr := .n .rows (show (List.map (fun x => List.map C.fz x) (List.take Z.fst.length (List.drop (0 : Nat) (ints (markI (1 : Int) Z.fst.length))))) = List.map intt (markI (1 : Int) Z.fst.length) by simp)
      let t41 : Tp pr := .b (show ((1 : Int) + (↑Z.fst.length : Int) != (1 : Int) + (↑Z.fst.length : Int)) = false by simp)
      let t43 : Tp pr := .m (show (decide ((spc l).length = l.length ∧ (0 : Nat) + l.length ≤ l.length)) = true by simp)
      let t44 : Tp pr := .n .rows (show (List.map (fun x => List.map C.fz x) (List.take l.length (List.drop (0 : Nat) (spc l)))) = List.map Span.ce l by simp)
      let t46 : Tp pr := .m (show (true && [Ob.vec true (1 : Nat) (ints Z.fst)].all Ob.flat) = true by simp)
      let t47 : Tp pr := .m (show (decide ((ints Z.fst).length = Z.fst.length ∧ (0 : Nat) + Z.fst.length ≤ Z.fst.length)) = true by simp)
      let t48 : Tp pr := .n .rows (show (List.map (fun x => List.map C.fz x) (List.take Z.fst.length (List.drop (0 : Nat) (ints Z.fst)))) = List.map intt Z.fst by simp)
      let t52 : Tp pr := .b (show (Z.snd != Z.snd) = false by simp)
      let t54 : Tp pr := .m (show (decide ((ints (markI (1 : Int) Z.fst.length)).length = Z.fst.length ∧ (0 : Nat) + Z.fst.length ≤ Z.fst.length)) = true by simp)
      let t55 : Tp pr := .n .rows (show (List.map (fun x => List.map C.fz x) (List.take Z.fst.length (List.drop (0 : Nat) (ints (markI (1 : Int) Z.fst.length))))) = List.map intt (markI (1 : Int) Z.fst.length) by simp)
      let t59 : Tp pr := .b (show ((1 : Int) + (↑Z.fst.length : Int) != (1 : Int) + (↑Z.fst.length : Int)) = false by simp)
      exact .tp [.a (h0), t1, .a (h1), t3, t4, .a (s), .a (h1), t7, t8, .a (i), t10, t11, t12, .a (f1), .m (rfl : true = true), .b (rfl : false = false), t16, .b (rfl : false = false), .a (h1), t19, t20, t21, t22, .a (h4), .m (rfl : true = true), .b (rfl : false = false), .a (h5), .b (rfl : false = false), t28, t29, .a (f1), .m (rfl : true = true), .b (rfl : false = false), t33, .b (rfl : false = false), .a (f2), t36, t37, .a (f3), .m (rfl : true = true), .b (rfl : false = false), t41, .a (h1), t43, t44, .a (i), t46, t47, t48, .a (f1), .m (rfl : true = true), .b (rfl : false = false), t52, .b (rfl : false = false), t54, t55, .a (f3), .m (rfl : true = true), .b (rfl : false = false), t59] (by kernel_rfl)
theorem law_ev (l : List Span) (hl : l.length ≤ 9223372036854775807 ∧ ∀ x ∈ l, x.wf) : Ev pr (.call 7 [spq l] []) (.val (.t (.bool true)) []) := law0_ev l hl.1
end Go.Ev
