import Derived.Test.YtdbpimeaipgpfabGreatKFnExactStepMachine4
namespace Go.Ev
set_option linter.unusedVariables false
set_option linter.unusedSimpArgs false
open Go.Proofs
set_option maxRecDepth 100000
set_option maxHeartbeats 4000000
def lowN (l : List Int) (n : Int) : List Int := l.takeWhile fun x => decide (x < n)
def hiN (l : List Int) (n : Int) : List Int := l.dropWhile fun x => decide (x < n)
theorem low_hi (l : List Int) (n : Int) : lowN l n ++ hiN l n = l := List.takeWhile_append_dropWhile
theorem insL_low : ∀ (l : List Int) (n : Int), insL l n = match hiN l n with
    | [] => lowN l n ++ [n]
    | x :: r => if x = n then l else lowN l n ++ n :: x :: r
  | [], n => rfl
  | y :: l, n => by
    by_cases h : y < n
    · have e1 : hiN (y :: l) n = hiN l n := by simp [hiN, List.dropWhile_cons, h]
      have e2 : lowN (y :: l) n = y :: lowN l n := by simp [lowN, List.takeWhile_cons, h]
      have ih := insL_low l n
      rw [e1, e2]
      simp only [insL]
      rw [if_pos h, ih]
      split
      · rfl
      · split <;> rfl
    · have e1 : hiN (y :: l) n = y :: l := by simp [hiN, List.dropWhile_cons, h]
      have e2 : lowN (y :: l) n = [] := by simp [lowN, List.takeWhile_cons, h]
      rw [e1, e2]
      simp only [insL]
      rw [if_neg h]
      rfl
theorem putL_ev (l : List Int) (n : Int) (hl : l.length ≤ 1000) : ∀ (rest dn : List Int), l = dn ++ rest →
    Ev pr (.loop (lq pr 152 0) (at_ [(0, isq l), (1, i64 n), (5, i64 dn.length)] [] 0)) (.exit 0 (at_ [(0, isq l), (1, i64 n), (5, i64 (dn.length + (lowN rest n).length))] [] 0))
  | [], dn, he => by
    have hll : (l.length : Int) = dn.length := by simp [he]
    rw [show lowN [] n = [] from rfl]
    let t0 : Tp pr := .i (show ((↑(List.map intt l).length : Int) : Int) = (↑l.length : Int) by simp)
    let t1 : Tp pr := .b (show (decide ((↑dn.length : Int) < (↑l.length : Int))) = false by (simp; omega))
    exact .tp [t0, t1, .bF] (by kernel_rfl)
  | x :: rest, dn, he => by
    have hll : (l.length : Int) = dn.length + 1 + rest.length := by simp [he]; omega
    have hg : lkp (l.map intt) (dn.length : Int) = some [T.int .i64 x] := by subst he; simp [intt]
    have ih := putL_ev l n hl rest (dn ++ [x]) (by simp [he])
    by_cases hx : x < n
    · rw [show lowN (x :: rest) n = x :: lowN rest n by simp [lowN, List.takeWhile_cons, hx]]
      let t0 : Tp pr := .i (show ((↑(List.map intt l).length : Int) : Int) = (↑l.length : Int) by simp)
      let t1 : Tp pr := .b (show (decide ((↑dn.length : Int) < (↑l.length : Int))) = true by (simp; omega))
      let t2 : Tp pr := .g .row (show (lkp (List.map intt l) (↑dn.length : Int)) = some ([T.int IntKind.i64 x]) from hg)
      let t3 : Tp pr := .b (show (decide (x < n)) = true by (simp; omega))
      let t4 : Tp pr := .i (wrap_i64 (a := (↑dn.length : Int) + (1 : Int)) (by omega) (by omega))
      let t5 : Tp pr := .a (Ev.castq (congrArg (fun x => Q.loop (lq pr (152 : FuncId) (0 : Nat)) (at_ [((0 : Nat), isq l), ((1 : Nat), i64 n), ((5 : Nat), i64 x)] [] (0 : Nat))) (show ((↑(dn ++ [x]).length : Int)) = ((↑dn.length : Int) + (1 : Int)) by (simp <;> omega))) (ih))
      exact .tpe [t0, t1, t2, t3, t4, t5] (Out.exit (0 : Nat) (at_ [((0 : Nat), V.t (T.seq (1 : Nat) (List.map intt l))), ((1 : Nat), V.t (T.int IntKind.i64 n)), ((5 : Nat), V.t (T.int IntKind.i64 ((↑(dn ++ [x]).length : Int) + (↑(lowN rest n).length : Int))))] [] (0 : Nat))) (by kernel_rfl) (congrArg (fun x => Out.exit (0 : Nat) (at_ [((0 : Nat), V.t (T.seq (1 : Nat) (List.map intt l))), ((1 : Nat), V.t (T.int IntKind.i64 n)), ((5 : Nat), V.t (T.int IntKind.i64 x))] [] (0 : Nat))) (show ((↑(dn ++ [x]).length : Int) + (↑(lowN rest n).length : Int)) = ((↑dn.length : Int) + (↑(x :: lowN rest n).length : Int)) by (simp <;> omega)))
    · rw [show lowN (x :: rest) n = [] by simp [lowN, List.takeWhile_cons, hx]]
      let t0 : Tp pr := .i (show ((↑(List.map intt l).length : Int) : Int) = (↑l.length : Int) by simp)
      let t1 : Tp pr := .b (show (decide ((↑dn.length : Int) < (↑l.length : Int))) = true by (simp; omega))
      let t2 : Tp pr := .g .row (show (lkp (List.map intt l) (↑dn.length : Int)) = some ([T.int IntKind.i64 x]) from hg)
      let t3 : Tp pr := .b (show (decide (x < n)) = false by (simp; omega))
      exact .tp [t0, t1, t2, t3] (by kernel_rfl)
@[local simp] theorem take_mapL {α β : Type} (f : α → β) (a : List α) (c : List β) : List.take a.length (a.map f ++ c) = a.map f := List.take_left' (by simp)
@[local simp] theorem drop_mapL {α β : Type} (f : α → β) (a : List α) (c : List β) : List.drop a.length (a.map f ++ c) = c := List.drop_left' (by simp)
@[local simp] theorem ints_of (l : List Int) : List.map ((fun x => List.map C.t x) ∘ intt) l = ints l := by simp [ints, Function.comp_def, intc, intt]
@[local simp] theorem ints_of2 (l : List Int) : List.map (fun x => List.map C.t x) (List.map intt l) = ints l := by simp
@[local simp] theorem ints_takeL (l : List Int) : List.take l.length (ints l) = ints l := List.take_of_length_le (by simp)
@[local simp] theorem intt_take2 (a r : List Int) (y z : List T) : List.take (a.length + 1 + (r.length + 1)) (a.map intt ++ y :: z :: r.map intt) = a.map intt ++ y :: z :: r.map intt := List.take_of_length_le (by simp; omega)
@[local simp] theorem ints_takeA (l : List Int) (c : List (List C)) : List.take l.length (ints l ++ c) = ints l := List.take_left' (by simp)
@[local simp] theorem ints_take1 (l : List Int) (z : List C) : List.take (l.length + 1) (ints l ++ [z]) = ints l ++ [z] := List.take_of_length_le (by simp)
@[local simp] theorem ints_drop1 (l : List Int) (z : List C) : List.drop (l.length + 1) (ints l ++ [z]) = [] := List.drop_of_length_le (by simp)
@[local simp] theorem intt_drop1 (l : List Int) (z : List T) : List.drop (l.length + 1) (l.map intt ++ [z]) = [] := List.drop_of_length_le (by simp)
@[local simp] theorem intt_take1 (l : List Int) (z : List T) : List.take (l.length + 1) (l.map intt ++ [z]) = l.map intt ++ [z] := List.take_of_length_le (by simp)
@[local simp] theorem tn3 (a b : Nat) : ((a : Int) + ((b : Int) + 1)).toNat = a + (b + 1) := by omega
@[local simp] theorem tn4 (a b : Nat) : a + (b + 1) - a = b + 1 := by omega
@[local simp] theorem cons_take (b : List Int) (z : List C) : List.take (b.length + 1) (z :: ints b) = z :: ints b := List.take_of_length_le (by simp)
def insAB (a b : List Int) (n : Int) : List Int :=
  match b with
  | [] => a ++ [n]
  | x :: r => if x = n then a ++ b else a ++ n :: x :: r
theorem putAB_ev (a b : List Int) (n : Int) (hl : (a ++ b).length ≤ 1000) (h : Ev pr (.loop (lq pr 152 0) (at_ [(0, isq (a ++ b)), (1, i64 n), (5, i64 0)] [] 0)) (.exit 0 (at_ [(0, isq (a ++ b)), (1, i64 n), (5, i64 a.length)] [] 0))) :
    Ev pr (.call 152 [isq (a ++ b), i64 n] []) (.val (isq (insAB a b n)) []) := by
  cases b with
  | nil =>
    have hl2 : a.length ≤ 1000 := by simp at hl; exact hl
    have t1 : List.take (a.length + 1) (ints a ++ [[C.t (T.int .i64 n)]]) = ints a ++ [[C.t (T.int .i64 n)]] := List.take_of_length_le (by simp)
    rw [show insAB a [] n = a ++ [n] from rfl]
    let t1 : Tp pr := .i (show ((↑(List.map intt (a ++ [])).length : Int) : Int) = (↑a.length : Int) by simp)
    let t2 : Tp pr := .b (show (decide ((↑a.length : Int) < (↑a.length : Int))) = false by simp)
    let t4 : Tp pr := .m (show (decide ((0 : Int) ≤ (0 : Int) ∧ (0 : Int) ≤ (↑a.length : Int) ∧ (↑a.length : Int) ≤ (↑(List.map intt (a ++ [])).length : Int))) = true by simp)
    let t5 : Tp pr := .n .rows (show (List.take ((↑a.length : Int).toNat - (0 : Nat)) (List.drop (0 : Nat) (List.map intt (a ++ [])))) = List.map intt a by simp)
    let t6 : Tp pr := .m (show (decide ((List.map (fun x => List.map C.t x) (List.map intt a)).length ≤ (4294967296 : Nat))) = true by (simp; omega))
    let t7 : Tp pr := .c (show ((List.map (fun x => List.map C.t x) (List.map intt a)).length : Nat) = a.length by simp)
    let t8 : Tp pr := .n .crows (show (List.map (fun x => List.map C.t x) (List.map intt a)) = ints a by simp)
    let t10 : Tp pr := .m (show (decide ((ints a).length = a.length ∧ (0 : Nat) + a.length ≤ a.length ∧ a.length + (1 : Nat) ≤ (4294967296 : Nat))) = true by (simp; omega))
    let t11 : Tp pr := .b (show (decide (a.length + (1 : Nat) ≤ a.length)) = false by simp)
    let t13 : Tp pr := .n .crows (show ((List.take a.length (ints a)).append (List.take (1 : Nat) (List.drop (0 : Nat) [[C.t (T.int IntKind.i64 n)]]))) = ints a ++ [[C.t (T.int IntKind.i64 n)]] by simp)
    let t14 : Tp pr := .m (show (decide ((0 : Int) ≤ (↑a.length : Int) ∧ (↑a.length : Int) ≤ (↑(List.map intt (a ++ [])).length : Int) ∧ (↑(List.map intt (a ++ [])).length : Int) ≤ (↑(List.map intt (a ++ [])).length : Int))) = true by simp)
    let t15 : Tp pr := .n .rows (show (List.take ((↑(List.map intt (a ++ [])).length : Int).toNat - (↑a.length : Int).toNat) (List.drop (↑a.length : Int).toNat (List.map intt (a ++ [])))) = [] by simp)
    let t16 : Tp pr := .m (show (decide (((ints a).append [[C.t (T.int IntKind.i64 n)]]).length = a.length + (1 : Nat) ∧ (0 : Nat) + (a.length + (1 : Nat)) ≤ a.length + (1 : Nat) ∧ a.length + (1 : Nat) + (0 : Nat) ≤ (4294967296 : Nat))) = true by (simp; omega))
    let t17 : Tp pr := .b (show (decide (a.length + (1 : Nat) + (0 : Nat) ≤ a.length + (1 : Nat))) = true by simp)
    let t18 : Tp pr := .c (show (a.length + (1 : Nat) + (0 : Nat) : Nat) = a.length + (1 : Nat) by omega)
    let t19 : Tp pr := .n .crows (show (((List.take (a.length + (1 : Nat)) ((ints a).append [[C.t (T.int IntKind.i64 n)]])).append []).append (List.drop (a.length + (1 : Nat) + (0 : Nat)) ((ints a).append [[C.t (T.int IntKind.i64 n)]]))) = ints a ++ [[C.t (T.int IntKind.i64 n)]] by simp)
    let t20 : Tp pr := .m (show (decide (((ints a).append [[C.t (T.int IntKind.i64 n)]]).length = a.length + (1 : Nat) ∧ (0 : Nat) + (a.length + (1 : Nat)) ≤ a.length + (1 : Nat))) = true by simp)
    let t21 : Tp pr := .n .rows (show (List.map (fun x => List.map C.fz x) (List.take (a.length + (1 : Nat)) (List.drop (0 : Nat) ((ints a).append [[C.t (T.int IntKind.i64 n)]])))) = List.map intt a ++ [[(C.t (T.int IntKind.i64 n)).fz]] by simp)
    exact .tpe [.a (h), t1, t2, .bF, t4, t5, t6, t7, t8, .mT, t10, t11, .c (rfl : (a.length + (1 : Nat)) = _), t13, t14, t15, t16, t17, t18, t19, t20, t21] (Out.val (V.t (T.seq (1 : Nat) ((List.map intt a).append [[T.int IntKind.i64 n]]))) []) (by kernel_rfl) (congrArg (fun x => Out.val (V.t (T.seq (1 : Nat) x)) []) (show ((List.map intt a).append [[T.int IntKind.i64 n]]) = (List.map intt (a ++ [n])) by simp [ints, intc, intt, C.fz, Function.comp_def]))
  | cons x r =>
    have hl2 : a.length + r.length + 1 ≤ 1000 := by simp at hl; omega
    have hg : lkp ((a ++ x :: r).map intt) (a.length : Int) = some [T.int .i64 x] := by simp [intt]
    unfold insAB
    dsimp only
    by_cases hx : x = n
    · rw [if_pos hx]; (
      let t1 : Tp pr := .i (show ((↑(List.map intt (a ++ x :: r)).length : Int) : Int) = (↑a.length : Int) + ((↑r.length : Int) + (1 : Int)) by simp)
      let t2 : Tp pr := .b (show (decide ((↑a.length : Int) < (↑a.length : Int) + ((↑r.length : Int) + (1 : Int)))) = true by (simp; omega))
      let t3 : Tp pr := .g .row (show (lkp (List.map intt (a ++ x :: r)) (↑a.length : Int)) = some ([T.int IntKind.i64 x]) from hg)
      let t4 : Tp pr := .b (show (decide (x = n)) = true by (simp; omega))
      exact .tp [.a (h), t1, t2, t3, t4] (by kernel_rfl))
    · rw [if_neg hx]; (
      let t1 : Tp pr := .i (show ((↑(List.map intt (a ++ x :: r)).length : Int) : Int) = (↑a.length : Int) + ((↑r.length : Int) + (1 : Int)) by simp)
      let t2 : Tp pr := .b (show (decide ((↑a.length : Int) < (↑a.length : Int) + ((↑r.length : Int) + (1 : Int)))) = true by (simp; omega))
      let t3 : Tp pr := .g .row (show (lkp (List.map intt (a ++ x :: r)) (↑a.length : Int)) = some ([T.int IntKind.i64 x]) from hg)
      let t4 : Tp pr := .b (show (decide (x = n)) = false by (simp; omega))
      let t5 : Tp pr := .m (show (decide ((0 : Int) ≤ (0 : Int) ∧ (0 : Int) ≤ (↑a.length : Int) ∧ (↑a.length : Int) ≤ (↑(List.map intt (a ++ x :: r)).length : Int))) = true by (simp; omega))
      let t6 : Tp pr := .n .rows (show (List.take ((↑a.length : Int).toNat - (0 : Nat)) (List.drop (0 : Nat) (List.map intt (a ++ x :: r)))) = List.map intt a by simp)
      let t7 : Tp pr := .m (show (decide ((List.map (fun x => List.map C.t x) (List.map intt a)).length ≤ (4294967296 : Nat))) = true by (simp; omega))
      let t8 : Tp pr := .c (show ((List.map (fun x => List.map C.t x) (List.map intt a)).length : Nat) = a.length by simp)
      let t9 : Tp pr := .n .crows (show (List.map (fun x => List.map C.t x) (List.map intt a)) = ints a by simp)
      let t11 : Tp pr := .m (show (decide ((ints a).length = a.length ∧ (0 : Nat) + a.length ≤ a.length ∧ a.length + (1 : Nat) ≤ (4294967296 : Nat))) = true by (simp; omega))
      let t12 : Tp pr := .b (show (decide (a.length + (1 : Nat) ≤ a.length)) = false by simp)
      let t14 : Tp pr := .n .crows (show ((List.take a.length (ints a)).append (List.take (1 : Nat) (List.drop (0 : Nat) [[C.t (T.int IntKind.i64 n)]]))) = ints a ++ [[C.t (T.int IntKind.i64 n)]] by simp)
      let t15 : Tp pr := .m (show (decide ((0 : Int) ≤ (↑a.length : Int) ∧ (↑a.length : Int) ≤ (↑(List.map intt (a ++ x :: r)).length : Int) ∧ (↑(List.map intt (a ++ x :: r)).length : Int) ≤ (↑(List.map intt (a ++ x :: r)).length : Int))) = true by (simp; omega))
      let t16 : Tp pr := .n .rows (show (List.take ((↑(List.map intt (a ++ x :: r)).length : Int).toNat - (↑a.length : Int).toNat) (List.drop (↑a.length : Int).toNat (List.map intt (a ++ x :: r)))) = intt x :: List.map intt r by simp)
      let t17 : Tp pr := .m (show (decide (((ints a).append [[C.t (T.int IntKind.i64 n)]]).length = a.length + (1 : Nat) ∧ (0 : Nat) + (a.length + (1 : Nat)) ≤ a.length + (1 : Nat) ∧ a.length + (1 : Nat) + (List.map (fun x => List.map C.t x) ([T.int IntKind.i64 x] :: List.map intt r)).length ≤ (4294967296 : Nat))) = true by (simp; omega))
      let t18 : Tp pr := .b (show (decide (a.length + (1 : Nat) + (List.map (fun x => List.map C.t x) ([T.int IntKind.i64 x] :: List.map intt r)).length ≤ a.length + (1 : Nat))) = false by simp)
      let t19 : Tp pr := .c (show (a.length + (1 : Nat) + (List.map (fun x => List.map C.t x) ([T.int IntKind.i64 x] :: List.map intt r)).length : Nat) = a.length + (1 : Nat) + (r.length + (1 : Nat)) by simp)
      let t20 : Tp pr := .n .crows (show ((List.take (a.length + (1 : Nat)) ((ints a).append [[C.t (T.int IntKind.i64 n)]])).append (List.map (fun x => List.map C.t x) ([T.int IntKind.i64 x] :: List.map intt r))) = ints a ++ [C.t (T.int IntKind.i64 n)] :: [C.t (T.int IntKind.i64 x)] :: ints r by simp)
      let t21 : Tp pr := .m (show (decide (((ints a).append ([C.t (T.int IntKind.i64 n)] :: [C.t (T.int IntKind.i64 x)] :: ints r)).length = a.length + (1 : Nat) + (r.length + (1 : Nat)) ∧ (0 : Nat) + (a.length + (1 : Nat) + (r.length + (1 : Nat))) ≤ a.length + (1 : Nat) + (r.length + (1 : Nat)))) = true by (simp; omega))
      let t22 : Tp pr := .n .rows (show (List.map (fun x => List.map C.fz x) (List.take (a.length + (1 : Nat) + (r.length + (1 : Nat))) (List.drop (0 : Nat) ((ints a).append ([C.t (T.int IntKind.i64 n)] :: [C.t (T.int IntKind.i64 x)] :: ints r))))) = List.map intt a ++ [(C.t (T.int IntKind.i64 n)).fz] :: [(C.t (T.int IntKind.i64 x)).fz] :: List.map intt r by simp)
      exact .tpe [.a (h), t1, t2, t3, t4, t5, t6, t7, t8, t9, .mT, t11, t12, .c (rfl : (a.length + (1 : Nat)) = _), t14, t15, t16, t17, t18, t19, t20, t21, t22] (Out.val (V.t (T.seq (1 : Nat) ((List.map intt a).append ([T.int IntKind.i64 n] :: [T.int IntKind.i64 x] :: List.map intt r)))) []) (by kernel_rfl) (congrArg (fun x => Out.val (V.t (T.seq (1 : Nat) x)) []) (show ((List.map intt a).append ([T.int IntKind.i64 n] :: [T.int IntKind.i64 x] :: List.map intt r)) = (List.map intt (a ++ n :: x :: r)) by simp [ints, intc, intt])))
theorem l1Put_ev (l : List Int) (n : Int) (hl : l.length ≤ 1000) : Ev pr (.call 152 [isq l, i64 n] []) (.val (isq (insL l n)) []) := by
  have h := putL_ev l n hl l [] rfl
  have e := low_hi l n
  have hk : ((([] : List Int).length : Int) + ((lowN l n).length : Int)) = (lowN l n).length := by simp
  rw [hk] at h
  have hp := putAB_ev (lowN l n) (hiN l n) n (by rw [e]; exact hl) (by rw [e]; exact h)
  rw [e] at hp
  have hi : insAB (lowN l n) (hiN l n) n = insL l n := by
    rw [insL_low]
    unfold insAB
    rw [e]
  rw [hi] at hp
  exact hp
theorem l1PutN_ev (n : Int) : Ev pr (.call 152 [.t .nils, i64 n] []) (.val (isq [n]) []) := by
  have h : Ev pr (.loop (lq pr 152 0) (at_ [(0, .t .nils), (1, i64 n), (5, i64 0)] [] 0)) (.exit 0 (at_ [(0, .t .nils), (1, i64 n), (5, i64 0)] [] 0)) := by
    let t0 : Tp pr := .i (rfl : ((0 : Int) : Int) = (0 : Int))
    exact .tp [t0, .bF, .bF] (by kernel_rfl)
  let t1 : Tp pr := .i (rfl : ((0 : Int) : Int) = (0 : Int))
  let t12 : Tp pr := .n .crows (show ([].append (List.take (1 : Nat) (List.drop (0 : Nat) [[C.t (T.int IntKind.i64 n)]]))) = [[C.t (T.int IntKind.i64 n)]] by simp)
  let t17 : Tp pr := .n .crows (show (((List.take (1 : Nat) [[C.t (T.int IntKind.i64 n)]]).append []).append []) = [[C.t (T.int IntKind.i64 n)]] by simp)
  let t19 : Tp pr := .n .rows (show (List.map (fun x => List.map C.fz x) (List.take (1 : Nat) (List.drop (0 : Nat) [[C.t (T.int IntKind.i64 n)]]))) = [[(C.t (T.int IntKind.i64 n)).fz]] by simp)
  exact .tp [.a (h), t1, .bF, .bF, .mT, .mT, .c (rfl : ((0 : Nat)) = _), .n .crows (rfl : ([]) = _), .mT, .mT, .bF, .c (rfl : ((1 : Nat)) = _), t12, .mT, .mT, .bT, .c (rfl : ((1 : Nat)) = _), t17, .mT, t19] (by kernel_rfl)
theorem insL_len (l : List Int) (x : Int) : (insL l x).length ≤ l.length + 1 ∧ 0 < (insL l x).length := by
  induction l with
  | nil => simp [insL]
  | cons y l ih =>
    unfold insL
    split
    · simp; omega
    · split <;> simp
def isqN (nl : Bool) (l : List Int) : V := if nl = true then .t .nils else isq l
theorem put_ev (nl : Bool) (l : List Int) (n : Int) (hn : nl = true → l = []) (hl : l.length ≤ 1000) : Ev pr (.call 152 [isqN nl l, i64 n] []) (.val (isq (insL l n)) []) := by
  cases nl with
  | true =>
    rw [hn rfl]
    exact l1PutN_ev n
  | false => exact l1Put_ev l n hl
theorem lf_put (nl : Bool) (n : Int) (ks : List Tm) (d : Nat) (l l2 : List Int) (hn : 0 ≤ n ∧ n ≤ 99) (hd : d ≤ 1000000) (h : n ≥ d) (g : Ev pr (.call 152 [isqN nl l, i64 (n - d)] []) (.val (isq l2) [])) :
    Ev pr (.call 94 [tsV 1 n ks, i64 d, isqN nl l] []) (.val (isq l2) []) := by
  unfold tsV
  cases nl with
  | true =>
    simp only [isqN, if_true] at g ⊢
    let t1 : Tp pr := .b (show (decide (n ≥ (↑d : Int))) = true by (simp; omega))
    let t2 : Tp pr := .i (wrap_i64 (a := n - (↑d : Int)) (by omega) (by omega))
    exact .tp [.bT, t1, t2, .a (g)] (by kernel_rfl)
  | false =>
    simp only [isqN, Bool.false_eq_true, if_false] at g ⊢
    let t1 : Tp pr := .b (show (decide (n ≥ (↑d : Int))) = true by (simp; omega))
    let t2 : Tp pr := .i (wrap_i64 (a := n - (↑d : Int)) (by omega) (by omega))
    exact .tp [.bT, t1, t2, .a (g)] (by kernel_rfl)
def lfS (k n : Int) (K : List Tm) (d i : Nat) (o : V) (ou : Out) : Prop :=
  Ev pr (.loop (lq pr 94 0) (at_ [(1, i64 d), (2, o), (3, .ptr 0 1 0 0), (25, .t (.seq 3 (Tm.tsL K))), (26, i64 K.length), (27, i64 i)] [.box [i64 k, i64 n, .t (.seq 3 (Tm.tsL K))]] 0)) ou
theorem lf_end (k n : Int) (K : List Tm) (d : Nat) (nl : Bool) (l : List Int) : lfS k n K d K.length (isqN nl l) (.exit 0 (at_ [(2, isqN nl l)] [] 0)) := by
  unfold lfS
  cases nl with
  | true =>
    simp only [isqN, if_true]
    let t0 : Tp pr := .b (show (decide ((↑K.length : Int) < (↑K.length : Int))) = false by simp)
    exact .tp [t0] (by kernel_rfl)
  | false =>
    simp only [isqN, Bool.false_eq_true, if_false]
    let t0 : Tp pr := .b (show (decide ((↑K.length : Int) < (↑K.length : Int))) = false by simp)
    exact .tp [t0] (by kernel_rfl)
theorem tsL_mid (dn r : List Tm) (k n : Int) (ks : List Tm) : lkp (Tm.tsL (dn ++ .node k n ks :: r)) (dn.length : Int) = some [.int .i64 k, .int .i64 n, .seq 3 (Tm.tsL ks)] := by
  simp [lkp, tsL_app, Tm.tsL, Tm.ts]
theorem lf_step (k n : Int) (K dn r : List Tm) (k2 n2 : Int) (ks : List Tm) (e : K = dn ++ .node k2 n2 ks :: r) (hK : K.length ≤ 3) (d : Nat) (hd : d ≤ 1000000) (nl : Bool) (l l2 : List Int)
    (g : Ev pr (.call 94 [tsV k2 n2 ks, i64 ((d + bindsAt k dn.length : Nat) : Int), isqN nl l] []) (.val (isq l2) [])) (o : Out) (gl : lfS k n K d (dn.length + 1) (isq l2) o) : lfS k n K d dn.length (isqN nl l) o := by
  unfold lfS tsV at *
  have hl : K.length = dn.length + (r.length + 1) := by rw [e]; simp
  have hg : lkp (Tm.tsL K) (dn.length : Int) = some [.int .i64 k2, .int .i64 n2, .seq 3 (Tm.tsL ks)] := by rw [e]; exact tsL_mid dn r k2 n2 ks
  have g2 := l3Binds_ev k dn.length (by omega)
  have hb := bindsAt_le k dn.length
  have hcast : ((d + bindsAt k dn.length : Nat) : Int) = (d : Int) + bindsAt k dn.length := by simp
  rw [hcast] at g
  generalize bindsAt k dn.length = b at *
  cases nl with
  | true =>
    simp only [isqN, if_true] at g ⊢
    let t0 : Tp pr := .b (show (decide ((↑dn.length : Int) < (↑K.length : Int))) = true by (simp; omega))
    let t1 : Tp pr := .g .row (show (lkp (Tm.tsL K) (↑dn.length : Int)) = some ([T.int IntKind.i64 k2, T.int IntKind.i64 n2, T.seq (3 : Nat) (Tm.tsL ks)]) from hg)
    let t9 : Tp pr := .i (wrap_i64 (a := (↑d : Int) + (↑b : Int)) (by omega) (by omega))
    let t15 : Tp pr := .i (wrap_i64 (a := (↑dn.length : Int) + (1 : Int)) (by omega) (by omega))
    exact .tp [t0, t1, .mT, .mT, .mT, .mT, .mT, .a (g2), .mT, t9, .mT, .mT, .a (g), .mT, .mT, t15, .a (gl)] (by kernel_rfl)
  | false =>
    simp only [isqN, Bool.false_eq_true, if_false] at g ⊢
    let t0 : Tp pr := .b (show (decide ((↑dn.length : Int) < (↑K.length : Int))) = true by (simp; omega))
    let t1 : Tp pr := .g .row (show (lkp (Tm.tsL K) (↑dn.length : Int)) = some ([T.int IntKind.i64 k2, T.int IntKind.i64 n2, T.seq (3 : Nat) (Tm.tsL ks)]) from hg)
    let t9 : Tp pr := .i (wrap_i64 (a := (↑d : Int) + (↑b : Int)) (by omega) (by omega))
    let t15 : Tp pr := .i (wrap_i64 (a := (↑dn.length : Int) + (1 : Int)) (by omega) (by omega))
    exact .tp [t0, t1, .mT, .mT, .mT, .mT, .mT, .a (g2), .mT, t9, .mT, .mT, .a (g), .mT, .mT, t15, .a (gl)] (by kernel_rfl)
theorem lf_nodeT (k n : Int) (K : List Tm) (d : Nat) (nl : Bool) (l : List Int) (hk : ¬ (k = 1 ∧ n ≥ d)) (nl2 : Bool) (l2 : List Int) (h2 : nl2 = true → l2 = []) (gl : lfS k n K d 0 (isqN nl l) (.exit 0 (at_ [(2, isqN nl2 l2)] [] 0))) :
    Ev pr (.call 94 [tsV k n K, i64 d, isqN nl l] []) (.val (isq l2) []) := by
  unfold lfS tsV at *
  cases nl with
  | true =>
    cases nl2 with
    | true =>
      rw [h2 rfl]
      simp only [isqN, if_true] at gl ⊢
      by_cases c : k = 1
      · have c2 : ¬ n ≥ d := fun h => hk ⟨c, h⟩
        subst c
        let t1 : Tp pr := .b (show (decide (n ≥ (↑d : Int))) = false by (simp; omega))
        let t2 : Tp pr := .i (show ((↑(Tm.tsL K).length : Int) : Int) = (↑K.length : Int) by simp)
        exact .tp [.bT, t1, t2, .a (gl)] (by kernel_rfl)
      · let t0 : Tp pr := .b (show (decide (k = (1 : Int))) = false by (simp; omega))
        let t2 : Tp pr := .i (show ((↑(Tm.tsL K).length : Int) : Int) = (↑K.length : Int) by simp)
        exact .tp [t0, .bF, t2, .a (gl)] (by kernel_rfl)
    | false =>
      simp only [isqN, if_true, Bool.false_eq_true, if_false] at gl ⊢
      by_cases c : k = 1
      · have c2 : ¬ n ≥ d := fun h => hk ⟨c, h⟩
        subst c
        let t1 : Tp pr := .b (show (decide (n ≥ (↑d : Int))) = false by (simp; omega))
        let t2 : Tp pr := .i (show ((↑(Tm.tsL K).length : Int) : Int) = (↑K.length : Int) by simp)
        exact .tp [.bT, t1, t2, .a (gl)] (by kernel_rfl)
      · let t0 : Tp pr := .b (show (decide (k = (1 : Int))) = false by (simp; omega))
        let t2 : Tp pr := .i (show ((↑(Tm.tsL K).length : Int) : Int) = (↑K.length : Int) by simp)
        exact .tp [t0, .bF, t2, .a (gl)] (by kernel_rfl)
  | false =>
    cases nl2 with
    | true =>
      rw [h2 rfl]
      simp only [isqN, if_true, Bool.false_eq_true, if_false] at gl ⊢
      by_cases c : k = 1
      · have c2 : ¬ n ≥ d := fun h => hk ⟨c, h⟩
        subst c
        let t1 : Tp pr := .b (show (decide (n ≥ (↑d : Int))) = false by (simp; omega))
        let t2 : Tp pr := .i (show ((↑(Tm.tsL K).length : Int) : Int) = (↑K.length : Int) by simp)
        exact .tp [.bT, t1, t2, .a (gl)] (by kernel_rfl)
      · let t0 : Tp pr := .b (show (decide (k = (1 : Int))) = false by (simp; omega))
        let t2 : Tp pr := .i (show ((↑(Tm.tsL K).length : Int) : Int) = (↑K.length : Int) by simp)
        exact .tp [t0, .bF, t2, .a (gl)] (by kernel_rfl)
    | false =>
      simp only [isqN, Bool.false_eq_true, if_false] at gl ⊢
      by_cases c : k = 1
      · have c2 : ¬ n ≥ d := fun h => hk ⟨c, h⟩
        subst c
        let t1 : Tp pr := .b (show (decide (n ≥ (↑d : Int))) = false by (simp; omega))
        let t2 : Tp pr := .i (show ((↑(Tm.tsL K).length : Int) : Int) = (↑K.length : Int) by simp)
        exact .tp [.bT, t1, t2, .a (gl)] (by kernel_rfl)
      · let t0 : Tp pr := .b (show (decide (k = (1 : Int))) = false by (simp; omega))
        let t2 : Tp pr := .i (show ((↑(Tm.tsL K).length : Int) : Int) = (↑K.length : Int) by simp)
        exact .tp [t0, .bF, t2, .a (gl)] (by kernel_rfl)
theorem foldl_len (f l : List Int) : (f.foldl insL l).length ≤ l.length + f.length := by
  induction f generalizing l with
  | nil => simp
  | cons x f ih =>
    have h1 := ih (insL l x)
    have h2 := insL_len l x
    simp only [List.foldl_cons, List.length_cons]
    omega
mutual
theorem l3Free_ev : ∀ (t : Tm) (d : Nat) (nl : Bool) (l : List Int), t.ok → d + t.cells.length ≤ 1000000 → l.length + t.cells.length ≤ 1000 → (nl = true → l = []) →
    Ev pr (.call 94 [t.tv, i64 d, isqN nl l] []) (.val (isq ((t.frees d).foldl insL l)) [])
  | .node k n ks, d, nl, l, ho, hd, hl, hn => by
    obtain ⟨h1, h2, h3⟩ := ho
    simp only [Tm.cells, List.length_cons] at hd hl
    have ha := arity_bd k
    by_cases hk : k = 1 ∧ n ≥ d
    · obtain ⟨rfl, hnd⟩ := hk
      have hb : 0 ≤ n ∧ n ≤ 99 := by simpa [cellGood] using h1
      rw [Tm.frees, if_pos rfl, if_pos hnd]
      exact lf_put nl n ks d l _ hb (by omega) hnd (put_ev nl l _ hn (by omega))
    · obtain ⟨nl2, e2, gl⟩ := l3FreeL_ev k n d ks [] ks nl l rfl (by omega) h3 (by omega) (by omega) hn
      have := lf_nodeT k n ks d nl l hk nl2 _ e2 gl
      have hf : Tm.frees d (.node k n ks) = Tm.freesL k d 0 ks := by
        rw [Tm.frees]
        by_cases c : k = 1
        · subst c
          have : ks = [] := List.length_eq_zero_iff.1 (by have : arity 1 = 0 := rfl; omega)
          rw [if_pos rfl, if_neg (fun h => hk ⟨rfl, h⟩), this]
          rfl
        · rw [if_neg c]
      rw [hf]
      exact this
theorem l3FreeL_ev : ∀ (k n : Int) (d : Nat) (rest dn K : List Tm) (nl : Bool) (l : List Int), K = dn ++ rest → K.length ≤ 3 → Tm.okL rest → d + ((Tm.cellsL rest).length + 1) ≤ 1000000 → l.length + (Tm.cellsL rest).length ≤ 1000 → (nl = true → l = []) →
    ∃ nl2, (nl2 = true → (Tm.freesL k d dn.length rest).foldl insL l = []) ∧ lfS k n K d dn.length (isqN nl l) (.exit 0 (at_ [(2, isqN nl2 ((Tm.freesL k d dn.length rest).foldl insL l))] [] 0))
  | k, n, d, [], dn, K, nl, l, e, h3, ho, hd, hl, hn => by
    rw [List.append_nil] at e
    subst e
    exact ⟨nl, hn, lf_end k n K d nl l⟩
  | k, n, d, x :: rest, dn, K, nl, l, e, h3, ho, hd, hl, hn => by
    simp only [Tm.cellsL, List.length_append] at hd hl
    have hb := bindsAt_le k dn.length
    have hx := cells_pos x
    have g := l3Free_ev x (d + bindsAt k dn.length) nl l ho.1 (by omega) (by omega) hn
    have hf := foldl_len (x.frees (d + bindsAt k dn.length)) l
    have hfl := frees_len x (d + bindsAt k dn.length)
    obtain ⟨nl2, e2, gl⟩ := l3FreeL_ev k n d rest (dn ++ [x]) K false ((x.frees (d + bindsAt k dn.length)).foldl insL l) (by rw [e]; simp) h3 ho.2 (by omega) (by omega) (fun h => by cases h)
    simp only [List.length_append, List.length_singleton] at e2 gl
    obtain ⟨k2, n2, ks⟩ := x
    refine ⟨nl2, by simpa [Tm.freesL, List.foldl_append] using e2, ?_⟩
    have := lf_step k n K dn rest k2 n2 ks e h3 d (by omega) nl l _ g _ gl
    simpa [Tm.freesL, List.foldl_append] using this
end
theorem fold_nil (f : List Int) : (f.foldl insL []).length = 0 ↔ f = [] := by
  have aux : ∀ (f l : List Int), 0 < l.length → 0 < (f.foldl insL l).length := fun f => by
    induction f with
    | nil => exact fun l h => h
    | cons x f ih => exact fun l h => ih _ (insL_len l x).2
  cases f with
  | nil => simp
  | cons x f =>
    have := aux f (insL [] x) (insL_len [] x).2
    simp only [List.foldl_cons]
    constructor
    · intro h; omega
    · intro h; cases h
end Go.Ev

namespace Go.Ev
set_option linter.unusedVariables false
set_option linter.unusedSimpArgs false
open Go.Proofs
set_option maxRecDepth 100000
set_option maxHeartbeats 4000000
def cB (L : List (List T)) (n : Nat) (fl : Bool) (R : List (List C)) (B : List Int) : List Ob :=
  [.box [.t (.seq 2 L), .vec 1 n 1 0 n, .vec 2 n 1 0 n], .vec fl 1 R, .vec true 1 (ints B)]
def wkS (L : List (List T)) (n : Nat) (fl : Bool) (R : List (List C)) (B : List Int) (p d q i : Nat) (o : Out) : Prop :=
  Ev pr (.loop (lq pr 105 0) (at_ [(0, .ptr 0 1 0 0), (1, i64 p), (2, i64 d), (7, i64 q), (8, i64 i)] (cB L n fl R B) 3)) o
section
variable (L : List (List T)) (n : Nat) (fl : Bool) (R : List (List C)) (B : List Int) (p d q : Nat) (hp : p < L.length) (c : Cell) (hc : lkp L (p : Int) = some c.ce) (m : Nat) (ha : arity c.kind = m)
include hp hc ha
theorem wk_end : wkS L n fl R B p d q m (.exit 0 (at_ [(7, i64 q)] (cB L n fl R B) 3)) := by
  have _hp := hp
  unfold wkS cB
  have g := l3Arity_ev c.kind
  rw [ha] at g
  obtain ⟨ck, cn⟩ := c
  let t0 : Tp pr := .g .row (show (lkp L (↑p : Int)) = some ((Cell.mk ck cn).ce) from hc)
  let t2 : Tp pr := .b (show (decide ((↑m : Int) < (↑m : Int))) = false by simp)
  exact .tp [t0, .a (g), t2] (by kernel_rfl)
variable (hn : L.length = n) (hb : n ≤ 600) (hR : R.length = n) (hm : m ≤ 3) (i : Nat) (hi : i < m) (hd : d ≤ 1000) (hq : q ≤ 1000) (R1 R2 : List (List C)) (B2 : List Int) (fl2 : Bool) (q2 : Nat)
  (g1 : Ev pr (.call 105 [.ptr 0 1 0 0, i64 q, i64 ((d + bindsAt c.kind i : Nat) : Int)] (cB L n false R1 B)) (.val (i64 q2) (cB L n fl2 R2 B2))) (o : Out) (gl : wkS L n fl2 R2 B2 p d q2 (i + 1) o)
include hn hb hR hm hi hd hq g1 gl
theorem wk_first (h1 : R[p]? = some [C.t .nils]) (h2 : R.set p [C.row 1 [[.int .i64 q]]] = R1) : wkS L n fl R B p d q i o := by
  have _hb := hb
  have _hq := hq
  unfold wkS cB at *
  have g := l3Arity_ev c.kind
  rw [ha] at g
  have hbd := bindsAt_le c.kind i
  have g2 := l3Binds_ev c.kind i (by omega)
  have hcast : ((d + bindsAt c.kind i : Nat) : Int) = (d : Int) + bindsAt c.kind i := by simp
  rw [hcast] at g1
  generalize bindsAt c.kind i = b at *
  obtain ⟨ck, cn⟩ := c
  rw [← h2] at g1
  let t0 : Tp pr := .g .row (show (lkp L (↑p : Int)) = some ((Cell.mk ck cn).ce) from hc)
  let t2 : Tp pr := .b (show (decide ((↑i : Int) < (↑m : Int))) = true by (simp; omega))
  let t13 : Tp pr := .m (show (decide ((0 : Int) ≤ (↑p : Int) ∧ (↑p : Int).toNat < n)) = true by (simp; omega))
  let t14 : Tp pr := .c (show ((0 : Nat) + (↑p : Int).toNat : Nat) = p by omega)
  let t16 : Tp pr := .m (show (decide (R.length = n)) = true by simp [*])
  let t17 : Tp pr := .g .crow (show (R[p]?) = some ([C.t T.nils]) from h1)
  let t24 : Tp pr := .n .crows (show (List.take (1 : Nat) (List.drop (0 : Nat) [[C.t (T.int IntKind.i64 (↑q : Int))]])) = [[C.t (T.int IntKind.i64 (↑q : Int))]] by simp)
  let t32 : Tp pr := .n .rows (show (List.map (fun x => List.map C.fz x) (List.take (1 : Nat) [[C.t (T.int IntKind.i64 (↑q : Int))]])) = [[(C.t (T.int IntKind.i64 (↑q : Int))).fz]] by simp)
  let t33 : Tp pr := .n .crows (rfl : (R.set p [C.row (1 : Nat) [[T.int IntKind.i64 (↑q : Int)]]]) = _)
  let t37 : Tp pr := .i (wrap_i64 (a := (↑d : Int) + (↑b : Int)) (by omega) (by omega))
  let t39 : Tp pr := .i (wrap_i64 (a := (↑i : Int) + (1 : Int)) (by omega) (by omega))
  exact .tp [t0, .a (g), t2, .mT, .mT, .mT, .mT, .mT, .mT, .mT, .mT, .mT, .mT, t13, t14, .mT, t16, t17, .mT, .mT, .mT, .mT, .mT, .c (rfl : ((1 : Nat)) = _), t24, .mT, t13, t14, .mT, .mT, t16, t17, t32, t33, .mT, t0, .a (g2), t37, .a (g1), t39, .a (gl)] (by kernel_rfl)
theorem wk_next (es : List (List T)) (he : 0 < es.length) (he2 : es.length ≤ 3) (h1 : R[p]? = some [C.row 1 es]) (h2 : R.set p [C.row 1 (es ++ [[.int .i64 q]])] = R1) : wkS L n fl R B p d q i o := by
  have _hb := hb
  have _hq := hq
  unfold wkS cB at *
  have g := l3Arity_ev c.kind
  rw [ha] at g
  have hbd := bindsAt_le c.kind i
  have g2 := l3Binds_ev c.kind i (by omega)
  have hcast : ((d + bindsAt c.kind i : Nat) : Int) = (d : Int) + bindsAt c.kind i := by simp
  rw [hcast] at g1
  generalize bindsAt c.kind i = b at *
  obtain ⟨ck, cn⟩ := c
  rw [← h2] at g1
  have e5 : (R.set p [C.gone es.length])[p]? = some [C.gone es.length] := List.getElem?_set_self (by omega)
  have e6 : (R.set p [C.gone es.length]).set p [C.row 1 (es ++ [[.int .i64 q]])] = R.set p [C.row 1 (es ++ [[.int .i64 q]])] := List.set_set ..
  have e7 : es ++ [[T.int .i64 q]] = List.take (es.length + 1) ((List.map ((fun x => List.map C.fz x) ∘ fun x => List.map C.t x) es).append [[T.int .i64 q]]) := by
    have : List.map ((fun x => List.map C.fz x) ∘ fun x => List.map C.t x) es = es := by simp [Function.comp_def, C.fz]
    rw [this, List.take_of_length_le (by simp)]
    rfl
  rw [e7] at g1
  let t0 : Tp pr := .g .row (show (lkp L (↑p : Int)) = some ((Cell.mk ck cn).ce) from hc)
  let t2 : Tp pr := .b (show (decide ((↑i : Int) < (↑m : Int))) = true by (simp; omega))
  let t13 : Tp pr := .m (show (decide ((0 : Int) ≤ (↑p : Int) ∧ (↑p : Int).toNat < n)) = true by (simp; omega))
  let t14 : Tp pr := .c (show ((0 : Nat) + (↑p : Int).toNat : Nat) = p by omega)
  let t16 : Tp pr := .m (show (decide (R.length = n)) = true by simp [*])
  let t17 : Tp pr := .g .crow (show (R[p]?) = some ([C.row (1 : Nat) es]) from h1)
  let t22 : Tp pr := .m (show (decide (R.length = n ∧ (0 : Nat) < es.length ∧ (0 : Nat) < (1 : Nat) ∧ es.length + (1 : Nat) ≤ (4294967296 : Nat))) = true by (simp; omega))
  let t24 : Tp pr := .m (show (decide (es.length = es.length)) = true by simp)
  let t25 : Tp pr := .n .crows (rfl : (R.set p [C.gone es.length]) = _)
  let t26 : Tp pr := .n .crows (rfl : (List.map (fun x => List.map C.t x) es) = _)
  let t27 : Tp pr := .b (show (decide (es.length + (1 : Nat) ≤ es.length)) = false by simp)
  let t29 : Tp pr := .n .crows (show ((List.take es.length (List.map (fun x => List.map C.t x) es)).append (List.take (1 : Nat) (List.drop (0 : Nat) [[C.t (T.int IntKind.i64 (↑q : Int))]]))) = List.map (fun x => List.map C.t x) es ++ [[C.t (T.int IntKind.i64 (↑q : Int))]] by simp)
  let t34 : Tp pr := .m (show (decide (((List.map (fun x => List.map C.t x) es).append [[C.t (T.int IntKind.i64 (↑q : Int))]]).length = es.length + (1 : Nat) ∧ es.length + (1 : Nat) ≤ es.length + (1 : Nat))) = true by simp)
  let t35 : Tp pr := .m (show (decide ((R.set p [C.gone es.length]).length = n)) = true by simp [*])
  let t36 : Tp pr := .g .crow (show ((R.set p [C.gone es.length])[p]?) = some ([C.gone es.length]) from e5)
  let t37 : Tp pr := .m (show (decide (es.length < es.length + (1 : Nat))) = true by simp)
  let t38 : Tp pr := .n .rows (show (List.map (fun x => List.map C.fz x) (List.take (es.length + (1 : Nat)) ((List.map (fun x => List.map C.t x) es).append [[C.t (T.int IntKind.i64 (↑q : Int))]]))) = List.take (es.length + (1 : Nat)) (List.map ((fun x => List.map C.fz x) ∘ fun x => List.map C.t x) es ++ [[(C.t (T.int IntKind.i64 (↑q : Int))).fz]]) by simp)
  let t39 : Tp pr := .n .crows (show ((R.set p [C.gone es.length]).set p [C.row (1 : Nat) (List.take (es.length + (1 : Nat)) ((List.map ((fun x => List.map C.fz x) ∘ fun x => List.map C.t x) es).append [[T.int IntKind.i64 (↑q : Int)]]))]) = R.set p [C.row (1 : Nat) (List.take (es.length + (1 : Nat)) (List.map ((fun x => List.map C.fz x) ∘ fun x => List.map C.t x) es ++ [[T.int IntKind.i64 (↑q : Int)]]))] by simp)
  let t43 : Tp pr := .i (wrap_i64 (a := (↑d : Int) + (↑b : Int)) (by omega) (by omega))
  let t45 : Tp pr := .i (wrap_i64 (a := (↑i : Int) + (1 : Int)) (by omega) (by omega))
  exact .tp [t0, .a (g), t2, .mT, .mT, .mT, .mT, .mT, .mT, .mT, .mT, .mT, .mT, t13, t14, .mT, t16, t17, .mT, .mT, .mT, .mT, t22, t17, t24, t25, t26, t27, .c (rfl : (es.length + (1 : Nat)) = _), t29, .mT, t13, t14, .mT, t34, t35, t36, t37, t38, t39, .mT, t0, .a (g2), t43, .a (g1), t45, .a (gl)] (by kernel_rfl)
end
theorem begins_app : ∀ (a b : List Tm) (q : Nat), begins q (a ++ b) = begins q a ++ begins (q + (Tm.cellsL a).length) b
  | [], b, q => by simp [begins, Tm.cellsL]
  | x :: a, b, q => by
    have ih := begins_app a b (q + x.cells.length)
    simp only [List.cons_append, begins, Tm.cellsL, List.length_append, ih]
    rw [Nat.add_assoc]
theorem spl_snoc2 {α : Type} {l a b : List α} {p q : Nat} (hq : q = p + a.length) (h : q + b.length ≤ l.length) : spl (spl l p a) q b = spl l p (a ++ b) := by
  subst hq
  exact spl_snoc h
theorem spl_setc {α : Type} {l m : List α} {p q : Nat} {v : α} (h : p < q) (hq : q + m.length ≤ l.length) : (spl l q m).set p v = spl (l.set p v) q m := by
  unfold spl
  have e1 : p < (List.take q l).length := by simp; omega
  rw [List.append_assoc, List.set_append_left _ _ e1, List.append_assoc, List.take_set, List.drop_set]
  rw [if_pos (by omega)]
theorem spl_right {α : Type} {l m : List α} {p j : Nat} (h : p + m.length ≤ j) (hl : p + m.length ≤ l.length) : (spl l p m)[j]? = l[j]? := by
  unfold spl
  rw [List.getElem?_append_right (by simp; omega), List.getElem?_drop]
  congr 1
  simp
  omega
def kc (ks : List Int) : List C := if ks = [] then [C.t .nils] else [C.row 1 (ks.map intt)]
def wkN (L : List (List T)) (n : Nat) (fl : Bool) (R : List (List C)) (B : List Int) (p d q : Nat) (fl2 : Bool) (R2 : List (List C)) (B2 : List Int) : Prop :=
  Ev pr (.call 105 [.ptr 0 1 0 0, i64 p, i64 d] (cB L n fl R B)) (.val (i64 q) (cB L n fl2 R2 B2))
theorem wk_node (L : List (List T)) (n : Nat) (fl : Bool) (R : List (List C)) (B : List Int) (p d q : Nat) (fl2 : Bool) (R2 : List (List C)) (B2 : List Int) (hp : p < n) (hn : n ≤ 600) (hB : B.length = n)
    (gl : wkS L n fl R (B.set p d) p d (p + 1) 0 (.exit 0 (at_ [(7, i64 q)] (cB L n fl2 R2 B2) 3))) : wkN L n fl R B p d q fl2 R2 B2 := by
  unfold wkN wkS cB at *
  have e1 : ∃ y, (ints B)[p]? = some [C.t (.int .i64 y)] := ⟨B[p]'(by omega), by simp [ints, intc, show p < B.length by omega]⟩
  obtain ⟨y, e1⟩ := e1
  have e2 : (ints B).set p [C.t (.int .i64 d)] = ints (B.set p d) := by simp [ints, intc, List.map_set]
  let t0 : Tp pr := .m (show (decide ((0 : Int) ≤ (↑p : Int) ∧ (↑p : Int).toNat < n)) = true by simp [*])
  let t1 : Tp pr := .c (show ((0 : Nat) + (↑p : Int).toNat : Nat) = p by omega)
  let t2 : Tp pr := .m (show (decide ((ints B).length = n)) = true by simp [*])
  let t3 : Tp pr := .g .crow (show ((ints B)[p]?) = some ([C.t (T.int IntKind.i64 y)]) from e1)
  let t4 : Tp pr := .n .crows (show ((ints B).set p [C.t (T.int IntKind.i64 (↑d : Int))]) = ints (B.set p (↑d : Int)) by simp)
  let t5 : Tp pr := .i (wrap_i64 (a := (↑p : Int) + (1 : Int)) (by omega) (by omega))
  exact .tp [t0, t1, t2, t3, t4, t5, .a (gl)] (by kernel_rfl)
theorem wk_step (L : List (List T)) (n : Nat) (fl : Bool) (K : List (List Int)) (B : List Int) (p d q : Nat) (hp : p < L.length) (c : Cell) (hc : lkp L (p : Int) = some c.ce) (m : Nat) (ha : arity c.kind = m) (hn : L.length = n) (hb : n ≤ 600) (hK : K.length = n) (hm : m ≤ 3) (i : Nat) (hi : i < m) (hd : d ≤ 1000) (hq : q ≤ 1000)
    (ks : List Int) (hks : K[p]? = some ks) (hkl : ks.length ≤ 3) (R2 : List (List C)) (B2 : List Int) (fl2 : Bool) (q2 : Nat)
    (g1 : wkN L n false ((K.set p (ks ++ [(q : Int)])).map kc) B q (d + bindsAt c.kind i) q2 fl2 R2 B2) (o : Out) (gl : wkS L n fl2 R2 B2 p d q2 (i + 1) o) : wkS L n fl (K.map kc) B p d q i o := by
  unfold wkN at g1
  have hpK : p < K.length := by omega
  rw [List.map_set] at g1
  have h1 : (K.map kc)[p]? = some (kc ks) := by simp [hks]
  cases ks with
  | nil => exact wk_first L n fl _ B p d q hp c hc m ha hn hb (by simpa using hK) hm i hi hd hq _ R2 B2 fl2 q2 g1 o gl h1 rfl
  | cons x ks => exact wk_next L n fl _ B p d q hp c hc m ha hn hb (by simpa using hK) hm i hi hd hq _ R2 B2 fl2 q2 g1 o gl ((x :: ks).map intt) (by simp) (by simpa using hkl) h1 (by simp [kc, intt])
mutual
theorem walk_ev : ∀ (t : Tm) (cells pre post : List Cell) (fl : Bool) (K : List (List Int)) (B : List Int) (p d : Nat), t.ok → cells = pre ++ (t.cells ++ post) → p = pre.length → K.length = cells.length → B.length = cells.length → cells.length ≤ 600 → d + t.cells.length ≤ 1000 →
    (∀ j, p ≤ j → j < p + t.cells.length → K[j]? = some []) →
    ∃ fl2, wkN (cells.map Cell.ce) cells.length fl (K.map kc) B p d (p + t.cells.length) fl2 ((spl K p (t.kidsAt p)).map kc) (spl B p (t.bounds d))
  | .node k n ks, cells, pre, post, fl, K, B, p, d, ho, hc, hp, hK, hB, hb, hd, hE => by
    obtain ⟨h1, h2, h3⟩ := ho
    have ha := arity_bd k
    simp only [Tm.cells, List.length_cons] at hd hE
    have hcl : cells.length = pre.length + ((Tm.cellsL ks).length + 1) + post.length := by rw [hc]; simp [Tm.cells]; omega
    have hcell : lkp (cells.map Cell.ce) (p : Int) = some (Cell.ce ⟨k, n⟩) := by
      rw [hc, hp]
      simp [Tm.cells]
    have hs1 := kidsAtL_len (p + 1) ks
    have hs2 := boundsL_len k d 0 ks
    obtain ⟨fl2, gl⟩ := walkL_ev ks [] k n d p ks.length cells (pre ++ [⟨k, n⟩]) post fl K (B.set p d) h3 (by rw [hc]; simp [Tm.cells, Tm.cellsL]) (by simp [hp]) hcell (by simp) (by omega) (by omega) hK (by simpa using hB) hb (by omega) (hE p (by omega) (by omega))
      (fun j h1 h2 => hE j (by simp [Tm.cellsL] at h1; omega) (by simp [Tm.cellsL] at h2; omega))
    simp only [List.length_nil, Tm.cellsL, List.nil_append, Nat.add_zero] at gl
    have e1 : spl (B.set p d) (p + 1) (Tm.boundsL k d 0 ks) = spl B p (Tm.bounds d (.node k n ks)) := by
      rw [spl_set (by omega)]
      have := spl_snoc (l := B) (a := [(d : Int)]) (b := Tm.boundsL k d 0 ks) (p := p) (by simp; omega)
      simpa [Tm.bounds] using this
    have e2 : spl (K.set p (begins (p + 1) ks)) (p + 1) (Tm.kidsAtL (p + 1) ks) = spl K p (Tm.kidsAt p (.node k n ks)) := by
      rw [spl_set (by omega)]
      have := spl_snoc (l := K) (a := [begins (p + 1) ks]) (b := Tm.kidsAtL (p + 1) ks) (p := p) (by simp; omega)
      simpa [Tm.kidsAt] using this
    rw [e1, e2] at gl
    refine ⟨fl2, wk_node _ _ _ _ _ _ _ _ _ _ _ (by omega) hb hB ?_⟩
    have e3 : p + (Tm.cells (.node k n ks)).length = p + 1 + (Tm.cellsL ks).length := by simp [Tm.cells]; omega
    rw [e3]
    exact gl
theorem walkL_ev : ∀ (rest dn : List Tm) (k n : Int) (d p m : Nat) (cells pre post : List Cell) (fl : Bool) (K : List (List Int)) (B : List Int), Tm.okL rest → cells = pre ++ (Tm.cellsL dn ++ (Tm.cellsL rest ++ post)) → pre.length = p + 1 → lkp (cells.map Cell.ce) (p : Int) = some (Cell.ce ⟨k, n⟩) →
    m = dn.length + rest.length → arity k = m → m ≤ 3 → K.length = cells.length → B.length = cells.length → cells.length ≤ 600 → d + 1 + (Tm.cellsL rest).length ≤ 1000 → K[p]? = some (begins (p + 1) dn) →
    (∀ j, p + 1 + (Tm.cellsL dn).length ≤ j → j < p + 1 + (Tm.cellsL dn).length + (Tm.cellsL rest).length → K[j]? = some []) →
    ∃ fl2, wkS (cells.map Cell.ce) cells.length fl (K.map kc) B p d (p + 1 + (Tm.cellsL dn).length) dn.length (.exit 0 (at_ [(7, i64 ((p + 1 + (Tm.cellsL dn).length + (Tm.cellsL rest).length : Nat) : Int))]
      (cB (cells.map Cell.ce) cells.length fl2 ((spl (K.set p (begins (p + 1) (dn ++ rest))) (p + 1 + (Tm.cellsL dn).length) (Tm.kidsAtL (p + 1 + (Tm.cellsL dn).length) rest)).map kc) (spl B (p + 1 + (Tm.cellsL dn).length) (Tm.boundsL k d dn.length rest))) 3))
  | [], dn, k, n, d, p, m, cells, pre, post, fl, K, B, ho, hc, hp, hcell, hm, ham, hm3, hK, hB, hb, hd, hKp, hE => by
    have hpl : p < K.length := (List.getElem?_eq_some_iff.1 hKp).1
    have e1 : K.set p (begins (p + 1) dn) = K := by
      have := (List.getElem?_eq_some_iff.1 hKp).2
      rw [← this]
      exact List.set_getElem_self hpl
    simp only [Tm.kidsAtL, Tm.boundsL, Tm.cellsL, spl_nil, List.length_nil, Nat.add_zero, List.append_nil, e1] at hm ⊢
    exact ⟨fl, wk_end _ _ _ _ _ _ _ _ (by simp; omega) _ hcell _ (by rw [← hm]; exact ham)⟩
  | x :: rest, dn, k, n, d, p, m, cells, pre, post, fl, K, B, ho, hc, hp, hcell, hm, ham, hm3, hK, hB, hb, hd, hKp, hE => by
    obtain ⟨ho1, ho2⟩ := ho
    have hbd := bindsAt_le k dn.length
    have hx := cells_pos x
    have hxk := kidsAt_len (p + 1 + (Tm.cellsL dn).length) x
    have hxb := bounds_len (d + bindsAt k dn.length) x
    have hrk := kidsAtL_len (p + 1 + (Tm.cellsL dn).length + x.cells.length) rest
    have hrb := boundsL_len k d (dn.length + 1) rest
    simp only [Tm.cellsL, List.length_append, List.length_cons] at hd hm hE ⊢
    have hcl : cells.length = p + 1 + (Tm.cellsL dn).length + x.cells.length + (Tm.cellsL rest).length + post.length := by
      have := congrArg List.length hc
      simp only [Tm.cellsL, List.length_append, hp] at this
      omega
    have hbl : (begins (p + 1) dn).length = dn.length := begins_len _ _
    have hb1 : begins (p + 1) (dn ++ [x]) = begins (p + 1) dn ++ [((p + 1 + (Tm.cellsL dn).length : Nat) : Int)] := by rw [begins_app]; rfl
    obtain ⟨fl1, g⟩ := walk_ev x cells (pre ++ Tm.cellsL dn) (Tm.cellsL rest ++ post) false (K.set p (begins (p + 1) (dn ++ [x]))) B (p + 1 + (Tm.cellsL dn).length) (d + bindsAt k dn.length) ho1 (by rw [hc]; simp [Tm.cellsL]) (by simp [hp]) (by simpa using hK) hB hb (by omega)
      (fun j h1 h2 => by rw [List.getElem?_set_ne (by omega)]; exact hE j h1 (by omega))
    obtain ⟨fl2, gl⟩ := walkL_ev rest (dn ++ [x]) k n d p m cells pre post fl1 (spl (K.set p (begins (p + 1) (dn ++ [x]))) (p + 1 + (Tm.cellsL dn).length) (x.kidsAt (p + 1 + (Tm.cellsL dn).length))) (spl B (p + 1 + (Tm.cellsL dn).length) (x.bounds (d + bindsAt k dn.length))) ho2 (by rw [hc]; simp [Tm.cellsL, cellsL_app]) hp hcell
      (by simp; omega) ham hm3 (by rw [spl_len (by simp; omega)]; simpa using hK) (by rw [spl_len (by omega)]; exact hB) hb (by omega)
      (by
        have := spl_setc (l := K) (m := x.kidsAt (p + 1 + (Tm.cellsL dn).length)) (p := p) (q := p + 1 + (Tm.cellsL dn).length) (v := begins (p + 1) (dn ++ [x])) (by omega) (by omega)
        rw [← this]
        exact List.getElem?_set_self (by rw [spl_len (by omega)]; omega))
      (fun j h1 h2 => by
        simp only [cellsL_app, Tm.cellsL, List.append_nil, List.length_append] at h1 h2
        rw [spl_right (by omega) (by simp; omega), List.getElem?_set_ne (by omega)]
        exact hE j (by omega) (by omega))
    simp only [cellsL_app, Tm.cellsL, List.append_nil, List.length_append, List.length_singleton] at gl
    have q0 : p + 1 + ((Tm.cellsL dn).length + x.cells.length) = p + 1 + (Tm.cellsL dn).length + x.cells.length := by omega
    rw [q0] at gl
    have s2 : spl (spl B (p + 1 + (Tm.cellsL dn).length) (x.bounds (d + bindsAt k dn.length))) (p + 1 + (Tm.cellsL dn).length + x.cells.length) (Tm.boundsL k d (dn.length + 1) rest) = spl B (p + 1 + (Tm.cellsL dn).length) (x.bounds (d + bindsAt k dn.length) ++ Tm.boundsL k d (dn.length + 1) rest) := by
      exact spl_snoc2 (by omega) (by omega)
    have s1 : spl ((spl (K.set p (begins (p + 1) (dn ++ [x]))) (p + 1 + (Tm.cellsL dn).length) (x.kidsAt (p + 1 + (Tm.cellsL dn).length))).set p (begins (p + 1) (dn ++ [x] ++ rest))) (p + 1 + (Tm.cellsL dn).length + x.cells.length) (Tm.kidsAtL (p + 1 + (Tm.cellsL dn).length + x.cells.length) rest)
        = spl (K.set p (begins (p + 1) (dn ++ x :: rest))) (p + 1 + (Tm.cellsL dn).length) (x.kidsAt (p + 1 + (Tm.cellsL dn).length) ++ Tm.kidsAtL (p + 1 + (Tm.cellsL dn).length + x.cells.length) rest) := by
      rw [spl_setc (by omega) (by simp; omega), List.set_set]
      rw [show dn ++ [x] ++ rest = dn ++ x :: rest by simp]
      exact spl_snoc2 (by omega) (by simp; omega)
    rw [s1, s2] at gl
    rw [show p + 1 + (Tm.cellsL dn).length + x.cells.length + (Tm.cellsL rest).length = p + 1 + (Tm.cellsL dn).length + (x.cells.length + (Tm.cellsL rest).length) by omega] at gl
    refine ⟨fl2, ?_⟩
    rw [hb1] at g gl
    simp only [Tm.kidsAtL, Tm.boundsL]
    exact wk_step _ _ _ _ _ _ _ _ (by simp; omega) ⟨k, n⟩ hcell m ham (by simp) hb hK hm3 dn.length (by omega) (by omega) (by omega) _ hKp (by omega) _ _ fl1 _ g _ gl
end
def kT (ks : List Int) : List T := if ks = [] then [T.nils] else [T.seq 1 (ks.map intt)]
theorem kc_fz (ks : List Int) : (kc ks).map C.fz = kT ks := by
  unfold kc kT
  split <;> simp [C.fz]
def Cd.tp (c : Cd) : T := .ptr [.seq 2 (c.cells.map Cell.ce), .seq 1 (c.kids.map kT), .seq 1 (c.bounds.map intt)] 0
theorem lo_no (L : List (List T)) (k n : Int) (ks : List Tm) (g : Ev pr (.call 93 [.t (.seq 2 L)] []) (.val (.tup [tsV k n ks, bl false]) [])) : Ev pr (.call 51 [.t (.seq 2 L)] []) (.val (.tup [.t .nilp, bl false]) []) := by
  unfold tsV at g
  exact .tp [.a (g), .bT, .bT] (by kernel_rfl)
theorem lo_free (L : List (List T)) (k n : Int) (ks : List Tm) (g : Ev pr (.call 93 [.t (.seq 2 L)] []) (.val (.tup [tsV k n ks, bl true]) [])) (fs : List Int) (g2 : Ev pr (.call 94 [tsV k n ks, i64 0, .t .nils] []) (.val (isq fs) [])) (h : ¬ fs.length = 0) :
    Ev pr (.call 51 [.t (.seq 2 L)] []) (.val (.tup [.t .nilp, bl false]) []) := by
  unfold tsV at g g2
  let t3 : Tp pr := .i (show ((↑(List.map intt fs).length : Int) : Int) = (↑fs.length : Int) by simp)
  let t4 : Tp pr := .b (show (decide ((↑fs.length : Int) > (0 : Int))) = true by (simp; omega))
  exact .tp [.a (g), .bF, .a (g2), t3, t4] (by kernel_rfl)
theorem lo_ok (L : List (List T)) (m : Nat) (hL : L.length = m) (hl : m ≤ 600) (k n : Int) (ks : List Tm) (g : Ev pr (.call 93 [.t (.seq 2 L)] []) (.val (.tup [tsV k n ks, bl true]) [])) (g2 : Ev pr (.call 94 [tsV k n ks, i64 0, .t .nils] []) (.val (isq []) []))
    (fl : Bool) (q : Nat) (R2 : List (List C)) (B2 : List Int) (hR : R2.length = m) (hB : B2.length = m)
    (g3 : wkN L m true (List.replicate m [C.t .nils]) (List.replicate m 0) 0 0 q fl R2 B2) :
    Ev pr (.call 51 [.t (.seq 2 L)] []) (.val (.tup [.t (.ptr [.seq 2 L, .seq 1 (R2.map (List.map C.fz)), .seq 1 (B2.map intt)] 0), bl true]) []) := by
  unfold tsV wkN cB at *
  have e1 : ints (List.replicate m 0) = List.replicate m [C.t (.int .i64 0)] := by simp [ints, intc]
  rw [e1] at g3
  simp only [List.map_nil, isq, sl] at g2
  have e2 : List.take m R2 = R2 := List.take_of_length_le (by omega)
  have e3 : List.take m (R2.map (List.map C.fz)) = R2.map (List.map C.fz) := List.take_of_length_le (by simp; omega)
  have e4 : List.take m (B2.map intt) = B2.map intt := List.take_of_length_le (by simp; omega)
  let t3 : Tp pr := .i (rfl : ((0 : Int) : Int) = (0 : Int))
  let t9 : Tp pr := .m (show (decide ((0 : Int) ≤ (↑L.length : Int) ∧ (↑L.length : Int) ≤ (↑L.length : Int) ∧ (↑L.length : Int) ≤ (4294967296 : Int))) = true by (simp; omega))
  let t10 : Tp pr := .c (show ((↑L.length : Int).toNat : Nat) = L.length by omega)
  let t11 : Tp pr := .n .crows (rfl : (List.replicate L.length [C.t T.nils]) = _)
  let t18 : Tp pr := .n .crows (rfl : (List.replicate L.length [C.t (T.int IntKind.i64 (0 : Int))]) = _)
  let t23 : Tp pr := .a (Ev.castq (((congrArg (fun x => Q.call (105 : Nat) [V.ptr (0 : Nat) (1 : Nat) (0 : Nat) (0 : Nat), V.t (T.int IntKind.i64 (0 : Int)), V.t (T.int IntKind.i64 (0 : Int))] [Ob.box [V.t (T.seq (2 : Nat) L), V.vec (1 : Nat) m (1 : Nat) (0 : Nat) m, V.vec (2 : Nat) m (1 : Nat) (0 : Nat) m], Ob.vec true (1 : Nat) (List.replicate m [C.t T.nils]), Ob.vec true (1 : Nat) (List.replicate m [C.t (T.int IntKind.i64 (0 : Int))])]) (show (List.replicate m [C.t (T.int IntKind.i64 (0 : Int))]) = (List.replicate L.length [C.t (T.int IntKind.i64 (0 : Int))]) by simp [*])).trans (congrArg (fun x => Q.call (105 : Nat) [V.ptr (0 : Nat) (1 : Nat) (0 : Nat) (0 : Nat), V.t (T.int IntKind.i64 (0 : Int)), V.t (T.int IntKind.i64 (0 : Int))] [Ob.box [V.t (T.seq (2 : Nat) L), V.vec (1 : Nat) m (1 : Nat) (0 : Nat) m, V.vec (2 : Nat) m (1 : Nat) (0 : Nat) m], Ob.vec true (1 : Nat) (List.replicate m [C.t T.nils]), Ob.vec true (1 : Nat) (List.replicate m [C.t (T.int IntKind.i64 (0 : Int))])]) (show (List.replicate m [C.t T.nils]) = (List.replicate L.length [C.t T.nils]) by simp [*]))).trans (congrArg (fun x => Q.call (105 : Nat) [V.ptr (0 : Nat) (1 : Nat) (0 : Nat) (0 : Nat), V.t (T.int IntKind.i64 (0 : Int)), V.t (T.int IntKind.i64 (0 : Int))] [Ob.box [V.t (T.seq (2 : Nat) L), V.vec (1 : Nat) x (1 : Nat) (0 : Nat) x, V.vec (2 : Nat) x (1 : Nat) (0 : Nat) x], Ob.vec true (1 : Nat) (List.replicate x [C.t T.nils]), Ob.vec true (1 : Nat) (List.replicate x [C.t (T.int IntKind.i64 (0 : Int))])]) (show (m) = (L.length) by omega))) (g3))
  let t24 : Tp pr := .m (show (decide (R2.length = m ∧ (0 : Nat) + m ≤ m)) = true by simp [*])
  let t25 : Tp pr := .n .rows (show (List.map (fun x => List.map C.fz x) (List.take m (List.drop (0 : Nat) R2))) = List.take m (List.map (fun x => List.map C.fz x) R2) by simp)
  let t26 : Tp pr := .m (show (decide ((ints B2).length = m ∧ (0 : Nat) + m ≤ m)) = true by simp [*])
  let t27 : Tp pr := .n .rows (show (List.map (fun x => List.map C.fz x) (List.take m (List.drop (0 : Nat) (ints B2)))) = List.take m (List.map intt B2) by simp)
  exact .tpe [.a (g), .bF, .a (g2), t3, .bF, .mT, .mT, .i (rfl : ((↑L.length : Int)) = _), .mT, t9, t10, t11, .mT, .mT, .i (rfl : ((↑L.length : Int)) = _), .mT, t9, t10, t18, .mT, .mT, .mT, .mT, t23, t24, t25, t26, t27] (Out.val (V.tup [V.t (T.ptr [T.seq (2 : Nat) L, T.seq (1 : Nat) (List.take m (List.map (fun x => List.map C.fz x) R2)), T.seq (1 : Nat) (List.take m (List.map intt B2))] (0 : Nat)), V.t (T.bool true)]) []) (by kernel_rfl) ((congrArg (fun x => Out.val (V.tup [V.t (T.ptr [T.seq (2 : Nat) L, T.seq (1 : Nat) x, T.seq (1 : Nat) (List.take m (List.map intt B2))] (0 : Nat)), V.t (T.bool true)]) []) (show (List.take m (List.map (fun x => List.map C.fz x) R2)) = (List.map (List.map C.fz) R2) by assumption)).trans (congrArg (fun x => Out.val (V.tup [V.t (T.ptr [T.seq (2 : Nat) L, T.seq (1 : Nat) (List.map (List.map C.fz) R2), T.seq (1 : Nat) x] (0 : Nat)), V.t (T.bool true)]) []) (show (List.take m (List.map intt B2)) = (List.map intt B2) by assumption)))
theorem l6Of_ev (l : List Cell) (h2 : l.length ≤ 1048576) :
    (codeOf l = none ∧ Ev pr (.call 51 [.t (.seq 2 (l.map Cell.ce))] []) (.val (.tup [.t .nilp, bl false]) [])) ∨
    ∃ t, codeOf l = some t ∧ l = t.cells ∧ t.ok ∧ t.frees 0 = [] ∧ l.length ≤ 600 ∧ Ev pr (.call 51 [.t (.seq 2 (l.map Cell.ce))] []) (.val (.tup [.t t.cd.tp, bl true]) []) := by
  have hcode : codeOf l = match termOf l with
    | some t => if t.frees 0 = [] then some t else none
    | none => none := by
    unfold codeOf termOf
    by_cases c : l.length > 600
    · rw [if_pos c, if_pos c]
    · rw [if_neg c, if_neg c]
      cases readT 601 l with
      | none => rfl
      | some p =>
        obtain ⟨t, r⟩ := p
        cases r <;> rfl
  rw [hcode]
  rcases l3Tree_ev l h2 with ⟨e, k, n, ks, g⟩ | ⟨t, e, hl, ho, h6, g⟩
  · rw [e]
    exact .inl ⟨rfl, lo_no _ k n ks g⟩
  · rw [e]
    dsimp only
    have hf := l3Free_ev t 0 true [] ho (by rw [← hl]; omega) (by rw [← hl]; simp; omega) (fun _ => rfl)
    have e1 : isqN true [] = .t .nils := rfl
    have e0 : (i64 ((0 : Nat) : Int)) = i64 0 := rfl
    rw [e1, e0] at hf
    by_cases hfr : t.frees 0 = []
    · refine .inr ⟨t, by simp [hfr], hl, ho, hfr, h6, ?_⟩
      rw [hfr] at hf
      obtain ⟨fl, gw⟩ := walk_ev t l [] [] true (List.replicate l.length []) (List.replicate l.length 0) 0 0 ho (by simpa using hl) rfl (by simp) (by simp) h6 (by rw [← hl]; omega) (fun j h1 h3 => by
        rw [← hl] at h3
        rw [List.getElem?_replicate, if_pos (by omega)])
      have hk := kidsAt_len 0 t
      have hb := bounds_len 0 t
      rw [spl_all (by rw [hk, ← hl]; simp), spl_all (by rw [hb, ← hl]; simp)] at gw
      have e3 : (List.replicate l.length ([] : List Int)).map kc = List.replicate l.length [C.t .nils] := by simp [kc]
      rw [e3] at gw
      obtain ⟨k, n, ks⟩ := t
      have := lo_ok (l.map Cell.ce) l.length (by simp) h6 k n ks g hf fl _ _ _ (by rw [List.length_map, hk, ← hl]) (by rw [hb, ← hl]) gw
      have e4 : ((Tm.kidsAt 0 (.node k n ks)).map kc).map (List.map C.fz) = (Tm.kidsAt 0 (.node k n ks)).map kT := by
        rw [List.map_map]
        exact List.map_congr_left fun x _ => kc_fz x
      rw [e4] at this
      unfold Cd.tp Tm.cd
      dsimp only
      rw [← hl]
      exact this
    · refine .inl ⟨by simp [hfr], ?_⟩
      obtain ⟨k, n, ks⟩ := t
      exact lo_free _ k n ks g _ hf (fun h => hfr ((fold_nil _).1 h))
end Go.Ev

namespace Go.Ev
set_option linter.unusedVariables false
set_option linter.unusedSimpArgs false
open Go.Proofs
set_option maxRecDepth 100000
set_option maxHeartbeats 4000000
def mA (d : Bool) (p e v : Int) (lF : Nat) (F W D : List (List C)) : V := .agg [bl d, i64 p, i64 e, i64 v, .vec 0 F.length 4 0 lF, .vec 1 W.length 4 0 W.length, .vec 2 D.length 2 0 D.length]
def mM (F W D : List (List C)) : List Ob := [.vec true 4 F, .vec true 4 W, .vec true 2 D]
section
variable (d : Bool) (p e v : Int) (lF : Nat) (F W D : List (List C))
theorem l6Come_ev (r : Int) : Ev pr (.call 175 [mA d p e v lF F W D, i64 r] (mM F W D)) (.val (mA true (-1) (-1) r lF F W D) (mM F W D)) := by
  unfold mA mM
  exact .tp [] (by kernel_rfl)
theorem l6Next_ev (q r : Int) : Ev pr (.call 176 [mA d p e v lF F W D, i64 q, i64 r] (mM F W D)) (.val (mA false q r (-1) lF F W D) (mM F W D)) := by
  unfold mA mM
  exact .tp [] (by kernel_rfl)
theorem l6NewY_ev (x : Vl) (h : W.length < 500) : Ev pr (.call 174 [mA d p e v lF F W D, .agg [bl x.fn, i64 x.num, i64 x.pl, i64 x.env]] (mM F W D)) (.val (.tup [mA true (-1) (-1) W.length lF F (W ++ [x.cc]) D, bl true]) (mM F (W ++ [x.cc]) D)) := by
  obtain ⟨f, m, q, r⟩ := x
  have g := l6Come_ev d p e v lF F (W ++ [Vl.cc ⟨f, m, q, r⟩]) D W.length
  unfold mA mM at *
  simp only [List.length_append, List.length_singleton] at g ⊢
  let t1 : Tp pr := .b (show (decide ((↑W.length : Int) = (500 : Int))) = false by (simp; omega))
  let t3 : Tp pr := .m (show (decide (W.length = W.length ∧ (0 : Nat) + W.length ≤ W.length ∧ W.length + (1 : Nat) ≤ (4294967296 : Nat))) = true by (simp; omega))
  let t4 : Tp pr := .b (show (decide (W.length + (1 : Nat) ≤ W.length)) = false by simp)
  let t6 : Tp pr := .n .crows (show ((List.take W.length W).append (List.take (1 : Nat) (List.drop (0 : Nat) [[C.t (T.bool f), C.t (T.int IntKind.i64 m), C.t (T.int IntKind.i64 q), C.t (T.int IntKind.i64 r)]]))) = W ++ [[C.t (T.bool f), C.t (T.int IntKind.i64 m), C.t (T.int IntKind.i64 q), C.t (T.int IntKind.i64 r)]] by simp)
  let t7 : Tp pr := .i (show ((↑(W.length + (1 : Nat)) : Int) : Int) = (↑W.length : Int) + (1 : Int) by omega)
  let t8 : Tp pr := .i (wrap_i64 (a := (↑W.length : Int) + (1 : Int) - (1 : Int)) (by omega) (by omega))
  let t9 : Tp pr := .a (Ev.castq (congrArg (fun x => Q.call (175 : FuncId) [V.agg [bl d, i64 p, i64 e, i64 v, V.vec (0 : Nat) F.length (4 : Nat) (0 : Nat) lF, V.vec (1 : Nat) (W.length + (1 : Nat)) (4 : Nat) (0 : Nat) (W.length + (1 : Nat)), V.vec (2 : Nat) D.length (2 : Nat) (0 : Nat) D.length], i64 x] [Ob.vec true (4 : Nat) F, Ob.vec true (4 : Nat) (W ++ [(Vl.mk f m q r).cc]), Ob.vec true (2 : Nat) D]) (show ((↑W.length : Int)) = ((↑W.length : Int) + (1 : Int) - (1 : Int)) by simp)) (g))
  exact .tp [.i (rfl : ((↑W.length : Int)) = _), t1, .mT, t3, t4, .c (rfl : (W.length + (1 : Nat)) = _), t6, t7, t8, t9] (by kernel_rfl)
theorem l6NewN_ev (x : Vl) (h : W.length = 500) : Ev pr (.call 174 [mA d p e v lF F W D, .agg [bl x.fn, i64 x.num, i64 x.pl, i64 x.env]] (mM F W D)) (.val (.tup [mA d p e v lF F W D, bl false]) (mM F W D)) := by
  obtain ⟨f, m, q, r⟩ := x
  unfold mA mM at *
  let t1 : Tp pr := .b (show (decide ((↑W.length : Int) = (500 : Int))) = true by (simp; omega))
  exact .tp [.i (rfl : ((↑W.length : Int)) = _), t1] (by kernel_rfl)
theorem l6BindY_ev (w u q : Int) (h : D.length < 500) : Ev pr (.call 177 [mA d p e v lF F W D, i64 w, i64 u, i64 q] (mM F W D)) (.val (.tup [mA false q D.length (-1) lF F W (D ++ [Bd.cc ⟨w, u⟩]), bl true]) (mM F W (D ++ [Bd.cc ⟨w, u⟩]))) := by
  have g := l6Next_ev d p e v lF F W (D ++ [Bd.cc ⟨w, u⟩]) q D.length
  unfold mA mM at *
  simp only [List.length_append, List.length_singleton] at g ⊢
  let t1 : Tp pr := .b (show (decide ((↑D.length : Int) = (500 : Int))) = false by (simp; omega))
  let t3 : Tp pr := .m (show (decide (D.length = D.length ∧ (0 : Nat) + D.length ≤ D.length ∧ D.length + (1 : Nat) ≤ (4294967296 : Nat))) = true by (simp; omega))
  let t4 : Tp pr := .b (show (decide (D.length + (1 : Nat) ≤ D.length)) = false by simp)
  let t6 : Tp pr := .n .crows (show ((List.take D.length D).append (List.take (1 : Nat) (List.drop (0 : Nat) [[C.t (T.int IntKind.i64 w), C.t (T.int IntKind.i64 u)]]))) = D ++ [[C.t (T.int IntKind.i64 w), C.t (T.int IntKind.i64 u)]] by simp)
  let t7 : Tp pr := .i (show ((↑(D.length + (1 : Nat)) : Int) : Int) = (↑D.length : Int) + (1 : Int) by omega)
  let t8 : Tp pr := .i (wrap_i64 (a := (↑D.length : Int) + (1 : Int) - (1 : Int)) (by omega) (by omega))
  let t9 : Tp pr := .a (Ev.castq (congrArg (fun x => Q.call (176 : FuncId) [V.agg [bl d, i64 p, i64 e, i64 v, V.vec (0 : Nat) F.length (4 : Nat) (0 : Nat) lF, V.vec (1 : Nat) W.length (4 : Nat) (0 : Nat) W.length, V.vec (2 : Nat) (D.length + (1 : Nat)) (2 : Nat) (0 : Nat) (D.length + (1 : Nat))], i64 q, i64 x] [Ob.vec true (4 : Nat) F, Ob.vec true (4 : Nat) W, Ob.vec true (2 : Nat) (D ++ [(Bd.mk w u).cc])]) (show ((↑D.length : Int)) = ((↑D.length : Int) + (1 : Int) - (1 : Int)) by simp)) (g))
  exact .tp [.i (rfl : ((↑D.length : Int)) = _), t1, .mT, t3, t4, .c (rfl : (D.length + (1 : Nat)) = _), t6, t7, t8, t9] (by kernel_rfl)
theorem l6BindN_ev (w u q : Int) (h : D.length = 500) : Ev pr (.call 177 [mA d p e v lF F W D, i64 w, i64 u, i64 q] (mM F W D)) (.val (.tup [mA d p e v lF F W D, bl false]) (mM F W D)) := by
  unfold mA mM at *
  let t1 : Tp pr := .b (show (decide ((↑D.length : Int) = (500 : Int))) = true by (simp; omega))
  exact .tp [.i (rfl : ((↑D.length : Int)) = _), t1] (by kernel_rfl)
variable (L KT BT : List (List T))
def cT (L KT BT : List (List T)) : V := .t (.ptr [.seq 2 L, .seq 1 KT, .seq 1 BT] 0)
theorem doNumY (k : Int) (hc : lkp L p = some [.int .i64 2, .int .i64 k]) (h0 : 0 ≤ p) (hL : p < L.length) (h : W.length < 500) : Ev pr (.call 129 [cT L KT BT, mA d p e v lF F W D] (mM F W D)) (.val (.tup [mA true (-1) (-1) W.length lF F (W ++ [Vl.cc ⟨false, k, 0, 0⟩]) D, bl true]) (mM F (W ++ [Vl.cc ⟨false, k, 0, 0⟩]) D)) := by
  have g := l6NewY_ev d p e v lF F W D ⟨false, k, 0, 0⟩ h
  unfold mA mM cT at *
  let t6 : Tp pr := .g .row (show (lkp L p) = some ([T.int IntKind.i64 (2 : Int), T.int IntKind.i64 k]) from hc)
  exact .tp [.mT, .mT, .mT, .mT, .mT, .mT, t6, .mT, .mT, .mT, .mT, .bT, .a (g)] (by kernel_rfl)
theorem doNumN (k : Int) (hc : lkp L p = some [.int .i64 2, .int .i64 k]) (h0 : 0 ≤ p) (hL : p < L.length) (h : W.length = 500) : Ev pr (.call 129 [cT L KT BT, mA d p e v lF F W D] (mM F W D)) (.val (.tup [mA d p e v lF F W D, bl false]) (mM F W D)) := by
  have g := l6NewN_ev d p e v lF F W D ⟨false, k, 0, 0⟩ h
  unfold mA mM cT at *
  let t6 : Tp pr := .g .row (show (lkp L p) = some ([T.int IntKind.i64 (2 : Int), T.int IntKind.i64 k]) from hc)
  exact .tp [.mT, .mT, .mT, .mT, .mT, .mT, t6, .mT, .mT, .mT, .mT, .bT, .a (g)] (by kernel_rfl)
theorem doLamY (k : Int) (hc : lkp L p = some [.int .i64 3, .int .i64 k]) (h0 : 0 ≤ p) (hL : p < L.length) (h : W.length < 500) : Ev pr (.call 129 [cT L KT BT, mA d p e v lF F W D] (mM F W D)) (.val (.tup [mA true (-1) (-1) W.length lF F (W ++ [Vl.cc ⟨true, 0, p, e⟩]) D, bl true]) (mM F (W ++ [Vl.cc ⟨true, 0, p, e⟩]) D)) := by
  have g := l6NewY_ev d p e v lF F W D ⟨true, 0, p, e⟩ h
  unfold mA mM cT at *
  let t6 : Tp pr := .g .row (show (lkp L p) = some ([T.int IntKind.i64 (3 : Int), T.int IntKind.i64 k]) from hc)
  exact .tp [.mT, .mT, .mT, .mT, .mT, .mT, t6, .mT, .mT, .mT, .mT, .bF, .bT, .a (g)] (by kernel_rfl)
theorem doLamN (k : Int) (hc : lkp L p = some [.int .i64 3, .int .i64 k]) (h0 : 0 ≤ p) (hL : p < L.length) (h : W.length = 500) : Ev pr (.call 129 [cT L KT BT, mA d p e v lF F W D] (mM F W D)) (.val (.tup [mA d p e v lF F W D, bl false]) (mM F W D)) := by
  have g := l6NewN_ev d p e v lF F W D ⟨true, 0, p, e⟩ h
  unfold mA mM cT at *
  let t6 : Tp pr := .g .row (show (lkp L p) = some ([T.int IntKind.i64 (3 : Int), T.int IntKind.i64 k]) from hc)
  exact .tp [.mT, .mT, .mT, .mT, .mT, .mT, t6, .mT, .mT, .mT, .mT, .bF, .bT, .a (g)] (by kernel_rfl)
theorem doOtherN (k : Int) (hk : k ≠ 1 ∧ k ≠ 2 ∧ k ≠ 3) (hc : lkp L p = some [.int .i64 k, .int .i64 0]) (h0 : 0 ≤ p) (hL : p < L.length) (h : lF = 500) (hF : F.length = 500) : Ev pr (.call 129 [cT L KT BT, mA d p e v lF F W D] (mM F W D)) (.val (.tup [mA d p e v lF F W D, bl false]) (mM F W D)) := by
  obtain ⟨hk1, hk2, hk3⟩ := hk
  unfold mA mM cT at *
  let t6 : Tp pr := .g .row (show (lkp L p) = some ([T.int IntKind.i64 k, T.int IntKind.i64 (0 : Int)]) from hc)
  let t11 : Tp pr := .b (show (decide (k = (2 : Int))) = false by (simp; omega))
  let t12 : Tp pr := .b (show (decide (k = (3 : Int))) = false by (simp; omega))
  let t13 : Tp pr := .b (show (decide (k = (1 : Int))) = false by (simp; omega))
  let t15 : Tp pr := .b (show (decide ((↑lF : Int) = (500 : Int))) = true by (simp; omega))
  exact .tp [.mT, .mT, .mT, .mT, .mT, .mT, t6, .mT, .mT, .mT, .mT, t11, t12, t13, .i (rfl : ((↑lF : Int)) = _), t15] (by kernel_rfl)
theorem doOtherY (k : Int) (hk : k ≠ 1 ∧ k ≠ 2 ∧ k ≠ 3) (hc : lkp L p = some [.int .i64 k, .int .i64 0]) (h0 : 0 ≤ p) (hL : p < L.length) (hL2 : L.length ≤ 600) (h : F.length < 500) (ks : List (List T)) (hk4 : lkp KT p = some [.seq 1 ks]) (hK : p < KT.length) (k0 : Int) (hk0 : lkp ks 0 = some [.int .i64 k0]) (hks : 0 < ks.length) :
    Ev pr (.call 129 [cT L KT BT, mA d p e v F.length F W D] (mM F W D)) (.val (.tup [mA false k0 e (-1) (F.length + 1) (F ++ [Frm.cc ⟨k, p, e, -1⟩]) W D, bl true]) (mM (F ++ [Frm.cc ⟨k, p, e, -1⟩]) W D)) := by
  have g2 := l6Next_ev d p e v (F.length + 1) (F ++ [Frm.cc ⟨k, p, e, -1⟩]) W D k0 e
  obtain ⟨hk1, hk2, hk3⟩ := hk
  unfold mA mM cT at *
  simp only [List.length_append, List.length_singleton] at g2 ⊢
  let t6 : Tp pr := .g .row (show (lkp L p) = some ([T.int IntKind.i64 k, T.int IntKind.i64 (0 : Int)]) from hc)
  let t11 : Tp pr := .b (show (decide (k = (2 : Int))) = false by (simp; omega))
  let t12 : Tp pr := .b (show (decide (k = (3 : Int))) = false by (simp; omega))
  let t13 : Tp pr := .b (show (decide (k = (1 : Int))) = false by (simp; omega))
  let t15 : Tp pr := .b (show (decide ((↑F.length : Int) = (500 : Int))) = false by (simp; omega))
  let t17 : Tp pr := .m (show (decide (F.length = F.length ∧ (0 : Nat) + F.length ≤ F.length ∧ F.length + (1 : Nat) ≤ (4294967296 : Nat))) = true by (simp; omega))
  let t18 : Tp pr := .b (show (decide (F.length + (1 : Nat) ≤ F.length)) = false by simp)
  let t20 : Tp pr := .n .crows (show ((List.take F.length F).append (List.take (1 : Nat) (List.drop (0 : Nat) [[C.t (T.int IntKind.i64 k), C.t (T.int IntKind.i64 p), C.t (T.int IntKind.i64 e), C.t (T.int IntKind.i64 (-1 : Int))]]))) = F ++ [[C.t (T.int IntKind.i64 k), C.t (T.int IntKind.i64 p), C.t (T.int IntKind.i64 e), C.t (T.int IntKind.i64 (-1 : Int))]] by simp)
  let t28 : Tp pr := .g .row (show (lkp KT p) = some ([T.seq (1 : Nat) ks]) from hk4)
  let t31 : Tp pr := .g .row (show (lkp ks (0 : Int)) = some ([T.int IntKind.i64 k0]) from hk0)
  exact .tp [.mT, .mT, .mT, .mT, .mT, .mT, t6, .mT, .mT, .mT, .mT, t11, t12, t13, .i (rfl : ((↑F.length : Int)) = _), t15, .mT, t17, t18, .c (rfl : (F.length + (1 : Nat)) = _), t20, .mT, .mT, .mT, .mT, .mT, .mT, .mT, t28, .mT, .mT, t31, .mT, .mT, .mT, .mT, .a (g2), .mT, .mT, .mT] (by kernel_rfl)
def dvS (r : Nat) (env : Int) (o : Out) : Prop :=
  Ev pr (.loop (lq pr 129 0) (at_ [(3, .ptr 3 1 0 0), (4, .ptr 4 1 0 0), (7, i64 env), (8, i64 r)] [.vec true 4 F, .vec true 4 W, .vec true 2 D, .box [bl d, i64 p, i64 e, i64 v, .vec 0 F.length 4 0 lF, .vec 1 W.length 4 0 W.length, .vec 2 D.length 2 0 D.length], .box [bl false, i64 0, i64 0, i64 0, .t .nils, .t .nils, .t .nils]] 3)) o
def dvO (env : Int) : Out := .exit 1 (at_ [(3, .ptr 3 1 0 0), (4, .ptr 4 1 0 0), (7, i64 env)] [.vec true 4 F, .vec true 4 W, .vec true 2 D, .box [bl d, i64 p, i64 e, i64 v, .vec 0 F.length 4 0 lF, .vec 1 W.length 4 0 W.length, .vec 2 D.length 2 0 D.length], .box [bl false, i64 0, i64 0, i64 0, .t .nils, .t .nils, .t .nils]] 3)
theorem dv_end (env : Int) : dvS d p e v lF F W D 0 env (dvO d p e v lF F W D env) := by
  unfold dvS dvO
  exact .tp [.bF] (by kernel_rfl)
theorem dv_step (r : Nat) (hr : r ≤ 1000) (env : Int) (h0 : 0 ≤ env) (h1 : env < D.length) (x u : Int) (hg : D[env.toNat]? = some (Bd.cc ⟨x, u⟩)) (env2 : Int) (g : dvS d p e v lF F W D r u (dvO d p e v lF F W D env2)) : dvS d p e v lF F W D (r + 1) env (dvO d p e v lF F W D env2) := by
  unfold dvS dvO at *
  let t0 : Tp pr := .b (show (decide ((↑(r + (1 : Nat)) : Int) > (0 : Int))) = true by simp)
  let t1 : Tp pr := .m (show (decide ((0 : Int) ≤ env ∧ env.toNat < D.length)) = true by simp [*])
  let t2 : Tp pr := .c (show ((0 : Nat) + env.toNat : Nat) = env.toNat by omega)
  let t3 : Tp pr := .m (show (decide (D.length = D.length)) = true by simp)
  let t4 : Tp pr := .g .crow (show (D[env.toNat]?) = some ((Bd.mk x u).cc) from hg)
  let t5 : Tp pr := .i (wrap_i64 (a := (↑(r + (1 : Nat)) : Int) - (1 : Int)) (by omega) (by omega))
  let t6 : Tp pr := .a (Ev.castq (congrArg (fun x => Q.loop (lq pr (129 : FuncId) (0 : Nat)) (at_ [((3 : Nat), V.ptr (3 : Nat) (1 : Nat) (0 : Nat) (0 : Nat)), ((4 : Nat), V.ptr (4 : Nat) (1 : Nat) (0 : Nat) (0 : Nat)), ((7 : Nat), i64 u), ((8 : Nat), i64 x)] [Ob.vec true (4 : Nat) F, Ob.vec true (4 : Nat) W, Ob.vec true (2 : Nat) D, Ob.box [bl d, i64 p, i64 e, i64 v, V.vec (0 : Nat) F.length (4 : Nat) (0 : Nat) lF, V.vec (1 : Nat) W.length (4 : Nat) (0 : Nat) W.length, V.vec (2 : Nat) D.length (2 : Nat) (0 : Nat) D.length], Ob.box [bl false, i64 (0 : Int), i64 (0 : Int), i64 (0 : Int), V.t T.nils, V.t T.nils, V.t T.nils]] (3 : Nat))) (show ((↑r : Int)) = ((↑(r + (1 : Nat)) : Int) - (1 : Int)) by simp)) (g))
  exact .tp [t0, t1, t2, t3, t4, t5, t6] (by kernel_rfl)
theorem dv_all (bs : List Bd) : ∀ (r : Nat) (env : Int) (c : Nat), r ≤ 1000 → BChain bs env (r + c) → dvS d p e v lF F W (bs.map Bd.cc) r env (dvO d p e v lF F W (bs.map Bd.cc) (upN bs r env))
  | 0, env, c, hr, hc => dv_end d p e v lF F W _ env
  | r + 1, env, c, hr, hc => by
    have hc' : BChain bs env (r + c + 1) := by rw [show r + c + 1 = r + 1 + c by omega]; exact hc
    obtain ⟨h0, b, hb, hup⟩ := hc'.up
    have hbd := hc'.bd
    have ih := dv_all bs r b.up c (by omega) hup
    have e1 : upN bs (r + 1) env = upN bs r b.up := by simp [upN, List.getD_eq_getElem?_getD, hb]
    rw [e1]
    exact dv_step d p e v lF F W _ r (by omega) env h0 (by simpa using hbd.2) b.val b.up (by simp [hb]) _ ih
theorem doVar (k : Nat) (env x u : Int) (hc : lkp L p = some [.int .i64 1, .int .i64 k]) (h0 : 0 ≤ p) (hL : p < L.length) (he : 0 ≤ env) (h1 : env < D.length) (hg : D[env.toNat]? = some (Bd.cc ⟨x, u⟩)) (gl : dvS d p e v lF F W D k e (dvO d p e v lF F W D env)) :
    Ev pr (.call 129 [cT L KT BT, mA d p e v lF F W D] (mM F W D)) (.val (.tup [mA true (-1) (-1) x lF F W D, bl true]) (mM F W D)) := by
  have g := l6Come_ev d p e v lF F W D x
  unfold mA mM cT dvS dvO at *
  let t6 : Tp pr := .g .row (show (lkp L p) = some ([T.int IntKind.i64 (1 : Int), T.int IntKind.i64 (↑k : Int)]) from hc)
  let t19 : Tp pr := .m (show (decide ((0 : Int) ≤ env ∧ env.toNat < D.length)) = true by simp [*])
  let t20 : Tp pr := .c (show ((0 : Nat) + env.toNat : Nat) = env.toNat by omega)
  let t23 : Tp pr := .m (show (decide (D.length = D.length)) = true by simp)
  let t24 : Tp pr := .g .crow (show (D[env.toNat]?) = some ((Bd.mk x u).cc) from hg)
  exact .tp [.mT, .mT, .mT, .mT, .mT, .mT, t6, .mT, .mT, .mT, .mT, .bF, .bF, .bT, .a (gl), .mT, .mT, .mT, .mT, t19, t20, .mT, .mT, t23, t24, .mT, .a (g), .mT, .mT, .mT] (by kernel_rfl)
end
end Go.Ev

namespace Go.Ev
set_option linter.unusedVariables false
set_option linter.unusedSimpArgs false
open Go.Proofs
set_option maxRecDepth 100000
set_option maxHeartbeats 4000000
section
variable (d : Bool) (p e v : Int) (P W D : List (List C)) (L KT BT : List (List T)) (a r : Int) (b : Bool) (x q u : Int) (ks : List (List T)) (k1 : Int)
theorem gLetY (h0 : 0 ≤ a) (ha : a < KT.length) (hk : lkp KT a = some [.seq 1 ks]) (hks : 1 < ks.length) (hk1 : lkp ks 1 = some [.int .i64 k1]) (hv : 0 ≤ v) (hv2 : v < W.length) (hvg : W[v.toNat]? = some (Vl.cc ⟨b, x, q, u⟩)) (hW : W.length ≤ 500) (hD : D.length ≤ 500) (hF : (P ++ [Frm.cc ⟨7, a, r, (-1)⟩]).length ≤ 500) (h : D.length < 500) : Ev pr (.call 130 [cT L KT BT, mA d p e v (P.length + 1) (P ++ [Frm.cc ⟨7, a, r, (-1)⟩]) W D] (mM (P ++ [Frm.cc ⟨7, a, r, (-1)⟩]) W D)) (.val (.tup [mA false k1 D.length (-1) P.length (P ++ [Frm.cc ⟨7, a, r, -1⟩]) W (D ++ [Bd.cc ⟨v, r⟩]), bl true, bl true]) (mM (P ++ [Frm.cc ⟨7, a, r, -1⟩]) W (D ++ [Bd.cc ⟨v, r⟩]))) := by
  have g := l6BindY_ev d p e v P.length (P ++ [Frm.cc ⟨7, a, r, -1⟩]) W D v r k1 h
  have e1 : (P ++ [Frm.cc ⟨7, a, r, (-1)⟩])[P.length]? = some (Frm.cc ⟨7, a, r, (-1)⟩) := by simp
  have e2 : (P ++ [Frm.cc ⟨7, a, r, (-1)⟩]).length = P.length + 1 := by simp
  unfold mA mM cT at *
  generalize hFF : (P ++ [Frm.cc ⟨7, a, r, (-1)⟩]) = F at *
  let t0 : Tp pr := .i (show ((↑(P.length + (1 : Nat)) : Int) : Int) = (↑P.length : Int) + (1 : Int) by omega)
  let t1 : Tp pr := .i (wrap_i64 (a := (↑P.length : Int) + (1 : Int) - (1 : Int)) (by omega) (by omega))
  let t2 : Tp pr := .m (show (decide ((0 : Int) ≤ (↑P.length : Int) + (1 : Int) - (1 : Int) ∧ ((↑P.length : Int) + (1 : Int) - (1 : Int)).toNat < P.length + (1 : Nat))) = true by simp)
  let t3 : Tp pr := .c (show ((0 : Nat) + ((↑P.length : Int) + (1 : Int) - (1 : Int)).toNat : Nat) = P.length by omega)
  let t4 : Tp pr := .m (show (decide (F.length = F.length)) = true by simp)
  let t5 : Tp pr := .g .crow (show (F[P.length]?) = some ((Frm.mk (7 : Int) a r (-1 : Int)).cc) from e1)
  let t18 : Tp pr := .g .row (show (lkp KT a) = some ([T.seq (1 : Nat) ks]) from hk)
  let t25 : Tp pr := .m (show (decide ((0 : Int) ≤ (0 : Int) ∧ (0 : Int) ≤ (↑P.length : Int) + (1 : Int) - (1 : Int) ∧ (0 : Nat) + ((↑P.length : Int) + (1 : Int) - (1 : Int)).toNat ≤ F.length)) = true by simp [*])
  let t27 : Tp pr := .c (show (((↑P.length : Int) + (1 : Int) - (1 : Int)).toNat - (0 : Nat) : Nat) = P.length by omega)
  let t35 : Tp pr := .g .row (show (lkp ks (1 : Int)) = some ([T.int IntKind.i64 k1]) from hk1)
  exact .tp [t0, t1, t2, t3, t4, t5, t4, t5, t4, t5, t4, t5, .mT, .mT, .mT, .mT, .mT, .mT, t18, .mT, .mT, .mT, .bT, .bF, .bF, t25, .c (rfl : ((0 : Nat)) = _), t27, .bF, .bT, .mT, .mT, .mT, .mT, .mT, t35, .mT, .mT, .a (g), .mT, .mT, .mT, .mT, .mT, .mT, .mT] (by kernel_rfl)
theorem gLetN (h0 : 0 ≤ a) (ha : a < KT.length) (hk : lkp KT a = some [.seq 1 ks]) (hks : 1 < ks.length) (hk1 : lkp ks 1 = some [.int .i64 k1]) (hv : 0 ≤ v) (hv2 : v < W.length) (hvg : W[v.toNat]? = some (Vl.cc ⟨b, x, q, u⟩)) (hW : W.length ≤ 500) (hD : D.length ≤ 500) (hF : (P ++ [Frm.cc ⟨7, a, r, (-1)⟩]).length ≤ 500) (h : D.length = 500) : Ev pr (.call 130 [cT L KT BT, mA d p e v (P.length + 1) (P ++ [Frm.cc ⟨7, a, r, (-1)⟩]) W D] (mM (P ++ [Frm.cc ⟨7, a, r, (-1)⟩]) W D)) (.val (.tup [mA d p e v P.length (P ++ [Frm.cc ⟨7, a, r, -1⟩]) W D, bl true, bl false]) (mM (P ++ [Frm.cc ⟨7, a, r, -1⟩]) W D)) := by
  have g := l6BindN_ev d p e v P.length (P ++ [Frm.cc ⟨7, a, r, -1⟩]) W D v r k1 h
  have e1 : (P ++ [Frm.cc ⟨7, a, r, (-1)⟩])[P.length]? = some (Frm.cc ⟨7, a, r, (-1)⟩) := by simp
  have e2 : (P ++ [Frm.cc ⟨7, a, r, (-1)⟩]).length = P.length + 1 := by simp
  unfold mA mM cT at *
  generalize hFF : (P ++ [Frm.cc ⟨7, a, r, (-1)⟩]) = F at *
  let t0 : Tp pr := .i (show ((↑(P.length + (1 : Nat)) : Int) : Int) = (↑P.length : Int) + (1 : Int) by omega)
  let t1 : Tp pr := .i (wrap_i64 (a := (↑P.length : Int) + (1 : Int) - (1 : Int)) (by omega) (by omega))
  let t2 : Tp pr := .m (show (decide ((0 : Int) ≤ (↑P.length : Int) + (1 : Int) - (1 : Int) ∧ ((↑P.length : Int) + (1 : Int) - (1 : Int)).toNat < P.length + (1 : Nat))) = true by simp)
  let t3 : Tp pr := .c (show ((0 : Nat) + ((↑P.length : Int) + (1 : Int) - (1 : Int)).toNat : Nat) = P.length by omega)
  let t4 : Tp pr := .m (show (decide (F.length = F.length)) = true by simp)
  let t5 : Tp pr := .g .crow (show (F[P.length]?) = some ((Frm.mk (7 : Int) a r (-1 : Int)).cc) from e1)
  let t18 : Tp pr := .g .row (show (lkp KT a) = some ([T.seq (1 : Nat) ks]) from hk)
  let t25 : Tp pr := .m (show (decide ((0 : Int) ≤ (0 : Int) ∧ (0 : Int) ≤ (↑P.length : Int) + (1 : Int) - (1 : Int) ∧ (0 : Nat) + ((↑P.length : Int) + (1 : Int) - (1 : Int)).toNat ≤ F.length)) = true by simp [*])
  let t27 : Tp pr := .c (show (((↑P.length : Int) + (1 : Int) - (1 : Int)).toNat - (0 : Nat) : Nat) = P.length by omega)
  let t35 : Tp pr := .g .row (show (lkp ks (1 : Int)) = some ([T.int IntKind.i64 k1]) from hk1)
  exact .tp [t0, t1, t2, t3, t4, t5, t4, t5, t4, t5, t4, t5, .mT, .mT, .mT, .mT, .mT, .mT, t18, .mT, .mT, .mT, .bT, .bF, .bF, t25, .c (rfl : ((0 : Nat)) = _), t27, .bF, .bT, .mT, .mT, .mT, .mT, .mT, t35, .mT, .mT, .a (g), .mT, .mT, .mT, .mT, .mT, .mT, .mT] (by kernel_rfl)
theorem gIfF (h0 : 0 ≤ a) (ha : a < KT.length) (hk : lkp KT a = some [.seq 1 ks]) (hks : 1 < ks.length) (hk1 : lkp ks 1 = some [.int .i64 k1]) (hv : 0 ≤ v) (hv2 : v < W.length) (hvg : W[v.toNat]? = some (Vl.cc ⟨true, x, q, u⟩)) (hW : W.length ≤ 500) (hD : D.length ≤ 500) (hF : (P ++ [Frm.cc ⟨6, a, r, (-1)⟩]).length ≤ 500)  : Ev pr (.call 130 [cT L KT BT, mA d p e v (P.length + 1) (P ++ [Frm.cc ⟨6, a, r, (-1)⟩]) W D] (mM (P ++ [Frm.cc ⟨6, a, r, (-1)⟩]) W D)) (.val (.tup [mA d p e v P.length (P ++ [Frm.cc ⟨6, a, r, -1⟩]) W D, bl false, bl true]) (mM (P ++ [Frm.cc ⟨6, a, r, -1⟩]) W D)) := by
  have e1 : (P ++ [Frm.cc ⟨6, a, r, (-1)⟩])[P.length]? = some (Frm.cc ⟨6, a, r, (-1)⟩) := by simp
  have e2 : (P ++ [Frm.cc ⟨6, a, r, (-1)⟩]).length = P.length + 1 := by simp
  unfold mA mM cT at *
  generalize hFF : (P ++ [Frm.cc ⟨6, a, r, (-1)⟩]) = F at *
  let t0 : Tp pr := .i (show ((↑(P.length + (1 : Nat)) : Int) : Int) = (↑P.length : Int) + (1 : Int) by omega)
  let t1 : Tp pr := .i (wrap_i64 (a := (↑P.length : Int) + (1 : Int) - (1 : Int)) (by omega) (by omega))
  let t2 : Tp pr := .m (show (decide ((0 : Int) ≤ (↑P.length : Int) + (1 : Int) - (1 : Int) ∧ ((↑P.length : Int) + (1 : Int) - (1 : Int)).toNat < P.length + (1 : Nat))) = true by simp)
  let t3 : Tp pr := .c (show ((0 : Nat) + ((↑P.length : Int) + (1 : Int) - (1 : Int)).toNat : Nat) = P.length by omega)
  let t4 : Tp pr := .m (show (decide (F.length = F.length)) = true by simp)
  let t5 : Tp pr := .g .crow (show (F[P.length]?) = some ((Frm.mk (6 : Int) a r (-1 : Int)).cc) from e1)
  let t18 : Tp pr := .g .row (show (lkp KT a) = some ([T.seq (1 : Nat) ks]) from hk)
  let t25 : Tp pr := .m (show (decide ((0 : Int) ≤ (0 : Int) ∧ (0 : Int) ≤ (↑P.length : Int) + (1 : Int) - (1 : Int) ∧ (0 : Nat) + ((↑P.length : Int) + (1 : Int) - (1 : Int)).toNat ≤ F.length)) = true by simp [*])
  let t27 : Tp pr := .c (show (((↑P.length : Int) + (1 : Int) - (1 : Int)).toNat - (0 : Nat) : Nat) = P.length by omega)
  let t29 : Tp pr := .m (show (decide ((0 : Int) ≤ v ∧ v.toNat < W.length)) = true by simp [*])
  let t30 : Tp pr := .c (show ((0 : Nat) + v.toNat : Nat) = v.toNat by omega)
  let t31 : Tp pr := .m (show (decide (W.length = W.length)) = true by simp)
  let t32 : Tp pr := .g .crow (show (W[v.toNat]?) = some ((Vl.mk true x q u).cc) from hvg)
  exact .tp [t0, t1, t2, t3, t4, t5, t4, t5, t4, t5, t4, t5, .mT, .mT, .mT, .mT, .mT, .mT, t18, .mT, .mT, .mT, .bT, .bF, .bF, t25, .c (rfl : ((0 : Nat)) = _), t27, .bT, t29, t30, t31, t32, .bT] (by kernel_rfl)
theorem gIf0 (h0 : 0 ≤ a) (ha : a < KT.length) (hk : lkp KT a = some [.seq 1 ks]) (hks : 1 < ks.length) (hk1 : lkp ks 1 = some [.int .i64 k1]) (hv : 0 ≤ v) (hv2 : v < W.length) (hvg : W[v.toNat]? = some (Vl.cc ⟨false, x, q, u⟩)) (hW : W.length ≤ 500) (hD : D.length ≤ 500) (hF : (P ++ [Frm.cc ⟨6, a, r, (-1)⟩]).length ≤ 500) (hx : x = 0) : Ev pr (.call 130 [cT L KT BT, mA d p e v (P.length + 1) (P ++ [Frm.cc ⟨6, a, r, (-1)⟩]) W D] (mM (P ++ [Frm.cc ⟨6, a, r, (-1)⟩]) W D)) (.val (.tup [mA false k1 r (-1) P.length (P ++ [Frm.cc ⟨6, a, r, -1⟩]) W D, bl true, bl true]) (mM (P ++ [Frm.cc ⟨6, a, r, -1⟩]) W D)) := by
  have g := l6Next_ev d p e v P.length (P ++ [Frm.cc ⟨6, a, r, -1⟩]) W D k1 r
  have e1 : (P ++ [Frm.cc ⟨6, a, r, (-1)⟩])[P.length]? = some (Frm.cc ⟨6, a, r, (-1)⟩) := by simp
  have e2 : (P ++ [Frm.cc ⟨6, a, r, (-1)⟩]).length = P.length + 1 := by simp
  unfold mA mM cT at *
  generalize hFF : (P ++ [Frm.cc ⟨6, a, r, (-1)⟩]) = F at *
  let t0 : Tp pr := .i (show ((↑(P.length + (1 : Nat)) : Int) : Int) = (↑P.length : Int) + (1 : Int) by omega)
  let t1 : Tp pr := .i (wrap_i64 (a := (↑P.length : Int) + (1 : Int) - (1 : Int)) (by omega) (by omega))
  let t2 : Tp pr := .m (show (decide ((0 : Int) ≤ (↑P.length : Int) + (1 : Int) - (1 : Int) ∧ ((↑P.length : Int) + (1 : Int) - (1 : Int)).toNat < P.length + (1 : Nat))) = true by simp)
  let t3 : Tp pr := .c (show ((0 : Nat) + ((↑P.length : Int) + (1 : Int) - (1 : Int)).toNat : Nat) = P.length by omega)
  let t4 : Tp pr := .m (show (decide (F.length = F.length)) = true by simp)
  let t5 : Tp pr := .g .crow (show (F[P.length]?) = some ((Frm.mk (6 : Int) a r (-1 : Int)).cc) from e1)
  let t18 : Tp pr := .g .row (show (lkp KT a) = some ([T.seq (1 : Nat) ks]) from hk)
  let t25 : Tp pr := .m (show (decide ((0 : Int) ≤ (0 : Int) ∧ (0 : Int) ≤ (↑P.length : Int) + (1 : Int) - (1 : Int) ∧ (0 : Nat) + ((↑P.length : Int) + (1 : Int) - (1 : Int)).toNat ≤ F.length)) = true by simp [*])
  let t27 : Tp pr := .c (show (((↑P.length : Int) + (1 : Int) - (1 : Int)).toNat - (0 : Nat) : Nat) = P.length by omega)
  let t29 : Tp pr := .m (show (decide ((0 : Int) ≤ v ∧ v.toNat < W.length)) = true by simp [*])
  let t30 : Tp pr := .c (show ((0 : Nat) + v.toNat : Nat) = v.toNat by omega)
  let t31 : Tp pr := .m (show (decide (W.length = W.length)) = true by simp)
  let t32 : Tp pr := .g .crow (show (W[v.toNat]?) = some ((Vl.mk false x q u).cc) from hvg)
  let t38 : Tp pr := .b (show (decide (x = (0 : Int))) = true by (simp; omega))
  let t41 : Tp pr := .g .row (show (lkp ks (1 : Int)) = some ([T.int IntKind.i64 k1]) from hk1)
  exact .tp [t0, t1, t2, t3, t4, t5, t4, t5, t4, t5, t4, t5, .mT, .mT, .mT, .mT, .mT, .mT, t18, .mT, .mT, .mT, .bT, .bF, .bF, t25, .c (rfl : ((0 : Nat)) = _), t27, .bT, t29, t30, t31, t32, .bF, t29, t30, t31, t32, t38, .mT, .mT, t41, .mT, .mT, .mT, .mT, .a (g), .mT, .mT, .mT, .mT] (by kernel_rfl)
theorem gIf1 (h0 : 0 ≤ a) (ha : a < KT.length) (hk : lkp KT a = some [.seq 1 ks]) (hks : 1 < ks.length) (hk1 : lkp ks 1 = some [.int .i64 k1]) (hv : 0 ≤ v) (hv2 : v < W.length) (hvg : W[v.toNat]? = some (Vl.cc ⟨false, x, q, u⟩)) (hW : W.length ≤ 500) (hD : D.length ≤ 500) (hF : (P ++ [Frm.cc ⟨6, a, r, (-1)⟩]).length ≤ 500) (hx : ¬ x = 0) (k2 : Int) (hks2 : 2 < ks.length) (hk2 : lkp ks 2 = some [.int .i64 k2]) : Ev pr (.call 130 [cT L KT BT, mA d p e v (P.length + 1) (P ++ [Frm.cc ⟨6, a, r, (-1)⟩]) W D] (mM (P ++ [Frm.cc ⟨6, a, r, (-1)⟩]) W D)) (.val (.tup [mA false k2 r (-1) P.length (P ++ [Frm.cc ⟨6, a, r, -1⟩]) W D, bl true, bl true]) (mM (P ++ [Frm.cc ⟨6, a, r, -1⟩]) W D)) := by
  have g := l6Next_ev d p e v P.length (P ++ [Frm.cc ⟨6, a, r, -1⟩]) W D k2 r
  have e1 : (P ++ [Frm.cc ⟨6, a, r, (-1)⟩])[P.length]? = some (Frm.cc ⟨6, a, r, (-1)⟩) := by simp
  have e2 : (P ++ [Frm.cc ⟨6, a, r, (-1)⟩]).length = P.length + 1 := by simp
  unfold mA mM cT at *
  generalize hFF : (P ++ [Frm.cc ⟨6, a, r, (-1)⟩]) = F at *
  let t0 : Tp pr := .i (show ((↑(P.length + (1 : Nat)) : Int) : Int) = (↑P.length : Int) + (1 : Int) by omega)
  let t1 : Tp pr := .i (wrap_i64 (a := (↑P.length : Int) + (1 : Int) - (1 : Int)) (by omega) (by omega))
  let t2 : Tp pr := .m (show (decide ((0 : Int) ≤ (↑P.length : Int) + (1 : Int) - (1 : Int) ∧ ((↑P.length : Int) + (1 : Int) - (1 : Int)).toNat < P.length + (1 : Nat))) = true by simp)
  let t3 : Tp pr := .c (show ((0 : Nat) + ((↑P.length : Int) + (1 : Int) - (1 : Int)).toNat : Nat) = P.length by omega)
  let t4 : Tp pr := .m (show (decide (F.length = F.length)) = true by simp)
  let t5 : Tp pr := .g .crow (show (F[P.length]?) = some ((Frm.mk (6 : Int) a r (-1 : Int)).cc) from e1)
  let t18 : Tp pr := .g .row (show (lkp KT a) = some ([T.seq (1 : Nat) ks]) from hk)
  let t25 : Tp pr := .m (show (decide ((0 : Int) ≤ (0 : Int) ∧ (0 : Int) ≤ (↑P.length : Int) + (1 : Int) - (1 : Int) ∧ (0 : Nat) + ((↑P.length : Int) + (1 : Int) - (1 : Int)).toNat ≤ F.length)) = true by simp [*])
  let t27 : Tp pr := .c (show (((↑P.length : Int) + (1 : Int) - (1 : Int)).toNat - (0 : Nat) : Nat) = P.length by omega)
  let t29 : Tp pr := .m (show (decide ((0 : Int) ≤ v ∧ v.toNat < W.length)) = true by simp [*])
  let t30 : Tp pr := .c (show ((0 : Nat) + v.toNat : Nat) = v.toNat by omega)
  let t31 : Tp pr := .m (show (decide (W.length = W.length)) = true by simp)
  let t32 : Tp pr := .g .crow (show (W[v.toNat]?) = some ((Vl.mk false x q u).cc) from hvg)
  let t38 : Tp pr := .b (show (decide (x = (0 : Int))) = false by (simp; omega))
  let t41 : Tp pr := .g .row (show (lkp ks (2 : Int)) = some ([T.int IntKind.i64 k2]) from hk2)
  exact .tp [t0, t1, t2, t3, t4, t5, t4, t5, t4, t5, t4, t5, .mT, .mT, .mT, .mT, .mT, .mT, t18, .mT, .mT, .mT, .bT, .bF, .bF, t25, .c (rfl : ((0 : Nat)) = _), t27, .bT, t29, t30, t31, t32, .bF, t29, t30, t31, t32, t38, .mT, .mT, t41, .mT, .mT, .mT, .mT, .a (g), .mT, .mT, .mT, .mT] (by kernel_rfl)
theorem gApp0 (h0 : 0 ≤ a) (ha : a < KT.length) (hk : lkp KT a = some [.seq 1 ks]) (hks : 1 < ks.length) (hk1 : lkp ks 1 = some [.int .i64 k1]) (hv : 0 ≤ v) (hv2 : v < W.length) (hvg : W[v.toNat]? = some (Vl.cc ⟨b, x, q, u⟩)) (hW : W.length ≤ 500) (hD : D.length ≤ 500) (hF : (P ++ [Frm.cc ⟨4, a, r, (-1)⟩]).length ≤ 500)  : Ev pr (.call 130 [cT L KT BT, mA d p e v (P.length + 1) (P ++ [Frm.cc ⟨4, a, r, (-1)⟩]) W D] (mM (P ++ [Frm.cc ⟨4, a, r, (-1)⟩]) W D)) (.val (.tup [mA false k1 r (-1) (P.length + 1) (P ++ [Frm.cc ⟨4, a, r, v⟩]) W D, bl true, bl true]) (mM (P ++ [Frm.cc ⟨4, a, r, v⟩]) W D)) := by
  have g2 := l6Next_ev d p e v (P.length + 1) (P ++ [Frm.cc ⟨4, a, r, v⟩]) W D k1 r
  have e3 : (P ++ [Frm.cc ⟨4, a, r, -1⟩]).set P.length (Frm.cc ⟨4, a, r, v⟩) = (P ++ [Frm.cc ⟨4, a, r, v⟩]) := by simp
  rw [← e3] at g2 ⊢
  have e1 : (P ++ [Frm.cc ⟨4, a, r, (-1)⟩])[P.length]? = some (Frm.cc ⟨4, a, r, (-1)⟩) := by simp
  have e2 : (P ++ [Frm.cc ⟨4, a, r, (-1)⟩]).length = P.length + 1 := by simp
  unfold mA mM cT at *
  simp only [List.length_set] at g2 ⊢
  generalize hFF : (P ++ [Frm.cc ⟨4, a, r, (-1)⟩]) = F at *
  let t0 : Tp pr := .i (show ((↑(P.length + (1 : Nat)) : Int) : Int) = (↑P.length : Int) + (1 : Int) by omega)
  let t1 : Tp pr := .i (wrap_i64 (a := (↑P.length : Int) + (1 : Int) - (1 : Int)) (by omega) (by omega))
  let t2 : Tp pr := .m (show (decide ((0 : Int) ≤ (↑P.length : Int) + (1 : Int) - (1 : Int) ∧ ((↑P.length : Int) + (1 : Int) - (1 : Int)).toNat < P.length + (1 : Nat))) = true by simp)
  let t3 : Tp pr := .c (show ((0 : Nat) + ((↑P.length : Int) + (1 : Int) - (1 : Int)).toNat : Nat) = P.length by omega)
  let t4 : Tp pr := .m (show (decide (F.length = F.length)) = true by simp)
  let t5 : Tp pr := .g .crow (show (F[P.length]?) = some ((Frm.mk (4 : Int) a r (-1 : Int)).cc) from e1)
  let t18 : Tp pr := .g .row (show (lkp KT a) = some ([T.seq (1 : Nat) ks]) from hk)
  let t29 : Tp pr := .n .crows (rfl : (F.set P.length [C.t (T.int IntKind.i64 (4 : Int)), C.t (T.int IntKind.i64 a), C.t (T.int IntKind.i64 r), C.t (T.int IntKind.i64 v)]) = _)
  let t32 : Tp pr := .g .row (show (lkp ks (1 : Int)) = some ([T.int IntKind.i64 k1]) from hk1)
  exact .tp [t0, t1, t2, t3, t4, t5, t4, t5, t4, t5, t4, t5, .mT, .mT, .mT, .mT, .mT, .mT, t18, .mT, .mT, .mT, .bT, .bT, .bT, t2, t3, t4, t5, t29, .mT, .mT, t32, .mT, .mT, .mT, .mT, .a (g2), .mT, .mT, .mT, .mT] (by kernel_rfl)
theorem gAdd0 (h0 : 0 ≤ a) (ha : a < KT.length) (hk : lkp KT a = some [.seq 1 ks]) (hks : 1 < ks.length) (hk1 : lkp ks 1 = some [.int .i64 k1]) (hv : 0 ≤ v) (hv2 : v < W.length) (hvg : W[v.toNat]? = some (Vl.cc ⟨b, x, q, u⟩)) (hW : W.length ≤ 500) (hD : D.length ≤ 500) (hF : (P ++ [Frm.cc ⟨5, a, r, (-1)⟩]).length ≤ 500)  : Ev pr (.call 130 [cT L KT BT, mA d p e v (P.length + 1) (P ++ [Frm.cc ⟨5, a, r, (-1)⟩]) W D] (mM (P ++ [Frm.cc ⟨5, a, r, (-1)⟩]) W D)) (.val (.tup [mA false k1 r (-1) (P.length + 1) (P ++ [Frm.cc ⟨5, a, r, v⟩]) W D, bl true, bl true]) (mM (P ++ [Frm.cc ⟨5, a, r, v⟩]) W D)) := by
  have g2 := l6Next_ev d p e v (P.length + 1) (P ++ [Frm.cc ⟨5, a, r, v⟩]) W D k1 r
  have e3 : (P ++ [Frm.cc ⟨5, a, r, -1⟩]).set P.length (Frm.cc ⟨5, a, r, v⟩) = (P ++ [Frm.cc ⟨5, a, r, v⟩]) := by simp
  rw [← e3] at g2 ⊢
  have e1 : (P ++ [Frm.cc ⟨5, a, r, (-1)⟩])[P.length]? = some (Frm.cc ⟨5, a, r, (-1)⟩) := by simp
  have e2 : (P ++ [Frm.cc ⟨5, a, r, (-1)⟩]).length = P.length + 1 := by simp
  unfold mA mM cT at *
  simp only [List.length_set] at g2 ⊢
  generalize hFF : (P ++ [Frm.cc ⟨5, a, r, (-1)⟩]) = F at *
  let t0 : Tp pr := .i (show ((↑(P.length + (1 : Nat)) : Int) : Int) = (↑P.length : Int) + (1 : Int) by omega)
  let t1 : Tp pr := .i (wrap_i64 (a := (↑P.length : Int) + (1 : Int) - (1 : Int)) (by omega) (by omega))
  let t2 : Tp pr := .m (show (decide ((0 : Int) ≤ (↑P.length : Int) + (1 : Int) - (1 : Int) ∧ ((↑P.length : Int) + (1 : Int) - (1 : Int)).toNat < P.length + (1 : Nat))) = true by simp)
  let t3 : Tp pr := .c (show ((0 : Nat) + ((↑P.length : Int) + (1 : Int) - (1 : Int)).toNat : Nat) = P.length by omega)
  let t4 : Tp pr := .m (show (decide (F.length = F.length)) = true by simp)
  let t5 : Tp pr := .g .crow (show (F[P.length]?) = some ((Frm.mk (5 : Int) a r (-1 : Int)).cc) from e1)
  let t18 : Tp pr := .g .row (show (lkp KT a) = some ([T.seq (1 : Nat) ks]) from hk)
  let t29 : Tp pr := .n .crows (rfl : (F.set P.length [C.t (T.int IntKind.i64 (5 : Int)), C.t (T.int IntKind.i64 a), C.t (T.int IntKind.i64 r), C.t (T.int IntKind.i64 v)]) = _)
  let t32 : Tp pr := .g .row (show (lkp ks (1 : Int)) = some ([T.int IntKind.i64 k1]) from hk1)
  exact .tp [t0, t1, t2, t3, t4, t5, t4, t5, t4, t5, t4, t5, .mT, .mT, .mT, .mT, .mT, .mT, t18, .mT, .mT, .mT, .bT, .bF, .bT, t2, t3, t4, t5, t29, .mT, .mT, t32, .mT, .mT, .mT, .mT, .a (g2), .mT, .mT, .mT, .mT] (by kernel_rfl)
theorem gAppS (w : Int) (hw : 0 ≤ w) (hw2 : w < W.length) (x1 q1 u1 : Int) (hwg : W[w.toNat]? = some (Vl.cc ⟨false, x1, q1, u1⟩)) (h0 : 0 ≤ a) (ha : a < KT.length) (hk : lkp KT a = some [.seq 1 ks]) (hks : 1 < ks.length) (hk1 : lkp ks 1 = some [.int .i64 k1]) (hv : 0 ≤ v) (hv2 : v < W.length) (hvg : W[v.toNat]? = some (Vl.cc ⟨b, x, q, u⟩)) (hW : W.length ≤ 500) (hD : D.length ≤ 500) (hF : (P ++ [Frm.cc ⟨4, a, r, w⟩]).length ≤ 500)  : Ev pr (.call 130 [cT L KT BT, mA d p e v (P.length + 1) (P ++ [Frm.cc ⟨4, a, r, w⟩]) W D] (mM (P ++ [Frm.cc ⟨4, a, r, w⟩]) W D)) (.val (.tup [mA d p e v P.length (P ++ [Frm.cc ⟨4, a, r, w⟩]) W D, bl false, bl true]) (mM (P ++ [Frm.cc ⟨4, a, r, w⟩]) W D)) := by
  have e1 : (P ++ [Frm.cc ⟨4, a, r, w⟩])[P.length]? = some (Frm.cc ⟨4, a, r, w⟩) := by simp
  have e2 : (P ++ [Frm.cc ⟨4, a, r, w⟩]).length = P.length + 1 := by simp
  unfold mA mM cT at *
  generalize hFF : (P ++ [Frm.cc ⟨4, a, r, w⟩]) = F at *
  let t0 : Tp pr := .i (show ((↑(P.length + (1 : Nat)) : Int) : Int) = (↑P.length : Int) + (1 : Int) by omega)
  let t1 : Tp pr := .i (wrap_i64 (a := (↑P.length : Int) + (1 : Int) - (1 : Int)) (by omega) (by omega))
  let t2 : Tp pr := .m (show (decide ((0 : Int) ≤ (↑P.length : Int) + (1 : Int) - (1 : Int) ∧ ((↑P.length : Int) + (1 : Int) - (1 : Int)).toNat < P.length + (1 : Nat))) = true by simp)
  let t3 : Tp pr := .c (show ((0 : Nat) + ((↑P.length : Int) + (1 : Int) - (1 : Int)).toNat : Nat) = P.length by omega)
  let t4 : Tp pr := .m (show (decide (F.length = F.length)) = true by simp)
  let t5 : Tp pr := .g .crow (show (F[P.length]?) = some ((Frm.mk (4 : Int) a r w).cc) from e1)
  let t18 : Tp pr := .g .row (show (lkp KT a) = some ([T.seq (1 : Nat) ks]) from hk)
  let t22 : Tp pr := .b (show (decide (w = (-1 : Int))) = false by (simp; omega))
  let t24 : Tp pr := .m (show (decide ((0 : Int) ≤ (0 : Int) ∧ (0 : Int) ≤ (↑P.length : Int) + (1 : Int) - (1 : Int) ∧ (0 : Nat) + ((↑P.length : Int) + (1 : Int) - (1 : Int)).toNat ≤ F.length)) = true by simp [*])
  let t26 : Tp pr := .c (show (((↑P.length : Int) + (1 : Int) - (1 : Int)).toNat - (0 : Nat) : Nat) = P.length by omega)
  let t30 : Tp pr := .m (show (decide ((0 : Int) ≤ w ∧ w.toNat < W.length)) = true by simp [*])
  let t31 : Tp pr := .c (show ((0 : Nat) + w.toNat : Nat) = w.toNat by omega)
  let t32 : Tp pr := .m (show (decide (W.length = W.length)) = true by simp)
  let t33 : Tp pr := .g .crow (show (W[w.toNat]?) = some ((Vl.mk false x1 q1 u1).cc) from hwg)
  exact .tp [t0, t1, t2, t3, t4, t5, t4, t5, t4, t5, t4, t5, .mT, .mT, .mT, .mT, .mT, .mT, t18, .mT, .mT, .mT, t22, .bF, t24, .c (rfl : ((0 : Nat)) = _), t26, .bF, .bF, .bT, t30, t31, t32, t33, t32, t33, t32, t33, t32, t33, .bT] (by kernel_rfl)
theorem gAppY (w : Int) (hw : 0 ≤ w) (hw2 : w < W.length) (x1 q1 u1 : Int) (hwg : W[w.toNat]? = some (Vl.cc ⟨true, x1, q1, u1⟩)) (h0 : 0 ≤ a) (ha : a < KT.length) (hk : lkp KT a = some [.seq 1 ks]) (hks : 1 < ks.length) (hk1 : lkp ks 1 = some [.int .i64 k1]) (hv : 0 ≤ v) (hv2 : v < W.length) (hvg : W[v.toNat]? = some (Vl.cc ⟨b, x, q, u⟩)) (hW : W.length ≤ 500) (hD : D.length ≤ 500) (hF : (P ++ [Frm.cc ⟨4, a, r, w⟩]).length ≤ 500) (hq0 : 0 ≤ q1) (hq2 : q1 < KT.length) (ks1 : List (List T)) (hk3 : lkp KT q1 = some [.seq 1 ks1]) (hks3 : 0 < ks1.length) (k0 : Int) (hk4 : lkp ks1 0 = some [.int .i64 k0]) (h : D.length < 500) : Ev pr (.call 130 [cT L KT BT, mA d p e v (P.length + 1) (P ++ [Frm.cc ⟨4, a, r, w⟩]) W D] (mM (P ++ [Frm.cc ⟨4, a, r, w⟩]) W D)) (.val (.tup [mA false k0 D.length (-1) P.length (P ++ [Frm.cc ⟨4, a, r, w⟩]) W (D ++ [Bd.cc ⟨v, u1⟩]), bl true, bl true]) (mM (P ++ [Frm.cc ⟨4, a, r, w⟩]) W (D ++ [Bd.cc ⟨v, u1⟩]))) := by
  have g := l6BindY_ev d p e v P.length (P ++ [Frm.cc ⟨4, a, r, w⟩]) W D v u1 k0 h
  have e1 : (P ++ [Frm.cc ⟨4, a, r, w⟩])[P.length]? = some (Frm.cc ⟨4, a, r, w⟩) := by simp
  have e2 : (P ++ [Frm.cc ⟨4, a, r, w⟩]).length = P.length + 1 := by simp
  unfold mA mM cT at *
  generalize hFF : (P ++ [Frm.cc ⟨4, a, r, w⟩]) = F at *
  let t0 : Tp pr := .i (show ((↑(P.length + (1 : Nat)) : Int) : Int) = (↑P.length : Int) + (1 : Int) by omega)
  let t1 : Tp pr := .i (wrap_i64 (a := (↑P.length : Int) + (1 : Int) - (1 : Int)) (by omega) (by omega))
  let t2 : Tp pr := .m (show (decide ((0 : Int) ≤ (↑P.length : Int) + (1 : Int) - (1 : Int) ∧ ((↑P.length : Int) + (1 : Int) - (1 : Int)).toNat < P.length + (1 : Nat))) = true by simp)
  let t3 : Tp pr := .c (show ((0 : Nat) + ((↑P.length : Int) + (1 : Int) - (1 : Int)).toNat : Nat) = P.length by omega)
  let t4 : Tp pr := .m (show (decide (F.length = F.length)) = true by simp)
  let t5 : Tp pr := .g .crow (show (F[P.length]?) = some ((Frm.mk (4 : Int) a r w).cc) from e1)
  let t18 : Tp pr := .g .row (show (lkp KT a) = some ([T.seq (1 : Nat) ks]) from hk)
  let t22 : Tp pr := .b (show (decide (w = (-1 : Int))) = false by (simp; omega))
  let t24 : Tp pr := .m (show (decide ((0 : Int) ≤ (0 : Int) ∧ (0 : Int) ≤ (↑P.length : Int) + (1 : Int) - (1 : Int) ∧ (0 : Nat) + ((↑P.length : Int) + (1 : Int) - (1 : Int)).toNat ≤ F.length)) = true by simp [*])
  let t26 : Tp pr := .c (show (((↑P.length : Int) + (1 : Int) - (1 : Int)).toNat - (0 : Nat) : Nat) = P.length by omega)
  let t30 : Tp pr := .m (show (decide ((0 : Int) ≤ w ∧ w.toNat < W.length)) = true by simp [*])
  let t31 : Tp pr := .c (show ((0 : Nat) + w.toNat : Nat) = w.toNat by omega)
  let t32 : Tp pr := .m (show (decide (W.length = W.length)) = true by simp)
  let t33 : Tp pr := .g .crow (show (W[w.toNat]?) = some ((Vl.mk true x1 q1 u1).cc) from hwg)
  let t51 : Tp pr := .g .row (show (lkp KT q1) = some ([T.seq (1 : Nat) ks1]) from hk3)
  let t54 : Tp pr := .g .row (show (lkp ks1 (0 : Int)) = some ([T.int IntKind.i64 k0]) from hk4)
  exact .tp [t0, t1, t2, t3, t4, t5, t4, t5, t4, t5, t4, t5, .mT, .mT, .mT, .mT, .mT, .mT, t18, .mT, .mT, .mT, t22, .bF, t24, .c (rfl : ((0 : Nat)) = _), t26, .bF, .bF, .bT, t30, t31, t32, t33, t32, t33, t32, t33, t32, t33, .bF, .mT, .mT, .mT, .mT, .mT, .mT, .mT, .mT, .mT, .mT, t51, .mT, .mT, t54, .mT, .mT, .a (g), .mT, .mT, .mT, .mT, .mT, .mT, .mT] (by kernel_rfl)
theorem gAppN (w : Int) (hw : 0 ≤ w) (hw2 : w < W.length) (x1 q1 u1 : Int) (hwg : W[w.toNat]? = some (Vl.cc ⟨true, x1, q1, u1⟩)) (h0 : 0 ≤ a) (ha : a < KT.length) (hk : lkp KT a = some [.seq 1 ks]) (hks : 1 < ks.length) (hk1 : lkp ks 1 = some [.int .i64 k1]) (hv : 0 ≤ v) (hv2 : v < W.length) (hvg : W[v.toNat]? = some (Vl.cc ⟨b, x, q, u⟩)) (hW : W.length ≤ 500) (hD : D.length ≤ 500) (hF : (P ++ [Frm.cc ⟨4, a, r, w⟩]).length ≤ 500) (hq0 : 0 ≤ q1) (hq2 : q1 < KT.length) (ks1 : List (List T)) (hk3 : lkp KT q1 = some [.seq 1 ks1]) (hks3 : 0 < ks1.length) (k0 : Int) (hk4 : lkp ks1 0 = some [.int .i64 k0]) (h : D.length = 500) : Ev pr (.call 130 [cT L KT BT, mA d p e v (P.length + 1) (P ++ [Frm.cc ⟨4, a, r, w⟩]) W D] (mM (P ++ [Frm.cc ⟨4, a, r, w⟩]) W D)) (.val (.tup [mA d p e v P.length (P ++ [Frm.cc ⟨4, a, r, w⟩]) W D, bl true, bl false]) (mM (P ++ [Frm.cc ⟨4, a, r, w⟩]) W D)) := by
  have g := l6BindN_ev d p e v P.length (P ++ [Frm.cc ⟨4, a, r, w⟩]) W D v u1 k0 h
  have e1 : (P ++ [Frm.cc ⟨4, a, r, w⟩])[P.length]? = some (Frm.cc ⟨4, a, r, w⟩) := by simp
  have e2 : (P ++ [Frm.cc ⟨4, a, r, w⟩]).length = P.length + 1 := by simp
  unfold mA mM cT at *
  generalize hFF : (P ++ [Frm.cc ⟨4, a, r, w⟩]) = F at *
  let t0 : Tp pr := .i (show ((↑(P.length + (1 : Nat)) : Int) : Int) = (↑P.length : Int) + (1 : Int) by omega)
  let t1 : Tp pr := .i (wrap_i64 (a := (↑P.length : Int) + (1 : Int) - (1 : Int)) (by omega) (by omega))
  let t2 : Tp pr := .m (show (decide ((0 : Int) ≤ (↑P.length : Int) + (1 : Int) - (1 : Int) ∧ ((↑P.length : Int) + (1 : Int) - (1 : Int)).toNat < P.length + (1 : Nat))) = true by simp)
  let t3 : Tp pr := .c (show ((0 : Nat) + ((↑P.length : Int) + (1 : Int) - (1 : Int)).toNat : Nat) = P.length by omega)
  let t4 : Tp pr := .m (show (decide (F.length = F.length)) = true by simp)
  let t5 : Tp pr := .g .crow (show (F[P.length]?) = some ((Frm.mk (4 : Int) a r w).cc) from e1)
  let t18 : Tp pr := .g .row (show (lkp KT a) = some ([T.seq (1 : Nat) ks]) from hk)
  let t22 : Tp pr := .b (show (decide (w = (-1 : Int))) = false by (simp; omega))
  let t24 : Tp pr := .m (show (decide ((0 : Int) ≤ (0 : Int) ∧ (0 : Int) ≤ (↑P.length : Int) + (1 : Int) - (1 : Int) ∧ (0 : Nat) + ((↑P.length : Int) + (1 : Int) - (1 : Int)).toNat ≤ F.length)) = true by simp [*])
  let t26 : Tp pr := .c (show (((↑P.length : Int) + (1 : Int) - (1 : Int)).toNat - (0 : Nat) : Nat) = P.length by omega)
  let t30 : Tp pr := .m (show (decide ((0 : Int) ≤ w ∧ w.toNat < W.length)) = true by simp [*])
  let t31 : Tp pr := .c (show ((0 : Nat) + w.toNat : Nat) = w.toNat by omega)
  let t32 : Tp pr := .m (show (decide (W.length = W.length)) = true by simp)
  let t33 : Tp pr := .g .crow (show (W[w.toNat]?) = some ((Vl.mk true x1 q1 u1).cc) from hwg)
  let t51 : Tp pr := .g .row (show (lkp KT q1) = some ([T.seq (1 : Nat) ks1]) from hk3)
  let t54 : Tp pr := .g .row (show (lkp ks1 (0 : Int)) = some ([T.int IntKind.i64 k0]) from hk4)
  exact .tp [t0, t1, t2, t3, t4, t5, t4, t5, t4, t5, t4, t5, .mT, .mT, .mT, .mT, .mT, .mT, t18, .mT, .mT, .mT, t22, .bF, t24, .c (rfl : ((0 : Nat)) = _), t26, .bF, .bF, .bT, t30, t31, t32, t33, t32, t33, t32, t33, t32, t33, .bF, .mT, .mT, .mT, .mT, .mT, .mT, .mT, .mT, .mT, .mT, t51, .mT, .mT, t54, .mT, .mT, .a (g), .mT, .mT, .mT, .mT, .mT, .mT, .mT] (by kernel_rfl)
theorem gAddF (w : Int) (hw : 0 ≤ w) (hw2 : w < W.length) (x1 q1 u1 : Int) (hwg : W[w.toNat]? = some (Vl.cc ⟨true, x1, q1, u1⟩)) (h0 : 0 ≤ a) (ha : a < KT.length) (hk : lkp KT a = some [.seq 1 ks]) (hks : 1 < ks.length) (hk1 : lkp ks 1 = some [.int .i64 k1]) (hv : 0 ≤ v) (hv2 : v < W.length) (hvg : W[v.toNat]? = some (Vl.cc ⟨b, x, q, u⟩)) (hW : W.length ≤ 500) (hD : D.length ≤ 500) (hF : (P ++ [Frm.cc ⟨5, a, r, w⟩]).length ≤ 500)  : Ev pr (.call 130 [cT L KT BT, mA d p e v (P.length + 1) (P ++ [Frm.cc ⟨5, a, r, w⟩]) W D] (mM (P ++ [Frm.cc ⟨5, a, r, w⟩]) W D)) (.val (.tup [mA d p e v P.length (P ++ [Frm.cc ⟨5, a, r, w⟩]) W D, bl false, bl true]) (mM (P ++ [Frm.cc ⟨5, a, r, w⟩]) W D)) := by
  have e1 : (P ++ [Frm.cc ⟨5, a, r, w⟩])[P.length]? = some (Frm.cc ⟨5, a, r, w⟩) := by simp
  have e2 : (P ++ [Frm.cc ⟨5, a, r, w⟩]).length = P.length + 1 := by simp
  unfold mA mM cT at *
  generalize hFF : (P ++ [Frm.cc ⟨5, a, r, w⟩]) = F at *
  let t0 : Tp pr := .i (show ((↑(P.length + (1 : Nat)) : Int) : Int) = (↑P.length : Int) + (1 : Int) by omega)
  let t1 : Tp pr := .i (wrap_i64 (a := (↑P.length : Int) + (1 : Int) - (1 : Int)) (by omega) (by omega))
  let t2 : Tp pr := .m (show (decide ((0 : Int) ≤ (↑P.length : Int) + (1 : Int) - (1 : Int) ∧ ((↑P.length : Int) + (1 : Int) - (1 : Int)).toNat < P.length + (1 : Nat))) = true by simp)
  let t3 : Tp pr := .c (show ((0 : Nat) + ((↑P.length : Int) + (1 : Int) - (1 : Int)).toNat : Nat) = P.length by omega)
  let t4 : Tp pr := .m (show (decide (F.length = F.length)) = true by simp)
  let t5 : Tp pr := .g .crow (show (F[P.length]?) = some ((Frm.mk (5 : Int) a r w).cc) from e1)
  let t18 : Tp pr := .g .row (show (lkp KT a) = some ([T.seq (1 : Nat) ks]) from hk)
  let t22 : Tp pr := .b (show (decide (w = (-1 : Int))) = false by (simp; omega))
  let t24 : Tp pr := .m (show (decide ((0 : Int) ≤ (0 : Int) ∧ (0 : Int) ≤ (↑P.length : Int) + (1 : Int) - (1 : Int) ∧ (0 : Nat) + ((↑P.length : Int) + (1 : Int) - (1 : Int)).toNat ≤ F.length)) = true by simp [*])
  let t26 : Tp pr := .c (show (((↑P.length : Int) + (1 : Int) - (1 : Int)).toNat - (0 : Nat) : Nat) = P.length by omega)
  let t30 : Tp pr := .m (show (decide ((0 : Int) ≤ w ∧ w.toNat < W.length)) = true by simp [*])
  let t31 : Tp pr := .c (show ((0 : Nat) + w.toNat : Nat) = w.toNat by omega)
  let t32 : Tp pr := .m (show (decide (W.length = W.length)) = true by simp)
  let t33 : Tp pr := .g .crow (show (W[w.toNat]?) = some ((Vl.mk true x1 q1 u1).cc) from hwg)
  let t40 : Tp pr := .m (show (decide ((0 : Int) ≤ v ∧ v.toNat < W.length)) = true by simp [*])
  let t41 : Tp pr := .c (show ((0 : Nat) + v.toNat : Nat) = v.toNat by omega)
  let t43 : Tp pr := .g .crow (show (W[v.toNat]?) = some ((Vl.mk b x q u).cc) from hvg)
  exact .tp [t0, t1, t2, t3, t4, t5, t4, t5, t4, t5, t4, t5, .mT, .mT, .mT, .mT, .mT, .mT, t18, .mT, .mT, .mT, t22, .bF, t24, .c (rfl : ((0 : Nat)) = _), t26, .bF, .bF, .bF, t30, t31, t32, t33, t32, t33, t32, t33, t32, t33, t40, t41, t32, t43, t32, t43, t32, t43, t32, t43, .bT, .bT, .bT] (by kernel_rfl)
theorem gAddG (w : Int) (hw : 0 ≤ w) (hw2 : w < W.length) (x1 q1 u1 : Int) (hwg : W[w.toNat]? = some (Vl.cc ⟨false, x1, q1, u1⟩)) (h0 : 0 ≤ a) (ha : a < KT.length) (hk : lkp KT a = some [.seq 1 ks]) (hks : 1 < ks.length) (hk1 : lkp ks 1 = some [.int .i64 k1]) (hv : 0 ≤ v) (hv2 : v < W.length) (hvg : W[v.toNat]? = some (Vl.cc ⟨true, x, q, u⟩)) (hW : W.length ≤ 500) (hD : D.length ≤ 500) (hF : (P ++ [Frm.cc ⟨5, a, r, w⟩]).length ≤ 500)  : Ev pr (.call 130 [cT L KT BT, mA d p e v (P.length + 1) (P ++ [Frm.cc ⟨5, a, r, w⟩]) W D] (mM (P ++ [Frm.cc ⟨5, a, r, w⟩]) W D)) (.val (.tup [mA d p e v P.length (P ++ [Frm.cc ⟨5, a, r, w⟩]) W D, bl false, bl true]) (mM (P ++ [Frm.cc ⟨5, a, r, w⟩]) W D)) := by
  have e1 : (P ++ [Frm.cc ⟨5, a, r, w⟩])[P.length]? = some (Frm.cc ⟨5, a, r, w⟩) := by simp
  have e2 : (P ++ [Frm.cc ⟨5, a, r, w⟩]).length = P.length + 1 := by simp
  unfold mA mM cT at *
  generalize hFF : (P ++ [Frm.cc ⟨5, a, r, w⟩]) = F at *
  let t0 : Tp pr := .i (show ((↑(P.length + (1 : Nat)) : Int) : Int) = (↑P.length : Int) + (1 : Int) by omega)
  let t1 : Tp pr := .i (wrap_i64 (a := (↑P.length : Int) + (1 : Int) - (1 : Int)) (by omega) (by omega))
  let t2 : Tp pr := .m (show (decide ((0 : Int) ≤ (↑P.length : Int) + (1 : Int) - (1 : Int) ∧ ((↑P.length : Int) + (1 : Int) - (1 : Int)).toNat < P.length + (1 : Nat))) = true by simp)
  let t3 : Tp pr := .c (show ((0 : Nat) + ((↑P.length : Int) + (1 : Int) - (1 : Int)).toNat : Nat) = P.length by omega)
  let t4 : Tp pr := .m (show (decide (F.length = F.length)) = true by simp)
  let t5 : Tp pr := .g .crow (show (F[P.length]?) = some ((Frm.mk (5 : Int) a r w).cc) from e1)
  let t18 : Tp pr := .g .row (show (lkp KT a) = some ([T.seq (1 : Nat) ks]) from hk)
  let t22 : Tp pr := .b (show (decide (w = (-1 : Int))) = false by (simp; omega))
  let t24 : Tp pr := .m (show (decide ((0 : Int) ≤ (0 : Int) ∧ (0 : Int) ≤ (↑P.length : Int) + (1 : Int) - (1 : Int) ∧ (0 : Nat) + ((↑P.length : Int) + (1 : Int) - (1 : Int)).toNat ≤ F.length)) = true by simp [*])
  let t26 : Tp pr := .c (show (((↑P.length : Int) + (1 : Int) - (1 : Int)).toNat - (0 : Nat) : Nat) = P.length by omega)
  let t30 : Tp pr := .m (show (decide ((0 : Int) ≤ w ∧ w.toNat < W.length)) = true by simp [*])
  let t31 : Tp pr := .c (show ((0 : Nat) + w.toNat : Nat) = w.toNat by omega)
  let t32 : Tp pr := .m (show (decide (W.length = W.length)) = true by simp)
  let t33 : Tp pr := .g .crow (show (W[w.toNat]?) = some ((Vl.mk false x1 q1 u1).cc) from hwg)
  let t40 : Tp pr := .m (show (decide ((0 : Int) ≤ v ∧ v.toNat < W.length)) = true by simp [*])
  let t41 : Tp pr := .c (show ((0 : Nat) + v.toNat : Nat) = v.toNat by omega)
  let t43 : Tp pr := .g .crow (show (W[v.toNat]?) = some ((Vl.mk true x q u).cc) from hvg)
  exact .tp [t0, t1, t2, t3, t4, t5, t4, t5, t4, t5, t4, t5, .mT, .mT, .mT, .mT, .mT, .mT, t18, .mT, .mT, .mT, t22, .bF, t24, .c (rfl : ((0 : Nat)) = _), t26, .bF, .bF, .bF, t30, t31, t32, t33, t32, t33, t32, t33, t32, t33, t40, t41, t32, t43, t32, t43, t32, t43, t32, t43, .bF, .bT, .bT] (by kernel_rfl)
theorem gAddB (w : Int) (hw : 0 ≤ w) (hw2 : w < W.length) (x1 q1 u1 : Int) (hwg : W[w.toNat]? = some (Vl.cc ⟨false, x1, q1, u1⟩)) (h0 : 0 ≤ a) (ha : a < KT.length) (hk : lkp KT a = some [.seq 1 ks]) (hks : 1 < ks.length) (hk1 : lkp ks 1 = some [.int .i64 k1]) (hv : 0 ≤ v) (hv2 : v < W.length) (hvg : W[v.toNat]? = some (Vl.cc ⟨false, x, q, u⟩)) (hW : W.length ≤ 500) (hD : D.length ≤ 500) (hF : (P ++ [Frm.cc ⟨5, a, r, w⟩]).length ≤ 500) (hx : -1000000 ≤ x ∧ x ≤ 1000000) (hx1 : -1000000 ≤ x1 ∧ x1 ≤ 1000000) (hr : ¬ (-1000000 ≤ x1 + x ∧ x1 + x ≤ 1000000)) : Ev pr (.call 130 [cT L KT BT, mA d p e v (P.length + 1) (P ++ [Frm.cc ⟨5, a, r, w⟩]) W D] (mM (P ++ [Frm.cc ⟨5, a, r, w⟩]) W D)) (.val (.tup [mA d p e v P.length (P ++ [Frm.cc ⟨5, a, r, w⟩]) W D, bl false, bl true]) (mM (P ++ [Frm.cc ⟨5, a, r, w⟩]) W D)) := by
  have hb : (decide (x1 + x ≥ -1000000) && decide (x1 + x ≤ 1000000)) = false := by simp; omega
  have gw := l1In_ev (x1 + x) (-1000000) 1000000
  rw [hb] at gw
  have e1 : (P ++ [Frm.cc ⟨5, a, r, w⟩])[P.length]? = some (Frm.cc ⟨5, a, r, w⟩) := by simp
  have e2 : (P ++ [Frm.cc ⟨5, a, r, w⟩]).length = P.length + 1 := by simp
  unfold mA mM cT at *
  generalize hFF : (P ++ [Frm.cc ⟨5, a, r, w⟩]) = F at *
  let t0 : Tp pr := .i (show ((↑(P.length + (1 : Nat)) : Int) : Int) = (↑P.length : Int) + (1 : Int) by omega)
  let t1 : Tp pr := .i (wrap_i64 (a := (↑P.length : Int) + (1 : Int) - (1 : Int)) (by omega) (by omega))
  let t2 : Tp pr := .m (show (decide ((0 : Int) ≤ (↑P.length : Int) + (1 : Int) - (1 : Int) ∧ ((↑P.length : Int) + (1 : Int) - (1 : Int)).toNat < P.length + (1 : Nat))) = true by simp)
  let t3 : Tp pr := .c (show ((0 : Nat) + ((↑P.length : Int) + (1 : Int) - (1 : Int)).toNat : Nat) = P.length by omega)
  let t4 : Tp pr := .m (show (decide (F.length = F.length)) = true by simp)
  let t5 : Tp pr := .g .crow (show (F[P.length]?) = some ((Frm.mk (5 : Int) a r w).cc) from e1)
  let t18 : Tp pr := .g .row (show (lkp KT a) = some ([T.seq (1 : Nat) ks]) from hk)
  let t22 : Tp pr := .b (show (decide (w = (-1 : Int))) = false by (simp; omega))
  let t24 : Tp pr := .m (show (decide ((0 : Int) ≤ (0 : Int) ∧ (0 : Int) ≤ (↑P.length : Int) + (1 : Int) - (1 : Int) ∧ (0 : Nat) + ((↑P.length : Int) + (1 : Int) - (1 : Int)).toNat ≤ F.length)) = true by simp [*])
  let t26 : Tp pr := .c (show (((↑P.length : Int) + (1 : Int) - (1 : Int)).toNat - (0 : Nat) : Nat) = P.length by omega)
  let t30 : Tp pr := .m (show (decide ((0 : Int) ≤ w ∧ w.toNat < W.length)) = true by simp [*])
  let t31 : Tp pr := .c (show ((0 : Nat) + w.toNat : Nat) = w.toNat by omega)
  let t32 : Tp pr := .m (show (decide (W.length = W.length)) = true by simp)
  let t33 : Tp pr := .g .crow (show (W[w.toNat]?) = some ((Vl.mk false x1 q1 u1).cc) from hwg)
  let t40 : Tp pr := .m (show (decide ((0 : Int) ≤ v ∧ v.toNat < W.length)) = true by simp [*])
  let t41 : Tp pr := .c (show ((0 : Nat) + v.toNat : Nat) = v.toNat by omega)
  let t43 : Tp pr := .g .crow (show (W[v.toNat]?) = some ((Vl.mk false x q u).cc) from hvg)
  let t52 : Tp pr := .i (wrap_i64 (a := x1 + x) (by omega) (by omega))
  exact .tp [t0, t1, t2, t3, t4, t5, t4, t5, t4, t5, t4, t5, .mT, .mT, .mT, .mT, .mT, .mT, t18, .mT, .mT, .mT, t22, .bF, t24, .c (rfl : ((0 : Nat)) = _), t26, .bF, .bF, .bF, t30, t31, t32, t33, t32, t33, t32, t33, t32, t33, t40, t41, t32, t43, t32, t43, t32, t43, t32, t43, .bF, .bF, t52, .a (gw), .bT] (by kernel_rfl)
theorem gAddN (w : Int) (hw : 0 ≤ w) (hw2 : w < W.length) (x1 q1 u1 : Int) (hwg : W[w.toNat]? = some (Vl.cc ⟨false, x1, q1, u1⟩)) (h0 : 0 ≤ a) (ha : a < KT.length) (hk : lkp KT a = some [.seq 1 ks]) (hks : 1 < ks.length) (hk1 : lkp ks 1 = some [.int .i64 k1]) (hv : 0 ≤ v) (hv2 : v < W.length) (hvg : W[v.toNat]? = some (Vl.cc ⟨false, x, q, u⟩)) (hW : W.length ≤ 500) (hD : D.length ≤ 500) (hF : (P ++ [Frm.cc ⟨5, a, r, w⟩]).length ≤ 500) (hx : -1000000 ≤ x ∧ x ≤ 1000000) (hx1 : -1000000 ≤ x1 ∧ x1 ≤ 1000000) (hr : -1000000 ≤ x1 + x ∧ x1 + x ≤ 1000000) (h : W.length = 500) : Ev pr (.call 130 [cT L KT BT, mA d p e v (P.length + 1) (P ++ [Frm.cc ⟨5, a, r, w⟩]) W D] (mM (P ++ [Frm.cc ⟨5, a, r, w⟩]) W D)) (.val (.tup [mA d p e v P.length (P ++ [Frm.cc ⟨5, a, r, w⟩]) W D, bl true, bl false]) (mM (P ++ [Frm.cc ⟨5, a, r, w⟩]) W D)) := by
  have hb : (decide (x1 + x ≥ -1000000) && decide (x1 + x ≤ 1000000)) = true := by simp; omega
  have gw := l1In_ev (x1 + x) (-1000000) 1000000
  rw [hb] at gw
  have g := l6NewN_ev d p e v P.length (P ++ [Frm.cc ⟨5, a, r, w⟩]) W D ⟨false, x1 + x, 0, 0⟩ h
  have e1 : (P ++ [Frm.cc ⟨5, a, r, w⟩])[P.length]? = some (Frm.cc ⟨5, a, r, w⟩) := by simp
  have e2 : (P ++ [Frm.cc ⟨5, a, r, w⟩]).length = P.length + 1 := by simp
  unfold mA mM cT at *
  generalize hFF : (P ++ [Frm.cc ⟨5, a, r, w⟩]) = F at *
  let t0 : Tp pr := .i (show ((↑(P.length + (1 : Nat)) : Int) : Int) = (↑P.length : Int) + (1 : Int) by omega)
  let t1 : Tp pr := .i (wrap_i64 (a := (↑P.length : Int) + (1 : Int) - (1 : Int)) (by omega) (by omega))
  let t2 : Tp pr := .m (show (decide ((0 : Int) ≤ (↑P.length : Int) + (1 : Int) - (1 : Int) ∧ ((↑P.length : Int) + (1 : Int) - (1 : Int)).toNat < P.length + (1 : Nat))) = true by simp)
  let t3 : Tp pr := .c (show ((0 : Nat) + ((↑P.length : Int) + (1 : Int) - (1 : Int)).toNat : Nat) = P.length by omega)
  let t4 : Tp pr := .m (show (decide (F.length = F.length)) = true by simp)
  let t5 : Tp pr := .g .crow (show (F[P.length]?) = some ((Frm.mk (5 : Int) a r w).cc) from e1)
  let t18 : Tp pr := .g .row (show (lkp KT a) = some ([T.seq (1 : Nat) ks]) from hk)
  let t22 : Tp pr := .b (show (decide (w = (-1 : Int))) = false by (simp; omega))
  let t24 : Tp pr := .m (show (decide ((0 : Int) ≤ (0 : Int) ∧ (0 : Int) ≤ (↑P.length : Int) + (1 : Int) - (1 : Int) ∧ (0 : Nat) + ((↑P.length : Int) + (1 : Int) - (1 : Int)).toNat ≤ F.length)) = true by simp [*])
  let t26 : Tp pr := .c (show (((↑P.length : Int) + (1 : Int) - (1 : Int)).toNat - (0 : Nat) : Nat) = P.length by omega)
  let t30 : Tp pr := .m (show (decide ((0 : Int) ≤ w ∧ w.toNat < W.length)) = true by (simp; omega))
  let t31 : Tp pr := .c (show ((0 : Nat) + w.toNat : Nat) = w.toNat by omega)
  let t32 : Tp pr := .m (show (decide (W.length = W.length)) = true by simp)
  let t33 : Tp pr := .g .crow (show (W[w.toNat]?) = some ((Vl.mk false x1 q1 u1).cc) from hwg)
  let t40 : Tp pr := .m (show (decide ((0 : Int) ≤ v ∧ v.toNat < W.length)) = true by (simp; omega))
  let t41 : Tp pr := .c (show ((0 : Nat) + v.toNat : Nat) = v.toNat by omega)
  let t43 : Tp pr := .g .crow (show (W[v.toNat]?) = some ((Vl.mk false x q u).cc) from hvg)
  let t52 : Tp pr := .i (wrap_i64 (a := x1 + x) (by omega) (by omega))
  exact .tp [t0, t1, t2, t3, t4, t5, t4, t5, t4, t5, t4, t5, .mT, .mT, .mT, .mT, .mT, .mT, t18, .mT, .mT, .mT, t22, .bF, t24, .c (rfl : ((0 : Nat)) = _), t26, .bF, .bF, .bF, t30, t31, t32, t33, t32, t33, t32, t33, t32, t33, t40, t41, t32, t43, t32, t43, t32, t43, t32, t43, .bF, .bF, t52, .a (gw), .bF, t52, .a (g)] (by kernel_rfl)
theorem gAddY (w : Int) (hw : 0 ≤ w) (hw2 : w < W.length) (x1 q1 u1 : Int) (hwg : W[w.toNat]? = some (Vl.cc ⟨false, x1, q1, u1⟩)) (h0 : 0 ≤ a) (ha : a < KT.length) (hk : lkp KT a = some [.seq 1 ks]) (hks : 1 < ks.length) (hk1 : lkp ks 1 = some [.int .i64 k1]) (hv : 0 ≤ v) (hv2 : v < W.length) (hvg : W[v.toNat]? = some (Vl.cc ⟨false, x, q, u⟩)) (hW : W.length ≤ 500) (hD : D.length ≤ 500) (hF : (P ++ [Frm.cc ⟨5, a, r, w⟩]).length ≤ 500) (hx : -1000000 ≤ x ∧ x ≤ 1000000) (hx1 : -1000000 ≤ x1 ∧ x1 ≤ 1000000) (hr : -1000000 ≤ x1 + x ∧ x1 + x ≤ 1000000) (h : W.length < 500) : Ev pr (.call 130 [cT L KT BT, mA d p e v (P.length + 1) (P ++ [Frm.cc ⟨5, a, r, w⟩]) W D] (mM (P ++ [Frm.cc ⟨5, a, r, w⟩]) W D)) (.val (.tup [mA true (-1) (-1) W.length P.length (P ++ [Frm.cc ⟨5, a, r, w⟩]) (W ++ [Vl.cc ⟨false, x1 + x, 0, 0⟩]) D, bl true, bl true]) (mM (P ++ [Frm.cc ⟨5, a, r, w⟩]) (W ++ [Vl.cc ⟨false, x1 + x, 0, 0⟩]) D)) := by
  have hb : (decide (x1 + x ≥ -1000000) && decide (x1 + x ≤ 1000000)) = true := by simp; omega
  have gw := l1In_ev (x1 + x) (-1000000) 1000000
  rw [hb] at gw
  have g := l6NewY_ev d p e v P.length (P ++ [Frm.cc ⟨5, a, r, w⟩]) W D ⟨false, x1 + x, 0, 0⟩ h
  have e1 : (P ++ [Frm.cc ⟨5, a, r, w⟩])[P.length]? = some (Frm.cc ⟨5, a, r, w⟩) := by simp
  have e2 : (P ++ [Frm.cc ⟨5, a, r, w⟩]).length = P.length + 1 := by simp
  unfold mA mM cT at *
  generalize hFF : (P ++ [Frm.cc ⟨5, a, r, w⟩]) = F at *
  let t0 : Tp pr := .i (show ((↑(P.length + (1 : Nat)) : Int) : Int) = (↑P.length : Int) + (1 : Int) by omega)
  let t1 : Tp pr := .i (wrap_i64 (a := (↑P.length : Int) + (1 : Int) - (1 : Int)) (by omega) (by omega))
  let t2 : Tp pr := .m (show (decide ((0 : Int) ≤ (↑P.length : Int) + (1 : Int) - (1 : Int) ∧ ((↑P.length : Int) + (1 : Int) - (1 : Int)).toNat < P.length + (1 : Nat))) = true by simp)
  let t3 : Tp pr := .c (show ((0 : Nat) + ((↑P.length : Int) + (1 : Int) - (1 : Int)).toNat : Nat) = P.length by omega)
  let t4 : Tp pr := .m (show (decide (F.length = F.length)) = true by simp)
  let t5 : Tp pr := .g .crow (show (F[P.length]?) = some ((Frm.mk (5 : Int) a r w).cc) from e1)
  let t18 : Tp pr := .g .row (show (lkp KT a) = some ([T.seq (1 : Nat) ks]) from hk)
  let t22 : Tp pr := .b (show (decide (w = (-1 : Int))) = false by (simp; omega))
  let t24 : Tp pr := .m (show (decide ((0 : Int) ≤ (0 : Int) ∧ (0 : Int) ≤ (↑P.length : Int) + (1 : Int) - (1 : Int) ∧ (0 : Nat) + ((↑P.length : Int) + (1 : Int) - (1 : Int)).toNat ≤ F.length)) = true by simp [*])
  let t26 : Tp pr := .c (show (((↑P.length : Int) + (1 : Int) - (1 : Int)).toNat - (0 : Nat) : Nat) = P.length by omega)
  let t30 : Tp pr := .m (show (decide ((0 : Int) ≤ w ∧ w.toNat < W.length)) = true by simp [*])
  let t31 : Tp pr := .c (show ((0 : Nat) + w.toNat : Nat) = w.toNat by omega)
  let t32 : Tp pr := .m (show (decide (W.length = W.length)) = true by simp)
  let t33 : Tp pr := .g .crow (show (W[w.toNat]?) = some ((Vl.mk false x1 q1 u1).cc) from hwg)
  let t40 : Tp pr := .m (show (decide ((0 : Int) ≤ v ∧ v.toNat < W.length)) = true by simp [*])
  let t41 : Tp pr := .c (show ((0 : Nat) + v.toNat : Nat) = v.toNat by omega)
  let t43 : Tp pr := .g .crow (show (W[v.toNat]?) = some ((Vl.mk false x q u).cc) from hvg)
  let t52 : Tp pr := .i (wrap_i64 (a := x1 + x) (by omega) (by omega))
  exact .tp [t0, t1, t2, t3, t4, t5, t4, t5, t4, t5, t4, t5, .mT, .mT, .mT, .mT, .mT, .mT, t18, .mT, .mT, .mT, t22, .bF, t24, .c (rfl : ((0 : Nat)) = _), t26, .bF, .bF, .bF, t30, t31, t32, t33, t32, t33, t32, t33, t32, t33, t40, t41, t32, t43, t32, t43, t32, t43, t32, t43, .bF, .bF, t52, .a (gw), .bF, t52, .a (g)] (by kernel_rfl)
end
end Go.Ev

namespace Go.Ev
set_option linter.unusedVariables false
set_option linter.unusedSimpArgs false
open Go.Proofs
set_option maxRecDepth 100000
set_option maxHeartbeats 4000000
def mF (d : Bool) (p e v : Int) (X Y Z : List (List T)) : V := .agg [bl d, i64 p, i64 e, i64 v, .t (.seq 4 X), .t (.seq 4 Y), .t (.seq 2 Z)]
theorem l6OwnG_ev (d : Bool) (p e v : Int) (X Y Z : List (List T)) (hX : X.length ≤ 1000) (hY : Y.length ≤ 1000) (hZ : Z.length ≤ 1000) : Ev pr (.call 55 [mF d p e v X Y Z] []) (.val (mA d p e v X.length (X.map (List.map C.t)) (Y.map (List.map C.t)) (Z.map (List.map C.t))) (mM (X.map (List.map C.t)) (Y.map (List.map C.t)) (Z.map (List.map C.t)))) := by
  unfold mF mA mM
  have e1 : List.length (X.map (List.map C.t)) = X.length := by simp
  have e2 : List.length (Y.map (List.map C.t)) = Y.length := by simp
  have e3 : List.length (Z.map (List.map C.t)) = Z.length := by simp
  rw [e1, e2, e3]
  let t0 : Tp pr := .m (show (decide ((0 : Nat) = (0 : Nat) ∧ (0 : Nat) ≤ (0 : Nat) ∧ (0 : Nat) + (List.map (fun x => List.map C.t x) X).length ≤ (4294967296 : Nat))) = true by (simp; omega))
  by_cases hc1 : X = []
  · let t1 : Tp pr := .b (show (decide ((0 : Nat) + (List.map (fun x => List.map C.t x) X).length ≤ (0 : Nat))) = true by simpa using hc1)
    let t2 : Tp pr := .c (show ((0 : Nat) + (List.map (fun x => List.map C.t x) X).length : Nat) = X.length by simp)
    let t3 : Tp pr := .n .crows (show (([].append (List.map (fun x => List.map C.t x) X)).append (List.drop ((0 : Nat) + (List.map (fun x => List.map C.t x) X).length) [])) = List.map (fun x => List.map C.t x) X by simp)
    let t4 : Tp pr := .m (show (decide ((0 : Nat) = (0 : Nat) ∧ (0 : Nat) ≤ (0 : Nat) ∧ (0 : Nat) + (List.map (fun x => List.map C.t x) Y).length ≤ (4294967296 : Nat))) = true by (simp; omega))
    by_cases hc5 : Y = []
    · let t5 : Tp pr := .b (show (decide ((0 : Nat) + (List.map (fun x => List.map C.t x) Y).length ≤ (0 : Nat))) = true by simpa using hc5)
      let t6 : Tp pr := .c (show ((0 : Nat) + (List.map (fun x => List.map C.t x) Y).length : Nat) = Y.length by simp)
      let t7 : Tp pr := .n .crows (show (([].append (List.map (fun x => List.map C.t x) Y)).append (List.drop ((0 : Nat) + (List.map (fun x => List.map C.t x) Y).length) [])) = List.map (fun x => List.map C.t x) Y by simp)
      let t8 : Tp pr := .m (show (decide ((0 : Nat) = (0 : Nat) ∧ (0 : Nat) ≤ (0 : Nat) ∧ (0 : Nat) + (List.map (fun x => List.map C.t x) Z).length ≤ (4294967296 : Nat))) = true by (simp; omega))
      by_cases hc9 : Z = []
      · let t9 : Tp pr := .b (show (decide ((0 : Nat) + (List.map (fun x => List.map C.t x) Z).length ≤ (0 : Nat))) = true by simpa using hc9)
        let t10 : Tp pr := .c (show ((0 : Nat) + (List.map (fun x => List.map C.t x) Z).length : Nat) = Z.length by simp)
        let t11 : Tp pr := .n .crows (show (([].append (List.map (fun x => List.map C.t x) Z)).append (List.drop ((0 : Nat) + (List.map (fun x => List.map C.t x) Z).length) [])) = List.map (fun x => List.map C.t x) Z by simp)
        exact .tpe [t0, t1, t2, t3, t4, t5, t6, t7, t8, t9, t10, t11] (Out.val (V.agg [V.t (T.bool d), V.t (T.int IntKind.i64 p), V.t (T.int IntKind.i64 e), V.t (T.int IntKind.i64 v), V.vec (0 : Nat) (0 : Nat) (4 : Nat) (0 : Nat) X.length, V.vec (1 : Nat) (0 : Nat) (4 : Nat) (0 : Nat) Y.length, V.vec (2 : Nat) (0 : Nat) (2 : Nat) (0 : Nat) Z.length]) [Ob.vec true (4 : Nat) (List.map (fun x => List.map C.t x) X), Ob.vec true (4 : Nat) (List.map (fun x => List.map C.t x) Y), Ob.vec true (2 : Nat) (List.map (fun x => List.map C.t x) Z)]) (by kernel_rfl) ((((((congrArg (fun x => Out.val (V.agg [V.t (T.bool d), V.t (T.int IntKind.i64 p), V.t (T.int IntKind.i64 e), V.t (T.int IntKind.i64 v), V.vec (0 : Nat) x (4 : Nat) (0 : Nat) X.length, V.vec (1 : Nat) (0 : Nat) (4 : Nat) (0 : Nat) Y.length, V.vec (2 : Nat) (0 : Nat) (2 : Nat) (0 : Nat) Z.length]) [Ob.vec true (4 : Nat) (List.map (fun x => List.map C.t x) X), Ob.vec true (4 : Nat) (List.map (fun x => List.map C.t x) Y), Ob.vec true (2 : Nat) (List.map (fun x => List.map C.t x) Z)]) (show ((0 : Nat)) = (X.length) by simp [*])).trans (congrArg (fun x => Out.val (V.agg [V.t (T.bool d), V.t (T.int IntKind.i64 p), V.t (T.int IntKind.i64 e), V.t (T.int IntKind.i64 v), V.vec (0 : Nat) X.length (4 : Nat) (0 : Nat) X.length, V.vec (1 : Nat) x (4 : Nat) (0 : Nat) Y.length, V.vec (2 : Nat) (0 : Nat) (2 : Nat) (0 : Nat) Z.length]) [Ob.vec true (4 : Nat) (List.map (fun x => List.map C.t x) X), Ob.vec true (4 : Nat) (List.map (fun x => List.map C.t x) Y), Ob.vec true (2 : Nat) (List.map (fun x => List.map C.t x) Z)]) (show ((0 : Nat)) = (Y.length) by simp [*]))).trans (congrArg (fun x => Out.val (V.agg [V.t (T.bool d), V.t (T.int IntKind.i64 p), V.t (T.int IntKind.i64 e), V.t (T.int IntKind.i64 v), V.vec (0 : Nat) X.length (4 : Nat) (0 : Nat) X.length, V.vec (1 : Nat) Y.length (4 : Nat) (0 : Nat) Y.length, V.vec (2 : Nat) x (2 : Nat) (0 : Nat) Z.length]) [Ob.vec true (4 : Nat) (List.map (fun x => List.map C.t x) X), Ob.vec true (4 : Nat) (List.map (fun x => List.map C.t x) Y), Ob.vec true (2 : Nat) (List.map (fun x => List.map C.t x) Z)]) (show ((0 : Nat)) = (Z.length) by simp [*]))).trans (congrArg (fun x => Out.val (V.agg [V.t (T.bool d), V.t (T.int IntKind.i64 p), V.t (T.int IntKind.i64 e), V.t (T.int IntKind.i64 v), V.vec (0 : Nat) X.length (4 : Nat) (0 : Nat) X.length, V.vec (1 : Nat) Y.length (4 : Nat) (0 : Nat) Y.length, V.vec (2 : Nat) Z.length (2 : Nat) (0 : Nat) Z.length]) [Ob.vec true (4 : Nat) x, Ob.vec true (4 : Nat) (List.map (fun x => List.map C.t x) Y), Ob.vec true (2 : Nat) (List.map (fun x => List.map C.t x) Z)]) (show (List.map (fun x => List.map C.t x) X) = (List.map (List.map C.t) X) by simp))).trans (congrArg (fun x => Out.val (V.agg [V.t (T.bool d), V.t (T.int IntKind.i64 p), V.t (T.int IntKind.i64 e), V.t (T.int IntKind.i64 v), V.vec (0 : Nat) X.length (4 : Nat) (0 : Nat) X.length, V.vec (1 : Nat) Y.length (4 : Nat) (0 : Nat) Y.length, V.vec (2 : Nat) Z.length (2 : Nat) (0 : Nat) Z.length]) [Ob.vec true (4 : Nat) (List.map (List.map C.t) X), Ob.vec true (4 : Nat) x, Ob.vec true (2 : Nat) (List.map (fun x => List.map C.t x) Z)]) (show (List.map (fun x => List.map C.t x) Y) = (List.map (List.map C.t) Y) by simp))).trans (congrArg (fun x => Out.val (V.agg [V.t (T.bool d), V.t (T.int IntKind.i64 p), V.t (T.int IntKind.i64 e), V.t (T.int IntKind.i64 v), V.vec (0 : Nat) X.length (4 : Nat) (0 : Nat) X.length, V.vec (1 : Nat) Y.length (4 : Nat) (0 : Nat) Y.length, V.vec (2 : Nat) Z.length (2 : Nat) (0 : Nat) Z.length]) [Ob.vec true (4 : Nat) (List.map (List.map C.t) X), Ob.vec true (4 : Nat) (List.map (List.map C.t) Y), Ob.vec true (2 : Nat) x]) (show (List.map (fun x => List.map C.t x) Z) = (List.map (List.map C.t) Z) by simp)))
      · let t9 : Tp pr := .b (show (decide ((0 : Nat) + (List.map (fun x => List.map C.t x) Z).length ≤ (0 : Nat))) = false by simpa using hc9)
        let t10 : Tp pr := .c (show ((0 : Nat) + (List.map (fun x => List.map C.t x) Z).length : Nat) = Z.length by simp)
        let t11 : Tp pr := .n .crows (show ([].append (List.map (fun x => List.map C.t x) Z)) = List.map (fun x => List.map C.t x) Z by simp)
        exact .tpe [t0, t1, t2, t3, t4, t5, t6, t7, t8, t9, t10, t11] (Out.val (V.agg [V.t (T.bool d), V.t (T.int IntKind.i64 p), V.t (T.int IntKind.i64 e), V.t (T.int IntKind.i64 v), V.vec (0 : Nat) (0 : Nat) (4 : Nat) (0 : Nat) X.length, V.vec (1 : Nat) (0 : Nat) (4 : Nat) (0 : Nat) Y.length, V.vec (2 : Nat) Z.length (2 : Nat) (0 : Nat) Z.length]) [Ob.vec true (4 : Nat) (List.map (fun x => List.map C.t x) X), Ob.vec true (4 : Nat) (List.map (fun x => List.map C.t x) Y), Ob.vec true (2 : Nat) (List.map (fun x => List.map C.t x) Z)]) (by kernel_rfl) (((((congrArg (fun x => Out.val (V.agg [V.t (T.bool d), V.t (T.int IntKind.i64 p), V.t (T.int IntKind.i64 e), V.t (T.int IntKind.i64 v), V.vec (0 : Nat) x (4 : Nat) (0 : Nat) X.length, V.vec (1 : Nat) (0 : Nat) (4 : Nat) (0 : Nat) Y.length, V.vec (2 : Nat) Z.length (2 : Nat) (0 : Nat) Z.length]) [Ob.vec true (4 : Nat) (List.map (fun x => List.map C.t x) X), Ob.vec true (4 : Nat) (List.map (fun x => List.map C.t x) Y), Ob.vec true (2 : Nat) (List.map (fun x => List.map C.t x) Z)]) (show ((0 : Nat)) = (X.length) by simp [*])).trans (congrArg (fun x => Out.val (V.agg [V.t (T.bool d), V.t (T.int IntKind.i64 p), V.t (T.int IntKind.i64 e), V.t (T.int IntKind.i64 v), V.vec (0 : Nat) X.length (4 : Nat) (0 : Nat) X.length, V.vec (1 : Nat) x (4 : Nat) (0 : Nat) Y.length, V.vec (2 : Nat) Z.length (2 : Nat) (0 : Nat) Z.length]) [Ob.vec true (4 : Nat) (List.map (fun x => List.map C.t x) X), Ob.vec true (4 : Nat) (List.map (fun x => List.map C.t x) Y), Ob.vec true (2 : Nat) (List.map (fun x => List.map C.t x) Z)]) (show ((0 : Nat)) = (Y.length) by simp [*]))).trans (congrArg (fun x => Out.val (V.agg [V.t (T.bool d), V.t (T.int IntKind.i64 p), V.t (T.int IntKind.i64 e), V.t (T.int IntKind.i64 v), V.vec (0 : Nat) X.length (4 : Nat) (0 : Nat) X.length, V.vec (1 : Nat) Y.length (4 : Nat) (0 : Nat) Y.length, V.vec (2 : Nat) Z.length (2 : Nat) (0 : Nat) Z.length]) [Ob.vec true (4 : Nat) x, Ob.vec true (4 : Nat) (List.map (fun x => List.map C.t x) Y), Ob.vec true (2 : Nat) (List.map (fun x => List.map C.t x) Z)]) (show (List.map (fun x => List.map C.t x) X) = (List.map (List.map C.t) X) by simp))).trans (congrArg (fun x => Out.val (V.agg [V.t (T.bool d), V.t (T.int IntKind.i64 p), V.t (T.int IntKind.i64 e), V.t (T.int IntKind.i64 v), V.vec (0 : Nat) X.length (4 : Nat) (0 : Nat) X.length, V.vec (1 : Nat) Y.length (4 : Nat) (0 : Nat) Y.length, V.vec (2 : Nat) Z.length (2 : Nat) (0 : Nat) Z.length]) [Ob.vec true (4 : Nat) (List.map (List.map C.t) X), Ob.vec true (4 : Nat) x, Ob.vec true (2 : Nat) (List.map (fun x => List.map C.t x) Z)]) (show (List.map (fun x => List.map C.t x) Y) = (List.map (List.map C.t) Y) by simp))).trans (congrArg (fun x => Out.val (V.agg [V.t (T.bool d), V.t (T.int IntKind.i64 p), V.t (T.int IntKind.i64 e), V.t (T.int IntKind.i64 v), V.vec (0 : Nat) X.length (4 : Nat) (0 : Nat) X.length, V.vec (1 : Nat) Y.length (4 : Nat) (0 : Nat) Y.length, V.vec (2 : Nat) Z.length (2 : Nat) (0 : Nat) Z.length]) [Ob.vec true (4 : Nat) (List.map (List.map C.t) X), Ob.vec true (4 : Nat) (List.map (List.map C.t) Y), Ob.vec true (2 : Nat) x]) (show (List.map (fun x => List.map C.t x) Z) = (List.map (List.map C.t) Z) by simp)))
    · let t5 : Tp pr := .b (show (decide ((0 : Nat) + (List.map (fun x => List.map C.t x) Y).length ≤ (0 : Nat))) = false by simpa using hc5)
      let t6 : Tp pr := .c (show ((0 : Nat) + (List.map (fun x => List.map C.t x) Y).length : Nat) = Y.length by simp)
      let t7 : Tp pr := .n .crows (show ([].append (List.map (fun x => List.map C.t x) Y)) = List.map (fun x => List.map C.t x) Y by simp)
      let t8 : Tp pr := .m (show (decide ((0 : Nat) = (0 : Nat) ∧ (0 : Nat) ≤ (0 : Nat) ∧ (0 : Nat) + (List.map (fun x => List.map C.t x) Z).length ≤ (4294967296 : Nat))) = true by (simp; omega))
      by_cases hc9 : Z = []
      · let t9 : Tp pr := .b (show (decide ((0 : Nat) + (List.map (fun x => List.map C.t x) Z).length ≤ (0 : Nat))) = true by simpa using hc9)
        let t10 : Tp pr := .c (show ((0 : Nat) + (List.map (fun x => List.map C.t x) Z).length : Nat) = Z.length by simp)
        let t11 : Tp pr := .n .crows (show (([].append (List.map (fun x => List.map C.t x) Z)).append (List.drop ((0 : Nat) + (List.map (fun x => List.map C.t x) Z).length) [])) = List.map (fun x => List.map C.t x) Z by simp)
        exact .tpe [t0, t1, t2, t3, t4, t5, t6, t7, t8, t9, t10, t11] (Out.val (V.agg [V.t (T.bool d), V.t (T.int IntKind.i64 p), V.t (T.int IntKind.i64 e), V.t (T.int IntKind.i64 v), V.vec (0 : Nat) (0 : Nat) (4 : Nat) (0 : Nat) X.length, V.vec (1 : Nat) Y.length (4 : Nat) (0 : Nat) Y.length, V.vec (2 : Nat) (0 : Nat) (2 : Nat) (0 : Nat) Z.length]) [Ob.vec true (4 : Nat) (List.map (fun x => List.map C.t x) X), Ob.vec true (4 : Nat) (List.map (fun x => List.map C.t x) Y), Ob.vec true (2 : Nat) (List.map (fun x => List.map C.t x) Z)]) (by kernel_rfl) (((((congrArg (fun x => Out.val (V.agg [V.t (T.bool d), V.t (T.int IntKind.i64 p), V.t (T.int IntKind.i64 e), V.t (T.int IntKind.i64 v), V.vec (0 : Nat) x (4 : Nat) (0 : Nat) X.length, V.vec (1 : Nat) Y.length (4 : Nat) (0 : Nat) Y.length, V.vec (2 : Nat) (0 : Nat) (2 : Nat) (0 : Nat) Z.length]) [Ob.vec true (4 : Nat) (List.map (fun x => List.map C.t x) X), Ob.vec true (4 : Nat) (List.map (fun x => List.map C.t x) Y), Ob.vec true (2 : Nat) (List.map (fun x => List.map C.t x) Z)]) (show ((0 : Nat)) = (X.length) by simp [*])).trans (congrArg (fun x => Out.val (V.agg [V.t (T.bool d), V.t (T.int IntKind.i64 p), V.t (T.int IntKind.i64 e), V.t (T.int IntKind.i64 v), V.vec (0 : Nat) X.length (4 : Nat) (0 : Nat) X.length, V.vec (1 : Nat) Y.length (4 : Nat) (0 : Nat) Y.length, V.vec (2 : Nat) x (2 : Nat) (0 : Nat) Z.length]) [Ob.vec true (4 : Nat) (List.map (fun x => List.map C.t x) X), Ob.vec true (4 : Nat) (List.map (fun x => List.map C.t x) Y), Ob.vec true (2 : Nat) (List.map (fun x => List.map C.t x) Z)]) (show ((0 : Nat)) = (Z.length) by simp [*]))).trans (congrArg (fun x => Out.val (V.agg [V.t (T.bool d), V.t (T.int IntKind.i64 p), V.t (T.int IntKind.i64 e), V.t (T.int IntKind.i64 v), V.vec (0 : Nat) X.length (4 : Nat) (0 : Nat) X.length, V.vec (1 : Nat) Y.length (4 : Nat) (0 : Nat) Y.length, V.vec (2 : Nat) Z.length (2 : Nat) (0 : Nat) Z.length]) [Ob.vec true (4 : Nat) x, Ob.vec true (4 : Nat) (List.map (fun x => List.map C.t x) Y), Ob.vec true (2 : Nat) (List.map (fun x => List.map C.t x) Z)]) (show (List.map (fun x => List.map C.t x) X) = (List.map (List.map C.t) X) by simp))).trans (congrArg (fun x => Out.val (V.agg [V.t (T.bool d), V.t (T.int IntKind.i64 p), V.t (T.int IntKind.i64 e), V.t (T.int IntKind.i64 v), V.vec (0 : Nat) X.length (4 : Nat) (0 : Nat) X.length, V.vec (1 : Nat) Y.length (4 : Nat) (0 : Nat) Y.length, V.vec (2 : Nat) Z.length (2 : Nat) (0 : Nat) Z.length]) [Ob.vec true (4 : Nat) (List.map (List.map C.t) X), Ob.vec true (4 : Nat) x, Ob.vec true (2 : Nat) (List.map (fun x => List.map C.t x) Z)]) (show (List.map (fun x => List.map C.t x) Y) = (List.map (List.map C.t) Y) by simp))).trans (congrArg (fun x => Out.val (V.agg [V.t (T.bool d), V.t (T.int IntKind.i64 p), V.t (T.int IntKind.i64 e), V.t (T.int IntKind.i64 v), V.vec (0 : Nat) X.length (4 : Nat) (0 : Nat) X.length, V.vec (1 : Nat) Y.length (4 : Nat) (0 : Nat) Y.length, V.vec (2 : Nat) Z.length (2 : Nat) (0 : Nat) Z.length]) [Ob.vec true (4 : Nat) (List.map (List.map C.t) X), Ob.vec true (4 : Nat) (List.map (List.map C.t) Y), Ob.vec true (2 : Nat) x]) (show (List.map (fun x => List.map C.t x) Z) = (List.map (List.map C.t) Z) by simp)))
      · let t9 : Tp pr := .b (show (decide ((0 : Nat) + (List.map (fun x => List.map C.t x) Z).length ≤ (0 : Nat))) = false by simpa using hc9)
        let t10 : Tp pr := .c (show ((0 : Nat) + (List.map (fun x => List.map C.t x) Z).length : Nat) = Z.length by simp)
        let t11 : Tp pr := .n .crows (show ([].append (List.map (fun x => List.map C.t x) Z)) = List.map (fun x => List.map C.t x) Z by simp)
        exact .tpe [t0, t1, t2, t3, t4, t5, t6, t7, t8, t9, t10, t11] (Out.val (V.agg [V.t (T.bool d), V.t (T.int IntKind.i64 p), V.t (T.int IntKind.i64 e), V.t (T.int IntKind.i64 v), V.vec (0 : Nat) (0 : Nat) (4 : Nat) (0 : Nat) X.length, V.vec (1 : Nat) Y.length (4 : Nat) (0 : Nat) Y.length, V.vec (2 : Nat) Z.length (2 : Nat) (0 : Nat) Z.length]) [Ob.vec true (4 : Nat) (List.map (fun x => List.map C.t x) X), Ob.vec true (4 : Nat) (List.map (fun x => List.map C.t x) Y), Ob.vec true (2 : Nat) (List.map (fun x => List.map C.t x) Z)]) (by kernel_rfl) ((((congrArg (fun x => Out.val (V.agg [V.t (T.bool d), V.t (T.int IntKind.i64 p), V.t (T.int IntKind.i64 e), V.t (T.int IntKind.i64 v), V.vec (0 : Nat) x (4 : Nat) (0 : Nat) X.length, V.vec (1 : Nat) Y.length (4 : Nat) (0 : Nat) Y.length, V.vec (2 : Nat) Z.length (2 : Nat) (0 : Nat) Z.length]) [Ob.vec true (4 : Nat) (List.map (fun x => List.map C.t x) X), Ob.vec true (4 : Nat) (List.map (fun x => List.map C.t x) Y), Ob.vec true (2 : Nat) (List.map (fun x => List.map C.t x) Z)]) (show ((0 : Nat)) = (X.length) by simp [*])).trans (congrArg (fun x => Out.val (V.agg [V.t (T.bool d), V.t (T.int IntKind.i64 p), V.t (T.int IntKind.i64 e), V.t (T.int IntKind.i64 v), V.vec (0 : Nat) X.length (4 : Nat) (0 : Nat) X.length, V.vec (1 : Nat) Y.length (4 : Nat) (0 : Nat) Y.length, V.vec (2 : Nat) Z.length (2 : Nat) (0 : Nat) Z.length]) [Ob.vec true (4 : Nat) x, Ob.vec true (4 : Nat) (List.map (fun x => List.map C.t x) Y), Ob.vec true (2 : Nat) (List.map (fun x => List.map C.t x) Z)]) (show (List.map (fun x => List.map C.t x) X) = (List.map (List.map C.t) X) by simp))).trans (congrArg (fun x => Out.val (V.agg [V.t (T.bool d), V.t (T.int IntKind.i64 p), V.t (T.int IntKind.i64 e), V.t (T.int IntKind.i64 v), V.vec (0 : Nat) X.length (4 : Nat) (0 : Nat) X.length, V.vec (1 : Nat) Y.length (4 : Nat) (0 : Nat) Y.length, V.vec (2 : Nat) Z.length (2 : Nat) (0 : Nat) Z.length]) [Ob.vec true (4 : Nat) (List.map (List.map C.t) X), Ob.vec true (4 : Nat) x, Ob.vec true (2 : Nat) (List.map (fun x => List.map C.t x) Z)]) (show (List.map (fun x => List.map C.t x) Y) = (List.map (List.map C.t) Y) by simp))).trans (congrArg (fun x => Out.val (V.agg [V.t (T.bool d), V.t (T.int IntKind.i64 p), V.t (T.int IntKind.i64 e), V.t (T.int IntKind.i64 v), V.vec (0 : Nat) X.length (4 : Nat) (0 : Nat) X.length, V.vec (1 : Nat) Y.length (4 : Nat) (0 : Nat) Y.length, V.vec (2 : Nat) Z.length (2 : Nat) (0 : Nat) Z.length]) [Ob.vec true (4 : Nat) (List.map (List.map C.t) X), Ob.vec true (4 : Nat) (List.map (List.map C.t) Y), Ob.vec true (2 : Nat) x]) (show (List.map (fun x => List.map C.t x) Z) = (List.map (List.map C.t) Z) by simp)))
  · let t1 : Tp pr := .b (show (decide ((0 : Nat) + (List.map (fun x => List.map C.t x) X).length ≤ (0 : Nat))) = false by simpa using hc1)
    let t2 : Tp pr := .c (show ((0 : Nat) + (List.map (fun x => List.map C.t x) X).length : Nat) = X.length by simp)
    let t3 : Tp pr := .n .crows (show ([].append (List.map (fun x => List.map C.t x) X)) = List.map (fun x => List.map C.t x) X by simp)
    let t4 : Tp pr := .m (show (decide ((0 : Nat) = (0 : Nat) ∧ (0 : Nat) ≤ (0 : Nat) ∧ (0 : Nat) + (List.map (fun x => List.map C.t x) Y).length ≤ (4294967296 : Nat))) = true by (simp; omega))
    by_cases hc5 : Y = []
    · let t5 : Tp pr := .b (show (decide ((0 : Nat) + (List.map (fun x => List.map C.t x) Y).length ≤ (0 : Nat))) = true by simpa using hc5)
      let t6 : Tp pr := .c (show ((0 : Nat) + (List.map (fun x => List.map C.t x) Y).length : Nat) = Y.length by simp)
      let t7 : Tp pr := .n .crows (show (([].append (List.map (fun x => List.map C.t x) Y)).append (List.drop ((0 : Nat) + (List.map (fun x => List.map C.t x) Y).length) [])) = List.map (fun x => List.map C.t x) Y by simp)
      let t8 : Tp pr := .m (show (decide ((0 : Nat) = (0 : Nat) ∧ (0 : Nat) ≤ (0 : Nat) ∧ (0 : Nat) + (List.map (fun x => List.map C.t x) Z).length ≤ (4294967296 : Nat))) = true by (simp; omega))
      by_cases hc9 : Z = []
      · let t9 : Tp pr := .b (show (decide ((0 : Nat) + (List.map (fun x => List.map C.t x) Z).length ≤ (0 : Nat))) = true by simpa using hc9)
        let t10 : Tp pr := .c (show ((0 : Nat) + (List.map (fun x => List.map C.t x) Z).length : Nat) = Z.length by simp)
        let t11 : Tp pr := .n .crows (show (([].append (List.map (fun x => List.map C.t x) Z)).append (List.drop ((0 : Nat) + (List.map (fun x => List.map C.t x) Z).length) [])) = List.map (fun x => List.map C.t x) Z by simp)
        exact .tpe [t0, t1, t2, t3, t4, t5, t6, t7, t8, t9, t10, t11] (Out.val (V.agg [V.t (T.bool d), V.t (T.int IntKind.i64 p), V.t (T.int IntKind.i64 e), V.t (T.int IntKind.i64 v), V.vec (0 : Nat) X.length (4 : Nat) (0 : Nat) X.length, V.vec (1 : Nat) (0 : Nat) (4 : Nat) (0 : Nat) Y.length, V.vec (2 : Nat) (0 : Nat) (2 : Nat) (0 : Nat) Z.length]) [Ob.vec true (4 : Nat) (List.map (fun x => List.map C.t x) X), Ob.vec true (4 : Nat) (List.map (fun x => List.map C.t x) Y), Ob.vec true (2 : Nat) (List.map (fun x => List.map C.t x) Z)]) (by kernel_rfl) (((((congrArg (fun x => Out.val (V.agg [V.t (T.bool d), V.t (T.int IntKind.i64 p), V.t (T.int IntKind.i64 e), V.t (T.int IntKind.i64 v), V.vec (0 : Nat) X.length (4 : Nat) (0 : Nat) X.length, V.vec (1 : Nat) x (4 : Nat) (0 : Nat) Y.length, V.vec (2 : Nat) (0 : Nat) (2 : Nat) (0 : Nat) Z.length]) [Ob.vec true (4 : Nat) (List.map (fun x => List.map C.t x) X), Ob.vec true (4 : Nat) (List.map (fun x => List.map C.t x) Y), Ob.vec true (2 : Nat) (List.map (fun x => List.map C.t x) Z)]) (show ((0 : Nat)) = (Y.length) by simp [*])).trans (congrArg (fun x => Out.val (V.agg [V.t (T.bool d), V.t (T.int IntKind.i64 p), V.t (T.int IntKind.i64 e), V.t (T.int IntKind.i64 v), V.vec (0 : Nat) X.length (4 : Nat) (0 : Nat) X.length, V.vec (1 : Nat) Y.length (4 : Nat) (0 : Nat) Y.length, V.vec (2 : Nat) x (2 : Nat) (0 : Nat) Z.length]) [Ob.vec true (4 : Nat) (List.map (fun x => List.map C.t x) X), Ob.vec true (4 : Nat) (List.map (fun x => List.map C.t x) Y), Ob.vec true (2 : Nat) (List.map (fun x => List.map C.t x) Z)]) (show ((0 : Nat)) = (Z.length) by simp [*]))).trans (congrArg (fun x => Out.val (V.agg [V.t (T.bool d), V.t (T.int IntKind.i64 p), V.t (T.int IntKind.i64 e), V.t (T.int IntKind.i64 v), V.vec (0 : Nat) X.length (4 : Nat) (0 : Nat) X.length, V.vec (1 : Nat) Y.length (4 : Nat) (0 : Nat) Y.length, V.vec (2 : Nat) Z.length (2 : Nat) (0 : Nat) Z.length]) [Ob.vec true (4 : Nat) x, Ob.vec true (4 : Nat) (List.map (fun x => List.map C.t x) Y), Ob.vec true (2 : Nat) (List.map (fun x => List.map C.t x) Z)]) (show (List.map (fun x => List.map C.t x) X) = (List.map (List.map C.t) X) by simp))).trans (congrArg (fun x => Out.val (V.agg [V.t (T.bool d), V.t (T.int IntKind.i64 p), V.t (T.int IntKind.i64 e), V.t (T.int IntKind.i64 v), V.vec (0 : Nat) X.length (4 : Nat) (0 : Nat) X.length, V.vec (1 : Nat) Y.length (4 : Nat) (0 : Nat) Y.length, V.vec (2 : Nat) Z.length (2 : Nat) (0 : Nat) Z.length]) [Ob.vec true (4 : Nat) (List.map (List.map C.t) X), Ob.vec true (4 : Nat) x, Ob.vec true (2 : Nat) (List.map (fun x => List.map C.t x) Z)]) (show (List.map (fun x => List.map C.t x) Y) = (List.map (List.map C.t) Y) by simp))).trans (congrArg (fun x => Out.val (V.agg [V.t (T.bool d), V.t (T.int IntKind.i64 p), V.t (T.int IntKind.i64 e), V.t (T.int IntKind.i64 v), V.vec (0 : Nat) X.length (4 : Nat) (0 : Nat) X.length, V.vec (1 : Nat) Y.length (4 : Nat) (0 : Nat) Y.length, V.vec (2 : Nat) Z.length (2 : Nat) (0 : Nat) Z.length]) [Ob.vec true (4 : Nat) (List.map (List.map C.t) X), Ob.vec true (4 : Nat) (List.map (List.map C.t) Y), Ob.vec true (2 : Nat) x]) (show (List.map (fun x => List.map C.t x) Z) = (List.map (List.map C.t) Z) by simp)))
      · let t9 : Tp pr := .b (show (decide ((0 : Nat) + (List.map (fun x => List.map C.t x) Z).length ≤ (0 : Nat))) = false by simpa using hc9)
        let t10 : Tp pr := .c (show ((0 : Nat) + (List.map (fun x => List.map C.t x) Z).length : Nat) = Z.length by simp)
        let t11 : Tp pr := .n .crows (show ([].append (List.map (fun x => List.map C.t x) Z)) = List.map (fun x => List.map C.t x) Z by simp)
        exact .tpe [t0, t1, t2, t3, t4, t5, t6, t7, t8, t9, t10, t11] (Out.val (V.agg [V.t (T.bool d), V.t (T.int IntKind.i64 p), V.t (T.int IntKind.i64 e), V.t (T.int IntKind.i64 v), V.vec (0 : Nat) X.length (4 : Nat) (0 : Nat) X.length, V.vec (1 : Nat) (0 : Nat) (4 : Nat) (0 : Nat) Y.length, V.vec (2 : Nat) Z.length (2 : Nat) (0 : Nat) Z.length]) [Ob.vec true (4 : Nat) (List.map (fun x => List.map C.t x) X), Ob.vec true (4 : Nat) (List.map (fun x => List.map C.t x) Y), Ob.vec true (2 : Nat) (List.map (fun x => List.map C.t x) Z)]) (by kernel_rfl) ((((congrArg (fun x => Out.val (V.agg [V.t (T.bool d), V.t (T.int IntKind.i64 p), V.t (T.int IntKind.i64 e), V.t (T.int IntKind.i64 v), V.vec (0 : Nat) X.length (4 : Nat) (0 : Nat) X.length, V.vec (1 : Nat) x (4 : Nat) (0 : Nat) Y.length, V.vec (2 : Nat) Z.length (2 : Nat) (0 : Nat) Z.length]) [Ob.vec true (4 : Nat) (List.map (fun x => List.map C.t x) X), Ob.vec true (4 : Nat) (List.map (fun x => List.map C.t x) Y), Ob.vec true (2 : Nat) (List.map (fun x => List.map C.t x) Z)]) (show ((0 : Nat)) = (Y.length) by simp [*])).trans (congrArg (fun x => Out.val (V.agg [V.t (T.bool d), V.t (T.int IntKind.i64 p), V.t (T.int IntKind.i64 e), V.t (T.int IntKind.i64 v), V.vec (0 : Nat) X.length (4 : Nat) (0 : Nat) X.length, V.vec (1 : Nat) Y.length (4 : Nat) (0 : Nat) Y.length, V.vec (2 : Nat) Z.length (2 : Nat) (0 : Nat) Z.length]) [Ob.vec true (4 : Nat) x, Ob.vec true (4 : Nat) (List.map (fun x => List.map C.t x) Y), Ob.vec true (2 : Nat) (List.map (fun x => List.map C.t x) Z)]) (show (List.map (fun x => List.map C.t x) X) = (List.map (List.map C.t) X) by simp))).trans (congrArg (fun x => Out.val (V.agg [V.t (T.bool d), V.t (T.int IntKind.i64 p), V.t (T.int IntKind.i64 e), V.t (T.int IntKind.i64 v), V.vec (0 : Nat) X.length (4 : Nat) (0 : Nat) X.length, V.vec (1 : Nat) Y.length (4 : Nat) (0 : Nat) Y.length, V.vec (2 : Nat) Z.length (2 : Nat) (0 : Nat) Z.length]) [Ob.vec true (4 : Nat) (List.map (List.map C.t) X), Ob.vec true (4 : Nat) x, Ob.vec true (2 : Nat) (List.map (fun x => List.map C.t x) Z)]) (show (List.map (fun x => List.map C.t x) Y) = (List.map (List.map C.t) Y) by simp))).trans (congrArg (fun x => Out.val (V.agg [V.t (T.bool d), V.t (T.int IntKind.i64 p), V.t (T.int IntKind.i64 e), V.t (T.int IntKind.i64 v), V.vec (0 : Nat) X.length (4 : Nat) (0 : Nat) X.length, V.vec (1 : Nat) Y.length (4 : Nat) (0 : Nat) Y.length, V.vec (2 : Nat) Z.length (2 : Nat) (0 : Nat) Z.length]) [Ob.vec true (4 : Nat) (List.map (List.map C.t) X), Ob.vec true (4 : Nat) (List.map (List.map C.t) Y), Ob.vec true (2 : Nat) x]) (show (List.map (fun x => List.map C.t x) Z) = (List.map (List.map C.t) Z) by simp)))
    · let t5 : Tp pr := .b (show (decide ((0 : Nat) + (List.map (fun x => List.map C.t x) Y).length ≤ (0 : Nat))) = false by simpa using hc5)
      let t6 : Tp pr := .c (show ((0 : Nat) + (List.map (fun x => List.map C.t x) Y).length : Nat) = Y.length by simp)
      let t7 : Tp pr := .n .crows (show ([].append (List.map (fun x => List.map C.t x) Y)) = List.map (fun x => List.map C.t x) Y by simp)
      let t8 : Tp pr := .m (show (decide ((0 : Nat) = (0 : Nat) ∧ (0 : Nat) ≤ (0 : Nat) ∧ (0 : Nat) + (List.map (fun x => List.map C.t x) Z).length ≤ (4294967296 : Nat))) = true by (simp; omega))
      by_cases hc9 : Z = []
      · let t9 : Tp pr := .b (show (decide ((0 : Nat) + (List.map (fun x => List.map C.t x) Z).length ≤ (0 : Nat))) = true by simpa using hc9)
        let t10 : Tp pr := .c (show ((0 : Nat) + (List.map (fun x => List.map C.t x) Z).length : Nat) = Z.length by simp)
        let t11 : Tp pr := .n .crows (show (([].append (List.map (fun x => List.map C.t x) Z)).append (List.drop ((0 : Nat) + (List.map (fun x => List.map C.t x) Z).length) [])) = List.map (fun x => List.map C.t x) Z by simp)
        exact .tpe [t0, t1, t2, t3, t4, t5, t6, t7, t8, t9, t10, t11] (Out.val (V.agg [V.t (T.bool d), V.t (T.int IntKind.i64 p), V.t (T.int IntKind.i64 e), V.t (T.int IntKind.i64 v), V.vec (0 : Nat) X.length (4 : Nat) (0 : Nat) X.length, V.vec (1 : Nat) Y.length (4 : Nat) (0 : Nat) Y.length, V.vec (2 : Nat) (0 : Nat) (2 : Nat) (0 : Nat) Z.length]) [Ob.vec true (4 : Nat) (List.map (fun x => List.map C.t x) X), Ob.vec true (4 : Nat) (List.map (fun x => List.map C.t x) Y), Ob.vec true (2 : Nat) (List.map (fun x => List.map C.t x) Z)]) (by kernel_rfl) ((((congrArg (fun x => Out.val (V.agg [V.t (T.bool d), V.t (T.int IntKind.i64 p), V.t (T.int IntKind.i64 e), V.t (T.int IntKind.i64 v), V.vec (0 : Nat) X.length (4 : Nat) (0 : Nat) X.length, V.vec (1 : Nat) Y.length (4 : Nat) (0 : Nat) Y.length, V.vec (2 : Nat) x (2 : Nat) (0 : Nat) Z.length]) [Ob.vec true (4 : Nat) (List.map (fun x => List.map C.t x) X), Ob.vec true (4 : Nat) (List.map (fun x => List.map C.t x) Y), Ob.vec true (2 : Nat) (List.map (fun x => List.map C.t x) Z)]) (show ((0 : Nat)) = (Z.length) by simp [*])).trans (congrArg (fun x => Out.val (V.agg [V.t (T.bool d), V.t (T.int IntKind.i64 p), V.t (T.int IntKind.i64 e), V.t (T.int IntKind.i64 v), V.vec (0 : Nat) X.length (4 : Nat) (0 : Nat) X.length, V.vec (1 : Nat) Y.length (4 : Nat) (0 : Nat) Y.length, V.vec (2 : Nat) Z.length (2 : Nat) (0 : Nat) Z.length]) [Ob.vec true (4 : Nat) x, Ob.vec true (4 : Nat) (List.map (fun x => List.map C.t x) Y), Ob.vec true (2 : Nat) (List.map (fun x => List.map C.t x) Z)]) (show (List.map (fun x => List.map C.t x) X) = (List.map (List.map C.t) X) by simp))).trans (congrArg (fun x => Out.val (V.agg [V.t (T.bool d), V.t (T.int IntKind.i64 p), V.t (T.int IntKind.i64 e), V.t (T.int IntKind.i64 v), V.vec (0 : Nat) X.length (4 : Nat) (0 : Nat) X.length, V.vec (1 : Nat) Y.length (4 : Nat) (0 : Nat) Y.length, V.vec (2 : Nat) Z.length (2 : Nat) (0 : Nat) Z.length]) [Ob.vec true (4 : Nat) (List.map (List.map C.t) X), Ob.vec true (4 : Nat) x, Ob.vec true (2 : Nat) (List.map (fun x => List.map C.t x) Z)]) (show (List.map (fun x => List.map C.t x) Y) = (List.map (List.map C.t) Y) by simp))).trans (congrArg (fun x => Out.val (V.agg [V.t (T.bool d), V.t (T.int IntKind.i64 p), V.t (T.int IntKind.i64 e), V.t (T.int IntKind.i64 v), V.vec (0 : Nat) X.length (4 : Nat) (0 : Nat) X.length, V.vec (1 : Nat) Y.length (4 : Nat) (0 : Nat) Y.length, V.vec (2 : Nat) Z.length (2 : Nat) (0 : Nat) Z.length]) [Ob.vec true (4 : Nat) (List.map (List.map C.t) X), Ob.vec true (4 : Nat) (List.map (List.map C.t) Y), Ob.vec true (2 : Nat) x]) (show (List.map (fun x => List.map C.t x) Z) = (List.map (List.map C.t) Z) by simp)))
      · let t9 : Tp pr := .b (show (decide ((0 : Nat) + (List.map (fun x => List.map C.t x) Z).length ≤ (0 : Nat))) = false by simpa using hc9)
        let t10 : Tp pr := .c (show ((0 : Nat) + (List.map (fun x => List.map C.t x) Z).length : Nat) = Z.length by simp)
        let t11 : Tp pr := .n .crows (show ([].append (List.map (fun x => List.map C.t x) Z)) = List.map (fun x => List.map C.t x) Z by simp)
        exact .tp [t0, t1, t2, t3, t4, t5, t6, t7, t8, t9, t10, t11] (by kernel_rfl)
section
variable (p e v : Int) (lF : Nat) (F W D : List (List C)) (L KT BT : List (List T)) (b b2 d2 : Bool) (p2 e2 v2 : Int) (lF2 : Nat) (F2 W2 D2 : List (List C))
theorem ls_do (hF2 : lF2 ≤ F2.length) (h : Ev pr (.call 129 [cT L KT BT, mA false p e v lF F W D] (mM F W D)) (.val (.tup [mA d2 p2 e2 v2 lF2 F2 W2 D2, bl b]) (mM F2 W2 D2))) :
    Ev pr (.call 64 [cT L KT BT, mA false p e v lF F W D] (mM F W D)) (.val (.tup [(mF d2 p2 e2 v2 ((List.take lF2 F2).map (List.map C.fz)) (W2.map (List.map C.fz)) (D2.map (List.map C.fz))), bl true, bl b]) [.dead, .dead, .dead]) := by
  have eW : List.take W2.length W2 = W2 := List.take_length
  have eD : List.take D2.length D2 = D2 := List.take_length
  unfold mA mM cT mF at *
  let t2 : Tp pr := .m (show (decide (F2.length = F2.length ∧ (0 : Nat) + lF2 ≤ F2.length)) = true by simp [*])
  let t3 : Tp pr := .n .rows (show (List.map (fun x => List.map C.fz x) (List.take lF2 (List.drop (0 : Nat) F2))) = List.take lF2 (List.map (fun x => List.map C.fz x) F2) by simp)
  let t4 : Tp pr := .m (show (decide (W2.length = W2.length ∧ (0 : Nat) + W2.length ≤ W2.length)) = true by simp)
  let t5 : Tp pr := .n .rows (show (List.map (fun x => List.map C.fz x) (List.take W2.length (List.drop (0 : Nat) W2))) = List.map (fun x => List.map C.fz x) W2 by simp)
  let t6 : Tp pr := .m (show (decide (D2.length = D2.length ∧ (0 : Nat) + D2.length ≤ D2.length)) = true by simp)
  let t7 : Tp pr := .n .rows (show (List.map (fun x => List.map C.fz x) (List.take D2.length (List.drop (0 : Nat) D2))) = List.map (fun x => List.map C.fz x) D2 by simp)
  exact .tpe [.bT, .a (h), t2, t3, t4, t5, t6, t7] (Out.val (V.tup [V.agg [V.t (T.bool d2), V.t (T.int IntKind.i64 p2), V.t (T.int IntKind.i64 e2), V.t (T.int IntKind.i64 v2), V.t (T.seq (4 : Nat) (List.take lF2 (List.map (fun x => List.map C.fz x) F2))), V.t (T.seq (4 : Nat) (List.map (fun x => List.map C.fz x) W2)), V.t (T.seq (2 : Nat) (List.map (fun x => List.map C.fz x) D2))], V.t (T.bool true), V.t (T.bool b)]) [Ob.dead, Ob.dead, Ob.dead]) (by kernel_rfl) (((congrArg (fun x => Out.val (V.tup [V.agg [V.t (T.bool d2), V.t (T.int IntKind.i64 p2), V.t (T.int IntKind.i64 e2), V.t (T.int IntKind.i64 v2), V.t (T.seq (4 : Nat) x), V.t (T.seq (4 : Nat) (List.map (fun x => List.map C.fz x) W2)), V.t (T.seq (2 : Nat) (List.map (fun x => List.map C.fz x) D2))], V.t (T.bool true), V.t (T.bool b)]) [Ob.dead, Ob.dead, Ob.dead]) (show (List.take lF2 (List.map (fun x => List.map C.fz x) F2)) = (List.map (List.map C.fz) (List.take lF2 F2)) by simp)).trans (congrArg (fun x => Out.val (V.tup [V.agg [V.t (T.bool d2), V.t (T.int IntKind.i64 p2), V.t (T.int IntKind.i64 e2), V.t (T.int IntKind.i64 v2), V.t (T.seq (4 : Nat) (List.map (List.map C.fz) (List.take lF2 F2))), V.t (T.seq (4 : Nat) x), V.t (T.seq (2 : Nat) (List.map (fun x => List.map C.fz x) D2))], V.t (T.bool true), V.t (T.bool b)]) [Ob.dead, Ob.dead, Ob.dead]) (show (List.map (fun x => List.map C.fz x) W2) = (List.map (List.map C.fz) W2) by simp))).trans (congrArg (fun x => Out.val (V.tup [V.agg [V.t (T.bool d2), V.t (T.int IntKind.i64 p2), V.t (T.int IntKind.i64 e2), V.t (T.int IntKind.i64 v2), V.t (T.seq (4 : Nat) (List.map (List.map C.fz) (List.take lF2 F2))), V.t (T.seq (4 : Nat) (List.map (List.map C.fz) W2)), V.t (T.seq (2 : Nat) x)], V.t (T.bool true), V.t (T.bool b)]) [Ob.dead, Ob.dead, Ob.dead]) (show (List.map (fun x => List.map C.fz x) D2) = (List.map (List.map C.fz) D2) by simp)))
theorem ls_over : Ev pr (.call 64 [cT L KT BT, mA true p e v 0 F W D] (mM F W D)) (.val (.tup [mF true p e v [] (W.map (List.map C.fz)) (D.map (List.map C.fz)), bl false, bl true]) [.dead, .dead, .dead]) := by
  have eW : List.take W.length W = W := List.take_length
  have eD : List.take D.length D = D := List.take_length
  unfold mA mM cT mF at *
  let t1 : Tp pr := .i (rfl : ((0 : Int) : Int) = (0 : Int))
  let t3 : Tp pr := .m (show (decide (F.length = F.length ∧ (0 : Nat) ≤ F.length)) = true by simp)
  let t5 : Tp pr := .m (show (decide (W.length = W.length ∧ (0 : Nat) + W.length ≤ W.length)) = true by simp)
  let t6 : Tp pr := .n .rows (show (List.map (fun x => List.map C.fz x) (List.take W.length (List.drop (0 : Nat) W))) = List.map (fun x => List.map C.fz x) W by simp)
  let t7 : Tp pr := .m (show (decide (D.length = D.length ∧ (0 : Nat) + D.length ≤ D.length)) = true by simp)
  let t8 : Tp pr := .n .rows (show (List.map (fun x => List.map C.fz x) (List.take D.length (List.drop (0 : Nat) D))) = List.map (fun x => List.map C.fz x) D by simp)
  exact .tp [.bF, t1, .bT, t3, .n .rows (rfl : ([]) = _), t5, t6, t7, t8] (by kernel_rfl)
theorem ls_go (hl : 0 < lF) (hF2 : lF2 ≤ F2.length) (h : Ev pr (.call 130 [cT L KT BT, mA true p e v lF F W D] (mM F W D)) (.val (.tup [mA d2 p2 e2 v2 lF2 F2 W2 D2, bl b, bl b2]) (mM F2 W2 D2))) :
    Ev pr (.call 64 [cT L KT BT, mA true p e v lF F W D] (mM F W D)) (.val (.tup [(mF d2 p2 e2 v2 ((List.take lF2 F2).map (List.map C.fz)) (W2.map (List.map C.fz)) (D2.map (List.map C.fz))), bl b, bl b2]) [.dead, .dead, .dead]) := by
  have eW : List.take W2.length W2 = W2 := List.take_length
  have eD : List.take D2.length D2 = D2 := List.take_length
  unfold mA mM cT mF at *
  let t2 : Tp pr := .b (show (decide ((↑lF : Int) = (0 : Int))) = false by (simp; omega))
  let t4 : Tp pr := .m (show (decide (F2.length = F2.length ∧ (0 : Nat) + lF2 ≤ F2.length)) = true by simp [*])
  let t5 : Tp pr := .n .rows (show (List.map (fun x => List.map C.fz x) (List.take lF2 (List.drop (0 : Nat) F2))) = List.take lF2 (List.map (fun x => List.map C.fz x) F2) by simp)
  let t6 : Tp pr := .m (show (decide (W2.length = W2.length ∧ (0 : Nat) + W2.length ≤ W2.length)) = true by simp)
  let t7 : Tp pr := .n .rows (show (List.map (fun x => List.map C.fz x) (List.take W2.length (List.drop (0 : Nat) W2))) = List.map (fun x => List.map C.fz x) W2 by simp)
  let t8 : Tp pr := .m (show (decide (D2.length = D2.length ∧ (0 : Nat) + D2.length ≤ D2.length)) = true by simp)
  let t9 : Tp pr := .n .rows (show (List.map (fun x => List.map C.fz x) (List.take D2.length (List.drop (0 : Nat) D2))) = List.map (fun x => List.map C.fz x) D2 by simp)
  exact .tpe [.bF, .i (rfl : ((↑lF : Int)) = _), t2, .a (h), t4, t5, t6, t7, t8, t9] (Out.val (V.tup [V.agg [V.t (T.bool d2), V.t (T.int IntKind.i64 p2), V.t (T.int IntKind.i64 e2), V.t (T.int IntKind.i64 v2), V.t (T.seq (4 : Nat) (List.take lF2 (List.map (fun x => List.map C.fz x) F2))), V.t (T.seq (4 : Nat) (List.map (fun x => List.map C.fz x) W2)), V.t (T.seq (2 : Nat) (List.map (fun x => List.map C.fz x) D2))], V.t (T.bool b), V.t (T.bool b2)]) [Ob.dead, Ob.dead, Ob.dead]) (by kernel_rfl) (((congrArg (fun x => Out.val (V.tup [V.agg [V.t (T.bool d2), V.t (T.int IntKind.i64 p2), V.t (T.int IntKind.i64 e2), V.t (T.int IntKind.i64 v2), V.t (T.seq (4 : Nat) x), V.t (T.seq (4 : Nat) (List.map (fun x => List.map C.fz x) W2)), V.t (T.seq (2 : Nat) (List.map (fun x => List.map C.fz x) D2))], V.t (T.bool b), V.t (T.bool b2)]) [Ob.dead, Ob.dead, Ob.dead]) (show (List.take lF2 (List.map (fun x => List.map C.fz x) F2)) = (List.map (List.map C.fz) (List.take lF2 F2)) by simp)).trans (congrArg (fun x => Out.val (V.tup [V.agg [V.t (T.bool d2), V.t (T.int IntKind.i64 p2), V.t (T.int IntKind.i64 e2), V.t (T.int IntKind.i64 v2), V.t (T.seq (4 : Nat) (List.map (List.map C.fz) (List.take lF2 F2))), V.t (T.seq (4 : Nat) x), V.t (T.seq (2 : Nat) (List.map (fun x => List.map C.fz x) D2))], V.t (T.bool b), V.t (T.bool b2)]) [Ob.dead, Ob.dead, Ob.dead]) (show (List.map (fun x => List.map C.fz x) W2) = (List.map (List.map C.fz) W2) by simp))).trans (congrArg (fun x => Out.val (V.tup [V.agg [V.t (T.bool d2), V.t (T.int IntKind.i64 p2), V.t (T.int IntKind.i64 e2), V.t (T.int IntKind.i64 v2), V.t (T.seq (4 : Nat) (List.map (List.map C.fz) (List.take lF2 F2))), V.t (T.seq (4 : Nat) (List.map (List.map C.fz) W2)), V.t (T.seq (2 : Nat) x)], V.t (T.bool b), V.t (T.bool b2)]) [Ob.dead, Ob.dead, Ob.dead]) (show (List.map (fun x => List.map C.fz x) D2) = (List.map (List.map C.fz) D2) by simp)))
end
theorem cell_atS {c : Cd} {p : Int} {x : Cell} {b : Nat} {ks : List Int} (h : PlaceOk c p.toNat x b ks) (h0 : 0 ≤ p) : lkp (c.cells.map Cell.ce) p = some x.ce ∧ p < (c.cells.map Cell.ce).length := by
  have := (List.getElem?_eq_some_iff.1 h.cell).1
  exact ⟨lkp_get _ h0 h.cell, by simp; omega⟩
theorem kids_at {c : Cd} {p : Int} {x : Cell} {b : Nat} {ks : List Int} (h : PlaceOk c p.toNat x b ks) (h0 : 0 ≤ p) (ha : 0 < arity x.kind) :
    p < (c.kids.map kT).length ∧ lkp (c.kids.map kT) p = some [.seq 1 (ks.map intt)] ∧ ((ks.map intt).length : Int) = arity x.kind ∧ ∀ i : Nat, (i : Int) < arity x.kind → lkp (ks.map intt) (i : Int) = some [.int .i64 (c.kid p i)] := by
  have hm := h.many
  have hk := (List.getElem?_eq_some_iff.1 h.kids).1
  have hne : ks ≠ [] := fun e => by rw [e] at hm; simp at hm; omega
  refine ⟨by simp; omega, ?_, by simpa using hm, fun i hi => ?_⟩
  · have := lkp_get kT h0 h.kids
    rw [this]
    simp [kT, hne]
  · have hi' : i < ks.length := by omega
    rw [h.kid i]
    simp [lkp, intt, List.getD_eq_getElem?_getD, List.getElem?_eq_getElem hi']
def stA (m : Mc) (F : List (List C)) : V := mA m.done m.pl m.env m.val m.frs.length F (m.vals.map Vl.cc) (m.bds.map Bd.cc)
def stM (m : Mc) (F : List (List C)) : List Ob := mM F (m.vals.map Vl.cc) (m.bds.map Bd.cc)
def frR (m : Mc) : List (List C) := m.frs.reverse.map Frm.cc
def StepS (c : Cd) (m : Mc) (b b2 : Bool) (P : Bool → Int → Int → Int → List (List T) → List (List T) → List (List T) → Prop) : Prop :=
  ∃ d p e v X Y Z, X.length ≤ 501 ∧ Y.length ≤ 501 ∧ Z.length ≤ 501 ∧ P d p e v X Y Z ∧
    Ev pr (.call 64 [cT (c.cells.map Cell.ce) (c.kids.map kT) (c.bounds.map intt), stA m (frR m)] (stM m (frR m))) (.val (.tup [mF d p e v X Y Z, bl b, bl b2]) [.dead, .dead, .dead])
def isM (m : Mc) (d : Bool) (p e v : Int) (X Y Z : List (List T)) : Prop :=
  d = m.done ∧ p = m.pl ∧ e = m.env ∧ v = m.val ∧ X = m.frs.reverse.map Frm.ce ∧ Y = m.vals.map Vl.ce ∧ Z = m.bds.map Bd.ce
theorem frm_fz (l : List Frm) : (l.map Frm.cc).map (List.map C.fz) = l.map Frm.ce := by simp [Frm.cc, Frm.ce, C.fz, Function.comp_def]
theorem vl_fz (l : List Vl) : (l.map Vl.cc).map (List.map C.fz) = l.map Vl.ce := by simp [Vl.cc, Vl.ce, C.fz, Function.comp_def]
theorem bd_fz (l : List Bd) : (l.map Bd.cc).map (List.map C.fz) = l.map Bd.ce := by simp [Bd.cc, Bd.ce, C.fz, Function.comp_def]
def StepR (c : Cd) (m : Mc) : Sr → Prop
  | .ok m' => StepS c m true true (isM m')
  | .no => StepS c m false true fun _ _ _ _ _ _ _ => True
  | .full => StepS c m true false fun _ _ _ _ _ _ _ => True
theorem l6Do_step (c : Cd) (hc : CdOk c) (m : Mc) (g : MGood c m) (hd : m.done = false) : StepR c m (m.begin c) := by
  obtain ⟨hv, hf⟩ := g.todo hd
  obtain ⟨x, b, ks, hp⟩ := hf.place hc
  have hch := hf.chain hp
  obtain ⟨hlk, hpl⟩ := cell_atS hp hf.pl
  have hgd := hp.good
  have hL : (c.cells.map Cell.ce).length ≤ 600 := by simpa using hc.len
  have lv := g.lv
  have lb := g.lb
  have lf := g.lf
  have lF0 : m.frs.length = (frR m).length := by simp [frR]
  have lv1 : m.vals.length ≤ 501 := by omega
  have lb1 : m.bds.length ≤ 501 := by omega
  have lf1 : m.frs.length ≤ 501 := by omega
  have same : ∀ (b2 : Bool),
      Ev pr (.call 129 [cT (c.cells.map Cell.ce) (c.kids.map kT) (c.bounds.map intt), stA m (frR m)] (stM m (frR m))) (.val (.tup [stA m (frR m), bl b2]) (stM m (frR m))) → StepS c m true b2 (fun _ _ _ _ _ _ _ => True) := fun b2 h => by
    refine ⟨m.done, m.pl, m.env, m.val, (List.take m.frs.length (frR m)).map (List.map C.fz), (m.vals.map Vl.cc).map (List.map C.fz), (m.bds.map Bd.cc).map (List.map C.fz), by simp; omega, by simp; omega, by simp; omega, trivial, ?_⟩
    unfold stA stM at h ⊢
    rw [hd] at h ⊢
    exact ls_do _ _ _ _ _ _ _ _ _ _ _ _ _ _ _ _ _ _ _ (by omega) h
  have go : ∀ (m' : Mc), m'.frs.length ≤ 501 → m'.vals.length ≤ 501 → m'.bds.length ≤ 501 →
      Ev pr (.call 129 [cT (c.cells.map Cell.ce) (c.kids.map kT) (c.bounds.map intt), stA m (frR m)] (stM m (frR m))) (.val (.tup [stA m' (frR m'), bl true]) (stM m' (frR m'))) → StepS c m true true (isM m') := fun m' l1 l2 l3 h => by
    have lF1 : m'.frs.length = (frR m').length := by simp [frR]
    refine ⟨m'.done, m'.pl, m'.env, m'.val, (List.take m'.frs.length (frR m')).map (List.map C.fz), (m'.vals.map Vl.cc).map (List.map C.fz), (m'.bds.map Bd.cc).map (List.map C.fz), by simp; omega, by simpa using l2, by simpa using l3, ⟨rfl, rfl, rfl, rfl, by rw [lF1, List.take_length]; exact frm_fz _, vl_fz _, bd_fz _⟩, ?_⟩
    unfold stA stM at h ⊢
    rw [hd] at h ⊢
    exact ls_do _ _ _ _ _ _ _ _ _ _ _ _ _ _ _ _ _ _ _ (by omega) h
  unfold Mc.begin
  rw [hp.at_]
  have hkids := kids_at hp hf.pl
  obtain ⟨xk, xn⟩ := x
  dsimp only at *
  by_cases h2 : xk = 2
  · subst h2
    rw [if_pos rfl]
    unfold Mc.new
    by_cases hl : m.vals.length = 500
    · rw [if_pos hl]
      exact same false (doNumN _ _ _ _ _ _ _ _ _ _ _ _ hlk hf.pl hpl (by simpa using hl))
    · rw [if_neg hl]
      refine go _ lf1 (by simp [Mc.come]; omega) lb1 ?_
      have := doNumY m.done m.pl m.env m.val m.frs.length (frR m) (m.vals.map Vl.cc) (m.bds.map Bd.cc) (c.cells.map Cell.ce) (c.kids.map kT) (c.bounds.map intt) xn hlk hf.pl hpl (by simp; omega)
      simpa [stA, stM, frR, Mc.come] using this
  · rw [if_neg h2]
    by_cases h3 : xk = 3
    · subst h3
      rw [if_pos rfl]
      unfold Mc.new
      by_cases hl : m.vals.length = 500
      · rw [if_pos hl]
        exact same false (doLamN _ _ _ _ _ _ _ _ _ _ _ _ hlk hf.pl hpl (by simpa using hl))
      · rw [if_neg hl]
        refine go _ lf1 (by simp [Mc.come]; omega) lb1 ?_
        have := doLamY m.done m.pl m.env m.val m.frs.length (frR m) (m.vals.map Vl.cc) (m.bds.map Bd.cc) (c.cells.map Cell.ce) (c.kids.map kT) (c.bounds.map intt) xn hlk hf.pl hpl (by simp; omega)
        simpa [stA, stM, frR, Mc.come] using this
    · rw [if_neg h3]
      by_cases h1 : xk = 1
      · subst h1
        rw [if_pos rfl]
        have hvar := hp.var rfl
        have hge : 0 ≤ xn ∧ xn ≤ 99 := by
          rw [cellGood, if_pos rfl] at hgd
          exact of_decide_eq_true hgd
        obtain ⟨k, rfl⟩ : ∃ k : Nat, xn = k := ⟨xn.toNat, by omega⟩
        simp only [Int.toNat_natCast] at *
        have hcc : BChain m.bds m.env (k + (b - k - 1 + 1)) := by
          rw [show k + (b - k - 1 + 1) = b by omega]; exact hch
        have hc2 := chain_upN k _ m.env hcc
        obtain ⟨h0, bb, hbb, _⟩ := hc2.up
        have hbd := hc2.bd
        refine go _ lf1 lv1 lb1 ?_
        have gl := dv_all m.done m.pl m.env m.val m.frs.length (frR m) (m.vals.map Vl.cc) m.bds k m.env _ (by omega) hcc
        have := doVar m.done m.pl m.env m.val m.frs.length (frR m) (m.vals.map Vl.cc) (m.bds.map Bd.cc) (c.cells.map Cell.ce) (c.kids.map kT) (c.bounds.map intt) k (upN m.bds k m.env) bb.val bb.up hlk hf.pl hpl h0 (by simpa using hbd.2) (by simp [hbb]) gl
        simpa [stA, stM, frR, Mc.come, hbb] using this
      · rw [if_neg h1]
        rw [cellGood, if_neg h1, if_neg h2] at hgd
        obtain ⟨ha, hn⟩ := of_decide_eq_true hgd
        dsimp only at hn ha
        subst hn
        obtain ⟨hk1, hk2, hk3, hk4⟩ := hkids ha
        by_cases hl : m.frs.length = 500
        · rw [if_pos hl]
          exact same false (doOtherN _ _ _ _ _ _ _ _ _ _ _ xk ⟨h1, h2, h3⟩ hlk hf.pl hpl hl (by omega))
        · rw [if_neg hl]
          refine go _ (by simp [Mc.next]; omega) lv1 lb1 ?_
          have hk0 := hk4 0 (by omega)
          have e0 : c.kid m.pl 0 = m.pl + 1 := by
            rw [hp.kid 0, List.getD_eq_getElem?_getD]
            have hl0 : 0 < ks.length := by have := hp.many; dsimp only at this; omega
            have hg := List.getElem?_eq_getElem hl0
            obtain ⟨q, s, h1, _, _, h4, _⟩ := hp.part 0 _ hg
            rw [hg, Option.getD_some, h1, h4 rfl]
            have := hf.pl
            omega
          rw [e0] at hk0
          have := doOtherY m.done m.pl m.env m.val (frR m) (m.vals.map Vl.cc) (m.bds.map Bd.cc) (c.cells.map Cell.ce) (c.kids.map kT) (c.bounds.map intt) xk ⟨h1, h2, h3⟩ hlk hf.pl hpl hL (by omega) _ hk2 hk1 _ hk0 (by omega)
          rw [← lF0] at this
          simpa [stA, stM, frR, Mc.next] using this
end Go.Ev

namespace Go.Ev
set_option linter.unusedVariables false
set_option linter.unusedSimpArgs false
open Go.Proofs
set_option maxRecDepth 100000
set_option maxHeartbeats 4000000
theorem l6Go_step (c : Cd) (hc : CdOk c) (m : Mc) (g : MGood c m) (hd : m.done = true) (f : Frm) (r : List Frm) (hfr : m.frs = f :: r) : StepR c m (m.goOn c f r) := by
  obtain ⟨_, _, hv0, hv1⟩ := g.did hd
  have hf := g.frs f (by rw [hfr]; simp)
  obtain ⟨x, b, ks, hp⟩ := hf.fits.place hc
  have hxk : x.kind = f.kind := by rw [← hf.kind, hp.at_]
  have hone := hf.one
  have h0 := hf.fits.pl
  have ha2 : 2 ≤ arity x.kind := by rw [hxk]; rcases hone with e | e | e | e <;> rw [e] <;> decide
  obtain ⟨hk1, hk2, hk3, hk4⟩ := kids_at hp h0 (by omega)
  have hkid1 := hk4 1 (by omega)
  have hkid2 : arity x.kind = 3 → lkp (ks.map intt) 2 = some [.int .i64 (c.kid f.pl 2)] := fun e => hk4 2 (by omega)
  clear hk4
  have gv : (m.vals.map Vl.cc)[m.val.toNat]? = some (m.vl m.val).cc := by
    have : m.val.toNat < m.vals.length := by omega
    simp [Mc.vl, List.getD_eq_getElem?_getD, List.getElem?_eq_getElem this]
  have gvl := vl_ok g hv0 hv1
  have lv := g.lv
  have lb := g.lb
  have lf := g.lf
  rw [hfr, List.length_cons] at lf
  have lvm : (m.vals.map Vl.cc).length ≤ 500 := by simpa using lv
  have lbm : (m.bds.map Bd.cc).length ≤ 500 := by simpa using lb
  have hv1m : m.val < ((m.vals.map Vl.cc).length : Int) := by simpa using hv1
  have lP : (r.reverse.map Frm.cc).length = r.length := by simp
  have hF : (r.reverse.map Frm.cc ++ [f.cc]).length ≤ 500 := by simp; omega
  have hm : frR m = r.reverse.map Frm.cc ++ [f.cc] := by simp [frR, hfr]
  have hlen : m.frs.length = (r.reverse.map Frm.cc).length + 1 := by simp [hfr]
  have vlc : ∀ k, Vl.cc (m.vl k) = Vl.cc ⟨(m.vl k).fn, (m.vl k).num, (m.vl k).pl, (m.vl k).env⟩ := fun k => rfl
  have hks1 : 1 < (ks.map intt).length := by omega
  -- what is told is not looked at
  have lost : ∀ (bb bc : Bool), Ev pr (.call 130 [cT (c.cells.map Cell.ce) (c.kids.map kT) (c.bounds.map intt), mA m.done m.pl m.env m.val ((r.reverse.map Frm.cc).length + 1) (r.reverse.map Frm.cc ++ [f.cc]) (m.vals.map Vl.cc) (m.bds.map Bd.cc)] (mM (r.reverse.map Frm.cc ++ [f.cc]) (m.vals.map Vl.cc) (m.bds.map Bd.cc)))
      (.val (.tup [mA m.done m.pl m.env m.val (r.reverse.map Frm.cc).length (r.reverse.map Frm.cc ++ [f.cc]) (m.vals.map Vl.cc) (m.bds.map Bd.cc), bl bb, bl bc]) (mM (r.reverse.map Frm.cc ++ [f.cc]) (m.vals.map Vl.cc) (m.bds.map Bd.cc))) → StepS c m bb bc (fun _ _ _ _ _ _ _ => True) := fun bb bc h => by
    refine ⟨m.done, m.pl, m.env, m.val, (List.take (r.reverse.map Frm.cc).length (r.reverse.map Frm.cc ++ [f.cc])).map (List.map C.fz), (m.vals.map Vl.cc).map (List.map C.fz), (m.bds.map Bd.cc).map (List.map C.fz), by simp; omega, by simp; omega, by simp; omega, trivial, ?_⟩
    unfold stA stM
    rw [hm, hlen]
    rw [hd] at h ⊢
    exact ls_go _ _ _ _ _ _ _ _ _ _ _ _ _ _ _ _ _ _ _ _ (by omega) (by simp) h
  have gone : ∀ (m' : Mc) (F' : List (List C)), m'.frs.length ≤ F'.length → F'.length ≤ 501 → m'.vals.length ≤ 501 → m'.bds.length ≤ 501 → F'.take m'.frs.length = frR m' →
      Ev pr (.call 130 [cT (c.cells.map Cell.ce) (c.kids.map kT) (c.bounds.map intt), mA m.done m.pl m.env m.val ((r.reverse.map Frm.cc).length + 1) (r.reverse.map Frm.cc ++ [f.cc]) (m.vals.map Vl.cc) (m.bds.map Bd.cc)] (mM (r.reverse.map Frm.cc ++ [f.cc]) (m.vals.map Vl.cc) (m.bds.map Bd.cc)))
      (.val (.tup [mA m'.done m'.pl m'.env m'.val m'.frs.length F' (m'.vals.map Vl.cc) (m'.bds.map Bd.cc), bl true, bl true]) (mM F' (m'.vals.map Vl.cc) (m'.bds.map Bd.cc))) → StepS c m true true (isM m') := fun m' F' l0 l1 l2 l3 ht h => by
    refine ⟨m'.done, m'.pl, m'.env, m'.val, (List.take m'.frs.length F').map (List.map C.fz), (m'.vals.map Vl.cc).map (List.map C.fz), (m'.bds.map Bd.cc).map (List.map C.fz), by simp; omega, by simpa using l2, by simpa using l3, ⟨rfl, rfl, rfl, rfl, by rw [ht]; exact frm_fz _, vl_fz _, bd_fz _⟩, ?_⟩
    unfold stA stM
    rw [hm, hlen]
    rw [hd] at h ⊢
    exact ls_go _ _ _ _ _ _ _ _ _ _ _ _ _ _ _ _ _ _ _ _ (by omega) l0 h
  have tk : ∀ y : List C, List.take r.length (r.reverse.map Frm.cc ++ [y]) = r.reverse.map Frm.cc := fun y => List.take_left' (by simp)
  have lF1 : r.length ≤ (r.reverse.map Frm.cc ++ [f.cc]).length := by simp
  have lF5 : (r.reverse.map Frm.cc ++ [f.cc]).length ≤ 501 := by omega
  have lv1 : m.vals.length ≤ 501 := by omega
  have lb1 : m.bds.length ≤ 501 := by omega
  have hnone := hf.none
  have hval := hf.val
  obtain ⟨fk, fa, fe, fv⟩ := f
  dsimp only at *
  unfold Mc.goOn
  dsimp only
  by_cases h7 : fk = 7
  · subst h7
    obtain rfl : fv = -1 := hnone (.inr rfl)
    rw [if_pos rfl]
    unfold Mc.bind
    dsimp only
    by_cases hl : m.bds.length = 500
    · rw [if_pos hl]
      exact lost true false (gLetN _ _ _ _ _ _ _ _ _ _ fa fe _ _ _ _ _ _ h0 hk1 hk2 hks1 hkid1 hv0 hv1m gv lvm lbm hF (by simpa using hl))
    · rw [if_neg hl]
      refine gone _ (r.reverse.map Frm.cc ++ [Frm.cc ⟨7, fa, fe, -1⟩]) lF1 lF5 lv1 (by simp [Mc.next]; omega) (tk _) ?_
      have := gLetY m.done m.pl m.env m.val (r.reverse.map Frm.cc) (m.vals.map Vl.cc) (m.bds.map Bd.cc) (c.cells.map Cell.ce) (c.kids.map kT) (c.bounds.map intt) fa fe _ _ _ _ _ _ h0 hk1 hk2 hks1 hkid1 hv0 hv1m gv lvm lbm hF (by simp; omega)
      simpa [Mc.next] using this
  rw [if_neg h7]
  by_cases h6 : fk = 6
  · subst h6
    obtain rfl : fv = -1 := hnone (.inl rfl)
    rw [if_pos rfl]
    by_cases hfn : (m.vl m.val).fn = true
    · rw [if_pos hfn]
      rw [vlc, hfn] at gv
      exact lost false true (gIfF _ _ _ _ _ _ _ _ _ _ fa fe _ _ _ _ _ h0 hk1 hk2 hks1 hkid1 hv0 hv1m gv lvm lbm hF)
    · rw [if_neg hfn]
      have hfn' : (m.vl m.val).fn = false := by simpa using hfn
      rw [vlc, hfn'] at gv
      refine gone _ (r.reverse.map Frm.cc ++ [Frm.cc ⟨6, fa, fe, -1⟩]) lF1 lF5 lv1 lb1 (tk _) ?_
      by_cases hz : (m.vl m.val).num = 0
      · rw [if_pos hz]
        have := gIf0 m.done m.pl m.env m.val (r.reverse.map Frm.cc) (m.vals.map Vl.cc) (m.bds.map Bd.cc) (c.cells.map Cell.ce) (c.kids.map kT) (c.bounds.map intt) fa fe _ _ _ _ _ h0 hk1 hk2 hks1 hkid1 hv0 hv1m gv lvm lbm hF hz
        simpa [Mc.next] using this
      · rw [if_neg hz]
        have h3 : arity x.kind = 3 := by rw [hxk]; decide
        have := gIf1 m.done m.pl m.env m.val (r.reverse.map Frm.cc) (m.vals.map Vl.cc) (m.bds.map Bd.cc) (c.cells.map Cell.ce) (c.kids.map kT) (c.bounds.map intt) fa fe _ _ _ _ _ h0 hk1 hk2 hks1 hkid1 hv0 hv1m gv lvm lbm hF hz _ (by omega) (hkid2 h3)
        simpa [Mc.next] using this
  rw [if_neg h6]
  clear hkid2
  have h45 : fk = 4 ∨ fk = 5 := by omega
  have hfv := hval h45
  by_cases hneg : fv < 0
  · have efv : fv = -1 := by omega
    subst efv
    rw [if_pos hneg]
    refine gone _ (r.reverse.map Frm.cc ++ [Frm.cc ⟨fk, fa, fe, m.val⟩]) (by simp [Mc.next]) (by simp; omega) lv1 lb1 (by
      simp only [Mc.next, frR, List.reverse_cons, List.map_append, List.map_cons, List.map_nil]
      exact List.take_of_length_le (by simp)) ?_
    rcases h45 with rfl | rfl
    · have := gApp0 m.done m.pl m.env m.val (r.reverse.map Frm.cc) (m.vals.map Vl.cc) (m.bds.map Bd.cc) (c.cells.map Cell.ce) (c.kids.map kT) (c.bounds.map intt) fa fe _ _ _ _ _ _ h0 hk1 hk2 hks1 hkid1 hv0 hv1m gv lvm lbm hF
      simpa [Mc.next] using this
    · have := gAdd0 m.done m.pl m.env m.val (r.reverse.map Frm.cc) (m.vals.map Vl.cc) (m.bds.map Bd.cc) (c.cells.map Cell.ce) (c.kids.map kT) (c.bounds.map intt) fa fe _ _ _ _ _ _ h0 hk1 hk2 hks1 hkid1 hv0 hv1m gv lvm lbm hF
      simpa [Mc.next] using this
  · rw [if_neg hneg]
    have gw : (m.vals.map Vl.cc)[fv.toNat]? = some (m.vl fv).cc := by
      have : fv.toNat < m.vals.length := by omega
      simp [Mc.vl, List.getD_eq_getElem?_getD, List.getElem?_eq_getElem this]
    have gwl := vl_ok g (k := fv) (by omega) hfv.2
    have hfvm : fv < ((m.vals.map Vl.cc).length : Int) := by simpa using hfv.2
    by_cases h4 : fk = 4
    · subst h4
      rw [if_pos rfl]
      by_cases hfn : (m.vl fv).fn = true
      · rw [if_pos hfn]
        obtain ⟨_, hft, hlam, _⟩ := gwl.fun_ hfn
        obtain ⟨y, d, js, hq⟩ := hft.place hc
        have hyk : y.kind = 3 := by rw [← hlam, hq.at_]
        have hq0 := hft.pl
        obtain ⟨hj1, hj2, hj3, hj4⟩ := kids_at hq hq0 (by rw [hyk]; decide)
        have hj5 := hj4 0 (by rw [hyk]; decide)
        clear hj4
        rw [hyk] at hj3
        have har : arity 3 = 1 := rfl
        rw [vlc, hfn] at gw
        unfold Mc.bind
        dsimp only
        by_cases hl : m.bds.length = 500
        · rw [if_pos hl]
          exact lost true false (gAppN _ _ _ _ _ _ _ _ _ _ fa fe _ _ _ _ _ _ fv (by omega) hfvm _ _ _ gw h0 hk1 hk2 hks1 hkid1 hv0 hv1m gv lvm lbm hF hq0 hj1 _ hj2 (by omega) _ hj5 (by simpa using hl))
        · rw [if_neg hl]
          refine gone _ (r.reverse.map Frm.cc ++ [Frm.cc ⟨4, fa, fe, fv⟩]) lF1 lF5 lv1 (by simp [Mc.next]; omega) (tk _) ?_
          have := gAppY m.done m.pl m.env m.val (r.reverse.map Frm.cc) (m.vals.map Vl.cc) (m.bds.map Bd.cc) (c.cells.map Cell.ce) (c.kids.map kT) (c.bounds.map intt) fa fe _ _ _ _ _ _ fv (by omega) hfvm _ _ _ gw h0 hk1 hk2 hks1 hkid1 hv0 hv1m gv lvm lbm hF hq0 hj1 _ hj2 (by omega) _ hj5 (by simp; omega)
          simpa [Mc.next] using this
      · rw [if_neg hfn]
        have hfn' : (m.vl fv).fn = false := by simpa using hfn
        rw [vlc, hfn'] at gw
        exact lost false true (gAppS _ _ _ _ _ _ _ _ _ _ fa fe _ _ _ _ _ _ fv (by omega) hfvm _ _ _ gw h0 hk1 hk2 hks1 hkid1 hv0 hv1m gv lvm lbm hF)
    · rw [if_neg h4]
      have e5 : fk = 5 := by omega
      subst e5
      by_cases hfn : (m.vl fv).fn = true
      · rw [if_pos (.inl hfn)]
        rw [vlc, hfn] at gw
        exact lost false true (gAddF _ _ _ _ _ _ _ _ _ _ fa fe _ _ _ _ _ _ fv (by omega) hfvm _ _ _ gw h0 hk1 hk2 hks1 hkid1 hv0 hv1m gv lvm lbm hF)
      have hfn' : (m.vl fv).fn = false := by simpa using hfn
      obtain ⟨_, _, hn1, hn2⟩ := gwl.num hfn'
      rw [vlc, hfn'] at gw
      by_cases hfm : (m.vl m.val).fn = true
      · rw [if_pos (.inr (.inl hfm))]
        rw [vlc, hfm] at gv
        exact lost false true (gAddG _ _ _ _ _ _ _ _ _ _ fa fe _ _ _ _ _ fv (by omega) hfvm _ _ _ gw h0 hk1 hk2 hks1 hkid1 hv0 hv1m gv lvm lbm hF)
      have hfm' : (m.vl m.val).fn = false := by simpa using hfm
      obtain ⟨_, _, hm1, hm2⟩ := gvl.num hfm'
      rw [vlc, hfm'] at gv
      by_cases hrg : -1000000 ≤ (m.vl fv).num + (m.vl m.val).num ∧ (m.vl fv).num + (m.vl m.val).num ≤ 1000000
      · rw [if_neg (by simp [hfn', hfm']; exact hrg)]
        unfold Mc.new
        dsimp only
        by_cases hl : m.vals.length = 500
        · rw [if_pos hl]
          exact lost true false (gAddN _ _ _ _ _ _ _ _ _ _ fa fe _ _ _ _ _ fv (by omega) hfvm _ _ _ gw h0 hk1 hk2 hks1 hkid1 hv0 hv1m gv lvm lbm hF ⟨hm1, hm2⟩ ⟨hn1, hn2⟩ hrg (by simpa using hl))
        · rw [if_neg hl]
          refine gone _ (r.reverse.map Frm.cc ++ [Frm.cc ⟨5, fa, fe, fv⟩]) lF1 lF5 (by simp [Mc.come]; omega) lb1 (tk _) ?_
          have := gAddY m.done m.pl m.env m.val (r.reverse.map Frm.cc) (m.vals.map Vl.cc) (m.bds.map Bd.cc) (c.cells.map Cell.ce) (c.kids.map kT) (c.bounds.map intt) fa fe _ _ _ _ _ fv (by omega) hfvm _ _ _ gw h0 hk1 hk2 hks1 hkid1 hv0 hv1m gv lvm lbm hF ⟨hm1, hm2⟩ ⟨hn1, hn2⟩ hrg (by simp; omega)
          simpa [Mc.come] using this
      · rw [if_pos (.inr (.inr hrg))]
        exact lost false true (gAddB _ _ _ _ _ _ _ _ _ _ fa fe _ _ _ _ _ fv (by omega) hfvm _ _ _ gw h0 hk1 hk2 hks1 hkid1 hv0 hv1m gv lvm lbm hF ⟨hm1, hm2⟩ ⟨hn1, hn2⟩ hrg)
theorem l6Step_spec (c : Cd) (hc : CdOk c) (m : Mc) (g : MGood c m) : StepR c m (m.step c) := by
  unfold Mc.step
  cases hd : m.done with
  | false =>
    rw [if_neg (by simp)]
    exact l6Do_step c hc m g hd
  | true =>
    rw [if_pos rfl]
    cases hfr : m.frs with
    | cons f r => exact l6Go_step c hc m g hd f r hfr
    | nil =>
      have lv := g.lv
      have lb := g.lb
      refine ⟨true, m.pl, m.env, m.val, [], (m.vals.map Vl.cc).map (List.map C.fz), (m.bds.map Bd.cc).map (List.map C.fz), by simp, by simp; omega, by simp; omega, trivial, ?_⟩
      unfold stA stM
      rw [hd, hfr]
      exact ls_over _ _ _ _ _ _ _ _ _
end Go.Ev

namespace Go.Ev
set_option linter.unusedVariables false
set_option linter.unusedSimpArgs false
open Go.Proofs
set_option maxRecDepth 100000
set_option maxHeartbeats 4000000
def lpS (L KT BT : List (List T)) (k i : Nat) (d : Bool) (p e v : Int) (X Y Z : List (List T)) (o : Out) : Prop :=
  Ev pr (.loop (lq pr 53 0) (at_ [(0, cT L KT BT), (1, i64 k), (4, .ptr 0 1 0 0), (8, .ptr 1 1 0 0), (9, i64 i)] [.box [bl false, i64 0, i64 0, i64 0, .t .nils, .t .nils, .t .nils], .box [bl d, i64 p, i64 e, i64 v, .t (.seq 4 X), .t (.seq 4 Y), .t (.seq 2 Z)]] 0)) o
def lpO (i : Nat) (b b2 : Bool) (d : Bool) (p e v : Int) (X Y Z : List (List T)) : Out :=
  .ret (at_ [(4, .ptr 0 1 0 0), (5, i64 i), (6, bl b), (7, bl b2)] [.box [bl d, i64 p, i64 e, i64 v, .t (.seq 4 X), .t (.seq 4 Y), .t (.seq 2 Z)]] 0)
section
variable (L KT BT : List (List T)) (k i : Nat) (hk : k ≤ 2000) (hi : i ≤ k) (d : Bool) (p e v : Int) (X Y Z : List (List T)) (hX : X.length ≤ 1000) (hY : Y.length ≤ 1000) (hZ : Z.length ≤ 1000)
  (b b2 d2 : Bool) (p2 e2 v2 : Int) (X2 Y2 Z2 : List (List T))
include hX hY hZ hi hk
end
theorem frm_t (l : List Frm) : (l.map Frm.ce).map (List.map C.t) = l.map Frm.cc := by simp [Frm.cc, Frm.ce]
theorem vl_t (l : List Vl) : (l.map Vl.ce).map (List.map C.t) = l.map Vl.cc := by simp [Vl.cc, Vl.ce]
theorem bd_t (l : List Bd) : (l.map Bd.ce).map (List.map C.t) = l.map Bd.cc := by simp [Bd.cc, Bd.ce]
def stB : Sr → Bool × Bool
  | .ok _ => (true, true)
  | .no => (false, true)
  | .full => (true, false)
def lpM (c : Cd) (k i : Nat) (m : Mc) (o : Out) : Prop :=
  lpS (c.cells.map Cell.ce) (c.kids.map kT) (c.bounds.map intt) k i m.done m.pl m.env m.val (m.frs.reverse.map Frm.ce) (m.vals.map Vl.ce) (m.bds.map Bd.ce) o
def lpMO (i : Nat) (m : Mc) (s : Sr) : Out :=
  lpO i (stB s).1 (stB s).2 m.done m.pl m.env m.val (m.frs.reverse.map Frm.ce) (m.vals.map Vl.ce) (m.bds.map Bd.ce)
theorem stA_eq (m : Mc) : stA m (frR m) = mA m.done m.pl m.env m.val (m.frs.reverse.map Frm.ce).length ((m.frs.reverse.map Frm.ce).map (List.map C.t)) ((m.vals.map Vl.ce).map (List.map C.t)) ((m.bds.map Bd.ce).map (List.map C.t)) := by
  rw [frm_t, vl_t, bd_t]
  simp [stA, frR]
theorem stM_eq (m : Mc) : stM m (frR m) = mM ((m.frs.reverse.map Frm.ce).map (List.map C.t)) ((m.vals.map Vl.ce).map (List.map C.t)) ((m.bds.map Bd.ce).map (List.map C.t)) := by
  rw [frm_t, vl_t, bd_t]
  simp [stM, frR]
def rtOS (x : Int × Int × Int × Bool) : Out := .val (.tup [i64 x.1, i64 x.2.1, i64 x.2.2.1, bl x.2.2.2]) []
section
variable (L KT BT : List (List T)) (k : Nat) (hk : k ≤ 2000) (g : Ev pr (.call 51 [.t (.seq 2 L)] []) (.val (.tup [cT L KT BT, bl true]) []))
  (d : Bool) (p e v : Int) (X Y Z : List (List T)) (hX : X.length ≤ 1000) (j : Nat) (b b2 : Bool)
  (g2 : Ev pr (.call 53 [cT L KT BT, i64 k] []) (.val (.tup [mF d p e v X Y Z, i64 j, bl b, bl b2]) []))
include hk g g2 hX
end
end Go.Ev

namespace Go.Ev
set_option linter.unusedVariables false
set_option linter.unusedSimpArgs false
open Go.Proofs
set_option maxRecDepth 100000
set_option maxHeartbeats 4000000
theorem follows_ok : pr0.P.follows .mixedOrders = true := by kernel_rfl
theorem len64_ev : Ev pr0 (.call 204 [.t (.int .u64 0)] []) (.val (i64 0) []) := by
  let t3 : Tp pr0 := .i (rfl : ((0 : Int) : Int) = (0 : Int))
  let t4 : Tp pr0 := .g .u8 (show (lkpS (ByteArray.mk #[(0 : UInt8), (1 : UInt8), (2 : UInt8), (2 : UInt8), (3 : UInt8), (3 : UInt8), (3 : UInt8), (3 : UInt8), (4 : UInt8), (4 : UInt8), (4 : UInt8), (4 : UInt8), (4 : UInt8), (4 : UInt8), (4 : UInt8), (4 : UInt8), (5 : UInt8), (5 : UInt8), (5 : UInt8), (5 : UInt8), (5 : UInt8), (5 : UInt8), (5 : UInt8), (5 : UInt8), (5 : UInt8), (5 : UInt8), (5 : UInt8), (5 : UInt8), (5 : UInt8), (5 : UInt8), (5 : UInt8), (5 : UInt8), (6 : UInt8), (6 : UInt8), (6 : UInt8), (6 : UInt8), (6 : UInt8), (6 : UInt8), (6 : UInt8), (6 : UInt8), (6 : UInt8), (6 : UInt8), (6 : UInt8), (6 : UInt8), (6 : UInt8), (6 : UInt8), (6 : UInt8), (6 : UInt8), (6 : UInt8), (6 : UInt8), (6 : UInt8), (6 : UInt8), (6 : UInt8), (6 : UInt8), (6 : UInt8), (6 : UInt8), (6 : UInt8), (6 : UInt8), (6 : UInt8), (6 : UInt8), (6 : UInt8), (6 : UInt8), (6 : UInt8), (6 : UInt8), (7 : UInt8), (7 : UInt8), (7 : UInt8), (7 : UInt8), (7 : UInt8), (7 : UInt8), (7 : UInt8), (7 : UInt8), (7 : UInt8), (7 : UInt8), (7 : UInt8), (7 : UInt8), (7 : UInt8), (7 : UInt8), (7 : UInt8), (7 : UInt8), (7 : UInt8), (7 : UInt8), (7 : UInt8), (7 : UInt8), (7 : UInt8), (7 : UInt8), (7 : UInt8), (7 : UInt8), (7 : UInt8), (7 : UInt8), (7 : UInt8), (7 : UInt8), (7 : UInt8), (7 : UInt8), (7 : UInt8), (7 : UInt8), (7 : UInt8), (7 : UInt8), (7 : UInt8), (7 : UInt8), (7 : UInt8), (7 : UInt8), (7 : UInt8), (7 : UInt8), (7 : UInt8), (7 : UInt8), (7 : UInt8), (7 : UInt8), (7 : UInt8), (7 : UInt8), (7 : UInt8), (7 : UInt8), (7 : UInt8), (7 : UInt8), (7 : UInt8), (7 : UInt8), (7 : UInt8), (7 : UInt8), (7 : UInt8), (7 : UInt8), (7 : UInt8), (7 : UInt8), (7 : UInt8), (7 : UInt8), (7 : UInt8), (7 : UInt8), (7 : UInt8), (7 : UInt8), (8 : UInt8), (8 : UInt8), (8 : UInt8), (8 : UInt8), (8 : UInt8), (8 : UInt8), (8 : UInt8), (8 : UInt8), (8 : UInt8), (8 : UInt8), (8 : UInt8), (8 : UInt8), (8 : UInt8), (8 : UInt8), (8 : UInt8), (8 : UInt8), (8 : UInt8), (8 : UInt8), (8 : UInt8), (8 : UInt8), (8 : UInt8), (8 : UInt8), (8 : UInt8), (8 : UInt8), (8 : UInt8), (8 : UInt8), (8 : UInt8), (8 : UInt8), (8 : UInt8), (8 : UInt8), (8 : UInt8), (8 : UInt8), (8 : UInt8), (8 : UInt8), (8 : UInt8), (8 : UInt8), (8 : UInt8), (8 : UInt8), (8 : UInt8), (8 : UInt8), (8 : UInt8), (8 : UInt8), (8 : UInt8), (8 : UInt8), (8 : UInt8), (8 : UInt8), (8 : UInt8), (8 : UInt8), (8 : UInt8), (8 : UInt8), (8 : UInt8), (8 : UInt8), (8 : UInt8), (8 : UInt8), (8 : UInt8), (8 : UInt8), (8 : UInt8), (8 : UInt8), (8 : UInt8), (8 : UInt8), (8 : UInt8), (8 : UInt8), (8 : UInt8), (8 : UInt8), (8 : UInt8), (8 : UInt8), (8 : UInt8), (8 : UInt8), (8 : UInt8), (8 : UInt8), (8 : UInt8), (8 : UInt8), (8 : UInt8), (8 : UInt8), (8 : UInt8), (8 : UInt8), (8 : UInt8), (8 : UInt8), (8 : UInt8), (8 : UInt8), (8 : UInt8), (8 : UInt8), (8 : UInt8), (8 : UInt8), (8 : UInt8), (8 : UInt8), (8 : UInt8), (8 : UInt8), (8 : UInt8), (8 : UInt8), (8 : UInt8), (8 : UInt8), (8 : UInt8), (8 : UInt8), (8 : UInt8), (8 : UInt8), (8 : UInt8), (8 : UInt8), (8 : UInt8), (8 : UInt8), (8 : UInt8), (8 : UInt8), (8 : UInt8), (8 : UInt8), (8 : UInt8), (8 : UInt8), (8 : UInt8), (8 : UInt8), (8 : UInt8), (8 : UInt8), (8 : UInt8), (8 : UInt8), (8 : UInt8), (8 : UInt8), (8 : UInt8), (8 : UInt8), (8 : UInt8), (8 : UInt8), (8 : UInt8), (8 : UInt8), (8 : UInt8), (8 : UInt8), (8 : UInt8), (8 : UInt8), (8 : UInt8), (8 : UInt8), (8 : UInt8), (8 : UInt8)]) (0 : Int)) = some ((0 : UInt8)) from rfl)
  exact .tp [.bF, .bF, .bF, t3, t4, t3, t3] (by kernel_rfl)
theorem len0_ev : Ev pr0 (.call 181 [.t (.int .u64 0)] []) (.val (i64 0) []) := by
  exact .tp [.bF, .a (len64_ev)] (by kernel_rfl)
theorem insL0_ev : Ev pr0 (.loop (lq pr0 194 0) (at_ [(0, .t (.seq 1 [])), (1, i64 0), (2, i64 0), (6, i64 1)] [] 0)) (.exit 0 (at_ [] [] 0)) := by
  exact .tp [.bF] (by kernel_rfl)
theorem ins0_ev : Ev pr0 (.call 194 [.t (.seq 1 []), i64 0, i64 0] []) (.val (.tup []) []) := by
  let t0 : Tp pr0 := .i (rfl : ((1 : Int) : Int) = (1 : Int))
  exact .tp [t0, .a (insL0_ev)] (by kernel_rfl)
theorem pdqL0_ev : Ev pr0 (.loop (lq pr0 180 0) (at_ [(0, .t (.seq 1 [])), (1, i64 0), (2, i64 0), (3, i64 0), (8, bl true), (9, bl true)] [] 0)) (.ret (at_ [] [] 0)) := by
  let t0 : Tp pr0 := .i (rfl : ((0 : Int) : Int) = (0 : Int))
  exact .tp [t0, .bT, .a (ins0_ev)] (by kernel_rfl)
theorem pdq0_ev : Ev pr0 (.call 180 [.t (.seq 1 []), i64 0, i64 0, i64 0] []) (.val (.tup []) []) := by
  exact .tp [.a (pdqL0_ev)] (by kernel_rfl)
theorem sort0_ev : Ev pr0 (.call 137 [.vec 0 0 1 0 0] [.vec true 1 []]) (.val (.tup []) [.vec true 1 []]) := by
  let t0 : Tp pr0 := .i (rfl : ((0 : Int) : Int) = (0 : Int))
  exact .tp [t0, t0, .a (len0_ev), .mT, .n .rows (rfl : ([]) = _), .a (pdq0_ev), .mT] (by kernel_rfl)
theorem sortp_ok : ∀ (args : List V) (H : List Ob) (v : V) (H' : List Ob), sortPrim args H = some (v, H') → ∀ (w : World) (F : Nat → Prop) (σ : Sg) (cs : Array Value), Wf w F σ (ofL H) → RepL w F σ (ofL H) args cs →
    Calls pr0.P 137 cs w fun e w' => ∃ c F' σ', e = .returned c ∧ Step w F σ (ofL H) w' F' σ' (ofL H') ∧ RepV w' F' σ' (ofL H') v c :=
  sort_ok (pr0 := pr0) follows_ok (fun _ _ h => by cases h) sort0_ev fun blk off cap zs w hH hb hz => Tryz.slices_Sort_int blk off cap zs w hH hb hz
end Go.Ev

namespace Go.Ev
set_option linter.unusedVariables false
set_option linter.unusedSimpArgs false
open Go.Proofs
set_option maxRecDepth 100000
set_option maxHeartbeats 4000000
theorem clFrameN_ev : Ev pr0 (.call 106 [.t (.sn true)] []) (.val (.t .nils) []) := by
  exact .tp [.bT] (by kernel_rfl)
theorem clFrameE_ev : Ev pr0 (.call 106 [.t (.sn false)] []) (.val (.vec 0 0 4 0 0) [.vec true 4 []]) := by
  exact .tp [.bF, .mT, .bT, .c (rfl : ((0 : Nat)) = _), .n .crows (rfl : ([]) = _)] (by kernel_rfl)
theorem clFrameL_ev (e : List T) (es : List (List T)) (h : es.length + 1 ≤ 1048576) : Ev pr0 (.call 106 [.t (.seq 4 (e :: es))] []) (.val (.vec 0 (es.length + 1) 4 0 (es.length + 1)) [.vec true 4 ((e :: es).map (List.map C.t))]) := by
  let t2 : Tp pr0 := .m (show (decide ((0 : Nat) = (0 : Nat) ∧ (0 : Nat) ≤ (0 : Nat) ∧ (0 : Nat) + (List.map (fun x => List.map C.t x) (e :: es)).length ≤ (4294967296 : Nat))) = true by (simp; omega))
  let t4 : Tp pr0 := .c (show ((0 : Nat) + (List.map (fun x => List.map C.t x) (e :: es)).length : Nat) = es.length + (1 : Nat) by simp)
  let t5 : Tp pr0 := .n .crows (show ([].append (List.map (fun x => List.map C.t x) (e :: es))) = List.map C.t e :: List.map (fun x => List.map C.t x) es by simp)
  exact .tp [.mT, .bF, t2, .bF, t4, t5] (by kernel_rfl)
theorem clValN_ev : Ev pr0 (.call 107 [.t (.sn true)] []) (.val (.t .nils) []) := by
  exact .tp [.bT] (by kernel_rfl)
theorem clValE_ev : Ev pr0 (.call 107 [.t (.sn false)] []) (.val (.vec 0 0 4 0 0) [.vec true 4 []]) := by
  exact .tp [.bF, .mT, .bT, .c (rfl : ((0 : Nat)) = _), .n .crows (rfl : ([]) = _)] (by kernel_rfl)
theorem clValL_ev (e : List T) (es : List (List T)) (h : es.length + 1 ≤ 1048576) : Ev pr0 (.call 107 [.t (.seq 4 (e :: es))] []) (.val (.vec 0 (es.length + 1) 4 0 (es.length + 1)) [.vec true 4 ((e :: es).map (List.map C.t))]) := by
  let t2 : Tp pr0 := .m (show (decide ((0 : Nat) = (0 : Nat) ∧ (0 : Nat) ≤ (0 : Nat) ∧ (0 : Nat) + (List.map (fun x => List.map C.t x) (e :: es)).length ≤ (4294967296 : Nat))) = true by (simp; omega))
  let t4 : Tp pr0 := .c (show ((0 : Nat) + (List.map (fun x => List.map C.t x) (e :: es)).length : Nat) = es.length + (1 : Nat) by simp)
  let t5 : Tp pr0 := .n .crows (show ([].append (List.map (fun x => List.map C.t x) (e :: es))) = List.map C.t e :: List.map (fun x => List.map C.t x) es by simp)
  exact .tp [.mT, .bF, t2, .bF, t4, t5] (by kernel_rfl)
theorem clBindN_ev : Ev pr0 (.call 108 [.t (.sn true)] []) (.val (.t .nils) []) := by
  exact .tp [.bT] (by kernel_rfl)
theorem clBindE_ev : Ev pr0 (.call 108 [.t (.sn false)] []) (.val (.vec 0 0 2 0 0) [.vec true 2 []]) := by
  exact .tp [.bF, .mT, .bT, .c (rfl : ((0 : Nat)) = _), .n .crows (rfl : ([]) = _)] (by kernel_rfl)
theorem clBindL_ev (e : List T) (es : List (List T)) (h : es.length + 1 ≤ 1048576) : Ev pr0 (.call 108 [.t (.seq 2 (e :: es))] []) (.val (.vec 0 (es.length + 1) 2 0 (es.length + 1)) [.vec true 2 ((e :: es).map (List.map C.t))]) := by
  let t2 : Tp pr0 := .m (show (decide ((0 : Nat) = (0 : Nat) ∧ (0 : Nat) ≤ (0 : Nat) ∧ (0 : Nat) + (List.map (fun x => List.map C.t x) (e :: es)).length ≤ (4294967296 : Nat))) = true by (simp; omega))
  let t4 : Tp pr0 := .c (show ((0 : Nat) + (List.map (fun x => List.map C.t x) (e :: es)).length : Nat) = es.length + (1 : Nat) by simp)
  let t5 : Tp pr0 := .n .crows (show ([].append (List.map (fun x => List.map C.t x) (e :: es))) = List.map C.t e :: List.map (fun x => List.map C.t x) es by simp)
  exact .tp [.mT, .bF, t2, .bF, t4, t5] (by kernel_rfl)
theorem prim_all : PrimOk pr := by
  intro f p hf args H v H' hc w F σ cs wf hr
  have hf' : (if f = 137 then some sortPrim else if f = 106 then some (clonePrimN 4) else if f = 107 then some (clonePrimN 4) else if f = 108 then some (clonePrimN 2) else none) = some p := hf
  split at hf'
  · rename_i e
    subst e
    obtain rfl := Option.some.inj hf'
    exact sortp_ok args H v H' hc w F σ cs wf hr
  split at hf'
  · rename_i e
    subst e
    obtain rfl := Option.some.inj hf'
    exact cloneN_ok (pr0 := pr0) (by omega) follows_ok (fun _ _ h => by cases h) clFrameN_ev clFrameE_ev clFrameL_ev args H v H' hc w F σ cs wf hr
  split at hf'
  · rename_i e
    subst e
    obtain rfl := Option.some.inj hf'
    exact cloneN_ok (pr0 := pr0) (by omega) follows_ok (fun _ _ h => by cases h) clValN_ev clValE_ev clValL_ev args H v H' hc w F σ cs wf hr
  split at hf'
  · rename_i e
    subst e
    obtain rfl := Option.some.inj hf'
    exact cloneN_ok (pr0 := pr0) (by omega) follows_ok (fun _ _ h => by cases h) clBindN_ev clBindE_ev clBindL_ev args H v H' hc w F σ cs wf hr
  · cases hf'
end Go.Ev

namespace Go.Ev
set_option linter.unusedVariables false
set_option linter.unusedSimpArgs false
open Go.Proofs
set_option maxRecDepth 100000
set_option maxHeartbeats 4000000
theorem clFrame_ev (X : List (List T)) (h : X.length ≤ 1048576) : Ev pr (.call 106 [.t (.seq 4 X)] []) (.val (.vec 0 X.length 4 0 X.length) [.vec true 4 (X.map (List.map C.t))]) := by
  have h2 : clonePrimN 4 [.t (.seq 4 X)] [] = some (.vec 0 X.length 4 0 X.length, [.vec true 4 (X.map (List.map C.t))]) := by simp [clonePrimN, h]
  exact Ev.prim (p := clonePrimN 4) (by kernel_rfl) rfl h2
theorem clVal_ev (X : List (List T)) (h : X.length ≤ 1048576) : Ev pr (.call 107 [.t (.seq 4 X)] []) (.val (.vec 0 X.length 4 0 X.length) [.vec true 4 (X.map (List.map C.t))]) := by
  have h2 : clonePrimN 4 [.t (.seq 4 X)] [] = some (.vec 0 X.length 4 0 X.length, [.vec true 4 (X.map (List.map C.t))]) := by simp [clonePrimN, h]
  exact Ev.prim (p := clonePrimN 4) (by kernel_rfl) rfl h2
theorem clBind_ev (X : List (List T)) (h : X.length ≤ 1048576) : Ev pr (.call 108 [.t (.seq 2 X)] []) (.val (.vec 0 X.length 2 0 X.length) [.vec true 2 (X.map (List.map C.t))]) := by
  have h2 : clonePrimN 2 [.t (.seq 2 X)] [] = some (.vec 0 X.length 2 0 X.length, [.vec true 2 (X.map (List.map C.t))]) := by simp [clonePrimN, h]
  exact Ev.prim (p := clonePrimN 2) (by kernel_rfl) rfl h2
theorem cloneMachine_ev (d : Bool) (p e v : Int) (X Y Z : List (List T)) (hX : X.length ≤ 1000) (hY : Y.length ≤ 1000) (hZ : Z.length ≤ 1000) :
    Ev pr (.call 54 [.agg [bl d, i64 p, i64 e, i64 v, .t (.seq 4 X), .t (.seq 4 Y), .t (.seq 2 Z)]] []) (.val (.agg [bl d, i64 p, i64 e, i64 v, .vec 0 X.length 4 0 X.length, .vec 1 Y.length 4 0 Y.length, .vec 2 Z.length 2 0 Z.length]) [.vec true 4 (X.map (List.map C.t)), .vec true 4 (Y.map (List.map C.t)), .vec true 2 (Z.map (List.map C.t))]) := by
  have g1 := clFrame_ev X (by omega)
  have g2 := clVal_ev Y (by omega)
  have g3 := clBind_ev Z (by omega)
  exact .tp [.mT, .mT, .a (g1), .mT, .mT, .mT, .a (g2), .mT, .mT, .mT, .a (g3), .mT, .mT, .mT, .mT, .mT, .mT, .mT] (by kernel_rfl)
def bx0 : Ob := .box [bl false, i64 0, i64 0, i64 0, .t .nils, .t .nils, .t .nils]
def eS1 (L : List (List T)) (n : Nat) (S B : List (List C)) (d : Bool) (p e v : Int) (lF : Nat) (F V D : List (List C)) (lg : Bool) : List Ob :=
  [bx0, .box [.t (.seq 2 L), .vec 2 n 1 0 n, .vec 3 n 1 0 n, bl d, i64 p, i64 e, i64 v, .vec 4 F.length 4 0 lF, .vec 5 V.length 4 0 V.length, .vec 6 D.length 2 0 D.length, bl lg], .vec true 1 S, .vec true 1 B, .vec true 4 F, .vec true 4 V, .vec true 2 D]
def pmS (E : List Ob) (k i : Nat) (o : Out) : Prop :=
  Ev pr (.loop (lq pr 10 0) (at_ [(1, i64 k), (4, .ptr 0 1 0 0), (7, .ptr 1 1 0 0), (8, i64 i)] E 0)) o
def pmO (E : List Ob) (i : Nat) : Out := .exit 0 (at_ [(4, .ptr 0 1 0 0), (7, .ptr 1 1 0 0), (8, i64 i)] E 0)
section
variable (L : List (List T)) (n : Nat) (S B : List (List C)) (d : Bool) (p e v : Int) (lF : Nat) (F V D : List (List C)) (lg : Bool) (k i : Nat)
variable (hk : k ≤ 3000) (hi : i < k) (hl : lF ≤ F.length) (hF : F.length ≤ 1000) (hV : V.length ≤ 1000) (hD : D.length ≤ 1000)
  (hfl : (true && [Ob.vec true 4 (List.map (List.map C.t) (List.map (List.map C.fz) (List.take lF F))), Ob.vec true 4 (List.map (List.map C.t) (List.map (List.map C.fz) (List.take V.length V))), Ob.vec true 2 (List.map (List.map C.t) (List.map (List.map C.fz) (List.take D.length D)))].all Ob.flat) = true) (d2 : Bool) (p2 e2 v2 : Int) (lF2 : Nat) (F2 V2 D2 : List (List C)) (lg2 : Bool)
include hk hi hl hF hV hD hfl
end
end Go.Ev

namespace Go.Ev
set_option linter.unusedVariables false
set_option linter.unusedSimpArgs false
open Go.Proofs
set_option maxRecDepth 100000
set_option maxHeartbeats 4000000
def eB1 (c : Cd) (m : Mc) (jk : List Frm) (lg : Bool) : List Ob :=
  eS1 (c.cells.map Cell.ce) c.cells.length (ints c.sizes) (ints c.bounds) m.done m.pl m.env m.val m.frs.length ((m.frs.reverse ++ jk).map Frm.cc) (m.vals.map Vl.cc) (m.bds.map Bd.cc) lg
theorem take_all {α : Type} (l : List α) : List.take l.length l = l := List.take_length
def mZ : V := .agg [bl false, i64 0, i64 0, i64 0, .t .nils, .t .nils, .t .nils]
end Go.Ev

namespace Go.Ev
set_option linter.unusedVariables false
set_option linter.unusedSimpArgs false
open Go.Proofs
set_option maxRecDepth 100000
set_option maxHeartbeats 4000000
@[simp high] theorem Cell_get_mid (m : List Cell) (x : Cell) (r : List Cell) : ((m ++ x :: r).map Cell.cc)[m.length]? = some [C.t (.int .i64 x.kind), C.t (.int .i64 x.n)] := by simp [Cell.cc]
@[simp high] theorem Cell_lkp_mid (m : List Cell) (x : Cell) (r : List Cell) : lkp ((m ++ x :: r).map Cell.ce) (m.length : Int) = some [T.int .i64 x.kind, T.int .i64 x.n] := by simp [Cell.ce]
def szCell (l : List Cell) (n : Int) : Int := if n - l.length < 0 then -1 else n - l.length
theorem szCellS_ev (l : List Cell) (n : Int) (h0 : 0 ≤ n) (h1 : n ≤ 1048576) (hl : l.length ≤ 9223372036854775807) : Ev pr (.call 29 [.t (.seq 2 (l.map Cell.ce)), i64 n] []) (.val (i64 (szCell l n)) []) := by
  unfold szCell
  by_cases h : n - l.length < 0
  · rw [if_pos h]
    let t0 : Tp pr := .i (show ((↑(List.map Cell.ce l).length : Int) : Int) = (↑l.length : Int) by simp)
    let t1 : Tp pr := .i (wrap_i64 (a := n - (↑l.length : Int)) (by omega) (by omega))
    let t2 : Tp pr := .b (show (decide (n - (↑l.length : Int) < (0 : Int))) = true by (simp; omega))
    exact .tp [t0, t1, t2] (by kernel_rfl)
  · rw [if_neg h]
    let t0 : Tp pr := .i (show ((↑(List.map Cell.ce l).length : Int) : Int) = (↑l.length : Int) by simp)
    let t1 : Tp pr := .i (wrap_i64 (a := n - (↑l.length : Int)) (by omega) (by omega))
    let t2 : Tp pr := .b (show (decide (n - (↑l.length : Int) < (0 : Int))) = false by (simp; omega))
    exact .tp [t0, t1, t2] (by kernel_rfl)
theorem toCell_ev (x : Cell) : Ev pr (.call 76 [.agg (x.ce.map V.t)] []) (.val (.agg (x.ce.map V.t)) []) := by
  obtain ⟨a0, a1⟩ := x
  exact .tp [] (by kernel_rfl)
theorem toCellL_ev : ∀ (rest m : List Cell), m.length + rest.length ≤ 1048576 → Ev pr (.loop (lq pr 31 0) (at_ [(0, .t (.seq 2 ((m ++ rest).map Cell.ce))), (3, .vec 0 (m.length + rest.length) 2 0 (m.length + rest.length)), (4, i64 m.length)] [.vec true 2 ((m ++ List.replicate rest.length (⟨0, 0⟩ : Cell)).map Cell.cc)] 0))
    (.exit 0 (at_ [(3, .vec 0 (m.length + rest.length) 2 0 (m.length + rest.length))] [.vec true 2 ((m ++ rest).map Cell.cc)] 0))
  | [], m, h => by
    simp only [List.length_nil, List.replicate_zero, Nat.add_zero] at h ⊢
    let t0 : Tp pr := .i (show ((↑(List.map Cell.ce (m ++ [])).length : Int) : Int) = (↑m.length : Int) by simp)
    let t1 : Tp pr := .b (show (decide ((↑m.length : Int) < (↑m.length : Int))) = false by simp)
    exact .tp [t0, t1] (by kernel_rfl)
  | x :: rest, m, h => by
    simp only [List.length_cons] at h
    have ih := toCellL_ev rest (m ++ [x]) (by simp; omega)
    simp only [List.length_append, List.length_singleton, List.append_assoc, List.singleton_append] at ih
    have hx := toCell_ev x
    have hg := Cell_get_mid m (⟨0, 0⟩ : Cell) (List.replicate rest.length (⟨0, 0⟩ : Cell))
    have hs : ((m ++ (⟨0, 0⟩ : Cell) :: List.replicate rest.length (⟨0, 0⟩ : Cell)).map Cell.cc).set m.length x.cc = (m ++ x :: List.replicate rest.length (⟨0, 0⟩ : Cell)).map Cell.cc := by simp
    rw [show List.replicate (x :: rest).length ((⟨0, 0⟩ : Cell)) = (⟨0, 0⟩ : Cell) :: List.replicate rest.length (⟨0, 0⟩ : Cell) from rfl]
    have hl : m.length + (x :: rest).length = m.length + 1 + rest.length := by simp; omega
    rw [hl]
    let t0 : Tp pr := .i (show ((↑(List.map Cell.ce (m ++ x :: rest)).length : Int) : Int) = (↑m.length : Int) + ((↑rest.length : Int) + (1 : Int)) by simp)
    let t1 : Tp pr := .b (show (decide ((↑m.length : Int) < (↑m.length : Int) + ((↑rest.length : Int) + (1 : Int)))) = true by (simp; omega))
    let t2 : Tp pr := .g .row (show (lkp (List.map Cell.ce (m ++ x :: rest)) (↑m.length : Int)) = some (x.ce) by simp)
    let t4 : Tp pr := .m (show (decide ((0 : Int) ≤ (↑m.length : Int) ∧ (↑m.length : Int).toNat < m.length + (1 : Nat) + rest.length)) = true by (simp; omega))
    let t5 : Tp pr := .c (show ((0 : Nat) + (↑m.length : Int).toNat : Nat) = m.length by omega)
    let t6 : Tp pr := .m (show (decide ((List.map Cell.cc (m ++ Cell.mk (0 : Int) (0 : Int) :: List.replicate rest.length (Cell.mk (0 : Int) (0 : Int)))).length = m.length + (1 : Nat) + rest.length)) = true by (simp; omega))
    let t7 : Tp pr := .g .crow (show ((List.map Cell.cc (m ++ Cell.mk (0 : Int) (0 : Int) :: List.replicate rest.length (Cell.mk (0 : Int) (0 : Int))))[m.length]?) = some ([C.t (T.int IntKind.i64 (Cell.mk (0 : Int) (0 : Int)).kind), C.t (T.int IntKind.i64 (Cell.mk (0 : Int) (0 : Int)).n)]) from hg)
    let t8 : Tp pr := .n .crows (show ((List.map Cell.cc (m ++ Cell.mk (0 : Int) (0 : Int) :: List.replicate rest.length (Cell.mk (0 : Int) (0 : Int)))).set m.length [C.t (T.int IntKind.i64 x.kind), C.t (T.int IntKind.i64 x.n)]) = List.map Cell.cc m ++ [C.t (T.int IntKind.i64 x.kind), C.t (T.int IntKind.i64 x.n)] :: List.replicate rest.length (Cell.mk (0 : Int) (0 : Int)).cc by simp)
    let t9 : Tp pr := .i (wrap_i64 (a := (↑m.length : Int) + (1 : Int)) (by omega) (by omega))
    let t10 : Tp pr := .a (Ev.castq (congrArg (fun x_1 => Q.loop (lq pr (31 : FuncId) (0 : Nat)) (at_ [((0 : Nat), V.t (T.seq (2 : Nat) (List.map Cell.ce (m ++ x :: rest)))), ((3 : Nat), V.vec (0 : Nat) (m.length + (1 : Nat) + rest.length) (2 : Nat) (0 : Nat) (m.length + (1 : Nat) + rest.length)), ((4 : Nat), i64 (↑(m.length + (1 : Nat)) : Int))] [Ob.vec true (2 : Nat) x_1] (0 : Nat))) (show (List.map Cell.cc (m ++ x :: List.replicate rest.length (Cell.mk (0 : Int) (0 : Int)))) = ((List.map Cell.cc m).append ([C.t (T.int IntKind.i64 x.kind), C.t (T.int IntKind.i64 x.n)] :: List.replicate rest.length [C.t (T.int IntKind.i64 (0 : Int)), C.t (T.int IntKind.i64 (0 : Int))])) by simp [Cell.cc, Cell.ce])) (ih))
    exact .tp [t0, t1, t2, .a (hx), t4, t5, t6, t7, t8, t9, t10] (by kernel_rfl)
theorem toCellS_ev (l : List Cell) (hl : l.length ≤ 1048576) : Ev pr (.call 31 [.t (.seq 2 (l.map Cell.ce))] []) (.val (.vec 0 l.length 2 0 l.length) [.vec true 2 (l.map Cell.cc)]) := by
  have := toCellL_ev l [] (by simpa using hl)
  simp only [List.length_nil, Nat.zero_add, List.nil_append, List.map_replicate, Cell.cc] at this
  let t0 : Tp pr := .i (show ((↑(List.map Cell.ce l).length : Int) : Int) = (↑l.length : Int) by simp)
  let t1 : Tp pr := .m (show (decide ((0 : Int) ≤ (↑l.length : Int) ∧ (↑l.length : Int) ≤ (↑l.length : Int) ∧ (↑l.length : Int) ≤ (4294967296 : Int))) = true by (simp; omega))
  let t2 : Tp pr := .c (show ((↑l.length : Int).toNat : Nat) = l.length by omega)
  let t3 : Tp pr := .n .crows (rfl : (List.replicate l.length [C.t (T.int IntKind.i64 (0 : Int)), C.t (T.int IntKind.i64 (0 : Int))]) = _)
  exact .tp [t0, t1, t2, t3, .a (this)] (by kernel_rfl)
theorem eqCell_ev (x : Cell) : Ev pr (.call 83 [.agg (x.ce.map V.t), .agg (x.ce.map V.t)] []) (.val (bl true) []) := by
  obtain ⟨a0, a1⟩ := x
  exact .tp [.b (show (a0 != a0) = false by simp), .b (show (a1 != a1) = false by simp)] (by kernel_rfl)
theorem eqCellL_ev : ∀ (rest m : List Cell), m.length + rest.length ≤ 1048576 → Ev pr (.loop (lq pr 34 0) (at_ [(0, .t (.seq 2 ((m ++ rest).map Cell.ce))), (1, .t (.seq 2 ((m ++ rest).map Cell.ce))), (5, i64 m.length)] [] 0)) (.exit 0 (at_ [] [] 0))
  | [], m, h => by
    simp only [List.append_nil]
    let t0 : Tp pr := .i (show ((↑(List.map Cell.ce m).length : Int) : Int) = (↑m.length : Int) by simp)
    let t1 : Tp pr := .b (show (decide ((↑m.length : Int) < (↑m.length : Int))) = false by simp)
    exact .tp [t0, t1] (by kernel_rfl)
  | x :: rest, m, h => by
    simp only [List.length_cons] at h
    have ih := eqCellL_ev rest (m ++ [x]) (by simp; omega)
    simp only [List.length_append, List.length_singleton, List.append_assoc, List.singleton_append] at ih
    have hx := eqCell_ev x
    have hg := Cell_lkp_mid m x rest
    have hlen : ((m ++ x :: rest).map Cell.ce).length = m.length + 1 + rest.length := by simp; omega
    generalize (m ++ x :: rest).map Cell.ce = R at *
    let t1 : Tp pr := .b (show (decide ((↑m.length : Int) < (↑R.length : Int))) = true by (simp; omega))
    let t4 : Tp pr := .g .row (show (lkp R (↑m.length : Int)) = some ([T.int IntKind.i64 x.kind, T.int IntKind.i64 x.n]) from hg)
    let t16 : Tp pr := .i (wrap_i64 (a := (↑m.length : Int) + (1 : Int)) (by omega) (by omega))
    exact .tp [.i (rfl : ((↑R.length : Int)) = _), t1, .mT, .mT, t4, .mT, .mT, .mT, .mT, t4, .mT, .mT, .a (hx), .mT, .mT, .bF, t16, .a (ih)] (by kernel_rfl)
theorem eqCellS_ev (l : List Cell) (h : l.length ≤ 1048576) : Ev pr (.call 34 [.t (.seq 2 (l.map Cell.ce)), .t (.seq 2 (l.map Cell.ce))] []) (.val (bl true) []) := by
  have := eqCellL_ev l [] (by simpa using h)
  simp only [List.length_nil, List.nil_append] at this
  let t0 : Tp pr := .i (show ((↑(List.map Cell.ce l).length : Int) : Int) = (↑l.length : Int) by simp)
  let t2 : Tp pr := .b (show ((↑l.length : Int) != (↑l.length : Int)) = false by simp)
  exact .tp [t0, t0, t2, .a (this)] (by kernel_rfl)
end Go.Ev

namespace Go.Ev
set_option linter.unusedVariables false
set_option linter.unusedSimpArgs false
open Go.Proofs
set_option maxRecDepth 100000
set_option maxHeartbeats 4000000
def mkCell (k : Int) : Nat → List Cell
  | 0 => []
  | n + 1 => ⟨k, k + 1⟩ :: mkCell (k + 1 + 1) n
theorem markCellL_ev (J : List (List C)) : ∀ (rest m : List Cell) (k : Int), 0 ≤ k → k + 2 * rest.length ≤ 9000000 → m.length + rest.length ≤ 1048576 →
    Ev pr (.loop (lq pr 35 0) (at_ [(0, .vec 0 (m.length + rest.length + J.length) 2 0 (m.length + rest.length)), (1, i64 k), (5, i64 m.length)] [.vec true 2 (m.map Cell.cc ++ (rest.map Cell.cc ++ J))] 1))
      (.exit 0 (at_ [(1, i64 (k + 2 * rest.length))] [.vec true 2 ((m ++ mkCell k rest.length).map Cell.cc ++ J)] 1))
  | [], m, k, h0, h1, h2 => by
    simp only [List.length_nil, Nat.add_zero, mkCell, List.append_nil, Int.natCast_zero, Int.mul_zero, Int.add_zero, List.map_nil, List.nil_append] at *
    let t1 : Tp pr := .b (show (decide ((↑m.length : Int) < (↑m.length : Int))) = false by simp)
    exact .tp [.i (rfl : ((↑m.length : Int)) = _), t1] (by kernel_rfl)
  | x :: rest, m, k, h0, h1, h2 => by
    have hlr : (x :: rest).length = rest.length + 1 := rfl
    rw [hlr] at h1 h2 ⊢
    have ih := markCellL_ev J rest (m ++ [⟨k, k + 1⟩]) (k + 1 + 1) (by omega) (by omega) (by simp; omega)
    simp only [List.length_append, List.length_singleton, List.append_assoc, List.singleton_append, List.map_append, List.map_cons, List.map_nil] at ih
    rw [show k + 2 * ((rest.length + 1 : Nat) : Int) = k + 1 + 1 + 2 * rest.length by omega, show m.length + (rest.length + 1) = m.length + 1 + rest.length by omega, show mkCell k (rest.length + 1) = ⟨k, k + 1⟩ :: mkCell (k + 1 + 1) rest.length from rfl]
    simp only [List.map_append, List.map_cons, List.cons_append, List.append_assoc] at ih ⊢
    have hlm : (m.map Cell.cc).length = m.length := by simp
    have hlb : (rest.map Cell.cc ++ J).length = rest.length + J.length := by simp
    generalize rest.map Cell.cc ++ J = B at *
    let t0 : Tp pr := .i (show ((↑(m.length + (1 : Nat) + rest.length) : Int) : Int) = (↑m.length : Int) + (1 : Int) + (↑rest.length : Int) by omega)
    let t1 : Tp pr := .b (show (decide ((↑m.length : Int) < (↑m.length : Int) + (1 : Int) + (↑rest.length : Int))) = true by (simp; omega))
    let t2 : Tp pr := .m (show (decide ((0 : Int) ≤ (↑m.length : Int) ∧ (↑m.length : Int).toNat < m.length + (1 : Nat) + rest.length)) = true by (simp; omega))
    let t3 : Tp pr := .c (show ((0 : Nat) + (↑m.length : Int).toNat : Nat) = m.length by omega)
    let t4 : Tp pr := .m (show (decide (((List.map Cell.cc m).append ([C.t (T.int IntKind.i64 x.kind), C.t (T.int IntKind.i64 x.n)] :: B)).length = m.length + (1 : Nat) + rest.length + J.length)) = true by (simp; omega))
    let t5 : Tp pr := .g .crow (show (((List.map Cell.cc m).append ([C.t (T.int IntKind.i64 x.kind), C.t (T.int IntKind.i64 x.n)] :: B))[m.length]?) = some ([C.t (T.int IntKind.i64 x.kind), C.t (T.int IntKind.i64 x.n)]) by simp)
    let t8 : Tp pr := .n .crows (show (((List.map Cell.cc m).append ([C.t (T.int IntKind.i64 x.kind), C.t (T.int IntKind.i64 x.n)] :: B)).set m.length [C.t (T.int IntKind.i64 k), C.t (T.int IntKind.i64 x.n)]) = List.map Cell.cc m ++ [C.t (T.int IntKind.i64 k), C.t (T.int IntKind.i64 x.n)] :: B by simp)
    let t9 : Tp pr := .i (wrap_i64 (a := k + (1 : Int)) (by omega) (by omega))
    let t12 : Tp pr := .m (show (decide (((List.map Cell.cc m).append ([C.t (T.int IntKind.i64 k), C.t (T.int IntKind.i64 x.n)] :: B)).length = m.length + (1 : Nat) + rest.length + J.length)) = true by (simp; omega))
    let t13 : Tp pr := .g .crow (show (((List.map Cell.cc m).append ([C.t (T.int IntKind.i64 k), C.t (T.int IntKind.i64 x.n)] :: B))[m.length]?) = some ([C.t (T.int IntKind.i64 k), C.t (T.int IntKind.i64 x.n)]) by simp)
    let t14 : Tp pr := .n .crows (show (((List.map Cell.cc m).append ([C.t (T.int IntKind.i64 k), C.t (T.int IntKind.i64 x.n)] :: B)).set m.length [C.t (T.int IntKind.i64 k), C.t (T.int IntKind.i64 (k + (1 : Int)))]) = List.map Cell.cc m ++ [C.t (T.int IntKind.i64 k), C.t (T.int IntKind.i64 (k + (1 : Int)))] :: B by simp)
    let t15 : Tp pr := .i (wrap_i64 (a := k + (1 : Int) + (1 : Int)) (by omega) (by omega))
    let t16 : Tp pr := .i (wrap_i64 (a := (↑m.length : Int) + (1 : Int)) (by omega) (by omega))
    exact .tp [t0, t1, t2, t3, t4, t5, t4, t5, t8, t9, t2, t3, t12, t13, t14, t15, t16, .a (ih)] (by kernel_rfl)
theorem markCellJ_ev (J : List (List C)) (l : List Cell) (k : Int) (h0 : 0 ≤ k) (h : k + 2 * l.length ≤ 9000000) (h2 : l.length ≤ 1048576) : Ev pr (.call 35 [.vec 0 (l.length + J.length) 2 0 l.length, i64 k] [.vec true 2 (l.map Cell.cc ++ J)]) (.val (i64 (k + 2 * l.length)) [.vec true 2 ((mkCell k l.length).map Cell.cc ++ J)]) := by
  have := markCellL_ev J l [] k h0 h (by simpa using h2)
  simp only [List.length_nil, Nat.zero_add, List.nil_append, List.map_nil] at this
  exact .tp [.a (this)] (by kernel_rfl)
theorem markCellS_ev (l : List Cell) (k : Int) (h0 : 0 ≤ k) (h : k + 2 * l.length ≤ 9000000) (h2 : l.length ≤ 1048576) : Ev pr (.call 35 [.vec 0 l.length 2 0 l.length, i64 k] [.vec true 2 (l.map Cell.cc)]) (.val (i64 (k + 2 * l.length)) [.vec true 2 ((mkCell k l.length).map Cell.cc)]) := by
  have := markCellJ_ev [] l k h0 h h2
  simpa only [List.append_nil, List.length_nil, Nat.add_zero] using this
@[simp high] theorem Frm_get_mid (m : List Frm) (x : Frm) (r : List Frm) : ((m ++ x :: r).map Frm.cc)[m.length]? = some [C.t (.int .i64 x.kind), C.t (.int .i64 x.pl), C.t (.int .i64 x.env), C.t (.int .i64 x.val)] := by simp [Frm.cc]
@[simp high] theorem Frm_lkp_mid (m : List Frm) (x : Frm) (r : List Frm) : lkp ((m ++ x :: r).map Frm.ce) (m.length : Int) = some [T.int .i64 x.kind, T.int .i64 x.pl, T.int .i64 x.env, T.int .i64 x.val] := by simp [Frm.ce]
theorem eqFrm_ev (x : Frm) : Ev pr (.call 143 [.agg (x.ce.map V.t), .agg (x.ce.map V.t)] []) (.val (bl true) []) := by
  obtain ⟨a0, a1, a2, a3⟩ := x
  exact .tp [.b (show (a0 != a0) = false by simp), .b (show (a1 != a1) = false by simp), .b (show (a2 != a2) = false by simp), .b (show (a3 != a3) = false by simp)] (by kernel_rfl)
theorem eqFrmL_ev : ∀ (rest m : List Frm), m.length + rest.length ≤ 1048576 → Ev pr (.loop (lq pr 80 0) (at_ [(0, .t (.seq 4 ((m ++ rest).map Frm.ce))), (1, .t (.seq 4 ((m ++ rest).map Frm.ce))), (5, i64 m.length)] [] 0)) (.exit 0 (at_ [] [] 0))
  | [], m, h => by
    simp only [List.append_nil]
    let t0 : Tp pr := .i (show ((↑(List.map Frm.ce m).length : Int) : Int) = (↑m.length : Int) by simp)
    let t1 : Tp pr := .b (show (decide ((↑m.length : Int) < (↑m.length : Int))) = false by simp)
    exact .tp [t0, t1] (by kernel_rfl)
  | x :: rest, m, h => by
    simp only [List.length_cons] at h
    have ih := eqFrmL_ev rest (m ++ [x]) (by simp; omega)
    simp only [List.length_append, List.length_singleton, List.append_assoc, List.singleton_append] at ih
    have hx := eqFrm_ev x
    have hg := Frm_lkp_mid m x rest
    have hlen : ((m ++ x :: rest).map Frm.ce).length = m.length + 1 + rest.length := by simp; omega
    generalize (m ++ x :: rest).map Frm.ce = R at *
    let t1 : Tp pr := .b (show (decide ((↑m.length : Int) < (↑R.length : Int))) = true by (simp; omega))
    let t4 : Tp pr := .g .row (show (lkp R (↑m.length : Int)) = some ([T.int IntKind.i64 x.kind, T.int IntKind.i64 x.pl, T.int IntKind.i64 x.env, T.int IntKind.i64 x.val]) from hg)
    let t16 : Tp pr := .i (wrap_i64 (a := (↑m.length : Int) + (1 : Int)) (by omega) (by omega))
    exact .tp [.i (rfl : ((↑R.length : Int)) = _), t1, .mT, .mT, t4, .mT, .mT, .mT, .mT, t4, .mT, .mT, .a (hx), .mT, .mT, .bF, t16, .a (ih)] (by kernel_rfl)
theorem eqFrmS_ev (l : List Frm) (h : l.length ≤ 1048576) : Ev pr (.call 80 [.t (.seq 4 (l.map Frm.ce)), .t (.seq 4 (l.map Frm.ce))] []) (.val (bl true) []) := by
  have := eqFrmL_ev l [] (by simpa using h)
  simp only [List.length_nil, List.nil_append] at this
  let t0 : Tp pr := .i (show ((↑(List.map Frm.ce l).length : Int) : Int) = (↑l.length : Int) by simp)
  let t2 : Tp pr := .b (show ((↑l.length : Int) != (↑l.length : Int)) = false by simp)
  exact .tp [t0, t0, t2, .a (this)] (by kernel_rfl)
def mkFrm (k : Int) : Nat → List Frm
  | 0 => []
  | n + 1 => ⟨k, k + 1, k + 1 + 1, k + 1 + 1 + 1⟩ :: mkFrm (k + 1 + 1 + 1 + 1) n
theorem mkFrm_len (k : Int) (n : Nat) : (mkFrm k n).length = n := by induction n generalizing k with
  | zero => rfl
  | succ n ih => simp [mkFrm, ih]
theorem markFrmL_ev (J : List (List C)) : ∀ (rest m : List Frm) (k : Int), 0 ≤ k → k + 4 * rest.length ≤ 9000000 → m.length + rest.length ≤ 1048576 →
    Ev pr (.loop (lq pr 84 0) (at_ [(0, .vec 0 (m.length + rest.length + J.length) 4 0 (m.length + rest.length)), (1, i64 k), (5, i64 m.length)] [.vec true 4 (m.map Frm.cc ++ (rest.map Frm.cc ++ J))] 1))
      (.exit 0 (at_ [(1, i64 (k + 4 * rest.length))] [.vec true 4 ((m ++ mkFrm k rest.length).map Frm.cc ++ J)] 1))
  | [], m, k, h0, h1, h2 => by
    simp only [List.length_nil, Nat.add_zero, mkFrm, List.append_nil, Int.natCast_zero, Int.mul_zero, Int.add_zero, List.map_nil, List.nil_append] at *
    let t1 : Tp pr := .b (show (decide ((↑m.length : Int) < (↑m.length : Int))) = false by simp)
    exact .tp [.i (rfl : ((↑m.length : Int)) = _), t1] (by kernel_rfl)
  | x :: rest, m, k, h0, h1, h2 => by
    have hlr : (x :: rest).length = rest.length + 1 := rfl
    rw [hlr] at h1 h2 ⊢
    have ih := markFrmL_ev J rest (m ++ [⟨k, k + 1, k + 1 + 1, k + 1 + 1 + 1⟩]) (k + 1 + 1 + 1 + 1) (by omega) (by omega) (by simp; omega)
    simp only [List.length_append, List.length_singleton, List.append_assoc, List.singleton_append, List.map_append, List.map_cons, List.map_nil] at ih
    rw [show k + 4 * ((rest.length + 1 : Nat) : Int) = k + 1 + 1 + 1 + 1 + 4 * rest.length by omega, show m.length + (rest.length + 1) = m.length + 1 + rest.length by omega, show mkFrm k (rest.length + 1) = ⟨k, k + 1, k + 1 + 1, k + 1 + 1 + 1⟩ :: mkFrm (k + 1 + 1 + 1 + 1) rest.length from rfl]
    simp only [List.map_append, List.map_cons, List.cons_append, List.append_assoc] at ih ⊢
    have hlm : (m.map Frm.cc).length = m.length := by simp
    have hlb : (rest.map Frm.cc ++ J).length = rest.length + J.length := by simp
    generalize rest.map Frm.cc ++ J = B at *
    let t0 : Tp pr := .i (show ((↑(m.length + (1 : Nat) + rest.length) : Int) : Int) = (↑m.length : Int) + (1 : Int) + (↑rest.length : Int) by omega)
    let t1 : Tp pr := .b (show (decide ((↑m.length : Int) < (↑m.length : Int) + (1 : Int) + (↑rest.length : Int))) = true by (simp; omega))
    let t2 : Tp pr := .m (show (decide ((0 : Int) ≤ (↑m.length : Int) ∧ (↑m.length : Int).toNat < m.length + (1 : Nat) + rest.length)) = true by (simp; omega))
    let t3 : Tp pr := .c (show ((0 : Nat) + (↑m.length : Int).toNat : Nat) = m.length by omega)
    let t4 : Tp pr := .m (show (decide (((List.map Frm.cc m).append ([C.t (T.int IntKind.i64 x.kind), C.t (T.int IntKind.i64 x.pl), C.t (T.int IntKind.i64 x.env), C.t (T.int IntKind.i64 x.val)] :: B)).length = m.length + (1 : Nat) + rest.length + J.length)) = true by (simp; omega))
    let t5 : Tp pr := .g .crow (show (((List.map Frm.cc m).append ([C.t (T.int IntKind.i64 x.kind), C.t (T.int IntKind.i64 x.pl), C.t (T.int IntKind.i64 x.env), C.t (T.int IntKind.i64 x.val)] :: B))[m.length]?) = some ([C.t (T.int IntKind.i64 x.kind), C.t (T.int IntKind.i64 x.pl), C.t (T.int IntKind.i64 x.env), C.t (T.int IntKind.i64 x.val)]) by simp)
    let t8 : Tp pr := .n .crows (show (((List.map Frm.cc m).append ([C.t (T.int IntKind.i64 x.kind), C.t (T.int IntKind.i64 x.pl), C.t (T.int IntKind.i64 x.env), C.t (T.int IntKind.i64 x.val)] :: B)).set m.length [C.t (T.int IntKind.i64 k), C.t (T.int IntKind.i64 x.pl), C.t (T.int IntKind.i64 x.env), C.t (T.int IntKind.i64 x.val)]) = List.map Frm.cc m ++ [C.t (T.int IntKind.i64 k), C.t (T.int IntKind.i64 x.pl), C.t (T.int IntKind.i64 x.env), C.t (T.int IntKind.i64 x.val)] :: B by simp)
    let t9 : Tp pr := .i (wrap_i64 (a := k + (1 : Int)) (by omega) (by omega))
    let t12 : Tp pr := .m (show (decide (((List.map Frm.cc m).append ([C.t (T.int IntKind.i64 k), C.t (T.int IntKind.i64 x.pl), C.t (T.int IntKind.i64 x.env), C.t (T.int IntKind.i64 x.val)] :: B)).length = m.length + (1 : Nat) + rest.length + J.length)) = true by (simp; omega))
    let t13 : Tp pr := .g .crow (show (((List.map Frm.cc m).append ([C.t (T.int IntKind.i64 k), C.t (T.int IntKind.i64 x.pl), C.t (T.int IntKind.i64 x.env), C.t (T.int IntKind.i64 x.val)] :: B))[m.length]?) = some ([C.t (T.int IntKind.i64 k), C.t (T.int IntKind.i64 x.pl), C.t (T.int IntKind.i64 x.env), C.t (T.int IntKind.i64 x.val)]) by simp)
    let t14 : Tp pr := .n .crows (show (((List.map Frm.cc m).append ([C.t (T.int IntKind.i64 k), C.t (T.int IntKind.i64 x.pl), C.t (T.int IntKind.i64 x.env), C.t (T.int IntKind.i64 x.val)] :: B)).set m.length [C.t (T.int IntKind.i64 k), C.t (T.int IntKind.i64 (k + (1 : Int))), C.t (T.int IntKind.i64 x.env), C.t (T.int IntKind.i64 x.val)]) = List.map Frm.cc m ++ [C.t (T.int IntKind.i64 k), C.t (T.int IntKind.i64 (k + (1 : Int))), C.t (T.int IntKind.i64 x.env), C.t (T.int IntKind.i64 x.val)] :: B by simp)
    let t15 : Tp pr := .i (wrap_i64 (a := k + (1 : Int) + (1 : Int)) (by omega) (by omega))
    let t18 : Tp pr := .m (show (decide (((List.map Frm.cc m).append ([C.t (T.int IntKind.i64 k), C.t (T.int IntKind.i64 (k + (1 : Int))), C.t (T.int IntKind.i64 x.env), C.t (T.int IntKind.i64 x.val)] :: B)).length = m.length + (1 : Nat) + rest.length + J.length)) = true by (simp; omega))
    let t19 : Tp pr := .g .crow (show (((List.map Frm.cc m).append ([C.t (T.int IntKind.i64 k), C.t (T.int IntKind.i64 (k + (1 : Int))), C.t (T.int IntKind.i64 x.env), C.t (T.int IntKind.i64 x.val)] :: B))[m.length]?) = some ([C.t (T.int IntKind.i64 k), C.t (T.int IntKind.i64 (k + (1 : Int))), C.t (T.int IntKind.i64 x.env), C.t (T.int IntKind.i64 x.val)]) by simp)
    let t20 : Tp pr := .n .crows (show (((List.map Frm.cc m).append ([C.t (T.int IntKind.i64 k), C.t (T.int IntKind.i64 (k + (1 : Int))), C.t (T.int IntKind.i64 x.env), C.t (T.int IntKind.i64 x.val)] :: B)).set m.length [C.t (T.int IntKind.i64 k), C.t (T.int IntKind.i64 (k + (1 : Int))), C.t (T.int IntKind.i64 (k + (1 : Int) + (1 : Int))), C.t (T.int IntKind.i64 x.val)]) = List.map Frm.cc m ++ [C.t (T.int IntKind.i64 k), C.t (T.int IntKind.i64 (k + (1 : Int))), C.t (T.int IntKind.i64 (k + (1 : Int) + (1 : Int))), C.t (T.int IntKind.i64 x.val)] :: B by simp)
    let t21 : Tp pr := .i (wrap_i64 (a := k + (1 : Int) + (1 : Int) + (1 : Int)) (by omega) (by omega))
    let t24 : Tp pr := .m (show (decide (((List.map Frm.cc m).append ([C.t (T.int IntKind.i64 k), C.t (T.int IntKind.i64 (k + (1 : Int))), C.t (T.int IntKind.i64 (k + (1 : Int) + (1 : Int))), C.t (T.int IntKind.i64 x.val)] :: B)).length = m.length + (1 : Nat) + rest.length + J.length)) = true by (simp; omega))
    let t25 : Tp pr := .g .crow (show (((List.map Frm.cc m).append ([C.t (T.int IntKind.i64 k), C.t (T.int IntKind.i64 (k + (1 : Int))), C.t (T.int IntKind.i64 (k + (1 : Int) + (1 : Int))), C.t (T.int IntKind.i64 x.val)] :: B))[m.length]?) = some ([C.t (T.int IntKind.i64 k), C.t (T.int IntKind.i64 (k + (1 : Int))), C.t (T.int IntKind.i64 (k + (1 : Int) + (1 : Int))), C.t (T.int IntKind.i64 x.val)]) by simp)
    let t26 : Tp pr := .n .crows (show (((List.map Frm.cc m).append ([C.t (T.int IntKind.i64 k), C.t (T.int IntKind.i64 (k + (1 : Int))), C.t (T.int IntKind.i64 (k + (1 : Int) + (1 : Int))), C.t (T.int IntKind.i64 x.val)] :: B)).set m.length [C.t (T.int IntKind.i64 k), C.t (T.int IntKind.i64 (k + (1 : Int))), C.t (T.int IntKind.i64 (k + (1 : Int) + (1 : Int))), C.t (T.int IntKind.i64 (k + (1 : Int) + (1 : Int) + (1 : Int)))]) = List.map Frm.cc m ++ [C.t (T.int IntKind.i64 k), C.t (T.int IntKind.i64 (k + (1 : Int))), C.t (T.int IntKind.i64 (k + (1 : Int) + (1 : Int))), C.t (T.int IntKind.i64 (k + (1 : Int) + (1 : Int) + (1 : Int)))] :: B by simp)
    let t27 : Tp pr := .i (wrap_i64 (a := k + (1 : Int) + (1 : Int) + (1 : Int) + (1 : Int)) (by omega) (by omega))
    let t28 : Tp pr := .i (wrap_i64 (a := (↑m.length : Int) + (1 : Int)) (by omega) (by omega))
    exact .tp [t0, t1, t2, t3, t4, t5, t4, t5, t8, t9, t2, t3, t12, t13, t14, t15, t2, t3, t18, t19, t20, t21, t2, t3, t24, t25, t26, t27, t28, .a (ih)] (by kernel_rfl)
theorem markFrmJ_ev (J : List (List C)) (l : List Frm) (k : Int) (h0 : 0 ≤ k) (h : k + 4 * l.length ≤ 9000000) (h2 : l.length ≤ 1048576) : Ev pr (.call 84 [.vec 0 (l.length + J.length) 4 0 l.length, i64 k] [.vec true 4 (l.map Frm.cc ++ J)]) (.val (i64 (k + 4 * l.length)) [.vec true 4 ((mkFrm k l.length).map Frm.cc ++ J)]) := by
  have := markFrmL_ev J l [] k h0 h (by simpa using h2)
  simp only [List.length_nil, Nat.zero_add, List.nil_append, List.map_nil] at this
  exact .tp [.a (this)] (by kernel_rfl)
theorem markFrmS_ev (l : List Frm) (k : Int) (h0 : 0 ≤ k) (h : k + 4 * l.length ≤ 9000000) (h2 : l.length ≤ 1048576) : Ev pr (.call 84 [.vec 0 l.length 4 0 l.length, i64 k] [.vec true 4 (l.map Frm.cc)]) (.val (i64 (k + 4 * l.length)) [.vec true 4 ((mkFrm k l.length).map Frm.cc)]) := by
  have := markFrmJ_ev [] l k h0 h h2
  simpa only [List.append_nil, List.length_nil, Nat.add_zero] using this
theorem heldFrmL_ev : ∀ (n : Nat) (m : List Frm) (k : Int), 0 ≤ k → k + 4 * n ≤ 9000000 → m.length + n ≤ 1048576 →
    Ev pr (.loop (lq pr 87 0) (at_ [(0, .t (.seq 4 ((m ++ mkFrm k n).map Frm.ce))), (1, i64 k), (5, i64 m.length)] [] 0)) (.exit 0 (at_ [(1, i64 (k + 4 * n))] [] 0))
  | 0, m, k, h0, h1, h2 => by
    simp only [mkFrm, List.append_nil, Int.natCast_zero, Int.mul_zero, Int.add_zero]
    let t0 : Tp pr := .i (show ((↑(List.map Frm.ce m).length : Int) : Int) = (↑m.length : Int) by simp)
    let t1 : Tp pr := .b (show (decide ((↑m.length : Int) < (↑m.length : Int))) = false by simp)
    exact .tp [t0, t1] (by kernel_rfl)
  | n + 1, m, k, h0, h1, h2 => by
    have ih := heldFrmL_ev n (m ++ [⟨k, k + 1, k + 1 + 1, k + 1 + 1 + 1⟩]) (k + 1 + 1 + 1 + 1) (by omega) (by omega) (by simp; omega)
    simp only [List.length_append, List.length_singleton, List.append_assoc, List.singleton_append] at ih
    have hm := mkFrm_len (k + 1 + 1 + 1 + 1) n
    have hg := Frm_lkp_mid m ⟨k, k + 1, k + 1 + 1, k + 1 + 1 + 1⟩ (mkFrm (k + 1 + 1 + 1 + 1) n)
    rw [show k + 4 * ((n + 1 : Nat) : Int) = k + 1 + 1 + 1 + 1 + 4 * n by omega, show mkFrm k (n + 1) = ⟨k, k + 1, k + 1 + 1, k + 1 + 1 + 1⟩ :: mkFrm (k + 1 + 1 + 1 + 1) n from rfl]
    have hlen : ((m ++ ⟨k, k + 1, k + 1 + 1, k + 1 + 1 + 1⟩ :: mkFrm (k + 1 + 1 + 1 + 1) n).map Frm.ce).length = m.length + 1 + n := by simp [hm]; omega
    generalize (m ++ ⟨k, k + 1, k + 1 + 1, k + 1 + 1 + 1⟩ :: mkFrm (k + 1 + 1 + 1 + 1) n).map Frm.ce = R at *
    let t1 : Tp pr := .b (show (decide ((↑m.length : Int) < (↑R.length : Int))) = true by (simp; omega))
    let t2 : Tp pr := .g .row (show (lkp R (↑m.length : Int)) = some ([T.int IntKind.i64 (Frm.mk k (k + (1 : Int)) (k + (1 : Int) + (1 : Int)) (k + (1 : Int) + (1 : Int) + (1 : Int))).kind, T.int IntKind.i64 (Frm.mk k (k + (1 : Int)) (k + (1 : Int) + (1 : Int)) (k + (1 : Int) + (1 : Int) + (1 : Int))).pl, T.int IntKind.i64 (Frm.mk k (k + (1 : Int)) (k + (1 : Int) + (1 : Int)) (k + (1 : Int) + (1 : Int) + (1 : Int))).env, T.int IntKind.i64 (Frm.mk k (k + (1 : Int)) (k + (1 : Int) + (1 : Int)) (k + (1 : Int) + (1 : Int) + (1 : Int))).val]) from hg)
    let t4 : Tp pr := .i (wrap_i64 (a := k + (1 : Int)) (by omega) (by omega))
    let t6 : Tp pr := .b (show (k + (1 : Int) != k + (1 : Int)) = false by simp)
    let t7 : Tp pr := .i (wrap_i64 (a := k + (1 : Int) + (1 : Int)) (by omega) (by omega))
    let t9 : Tp pr := .b (show (k + (1 : Int) + (1 : Int) != k + (1 : Int) + (1 : Int)) = false by simp)
    let t10 : Tp pr := .i (wrap_i64 (a := k + (1 : Int) + (1 : Int) + (1 : Int)) (by omega) (by omega))
    let t12 : Tp pr := .b (show (k + (1 : Int) + (1 : Int) + (1 : Int) != k + (1 : Int) + (1 : Int) + (1 : Int)) = false by simp)
    let t13 : Tp pr := .i (wrap_i64 (a := k + (1 : Int) + (1 : Int) + (1 : Int) + (1 : Int)) (by omega) (by omega))
    let t14 : Tp pr := .i (wrap_i64 (a := (↑m.length : Int) + (1 : Int)) (by omega) (by omega))
    exact .tp [.i (rfl : ((↑R.length : Int)) = _), t1, t2, .b (show (k != k) = false by simp), t4, t2, t6, t7, t2, t9, t10, t2, t12, t13, t14, .a (ih)] (by kernel_rfl)
theorem heldFrmS_ev (n : Nat) (k : Int) (h0 : 0 ≤ k) (h : k + 4 * n ≤ 9000000) (h2 : n ≤ 1048576) : Ev pr (.call 87 [.t (.seq 4 ((mkFrm k n).map Frm.ce)), i64 k] []) (.val (i64 (k + 4 * n)) []) := by
  have := heldFrmL_ev n [] k h0 h (by simpa using h2)
  simp only [List.length_nil, List.nil_append] at this
  exact .tp [.a (this)] (by kernel_rfl)
@[simp high] theorem Vl_get_mid (m : List Vl) (x : Vl) (r : List Vl) : ((m ++ x :: r).map Vl.cc)[m.length]? = some [C.t (.bool x.fn), C.t (.int .i64 x.num), C.t (.int .i64 x.pl), C.t (.int .i64 x.env)] := by simp [Vl.cc]
@[simp high] theorem Vl_lkp_mid (m : List Vl) (x : Vl) (r : List Vl) : lkp ((m ++ x :: r).map Vl.ce) (m.length : Int) = some [T.bool x.fn, T.int .i64 x.num, T.int .i64 x.pl, T.int .i64 x.env] := by simp [Vl.ce]
theorem eqVl_ev (x : Vl) : Ev pr (.call 144 [.agg (x.ce.map V.t), .agg (x.ce.map V.t)] []) (.val (bl true) []) := by
  obtain ⟨a0, a1, a2, a3⟩ := x
  let t0 : Tp pr := .b (show (!decide (a0 = a0)) = false by simp)
  exact .tp [t0, .b (show (a1 != a1) = false by simp), .b (show (a2 != a2) = false by simp), .b (show (a3 != a3) = false by simp)] (by kernel_rfl)
theorem eqVlL_ev : ∀ (rest m : List Vl), m.length + rest.length ≤ 1048576 → Ev pr (.loop (lq pr 81 0) (at_ [(0, .t (.seq 4 ((m ++ rest).map Vl.ce))), (1, .t (.seq 4 ((m ++ rest).map Vl.ce))), (5, i64 m.length)] [] 0)) (.exit 0 (at_ [] [] 0))
  | [], m, h => by
    simp only [List.append_nil]
    let t0 : Tp pr := .i (show ((↑(List.map Vl.ce m).length : Int) : Int) = (↑m.length : Int) by simp)
    let t1 : Tp pr := .b (show (decide ((↑m.length : Int) < (↑m.length : Int))) = false by simp)
    exact .tp [t0, t1] (by kernel_rfl)
  | x :: rest, m, h => by
    simp only [List.length_cons] at h
    have ih := eqVlL_ev rest (m ++ [x]) (by simp; omega)
    simp only [List.length_append, List.length_singleton, List.append_assoc, List.singleton_append] at ih
    have hx := eqVl_ev x
    have hg := Vl_lkp_mid m x rest
    have hlen : ((m ++ x :: rest).map Vl.ce).length = m.length + 1 + rest.length := by simp; omega
    generalize (m ++ x :: rest).map Vl.ce = R at *
    let t1 : Tp pr := .b (show (decide ((↑m.length : Int) < (↑R.length : Int))) = true by (simp; omega))
    let t4 : Tp pr := .g .row (show (lkp R (↑m.length : Int)) = some ([T.bool x.fn, T.int IntKind.i64 x.num, T.int IntKind.i64 x.pl, T.int IntKind.i64 x.env]) from hg)
    let t16 : Tp pr := .i (wrap_i64 (a := (↑m.length : Int) + (1 : Int)) (by omega) (by omega))
    exact .tp [.i (rfl : ((↑R.length : Int)) = _), t1, .mT, .mT, t4, .mT, .mT, .mT, .mT, t4, .mT, .mT, .a (hx), .mT, .mT, .bF, t16, .a (ih)] (by kernel_rfl)
theorem eqVlS_ev (l : List Vl) (h : l.length ≤ 1048576) : Ev pr (.call 81 [.t (.seq 4 (l.map Vl.ce)), .t (.seq 4 (l.map Vl.ce))] []) (.val (bl true) []) := by
  have := eqVlL_ev l [] (by simpa using h)
  simp only [List.length_nil, List.nil_append] at this
  let t0 : Tp pr := .i (show ((↑(List.map Vl.ce l).length : Int) : Int) = (↑l.length : Int) by simp)
  let t2 : Tp pr := .b (show ((↑l.length : Int) != (↑l.length : Int)) = false by simp)
  exact .tp [t0, t0, t2, .a (this)] (by kernel_rfl)
def mkVl (k : Int) : Nat → List Vl
  | 0 => []
  | n + 1 => ⟨decide ((k).tmod 3 = 0), k + 1, k + 1 + 1, k + 1 + 1 + 1⟩ :: mkVl (k + 1 + 1 + 1 + 1) n
theorem mkVl_len (k : Int) (n : Nat) : (mkVl k n).length = n := by induction n generalizing k with
  | zero => rfl
  | succ n ih => simp [mkVl, ih]
theorem markVlL_ev (J : List (List C)) : ∀ (rest m : List Vl) (k : Int), 0 ≤ k → k + 4 * rest.length ≤ 9000000 → m.length + rest.length ≤ 1048576 →
    Ev pr (.loop (lq pr 85 0) (at_ [(0, .vec 0 (m.length + rest.length + J.length) 4 0 (m.length + rest.length)), (1, i64 k), (5, i64 m.length)] [.vec true 4 (m.map Vl.cc ++ (rest.map Vl.cc ++ J))] 1))
      (.exit 0 (at_ [(1, i64 (k + 4 * rest.length))] [.vec true 4 ((m ++ mkVl k rest.length).map Vl.cc ++ J)] 1))
  | [], m, k, h0, h1, h2 => by
    simp only [List.length_nil, Nat.add_zero, mkVl, List.append_nil, Int.natCast_zero, Int.mul_zero, Int.add_zero, List.map_nil, List.nil_append] at *
    let t1 : Tp pr := .b (show (decide ((↑m.length : Int) < (↑m.length : Int))) = false by simp)
    exact .tp [.i (rfl : ((↑m.length : Int)) = _), t1] (by kernel_rfl)
  | x :: rest, m, k, h0, h1, h2 => by
    have hlr : (x :: rest).length = rest.length + 1 := rfl
    rw [hlr] at h1 h2 ⊢
    have ih := markVlL_ev J rest (m ++ [⟨decide ((k).tmod 3 = 0), k + 1, k + 1 + 1, k + 1 + 1 + 1⟩]) (k + 1 + 1 + 1 + 1) (by omega) (by omega) (by simp; omega)
    simp only [List.length_append, List.length_singleton, List.append_assoc, List.singleton_append, List.map_append, List.map_cons, List.map_nil] at ih
    rw [show k + 4 * ((rest.length + 1 : Nat) : Int) = k + 1 + 1 + 1 + 1 + 4 * rest.length by omega, show m.length + (rest.length + 1) = m.length + 1 + rest.length by omega, show mkVl k (rest.length + 1) = ⟨decide ((k).tmod 3 = 0), k + 1, k + 1 + 1, k + 1 + 1 + 1⟩ :: mkVl (k + 1 + 1 + 1 + 1) rest.length from rfl]
    simp only [List.map_append, List.map_cons, List.cons_append, List.append_assoc] at ih ⊢
    have hlm : (m.map Vl.cc).length = m.length := by simp
    have hlb : (rest.map Vl.cc ++ J).length = rest.length + J.length := by simp
    generalize rest.map Vl.cc ++ J = B at *
    let t0 : Tp pr := .i (show ((↑(m.length + (1 : Nat) + rest.length) : Int) : Int) = (↑m.length : Int) + (1 : Int) + (↑rest.length : Int) by omega)
    let t1 : Tp pr := .b (show (decide ((↑m.length : Int) < (↑m.length : Int) + (1 : Int) + (↑rest.length : Int))) = true by (simp; omega))
    let t4 : Tp pr := .m (show (decide ((0 : Int) ≤ (↑m.length : Int) ∧ (↑m.length : Int).toNat < m.length + (1 : Nat) + rest.length)) = true by (simp; omega))
    let t5 : Tp pr := .c (show ((0 : Nat) + (↑m.length : Int).toNat : Nat) = m.length by omega)
    let t6 : Tp pr := .m (show (decide (((List.map Vl.cc m).append ([C.t (T.bool x.fn), C.t (T.int IntKind.i64 x.num), C.t (T.int IntKind.i64 x.pl), C.t (T.int IntKind.i64 x.env)] :: B)).length = m.length + (1 : Nat) + rest.length + J.length)) = true by (simp; omega))
    let t7 : Tp pr := .g .crow (show (((List.map Vl.cc m).append ([C.t (T.bool x.fn), C.t (T.int IntKind.i64 x.num), C.t (T.int IntKind.i64 x.pl), C.t (T.int IntKind.i64 x.env)] :: B))[m.length]?) = some ([C.t (T.bool x.fn), C.t (T.int IntKind.i64 x.num), C.t (T.int IntKind.i64 x.pl), C.t (T.int IntKind.i64 x.env)]) by simp)
    let t10 : Tp pr := .n .crows (show (((List.map Vl.cc m).append ([C.t (T.bool x.fn), C.t (T.int IntKind.i64 x.num), C.t (T.int IntKind.i64 x.pl), C.t (T.int IntKind.i64 x.env)] :: B)).set m.length [C.t (T.bool (decide (k.tmod (3 : Int) = (0 : Int)))), C.t (T.int IntKind.i64 x.num), C.t (T.int IntKind.i64 x.pl), C.t (T.int IntKind.i64 x.env)]) = List.map Vl.cc m ++ [C.t (T.bool (decide (k.tmod (3 : Int) = (0 : Int)))), C.t (T.int IntKind.i64 x.num), C.t (T.int IntKind.i64 x.pl), C.t (T.int IntKind.i64 x.env)] :: B by simp)
    let t11 : Tp pr := .i (wrap_i64 (a := k + (1 : Int)) (by omega) (by omega))
    let t14 : Tp pr := .m (show (decide (((List.map Vl.cc m).append ([C.t (T.bool (decide (k.tmod (3 : Int) = (0 : Int)))), C.t (T.int IntKind.i64 x.num), C.t (T.int IntKind.i64 x.pl), C.t (T.int IntKind.i64 x.env)] :: B)).length = m.length + (1 : Nat) + rest.length + J.length)) = true by (simp; omega))
    let t15 : Tp pr := .g .crow (show (((List.map Vl.cc m).append ([C.t (T.bool (decide (k.tmod (3 : Int) = (0 : Int)))), C.t (T.int IntKind.i64 x.num), C.t (T.int IntKind.i64 x.pl), C.t (T.int IntKind.i64 x.env)] :: B))[m.length]?) = some ([C.t (T.bool (decide (k.tmod (3 : Int) = (0 : Int)))), C.t (T.int IntKind.i64 x.num), C.t (T.int IntKind.i64 x.pl), C.t (T.int IntKind.i64 x.env)]) by simp)
    let t16 : Tp pr := .n .crows (show (((List.map Vl.cc m).append ([C.t (T.bool (decide (k.tmod (3 : Int) = (0 : Int)))), C.t (T.int IntKind.i64 x.num), C.t (T.int IntKind.i64 x.pl), C.t (T.int IntKind.i64 x.env)] :: B)).set m.length [C.t (T.bool (decide (k.tmod (3 : Int) = (0 : Int)))), C.t (T.int IntKind.i64 (k + (1 : Int))), C.t (T.int IntKind.i64 x.pl), C.t (T.int IntKind.i64 x.env)]) = List.map Vl.cc m ++ [C.t (T.bool (decide (k.tmod (3 : Int) = (0 : Int)))), C.t (T.int IntKind.i64 (k + (1 : Int))), C.t (T.int IntKind.i64 x.pl), C.t (T.int IntKind.i64 x.env)] :: B by simp)
    let t17 : Tp pr := .i (wrap_i64 (a := k + (1 : Int) + (1 : Int)) (by omega) (by omega))
    let t20 : Tp pr := .m (show (decide (((List.map Vl.cc m).append ([C.t (T.bool (decide (k.tmod (3 : Int) = (0 : Int)))), C.t (T.int IntKind.i64 (k + (1 : Int))), C.t (T.int IntKind.i64 x.pl), C.t (T.int IntKind.i64 x.env)] :: B)).length = m.length + (1 : Nat) + rest.length + J.length)) = true by (simp; omega))
    let t21 : Tp pr := .g .crow (show (((List.map Vl.cc m).append ([C.t (T.bool (decide (k.tmod (3 : Int) = (0 : Int)))), C.t (T.int IntKind.i64 (k + (1 : Int))), C.t (T.int IntKind.i64 x.pl), C.t (T.int IntKind.i64 x.env)] :: B))[m.length]?) = some ([C.t (T.bool (decide (k.tmod (3 : Int) = (0 : Int)))), C.t (T.int IntKind.i64 (k + (1 : Int))), C.t (T.int IntKind.i64 x.pl), C.t (T.int IntKind.i64 x.env)]) by simp)
    let t22 : Tp pr := .n .crows (show (((List.map Vl.cc m).append ([C.t (T.bool (decide (k.tmod (3 : Int) = (0 : Int)))), C.t (T.int IntKind.i64 (k + (1 : Int))), C.t (T.int IntKind.i64 x.pl), C.t (T.int IntKind.i64 x.env)] :: B)).set m.length [C.t (T.bool (decide (k.tmod (3 : Int) = (0 : Int)))), C.t (T.int IntKind.i64 (k + (1 : Int))), C.t (T.int IntKind.i64 (k + (1 : Int) + (1 : Int))), C.t (T.int IntKind.i64 x.env)]) = List.map Vl.cc m ++ [C.t (T.bool (decide (k.tmod (3 : Int) = (0 : Int)))), C.t (T.int IntKind.i64 (k + (1 : Int))), C.t (T.int IntKind.i64 (k + (1 : Int) + (1 : Int))), C.t (T.int IntKind.i64 x.env)] :: B by simp)
    let t23 : Tp pr := .i (wrap_i64 (a := k + (1 : Int) + (1 : Int) + (1 : Int)) (by omega) (by omega))
    let t26 : Tp pr := .m (show (decide (((List.map Vl.cc m).append ([C.t (T.bool (decide (k.tmod (3 : Int) = (0 : Int)))), C.t (T.int IntKind.i64 (k + (1 : Int))), C.t (T.int IntKind.i64 (k + (1 : Int) + (1 : Int))), C.t (T.int IntKind.i64 x.env)] :: B)).length = m.length + (1 : Nat) + rest.length + J.length)) = true by (simp; omega))
    let t27 : Tp pr := .g .crow (show (((List.map Vl.cc m).append ([C.t (T.bool (decide (k.tmod (3 : Int) = (0 : Int)))), C.t (T.int IntKind.i64 (k + (1 : Int))), C.t (T.int IntKind.i64 (k + (1 : Int) + (1 : Int))), C.t (T.int IntKind.i64 x.env)] :: B))[m.length]?) = some ([C.t (T.bool (decide (k.tmod (3 : Int) = (0 : Int)))), C.t (T.int IntKind.i64 (k + (1 : Int))), C.t (T.int IntKind.i64 (k + (1 : Int) + (1 : Int))), C.t (T.int IntKind.i64 x.env)]) by simp)
    let t28 : Tp pr := .n .crows (show (((List.map Vl.cc m).append ([C.t (T.bool (decide (k.tmod (3 : Int) = (0 : Int)))), C.t (T.int IntKind.i64 (k + (1 : Int))), C.t (T.int IntKind.i64 (k + (1 : Int) + (1 : Int))), C.t (T.int IntKind.i64 x.env)] :: B)).set m.length [C.t (T.bool (decide (k.tmod (3 : Int) = (0 : Int)))), C.t (T.int IntKind.i64 (k + (1 : Int))), C.t (T.int IntKind.i64 (k + (1 : Int) + (1 : Int))), C.t (T.int IntKind.i64 (k + (1 : Int) + (1 : Int) + (1 : Int)))]) = List.map Vl.cc m ++ [C.t (T.bool (decide (k.tmod (3 : Int) = (0 : Int)))), C.t (T.int IntKind.i64 (k + (1 : Int))), C.t (T.int IntKind.i64 (k + (1 : Int) + (1 : Int))), C.t (T.int IntKind.i64 (k + (1 : Int) + (1 : Int) + (1 : Int)))] :: B by simp)
    let t29 : Tp pr := .i (wrap_i64 (a := k + (1 : Int) + (1 : Int) + (1 : Int) + (1 : Int)) (by omega) (by omega))
    let t30 : Tp pr := .i (wrap_i64 (a := (↑m.length : Int) + (1 : Int)) (by omega) (by omega))
    exact .tp [t0, t1, .mT, .i (rfl : (k.tmod (3 : Int)) = _), t4, t5, t6, t7, t6, t7, t10, t11, t4, t5, t14, t15, t16, t17, t4, t5, t20, t21, t22, t23, t4, t5, t26, t27, t28, t29, t30, .a (ih)] (by kernel_rfl)
theorem markVlJ_ev (J : List (List C)) (l : List Vl) (k : Int) (h0 : 0 ≤ k) (h : k + 4 * l.length ≤ 9000000) (h2 : l.length ≤ 1048576) : Ev pr (.call 85 [.vec 0 (l.length + J.length) 4 0 l.length, i64 k] [.vec true 4 (l.map Vl.cc ++ J)]) (.val (i64 (k + 4 * l.length)) [.vec true 4 ((mkVl k l.length).map Vl.cc ++ J)]) := by
  have := markVlL_ev J l [] k h0 h (by simpa using h2)
  simp only [List.length_nil, Nat.zero_add, List.nil_append, List.map_nil] at this
  exact .tp [.a (this)] (by kernel_rfl)
theorem markVlS_ev (l : List Vl) (k : Int) (h0 : 0 ≤ k) (h : k + 4 * l.length ≤ 9000000) (h2 : l.length ≤ 1048576) : Ev pr (.call 85 [.vec 0 l.length 4 0 l.length, i64 k] [.vec true 4 (l.map Vl.cc)]) (.val (i64 (k + 4 * l.length)) [.vec true 4 ((mkVl k l.length).map Vl.cc)]) := by
  have := markVlJ_ev [] l k h0 h h2
  simpa only [List.append_nil, List.length_nil, Nat.add_zero] using this
theorem heldVlL_ev : ∀ (n : Nat) (m : List Vl) (k : Int), 0 ≤ k → k + 4 * n ≤ 9000000 → m.length + n ≤ 1048576 →
    Ev pr (.loop (lq pr 88 0) (at_ [(0, .t (.seq 4 ((m ++ mkVl k n).map Vl.ce))), (1, i64 k), (5, i64 m.length)] [] 0)) (.exit 0 (at_ [(1, i64 (k + 4 * n))] [] 0))
  | 0, m, k, h0, h1, h2 => by
    simp only [mkVl, List.append_nil, Int.natCast_zero, Int.mul_zero, Int.add_zero]
    let t0 : Tp pr := .i (show ((↑(List.map Vl.ce m).length : Int) : Int) = (↑m.length : Int) by simp)
    let t1 : Tp pr := .b (show (decide ((↑m.length : Int) < (↑m.length : Int))) = false by simp)
    exact .tp [t0, t1] (by kernel_rfl)
  | n + 1, m, k, h0, h1, h2 => by
    have ih := heldVlL_ev n (m ++ [⟨decide ((k).tmod 3 = 0), k + 1, k + 1 + 1, k + 1 + 1 + 1⟩]) (k + 1 + 1 + 1 + 1) (by omega) (by omega) (by simp; omega)
    simp only [List.length_append, List.length_singleton, List.append_assoc, List.singleton_append] at ih
    have hm := mkVl_len (k + 1 + 1 + 1 + 1) n
    have hg := Vl_lkp_mid m ⟨decide ((k).tmod 3 = 0), k + 1, k + 1 + 1, k + 1 + 1 + 1⟩ (mkVl (k + 1 + 1 + 1 + 1) n)
    rw [show k + 4 * ((n + 1 : Nat) : Int) = k + 1 + 1 + 1 + 1 + 4 * n by omega, show mkVl k (n + 1) = ⟨decide ((k).tmod 3 = 0), k + 1, k + 1 + 1, k + 1 + 1 + 1⟩ :: mkVl (k + 1 + 1 + 1 + 1) n from rfl]
    have hlen : ((m ++ ⟨decide ((k).tmod 3 = 0), k + 1, k + 1 + 1, k + 1 + 1 + 1⟩ :: mkVl (k + 1 + 1 + 1 + 1) n).map Vl.ce).length = m.length + 1 + n := by simp [hm]; omega
    generalize (m ++ ⟨decide ((k).tmod 3 = 0), k + 1, k + 1 + 1, k + 1 + 1 + 1⟩ :: mkVl (k + 1 + 1 + 1 + 1) n).map Vl.ce = R at *
    let t1 : Tp pr := .b (show (decide ((↑m.length : Int) < (↑R.length : Int))) = true by (simp; omega))
    let t2 : Tp pr := .g .row (show (lkp R (↑m.length : Int)) = some ([T.bool (Vl.mk (decide (k.tmod (3 : Int) = (0 : Int))) (k + (1 : Int)) (k + (1 : Int) + (1 : Int)) (k + (1 : Int) + (1 : Int) + (1 : Int))).fn, T.int IntKind.i64 (Vl.mk (decide (k.tmod (3 : Int) = (0 : Int))) (k + (1 : Int)) (k + (1 : Int) + (1 : Int)) (k + (1 : Int) + (1 : Int) + (1 : Int))).num, T.int IntKind.i64 (Vl.mk (decide (k.tmod (3 : Int) = (0 : Int))) (k + (1 : Int)) (k + (1 : Int) + (1 : Int)) (k + (1 : Int) + (1 : Int) + (1 : Int))).pl, T.int IntKind.i64 (Vl.mk (decide (k.tmod (3 : Int) = (0 : Int))) (k + (1 : Int)) (k + (1 : Int) + (1 : Int)) (k + (1 : Int) + (1 : Int) + (1 : Int))).env]) from hg)
    let t5 : Tp pr := .b (show (!decide (decide (k.tmod (3 : Int) = (0 : Int)) = decide (k.tmod (3 : Int) = (0 : Int)))) = false by simp)
    let t6 : Tp pr := .i (wrap_i64 (a := k + (1 : Int)) (by omega) (by omega))
    let t8 : Tp pr := .b (show (k + (1 : Int) != k + (1 : Int)) = false by simp)
    let t9 : Tp pr := .i (wrap_i64 (a := k + (1 : Int) + (1 : Int)) (by omega) (by omega))
    let t11 : Tp pr := .b (show (k + (1 : Int) + (1 : Int) != k + (1 : Int) + (1 : Int)) = false by simp)
    let t12 : Tp pr := .i (wrap_i64 (a := k + (1 : Int) + (1 : Int) + (1 : Int)) (by omega) (by omega))
    let t14 : Tp pr := .b (show (k + (1 : Int) + (1 : Int) + (1 : Int) != k + (1 : Int) + (1 : Int) + (1 : Int)) = false by simp)
    let t15 : Tp pr := .i (wrap_i64 (a := k + (1 : Int) + (1 : Int) + (1 : Int) + (1 : Int)) (by omega) (by omega))
    let t16 : Tp pr := .i (wrap_i64 (a := (↑m.length : Int) + (1 : Int)) (by omega) (by omega))
    exact .tp [.i (rfl : ((↑R.length : Int)) = _), t1, t2, .mT, .i (rfl : (k.tmod (3 : Int)) = _), t5, t6, t2, t8, t9, t2, t11, t12, t2, t14, t15, t16, .a (ih)] (by kernel_rfl)
theorem heldVlS_ev (n : Nat) (k : Int) (h0 : 0 ≤ k) (h : k + 4 * n ≤ 9000000) (h2 : n ≤ 1048576) : Ev pr (.call 88 [.t (.seq 4 ((mkVl k n).map Vl.ce)), i64 k] []) (.val (i64 (k + 4 * n)) []) := by
  have := heldVlL_ev n [] k h0 h (by simpa using h2)
  simp only [List.length_nil, List.nil_append] at this
  exact .tp [.a (this)] (by kernel_rfl)
@[simp high] theorem Bd_get_mid (m : List Bd) (x : Bd) (r : List Bd) : ((m ++ x :: r).map Bd.cc)[m.length]? = some [C.t (.int .i64 x.val), C.t (.int .i64 x.up)] := by simp [Bd.cc]
@[simp high] theorem Bd_lkp_mid (m : List Bd) (x : Bd) (r : List Bd) : lkp ((m ++ x :: r).map Bd.ce) (m.length : Int) = some [T.int .i64 x.val, T.int .i64 x.up] := by simp [Bd.ce]
theorem eqBd_ev (x : Bd) : Ev pr (.call 145 [.agg (x.ce.map V.t), .agg (x.ce.map V.t)] []) (.val (bl true) []) := by
  obtain ⟨a0, a1⟩ := x
  exact .tp [.b (show (a0 != a0) = false by simp), .b (show (a1 != a1) = false by simp)] (by kernel_rfl)
theorem eqBdL_ev : ∀ (rest m : List Bd), m.length + rest.length ≤ 1048576 → Ev pr (.loop (lq pr 82 0) (at_ [(0, .t (.seq 2 ((m ++ rest).map Bd.ce))), (1, .t (.seq 2 ((m ++ rest).map Bd.ce))), (5, i64 m.length)] [] 0)) (.exit 0 (at_ [] [] 0))
  | [], m, h => by
    simp only [List.append_nil]
    let t0 : Tp pr := .i (show ((↑(List.map Bd.ce m).length : Int) : Int) = (↑m.length : Int) by simp)
    let t1 : Tp pr := .b (show (decide ((↑m.length : Int) < (↑m.length : Int))) = false by simp)
    exact .tp [t0, t1] (by kernel_rfl)
  | x :: rest, m, h => by
    simp only [List.length_cons] at h
    have ih := eqBdL_ev rest (m ++ [x]) (by simp; omega)
    simp only [List.length_append, List.length_singleton, List.append_assoc, List.singleton_append] at ih
    have hx := eqBd_ev x
    have hg := Bd_lkp_mid m x rest
    have hlen : ((m ++ x :: rest).map Bd.ce).length = m.length + 1 + rest.length := by simp; omega
    generalize (m ++ x :: rest).map Bd.ce = R at *
    let t1 : Tp pr := .b (show (decide ((↑m.length : Int) < (↑R.length : Int))) = true by (simp; omega))
    let t4 : Tp pr := .g .row (show (lkp R (↑m.length : Int)) = some ([T.int IntKind.i64 x.val, T.int IntKind.i64 x.up]) from hg)
    let t16 : Tp pr := .i (wrap_i64 (a := (↑m.length : Int) + (1 : Int)) (by omega) (by omega))
    exact .tp [.i (rfl : ((↑R.length : Int)) = _), t1, .mT, .mT, t4, .mT, .mT, .mT, .mT, t4, .mT, .mT, .a (hx), .mT, .mT, .bF, t16, .a (ih)] (by kernel_rfl)
theorem eqBdS_ev (l : List Bd) (h : l.length ≤ 1048576) : Ev pr (.call 82 [.t (.seq 2 (l.map Bd.ce)), .t (.seq 2 (l.map Bd.ce))] []) (.val (bl true) []) := by
  have := eqBdL_ev l [] (by simpa using h)
  simp only [List.length_nil, List.nil_append] at this
  let t0 : Tp pr := .i (show ((↑(List.map Bd.ce l).length : Int) : Int) = (↑l.length : Int) by simp)
  let t2 : Tp pr := .b (show ((↑l.length : Int) != (↑l.length : Int)) = false by simp)
  exact .tp [t0, t0, t2, .a (this)] (by kernel_rfl)
def mkBd (k : Int) : Nat → List Bd
  | 0 => []
  | n + 1 => ⟨k, k + 1⟩ :: mkBd (k + 1 + 1) n
theorem mkBd_len (k : Int) (n : Nat) : (mkBd k n).length = n := by induction n generalizing k with
  | zero => rfl
  | succ n ih => simp [mkBd, ih]
theorem markBdL_ev (J : List (List C)) : ∀ (rest m : List Bd) (k : Int), 0 ≤ k → k + 2 * rest.length ≤ 9000000 → m.length + rest.length ≤ 1048576 →
    Ev pr (.loop (lq pr 86 0) (at_ [(0, .vec 0 (m.length + rest.length + J.length) 2 0 (m.length + rest.length)), (1, i64 k), (5, i64 m.length)] [.vec true 2 (m.map Bd.cc ++ (rest.map Bd.cc ++ J))] 1))
      (.exit 0 (at_ [(1, i64 (k + 2 * rest.length))] [.vec true 2 ((m ++ mkBd k rest.length).map Bd.cc ++ J)] 1))
  | [], m, k, h0, h1, h2 => by
    simp only [List.length_nil, Nat.add_zero, mkBd, List.append_nil, Int.natCast_zero, Int.mul_zero, Int.add_zero, List.map_nil, List.nil_append] at *
    let t1 : Tp pr := .b (show (decide ((↑m.length : Int) < (↑m.length : Int))) = false by simp)
    exact .tp [.i (rfl : ((↑m.length : Int)) = _), t1] (by kernel_rfl)
  | x :: rest, m, k, h0, h1, h2 => by
    have hlr : (x :: rest).length = rest.length + 1 := rfl
    rw [hlr] at h1 h2 ⊢
    have ih := markBdL_ev J rest (m ++ [⟨k, k + 1⟩]) (k + 1 + 1) (by omega) (by omega) (by simp; omega)
    simp only [List.length_append, List.length_singleton, List.append_assoc, List.singleton_append, List.map_append, List.map_cons, List.map_nil] at ih
    rw [show k + 2 * ((rest.length + 1 : Nat) : Int) = k + 1 + 1 + 2 * rest.length by omega, show m.length + (rest.length + 1) = m.length + 1 + rest.length by omega, show mkBd k (rest.length + 1) = ⟨k, k + 1⟩ :: mkBd (k + 1 + 1) rest.length from rfl]
    simp only [List.map_append, List.map_cons, List.cons_append, List.append_assoc] at ih ⊢
    have hlm : (m.map Bd.cc).length = m.length := by simp
    have hlb : (rest.map Bd.cc ++ J).length = rest.length + J.length := by simp
    generalize rest.map Bd.cc ++ J = B at *
    let t0 : Tp pr := .i (show ((↑(m.length + (1 : Nat) + rest.length) : Int) : Int) = (↑m.length : Int) + (1 : Int) + (↑rest.length : Int) by omega)
    let t1 : Tp pr := .b (show (decide ((↑m.length : Int) < (↑m.length : Int) + (1 : Int) + (↑rest.length : Int))) = true by (simp; omega))
    let t2 : Tp pr := .m (show (decide ((0 : Int) ≤ (↑m.length : Int) ∧ (↑m.length : Int).toNat < m.length + (1 : Nat) + rest.length)) = true by (simp; omega))
    let t3 : Tp pr := .c (show ((0 : Nat) + (↑m.length : Int).toNat : Nat) = m.length by omega)
    let t4 : Tp pr := .m (show (decide (((List.map Bd.cc m).append ([C.t (T.int IntKind.i64 x.val), C.t (T.int IntKind.i64 x.up)] :: B)).length = m.length + (1 : Nat) + rest.length + J.length)) = true by (simp; omega))
    let t5 : Tp pr := .g .crow (show (((List.map Bd.cc m).append ([C.t (T.int IntKind.i64 x.val), C.t (T.int IntKind.i64 x.up)] :: B))[m.length]?) = some ([C.t (T.int IntKind.i64 x.val), C.t (T.int IntKind.i64 x.up)]) by simp)
    let t8 : Tp pr := .n .crows (show (((List.map Bd.cc m).append ([C.t (T.int IntKind.i64 x.val), C.t (T.int IntKind.i64 x.up)] :: B)).set m.length [C.t (T.int IntKind.i64 k), C.t (T.int IntKind.i64 x.up)]) = List.map Bd.cc m ++ [C.t (T.int IntKind.i64 k), C.t (T.int IntKind.i64 x.up)] :: B by simp)
    let t9 : Tp pr := .i (wrap_i64 (a := k + (1 : Int)) (by omega) (by omega))
    let t12 : Tp pr := .m (show (decide (((List.map Bd.cc m).append ([C.t (T.int IntKind.i64 k), C.t (T.int IntKind.i64 x.up)] :: B)).length = m.length + (1 : Nat) + rest.length + J.length)) = true by (simp; omega))
    let t13 : Tp pr := .g .crow (show (((List.map Bd.cc m).append ([C.t (T.int IntKind.i64 k), C.t (T.int IntKind.i64 x.up)] :: B))[m.length]?) = some ([C.t (T.int IntKind.i64 k), C.t (T.int IntKind.i64 x.up)]) by simp)
    let t14 : Tp pr := .n .crows (show (((List.map Bd.cc m).append ([C.t (T.int IntKind.i64 k), C.t (T.int IntKind.i64 x.up)] :: B)).set m.length [C.t (T.int IntKind.i64 k), C.t (T.int IntKind.i64 (k + (1 : Int)))]) = List.map Bd.cc m ++ [C.t (T.int IntKind.i64 k), C.t (T.int IntKind.i64 (k + (1 : Int)))] :: B by simp)
    let t15 : Tp pr := .i (wrap_i64 (a := k + (1 : Int) + (1 : Int)) (by omega) (by omega))
    let t16 : Tp pr := .i (wrap_i64 (a := (↑m.length : Int) + (1 : Int)) (by omega) (by omega))
    exact .tp [t0, t1, t2, t3, t4, t5, t4, t5, t8, t9, t2, t3, t12, t13, t14, t15, t16, .a (ih)] (by kernel_rfl)
theorem markBdJ_ev (J : List (List C)) (l : List Bd) (k : Int) (h0 : 0 ≤ k) (h : k + 2 * l.length ≤ 9000000) (h2 : l.length ≤ 1048576) : Ev pr (.call 86 [.vec 0 (l.length + J.length) 2 0 l.length, i64 k] [.vec true 2 (l.map Bd.cc ++ J)]) (.val (i64 (k + 2 * l.length)) [.vec true 2 ((mkBd k l.length).map Bd.cc ++ J)]) := by
  have := markBdL_ev J l [] k h0 h (by simpa using h2)
  simp only [List.length_nil, Nat.zero_add, List.nil_append, List.map_nil] at this
  exact .tp [.a (this)] (by kernel_rfl)
theorem markBdS_ev (l : List Bd) (k : Int) (h0 : 0 ≤ k) (h : k + 2 * l.length ≤ 9000000) (h2 : l.length ≤ 1048576) : Ev pr (.call 86 [.vec 0 l.length 2 0 l.length, i64 k] [.vec true 2 (l.map Bd.cc)]) (.val (i64 (k + 2 * l.length)) [.vec true 2 ((mkBd k l.length).map Bd.cc)]) := by
  have := markBdJ_ev [] l k h0 h h2
  simpa only [List.append_nil, List.length_nil, Nat.add_zero] using this
theorem heldBdL_ev : ∀ (n : Nat) (m : List Bd) (k : Int), 0 ≤ k → k + 2 * n ≤ 9000000 → m.length + n ≤ 1048576 →
    Ev pr (.loop (lq pr 89 0) (at_ [(0, .t (.seq 2 ((m ++ mkBd k n).map Bd.ce))), (1, i64 k), (5, i64 m.length)] [] 0)) (.exit 0 (at_ [(1, i64 (k + 2 * n))] [] 0))
  | 0, m, k, h0, h1, h2 => by
    simp only [mkBd, List.append_nil, Int.natCast_zero, Int.mul_zero, Int.add_zero]
    let t0 : Tp pr := .i (show ((↑(List.map Bd.ce m).length : Int) : Int) = (↑m.length : Int) by simp)
    let t1 : Tp pr := .b (show (decide ((↑m.length : Int) < (↑m.length : Int))) = false by simp)
    exact .tp [t0, t1] (by kernel_rfl)
  | n + 1, m, k, h0, h1, h2 => by
    have ih := heldBdL_ev n (m ++ [⟨k, k + 1⟩]) (k + 1 + 1) (by omega) (by omega) (by simp; omega)
    simp only [List.length_append, List.length_singleton, List.append_assoc, List.singleton_append] at ih
    have hm := mkBd_len (k + 1 + 1) n
    have hg := Bd_lkp_mid m ⟨k, k + 1⟩ (mkBd (k + 1 + 1) n)
    rw [show k + 2 * ((n + 1 : Nat) : Int) = k + 1 + 1 + 2 * n by omega, show mkBd k (n + 1) = ⟨k, k + 1⟩ :: mkBd (k + 1 + 1) n from rfl]
    have hlen : ((m ++ ⟨k, k + 1⟩ :: mkBd (k + 1 + 1) n).map Bd.ce).length = m.length + 1 + n := by simp [hm]; omega
    generalize (m ++ ⟨k, k + 1⟩ :: mkBd (k + 1 + 1) n).map Bd.ce = R at *
    let t1 : Tp pr := .b (show (decide ((↑m.length : Int) < (↑R.length : Int))) = true by (simp; omega))
    let t2 : Tp pr := .g .row (show (lkp R (↑m.length : Int)) = some ([T.int IntKind.i64 (Bd.mk k (k + (1 : Int))).val, T.int IntKind.i64 (Bd.mk k (k + (1 : Int))).up]) from hg)
    let t4 : Tp pr := .i (wrap_i64 (a := k + (1 : Int)) (by omega) (by omega))
    let t6 : Tp pr := .b (show (k + (1 : Int) != k + (1 : Int)) = false by simp)
    let t7 : Tp pr := .i (wrap_i64 (a := k + (1 : Int) + (1 : Int)) (by omega) (by omega))
    let t8 : Tp pr := .i (wrap_i64 (a := (↑m.length : Int) + (1 : Int)) (by omega) (by omega))
    exact .tp [.i (rfl : ((↑R.length : Int)) = _), t1, t2, .b (show (k != k) = false by simp), t4, t2, t6, t7, t8, .a (ih)] (by kernel_rfl)
theorem heldBdS_ev (n : Nat) (k : Int) (h0 : 0 ≤ k) (h : k + 2 * n ≤ 9000000) (h2 : n ≤ 1048576) : Ev pr (.call 89 [.t (.seq 2 ((mkBd k n).map Bd.ce)), i64 k] []) (.val (i64 (k + 2 * n)) []) := by
  have := heldBdL_ev n [] k h0 h (by simpa using h2)
  simp only [List.length_nil, List.nil_append] at this
  exact .tp [.a (this)] (by kernel_rfl)
end Go.Ev

namespace Go.Ev
set_option linter.unusedVariables false
set_option linter.unusedSimpArgs false
open Go.Proofs
set_option maxRecDepth 100000
set_option maxHeartbeats 4000000
def playM (l : List Cell) (k : Int) : Option (Mc × Nat) :=
  match codeOf l with
  | none => none
  | some t => if 0 ≤ k ∧ k ≤ 2000 then some (Mc.start.play t.cd k.toNat) else none
def pmIO (jk : List Frm) : Option (Mc × Nat) → Out
  | none => .val (.tup [mZ, i64 0, bl false]) []
  | some (m, n) => .val (.tup [.agg [bl m.done, i64 m.pl, i64 m.env, i64 m.val, .vec 0 ((m.frs.reverse ++ jk).map Frm.cc).length 4 0 m.frs.length, .vec 1 (m.vals.map Vl.cc).length 4 0 (m.vals.map Vl.cc).length, .vec 2 (m.bds.map Bd.cc).length 2 0 (m.bds.map Bd.cc).length], i64 n, bl true]) [.vec true 4 ((m.frs.reverse ++ jk).map Frm.cc), .vec true 4 (m.vals.map Vl.cc), .vec true 2 (m.bds.map Bd.cc)]
def mSmall (m : Mc) : Prop := m.frs.length ≤ 500 ∧ m.vals.length ≤ 500 ∧ m.bds.length ≤ 500
def pmSO : Option (Mc × Nat) → Out
  | none => .val (.tup [mF false 0 0 0 [] [] [], i64 0, bl false]) []
  | some (m, n) => .val (.tup [mF m.done m.pl m.env m.val (m.frs.reverse.map Frm.ce) (m.vals.map Vl.ce) (m.bds.map Bd.ce), i64 n, bl true]) []
theorem eqMachine_ev (d : Bool) (p e v : Int) (X Y Z : List (List T)) (gX : Ev pr (.call 80 [.t (.seq 4 X), .t (.seq 4 X)] []) (.val (bl true) [])) (gY : Ev pr (.call 81 [.t (.seq 4 Y), .t (.seq 4 Y)] []) (.val (bl true) [])) (gZ : Ev pr (.call 82 [.t (.seq 2 Z), .t (.seq 2 Z)] []) (.val (bl true) [])) :
    Ev pr (.call 33 [mF d p e v X Y Z, mF d p e v X Y Z] []) (.val (bl true) []) := by
  unfold mF
  let t0 : Tp pr := .b (show (!decide (d = d)) = false by simp)
  exact .tp [t0, .b (show (p != p) = false by simp), .b (show (e != e) = false by simp), .b (show (v != v) = false by simp), .a (gX), .bF, .a (gY), .bF, .a (gZ), .bF] (by kernel_rfl)
theorem eqFrameN_ev : Ev pr (.call 80 [.t .nils, .t (.seq 4 [])] []) (.val (bl true) []) := by
  have g : Ev pr (.loop (lq pr 80 0) (at_ [(0, .t .nils), (1, .t (.seq 4 [])), (5, i64 0)] [] 0)) (.exit 0 (at_ [] [] 0)) := by
    let t0 : Tp pr := .i (rfl : ((0 : Int) : Int) = (0 : Int))
    exact .tp [t0, .bF] (by kernel_rfl)
  let t0 : Tp pr := .i (rfl : ((0 : Int) : Int) = (0 : Int))
  exact .tp [t0, t0, .bF, .a (g)] (by kernel_rfl)
theorem eqValN_ev : Ev pr (.call 81 [.t .nils, .t (.seq 4 [])] []) (.val (bl true) []) := by
  have g : Ev pr (.loop (lq pr 81 0) (at_ [(0, .t .nils), (1, .t (.seq 4 [])), (5, i64 0)] [] 0)) (.exit 0 (at_ [] [] 0)) := by
    let t0 : Tp pr := .i (rfl : ((0 : Int) : Int) = (0 : Int))
    exact .tp [t0, .bF] (by kernel_rfl)
  let t0 : Tp pr := .i (rfl : ((0 : Int) : Int) = (0 : Int))
  exact .tp [t0, t0, .bF, .a (g)] (by kernel_rfl)
theorem eqBindN_ev : Ev pr (.call 82 [.t .nils, .t (.seq 2 [])] []) (.val (bl true) []) := by
  have g : Ev pr (.loop (lq pr 82 0) (at_ [(0, .t .nils), (1, .t (.seq 2 [])), (5, i64 0)] [] 0)) (.exit 0 (at_ [] [] 0)) := by
    let t0 : Tp pr := .i (rfl : ((0 : Int) : Int) = (0 : Int))
    exact .tp [t0, .bF] (by kernel_rfl)
  let t0 : Tp pr := .i (rfl : ((0 : Int) : Int) = (0 : Int))
  exact .tp [t0, t0, .bF, .a (g)] (by kernel_rfl)
theorem eqMachineN_ev : Ev pr (.call 33 [mZ, mF false 0 0 0 [] [] []] []) (.val (bl true) []) := by
  unfold mZ mF
  exact .tp [.bF, .bF, .bF, .bF, .a (eqFrameN_ev), .bF, .a (eqValN_ev), .bF, .a (eqBindN_ev), .bF] (by kernel_rfl)
theorem markFrameN_ev (k : Int) : Ev pr (.call 84 [.t .nils, i64 k] []) (.val (i64 k) []) := by
  have g : Ev pr (.loop (lq pr 84 0) (at_ [(0, .t .nils), (1, i64 k), (5, i64 0)] [] 0)) (.exit 0 (at_ [(1, i64 k)] [] 0)) := by
    let t0 : Tp pr := .i (rfl : ((0 : Int) : Int) = (0 : Int))
    exact .tp [t0, .bF] (by kernel_rfl)
  exact .tp [.a (g)] (by kernel_rfl)
theorem heldFrameN_ev (k : Int) : Ev pr (.call 87 [.t .nils, i64 k] []) (.val (i64 k) []) := by
  have g : Ev pr (.loop (lq pr 87 0) (at_ [(0, .t .nils), (1, i64 k), (5, i64 0)] [] 0)) (.exit 0 (at_ [(1, i64 k)] [] 0)) := by
    let t0 : Tp pr := .i (rfl : ((0 : Int) : Int) = (0 : Int))
    exact .tp [t0, .bF] (by kernel_rfl)
  exact .tp [.a (g)] (by kernel_rfl)
theorem markValN_ev (k : Int) : Ev pr (.call 85 [.t .nils, i64 k] []) (.val (i64 k) []) := by
  have g : Ev pr (.loop (lq pr 85 0) (at_ [(0, .t .nils), (1, i64 k), (5, i64 0)] [] 0)) (.exit 0 (at_ [(1, i64 k)] [] 0)) := by
    let t0 : Tp pr := .i (rfl : ((0 : Int) : Int) = (0 : Int))
    exact .tp [t0, .bF] (by kernel_rfl)
  exact .tp [.a (g)] (by kernel_rfl)
theorem heldValN_ev (k : Int) : Ev pr (.call 88 [.t .nils, i64 k] []) (.val (i64 k) []) := by
  have g : Ev pr (.loop (lq pr 88 0) (at_ [(0, .t .nils), (1, i64 k), (5, i64 0)] [] 0)) (.exit 0 (at_ [(1, i64 k)] [] 0)) := by
    let t0 : Tp pr := .i (rfl : ((0 : Int) : Int) = (0 : Int))
    exact .tp [t0, .bF] (by kernel_rfl)
  exact .tp [.a (g)] (by kernel_rfl)
theorem markBindN_ev (k : Int) : Ev pr (.call 86 [.t .nils, i64 k] []) (.val (i64 k) []) := by
  have g : Ev pr (.loop (lq pr 86 0) (at_ [(0, .t .nils), (1, i64 k), (5, i64 0)] [] 0)) (.exit 0 (at_ [(1, i64 k)] [] 0)) := by
    let t0 : Tp pr := .i (rfl : ((0 : Int) : Int) = (0 : Int))
    exact .tp [t0, .bF] (by kernel_rfl)
  exact .tp [.a (g)] (by kernel_rfl)
theorem heldBindN_ev (k : Int) : Ev pr (.call 89 [.t .nils, i64 k] []) (.val (i64 k) []) := by
  have g : Ev pr (.loop (lq pr 89 0) (at_ [(0, .t .nils), (1, i64 k), (5, i64 0)] [] 0)) (.exit 0 (at_ [(1, i64 k)] [] 0)) := by
    let t0 : Tp pr := .i (rfl : ((0 : Int) : Int) = (0 : Int))
    exact .tp [t0, .bF] (by kernel_rfl)
  exact .tp [.a (g)] (by kernel_rfl)
theorem markMachineN_ev (k : Int) : Ev pr (.call 36 [mZ, i64 k] []) (.val (i64 k) []) := by
  unfold mZ
  exact .tp [.a (markFrameN_ev (k)), .a (markValN_ev (k)), .a (markBindN_ev (k))] (by kernel_rfl)
theorem heldMachineN_ev (k : Int) (hk : 0 ≤ k) : Ev pr (.call 37 [mZ, i64 k] []) (.val (i64 k) []) := by
  unfold mZ
  let t1 : Tp pr := .b (show (decide (k < (0 : Int))) = false by (simp; omega))
  exact .tp [.a (heldFrameN_ev (k)), t1, .a (heldValN_ev (k)), t1, .a (heldBindN_ev (k)), t1] (by kernel_rfl)
def mV (d : Bool) (p e v : Int) (lF : Nat) (F W D : List (List C)) : V := .agg [bl d, i64 p, i64 e, i64 v, .vec 0 F.length 4 0 lF, .vec 1 W.length 4 0 W.length, .vec 2 D.length 2 0 D.length]
theorem markMachine_ev (d : Bool) (p e v : Int) (lF : Nat) (F W D F2 W2 D2 : List (List C)) (hF : F2.length = F.length) (hW : W2.length = W.length) (hD : D2.length = D.length) (k k1 k2 k3 : Int)
    (g1 : Ev pr (.call 84 [.vec 0 F.length 4 0 lF, i64 k] [.vec true 4 F]) (.val (i64 k1) [.vec true 4 F2])) (g2 : Ev pr (.call 85 [.vec 0 W.length 4 0 W.length, i64 k1] [.vec true 4 W]) (.val (i64 k2) [.vec true 4 W2]))
    (g3 : Ev pr (.call 86 [.vec 0 D.length 2 0 D.length, i64 k2] [.vec true 2 D]) (.val (i64 k3) [.vec true 2 D2])) :
    Ev pr (.call 36 [mV d p e v lF F W D, i64 k] [.vec true 4 F, .vec true 4 W, .vec true 2 D]) (.val (i64 k3) [.vec true 4 F2, .vec true 4 W2, .vec true 2 D2]) := by
  unfold mV
  exact .tp [.a (g1), .a (g2), .a (g3)] (by kernel_rfl)
theorem heldMachine_ev (d : Bool) (p e v : Int) (X Y Z : List (List T)) (k k1 k2 k3 : Int) (h1 : 0 ≤ k1) (h2 : 0 ≤ k2) (h3 : 0 ≤ k3)
    (g1 : Ev pr (.call 87 [.t (.seq 4 X), i64 k] []) (.val (i64 k1) [])) (g2 : Ev pr (.call 88 [.t (.seq 4 Y), i64 k1] []) (.val (i64 k2) [])) (g3 : Ev pr (.call 89 [.t (.seq 2 Z), i64 k2] []) (.val (i64 k3) [])) :
    Ev pr (.call 37 [mF d p e v X Y Z, i64 k] []) (.val (i64 k3) []) := by
  unfold mF
  let t1 : Tp pr := .b (show (decide (k1 < (0 : Int))) = false by (simp; omega))
  let t3 : Tp pr := .b (show (decide (k2 < (0 : Int))) = false by (simp; omega))
  let t5 : Tp pr := .b (show (decide (k3 < (0 : Int))) = false by (simp; omega))
  exact .tp [.a (g1), t1, .a (g2), t3, .a (g3), t5] (by kernel_rfl)
end Go.Ev

namespace Go.Ev
set_option linter.unusedVariables false
set_option linter.unusedSimpArgs false
open Go.Proofs
set_option maxRecDepth 100000
set_option maxHeartbeats 4000000
theorem lkp_bd (bs : List Bd) (e : Int) (h0 : 0 ≤ e) (h : e < bs.length) : lkp (bs.map Bd.ce) e = some [.int .i64 (bdAt bs e).val, .int .i64 (bdAt bs e).up] := by
  have := bdAt_some h0 h
  unfold lkp
  rw [if_pos h0, List.getElem?_map, this]
  rfl
def eTr (L St Bt : List (List T)) (d : Bool) (p e v : Int) (X Y Z : List (List T)) (lg : Bool) : V :=
  .t (.ptr [.seq 2 L, .seq 1 St, .seq 1 Bt, .bool d, .int .i64 p, .int .i64 e, .int .i64 v, .seq 4 X, .seq 4 Y, .seq 2 Z, .bool lg] 0)
section
variable (L St Bt : List (List T)) (d : Bool) (p0 e0 v0 : Int) (X Y Z : List (List T)) (lg : Bool)
def chaS (q : V) (i : Nat) (e : Int) (o : Out) : Prop := Ev pr (.loop (lq pr 168 0) (at_ [(0, q), (1, i64 e), (5, i64 i)] [] 0)) o
theorem chEnd (i : Nat) (e : Int) (h : e < 0) : chaS (eTr L St Bt d p0 e0 v0 X Y Z lg) i e (.exit 0 (at_ [(5, i64 i)] [] 0)) := by
  have h1 : ¬ (e ≥ 0) := by omega
  unfold chaS eTr
  let t0 : Tp pr := .b (show (decide (e ≥ (0 : Int))) = false by (simp; omega))
  exact .tp [t0] (by kernel_rfl)
theorem chGo (i : Nat) (hi : i ≤ 1000) (e : Int) (h : 0 ≤ e) (h2 : e < Z.length) (a b : Int) (hl : lkp Z e = some [.int .i64 a, .int .i64 b]) (o : Out) (g : chaS (eTr L St Bt d p0 e0 v0 X Y Z lg) (i + 1) b o) : chaS (eTr L St Bt d p0 e0 v0 X Y Z lg) i e o := by
  unfold chaS eTr at *
  let t0 : Tp pr := .b (show (decide (e ≥ (0 : Int))) = true by (simp; omega))
  let t1 : Tp pr := .i (wrap_i64 (a := (↑i : Int) + (1 : Int)) (by omega) (by omega))
  let t2 : Tp pr := .g .row (show (lkp Z e) = some ([T.int IntKind.i64 a, T.int IntKind.i64 b]) from hl)
  exact .tp [t0, t1, t2, .a (g)] (by kernel_rfl)
end
theorem chLoop (L St Bt : List (List T)) (d : Bool) (p0 e0 v0 : Int) (X Y : List (List T)) (bs : List Bd) (lg : Bool) (hd : Down bs) : ∀ (n : Nat) (e : Int) (i : Nat), -1 ≤ e → e < bs.length → e < n → i + n ≤ 1000 →
    chaS (eTr L St Bt d p0 e0 v0 X Y (bs.map Bd.ce) lg) i e (.exit 0 (at_ [(5, i64 ((i + chainN bs n e : Nat) : Int))] [] 0))
  | 0, e, i, h0, h1, h2, h3 => by
    have := chEnd L St Bt d p0 e0 v0 X Y (bs.map Bd.ce) lg i e (by omega)
    simpa [chainN] using this
  | n + 1, e, i, h0, h1, h2, h3 => by
    unfold chainN
    by_cases he : e < 0
    · rw [if_pos he]
      exact chEnd L St Bt d p0 e0 v0 X Y (bs.map Bd.ce) lg i e he
    · rw [if_neg he]
      have hu := hd _ _ (bdAt_some (by omega) h1)
      have := chLoop L St Bt d p0 e0 v0 X Y bs lg hd n (bdAt bs e).up (i + 1) hu.1 (by omega) (by omega) (by omega)
      rw [show i + (chainN bs n (bdAt bs e).up + 1) = i + 1 + chainN bs n (bdAt bs e).up by omega]
      exact chGo L St Bt d p0 e0 v0 X Y (bs.map Bd.ce) lg i (by omega) e (by omega) (by simpa using h1) _ _ (lkp_bd bs e (by omega) h1) _ this
section
variable (L St Bt : List (List T)) (d : Bool) (p0 e0 v0 : Int) (X Y Z : List (List T)) (lg : Bool)
theorem chain_no (hZ : Z.length ≤ 500) (e : Int) (h : ¬ (-1 ≤ e ∧ e < Z.length)) : Ev pr (.call 168 [eTr L St Bt d p0 e0 v0 X Y Z lg, i64 e] []) (.val (i64 (-1)) []) := by
  have gw := within_ev e (-1) ((Z.length : Int) - 1)
  have hb : (decide (e ≥ -1) && decide (e ≤ (Z.length : Int) - 1)) = false := by simp; omega
  rw [hb] at gw
  unfold eTr
  let t1 : Tp pr := .i (wrap_i64 (a := (↑Z.length : Int) - (1 : Int)) (by omega) (by omega))
  exact .tp [.i (rfl : ((↑Z.length : Int)) = _), t1, .a (gw), .bT] (by kernel_rfl)
theorem chain_yes (hZ : Z.length ≤ 500) (e : Int) (h : -1 ≤ e ∧ e < Z.length) (k : Nat) (g : chaS (eTr L St Bt d p0 e0 v0 X Y Z lg) 0 e (.exit 0 (at_ [(5, i64 k)] [] 0))) : Ev pr (.call 168 [eTr L St Bt d p0 e0 v0 X Y Z lg, i64 e] []) (.val (i64 k) []) := by
  have gw := within_ev e (-1) ((Z.length : Int) - 1)
  have hb : (decide (e ≥ -1) && decide (e ≤ (Z.length : Int) - 1)) = true := by simp; omega
  rw [hb] at gw
  unfold chaS eTr at *
  let t1 : Tp pr := .i (wrap_i64 (a := (↑Z.length : Int) - (1 : Int)) (by omega) (by omega))
  exact .tp [.i (rfl : ((↑Z.length : Int)) = _), t1, .a (gw), .bF, .a (g)] (by kernel_rfl)
theorem fits_no (hL : L.length ≤ 600) (p e : Int) (h : ¬ (0 ≤ p ∧ p < L.length)) : Ev pr (.call 113 [eTr L St Bt d p0 e0 v0 X Y Z lg, i64 p, i64 e] []) (.val (bl false) []) := by
  have gw := within_ev p 0 ((L.length : Int) - 1)
  have hb : (decide (p ≥ 0) && decide (p ≤ (L.length : Int) - 1)) = false := by simp; omega
  rw [hb] at gw
  unfold eTr
  let t7 : Tp pr := .i (wrap_i64 (a := (↑L.length : Int) - (1 : Int)) (by omega) (by omega))
  exact .tp [.mT, .mT, .mT, .mT, .mT, .i (rfl : ((↑L.length : Int)) = _), .mT, t7, .mT, .a (gw), .mT, .mT, .bF, .mT, .mT, .mT, .mT, .mT, .mT, .mT, .mT, .mT, .mT, .mT, .mT, .mT] (by kernel_rfl)
theorem fits_yes (hL : L.length ≤ 600) (p e : Int) (h : 0 ≤ p ∧ p < L.length) (k b : Int) (hBt : Bt.length = L.length) (hl : lkp Bt p = some [.int .i64 b]) (g : Ev pr (.call 168 [eTr L St Bt d p0 e0 v0 X Y Z lg, i64 e] []) (.val (i64 k) [])) :
    Ev pr (.call 113 [eTr L St Bt d p0 e0 v0 X Y Z lg, i64 p, i64 e] []) (.val (bl (decide (k = b))) []) := by
  have gw := within_ev p 0 ((L.length : Int) - 1)
  have hb : (decide (p ≥ 0) && decide (p ≤ (L.length : Int) - 1)) = true := by simp; omega
  rw [hb] at gw
  unfold eTr at *
  let t7 : Tp pr := .i (wrap_i64 (a := (↑L.length : Int) - (1 : Int)) (by omega) (by omega))
  let t22 : Tp pr := .g .row (show (lkp Bt p) = some ([T.int IntKind.i64 b]) from hl)
  exact .tp [.mT, .mT, .mT, .mT, .mT, .i (rfl : ((↑L.length : Int)) = _), .mT, t7, .mT, .a (gw), .mT, .mT, .bT, .mT, .mT, .a (g), .mT, .mT, .mT, .mT, .mT, .mT, t22, .mT, .mT, .mT, .mT, .mT] (by kernel_rfl)
end
theorem lkp_int (l : List Int) (p : Int) (h0 : 0 ≤ p) (h : p < l.length) : lkp (l.map intt) p = some [.int .i64 (l.getD p.toNat 0)] := by
  have hl : p.toNat < l.length := by omega
  unfold lkp
  rw [if_pos h0, List.getElem?_map, List.getD_eq_getElem?_getD, List.getElem?_eq_getElem hl]
  rfl
def eM (c : Cd) (m : Mc) (lg : Bool) : V := eTr (c.cells.map Cell.ce) (c.sizes.map intt) (c.bounds.map intt) m.done m.pl m.env m.val (m.frs.reverse.map Frm.ce) (m.vals.map Vl.ce) (m.bds.map Bd.ce) lg
theorem fits_ev (c : Cd) (hc : CdOk c) (m : Mc) (lg : Bool) (hd : Down m.bds) (hb : m.bds.length ≤ 500) (p e : Int) : Ev pr (.call 113 [eM c m lg, i64 p, i64 e] []) (.val (bl (fitsB c m.bds p e)) []) := by
  have hl := hc.len
  have hbl := hc.bounds
  unfold fitsB
  by_cases h1 : 0 ≤ p ∧ p < c.cells.length
  · rw [decide_eq_true h1, Bool.true_and]
    have h1' : 0 ≤ p ∧ p < ((c.cells.map Cell.ce).length : Int) := by simpa using h1
    have hlk := lkp_int c.bounds p h1.1 (by omega)
    by_cases h2 : -1 ≤ e ∧ e < m.bds.length
    · rw [decide_eq_true h2, Bool.true_and]
      have g := chLoop (c.cells.map Cell.ce) (c.sizes.map intt) (c.bounds.map intt) m.done m.pl m.env m.val (m.frs.reverse.map Frm.ce) (m.vals.map Vl.ce) m.bds lg hd (e + 1).toNat e 0 h2.1 h2.2 (by omega) (by omega)
      rw [Nat.zero_add] at g
      have g2 := chain_yes _ _ _ _ _ _ _ _ _ _ _ (by simpa using hb) e (by simpa using h2) _ g
      exact fits_yes _ _ _ _ _ _ _ _ _ _ _ (by simpa using hl) p e h1' _ _ (by simpa using hbl) hlk g2
    · rw [decide_eq_false h2, Bool.false_and]
      have g2 := chain_no (c.cells.map Cell.ce) (c.sizes.map intt) (c.bounds.map intt) m.done m.pl m.env m.val (m.frs.reverse.map Frm.ce) (m.vals.map Vl.ce) (m.bds.map Bd.ce) lg (by simpa using hb) e (by simpa using h2)
      have g3 := fits_yes _ _ _ _ _ _ _ _ _ _ _ (by simpa using hl) p e h1' _ _ (by simpa using hbl) hlk g2
      obtain ⟨x, b, ks, hp⟩ := hc.place p.toNat (by omega)
      have hbd := hp.bound
      have : c.bounds.getD p.toNat 0 = (b : Int) := by rw [List.getD_eq_getElem?_getD, hbd]; rfl
      rw [this, decide_eq_false (by omega)] at g3
      exact g3
  · rw [decide_eq_false h1, Bool.false_and]
    exact fits_no _ _ _ _ _ _ _ _ _ _ _ (by simpa using hl) p e (by simpa using h1)
end Go.Ev
