import Derived.Test.YtcbgiccgiegdbabKFnExactReachOf3
/- Heaps: which are good, what is reached, by the reference. -/
namespace Go.Ev
set_option linter.unusedVariables false
set_option linter.unusedSimpArgs false
open Go.Proofs
set_option maxRecDepth 100000
set_option linter.unusedVariables false
set_option maxHeartbeats 2000000
@[local simp] theorem ints_takeL (l : List Int) : List.take l.length (ints l) = ints l := List.take_of_length_le (by simp)
theorem goodSR_ev (h : Hp) (h1 : h.objects.length ≤ 1048576) (h3 : h.roots.length ≤ 1048576) : ∀ (rest done : List Int), h.roots = done ++ rest →
    Ev pr (.loop (lq pr 45 2) (at_ [(1, .ptr 0 1 0 0), (42, isq h.roots), (43, i64 h.roots.length), (44, i64 done.length)] (gB h) 0))
      (bif rest.all (linkOk h.objects.length) then .exit 4 (at_ [(1, .ptr 0 1 0 0)] (gB h) 0) else .ret (at_ [(2, bl false)] [] 0))
  | [], done, he => by
    have hll : (h.roots.length : Int) = done.length := by simp [he]
    let t0 : Tp pr := .b (show (decide ((↑done.length : Int) < (↑h.roots.length : Int))) = false by (simp; omega))
    exact .tp [t0] (by kernel_rfl)
  | x :: rest, done, he => by
    have hll : (h.roots.length : Int) = done.length + 1 + rest.length := by simp [he]; omega
    have hg : lkp (h.roots.map intt) (done.length : Int) = some [T.int .i64 x] := by rw [he]; simp [intt]
    have ih := goodSR_ev h h1 h3 rest (done ++ [x]) (by simp [he])
    have hx := l15Object_ev x h.objects.length h1
    cases hb : linkOk h.objects.length x with
    | false =>
      rw [hb] at hx
      simp only [List.all_cons, hb, Bool.false_and]
      let t0 : Tp pr := .b (show (decide ((↑done.length : Int) < (↑h.roots.length : Int))) = true by (simp; omega))
      let t1 : Tp pr := .g .row (show (lkp (List.map intt h.roots) (↑done.length : Int)) = some ([T.int IntKind.i64 x]) from hg)
      let t2 : Tp pr := .i (show ((↑(List.map Obj.ce h.objects).length : Int) : Int) = (↑h.objects.length : Int) by simp)
      exact .tp [t0, t1, t2, .a (hx), .b (rfl : true = true)] (by kernel_rfl)
    | true =>
      rw [hb] at hx
      simp only [List.all_cons, hb, Bool.true_and]
      cases hr : rest.all (linkOk h.objects.length) with
      | true => rw [hr] at ih; (
        let t0 : Tp pr := .b (show (decide ((↑done.length : Int) < (↑h.roots.length : Int))) = true by (simp; omega))
        let t1 : Tp pr := .g .row (show (lkp (List.map intt h.roots) (↑done.length : Int)) = some ([T.int IntKind.i64 x]) from hg)
        let t2 : Tp pr := .i (show ((↑(List.map Obj.ce h.objects).length : Int) : Int) = (↑h.objects.length : Int) by simp)
        let t5 : Tp pr := .i (wrap_i64 (a := (↑done.length : Int) + (1 : Int)) (by omega) (by omega))
        let t6 : Tp pr := .a (Ev.castq (congrArg (fun x => Q.loop (lq pr (45 : FuncId) (2 : Nat)) (at_ [((1 : Nat), V.ptr (0 : Nat) (1 : Nat) (0 : Nat) (0 : Nat)), ((42 : Nat), isq h.roots), ((43 : Nat), i64 (↑h.roots.length : Int)), ((44 : Nat), i64 x)] (gB h) (0 : Nat))) (show ((↑(done ++ [x]).length : Int)) = ((↑done.length : Int) + (1 : Int)) by simp)) (ih))
        exact .tp [t0, t1, t2, .a (hx), .b (rfl : false = false), t5, t6] (by kernel_rfl))
      | false => rw [hr] at ih; (
        let t0 : Tp pr := .b (show (decide ((↑done.length : Int) < (↑h.roots.length : Int))) = true by (simp; omega))
        let t1 : Tp pr := .g .row (show (lkp (List.map intt h.roots) (↑done.length : Int)) = some ([T.int IntKind.i64 x]) from hg)
        let t2 : Tp pr := .i (show ((↑(List.map Obj.ce h.objects).length : Int) : Int) = (↑h.objects.length : Int) by simp)
        let t5 : Tp pr := .i (wrap_i64 (a := (↑done.length : Int) + (1 : Int)) (by omega) (by omega))
        let t6 : Tp pr := .a (Ev.castq (congrArg (fun x => Q.loop (lq pr (45 : FuncId) (2 : Nat)) (at_ [((1 : Nat), V.ptr (0 : Nat) (1 : Nat) (0 : Nat) (0 : Nat)), ((42 : Nat), isq h.roots), ((43 : Nat), i64 (↑h.roots.length : Int)), ((44 : Nat), i64 x)] (gB h) (0 : Nat))) (show ((↑(done ++ [x]).length : Int)) = ((↑done.length : Int) + (1 : Int)) by simp)) (ih))
        exact .tp [t0, t1, t2, .a (hx), .b (rfl : false = false), t5, t6] (by kernel_rfl))
theorem GoodHeapS_ev (h : Hp) (h1 : h.objects.length ≤ 1048576) (h2 : ∀ x ∈ h.objects, x.links.length ≤ 1048576) (h3 : h.roots.length ≤ 1048576) : Ev pr (.call 45 [vs h.ce] []) (.val (bl (goodHeap h)) []) := by
  have g1 := goodSO_ev h h1 h2 h.objects [] rfl
  have g2 := goodSR_ev h h1 h3 h.roots [] rfl
  unfold goodHeap
  cases ho : h.objects.all (objOk h.objects.length) with
  | false => rw [ho] at g1; (
    let t0 : Tp pr := .i (show ((↑(List.map Obj.ce h.objects).length : Int) : Int) = (↑h.objects.length : Int) by simp)
    exact .tpe [t0, .a (g1)] (Out.val (V.t (T.bool false)) []) (by kernel_rfl) (congrArg (fun x => Out.val (V.t (T.bool x)) []) (show (false) = (decide (h.objects.length ≤ (40 : Nat)) && (decide (h.roots.length ≤ (10 : Nat)) && h.roots.all (linkOk h.objects.length)) && false) by simp)))
  | true =>
    rw [ho] at g1
    cases hr : h.roots.all (linkOk h.objects.length) with
    | false => rw [hr] at g2; (
      let t0 : Tp pr := .i (show ((↑(List.map Obj.ce h.objects).length : Int) : Int) = (↑h.objects.length : Int) by simp)
      let t2 : Tp pr := .i (show ((↑(List.map intt h.roots).length : Int) : Int) = (↑h.roots.length : Int) by simp)
      exact .tpe [t0, .a (g1), t2, .a (g2)] (Out.val (V.t (T.bool false)) []) (by kernel_rfl) (congrArg (fun x => Out.val (V.t (T.bool x)) []) (show (false) = (decide (h.objects.length ≤ (40 : Nat)) && (decide (h.roots.length ≤ (10 : Nat)) && false) && true) by simp)))
    | true =>
      rw [hr] at g2
      by_cases h40 : h.objects.length ≤ 40
      · have h40' : (h.objects.length : Int) ≤ 40 := by omega
        by_cases h10 : h.roots.length ≤ 10
        · have h10' : (h.roots.length : Int) ≤ 10 := by omega
          let t0 : Tp pr := .i (show ((↑(List.map Obj.ce h.objects).length : Int) : Int) = (↑h.objects.length : Int) by simp)
          let t2 : Tp pr := .i (show ((↑(List.map intt h.roots).length : Int) : Int) = (↑h.roots.length : Int) by simp)
          let t4 : Tp pr := .i (show ((↑(List.map Obj.ce h.objects).length : Int) : Int) = (↑h.objects.length : Int) by simp)
          let t5 : Tp pr := .b (show (decide ((↑h.objects.length : Int) ≤ (40 : Int))) = true by (simp; omega))
          let t6 : Tp pr := .i (show ((↑(List.map intt h.roots).length : Int) : Int) = (↑h.roots.length : Int) by simp)
          exact .tpe [t0, .a (g1), t2, .a (g2), t4, t5, t6] (Out.val (V.t (T.bool (decide ((↑h.roots.length : Int) ≤ (10 : Int))))) []) (by kernel_rfl) (congrArg (fun x => Out.val (V.t (T.bool x)) []) (show (decide ((↑h.roots.length : Int) ≤ (10 : Int))) = (decide (h.objects.length ≤ (40 : Nat)) && (decide (h.roots.length ≤ (10 : Nat)) && true) && true) by simp [*]))
        · have h10' : ¬ (h.roots.length : Int) ≤ 10 := by omega
          let t0 : Tp pr := .i (show ((↑(List.map Obj.ce h.objects).length : Int) : Int) = (↑h.objects.length : Int) by simp)
          let t2 : Tp pr := .i (show ((↑(List.map intt h.roots).length : Int) : Int) = (↑h.roots.length : Int) by simp)
          let t4 : Tp pr := .i (show ((↑(List.map Obj.ce h.objects).length : Int) : Int) = (↑h.objects.length : Int) by simp)
          let t5 : Tp pr := .b (show (decide ((↑h.objects.length : Int) ≤ (40 : Int))) = true by (simp; omega))
          let t6 : Tp pr := .i (show ((↑(List.map intt h.roots).length : Int) : Int) = (↑h.roots.length : Int) by simp)
          exact .tpe [t0, .a (g1), t2, .a (g2), t4, t5, t6] (Out.val (V.t (T.bool (decide ((↑h.roots.length : Int) ≤ (10 : Int))))) []) (by kernel_rfl) (congrArg (fun x => Out.val (V.t (T.bool x)) []) (show (decide ((↑h.roots.length : Int) ≤ (10 : Int))) = (decide (h.objects.length ≤ (40 : Nat)) && (decide (h.roots.length ≤ (10 : Nat)) && true) && true) by simp [*]))
      · have h40' : ¬ (h.objects.length : Int) ≤ 40 := by omega
        let t0 : Tp pr := .i (show ((↑(List.map Obj.ce h.objects).length : Int) : Int) = (↑h.objects.length : Int) by simp)
        let t2 : Tp pr := .i (show ((↑(List.map intt h.roots).length : Int) : Int) = (↑h.roots.length : Int) by simp)
        let t4 : Tp pr := .i (show ((↑(List.map Obj.ce h.objects).length : Int) : Int) = (↑h.objects.length : Int) by simp)
        let t5 : Tp pr := .b (show (decide ((↑h.objects.length : Int) ≤ (40 : Int))) = false by (simp; omega))
        exact .tpe [t0, .a (g1), t2, .a (g2), t4, t5] (Out.val (V.t (T.bool false)) []) (by kernel_rfl) (congrArg (fun x => Out.val (V.t (T.bool x)) []) (show (false) = (decide (h.objects.length ≤ (40 : Nat)) && (decide (h.roots.length ≤ (10 : Nat)) && true) && true) by simp [*]))
theorem l1HasL_ev (l : List Int) (n : Int) (hl : l.length ≤ 1048576) : ∀ (rest done : List Int), l = done ++ rest →
    Ev pr (.loop (lq pr 77 0) (at_ [(1, i64 n), (7, isq l), (8, i64 l.length), (9, i64 done.length)] [] 0))
      (bif rest.contains n then .ret (at_ [(4, bl true)] [] 0) else .exit 0 (at_ [] [] 0))
  | [], done, he => by
    have hll : (l.length : Int) = done.length := by simp [he]
    let t0 : Tp pr := .b (show (decide ((↑done.length : Int) < (↑l.length : Int))) = false by (simp; omega))
    exact .tp [t0] (by kernel_rfl)
  | x :: rest, done, he => by
    have hll : (l.length : Int) = done.length + 1 + rest.length := by simp [he]; omega
    have hg : lkp (l.map intt) (done.length : Int) = some [T.int .i64 x] := by subst he; simp [intt]
    have ih := l1HasL_ev l n hl rest (done ++ [x]) (by simp [he])
    by_cases hx : x = n
    · subst hx
      rw [show (x :: rest).contains x = true by simp]
      let t0 : Tp pr := .b (show (decide ((↑done.length : Int) < (↑l.length : Int))) = true by (simp; omega))
      let t1 : Tp pr := .g .row (show (lkp (List.map intt l) (↑done.length : Int)) = some ([T.int IntKind.i64 x]) from hg)
      let t2 : Tp pr := .b (show (decide (x = x)) = true by simp)
      exact .tp [t0, t1, t2] (by kernel_rfl)
    · have hx2 : ¬ n = x := fun e => hx e.symm
      rw [show (x :: rest).contains n = rest.contains n by simp [hx2]]
      cases hr : rest.contains n with
      | true => rw [hr] at ih; (
        let t0 : Tp pr := .b (show (decide ((↑done.length : Int) < (↑l.length : Int))) = true by (simp; omega))
        let t1 : Tp pr := .g .row (show (lkp (List.map intt l) (↑done.length : Int)) = some ([T.int IntKind.i64 x]) from hg)
        let t2 : Tp pr := .b (show (decide (x = n)) = false by (simp; omega))
        let t3 : Tp pr := .i (wrap_i64 (a := (↑done.length : Int) + (1 : Int)) (by omega) (by omega))
        let t4 : Tp pr := .a (Ev.castq (congrArg (fun x => Q.loop (lq pr (77 : FuncId) (0 : Nat)) (at_ [((1 : Nat), i64 n), ((7 : Nat), isq l), ((8 : Nat), i64 (↑l.length : Int)), ((9 : Nat), i64 x)] [] (0 : Nat))) (show ((↑(done ++ [x]).length : Int)) = ((↑done.length : Int) + (1 : Int)) by simp)) (ih))
        exact .tp [t0, t1, t2, t3, t4] (by kernel_rfl))
      | false => rw [hr] at ih; (
        let t0 : Tp pr := .b (show (decide ((↑done.length : Int) < (↑l.length : Int))) = true by (simp; omega))
        let t1 : Tp pr := .g .row (show (lkp (List.map intt l) (↑done.length : Int)) = some ([T.int IntKind.i64 x]) from hg)
        let t2 : Tp pr := .b (show (decide (x = n)) = false by (simp; omega))
        let t3 : Tp pr := .i (wrap_i64 (a := (↑done.length : Int) + (1 : Int)) (by omega) (by omega))
        let t4 : Tp pr := .a (Ev.castq (congrArg (fun x => Q.loop (lq pr (77 : FuncId) (0 : Nat)) (at_ [((1 : Nat), i64 n), ((7 : Nat), isq l), ((8 : Nat), i64 (↑l.length : Int)), ((9 : Nat), i64 x)] [] (0 : Nat))) (show ((↑(done ++ [x]).length : Int)) = ((↑done.length : Int) + (1 : Int)) by simp)) (ih))
        exact .tp [t0, t1, t2, t3, t4] (by kernel_rfl))
theorem l1Has_ev (l : List Int) (n : Int) (hl : l.length ≤ 1048576) : Ev pr (.call 77 [isq l, i64 n] []) (.val (bl (l.contains n)) []) := by
  have h := l1HasL_ev l n hl l [] rfl
  cases hr : l.contains n with
  | true => rw [hr] at h; (
    let t0 : Tp pr := .i (show ((↑(List.map intt l).length : Int) : Int) = (↑l.length : Int) by simp)
    exact .tp [t0, .a (h)] (by kernel_rfl))
  | false => rw [hr] at h; (
    let t0 : Tp pr := .i (show ((↑(List.map intt l).length : Int) : Int) = (↑l.length : Int) by simp)
    exact .tp [t0, .a (h)] (by kernel_rfl))
def oB (h : Hp) (out : List Int) : List Ob := [.box [osq h.objects, isq h.roots], .vec true 1 (ints out)]
theorem orderRL_ev (h : Hp) (h3 : h.roots.length ≤ 1048576) : ∀ (rest done out : List Int), h.roots = done ++ rest → out.length ≤ done.length →
    Ev pr (.loop (lq pr 61 0) (at_ [(1, .ptr 0 1 0 0), (3, .vec 1 out.length 1 0 out.length), (10, isq h.roots), (11, i64 h.roots.length), (12, i64 done.length)] (oB h out) 0))
      (.exit 0 (at_ [(1, .ptr 0 1 0 0), (3, .vec 1 (pushAll out rest).length 1 0 (pushAll out rest).length)] (oB h (pushAll out rest)) 0))
  | [], done, out, he, ho => by
    have hll : (h.roots.length : Int) = done.length := by simp [he]
    rw [show pushAll out [] = out from rfl]
    let t0 : Tp pr := .b (show (decide ((↑done.length : Int) < (↑h.roots.length : Int))) = false by (simp; omega))
    exact .tp [t0] (by kernel_rfl)
  | x :: rest, done, out, he, ho => by
    have hll : (h.roots.length : Int) = done.length + 1 + rest.length := by simp [he]; omega
    have hg : lkp (h.roots.map intt) (done.length : Int) = some [T.int .i64 x] := by rw [he]; simp [intt]
    have hh := l1Has_ev out x (by omega)
    rw [show pushAll out (x :: rest) = pushAll (push out x) rest from rfl]
    unfold push
    by_cases hx : x < 0
    · rw [if_pos hx]
      have ih := orderRL_ev h h3 rest (done ++ [x]) out (by simp [he]) (by simp; omega)
      let t0 : Tp pr := .b (show (decide ((↑done.length : Int) < (↑h.roots.length : Int))) = true by (simp; omega))
      let t1 : Tp pr := .g .row (show (lkp (List.map intt h.roots) (↑done.length : Int)) = some ([T.int IntKind.i64 x]) from hg)
      let t2 : Tp pr := .b (show (decide (x ≥ (0 : Int))) = false by (simp; omega))
      let t4 : Tp pr := .i (wrap_i64 (a := (↑done.length : Int) + (1 : Int)) (by omega) (by omega))
      let t5 : Tp pr := .a (Ev.castq (congrArg (fun x => Q.loop (lq pr (61 : FuncId) (0 : Nat)) (at_ [((1 : Nat), V.ptr (0 : Nat) (1 : Nat) (0 : Nat) (0 : Nat)), ((3 : Nat), V.vec (1 : Nat) out.length (1 : Nat) (0 : Nat) out.length), ((10 : Nat), isq h.roots), ((11 : Nat), i64 (↑h.roots.length : Int)), ((12 : Nat), i64 x)] (oB h out) (0 : Nat))) (show ((↑(done ++ [x]).length : Int)) = ((↑done.length : Int) + (1 : Int)) by simp)) (ih))
      exact .tp [t0, t1, t2, .b (rfl : false = false), t4, t5] (by kernel_rfl)
    · rw [if_neg hx]
      cases hc : out.contains x with
      | true =>
        rw [hc] at hh
        rw [if_pos rfl]
        have ih := orderRL_ev h h3 rest (done ++ [x]) out (by simp [he]) (by simp; omega)
        let t0 : Tp pr := .b (show (decide ((↑done.length : Int) < (↑h.roots.length : Int))) = true by (simp; omega))
        let t1 : Tp pr := .g .row (show (lkp (List.map intt h.roots) (↑done.length : Int)) = some ([T.int IntKind.i64 x]) from hg)
        let t2 : Tp pr := .b (show (decide (x ≥ (0 : Int))) = true by (simp; omega))
        let t3 : Tp pr := .m (show (decide ((ints out).length = out.length ∧ (0 : Nat) + out.length ≤ out.length)) = true by simp)
        let t4 : Tp pr := .n .rows (show (List.map (fun x => List.map C.fz x) (List.take out.length (List.drop (0 : Nat) (ints out)))) = List.map intt out by simp)
        let t8 : Tp pr := .i (wrap_i64 (a := (↑done.length : Int) + (1 : Int)) (by omega) (by omega))
        let t9 : Tp pr := .a (Ev.castq (congrArg (fun x => Q.loop (lq pr (61 : FuncId) (0 : Nat)) (at_ [((1 : Nat), V.ptr (0 : Nat) (1 : Nat) (0 : Nat) (0 : Nat)), ((3 : Nat), V.vec (1 : Nat) out.length (1 : Nat) (0 : Nat) out.length), ((10 : Nat), isq h.roots), ((11 : Nat), i64 (↑h.roots.length : Int)), ((12 : Nat), i64 x)] (oB h out) (0 : Nat))) (show ((↑(done ++ [x]).length : Int)) = ((↑done.length : Int) + (1 : Int)) by simp)) (ih))
        exact .tp [t0, t1, t2, t3, t4, .a (hh), .m (rfl : true = true), .b (rfl : false = false), t8, t9] (by kernel_rfl)
      | false =>
        rw [hc] at hh
        rw [if_neg (by simp)]
        have ih := orderRL_ev h h3 rest (done ++ [x]) (out ++ [x]) (by simp [he]) (by simp; omega)
        let t0 : Tp pr := .b (show (decide ((↑done.length : Int) < (↑h.roots.length : Int))) = true by (simp; omega))
        let t1 : Tp pr := .g .row (show (lkp (List.map intt h.roots) (↑done.length : Int)) = some ([T.int IntKind.i64 x]) from hg)
        let t2 : Tp pr := .b (show (decide (x ≥ (0 : Int))) = true by (simp; omega))
        let t3 : Tp pr := .m (show (decide ((ints out).length = out.length ∧ (0 : Nat) + out.length ≤ out.length)) = true by simp)
        let t4 : Tp pr := .n .rows (show (List.map (fun x => List.map C.fz x) (List.take out.length (List.drop (0 : Nat) (ints out)))) = List.map intt out by simp)
        let t9 : Tp pr := .m (show (decide ((ints out).length = out.length ∧ (0 : Nat) + out.length ≤ out.length ∧ out.length + (1 : Nat) ≤ (4294967296 : Nat))) = true by (simp; omega))
        let t10 : Tp pr := .b (show (decide (out.length + (1 : Nat) ≤ out.length)) = false by simp)
        let t12 : Tp pr := .n .crows (show ((List.take out.length (ints out)).append (List.take (1 : Nat) (List.drop (0 : Nat) [[C.t (T.int IntKind.i64 x)]]))) = ints out ++ [[C.t (T.int IntKind.i64 x)]] by simp)
        let t13 : Tp pr := .i (wrap_i64 (a := (↑done.length : Int) + (1 : Int)) (by omega) (by omega))
        let t14 : Tp pr := .a (Ev.castq (((congrArg (fun x_1 => Q.loop (lq pr (61 : FuncId) (0 : Nat)) (at_ [((1 : Nat), V.ptr (0 : Nat) (1 : Nat) (0 : Nat) (0 : Nat)), ((3 : Nat), V.vec (1 : Nat) x_1 (1 : Nat) (0 : Nat) x_1), ((10 : Nat), isq h.roots), ((11 : Nat), i64 (↑h.roots.length : Int)), ((12 : Nat), i64 (↑(done ++ [x]).length : Int))] (oB h (out ++ [x])) (0 : Nat))) (show ((out ++ [x]).length) = (out.length + (1 : Nat)) by simp [ints_app, ints_cons, intc])).trans (congrArg (fun x_1 => Q.loop (lq pr (61 : FuncId) (0 : Nat)) (at_ [((1 : Nat), V.ptr (0 : Nat) (1 : Nat) (0 : Nat) (0 : Nat)), ((3 : Nat), V.vec (1 : Nat) (out.length + (1 : Nat)) (1 : Nat) (0 : Nat) (out.length + (1 : Nat))), ((10 : Nat), isq h.roots), ((11 : Nat), i64 (↑h.roots.length : Int)), ((12 : Nat), i64 x_1)] (oB h (out ++ [x])) (0 : Nat))) (show ((↑(done ++ [x]).length : Int)) = ((↑done.length : Int) + (1 : Int)) by simp [ints_app, ints_cons, intc]))).trans (congrArg (fun x => Q.loop (lq pr (61 : FuncId) (0 : Nat)) (at_ [((1 : Nat), V.ptr (0 : Nat) (1 : Nat) (0 : Nat) (0 : Nat)), ((3 : Nat), V.vec (1 : Nat) (out.length + (1 : Nat)) (1 : Nat) (0 : Nat) (out.length + (1 : Nat))), ((10 : Nat), V.t (T.seq (1 : Nat) (List.map intt h.roots))), ((11 : Nat), V.t (T.int IntKind.i64 (↑h.roots.length : Int))), ((12 : Nat), V.t (T.int IntKind.i64 ((↑done.length : Int) + (1 : Int))))] [Ob.box [V.t (T.seq (2 : Nat) (List.map Obj.ce h.objects)), V.t (T.seq (1 : Nat) (List.map intt h.roots))], Ob.vec true (1 : Nat) x] (0 : Nat))) (show (ints (out ++ [x])) = ((ints out).append [[C.t (T.int IntKind.i64 x)]]) by simp [ints_app, ints_cons, intc]))) (ih))
        exact .tp [t0, t1, t2, t3, t4, .a (hh), .m (rfl : true = true), .b (rfl : true = true), .m (rfl : true = true), t9, t10, .c (rfl : (out.length + (1 : Nat)) = _), t12, t13, t14] (by kernel_rfl)
theorem orderKL_ev (h : Hp) (l : List Int) (i : Int) (hl : l.length ≤ 4) : ∀ (rest dn out : List Int), l = dn ++ rest → out.length ≤ 100 + dn.length →
    Ev pr (.loop (lq pr 61 2) (at_ [(1, .ptr 0 1 0 0), (3, .vec 1 out.length 1 0 out.length), (6, i64 i), (43, isq l), (44, i64 l.length), (45, i64 dn.length)] (oB h out) 0))
      (.exit 4 (at_ [(1, .ptr 0 1 0 0), (3, .vec 1 (pushAll out rest).length 1 0 (pushAll out rest).length), (6, i64 i)] (oB h (pushAll out rest)) 0))
  | [], dn, out, he, ho => by
    have hll : (l.length : Int) = dn.length := by simp [he]
    rw [show pushAll out [] = out from rfl]
    let t0 : Tp pr := .b (show (decide ((↑dn.length : Int) < (↑l.length : Int))) = false by (simp; omega))
    exact .tp [t0] (by kernel_rfl)
  | x :: rest, dn, out, he, ho => by
    have hll : (l.length : Int) = dn.length + 1 + rest.length := by simp [he]; omega
    have hg : lkp (l.map intt) (dn.length : Int) = some [T.int .i64 x] := by rw [he]; simp [intt]
    have hh := l1Has_ev out x (by omega)
    rw [show pushAll out (x :: rest) = pushAll (push out x) rest from rfl]
    unfold push
    by_cases hx : x < 0
    · rw [if_pos hx]
      have ih := orderKL_ev h l i hl rest (dn ++ [x]) out (by simp [he]) (by simp; omega)
      let t0 : Tp pr := .b (show (decide ((↑dn.length : Int) < (↑l.length : Int))) = true by (simp; omega))
      let t1 : Tp pr := .g .row (show (lkp (List.map intt l) (↑dn.length : Int)) = some ([T.int IntKind.i64 x]) from hg)
      let t2 : Tp pr := .b (show (decide (x ≥ (0 : Int))) = false by (simp; omega))
      let t4 : Tp pr := .i (wrap_i64 (a := (↑dn.length : Int) + (1 : Int)) (by omega) (by omega))
      let t5 : Tp pr := .a (Ev.castq (congrArg (fun x => Q.loop (lq pr (61 : FuncId) (2 : Nat)) (at_ [((1 : Nat), V.ptr (0 : Nat) (1 : Nat) (0 : Nat) (0 : Nat)), ((3 : Nat), V.vec (1 : Nat) out.length (1 : Nat) (0 : Nat) out.length), ((6 : Nat), i64 i), ((43 : Nat), isq l), ((44 : Nat), i64 (↑l.length : Int)), ((45 : Nat), i64 x)] (oB h out) (0 : Nat))) (show ((↑(dn ++ [x]).length : Int)) = ((↑dn.length : Int) + (1 : Int)) by simp)) (ih))
      exact .tp [t0, t1, t2, .b (rfl : false = false), t4, t5] (by kernel_rfl)
    · rw [if_neg hx]
      cases hc : out.contains x with
      | true =>
        rw [hc] at hh
        rw [if_pos rfl]
        have ih := orderKL_ev h l i hl rest (dn ++ [x]) out (by simp [he]) (by simp; omega)
        let t0 : Tp pr := .b (show (decide ((↑dn.length : Int) < (↑l.length : Int))) = true by (simp; omega))
        let t1 : Tp pr := .g .row (show (lkp (List.map intt l) (↑dn.length : Int)) = some ([T.int IntKind.i64 x]) from hg)
        let t2 : Tp pr := .b (show (decide (x ≥ (0 : Int))) = true by (simp; omega))
        let t3 : Tp pr := .m (show (decide ((ints out).length = out.length ∧ (0 : Nat) + out.length ≤ out.length)) = true by simp)
        let t4 : Tp pr := .n .rows (show (List.map (fun x => List.map C.fz x) (List.take out.length (List.drop (0 : Nat) (ints out)))) = List.map intt out by simp)
        let t8 : Tp pr := .i (wrap_i64 (a := (↑dn.length : Int) + (1 : Int)) (by omega) (by omega))
        let t9 : Tp pr := .a (Ev.castq (congrArg (fun x => Q.loop (lq pr (61 : FuncId) (2 : Nat)) (at_ [((1 : Nat), V.ptr (0 : Nat) (1 : Nat) (0 : Nat) (0 : Nat)), ((3 : Nat), V.vec (1 : Nat) out.length (1 : Nat) (0 : Nat) out.length), ((6 : Nat), i64 i), ((43 : Nat), isq l), ((44 : Nat), i64 (↑l.length : Int)), ((45 : Nat), i64 x)] (oB h out) (0 : Nat))) (show ((↑(dn ++ [x]).length : Int)) = ((↑dn.length : Int) + (1 : Int)) by simp)) (ih))
        exact .tp [t0, t1, t2, t3, t4, .a (hh), .m (rfl : true = true), .b (rfl : false = false), t8, t9] (by kernel_rfl)
      | false =>
        rw [hc] at hh
        rw [if_neg (by simp)]
        have ih := orderKL_ev h l i hl rest (dn ++ [x]) (out ++ [x]) (by simp [he]) (by simp; omega)
        let t0 : Tp pr := .b (show (decide ((↑dn.length : Int) < (↑l.length : Int))) = true by (simp; omega))
        let t1 : Tp pr := .g .row (show (lkp (List.map intt l) (↑dn.length : Int)) = some ([T.int IntKind.i64 x]) from hg)
        let t2 : Tp pr := .b (show (decide (x ≥ (0 : Int))) = true by (simp; omega))
        let t3 : Tp pr := .m (show (decide ((ints out).length = out.length ∧ (0 : Nat) + out.length ≤ out.length)) = true by simp)
        let t4 : Tp pr := .n .rows (show (List.map (fun x => List.map C.fz x) (List.take out.length (List.drop (0 : Nat) (ints out)))) = List.map intt out by simp)
        let t9 : Tp pr := .m (show (decide ((ints out).length = out.length ∧ (0 : Nat) + out.length ≤ out.length ∧ out.length + (1 : Nat) ≤ (4294967296 : Nat))) = true by (simp; omega))
        let t10 : Tp pr := .b (show (decide (out.length + (1 : Nat) ≤ out.length)) = false by simp)
        let t12 : Tp pr := .n .crows (show ((List.take out.length (ints out)).append (List.take (1 : Nat) (List.drop (0 : Nat) [[C.t (T.int IntKind.i64 x)]]))) = ints out ++ [[C.t (T.int IntKind.i64 x)]] by simp)
        let t13 : Tp pr := .i (wrap_i64 (a := (↑dn.length : Int) + (1 : Int)) (by omega) (by omega))
        let t14 : Tp pr := .a (Ev.castq (((congrArg (fun x_1 => Q.loop (lq pr (61 : FuncId) (2 : Nat)) (at_ [((1 : Nat), V.ptr (0 : Nat) (1 : Nat) (0 : Nat) (0 : Nat)), ((3 : Nat), V.vec (1 : Nat) x_1 (1 : Nat) (0 : Nat) x_1), ((6 : Nat), i64 i), ((43 : Nat), isq l), ((44 : Nat), i64 (↑l.length : Int)), ((45 : Nat), i64 (↑(dn ++ [x]).length : Int))] (oB h (out ++ [x])) (0 : Nat))) (show ((out ++ [x]).length) = (out.length + (1 : Nat)) by simp [ints_app, ints_cons, intc])).trans (congrArg (fun x_1 => Q.loop (lq pr (61 : FuncId) (2 : Nat)) (at_ [((1 : Nat), V.ptr (0 : Nat) (1 : Nat) (0 : Nat) (0 : Nat)), ((3 : Nat), V.vec (1 : Nat) (out.length + (1 : Nat)) (1 : Nat) (0 : Nat) (out.length + (1 : Nat))), ((6 : Nat), i64 i), ((43 : Nat), isq l), ((44 : Nat), i64 (↑l.length : Int)), ((45 : Nat), i64 x_1)] (oB h (out ++ [x])) (0 : Nat))) (show ((↑(dn ++ [x]).length : Int)) = ((↑dn.length : Int) + (1 : Int)) by simp [ints_app, ints_cons, intc]))).trans (congrArg (fun x => Q.loop (lq pr (61 : FuncId) (2 : Nat)) (at_ [((1 : Nat), V.ptr (0 : Nat) (1 : Nat) (0 : Nat) (0 : Nat)), ((3 : Nat), V.vec (1 : Nat) (out.length + (1 : Nat)) (1 : Nat) (0 : Nat) (out.length + (1 : Nat))), ((6 : Nat), V.t (T.int IntKind.i64 i)), ((43 : Nat), V.t (T.seq (1 : Nat) (List.map intt l))), ((44 : Nat), V.t (T.int IntKind.i64 (↑l.length : Int))), ((45 : Nat), V.t (T.int IntKind.i64 ((↑dn.length : Int) + (1 : Int))))] [Ob.box [V.t (T.seq (2 : Nat) (List.map Obj.ce h.objects)), V.t (T.seq (1 : Nat) (List.map intt h.roots))], Ob.vec true (1 : Nat) x] (0 : Nat))) (show (ints (out ++ [x])) = ((ints out).append [[C.t (T.int IntKind.i64 x)]]) by simp [ints_app, ints_cons, intc]))) (ih))
        exact .tp [t0, t1, t2, t3, t4, .a (hh), .m (rfl : true = true), .b (rfl : true = true), .m (rfl : true = true), t9, t10, .c (rfl : (out.length + (1 : Nat)) = _), t12, t13, t14] (by kernel_rfl)
theorem objAt_lkp {h : Hp} {k : Int} (h0 : 0 ≤ k) (h1 : k < h.objects.length) : lkp (h.objects.map Obj.ce) k = some (objAt h k).ce := by
  rw [lkp, if_pos h0]
  simp [objAt, List.getD_eq_getElem?_getD, show k.toNat < h.objects.length by omega]
theorem orderL_ev (h : Hp) (hg : GoodH h) : ∀ (n i : Nat) (l : List Int), l.Nodup → (∀ x ∈ l, 0 ≤ x ∧ x < h.objects.length) → done h n i l → i ≤ l.length →
    Ev pr (.loop (lq pr 61 1) (at_ [(1, .ptr 0 1 0 0), (3, .vec 1 l.length 1 0 l.length), (6, i64 i)] (oB h l) 0))
      (.exit 2 (at_ [(3, .vec 0 (orderGo h n i l).length 1 0 (orderGo h n i l).length)] [.vec true 1 (ints (orderGo h n i l))] 0))
  | 0, i, l, hn, hb, hd, hi => by
    have hd : l.length ≤ i := hd
    have e : i = l.length := by omega
    subst e
    rw [show orderGo h 0 l.length l = l from rfl]
    let t1 : Tp pr := .b (show (decide ((↑l.length : Int) < (↑l.length : Int))) = false by simp)
    exact .tp [.i (rfl : ((↑l.length : Int)) = _), t1] (by kernel_rfl)
  | n + 1, i, l, hn, hb, hd, hi => by
    have hl := nodup_len _ l hn hb
    have hob := hg.objs
    unfold orderGo
    unfold done at hd
    cases hk : l[i]? with
    | none =>
      have e : i = l.length := by have := List.getElem?_eq_none_iff.1 hk; omega
      subst e
      let t1 : Tp pr := .b (show (decide ((↑l.length : Int) < (↑l.length : Int))) = false by simp)
      exact .tp [.i (rfl : ((↑l.length : Int)) = _), t1] (by kernel_rfl)
    | some k =>
      rw [hk] at hd
      dsimp only at hd ⊢
      have hlt := (List.getElem?_eq_some_iff.1 hk).1
      have hkb := hb k (List.mem_of_getElem? hk)
      have hgi : (ints l)[i]? = some (intc k) := by simp [ints, hk]
      have hlk := objAt_lkp hkb.1 hkb.2
      have hmem := objAt_mem hkb.1 hkb.2
      have hin := orderKL_ev h (objAt h k).links i (hg.llen _ hmem) (objAt h k).links [] l rfl (by simp; omega)
      obtain ⟨r, hr⟩ := pushAll_ext (objAt h k).links l
      have hlen2 : l.length ≤ (pushAll l (objAt h k).links).length := by rw [hr]; simp
      have hb2 := pushAll_bd (N := h.objects.length) (objAt h k).links l hb (fun x hx => (hg.links _ hmem x hx).2)
      have ih := orderL_ev h hg n (i + 1) (pushAll l (objAt h k).links) (pushAll_nodup _ _ hn) hb2 hd (by omega)
      let t1 : Tp pr := .b (show (decide ((↑i : Int) < (↑l.length : Int))) = true by (simp; omega))
      let t6 : Tp pr := .m (show (decide ((0 : Int) ≤ (↑i : Int) ∧ (↑i : Int).toNat < l.length)) = true by simp [*])
      let t7 : Tp pr := .c (show ((0 : Nat) + (↑i : Int).toNat : Nat) = i by omega)
      let t9 : Tp pr := .m (show (decide ((ints l).length = l.length)) = true by simp)
      let t10 : Tp pr := .g .crow (show ((ints l)[i]?) = some (intc k) from hgi)
      let t12 : Tp pr := .g .row (show (lkp (List.map Obj.ce h.objects) k) = some ((objAt h k).ce) from hlk)
      let t16 : Tp pr := .i (show ((↑(List.map intt (objAt h k).links).length : Int) : Int) = (↑(objAt h k).links.length : Int) by simp)
      let t20 : Tp pr := .i (wrap_i64 (a := (↑i : Int) + (1 : Int)) (by omega) (by omega))
      exact .tp [.i (rfl : ((↑l.length : Int)) = _), t1, .m (rfl : true = true), .m (rfl : true = true), .m (rfl : true = true), .m (rfl : true = true), t6, t7, .m (rfl : true = true), t9, t10, .m (rfl : true = true), t12, .m (rfl : true = true), .m (rfl : true = true), .m (rfl : true = true), t16, .m (rfl : true = true), .m (rfl : true = true), .a (hin), t20, .a (ih)] (by kernel_rfl)
theorem l15Order_ev (h : Hp) (hg : GoodH h) : Ev pr (.call 61 [vs h.ce] []) (.val (isq (order h)) []) := by
  have h3 := hg.rlen
  have g1 := orderRL_ev h (by omega) h.roots [] [] rfl (by simp)
  have hb := pushAll_bd (N := h.objects.length) h.roots [] (by simp) (fun k hk => (hg.roots k hk).2)
  have g2 := orderL_ev h hg (h.objects.length + 1) 0 (pushAll [] h.roots) (pushAll_nodup _ _ (by simp)) hb (done_ok hg _ _ _ (pushAll_nodup _ _ (by simp)) hb (by omega)) (Nat.zero_le _)
  rw [show orderGo h (h.objects.length + 1) 0 (pushAll [] h.roots) = order h from rfl] at g2
  let t0 : Tp pr := .i (show ((↑(List.map intt h.roots).length : Int) : Int) = (↑h.roots.length : Int) by simp)
  let t3 : Tp pr := .m (show (decide ((ints (order h)).length = (order h).length ∧ (0 : Nat) + (order h).length ≤ (order h).length)) = true by simp)
  let t4 : Tp pr := .n .rows (show (List.map (fun x => List.map C.fz x) (List.take (order h).length (List.drop (0 : Nat) (ints (order h))))) = List.map intt (order h) by simp)
  exact .tp [t0, .a (g1), .a (g2), t3, t4] (by kernel_rfl)
end Go.Ev

/- What is reached, by the reference. -/
namespace Go.Ev
set_option linter.unusedVariables false
set_option linter.unusedSimpArgs false
open Go.Proofs
set_option maxRecDepth 100000
set_option linter.unusedVariables false
set_option maxHeartbeats 2000000
def lowN (l : List Int) (n : Int) : List Int := l.takeWhile fun x => decide (x < n)
def hiN (l : List Int) (n : Int) : List Int := l.dropWhile fun x => decide (x < n)
theorem low_hi (l : List Int) (n : Int) : lowN l n ++ hiN l n = l := List.takeWhile_append_dropWhile
theorem insL_low : ∀ (l : List Int) (n : Int), insL l n = match hiN l n with
    | [] => lowN l n ++ [n]
    | x :: r => if x = n then l else lowN l n ++ n :: x :: r
  | [], n => rfl
  | y :: l, n => by
    by_cases h : y < n
    · have e1 : hiN (y :: l) n = hiN l n := by simp [hiN, List.dropWhile_cons, h]
      have e2 : lowN (y :: l) n = y :: lowN l n := by simp [lowN, List.takeWhile_cons, h]
      have ih := insL_low l n
      rw [e1, e2]
      simp only [insL]
      rw [if_pos h, ih]
      split
      · rfl
      · split <;> rfl
    · have e1 : hiN (y :: l) n = y :: l := by simp [hiN, List.dropWhile_cons, h]
      have e2 : lowN (y :: l) n = [] := by simp [lowN, List.takeWhile_cons, h]
      rw [e1, e2]
      simp only [insL]
      rw [if_neg h]
      rfl
theorem putL_ev (l : List Int) (n : Int) (hl : l.length ≤ 1000) : ∀ (rest dn : List Int), l = dn ++ rest →
    Ev pr (.loop (lq pr 62 0) (at_ [(0, isq l), (1, i64 n), (5, i64 dn.length)] [] 0)) (.exit 0 (at_ [(0, isq l), (1, i64 n), (5, i64 (dn.length + (lowN rest n).length))] [] 0))
  | [], dn, he => by
    have hll : (l.length : Int) = dn.length := by simp [he]
    rw [show lowN [] n = [] from rfl]
    let t0 : Tp pr := .i (show ((↑(List.map intt l).length : Int) : Int) = (↑l.length : Int) by simp)
    let t1 : Tp pr := .b (show (decide ((↑dn.length : Int) < (↑l.length : Int))) = false by (simp; omega))
    exact .tp [t0, t1, .b (rfl : false = false)] (by kernel_rfl)
  | x :: rest, dn, he => by
    have hll : (l.length : Int) = dn.length + 1 + rest.length := by simp [he]; omega
    have hg : lkp (l.map intt) (dn.length : Int) = some [T.int .i64 x] := by subst he; simp [intt]
    have ih := putL_ev l n hl rest (dn ++ [x]) (by simp [he])
    by_cases hx : x < n
    · rw [show lowN (x :: rest) n = x :: lowN rest n by simp [lowN, List.takeWhile_cons, hx]]
      let t0 : Tp pr := .i (show ((↑(List.map intt l).length : Int) : Int) = (↑l.length : Int) by simp)
      let t1 : Tp pr := .b (show (decide ((↑dn.length : Int) < (↑l.length : Int))) = true by (simp; omega))
      let t2 : Tp pr := .g .row (show (lkp (List.map intt l) (↑dn.length : Int)) = some ([T.int IntKind.i64 x]) from hg)
      let t3 : Tp pr := .b (show (decide (x < n)) = true by (simp; omega))
      let t4 : Tp pr := .i (wrap_i64 (a := (↑dn.length : Int) + (1 : Int)) (by omega) (by omega))
      let t5 : Tp pr := .a (Ev.castq (congrArg (fun x => Q.loop (lq pr (62 : FuncId) (0 : Nat)) (at_ [((0 : Nat), isq l), ((1 : Nat), i64 n), ((5 : Nat), i64 x)] [] (0 : Nat))) (show ((↑(dn ++ [x]).length : Int)) = ((↑dn.length : Int) + (1 : Int)) by (simp <;> omega))) (ih))
      exact .tpe [t0, t1, t2, t3, t4, t5] (Out.exit (0 : Nat) (at_ [((0 : Nat), V.t (T.seq (1 : Nat) (List.map intt l))), ((1 : Nat), V.t (T.int IntKind.i64 n)), ((5 : Nat), V.t (T.int IntKind.i64 ((↑(dn ++ [x]).length : Int) + (↑(lowN rest n).length : Int))))] [] (0 : Nat))) (by kernel_rfl) (congrArg (fun x => Out.exit (0 : Nat) (at_ [((0 : Nat), V.t (T.seq (1 : Nat) (List.map intt l))), ((1 : Nat), V.t (T.int IntKind.i64 n)), ((5 : Nat), V.t (T.int IntKind.i64 x))] [] (0 : Nat))) (show ((↑(dn ++ [x]).length : Int) + (↑(lowN rest n).length : Int)) = ((↑dn.length : Int) + (↑(x :: lowN rest n).length : Int)) by (simp <;> omega)))
    · rw [show lowN (x :: rest) n = [] by simp [lowN, List.takeWhile_cons, hx]]
      let t0 : Tp pr := .i (show ((↑(List.map intt l).length : Int) : Int) = (↑l.length : Int) by simp)
      let t1 : Tp pr := .b (show (decide ((↑dn.length : Int) < (↑l.length : Int))) = true by (simp; omega))
      let t2 : Tp pr := .g .row (show (lkp (List.map intt l) (↑dn.length : Int)) = some ([T.int IntKind.i64 x]) from hg)
      let t3 : Tp pr := .b (show (decide (x < n)) = false by (simp; omega))
      exact .tp [t0, t1, t2, t3] (by kernel_rfl)
@[local simp] theorem take_mapL {α β : Type} (f : α → β) (a : List α) (c : List β) : List.take a.length (a.map f ++ c) = a.map f := List.take_left' (by simp)
@[local simp] theorem drop_mapL {α β : Type} (f : α → β) (a : List α) (c : List β) : List.drop a.length (a.map f ++ c) = c := List.drop_left' (by simp)
@[local simp] theorem ints_of (l : List Int) : List.map ((fun x => List.map C.t x) ∘ intt) l = ints l := by simp [ints, Function.comp_def, intc, intt]
@[local simp] theorem ints_of2 (l : List Int) : List.map (fun x => List.map C.t x) (List.map intt l) = ints l := by simp
attribute [local simp] ints_takeL
@[local simp] theorem intt_take2 (a r : List Int) (y z : List T) : List.take (a.length + 1 + (r.length + 1)) (a.map intt ++ y :: z :: r.map intt) = a.map intt ++ y :: z :: r.map intt := List.take_of_length_le (by simp; omega)
@[local simp] theorem ints_takeA (l : List Int) (c : List (List C)) : List.take l.length (ints l ++ c) = ints l := List.take_left' (by simp)
@[local simp] theorem ints_take1 (l : List Int) (z : List C) : List.take (l.length + 1) (ints l ++ [z]) = ints l ++ [z] := List.take_of_length_le (by simp)
@[local simp] theorem ints_drop1 (l : List Int) (z : List C) : List.drop (l.length + 1) (ints l ++ [z]) = [] := List.drop_of_length_le (by simp)
@[local simp] theorem intt_drop1 (l : List Int) (z : List T) : List.drop (l.length + 1) (l.map intt ++ [z]) = [] := List.drop_of_length_le (by simp)
@[local simp] theorem intt_take1 (l : List Int) (z : List T) : List.take (l.length + 1) (l.map intt ++ [z]) = l.map intt ++ [z] := List.take_of_length_le (by simp)
@[local simp] theorem tn3 (a b : Nat) : ((a : Int) + ((b : Int) + 1)).toNat = a + (b + 1) := by omega
@[local simp] theorem tn4 (a b : Nat) : a + (b + 1) - a = b + 1 := by omega
@[local simp] theorem cons_take (b : List Int) (z : List C) : List.take (b.length + 1) (z :: ints b) = z :: ints b := List.take_of_length_le (by simp)
def insAB (a b : List Int) (n : Int) : List Int :=
  match b with
  | [] => a ++ [n]
  | x :: r => if x = n then a ++ b else a ++ n :: x :: r
theorem putAB_ev (a b : List Int) (n : Int) (hl : (a ++ b).length ≤ 1000) (h : Ev pr (.loop (lq pr 62 0) (at_ [(0, isq (a ++ b)), (1, i64 n), (5, i64 0)] [] 0)) (.exit 0 (at_ [(0, isq (a ++ b)), (1, i64 n), (5, i64 a.length)] [] 0))) :
    Ev pr (.call 62 [isq (a ++ b), i64 n] []) (.val (isq (insAB a b n)) []) := by
  cases b with
  | nil =>
    have hl2 : a.length ≤ 1000 := by simp at hl; exact hl
    have t1 : List.take (a.length + 1) (ints a ++ [[C.t (T.int .i64 n)]]) = ints a ++ [[C.t (T.int .i64 n)]] := List.take_of_length_le (by simp)
    rw [show insAB a [] n = a ++ [n] from rfl]
    let t1 : Tp pr := .i (show ((↑(List.map intt (a ++ [])).length : Int) : Int) = (↑a.length : Int) by simp)
    let t2 : Tp pr := .b (show (decide ((↑a.length : Int) < (↑a.length : Int))) = false by simp)
    let t4 : Tp pr := .m (show (decide ((0 : Int) ≤ (0 : Int) ∧ (0 : Int) ≤ (↑a.length : Int) ∧ (↑a.length : Int) ≤ (↑(List.map intt (a ++ [])).length : Int))) = true by simp)
    let t5 : Tp pr := .n .rows (show (List.take ((↑a.length : Int).toNat - (0 : Nat)) (List.drop (0 : Nat) (List.map intt (a ++ [])))) = List.map intt a by simp)
    let t6 : Tp pr := .m (show (decide ((List.map (fun x => List.map C.t x) (List.map intt a)).length ≤ (4294967296 : Nat))) = true by (simp; omega))
    let t7 : Tp pr := .c (show ((List.map (fun x => List.map C.t x) (List.map intt a)).length : Nat) = a.length by simp)
    let t8 : Tp pr := .n .crows (show (List.map (fun x => List.map C.t x) (List.map intt a)) = ints a by simp)
    let t10 : Tp pr := .m (show (decide ((ints a).length = a.length ∧ (0 : Nat) + a.length ≤ a.length ∧ a.length + (1 : Nat) ≤ (4294967296 : Nat))) = true by (simp; omega))
    let t11 : Tp pr := .b (show (decide (a.length + (1 : Nat) ≤ a.length)) = false by simp)
    let t13 : Tp pr := .n .crows (show ((List.take a.length (ints a)).append (List.take (1 : Nat) (List.drop (0 : Nat) [[C.t (T.int IntKind.i64 n)]]))) = ints a ++ [[C.t (T.int IntKind.i64 n)]] by simp)
    let t14 : Tp pr := .m (show (decide ((0 : Int) ≤ (↑a.length : Int) ∧ (↑a.length : Int) ≤ (↑(List.map intt (a ++ [])).length : Int) ∧ (↑(List.map intt (a ++ [])).length : Int) ≤ (↑(List.map intt (a ++ [])).length : Int))) = true by simp)
    let t15 : Tp pr := .n .rows (show (List.take ((↑(List.map intt (a ++ [])).length : Int).toNat - (↑a.length : Int).toNat) (List.drop (↑a.length : Int).toNat (List.map intt (a ++ [])))) = [] by simp)
    let t16 : Tp pr := .m (show (decide (((ints a).append [[C.t (T.int IntKind.i64 n)]]).length = a.length + (1 : Nat) ∧ (0 : Nat) + (a.length + (1 : Nat)) ≤ a.length + (1 : Nat) ∧ a.length + (1 : Nat) + (0 : Nat) ≤ (4294967296 : Nat))) = true by (simp; omega))
    let t17 : Tp pr := .b (show (decide (a.length + (1 : Nat) + (0 : Nat) ≤ a.length + (1 : Nat))) = true by simp)
    let t18 : Tp pr := .c (show (a.length + (1 : Nat) + (0 : Nat) : Nat) = a.length + (1 : Nat) by omega)
    let t19 : Tp pr := .n .crows (show (((List.take (a.length + (1 : Nat)) ((ints a).append [[C.t (T.int IntKind.i64 n)]])).append []).append (List.drop (a.length + (1 : Nat) + (0 : Nat)) ((ints a).append [[C.t (T.int IntKind.i64 n)]]))) = ints a ++ [[C.t (T.int IntKind.i64 n)]] by simp)
    let t20 : Tp pr := .m (show (decide (((ints a).append [[C.t (T.int IntKind.i64 n)]]).length = a.length + (1 : Nat) ∧ (0 : Nat) + (a.length + (1 : Nat)) ≤ a.length + (1 : Nat))) = true by simp)
    let t21 : Tp pr := .n .rows (show (List.map (fun x => List.map C.fz x) (List.take (a.length + (1 : Nat)) (List.drop (0 : Nat) ((ints a).append [[C.t (T.int IntKind.i64 n)]])))) = List.map intt a ++ [[(C.t (T.int IntKind.i64 n)).fz]] by simp)
    exact .tpe [.a (h), t1, t2, .b (rfl : false = false), t4, t5, t6, t7, t8, .m (rfl : true = true), t10, t11, .c (rfl : (a.length + (1 : Nat)) = _), t13, t14, t15, t16, t17, t18, t19, t20, t21] (Out.val (V.t (T.seq (1 : Nat) ((List.map intt a).append [[T.int IntKind.i64 n]]))) []) (by kernel_rfl) (congrArg (fun x => Out.val (V.t (T.seq (1 : Nat) x)) []) (show ((List.map intt a).append [[T.int IntKind.i64 n]]) = (List.map intt (a ++ [n])) by simp [ints, intc, intt, C.fz, Function.comp_def]))
  | cons x r =>
    have hl2 : a.length + r.length + 1 ≤ 1000 := by simp at hl; omega
    have hg : lkp ((a ++ x :: r).map intt) (a.length : Int) = some [T.int .i64 x] := by simp [intt]
    unfold insAB
    dsimp only
    by_cases hx : x = n
    · rw [if_pos hx]; (
      let t1 : Tp pr := .i (show ((↑(List.map intt (a ++ x :: r)).length : Int) : Int) = (↑a.length : Int) + ((↑r.length : Int) + (1 : Int)) by simp)
      let t2 : Tp pr := .b (show (decide ((↑a.length : Int) < (↑a.length : Int) + ((↑r.length : Int) + (1 : Int)))) = true by (simp; omega))
      let t3 : Tp pr := .g .row (show (lkp (List.map intt (a ++ x :: r)) (↑a.length : Int)) = some ([T.int IntKind.i64 x]) from hg)
      let t4 : Tp pr := .b (show (decide (x = n)) = true by (simp; omega))
      exact .tp [.a (h), t1, t2, t3, t4] (by kernel_rfl))
    · rw [if_neg hx]; (
      let t1 : Tp pr := .i (show ((↑(List.map intt (a ++ x :: r)).length : Int) : Int) = (↑a.length : Int) + ((↑r.length : Int) + (1 : Int)) by simp)
      let t2 : Tp pr := .b (show (decide ((↑a.length : Int) < (↑a.length : Int) + ((↑r.length : Int) + (1 : Int)))) = true by (simp; omega))
      let t3 : Tp pr := .g .row (show (lkp (List.map intt (a ++ x :: r)) (↑a.length : Int)) = some ([T.int IntKind.i64 x]) from hg)
      let t4 : Tp pr := .b (show (decide (x = n)) = false by (simp; omega))
      let t5 : Tp pr := .m (show (decide ((0 : Int) ≤ (0 : Int) ∧ (0 : Int) ≤ (↑a.length : Int) ∧ (↑a.length : Int) ≤ (↑(List.map intt (a ++ x :: r)).length : Int))) = true by (simp; omega))
      let t6 : Tp pr := .n .rows (show (List.take ((↑a.length : Int).toNat - (0 : Nat)) (List.drop (0 : Nat) (List.map intt (a ++ x :: r)))) = List.map intt a by simp)
      let t7 : Tp pr := .m (show (decide ((List.map (fun x => List.map C.t x) (List.map intt a)).length ≤ (4294967296 : Nat))) = true by (simp; omega))
      let t8 : Tp pr := .c (show ((List.map (fun x => List.map C.t x) (List.map intt a)).length : Nat) = a.length by simp)
      let t9 : Tp pr := .n .crows (show (List.map (fun x => List.map C.t x) (List.map intt a)) = ints a by simp)
      let t11 : Tp pr := .m (show (decide ((ints a).length = a.length ∧ (0 : Nat) + a.length ≤ a.length ∧ a.length + (1 : Nat) ≤ (4294967296 : Nat))) = true by (simp; omega))
      let t12 : Tp pr := .b (show (decide (a.length + (1 : Nat) ≤ a.length)) = false by simp)
      let t14 : Tp pr := .n .crows (show ((List.take a.length (ints a)).append (List.take (1 : Nat) (List.drop (0 : Nat) [[C.t (T.int IntKind.i64 n)]]))) = ints a ++ [[C.t (T.int IntKind.i64 n)]] by simp)
      let t15 : Tp pr := .m (show (decide ((0 : Int) ≤ (↑a.length : Int) ∧ (↑a.length : Int) ≤ (↑(List.map intt (a ++ x :: r)).length : Int) ∧ (↑(List.map intt (a ++ x :: r)).length : Int) ≤ (↑(List.map intt (a ++ x :: r)).length : Int))) = true by (simp; omega))
      let t16 : Tp pr := .n .rows (show (List.take ((↑(List.map intt (a ++ x :: r)).length : Int).toNat - (↑a.length : Int).toNat) (List.drop (↑a.length : Int).toNat (List.map intt (a ++ x :: r)))) = intt x :: List.map intt r by simp)
      let t17 : Tp pr := .m (show (decide (((ints a).append [[C.t (T.int IntKind.i64 n)]]).length = a.length + (1 : Nat) ∧ (0 : Nat) + (a.length + (1 : Nat)) ≤ a.length + (1 : Nat) ∧ a.length + (1 : Nat) + (List.map (fun x => List.map C.t x) ([T.int IntKind.i64 x] :: List.map intt r)).length ≤ (4294967296 : Nat))) = true by (simp; omega))
      let t18 : Tp pr := .b (show (decide (a.length + (1 : Nat) + (List.map (fun x => List.map C.t x) ([T.int IntKind.i64 x] :: List.map intt r)).length ≤ a.length + (1 : Nat))) = false by simp)
      let t19 : Tp pr := .c (show (a.length + (1 : Nat) + (List.map (fun x => List.map C.t x) ([T.int IntKind.i64 x] :: List.map intt r)).length : Nat) = a.length + (1 : Nat) + (r.length + (1 : Nat)) by simp)
      let t20 : Tp pr := .n .crows (show ((List.take (a.length + (1 : Nat)) ((ints a).append [[C.t (T.int IntKind.i64 n)]])).append (List.map (fun x => List.map C.t x) ([T.int IntKind.i64 x] :: List.map intt r))) = ints a ++ [C.t (T.int IntKind.i64 n)] :: [C.t (T.int IntKind.i64 x)] :: ints r by simp)
      let t21 : Tp pr := .m (show (decide (((ints a).append ([C.t (T.int IntKind.i64 n)] :: [C.t (T.int IntKind.i64 x)] :: ints r)).length = a.length + (1 : Nat) + (r.length + (1 : Nat)) ∧ (0 : Nat) + (a.length + (1 : Nat) + (r.length + (1 : Nat))) ≤ a.length + (1 : Nat) + (r.length + (1 : Nat)))) = true by (simp; omega))
      let t22 : Tp pr := .n .rows (show (List.map (fun x => List.map C.fz x) (List.take (a.length + (1 : Nat) + (r.length + (1 : Nat))) (List.drop (0 : Nat) ((ints a).append ([C.t (T.int IntKind.i64 n)] :: [C.t (T.int IntKind.i64 x)] :: ints r))))) = List.map intt a ++ [(C.t (T.int IntKind.i64 n)).fz] :: [(C.t (T.int IntKind.i64 x)).fz] :: List.map intt r by simp)
      exact .tpe [.a (h), t1, t2, t3, t4, t5, t6, t7, t8, t9, .m (rfl : true = true), t11, t12, .c (rfl : (a.length + (1 : Nat)) = _), t14, t15, t16, t17, t18, t19, t20, t21, t22] (Out.val (V.t (T.seq (1 : Nat) ((List.map intt a).append ([T.int IntKind.i64 n] :: [T.int IntKind.i64 x] :: List.map intt r)))) []) (by kernel_rfl) (congrArg (fun x => Out.val (V.t (T.seq (1 : Nat) x)) []) (show ((List.map intt a).append ([T.int IntKind.i64 n] :: [T.int IntKind.i64 x] :: List.map intt r)) = (List.map intt (a ++ n :: x :: r)) by simp [ints, intc, intt])))
theorem l1Put_ev (l : List Int) (n : Int) (hl : l.length ≤ 1000) : Ev pr (.call 62 [isq l, i64 n] []) (.val (isq (insL l n)) []) := by
  have h := putL_ev l n hl l [] rfl
  have e := low_hi l n
  have hk : ((([] : List Int).length : Int) + ((lowN l n).length : Int)) = (lowN l n).length := by simp
  rw [hk] at h
  have hp := putAB_ev (lowN l n) (hiN l n) n (by rw [e]; exact hl) (by rw [e]; exact h)
  rw [e] at hp
  have hi : insAB (lowN l n) (hiN l n) n = insL l n := by
    rw [insL_low]
    unfold insAB
    rw [e]
  rw [hi] at hp
  exact hp
theorem l1PutN_ev (n : Int) : Ev pr (.call 62 [.t .nils, i64 n] []) (.val (isq [n]) []) := by
  have h : Ev pr (.loop (lq pr 62 0) (at_ [(0, .t .nils), (1, i64 n), (5, i64 0)] [] 0)) (.exit 0 (at_ [(0, .t .nils), (1, i64 n), (5, i64 0)] [] 0)) := by
    let t0 : Tp pr := .i (rfl : ((0 : Int) : Int) = (0 : Int))
    exact .tp [t0, .b (rfl : false = false), .b (rfl : false = false)] (by kernel_rfl)
  let t1 : Tp pr := .i (rfl : ((0 : Int) : Int) = (0 : Int))
  let t12 : Tp pr := .n .crows (show ([].append (List.take (1 : Nat) (List.drop (0 : Nat) [[C.t (T.int IntKind.i64 n)]]))) = [[C.t (T.int IntKind.i64 n)]] by simp)
  let t17 : Tp pr := .n .crows (show (((List.take (1 : Nat) [[C.t (T.int IntKind.i64 n)]]).append []).append []) = [[C.t (T.int IntKind.i64 n)]] by simp)
  let t19 : Tp pr := .n .rows (show (List.map (fun x => List.map C.fz x) (List.take (1 : Nat) (List.drop (0 : Nat) [[C.t (T.int IntKind.i64 n)]]))) = [[(C.t (T.int IntKind.i64 n)).fz]] by simp)
  exact .tp [.a (h), t1, .b (rfl : false = false), .b (rfl : false = false), .m (rfl : true = true), .m (rfl : true = true), .c (rfl : ((0 : Nat)) = _), .n .crows (rfl : ([]) = _), .m (rfl : true = true), .m (rfl : true = true), .b (rfl : false = false), .c (rfl : ((1 : Nat)) = _), t12, .m (rfl : true = true), .m (rfl : true = true), .b (rfl : true = true), .c (rfl : ((1 : Nat)) = _), t17, .m (rfl : true = true), t19] (by kernel_rfl)
theorem reachL_ev (o : List Int) (ho : o.length ≤ 100) : ∀ (rest dn out : List Int), o = dn ++ rest → out.length ≤ dn.length →
    Ev pr (.loop (lq pr 32 0) (at_ [(4, isq out), (11, isq o), (12, i64 o.length), (13, i64 dn.length)] [] 0)) (.exit 0 (at_ [(4, isq (rest.foldl insL out))] [] 0))
  | [], dn, out, he, hd => by
    have hll : (o.length : Int) = dn.length := by simp [he]
    let t0 : Tp pr := .b (show (decide ((↑dn.length : Int) < (↑o.length : Int))) = false by (simp; omega))
    exact .tp [t0] (by kernel_rfl)
  | x :: rest, dn, out, he, hd => by
    have hll : (o.length : Int) = dn.length + 1 + rest.length := by simp [he]; omega
    have hg : lkp (o.map intt) (dn.length : Int) = some [T.int .i64 x] := by rw [he]; simp [intt]
    have hp := l1Put_ev out x (by omega)
    have hlen : (insL out x).length ≤ out.length + 1 := by
      rw [insL_low]
      have e := congrArg List.length (low_hi out x)
      split <;> rename_i hh <;> rw [hh] at e <;> simp at e
      · simp; omega
      · split
        · omega
        · simp; omega
    have ih := reachL_ev o ho rest (dn ++ [x]) (insL out x) (by simp [he]) (by simp; omega)
    let t0 : Tp pr := .b (show (decide ((↑dn.length : Int) < (↑o.length : Int))) = true by (simp; omega))
    let t1 : Tp pr := .g .row (show (lkp (List.map intt o) (↑dn.length : Int)) = some ([T.int IntKind.i64 x]) from hg)
    let t3 : Tp pr := .i (wrap_i64 (a := (↑dn.length : Int) + (1 : Int)) (by omega) (by omega))
    let t4 : Tp pr := .a (Ev.castq (congrArg (fun x_1 => Q.loop (lq pr (32 : FuncId) (0 : Nat)) (at_ [((4 : Nat), isq (insL out x)), ((11 : Nat), isq o), ((12 : Nat), i64 (↑o.length : Int)), ((13 : Nat), i64 x_1)] [] (0 : Nat))) (show ((↑(dn ++ [x]).length : Int)) = ((↑dn.length : Int) + (1 : Int)) by simp)) (ih))
    exact .tp [t0, t1, .a (hp), t3, t4] (by kernel_rfl)
theorem ReachOfS_ev (h : Hp) (h1 : h.objects.length ≤ 1048576) (h2 : ∀ x ∈ h.objects, x.links.length ≤ 1048576) (h3 : h.roots.length ≤ 1048576) :
    Ev pr (.call 32 [vs h.ce] []) (.val (.tup [isq (if goodHeap h = true then reach h else []), bl (goodHeap h)]) []) := by
  have g := GoodHeapS_ev h h1 h2 h3
  cases hg : goodHeap h with
  | false => rw [hg] at g; exact .tp [.a (g), .b (rfl : true = true)] (by kernel_rfl)
  | true =>
    rw [hg] at g
    have hG := goodHeap_ok hg
    have g2 := l15Order_ev h hG
    have hp := reach_put hG
    have hlen : (order h).length ≤ 100 := by
      have hb := order_bd hG
      have := hG.objs
      have hn : (order h).Nodup := order_nodup h
      have := nodup_len _ _ hn hb
      omega
    rw [if_pos rfl, ← hp]
    cases ho : order h with
    | nil =>
      rw [ho] at g2
      have hL0 : Ev pr (.loop (lq pr 32 0) (at_ [(4, .t .nils), (11, isq []), (12, i64 0), (13, i64 0)] [] 0)) (.exit 0 (at_ [(4, .t .nils)] [] 0)) := by
        exact .tp [.b (rfl : false = false)] (by kernel_rfl)
      let t3 : Tp pr := .i (rfl : ((0 : Int) : Int) = (0 : Int))
      exact .tp [.a (g), .b (rfl : false = false), .a (g2), t3, .a (hL0)] (by kernel_rfl)
    | cons x r =>
      rw [ho] at g2 hlen
      have hL := reachL_ev (x :: r) hlen r [x] [x] rfl (by simp)
      have hq := l1PutN_ev x
      have hg3 : lkp ((x :: r).map intt) 0 = some [T.int .i64 x] := rfl
      have hL2 : Ev pr (.loop (lq pr 32 0) (at_ [(4, .t .nils), (11, isq (x :: r)), (12, i64 (x :: r).length), (13, i64 0)] [] 0)) (.exit 0 (at_ [(4, isq (r.foldl insL [x]))] [] 0)) := by
        let t0 : Tp pr := .b (show (decide ((0 : Int) < (↑(x :: r).length : Int))) = true by simp)
        let t1 : Tp pr := .g .row (show (lkp (List.map intt (x :: r)) (0 : Int)) = some ([T.int IntKind.i64 x]) from hg3)
        let t3 : Tp pr := .i (rfl : ((1 : Int) : Int) = (1 : Int))
        exact .tp [t0, t1, .a (hq), t3, .a (hL)] (by kernel_rfl)
      rw [show (x :: r).foldl insL [] = r.foldl insL [x] from rfl]
      let t3 : Tp pr := .i (show ((↑(List.map intt (x :: r)).length : Int) : Int) = (↑r.length : Int) + (1 : Int) by simp)
      exact .tp [.a (g), .b (rfl : false = false), .a (g2), t3, .a (hL2)] (by kernel_rfl)
end Go.Ev

/- Copies of heaps: rows repeated. -/
namespace Go.Ev
set_option linter.unusedVariables false
set_option linter.unusedSimpArgs false
open Go.Proofs
set_option maxRecDepth 100000
set_option linter.unusedVariables false
set_option maxHeartbeats 4000000
theorem mul64_ev : ∀ (n : Nat), n ≤ 40 → Ev pr (.call 93 [.t (.int .u64 1), .t (.int .u64 n)] []) (.val (.tup [.t (.int .u64 0), .t (.int .u64 n)]) [])
  | 0, _ => by (
    let t0 : Tp pr := .i (rfl : ((1 : Int) : Int) = (1 : Int))
    let t2 : Tp pr := .i (rfl : ((0 : Int) : Int) = (0 : Int))
    let t3 : Tp pr := .i (rfl : ((0 : Int) : Int) = (0 : Int))
    let t5 : Tp pr := .i (rfl : ((0 : Int) : Int) = (0 : Int))
    let t6 : Tp pr := .i (rfl : ((0 : Int) : Int) = (0 : Int))
    let t7 : Tp pr := .i (rfl : ((0 : Int) : Int) = (0 : Int))
    let t9 : Tp pr := .i (rfl : ((0 : Int) : Int) = (0 : Int))
    let t10 : Tp pr := .i (rfl : ((0 : Int) : Int) = (0 : Int))
    let t11 : Tp pr := .i (rfl : ((0 : Int) : Int) = (0 : Int))
    let t13 : Tp pr := .i (rfl : ((0 : Int) : Int) = (0 : Int))
    let t14 : Tp pr := .i (rfl : ((0 : Int) : Int) = (0 : Int))
    let t15 : Tp pr := .i (rfl : ((0 : Int) : Int) = (0 : Int))
    let t16 : Tp pr := .i (rfl : ((0 : Int) : Int) = (0 : Int))
    let t17 : Tp pr := .i (rfl : ((0 : Int) : Int) = (0 : Int))
    let t19 : Tp pr := .i (rfl : ((0 : Int) : Int) = (0 : Int))
    let t20 : Tp pr := .i (rfl : ((0 : Int) : Int) = (0 : Int))
    let t21 : Tp pr := .i (rfl : ((0 : Int) : Int) = (0 : Int))
    exact .tp [t0, .m (rfl : true = true), t2, t3, .m (rfl : true = true), t5, t6, t7, .m (rfl : true = true), t9, t10, t11, .m (rfl : true = true), t13, t14, t15, t16, t17, .m (rfl : true = true), t19, t20, t21] (by kernel_rfl))
  | 1, _ => by (
    let t0 : Tp pr := .i (rfl : ((1 : Int) : Int) = (1 : Int))
    let t2 : Tp pr := .i (rfl : ((0 : Int) : Int) = (0 : Int))
    let t3 : Tp pr := .i (rfl : ((1 : Int) : Int) = (1 : Int))
    let t5 : Tp pr := .i (rfl : ((0 : Int) : Int) = (0 : Int))
    let t6 : Tp pr := .i (rfl : ((1 : Int) : Int) = (1 : Int))
    let t7 : Tp pr := .i (rfl : ((0 : Int) : Int) = (0 : Int))
    let t9 : Tp pr := .i (rfl : ((0 : Int) : Int) = (0 : Int))
    let t10 : Tp pr := .i (rfl : ((0 : Int) : Int) = (0 : Int))
    let t11 : Tp pr := .i (rfl : ((0 : Int) : Int) = (0 : Int))
    let t13 : Tp pr := .i (rfl : ((0 : Int) : Int) = (0 : Int))
    let t14 : Tp pr := .i (rfl : ((0 : Int) : Int) = (0 : Int))
    let t15 : Tp pr := .i (rfl : ((0 : Int) : Int) = (0 : Int))
    let t16 : Tp pr := .i (rfl : ((0 : Int) : Int) = (0 : Int))
    let t17 : Tp pr := .i (rfl : ((0 : Int) : Int) = (0 : Int))
    let t19 : Tp pr := .i (rfl : ((0 : Int) : Int) = (0 : Int))
    let t20 : Tp pr := .i (rfl : ((0 : Int) : Int) = (0 : Int))
    let t21 : Tp pr := .i (rfl : ((1 : Int) : Int) = (1 : Int))
    exact .tp [t0, .m (rfl : true = true), t2, t3, .m (rfl : true = true), t5, t6, t7, .m (rfl : true = true), t9, t10, t11, .m (rfl : true = true), t13, t14, t15, t16, t17, .m (rfl : true = true), t19, t20, t21] (by kernel_rfl))
  | 2, _ => by (
    let t0 : Tp pr := .i (rfl : ((1 : Int) : Int) = (1 : Int))
    let t2 : Tp pr := .i (rfl : ((0 : Int) : Int) = (0 : Int))
    let t3 : Tp pr := .i (rfl : ((2 : Int) : Int) = (2 : Int))
    let t5 : Tp pr := .i (rfl : ((0 : Int) : Int) = (0 : Int))
    let t6 : Tp pr := .i (rfl : ((2 : Int) : Int) = (2 : Int))
    let t7 : Tp pr := .i (rfl : ((0 : Int) : Int) = (0 : Int))
    let t9 : Tp pr := .i (rfl : ((0 : Int) : Int) = (0 : Int))
    let t10 : Tp pr := .i (rfl : ((0 : Int) : Int) = (0 : Int))
    let t11 : Tp pr := .i (rfl : ((0 : Int) : Int) = (0 : Int))
    let t13 : Tp pr := .i (rfl : ((0 : Int) : Int) = (0 : Int))
    let t14 : Tp pr := .i (rfl : ((0 : Int) : Int) = (0 : Int))
    let t15 : Tp pr := .i (rfl : ((0 : Int) : Int) = (0 : Int))
    let t16 : Tp pr := .i (rfl : ((0 : Int) : Int) = (0 : Int))
    let t17 : Tp pr := .i (rfl : ((0 : Int) : Int) = (0 : Int))
    let t19 : Tp pr := .i (rfl : ((0 : Int) : Int) = (0 : Int))
    let t20 : Tp pr := .i (rfl : ((0 : Int) : Int) = (0 : Int))
    let t21 : Tp pr := .i (rfl : ((2 : Int) : Int) = (2 : Int))
    exact .tp [t0, .m (rfl : true = true), t2, t3, .m (rfl : true = true), t5, t6, t7, .m (rfl : true = true), t9, t10, t11, .m (rfl : true = true), t13, t14, t15, t16, t17, .m (rfl : true = true), t19, t20, t21] (by kernel_rfl))
  | 3, _ => by (
    let t0 : Tp pr := .i (rfl : ((1 : Int) : Int) = (1 : Int))
    let t2 : Tp pr := .i (rfl : ((0 : Int) : Int) = (0 : Int))
    let t3 : Tp pr := .i (rfl : ((3 : Int) : Int) = (3 : Int))
    let t5 : Tp pr := .i (rfl : ((0 : Int) : Int) = (0 : Int))
    let t6 : Tp pr := .i (rfl : ((3 : Int) : Int) = (3 : Int))
    let t7 : Tp pr := .i (rfl : ((0 : Int) : Int) = (0 : Int))
    let t9 : Tp pr := .i (rfl : ((0 : Int) : Int) = (0 : Int))
    let t10 : Tp pr := .i (rfl : ((0 : Int) : Int) = (0 : Int))
    let t11 : Tp pr := .i (rfl : ((0 : Int) : Int) = (0 : Int))
    let t13 : Tp pr := .i (rfl : ((0 : Int) : Int) = (0 : Int))
    let t14 : Tp pr := .i (rfl : ((0 : Int) : Int) = (0 : Int))
    let t15 : Tp pr := .i (rfl : ((0 : Int) : Int) = (0 : Int))
    let t16 : Tp pr := .i (rfl : ((0 : Int) : Int) = (0 : Int))
    let t17 : Tp pr := .i (rfl : ((0 : Int) : Int) = (0 : Int))
    let t19 : Tp pr := .i (rfl : ((0 : Int) : Int) = (0 : Int))
    let t20 : Tp pr := .i (rfl : ((0 : Int) : Int) = (0 : Int))
    let t21 : Tp pr := .i (rfl : ((3 : Int) : Int) = (3 : Int))
    exact .tp [t0, .m (rfl : true = true), t2, t3, .m (rfl : true = true), t5, t6, t7, .m (rfl : true = true), t9, t10, t11, .m (rfl : true = true), t13, t14, t15, t16, t17, .m (rfl : true = true), t19, t20, t21] (by kernel_rfl))
  | 4, _ => by (
    let t0 : Tp pr := .i (rfl : ((1 : Int) : Int) = (1 : Int))
    let t2 : Tp pr := .i (rfl : ((0 : Int) : Int) = (0 : Int))
    let t3 : Tp pr := .i (rfl : ((4 : Int) : Int) = (4 : Int))
    let t5 : Tp pr := .i (rfl : ((0 : Int) : Int) = (0 : Int))
    let t6 : Tp pr := .i (rfl : ((4 : Int) : Int) = (4 : Int))
    let t7 : Tp pr := .i (rfl : ((0 : Int) : Int) = (0 : Int))
    let t9 : Tp pr := .i (rfl : ((0 : Int) : Int) = (0 : Int))
    let t10 : Tp pr := .i (rfl : ((0 : Int) : Int) = (0 : Int))
    let t11 : Tp pr := .i (rfl : ((0 : Int) : Int) = (0 : Int))
    let t13 : Tp pr := .i (rfl : ((0 : Int) : Int) = (0 : Int))
    let t14 : Tp pr := .i (rfl : ((0 : Int) : Int) = (0 : Int))
    let t15 : Tp pr := .i (rfl : ((0 : Int) : Int) = (0 : Int))
    let t16 : Tp pr := .i (rfl : ((0 : Int) : Int) = (0 : Int))
    let t17 : Tp pr := .i (rfl : ((0 : Int) : Int) = (0 : Int))
    let t19 : Tp pr := .i (rfl : ((0 : Int) : Int) = (0 : Int))
    let t20 : Tp pr := .i (rfl : ((0 : Int) : Int) = (0 : Int))
    let t21 : Tp pr := .i (rfl : ((4 : Int) : Int) = (4 : Int))
    exact .tp [t0, .m (rfl : true = true), t2, t3, .m (rfl : true = true), t5, t6, t7, .m (rfl : true = true), t9, t10, t11, .m (rfl : true = true), t13, t14, t15, t16, t17, .m (rfl : true = true), t19, t20, t21] (by kernel_rfl))
  | 5, _ => by (
    let t0 : Tp pr := .i (rfl : ((1 : Int) : Int) = (1 : Int))
    let t2 : Tp pr := .i (rfl : ((0 : Int) : Int) = (0 : Int))
    let t3 : Tp pr := .i (rfl : ((5 : Int) : Int) = (5 : Int))
    let t5 : Tp pr := .i (rfl : ((0 : Int) : Int) = (0 : Int))
    let t6 : Tp pr := .i (rfl : ((5 : Int) : Int) = (5 : Int))
    let t7 : Tp pr := .i (rfl : ((0 : Int) : Int) = (0 : Int))
    let t9 : Tp pr := .i (rfl : ((0 : Int) : Int) = (0 : Int))
    let t10 : Tp pr := .i (rfl : ((0 : Int) : Int) = (0 : Int))
    let t11 : Tp pr := .i (rfl : ((0 : Int) : Int) = (0 : Int))
    let t13 : Tp pr := .i (rfl : ((0 : Int) : Int) = (0 : Int))
    let t14 : Tp pr := .i (rfl : ((0 : Int) : Int) = (0 : Int))
    let t15 : Tp pr := .i (rfl : ((0 : Int) : Int) = (0 : Int))
    let t16 : Tp pr := .i (rfl : ((0 : Int) : Int) = (0 : Int))
    let t17 : Tp pr := .i (rfl : ((0 : Int) : Int) = (0 : Int))
    let t19 : Tp pr := .i (rfl : ((0 : Int) : Int) = (0 : Int))
    let t20 : Tp pr := .i (rfl : ((0 : Int) : Int) = (0 : Int))
    let t21 : Tp pr := .i (rfl : ((5 : Int) : Int) = (5 : Int))
    exact .tp [t0, .m (rfl : true = true), t2, t3, .m (rfl : true = true), t5, t6, t7, .m (rfl : true = true), t9, t10, t11, .m (rfl : true = true), t13, t14, t15, t16, t17, .m (rfl : true = true), t19, t20, t21] (by kernel_rfl))
  | 6, _ => by (
    let t0 : Tp pr := .i (rfl : ((1 : Int) : Int) = (1 : Int))
    let t2 : Tp pr := .i (rfl : ((0 : Int) : Int) = (0 : Int))
    let t3 : Tp pr := .i (rfl : ((6 : Int) : Int) = (6 : Int))
    let t5 : Tp pr := .i (rfl : ((0 : Int) : Int) = (0 : Int))
    let t6 : Tp pr := .i (rfl : ((6 : Int) : Int) = (6 : Int))
    let t7 : Tp pr := .i (rfl : ((0 : Int) : Int) = (0 : Int))
    let t9 : Tp pr := .i (rfl : ((0 : Int) : Int) = (0 : Int))
    let t10 : Tp pr := .i (rfl : ((0 : Int) : Int) = (0 : Int))
    let t11 : Tp pr := .i (rfl : ((0 : Int) : Int) = (0 : Int))
    let t13 : Tp pr := .i (rfl : ((0 : Int) : Int) = (0 : Int))
    let t14 : Tp pr := .i (rfl : ((0 : Int) : Int) = (0 : Int))
    let t15 : Tp pr := .i (rfl : ((0 : Int) : Int) = (0 : Int))
    let t16 : Tp pr := .i (rfl : ((0 : Int) : Int) = (0 : Int))
    let t17 : Tp pr := .i (rfl : ((0 : Int) : Int) = (0 : Int))
    let t19 : Tp pr := .i (rfl : ((0 : Int) : Int) = (0 : Int))
    let t20 : Tp pr := .i (rfl : ((0 : Int) : Int) = (0 : Int))
    let t21 : Tp pr := .i (rfl : ((6 : Int) : Int) = (6 : Int))
    exact .tp [t0, .m (rfl : true = true), t2, t3, .m (rfl : true = true), t5, t6, t7, .m (rfl : true = true), t9, t10, t11, .m (rfl : true = true), t13, t14, t15, t16, t17, .m (rfl : true = true), t19, t20, t21] (by kernel_rfl))
  | 7, _ => by (
    let t0 : Tp pr := .i (rfl : ((1 : Int) : Int) = (1 : Int))
    let t2 : Tp pr := .i (rfl : ((0 : Int) : Int) = (0 : Int))
    let t3 : Tp pr := .i (rfl : ((7 : Int) : Int) = (7 : Int))
    let t5 : Tp pr := .i (rfl : ((0 : Int) : Int) = (0 : Int))
    let t6 : Tp pr := .i (rfl : ((7 : Int) : Int) = (7 : Int))
    let t7 : Tp pr := .i (rfl : ((0 : Int) : Int) = (0 : Int))
    let t9 : Tp pr := .i (rfl : ((0 : Int) : Int) = (0 : Int))
    let t10 : Tp pr := .i (rfl : ((0 : Int) : Int) = (0 : Int))
    let t11 : Tp pr := .i (rfl : ((0 : Int) : Int) = (0 : Int))
    let t13 : Tp pr := .i (rfl : ((0 : Int) : Int) = (0 : Int))
    let t14 : Tp pr := .i (rfl : ((0 : Int) : Int) = (0 : Int))
    let t15 : Tp pr := .i (rfl : ((0 : Int) : Int) = (0 : Int))
    let t16 : Tp pr := .i (rfl : ((0 : Int) : Int) = (0 : Int))
    let t17 : Tp pr := .i (rfl : ((0 : Int) : Int) = (0 : Int))
    let t19 : Tp pr := .i (rfl : ((0 : Int) : Int) = (0 : Int))
    let t20 : Tp pr := .i (rfl : ((0 : Int) : Int) = (0 : Int))
    let t21 : Tp pr := .i (rfl : ((7 : Int) : Int) = (7 : Int))
    exact .tp [t0, .m (rfl : true = true), t2, t3, .m (rfl : true = true), t5, t6, t7, .m (rfl : true = true), t9, t10, t11, .m (rfl : true = true), t13, t14, t15, t16, t17, .m (rfl : true = true), t19, t20, t21] (by kernel_rfl))
  | 8, _ => by (
    let t0 : Tp pr := .i (rfl : ((1 : Int) : Int) = (1 : Int))
    let t2 : Tp pr := .i (rfl : ((0 : Int) : Int) = (0 : Int))
    let t3 : Tp pr := .i (rfl : ((8 : Int) : Int) = (8 : Int))
    let t5 : Tp pr := .i (rfl : ((0 : Int) : Int) = (0 : Int))
    let t6 : Tp pr := .i (rfl : ((8 : Int) : Int) = (8 : Int))
    let t7 : Tp pr := .i (rfl : ((0 : Int) : Int) = (0 : Int))
    let t9 : Tp pr := .i (rfl : ((0 : Int) : Int) = (0 : Int))
    let t10 : Tp pr := .i (rfl : ((0 : Int) : Int) = (0 : Int))
    let t11 : Tp pr := .i (rfl : ((0 : Int) : Int) = (0 : Int))
    let t13 : Tp pr := .i (rfl : ((0 : Int) : Int) = (0 : Int))
    let t14 : Tp pr := .i (rfl : ((0 : Int) : Int) = (0 : Int))
    let t15 : Tp pr := .i (rfl : ((0 : Int) : Int) = (0 : Int))
    let t16 : Tp pr := .i (rfl : ((0 : Int) : Int) = (0 : Int))
    let t17 : Tp pr := .i (rfl : ((0 : Int) : Int) = (0 : Int))
    let t19 : Tp pr := .i (rfl : ((0 : Int) : Int) = (0 : Int))
    let t20 : Tp pr := .i (rfl : ((0 : Int) : Int) = (0 : Int))
    let t21 : Tp pr := .i (rfl : ((8 : Int) : Int) = (8 : Int))
    exact .tp [t0, .m (rfl : true = true), t2, t3, .m (rfl : true = true), t5, t6, t7, .m (rfl : true = true), t9, t10, t11, .m (rfl : true = true), t13, t14, t15, t16, t17, .m (rfl : true = true), t19, t20, t21] (by kernel_rfl))
  | 9, _ => by (
    let t0 : Tp pr := .i (rfl : ((1 : Int) : Int) = (1 : Int))
    let t2 : Tp pr := .i (rfl : ((0 : Int) : Int) = (0 : Int))
    let t3 : Tp pr := .i (rfl : ((9 : Int) : Int) = (9 : Int))
    let t5 : Tp pr := .i (rfl : ((0 : Int) : Int) = (0 : Int))
    let t6 : Tp pr := .i (rfl : ((9 : Int) : Int) = (9 : Int))
    let t7 : Tp pr := .i (rfl : ((0 : Int) : Int) = (0 : Int))
    let t9 : Tp pr := .i (rfl : ((0 : Int) : Int) = (0 : Int))
    let t10 : Tp pr := .i (rfl : ((0 : Int) : Int) = (0 : Int))
    let t11 : Tp pr := .i (rfl : ((0 : Int) : Int) = (0 : Int))
    let t13 : Tp pr := .i (rfl : ((0 : Int) : Int) = (0 : Int))
    let t14 : Tp pr := .i (rfl : ((0 : Int) : Int) = (0 : Int))
    let t15 : Tp pr := .i (rfl : ((0 : Int) : Int) = (0 : Int))
    let t16 : Tp pr := .i (rfl : ((0 : Int) : Int) = (0 : Int))
    let t17 : Tp pr := .i (rfl : ((0 : Int) : Int) = (0 : Int))
    let t19 : Tp pr := .i (rfl : ((0 : Int) : Int) = (0 : Int))
    let t20 : Tp pr := .i (rfl : ((0 : Int) : Int) = (0 : Int))
    let t21 : Tp pr := .i (rfl : ((9 : Int) : Int) = (9 : Int))
    exact .tp [t0, .m (rfl : true = true), t2, t3, .m (rfl : true = true), t5, t6, t7, .m (rfl : true = true), t9, t10, t11, .m (rfl : true = true), t13, t14, t15, t16, t17, .m (rfl : true = true), t19, t20, t21] (by kernel_rfl))
  | 10, _ => by (
    let t0 : Tp pr := .i (rfl : ((1 : Int) : Int) = (1 : Int))
    let t2 : Tp pr := .i (rfl : ((0 : Int) : Int) = (0 : Int))
    let t3 : Tp pr := .i (rfl : ((10 : Int) : Int) = (10 : Int))
    let t5 : Tp pr := .i (rfl : ((0 : Int) : Int) = (0 : Int))
    let t6 : Tp pr := .i (rfl : ((10 : Int) : Int) = (10 : Int))
    let t7 : Tp pr := .i (rfl : ((0 : Int) : Int) = (0 : Int))
    let t9 : Tp pr := .i (rfl : ((0 : Int) : Int) = (0 : Int))
    let t10 : Tp pr := .i (rfl : ((0 : Int) : Int) = (0 : Int))
    let t11 : Tp pr := .i (rfl : ((0 : Int) : Int) = (0 : Int))
    let t13 : Tp pr := .i (rfl : ((0 : Int) : Int) = (0 : Int))
    let t14 : Tp pr := .i (rfl : ((0 : Int) : Int) = (0 : Int))
    let t15 : Tp pr := .i (rfl : ((0 : Int) : Int) = (0 : Int))
    let t16 : Tp pr := .i (rfl : ((0 : Int) : Int) = (0 : Int))
    let t17 : Tp pr := .i (rfl : ((0 : Int) : Int) = (0 : Int))
    let t19 : Tp pr := .i (rfl : ((0 : Int) : Int) = (0 : Int))
    let t20 : Tp pr := .i (rfl : ((0 : Int) : Int) = (0 : Int))
    let t21 : Tp pr := .i (rfl : ((10 : Int) : Int) = (10 : Int))
    exact .tp [t0, .m (rfl : true = true), t2, t3, .m (rfl : true = true), t5, t6, t7, .m (rfl : true = true), t9, t10, t11, .m (rfl : true = true), t13, t14, t15, t16, t17, .m (rfl : true = true), t19, t20, t21] (by kernel_rfl))
  | 11, _ => by (
    let t0 : Tp pr := .i (rfl : ((1 : Int) : Int) = (1 : Int))
    let t2 : Tp pr := .i (rfl : ((0 : Int) : Int) = (0 : Int))
    let t3 : Tp pr := .i (rfl : ((11 : Int) : Int) = (11 : Int))
    let t5 : Tp pr := .i (rfl : ((0 : Int) : Int) = (0 : Int))
    let t6 : Tp pr := .i (rfl : ((11 : Int) : Int) = (11 : Int))
    let t7 : Tp pr := .i (rfl : ((0 : Int) : Int) = (0 : Int))
    let t9 : Tp pr := .i (rfl : ((0 : Int) : Int) = (0 : Int))
    let t10 : Tp pr := .i (rfl : ((0 : Int) : Int) = (0 : Int))
    let t11 : Tp pr := .i (rfl : ((0 : Int) : Int) = (0 : Int))
    let t13 : Tp pr := .i (rfl : ((0 : Int) : Int) = (0 : Int))
    let t14 : Tp pr := .i (rfl : ((0 : Int) : Int) = (0 : Int))
    let t15 : Tp pr := .i (rfl : ((0 : Int) : Int) = (0 : Int))
    let t16 : Tp pr := .i (rfl : ((0 : Int) : Int) = (0 : Int))
    let t17 : Tp pr := .i (rfl : ((0 : Int) : Int) = (0 : Int))
    let t19 : Tp pr := .i (rfl : ((0 : Int) : Int) = (0 : Int))
    let t20 : Tp pr := .i (rfl : ((0 : Int) : Int) = (0 : Int))
    let t21 : Tp pr := .i (rfl : ((11 : Int) : Int) = (11 : Int))
    exact .tp [t0, .m (rfl : true = true), t2, t3, .m (rfl : true = true), t5, t6, t7, .m (rfl : true = true), t9, t10, t11, .m (rfl : true = true), t13, t14, t15, t16, t17, .m (rfl : true = true), t19, t20, t21] (by kernel_rfl))
  | 12, _ => by (
    let t0 : Tp pr := .i (rfl : ((1 : Int) : Int) = (1 : Int))
    let t2 : Tp pr := .i (rfl : ((0 : Int) : Int) = (0 : Int))
    let t3 : Tp pr := .i (rfl : ((12 : Int) : Int) = (12 : Int))
    let t5 : Tp pr := .i (rfl : ((0 : Int) : Int) = (0 : Int))
    let t6 : Tp pr := .i (rfl : ((12 : Int) : Int) = (12 : Int))
    let t7 : Tp pr := .i (rfl : ((0 : Int) : Int) = (0 : Int))
    let t9 : Tp pr := .i (rfl : ((0 : Int) : Int) = (0 : Int))
    let t10 : Tp pr := .i (rfl : ((0 : Int) : Int) = (0 : Int))
    let t11 : Tp pr := .i (rfl : ((0 : Int) : Int) = (0 : Int))
    let t13 : Tp pr := .i (rfl : ((0 : Int) : Int) = (0 : Int))
    let t14 : Tp pr := .i (rfl : ((0 : Int) : Int) = (0 : Int))
    let t15 : Tp pr := .i (rfl : ((0 : Int) : Int) = (0 : Int))
    let t16 : Tp pr := .i (rfl : ((0 : Int) : Int) = (0 : Int))
    let t17 : Tp pr := .i (rfl : ((0 : Int) : Int) = (0 : Int))
    let t19 : Tp pr := .i (rfl : ((0 : Int) : Int) = (0 : Int))
    let t20 : Tp pr := .i (rfl : ((0 : Int) : Int) = (0 : Int))
    let t21 : Tp pr := .i (rfl : ((12 : Int) : Int) = (12 : Int))
    exact .tp [t0, .m (rfl : true = true), t2, t3, .m (rfl : true = true), t5, t6, t7, .m (rfl : true = true), t9, t10, t11, .m (rfl : true = true), t13, t14, t15, t16, t17, .m (rfl : true = true), t19, t20, t21] (by kernel_rfl))
  | 13, _ => by (
    let t0 : Tp pr := .i (rfl : ((1 : Int) : Int) = (1 : Int))
    let t2 : Tp pr := .i (rfl : ((0 : Int) : Int) = (0 : Int))
    let t3 : Tp pr := .i (rfl : ((13 : Int) : Int) = (13 : Int))
    let t5 : Tp pr := .i (rfl : ((0 : Int) : Int) = (0 : Int))
    let t6 : Tp pr := .i (rfl : ((13 : Int) : Int) = (13 : Int))
    let t7 : Tp pr := .i (rfl : ((0 : Int) : Int) = (0 : Int))
    let t9 : Tp pr := .i (rfl : ((0 : Int) : Int) = (0 : Int))
    let t10 : Tp pr := .i (rfl : ((0 : Int) : Int) = (0 : Int))
    let t11 : Tp pr := .i (rfl : ((0 : Int) : Int) = (0 : Int))
    let t13 : Tp pr := .i (rfl : ((0 : Int) : Int) = (0 : Int))
    let t14 : Tp pr := .i (rfl : ((0 : Int) : Int) = (0 : Int))
    let t15 : Tp pr := .i (rfl : ((0 : Int) : Int) = (0 : Int))
    let t16 : Tp pr := .i (rfl : ((0 : Int) : Int) = (0 : Int))
    let t17 : Tp pr := .i (rfl : ((0 : Int) : Int) = (0 : Int))
    let t19 : Tp pr := .i (rfl : ((0 : Int) : Int) = (0 : Int))
    let t20 : Tp pr := .i (rfl : ((0 : Int) : Int) = (0 : Int))
    let t21 : Tp pr := .i (rfl : ((13 : Int) : Int) = (13 : Int))
    exact .tp [t0, .m (rfl : true = true), t2, t3, .m (rfl : true = true), t5, t6, t7, .m (rfl : true = true), t9, t10, t11, .m (rfl : true = true), t13, t14, t15, t16, t17, .m (rfl : true = true), t19, t20, t21] (by kernel_rfl))
  | 14, _ => by (
    let t0 : Tp pr := .i (rfl : ((1 : Int) : Int) = (1 : Int))
    let t2 : Tp pr := .i (rfl : ((0 : Int) : Int) = (0 : Int))
    let t3 : Tp pr := .i (rfl : ((14 : Int) : Int) = (14 : Int))
    let t5 : Tp pr := .i (rfl : ((0 : Int) : Int) = (0 : Int))
    let t6 : Tp pr := .i (rfl : ((14 : Int) : Int) = (14 : Int))
    let t7 : Tp pr := .i (rfl : ((0 : Int) : Int) = (0 : Int))
    let t9 : Tp pr := .i (rfl : ((0 : Int) : Int) = (0 : Int))
    let t10 : Tp pr := .i (rfl : ((0 : Int) : Int) = (0 : Int))
    let t11 : Tp pr := .i (rfl : ((0 : Int) : Int) = (0 : Int))
    let t13 : Tp pr := .i (rfl : ((0 : Int) : Int) = (0 : Int))
    let t14 : Tp pr := .i (rfl : ((0 : Int) : Int) = (0 : Int))
    let t15 : Tp pr := .i (rfl : ((0 : Int) : Int) = (0 : Int))
    let t16 : Tp pr := .i (rfl : ((0 : Int) : Int) = (0 : Int))
    let t17 : Tp pr := .i (rfl : ((0 : Int) : Int) = (0 : Int))
    let t19 : Tp pr := .i (rfl : ((0 : Int) : Int) = (0 : Int))
    let t20 : Tp pr := .i (rfl : ((0 : Int) : Int) = (0 : Int))
    let t21 : Tp pr := .i (rfl : ((14 : Int) : Int) = (14 : Int))
    exact .tp [t0, .m (rfl : true = true), t2, t3, .m (rfl : true = true), t5, t6, t7, .m (rfl : true = true), t9, t10, t11, .m (rfl : true = true), t13, t14, t15, t16, t17, .m (rfl : true = true), t19, t20, t21] (by kernel_rfl))
  | 15, _ => by (
    let t0 : Tp pr := .i (rfl : ((1 : Int) : Int) = (1 : Int))
    let t2 : Tp pr := .i (rfl : ((0 : Int) : Int) = (0 : Int))
    let t3 : Tp pr := .i (rfl : ((15 : Int) : Int) = (15 : Int))
    let t5 : Tp pr := .i (rfl : ((0 : Int) : Int) = (0 : Int))
    let t6 : Tp pr := .i (rfl : ((15 : Int) : Int) = (15 : Int))
    let t7 : Tp pr := .i (rfl : ((0 : Int) : Int) = (0 : Int))
    let t9 : Tp pr := .i (rfl : ((0 : Int) : Int) = (0 : Int))
    let t10 : Tp pr := .i (rfl : ((0 : Int) : Int) = (0 : Int))
    let t11 : Tp pr := .i (rfl : ((0 : Int) : Int) = (0 : Int))
    let t13 : Tp pr := .i (rfl : ((0 : Int) : Int) = (0 : Int))
    let t14 : Tp pr := .i (rfl : ((0 : Int) : Int) = (0 : Int))
    let t15 : Tp pr := .i (rfl : ((0 : Int) : Int) = (0 : Int))
    let t16 : Tp pr := .i (rfl : ((0 : Int) : Int) = (0 : Int))
    let t17 : Tp pr := .i (rfl : ((0 : Int) : Int) = (0 : Int))
    let t19 : Tp pr := .i (rfl : ((0 : Int) : Int) = (0 : Int))
    let t20 : Tp pr := .i (rfl : ((0 : Int) : Int) = (0 : Int))
    let t21 : Tp pr := .i (rfl : ((15 : Int) : Int) = (15 : Int))
    exact .tp [t0, .m (rfl : true = true), t2, t3, .m (rfl : true = true), t5, t6, t7, .m (rfl : true = true), t9, t10, t11, .m (rfl : true = true), t13, t14, t15, t16, t17, .m (rfl : true = true), t19, t20, t21] (by kernel_rfl))
  | 16, _ => by (
    let t0 : Tp pr := .i (rfl : ((1 : Int) : Int) = (1 : Int))
    let t2 : Tp pr := .i (rfl : ((0 : Int) : Int) = (0 : Int))
    let t3 : Tp pr := .i (rfl : ((16 : Int) : Int) = (16 : Int))
    let t5 : Tp pr := .i (rfl : ((0 : Int) : Int) = (0 : Int))
    let t6 : Tp pr := .i (rfl : ((16 : Int) : Int) = (16 : Int))
    let t7 : Tp pr := .i (rfl : ((0 : Int) : Int) = (0 : Int))
    let t9 : Tp pr := .i (rfl : ((0 : Int) : Int) = (0 : Int))
    let t10 : Tp pr := .i (rfl : ((0 : Int) : Int) = (0 : Int))
    let t11 : Tp pr := .i (rfl : ((0 : Int) : Int) = (0 : Int))
    let t13 : Tp pr := .i (rfl : ((0 : Int) : Int) = (0 : Int))
    let t14 : Tp pr := .i (rfl : ((0 : Int) : Int) = (0 : Int))
    let t15 : Tp pr := .i (rfl : ((0 : Int) : Int) = (0 : Int))
    let t16 : Tp pr := .i (rfl : ((0 : Int) : Int) = (0 : Int))
    let t17 : Tp pr := .i (rfl : ((0 : Int) : Int) = (0 : Int))
    let t19 : Tp pr := .i (rfl : ((0 : Int) : Int) = (0 : Int))
    let t20 : Tp pr := .i (rfl : ((0 : Int) : Int) = (0 : Int))
    let t21 : Tp pr := .i (rfl : ((16 : Int) : Int) = (16 : Int))
    exact .tp [t0, .m (rfl : true = true), t2, t3, .m (rfl : true = true), t5, t6, t7, .m (rfl : true = true), t9, t10, t11, .m (rfl : true = true), t13, t14, t15, t16, t17, .m (rfl : true = true), t19, t20, t21] (by kernel_rfl))
  | 17, _ => by (
    let t0 : Tp pr := .i (rfl : ((1 : Int) : Int) = (1 : Int))
    let t2 : Tp pr := .i (rfl : ((0 : Int) : Int) = (0 : Int))
    let t3 : Tp pr := .i (rfl : ((17 : Int) : Int) = (17 : Int))
    let t5 : Tp pr := .i (rfl : ((0 : Int) : Int) = (0 : Int))
    let t6 : Tp pr := .i (rfl : ((17 : Int) : Int) = (17 : Int))
    let t7 : Tp pr := .i (rfl : ((0 : Int) : Int) = (0 : Int))
    let t9 : Tp pr := .i (rfl : ((0 : Int) : Int) = (0 : Int))
    let t10 : Tp pr := .i (rfl : ((0 : Int) : Int) = (0 : Int))
    let t11 : Tp pr := .i (rfl : ((0 : Int) : Int) = (0 : Int))
    let t13 : Tp pr := .i (rfl : ((0 : Int) : Int) = (0 : Int))
    let t14 : Tp pr := .i (rfl : ((0 : Int) : Int) = (0 : Int))
    let t15 : Tp pr := .i (rfl : ((0 : Int) : Int) = (0 : Int))
    let t16 : Tp pr := .i (rfl : ((0 : Int) : Int) = (0 : Int))
    let t17 : Tp pr := .i (rfl : ((0 : Int) : Int) = (0 : Int))
    let t19 : Tp pr := .i (rfl : ((0 : Int) : Int) = (0 : Int))
    let t20 : Tp pr := .i (rfl : ((0 : Int) : Int) = (0 : Int))
    let t21 : Tp pr := .i (rfl : ((17 : Int) : Int) = (17 : Int))
    exact .tp [t0, .m (rfl : true = true), t2, t3, .m (rfl : true = true), t5, t6, t7, .m (rfl : true = true), t9, t10, t11, .m (rfl : true = true), t13, t14, t15, t16, t17, .m (rfl : true = true), t19, t20, t21] (by kernel_rfl))
  | 18, _ => by (
    let t0 : Tp pr := .i (rfl : ((1 : Int) : Int) = (1 : Int))
    let t2 : Tp pr := .i (rfl : ((0 : Int) : Int) = (0 : Int))
    let t3 : Tp pr := .i (rfl : ((18 : Int) : Int) = (18 : Int))
    let t5 : Tp pr := .i (rfl : ((0 : Int) : Int) = (0 : Int))
    let t6 : Tp pr := .i (rfl : ((18 : Int) : Int) = (18 : Int))
    let t7 : Tp pr := .i (rfl : ((0 : Int) : Int) = (0 : Int))
    let t9 : Tp pr := .i (rfl : ((0 : Int) : Int) = (0 : Int))
    let t10 : Tp pr := .i (rfl : ((0 : Int) : Int) = (0 : Int))
    let t11 : Tp pr := .i (rfl : ((0 : Int) : Int) = (0 : Int))
    let t13 : Tp pr := .i (rfl : ((0 : Int) : Int) = (0 : Int))
    let t14 : Tp pr := .i (rfl : ((0 : Int) : Int) = (0 : Int))
    let t15 : Tp pr := .i (rfl : ((0 : Int) : Int) = (0 : Int))
    let t16 : Tp pr := .i (rfl : ((0 : Int) : Int) = (0 : Int))
    let t17 : Tp pr := .i (rfl : ((0 : Int) : Int) = (0 : Int))
    let t19 : Tp pr := .i (rfl : ((0 : Int) : Int) = (0 : Int))
    let t20 : Tp pr := .i (rfl : ((0 : Int) : Int) = (0 : Int))
    let t21 : Tp pr := .i (rfl : ((18 : Int) : Int) = (18 : Int))
    exact .tp [t0, .m (rfl : true = true), t2, t3, .m (rfl : true = true), t5, t6, t7, .m (rfl : true = true), t9, t10, t11, .m (rfl : true = true), t13, t14, t15, t16, t17, .m (rfl : true = true), t19, t20, t21] (by kernel_rfl))
  | 19, _ => by (
    let t0 : Tp pr := .i (rfl : ((1 : Int) : Int) = (1 : Int))
    let t2 : Tp pr := .i (rfl : ((0 : Int) : Int) = (0 : Int))
    let t3 : Tp pr := .i (rfl : ((19 : Int) : Int) = (19 : Int))
    let t5 : Tp pr := .i (rfl : ((0 : Int) : Int) = (0 : Int))
    let t6 : Tp pr := .i (rfl : ((19 : Int) : Int) = (19 : Int))
    let t7 : Tp pr := .i (rfl : ((0 : Int) : Int) = (0 : Int))
    let t9 : Tp pr := .i (rfl : ((0 : Int) : Int) = (0 : Int))
    let t10 : Tp pr := .i (rfl : ((0 : Int) : Int) = (0 : Int))
    let t11 : Tp pr := .i (rfl : ((0 : Int) : Int) = (0 : Int))
    let t13 : Tp pr := .i (rfl : ((0 : Int) : Int) = (0 : Int))
    let t14 : Tp pr := .i (rfl : ((0 : Int) : Int) = (0 : Int))
    let t15 : Tp pr := .i (rfl : ((0 : Int) : Int) = (0 : Int))
    let t16 : Tp pr := .i (rfl : ((0 : Int) : Int) = (0 : Int))
    let t17 : Tp pr := .i (rfl : ((0 : Int) : Int) = (0 : Int))
    let t19 : Tp pr := .i (rfl : ((0 : Int) : Int) = (0 : Int))
    let t20 : Tp pr := .i (rfl : ((0 : Int) : Int) = (0 : Int))
    let t21 : Tp pr := .i (rfl : ((19 : Int) : Int) = (19 : Int))
    exact .tp [t0, .m (rfl : true = true), t2, t3, .m (rfl : true = true), t5, t6, t7, .m (rfl : true = true), t9, t10, t11, .m (rfl : true = true), t13, t14, t15, t16, t17, .m (rfl : true = true), t19, t20, t21] (by kernel_rfl))
  | 20, _ => by (
    let t0 : Tp pr := .i (rfl : ((1 : Int) : Int) = (1 : Int))
    let t2 : Tp pr := .i (rfl : ((0 : Int) : Int) = (0 : Int))
    let t3 : Tp pr := .i (rfl : ((20 : Int) : Int) = (20 : Int))
    let t5 : Tp pr := .i (rfl : ((0 : Int) : Int) = (0 : Int))
    let t6 : Tp pr := .i (rfl : ((20 : Int) : Int) = (20 : Int))
    let t7 : Tp pr := .i (rfl : ((0 : Int) : Int) = (0 : Int))
    let t9 : Tp pr := .i (rfl : ((0 : Int) : Int) = (0 : Int))
    let t10 : Tp pr := .i (rfl : ((0 : Int) : Int) = (0 : Int))
    let t11 : Tp pr := .i (rfl : ((0 : Int) : Int) = (0 : Int))
    let t13 : Tp pr := .i (rfl : ((0 : Int) : Int) = (0 : Int))
    let t14 : Tp pr := .i (rfl : ((0 : Int) : Int) = (0 : Int))
    let t15 : Tp pr := .i (rfl : ((0 : Int) : Int) = (0 : Int))
    let t16 : Tp pr := .i (rfl : ((0 : Int) : Int) = (0 : Int))
    let t17 : Tp pr := .i (rfl : ((0 : Int) : Int) = (0 : Int))
    let t19 : Tp pr := .i (rfl : ((0 : Int) : Int) = (0 : Int))
    let t20 : Tp pr := .i (rfl : ((0 : Int) : Int) = (0 : Int))
    let t21 : Tp pr := .i (rfl : ((20 : Int) : Int) = (20 : Int))
    exact .tp [t0, .m (rfl : true = true), t2, t3, .m (rfl : true = true), t5, t6, t7, .m (rfl : true = true), t9, t10, t11, .m (rfl : true = true), t13, t14, t15, t16, t17, .m (rfl : true = true), t19, t20, t21] (by kernel_rfl))
  | 21, _ => by (
    let t0 : Tp pr := .i (rfl : ((1 : Int) : Int) = (1 : Int))
    let t2 : Tp pr := .i (rfl : ((0 : Int) : Int) = (0 : Int))
    let t3 : Tp pr := .i (rfl : ((21 : Int) : Int) = (21 : Int))
    let t5 : Tp pr := .i (rfl : ((0 : Int) : Int) = (0 : Int))
    let t6 : Tp pr := .i (rfl : ((21 : Int) : Int) = (21 : Int))
    let t7 : Tp pr := .i (rfl : ((0 : Int) : Int) = (0 : Int))
    let t9 : Tp pr := .i (rfl : ((0 : Int) : Int) = (0 : Int))
    let t10 : Tp pr := .i (rfl : ((0 : Int) : Int) = (0 : Int))
    let t11 : Tp pr := .i (rfl : ((0 : Int) : Int) = (0 : Int))
    let t13 : Tp pr := .i (rfl : ((0 : Int) : Int) = (0 : Int))
    let t14 : Tp pr := .i (rfl : ((0 : Int) : Int) = (0 : Int))
    let t15 : Tp pr := .i (rfl : ((0 : Int) : Int) = (0 : Int))
    let t16 : Tp pr := .i (rfl : ((0 : Int) : Int) = (0 : Int))
    let t17 : Tp pr := .i (rfl : ((0 : Int) : Int) = (0 : Int))
    let t19 : Tp pr := .i (rfl : ((0 : Int) : Int) = (0 : Int))
    let t20 : Tp pr := .i (rfl : ((0 : Int) : Int) = (0 : Int))
    let t21 : Tp pr := .i (rfl : ((21 : Int) : Int) = (21 : Int))
    exact .tp [t0, .m (rfl : true = true), t2, t3, .m (rfl : true = true), t5, t6, t7, .m (rfl : true = true), t9, t10, t11, .m (rfl : true = true), t13, t14, t15, t16, t17, .m (rfl : true = true), t19, t20, t21] (by kernel_rfl))
  | 22, _ => by (
    let t0 : Tp pr := .i (rfl : ((1 : Int) : Int) = (1 : Int))
    let t2 : Tp pr := .i (rfl : ((0 : Int) : Int) = (0 : Int))
    let t3 : Tp pr := .i (rfl : ((22 : Int) : Int) = (22 : Int))
    let t5 : Tp pr := .i (rfl : ((0 : Int) : Int) = (0 : Int))
    let t6 : Tp pr := .i (rfl : ((22 : Int) : Int) = (22 : Int))
    let t7 : Tp pr := .i (rfl : ((0 : Int) : Int) = (0 : Int))
    let t9 : Tp pr := .i (rfl : ((0 : Int) : Int) = (0 : Int))
    let t10 : Tp pr := .i (rfl : ((0 : Int) : Int) = (0 : Int))
    let t11 : Tp pr := .i (rfl : ((0 : Int) : Int) = (0 : Int))
    let t13 : Tp pr := .i (rfl : ((0 : Int) : Int) = (0 : Int))
    let t14 : Tp pr := .i (rfl : ((0 : Int) : Int) = (0 : Int))
    let t15 : Tp pr := .i (rfl : ((0 : Int) : Int) = (0 : Int))
    let t16 : Tp pr := .i (rfl : ((0 : Int) : Int) = (0 : Int))
    let t17 : Tp pr := .i (rfl : ((0 : Int) : Int) = (0 : Int))
    let t19 : Tp pr := .i (rfl : ((0 : Int) : Int) = (0 : Int))
    let t20 : Tp pr := .i (rfl : ((0 : Int) : Int) = (0 : Int))
    let t21 : Tp pr := .i (rfl : ((22 : Int) : Int) = (22 : Int))
    exact .tp [t0, .m (rfl : true = true), t2, t3, .m (rfl : true = true), t5, t6, t7, .m (rfl : true = true), t9, t10, t11, .m (rfl : true = true), t13, t14, t15, t16, t17, .m (rfl : true = true), t19, t20, t21] (by kernel_rfl))
  | 23, _ => by (
    let t0 : Tp pr := .i (rfl : ((1 : Int) : Int) = (1 : Int))
    let t2 : Tp pr := .i (rfl : ((0 : Int) : Int) = (0 : Int))
    let t3 : Tp pr := .i (rfl : ((23 : Int) : Int) = (23 : Int))
    let t5 : Tp pr := .i (rfl : ((0 : Int) : Int) = (0 : Int))
    let t6 : Tp pr := .i (rfl : ((23 : Int) : Int) = (23 : Int))
    let t7 : Tp pr := .i (rfl : ((0 : Int) : Int) = (0 : Int))
    let t9 : Tp pr := .i (rfl : ((0 : Int) : Int) = (0 : Int))
    let t10 : Tp pr := .i (rfl : ((0 : Int) : Int) = (0 : Int))
    let t11 : Tp pr := .i (rfl : ((0 : Int) : Int) = (0 : Int))
    let t13 : Tp pr := .i (rfl : ((0 : Int) : Int) = (0 : Int))
    let t14 : Tp pr := .i (rfl : ((0 : Int) : Int) = (0 : Int))
    let t15 : Tp pr := .i (rfl : ((0 : Int) : Int) = (0 : Int))
    let t16 : Tp pr := .i (rfl : ((0 : Int) : Int) = (0 : Int))
    let t17 : Tp pr := .i (rfl : ((0 : Int) : Int) = (0 : Int))
    let t19 : Tp pr := .i (rfl : ((0 : Int) : Int) = (0 : Int))
    let t20 : Tp pr := .i (rfl : ((0 : Int) : Int) = (0 : Int))
    let t21 : Tp pr := .i (rfl : ((23 : Int) : Int) = (23 : Int))
    exact .tp [t0, .m (rfl : true = true), t2, t3, .m (rfl : true = true), t5, t6, t7, .m (rfl : true = true), t9, t10, t11, .m (rfl : true = true), t13, t14, t15, t16, t17, .m (rfl : true = true), t19, t20, t21] (by kernel_rfl))
  | 24, _ => by (
    let t0 : Tp pr := .i (rfl : ((1 : Int) : Int) = (1 : Int))
    let t2 : Tp pr := .i (rfl : ((0 : Int) : Int) = (0 : Int))
    let t3 : Tp pr := .i (rfl : ((24 : Int) : Int) = (24 : Int))
    let t5 : Tp pr := .i (rfl : ((0 : Int) : Int) = (0 : Int))
    let t6 : Tp pr := .i (rfl : ((24 : Int) : Int) = (24 : Int))
    let t7 : Tp pr := .i (rfl : ((0 : Int) : Int) = (0 : Int))
    let t9 : Tp pr := .i (rfl : ((0 : Int) : Int) = (0 : Int))
    let t10 : Tp pr := .i (rfl : ((0 : Int) : Int) = (0 : Int))
    let t11 : Tp pr := .i (rfl : ((0 : Int) : Int) = (0 : Int))
    let t13 : Tp pr := .i (rfl : ((0 : Int) : Int) = (0 : Int))
    let t14 : Tp pr := .i (rfl : ((0 : Int) : Int) = (0 : Int))
    let t15 : Tp pr := .i (rfl : ((0 : Int) : Int) = (0 : Int))
    let t16 : Tp pr := .i (rfl : ((0 : Int) : Int) = (0 : Int))
    let t17 : Tp pr := .i (rfl : ((0 : Int) : Int) = (0 : Int))
    let t19 : Tp pr := .i (rfl : ((0 : Int) : Int) = (0 : Int))
    let t20 : Tp pr := .i (rfl : ((0 : Int) : Int) = (0 : Int))
    let t21 : Tp pr := .i (rfl : ((24 : Int) : Int) = (24 : Int))
    exact .tp [t0, .m (rfl : true = true), t2, t3, .m (rfl : true = true), t5, t6, t7, .m (rfl : true = true), t9, t10, t11, .m (rfl : true = true), t13, t14, t15, t16, t17, .m (rfl : true = true), t19, t20, t21] (by kernel_rfl))
  | 25, _ => by (
    let t0 : Tp pr := .i (rfl : ((1 : Int) : Int) = (1 : Int))
    let t2 : Tp pr := .i (rfl : ((0 : Int) : Int) = (0 : Int))
    let t3 : Tp pr := .i (rfl : ((25 : Int) : Int) = (25 : Int))
    let t5 : Tp pr := .i (rfl : ((0 : Int) : Int) = (0 : Int))
    let t6 : Tp pr := .i (rfl : ((25 : Int) : Int) = (25 : Int))
    let t7 : Tp pr := .i (rfl : ((0 : Int) : Int) = (0 : Int))
    let t9 : Tp pr := .i (rfl : ((0 : Int) : Int) = (0 : Int))
    let t10 : Tp pr := .i (rfl : ((0 : Int) : Int) = (0 : Int))
    let t11 : Tp pr := .i (rfl : ((0 : Int) : Int) = (0 : Int))
    let t13 : Tp pr := .i (rfl : ((0 : Int) : Int) = (0 : Int))
    let t14 : Tp pr := .i (rfl : ((0 : Int) : Int) = (0 : Int))
    let t15 : Tp pr := .i (rfl : ((0 : Int) : Int) = (0 : Int))
    let t16 : Tp pr := .i (rfl : ((0 : Int) : Int) = (0 : Int))
    let t17 : Tp pr := .i (rfl : ((0 : Int) : Int) = (0 : Int))
    let t19 : Tp pr := .i (rfl : ((0 : Int) : Int) = (0 : Int))
    let t20 : Tp pr := .i (rfl : ((0 : Int) : Int) = (0 : Int))
    let t21 : Tp pr := .i (rfl : ((25 : Int) : Int) = (25 : Int))
    exact .tp [t0, .m (rfl : true = true), t2, t3, .m (rfl : true = true), t5, t6, t7, .m (rfl : true = true), t9, t10, t11, .m (rfl : true = true), t13, t14, t15, t16, t17, .m (rfl : true = true), t19, t20, t21] (by kernel_rfl))
  | 26, _ => by (
    let t0 : Tp pr := .i (rfl : ((1 : Int) : Int) = (1 : Int))
    let t2 : Tp pr := .i (rfl : ((0 : Int) : Int) = (0 : Int))
    let t3 : Tp pr := .i (rfl : ((26 : Int) : Int) = (26 : Int))
    let t5 : Tp pr := .i (rfl : ((0 : Int) : Int) = (0 : Int))
    let t6 : Tp pr := .i (rfl : ((26 : Int) : Int) = (26 : Int))
    let t7 : Tp pr := .i (rfl : ((0 : Int) : Int) = (0 : Int))
    let t9 : Tp pr := .i (rfl : ((0 : Int) : Int) = (0 : Int))
    let t10 : Tp pr := .i (rfl : ((0 : Int) : Int) = (0 : Int))
    let t11 : Tp pr := .i (rfl : ((0 : Int) : Int) = (0 : Int))
    let t13 : Tp pr := .i (rfl : ((0 : Int) : Int) = (0 : Int))
    let t14 : Tp pr := .i (rfl : ((0 : Int) : Int) = (0 : Int))
    let t15 : Tp pr := .i (rfl : ((0 : Int) : Int) = (0 : Int))
    let t16 : Tp pr := .i (rfl : ((0 : Int) : Int) = (0 : Int))
    let t17 : Tp pr := .i (rfl : ((0 : Int) : Int) = (0 : Int))
    let t19 : Tp pr := .i (rfl : ((0 : Int) : Int) = (0 : Int))
    let t20 : Tp pr := .i (rfl : ((0 : Int) : Int) = (0 : Int))
    let t21 : Tp pr := .i (rfl : ((26 : Int) : Int) = (26 : Int))
    exact .tp [t0, .m (rfl : true = true), t2, t3, .m (rfl : true = true), t5, t6, t7, .m (rfl : true = true), t9, t10, t11, .m (rfl : true = true), t13, t14, t15, t16, t17, .m (rfl : true = true), t19, t20, t21] (by kernel_rfl))
  | 27, _ => by (
    let t0 : Tp pr := .i (rfl : ((1 : Int) : Int) = (1 : Int))
    let t2 : Tp pr := .i (rfl : ((0 : Int) : Int) = (0 : Int))
    let t3 : Tp pr := .i (rfl : ((27 : Int) : Int) = (27 : Int))
    let t5 : Tp pr := .i (rfl : ((0 : Int) : Int) = (0 : Int))
    let t6 : Tp pr := .i (rfl : ((27 : Int) : Int) = (27 : Int))
    let t7 : Tp pr := .i (rfl : ((0 : Int) : Int) = (0 : Int))
    let t9 : Tp pr := .i (rfl : ((0 : Int) : Int) = (0 : Int))
    let t10 : Tp pr := .i (rfl : ((0 : Int) : Int) = (0 : Int))
    let t11 : Tp pr := .i (rfl : ((0 : Int) : Int) = (0 : Int))
    let t13 : Tp pr := .i (rfl : ((0 : Int) : Int) = (0 : Int))
    let t14 : Tp pr := .i (rfl : ((0 : Int) : Int) = (0 : Int))
    let t15 : Tp pr := .i (rfl : ((0 : Int) : Int) = (0 : Int))
    let t16 : Tp pr := .i (rfl : ((0 : Int) : Int) = (0 : Int))
    let t17 : Tp pr := .i (rfl : ((0 : Int) : Int) = (0 : Int))
    let t19 : Tp pr := .i (rfl : ((0 : Int) : Int) = (0 : Int))
    let t20 : Tp pr := .i (rfl : ((0 : Int) : Int) = (0 : Int))
    let t21 : Tp pr := .i (rfl : ((27 : Int) : Int) = (27 : Int))
    exact .tp [t0, .m (rfl : true = true), t2, t3, .m (rfl : true = true), t5, t6, t7, .m (rfl : true = true), t9, t10, t11, .m (rfl : true = true), t13, t14, t15, t16, t17, .m (rfl : true = true), t19, t20, t21] (by kernel_rfl))
  | 28, _ => by (
    let t0 : Tp pr := .i (rfl : ((1 : Int) : Int) = (1 : Int))
    let t2 : Tp pr := .i (rfl : ((0 : Int) : Int) = (0 : Int))
    let t3 : Tp pr := .i (rfl : ((28 : Int) : Int) = (28 : Int))
    let t5 : Tp pr := .i (rfl : ((0 : Int) : Int) = (0 : Int))
    let t6 : Tp pr := .i (rfl : ((28 : Int) : Int) = (28 : Int))
    let t7 : Tp pr := .i (rfl : ((0 : Int) : Int) = (0 : Int))
    let t9 : Tp pr := .i (rfl : ((0 : Int) : Int) = (0 : Int))
    let t10 : Tp pr := .i (rfl : ((0 : Int) : Int) = (0 : Int))
    let t11 : Tp pr := .i (rfl : ((0 : Int) : Int) = (0 : Int))
    let t13 : Tp pr := .i (rfl : ((0 : Int) : Int) = (0 : Int))
    let t14 : Tp pr := .i (rfl : ((0 : Int) : Int) = (0 : Int))
    let t15 : Tp pr := .i (rfl : ((0 : Int) : Int) = (0 : Int))
    let t16 : Tp pr := .i (rfl : ((0 : Int) : Int) = (0 : Int))
    let t17 : Tp pr := .i (rfl : ((0 : Int) : Int) = (0 : Int))
    let t19 : Tp pr := .i (rfl : ((0 : Int) : Int) = (0 : Int))
    let t20 : Tp pr := .i (rfl : ((0 : Int) : Int) = (0 : Int))
    let t21 : Tp pr := .i (rfl : ((28 : Int) : Int) = (28 : Int))
    exact .tp [t0, .m (rfl : true = true), t2, t3, .m (rfl : true = true), t5, t6, t7, .m (rfl : true = true), t9, t10, t11, .m (rfl : true = true), t13, t14, t15, t16, t17, .m (rfl : true = true), t19, t20, t21] (by kernel_rfl))
  | 29, _ => by (
    let t0 : Tp pr := .i (rfl : ((1 : Int) : Int) = (1 : Int))
    let t2 : Tp pr := .i (rfl : ((0 : Int) : Int) = (0 : Int))
    let t3 : Tp pr := .i (rfl : ((29 : Int) : Int) = (29 : Int))
    let t5 : Tp pr := .i (rfl : ((0 : Int) : Int) = (0 : Int))
    let t6 : Tp pr := .i (rfl : ((29 : Int) : Int) = (29 : Int))
    let t7 : Tp pr := .i (rfl : ((0 : Int) : Int) = (0 : Int))
    let t9 : Tp pr := .i (rfl : ((0 : Int) : Int) = (0 : Int))
    let t10 : Tp pr := .i (rfl : ((0 : Int) : Int) = (0 : Int))
    let t11 : Tp pr := .i (rfl : ((0 : Int) : Int) = (0 : Int))
    let t13 : Tp pr := .i (rfl : ((0 : Int) : Int) = (0 : Int))
    let t14 : Tp pr := .i (rfl : ((0 : Int) : Int) = (0 : Int))
    let t15 : Tp pr := .i (rfl : ((0 : Int) : Int) = (0 : Int))
    let t16 : Tp pr := .i (rfl : ((0 : Int) : Int) = (0 : Int))
    let t17 : Tp pr := .i (rfl : ((0 : Int) : Int) = (0 : Int))
    let t19 : Tp pr := .i (rfl : ((0 : Int) : Int) = (0 : Int))
    let t20 : Tp pr := .i (rfl : ((0 : Int) : Int) = (0 : Int))
    let t21 : Tp pr := .i (rfl : ((29 : Int) : Int) = (29 : Int))
    exact .tp [t0, .m (rfl : true = true), t2, t3, .m (rfl : true = true), t5, t6, t7, .m (rfl : true = true), t9, t10, t11, .m (rfl : true = true), t13, t14, t15, t16, t17, .m (rfl : true = true), t19, t20, t21] (by kernel_rfl))
  | 30, _ => by (
    let t0 : Tp pr := .i (rfl : ((1 : Int) : Int) = (1 : Int))
    let t2 : Tp pr := .i (rfl : ((0 : Int) : Int) = (0 : Int))
    let t3 : Tp pr := .i (rfl : ((30 : Int) : Int) = (30 : Int))
    let t5 : Tp pr := .i (rfl : ((0 : Int) : Int) = (0 : Int))
    let t6 : Tp pr := .i (rfl : ((30 : Int) : Int) = (30 : Int))
    let t7 : Tp pr := .i (rfl : ((0 : Int) : Int) = (0 : Int))
    let t9 : Tp pr := .i (rfl : ((0 : Int) : Int) = (0 : Int))
    let t10 : Tp pr := .i (rfl : ((0 : Int) : Int) = (0 : Int))
    let t11 : Tp pr := .i (rfl : ((0 : Int) : Int) = (0 : Int))
    let t13 : Tp pr := .i (rfl : ((0 : Int) : Int) = (0 : Int))
    let t14 : Tp pr := .i (rfl : ((0 : Int) : Int) = (0 : Int))
    let t15 : Tp pr := .i (rfl : ((0 : Int) : Int) = (0 : Int))
    let t16 : Tp pr := .i (rfl : ((0 : Int) : Int) = (0 : Int))
    let t17 : Tp pr := .i (rfl : ((0 : Int) : Int) = (0 : Int))
    let t19 : Tp pr := .i (rfl : ((0 : Int) : Int) = (0 : Int))
    let t20 : Tp pr := .i (rfl : ((0 : Int) : Int) = (0 : Int))
    let t21 : Tp pr := .i (rfl : ((30 : Int) : Int) = (30 : Int))
    exact .tp [t0, .m (rfl : true = true), t2, t3, .m (rfl : true = true), t5, t6, t7, .m (rfl : true = true), t9, t10, t11, .m (rfl : true = true), t13, t14, t15, t16, t17, .m (rfl : true = true), t19, t20, t21] (by kernel_rfl))
  | 31, _ => by (
    let t0 : Tp pr := .i (rfl : ((1 : Int) : Int) = (1 : Int))
    let t2 : Tp pr := .i (rfl : ((0 : Int) : Int) = (0 : Int))
    let t3 : Tp pr := .i (rfl : ((31 : Int) : Int) = (31 : Int))
    let t5 : Tp pr := .i (rfl : ((0 : Int) : Int) = (0 : Int))
    let t6 : Tp pr := .i (rfl : ((31 : Int) : Int) = (31 : Int))
    let t7 : Tp pr := .i (rfl : ((0 : Int) : Int) = (0 : Int))
    let t9 : Tp pr := .i (rfl : ((0 : Int) : Int) = (0 : Int))
    let t10 : Tp pr := .i (rfl : ((0 : Int) : Int) = (0 : Int))
    let t11 : Tp pr := .i (rfl : ((0 : Int) : Int) = (0 : Int))
    let t13 : Tp pr := .i (rfl : ((0 : Int) : Int) = (0 : Int))
    let t14 : Tp pr := .i (rfl : ((0 : Int) : Int) = (0 : Int))
    let t15 : Tp pr := .i (rfl : ((0 : Int) : Int) = (0 : Int))
    let t16 : Tp pr := .i (rfl : ((0 : Int) : Int) = (0 : Int))
    let t17 : Tp pr := .i (rfl : ((0 : Int) : Int) = (0 : Int))
    let t19 : Tp pr := .i (rfl : ((0 : Int) : Int) = (0 : Int))
    let t20 : Tp pr := .i (rfl : ((0 : Int) : Int) = (0 : Int))
    let t21 : Tp pr := .i (rfl : ((31 : Int) : Int) = (31 : Int))
    exact .tp [t0, .m (rfl : true = true), t2, t3, .m (rfl : true = true), t5, t6, t7, .m (rfl : true = true), t9, t10, t11, .m (rfl : true = true), t13, t14, t15, t16, t17, .m (rfl : true = true), t19, t20, t21] (by kernel_rfl))
  | 32, _ => by (
    let t0 : Tp pr := .i (rfl : ((1 : Int) : Int) = (1 : Int))
    let t2 : Tp pr := .i (rfl : ((0 : Int) : Int) = (0 : Int))
    let t3 : Tp pr := .i (rfl : ((32 : Int) : Int) = (32 : Int))
    let t5 : Tp pr := .i (rfl : ((0 : Int) : Int) = (0 : Int))
    let t6 : Tp pr := .i (rfl : ((32 : Int) : Int) = (32 : Int))
    let t7 : Tp pr := .i (rfl : ((0 : Int) : Int) = (0 : Int))
    let t9 : Tp pr := .i (rfl : ((0 : Int) : Int) = (0 : Int))
    let t10 : Tp pr := .i (rfl : ((0 : Int) : Int) = (0 : Int))
    let t11 : Tp pr := .i (rfl : ((0 : Int) : Int) = (0 : Int))
    let t13 : Tp pr := .i (rfl : ((0 : Int) : Int) = (0 : Int))
    let t14 : Tp pr := .i (rfl : ((0 : Int) : Int) = (0 : Int))
    let t15 : Tp pr := .i (rfl : ((0 : Int) : Int) = (0 : Int))
    let t16 : Tp pr := .i (rfl : ((0 : Int) : Int) = (0 : Int))
    let t17 : Tp pr := .i (rfl : ((0 : Int) : Int) = (0 : Int))
    let t19 : Tp pr := .i (rfl : ((0 : Int) : Int) = (0 : Int))
    let t20 : Tp pr := .i (rfl : ((0 : Int) : Int) = (0 : Int))
    let t21 : Tp pr := .i (rfl : ((32 : Int) : Int) = (32 : Int))
    exact .tp [t0, .m (rfl : true = true), t2, t3, .m (rfl : true = true), t5, t6, t7, .m (rfl : true = true), t9, t10, t11, .m (rfl : true = true), t13, t14, t15, t16, t17, .m (rfl : true = true), t19, t20, t21] (by kernel_rfl))
  | 33, _ => by (
    let t0 : Tp pr := .i (rfl : ((1 : Int) : Int) = (1 : Int))
    let t2 : Tp pr := .i (rfl : ((0 : Int) : Int) = (0 : Int))
    let t3 : Tp pr := .i (rfl : ((33 : Int) : Int) = (33 : Int))
    let t5 : Tp pr := .i (rfl : ((0 : Int) : Int) = (0 : Int))
    let t6 : Tp pr := .i (rfl : ((33 : Int) : Int) = (33 : Int))
    let t7 : Tp pr := .i (rfl : ((0 : Int) : Int) = (0 : Int))
    let t9 : Tp pr := .i (rfl : ((0 : Int) : Int) = (0 : Int))
    let t10 : Tp pr := .i (rfl : ((0 : Int) : Int) = (0 : Int))
    let t11 : Tp pr := .i (rfl : ((0 : Int) : Int) = (0 : Int))
    let t13 : Tp pr := .i (rfl : ((0 : Int) : Int) = (0 : Int))
    let t14 : Tp pr := .i (rfl : ((0 : Int) : Int) = (0 : Int))
    let t15 : Tp pr := .i (rfl : ((0 : Int) : Int) = (0 : Int))
    let t16 : Tp pr := .i (rfl : ((0 : Int) : Int) = (0 : Int))
    let t17 : Tp pr := .i (rfl : ((0 : Int) : Int) = (0 : Int))
    let t19 : Tp pr := .i (rfl : ((0 : Int) : Int) = (0 : Int))
    let t20 : Tp pr := .i (rfl : ((0 : Int) : Int) = (0 : Int))
    let t21 : Tp pr := .i (rfl : ((33 : Int) : Int) = (33 : Int))
    exact .tp [t0, .m (rfl : true = true), t2, t3, .m (rfl : true = true), t5, t6, t7, .m (rfl : true = true), t9, t10, t11, .m (rfl : true = true), t13, t14, t15, t16, t17, .m (rfl : true = true), t19, t20, t21] (by kernel_rfl))
  | 34, _ => by (
    let t0 : Tp pr := .i (rfl : ((1 : Int) : Int) = (1 : Int))
    let t2 : Tp pr := .i (rfl : ((0 : Int) : Int) = (0 : Int))
    let t3 : Tp pr := .i (rfl : ((34 : Int) : Int) = (34 : Int))
    let t5 : Tp pr := .i (rfl : ((0 : Int) : Int) = (0 : Int))
    let t6 : Tp pr := .i (rfl : ((34 : Int) : Int) = (34 : Int))
    let t7 : Tp pr := .i (rfl : ((0 : Int) : Int) = (0 : Int))
    let t9 : Tp pr := .i (rfl : ((0 : Int) : Int) = (0 : Int))
    let t10 : Tp pr := .i (rfl : ((0 : Int) : Int) = (0 : Int))
    let t11 : Tp pr := .i (rfl : ((0 : Int) : Int) = (0 : Int))
    let t13 : Tp pr := .i (rfl : ((0 : Int) : Int) = (0 : Int))
    let t14 : Tp pr := .i (rfl : ((0 : Int) : Int) = (0 : Int))
    let t15 : Tp pr := .i (rfl : ((0 : Int) : Int) = (0 : Int))
    let t16 : Tp pr := .i (rfl : ((0 : Int) : Int) = (0 : Int))
    let t17 : Tp pr := .i (rfl : ((0 : Int) : Int) = (0 : Int))
    let t19 : Tp pr := .i (rfl : ((0 : Int) : Int) = (0 : Int))
    let t20 : Tp pr := .i (rfl : ((0 : Int) : Int) = (0 : Int))
    let t21 : Tp pr := .i (rfl : ((34 : Int) : Int) = (34 : Int))
    exact .tp [t0, .m (rfl : true = true), t2, t3, .m (rfl : true = true), t5, t6, t7, .m (rfl : true = true), t9, t10, t11, .m (rfl : true = true), t13, t14, t15, t16, t17, .m (rfl : true = true), t19, t20, t21] (by kernel_rfl))
  | 35, _ => by (
    let t0 : Tp pr := .i (rfl : ((1 : Int) : Int) = (1 : Int))
    let t2 : Tp pr := .i (rfl : ((0 : Int) : Int) = (0 : Int))
    let t3 : Tp pr := .i (rfl : ((35 : Int) : Int) = (35 : Int))
    let t5 : Tp pr := .i (rfl : ((0 : Int) : Int) = (0 : Int))
    let t6 : Tp pr := .i (rfl : ((35 : Int) : Int) = (35 : Int))
    let t7 : Tp pr := .i (rfl : ((0 : Int) : Int) = (0 : Int))
    let t9 : Tp pr := .i (rfl : ((0 : Int) : Int) = (0 : Int))
    let t10 : Tp pr := .i (rfl : ((0 : Int) : Int) = (0 : Int))
    let t11 : Tp pr := .i (rfl : ((0 : Int) : Int) = (0 : Int))
    let t13 : Tp pr := .i (rfl : ((0 : Int) : Int) = (0 : Int))
    let t14 : Tp pr := .i (rfl : ((0 : Int) : Int) = (0 : Int))
    let t15 : Tp pr := .i (rfl : ((0 : Int) : Int) = (0 : Int))
    let t16 : Tp pr := .i (rfl : ((0 : Int) : Int) = (0 : Int))
    let t17 : Tp pr := .i (rfl : ((0 : Int) : Int) = (0 : Int))
    let t19 : Tp pr := .i (rfl : ((0 : Int) : Int) = (0 : Int))
    let t20 : Tp pr := .i (rfl : ((0 : Int) : Int) = (0 : Int))
    let t21 : Tp pr := .i (rfl : ((35 : Int) : Int) = (35 : Int))
    exact .tp [t0, .m (rfl : true = true), t2, t3, .m (rfl : true = true), t5, t6, t7, .m (rfl : true = true), t9, t10, t11, .m (rfl : true = true), t13, t14, t15, t16, t17, .m (rfl : true = true), t19, t20, t21] (by kernel_rfl))
  | 36, _ => by (
    let t0 : Tp pr := .i (rfl : ((1 : Int) : Int) = (1 : Int))
    let t2 : Tp pr := .i (rfl : ((0 : Int) : Int) = (0 : Int))
    let t3 : Tp pr := .i (rfl : ((36 : Int) : Int) = (36 : Int))
    let t5 : Tp pr := .i (rfl : ((0 : Int) : Int) = (0 : Int))
    let t6 : Tp pr := .i (rfl : ((36 : Int) : Int) = (36 : Int))
    let t7 : Tp pr := .i (rfl : ((0 : Int) : Int) = (0 : Int))
    let t9 : Tp pr := .i (rfl : ((0 : Int) : Int) = (0 : Int))
    let t10 : Tp pr := .i (rfl : ((0 : Int) : Int) = (0 : Int))
    let t11 : Tp pr := .i (rfl : ((0 : Int) : Int) = (0 : Int))
    let t13 : Tp pr := .i (rfl : ((0 : Int) : Int) = (0 : Int))
    let t14 : Tp pr := .i (rfl : ((0 : Int) : Int) = (0 : Int))
    let t15 : Tp pr := .i (rfl : ((0 : Int) : Int) = (0 : Int))
    let t16 : Tp pr := .i (rfl : ((0 : Int) : Int) = (0 : Int))
    let t17 : Tp pr := .i (rfl : ((0 : Int) : Int) = (0 : Int))
    let t19 : Tp pr := .i (rfl : ((0 : Int) : Int) = (0 : Int))
    let t20 : Tp pr := .i (rfl : ((0 : Int) : Int) = (0 : Int))
    let t21 : Tp pr := .i (rfl : ((36 : Int) : Int) = (36 : Int))
    exact .tp [t0, .m (rfl : true = true), t2, t3, .m (rfl : true = true), t5, t6, t7, .m (rfl : true = true), t9, t10, t11, .m (rfl : true = true), t13, t14, t15, t16, t17, .m (rfl : true = true), t19, t20, t21] (by kernel_rfl))
  | 37, _ => by (
    let t0 : Tp pr := .i (rfl : ((1 : Int) : Int) = (1 : Int))
    let t2 : Tp pr := .i (rfl : ((0 : Int) : Int) = (0 : Int))
    let t3 : Tp pr := .i (rfl : ((37 : Int) : Int) = (37 : Int))
    let t5 : Tp pr := .i (rfl : ((0 : Int) : Int) = (0 : Int))
    let t6 : Tp pr := .i (rfl : ((37 : Int) : Int) = (37 : Int))
    let t7 : Tp pr := .i (rfl : ((0 : Int) : Int) = (0 : Int))
    let t9 : Tp pr := .i (rfl : ((0 : Int) : Int) = (0 : Int))
    let t10 : Tp pr := .i (rfl : ((0 : Int) : Int) = (0 : Int))
    let t11 : Tp pr := .i (rfl : ((0 : Int) : Int) = (0 : Int))
    let t13 : Tp pr := .i (rfl : ((0 : Int) : Int) = (0 : Int))
    let t14 : Tp pr := .i (rfl : ((0 : Int) : Int) = (0 : Int))
    let t15 : Tp pr := .i (rfl : ((0 : Int) : Int) = (0 : Int))
    let t16 : Tp pr := .i (rfl : ((0 : Int) : Int) = (0 : Int))
    let t17 : Tp pr := .i (rfl : ((0 : Int) : Int) = (0 : Int))
    let t19 : Tp pr := .i (rfl : ((0 : Int) : Int) = (0 : Int))
    let t20 : Tp pr := .i (rfl : ((0 : Int) : Int) = (0 : Int))
    let t21 : Tp pr := .i (rfl : ((37 : Int) : Int) = (37 : Int))
    exact .tp [t0, .m (rfl : true = true), t2, t3, .m (rfl : true = true), t5, t6, t7, .m (rfl : true = true), t9, t10, t11, .m (rfl : true = true), t13, t14, t15, t16, t17, .m (rfl : true = true), t19, t20, t21] (by kernel_rfl))
  | 38, _ => by (
    let t0 : Tp pr := .i (rfl : ((1 : Int) : Int) = (1 : Int))
    let t2 : Tp pr := .i (rfl : ((0 : Int) : Int) = (0 : Int))
    let t3 : Tp pr := .i (rfl : ((38 : Int) : Int) = (38 : Int))
    let t5 : Tp pr := .i (rfl : ((0 : Int) : Int) = (0 : Int))
    let t6 : Tp pr := .i (rfl : ((38 : Int) : Int) = (38 : Int))
    let t7 : Tp pr := .i (rfl : ((0 : Int) : Int) = (0 : Int))
    let t9 : Tp pr := .i (rfl : ((0 : Int) : Int) = (0 : Int))
    let t10 : Tp pr := .i (rfl : ((0 : Int) : Int) = (0 : Int))
    let t11 : Tp pr := .i (rfl : ((0 : Int) : Int) = (0 : Int))
    let t13 : Tp pr := .i (rfl : ((0 : Int) : Int) = (0 : Int))
    let t14 : Tp pr := .i (rfl : ((0 : Int) : Int) = (0 : Int))
    let t15 : Tp pr := .i (rfl : ((0 : Int) : Int) = (0 : Int))
    let t16 : Tp pr := .i (rfl : ((0 : Int) : Int) = (0 : Int))
    let t17 : Tp pr := .i (rfl : ((0 : Int) : Int) = (0 : Int))
    let t19 : Tp pr := .i (rfl : ((0 : Int) : Int) = (0 : Int))
    let t20 : Tp pr := .i (rfl : ((0 : Int) : Int) = (0 : Int))
    let t21 : Tp pr := .i (rfl : ((38 : Int) : Int) = (38 : Int))
    exact .tp [t0, .m (rfl : true = true), t2, t3, .m (rfl : true = true), t5, t6, t7, .m (rfl : true = true), t9, t10, t11, .m (rfl : true = true), t13, t14, t15, t16, t17, .m (rfl : true = true), t19, t20, t21] (by kernel_rfl))
  | 39, _ => by (
    let t0 : Tp pr := .i (rfl : ((1 : Int) : Int) = (1 : Int))
    let t2 : Tp pr := .i (rfl : ((0 : Int) : Int) = (0 : Int))
    let t3 : Tp pr := .i (rfl : ((39 : Int) : Int) = (39 : Int))
    let t5 : Tp pr := .i (rfl : ((0 : Int) : Int) = (0 : Int))
    let t6 : Tp pr := .i (rfl : ((39 : Int) : Int) = (39 : Int))
    let t7 : Tp pr := .i (rfl : ((0 : Int) : Int) = (0 : Int))
    let t9 : Tp pr := .i (rfl : ((0 : Int) : Int) = (0 : Int))
    let t10 : Tp pr := .i (rfl : ((0 : Int) : Int) = (0 : Int))
    let t11 : Tp pr := .i (rfl : ((0 : Int) : Int) = (0 : Int))
    let t13 : Tp pr := .i (rfl : ((0 : Int) : Int) = (0 : Int))
    let t14 : Tp pr := .i (rfl : ((0 : Int) : Int) = (0 : Int))
    let t15 : Tp pr := .i (rfl : ((0 : Int) : Int) = (0 : Int))
    let t16 : Tp pr := .i (rfl : ((0 : Int) : Int) = (0 : Int))
    let t17 : Tp pr := .i (rfl : ((0 : Int) : Int) = (0 : Int))
    let t19 : Tp pr := .i (rfl : ((0 : Int) : Int) = (0 : Int))
    let t20 : Tp pr := .i (rfl : ((0 : Int) : Int) = (0 : Int))
    let t21 : Tp pr := .i (rfl : ((39 : Int) : Int) = (39 : Int))
    exact .tp [t0, .m (rfl : true = true), t2, t3, .m (rfl : true = true), t5, t6, t7, .m (rfl : true = true), t9, t10, t11, .m (rfl : true = true), t13, t14, t15, t16, t17, .m (rfl : true = true), t19, t20, t21] (by kernel_rfl))
  | 40, _ => by (
    let t0 : Tp pr := .i (rfl : ((1 : Int) : Int) = (1 : Int))
    let t2 : Tp pr := .i (rfl : ((0 : Int) : Int) = (0 : Int))
    let t3 : Tp pr := .i (rfl : ((40 : Int) : Int) = (40 : Int))
    let t5 : Tp pr := .i (rfl : ((0 : Int) : Int) = (0 : Int))
    let t6 : Tp pr := .i (rfl : ((40 : Int) : Int) = (40 : Int))
    let t7 : Tp pr := .i (rfl : ((0 : Int) : Int) = (0 : Int))
    let t9 : Tp pr := .i (rfl : ((0 : Int) : Int) = (0 : Int))
    let t10 : Tp pr := .i (rfl : ((0 : Int) : Int) = (0 : Int))
    let t11 : Tp pr := .i (rfl : ((0 : Int) : Int) = (0 : Int))
    let t13 : Tp pr := .i (rfl : ((0 : Int) : Int) = (0 : Int))
    let t14 : Tp pr := .i (rfl : ((0 : Int) : Int) = (0 : Int))
    let t15 : Tp pr := .i (rfl : ((0 : Int) : Int) = (0 : Int))
    let t16 : Tp pr := .i (rfl : ((0 : Int) : Int) = (0 : Int))
    let t17 : Tp pr := .i (rfl : ((0 : Int) : Int) = (0 : Int))
    let t19 : Tp pr := .i (rfl : ((0 : Int) : Int) = (0 : Int))
    let t20 : Tp pr := .i (rfl : ((0 : Int) : Int) = (0 : Int))
    let t21 : Tp pr := .i (rfl : ((40 : Int) : Int) = (40 : Int))
    exact .tp [t0, .m (rfl : true = true), t2, t3, .m (rfl : true = true), t5, t6, t7, .m (rfl : true = true), t9, t10, t11, .m (rfl : true = true), t13, t14, t15, t16, t17, .m (rfl : true = true), t19, t20, t21] (by kernel_rfl))
  | n + 41, h => absurd h (by omega)
theorem mul_ev (n : Nat) (h : n ≤ 40) : Ev pr (.call 87 [.t (.int .u64 1), .t (.int .u64 n)] []) (.val (.tup [.t (.int .u64 0), .t (.int .u64 n)]) []) := by
  have := mul64_ev n h
  exact .tp [.b (rfl : false = false), .a (this)] (by kernel_rfl)
theorem rep_take {m k n : Nat} (hk : k ≤ m) : List.take k (ints (List.replicate m (-1) ++ List.replicate n 0)) = ints (List.replicate k (-1)) := by
  rw [ints, ← List.map_take, List.take_append_of_le_length (by simpa using hk), List.take_replicate, Nat.min_eq_left hk]
  rfl
theorem rep_drop {m k n : Nat} : List.drop (m + k) (ints (List.replicate m (-1) ++ List.replicate n 0)) = ints (List.replicate (n - k) 0) := by
  rw [ints, ← List.map_drop, List.drop_append, List.drop_of_length_le (by simp), List.drop_replicate]
  simp [ints]
theorem rep_step {m k n : Nat} (hk : k ≤ m) (h : k ≤ n - m) (hm : m ≤ n) : List.take m (ints (List.replicate m (-1) ++ List.replicate (n - m) 0)) ++ (List.take k (ints (List.replicate m (-1) ++ List.replicate (n - m) 0)) ++ List.drop (m + k) (ints (List.replicate m (-1) ++ List.replicate (n - m) 0))) =
    ints (List.replicate (m + k) (-1) ++ List.replicate (n - (m + k)) 0) := by
  rw [rep_take (Nat.le_refl m), rep_take hk, rep_drop, ← ints_app, ← ints_app, ← List.append_assoc, List.replicate_append_replicate, Nat.sub_sub]
theorem repL_ev (n : Nat) (hn : n ≤ 40) : ∀ (q m : Nat), n - m ≤ q → 1 ≤ m → m ≤ n →
    Ev pr (.loop (lq pr 78 0) (at_ [(7, .vec 0 n 1 0 n), (8, i64 m)] [.vec true 1 (ints (List.replicate m (-1) ++ List.replicate (n - m) 0))] 0))
      (.exit 0 (at_ [(7, .vec 0 n 1 0 n)] [.vec true 1 (ints (List.replicate n (-1)))] 0))
  | 0, m, hq, h1, hm => by
    have e : n = m := by omega
    subst e
    rw [show List.replicate (n - n) (0 : Int) = [] by simp]
    let t1 : Tp pr := .b (show (decide ((↑n : Int) < (↑n : Int))) = false by simp)
    exact .tpe [.i (rfl : ((↑n : Int)) = _), t1] (Out.exit (0 : Nat) (at_ [((7 : Nat), V.vec (0 : Nat) n (1 : Nat) (0 : Nat) n)] [Ob.vec true (1 : Nat) (ints (List.replicate n (-1 : Int) ++ []))] (0 : Nat))) (by kernel_rfl) (congrArg (fun x => Out.exit (0 : Nat) (at_ [((7 : Nat), V.vec (0 : Nat) n (1 : Nat) (0 : Nat) n)] [Ob.vec true (1 : Nat) x] (0 : Nat))) (show (ints (List.replicate n (-1 : Int) ++ [])) = (ints (List.replicate n (-1 : Int))) by simp))
  | q + 1, m, hq, h1, hm => by
    by_cases he : n = m
    · subst he
      rw [show List.replicate (n - n) (0 : Int) = [] by simp]
      let t1 : Tp pr := .b (show (decide ((↑n : Int) < (↑n : Int))) = false by simp)
      exact .tpe [.i (rfl : ((↑n : Int)) = _), t1] (Out.exit (0 : Nat) (at_ [((7 : Nat), V.vec (0 : Nat) n (1 : Nat) (0 : Nat) n)] [Ob.vec true (1 : Nat) (ints (List.replicate n (-1 : Int) ++ []))] (0 : Nat))) (by kernel_rfl) (congrArg (fun x => Out.exit (0 : Nat) (at_ [((7 : Nat), V.vec (0 : Nat) n (1 : Nat) (0 : Nat) n)] [Ob.vec true (1 : Nat) x] (0 : Nat))) (show (ints (List.replicate n (-1 : Int) ++ [])) = (ints (List.replicate n (-1 : Int))) by simp))
    · by_cases hh : m ≤ n - m
      · have ih := repL_ev n hn q (m + m) (by omega) (by omega) (by omega)
        rw [← rep_step (Nat.le_refl m) hh hm] at ih
        let t1 : Tp pr := .b (show (decide ((↑m : Int) < (↑n : Int))) = true by (simp; omega))
        let t5 : Tp pr := .m (show (decide ((0 : Int) ≤ (↑m : Int) ∧ (↑m : Int) ≤ (↑n : Int) ∧ (0 : Nat) + (↑n : Int).toNat ≤ n)) = true by simp [*])
        let t6 : Tp pr := .c (show ((0 : Nat) + (↑m : Int).toNat : Nat) = m by omega)
        let t7 : Tp pr := .c (show ((↑n : Int).toNat - (↑m : Int).toNat : Nat) = n - m by omega)
        let t11 : Tp pr := .m (show (decide ((0 : Int) ≤ (0 : Int) ∧ (0 : Int) ≤ (↑m : Int) ∧ (0 : Nat) + (↑m : Int).toNat ≤ n)) = true by simp [*])
        let t13 : Tp pr := .c (show ((↑m : Int).toNat - (0 : Nat) : Nat) = m by omega)
        let t15 : Tp pr := .b (show (decide (m ≤ n - m)) = true by (simp; omega))
        let t16 : Tp pr := .m (show (decide ((ints (List.replicate m (-1 : Int) ++ List.replicate (n - m) (0 : Int))).length = n ∧ (0 : Nat) + m ≤ n)) = true by simp [*])
        let t17 : Tp pr := .m (show (decide ((ints (List.replicate m (-1 : Int) ++ List.replicate (n - m) (0 : Int))).length = n ∧ m + (n - m) ≤ n ∧ (List.take m (List.drop (0 : Nat) (ints (List.replicate m (-1 : Int) ++ List.replicate (n - m) (0 : Int))))).length ≤ n - m)) = true by simp [*])
        let t18 : Tp pr := .c (show ((List.take m (List.drop (0 : Nat) (ints (List.replicate m (-1 : Int) ++ List.replicate (n - m) (0 : Int))))).length : Nat) = m by simp)
        let t19 : Tp pr := .n .crows (show (((List.take m (ints (List.replicate m (-1 : Int) ++ List.replicate (n - m) (0 : Int)))).append (List.take m (List.drop (0 : Nat) (ints (List.replicate m (-1 : Int) ++ List.replicate (n - m) (0 : Int)))))).append (List.drop (m + (List.take m (List.drop (0 : Nat) (ints (List.replicate m (-1 : Int) ++ List.replicate (n - m) (0 : Int))))).length) (ints (List.replicate m (-1 : Int) ++ List.replicate (n - m) (0 : Int))))) = List.take m (ints (List.replicate m (-1 : Int) ++ List.replicate (n - m) (0 : Int))) ++ (List.take m (ints (List.replicate m (-1 : Int) ++ List.replicate (n - m) (0 : Int))) ++ List.drop (m + m) (ints (List.replicate m (-1 : Int) ++ List.replicate (n - m) (0 : Int)))) by simp)
        let t21 : Tp pr := .i (wrap_i64 (a := (↑m : Int) + (↑m : Int)) (by omega) (by omega))
        exact .tp [.i (rfl : ((↑n : Int)) = _), t1, .m (rfl : true = true), .m (rfl : true = true), .m (rfl : true = true), t5, t6, t7, .m (rfl : true = true), .m (rfl : true = true), .m (rfl : true = true), t11, .c (rfl : ((0 : Nat)) = _), t13, .m (rfl : true = true), t15, t16, t17, t18, t19, .m (rfl : true = true), t21, .m (rfl : true = true), .m (rfl : true = true), .a (ih)] (by kernel_rfl)
      · have ih := repL_ev n hn q (m + (n - m)) (by omega) (by omega) (by omega)
        rw [← rep_step (k := n - m) (by omega) (Nat.le_refl _) hm] at ih
        let t1 : Tp pr := .b (show (decide ((↑m : Int) < (↑n : Int))) = true by (simp; omega))
        let t5 : Tp pr := .m (show (decide ((0 : Int) ≤ (↑m : Int) ∧ (↑m : Int) ≤ (↑n : Int) ∧ (0 : Nat) + (↑n : Int).toNat ≤ n)) = true by simp [*])
        let t6 : Tp pr := .c (show ((0 : Nat) + (↑m : Int).toNat : Nat) = m by omega)
        let t7 : Tp pr := .c (show ((↑n : Int).toNat - (↑m : Int).toNat : Nat) = n - m by omega)
        let t11 : Tp pr := .m (show (decide ((0 : Int) ≤ (0 : Int) ∧ (0 : Int) ≤ (↑m : Int) ∧ (0 : Nat) + (↑m : Int).toNat ≤ n)) = true by simp [*])
        let t13 : Tp pr := .c (show ((↑m : Int).toNat - (0 : Nat) : Nat) = m by omega)
        let t15 : Tp pr := .b (show (decide (m ≤ n - m)) = false by (simp; omega))
        let t16 : Tp pr := .m (show (decide ((ints (List.replicate m (-1 : Int) ++ List.replicate (n - m) (0 : Int))).length = n ∧ (0 : Nat) + (n - m) ≤ n)) = true by simp [*])
        let t17 : Tp pr := .m (show (decide ((ints (List.replicate m (-1 : Int) ++ List.replicate (n - m) (0 : Int))).length = n ∧ m + (n - m) ≤ n ∧ (List.take (n - m) (List.drop (0 : Nat) (ints (List.replicate m (-1 : Int) ++ List.replicate (n - m) (0 : Int))))).length ≤ n - m)) = true by simp [*])
        let t18 : Tp pr := .c (show ((List.take (n - m) (List.drop (0 : Nat) (ints (List.replicate m (-1 : Int) ++ List.replicate (n - m) (0 : Int))))).length : Nat) = n - m by simp)
        let t19 : Tp pr := .n .crows (show (((List.take m (ints (List.replicate m (-1 : Int) ++ List.replicate (n - m) (0 : Int)))).append (List.take (n - m) (List.drop (0 : Nat) (ints (List.replicate m (-1 : Int) ++ List.replicate (n - m) (0 : Int)))))).append (List.drop (m + (List.take (n - m) (List.drop (0 : Nat) (ints (List.replicate m (-1 : Int) ++ List.replicate (n - m) (0 : Int))))).length) (ints (List.replicate m (-1 : Int) ++ List.replicate (n - m) (0 : Int))))) = List.take m (ints (List.replicate m (-1 : Int) ++ List.replicate (n - m) (0 : Int))) ++ (List.take (n - m) (ints (List.replicate m (-1 : Int) ++ List.replicate (n - m) (0 : Int))) ++ List.drop (m + (n - m)) (ints (List.replicate m (-1 : Int) ++ List.replicate (n - m) (0 : Int)))) by simp)
        let t21 : Tp pr := .i (wrap_i64 (a := (↑m : Int) + (↑(n - m) : Int)) (by omega) (by omega))
        exact .tp [.i (rfl : ((↑n : Int)) = _), t1, .m (rfl : true = true), .m (rfl : true = true), .m (rfl : true = true), t5, t6, t7, .m (rfl : true = true), .m (rfl : true = true), .m (rfl : true = true), t11, .c (rfl : ((0 : Nat)) = _), t13, .m (rfl : true = true), t15, t16, t17, t18, t19, .m (rfl : true = true), t21, .m (rfl : true = true), .m (rfl : true = true), .a (ih)] (by kernel_rfl)
theorem repeat_ev (n : Nat) (h : n ≤ 40) : Ev pr (.call 78 [isq [-1], i64 n] []) (.val (.vec 0 n 1 0 n) [.vec true 1 (ints (List.replicate n (-1)))]) := by
  have hm := mul_ev n h
  by_cases h0 : n = 0
  · subst h0
    have hL : Ev pr (.loop (lq pr 78 0) (at_ [(7, .vec 0 0 1 0 0), (8, i64 0)] [.vec true 1 []] 0)) (.exit 0 (at_ [(7, .vec 0 0 1 0 0)] [.vec true 1 []] 0)) := by
      let t0 : Tp pr := .i (rfl : ((0 : Int) : Int) = (0 : Int))
      exact .tp [t0, .b (rfl : false = false)] (by kernel_rfl)
    let t1 : Tp pr := .i (rfl : ((1 : Int) : Int) = (1 : Int))
    let t2 : Tp pr := .i (rfl : ((1 : Int) : Int) = (1 : Int))
    let t3 : Tp pr := .i (rfl : ((0 : Int) : Int) = (0 : Int))
    let t7 : Tp pr := .i (rfl : ((0 : Int) : Int) = (0 : Int))
    exact .tp [.b (rfl : false = false), t1, t2, t3, .a (hm), .b (rfl : false = false), .b (rfl : false = false), t7, .m (rfl : true = true), .c (rfl : ((0 : Nat)) = _), .n .crows (rfl : ([]) = _), .b (rfl : false = false), .m (rfl : true = true), .c (rfl : ((0 : Nat)) = _), .n .crows (rfl : ([]) = _), .a (hL)] (by kernel_rfl)
  · have h1 : 1 ≤ n := by omega
    have hL := repL_ev n h n 1 (by omega) (by omega) h1
    rw [show ints (List.replicate 1 (-1) ++ List.replicate (n - 1) 0) = [C.t (.int .i64 (-1))] :: List.replicate (n - 1) [C.t (.int .i64 0)] by simp [ints, intc]] at hL
    let t1 : Tp pr := .i (rfl : ((1 : Int) : Int) = (1 : Int))
    let t2 : Tp pr := .i (rfl : ((1 : Int) : Int) = (1 : Int))
    let t3 : Tp pr := .i (wrap_u64 (a := (↑n : Int)) (by omega) (by omega))
    let t6 : Tp pr := .b (show (decide ((↑n : Int) > (9223372036854775807 : Int))) = false by (simp; omega))
    let t7 : Tp pr := .i (wrap_i64 (a := (↑n : Int)) (by omega) (by omega))
    let t8 : Tp pr := .m (show (decide ((0 : Int) ≤ (↑n : Int) ∧ (↑n : Int) ≤ (↑n : Int) ∧ (↑n : Int) ≤ (4294967296 : Int))) = true by (simp; omega))
    let t9 : Tp pr := .c (show ((↑n : Int).toNat : Nat) = n by omega)
    let t10 : Tp pr := .n .crows (rfl : (List.replicate n [C.t (T.int IntKind.i64 (0 : Int))]) = _)
    let t11 : Tp pr := .b (show (decide ((1 : Nat) ≤ n)) = true by (simp; omega))
    let t12 : Tp pr := .m (show (decide ((List.replicate n [C.t (T.int IntKind.i64 (0 : Int))]).length = n ∧ (0 : Nat) + n ≤ n ∧ (1 : Nat) ≤ n)) = true by simp [*])
    let t14 : Tp pr := .n .crows (show (([].append (List.map (fun x => List.map C.t x) (List.map intt [(-1 : Int)]))).append (List.drop (1 : Nat) (List.replicate n [C.t (T.int IntKind.i64 (0 : Int))]))) = List.map C.t (intt (-1 : Int)) :: List.replicate (n - (1 : Nat)) [C.t (T.int IntKind.i64 (0 : Int))] by simp)
    exact .tp [.b (rfl : false = false), t1, t2, t3, .a (hm), .b (rfl : false = false), t6, t7, t8, t9, t10, t11, t12, .c (rfl : ((1 : Nat)) = _), t14, .a (hL)] (by kernel_rfl)
end Go.Ev

/- Copies of heaps: the copier. -/
namespace Go.Ev
set_option linter.unusedVariables false
set_option linter.unusedSimpArgs false
open Go.Proofs
set_option maxRecDepth 100000
set_option linter.unusedVariables false
set_option maxHeartbeats 4000000
@[local simp] theorem ints_takeC (l : List Int) : List.take l.length (ints l) = ints l := List.take_of_length_le (by simp)
def cpObs (h : Hp) (N : Nat) (l : List Int) : List Ob := [.box [.ptr 1 1 0 0, .vec 2 l.length 1 0 l.length, .vec 3 N 1 0 N], .box [osq h.objects, isq h.roots], .vec true 1 (ints l), .vec true 1 (ints (namesOf N l))]
theorem name_ev (h : Hp) (N : Nat) (hN : N ≤ 40) (l : List Int) (hl : l.length ≤ 1000) (h0 : ∀ x ∈ l, 0 ≤ x) (k : Int) (hk : k < N) :
    Ev pr (.call 88 [.ptr 0 1 0 0, i64 k] (cpObs h N l)) (.val (i64 (newOf (push l k) k)) (cpObs h N (push l k))) := by
  unfold push
  by_cases hneg : k < 0
  · rw [if_pos hneg, newOf_out (neg_not_mem hneg h0)]
    let t0 : Tp pr := .b (show (decide (k < (0 : Int))) = true by (simp; omega))
    exact .tp [t0] (by kernel_rfl)
  · rw [if_neg hneg]
    obtain ⟨n, rfl⟩ : ∃ n : Nat, k = n := ⟨k.toNat, by omega⟩
    have hn : n < N := by omega
    have g := ints_get (l := namesOf N l) (k := n) (by simpa using hn)
    rw [namesOf_getD hn] at g
    by_cases hm : (n : Int) ∈ l
    · have hc : l.contains (n : Int) = true := by simpa using hm
      rw [if_pos hc]
      have hp := newOf_in hm
      let t1 : Tp pr := .m (show (decide ((0 : Int) ≤ (↑n : Int) ∧ (↑n : Int).toNat < N)) = true by simp [*])
      let t2 : Tp pr := .c (show ((0 : Nat) + (↑n : Int).toNat : Nat) = n by omega)
      let t3 : Tp pr := .m (show (decide ((ints (namesOf N l)).length = N)) = true by simp)
      let t4 : Tp pr := .g .crow (show ((ints (namesOf N l))[n]?) = some (intc (newOf l (↑n : Int))) from g)
      let t5 : Tp pr := .b (show (decide (newOf l (↑n : Int) < (0 : Int))) = false by (simp; omega))
      let t6 : Tp pr := .m (show (decide ((0 : Int) ≤ (↑n : Int) ∧ (↑n : Int).toNat < N)) = true by simp [*])
      let t7 : Tp pr := .c (show ((0 : Nat) + (↑n : Int).toNat : Nat) = n by omega)
      let t8 : Tp pr := .m (show (decide ((ints (namesOf N l)).length = N)) = true by simp)
      let t9 : Tp pr := .g .crow (show ((ints (namesOf N l))[n]?) = some (intc (newOf l (↑n : Int))) from g)
      exact .tp [.b (rfl : false = false), t1, t2, t3, t4, t5, t6, t7, t8, t9] (by kernel_rfl)
    · have hc : ¬ l.contains (n : Int) = true := by simpa using hm
      rw [if_neg hc]
      have hp := newOf_out hm
      rw [hp] at g
      rw [newOf_snoc hm]
      have hs := namesOf_set hn hm
      have g2 := ints_get (l := namesOf N (l ++ [(n : Int)])) (k := n) (by simpa using hn)
      rw [namesOf_getD hn, newOf_snoc hm, ← hs] at g2
      let t1 : Tp pr := .m (show (decide ((0 : Int) ≤ (↑n : Int) ∧ (↑n : Int).toNat < N)) = true by simp [*])
      let t2 : Tp pr := .c (show ((0 : Nat) + (↑n : Int).toNat : Nat) = n by omega)
      let t3 : Tp pr := .m (show (decide ((ints (namesOf N l)).length = N)) = true by simp)
      let t4 : Tp pr := .g .crow (show ((ints (namesOf N l))[n]?) = some (intc (-1 : Int)) from g)
      let t17 : Tp pr := .m (show (decide ((0 : Int) ≤ (↑n : Int) ∧ (↑n : Int).toNat < N)) = true by simp [*])
      let t18 : Tp pr := .c (show ((0 : Nat) + (↑n : Int).toNat : Nat) = n by omega)
      let t20 : Tp pr := .m (show (decide ((ints (namesOf N l)).length = N)) = true by simp)
      let t21 : Tp pr := .g .crow (show ((ints (namesOf N l))[n]?) = some (intc (-1 : Int)) from g)
      let t22 : Tp pr := .n .crows (show ((ints (namesOf N l)).set n [C.t (T.int IntKind.i64 (↑l.length : Int))]) = ints ((namesOf N l).set n (↑l.length : Int)) by simp)
      let t25 : Tp pr := .m (show (decide ((ints l).length = l.length ∧ (0 : Nat) + l.length ≤ l.length ∧ l.length + (1 : Nat) ≤ (4294967296 : Nat))) = true by (simp; omega))
      let t26 : Tp pr := .b (show (decide (l.length + (1 : Nat) ≤ l.length)) = false by simp)
      let t28 : Tp pr := .n .crows (show ((List.take l.length (ints l)).append (List.take (1 : Nat) (List.drop (0 : Nat) [[C.t (T.int IntKind.i64 (↑n : Int))]]))) = ints l ++ [[C.t (T.int IntKind.i64 (↑n : Int))]] by simp)
      let t29 : Tp pr := .m (show (decide ((0 : Int) ≤ (↑n : Int) ∧ (↑n : Int).toNat < N)) = true by simp [*])
      let t30 : Tp pr := .c (show ((0 : Nat) + (↑n : Int).toNat : Nat) = n by omega)
      let t31 : Tp pr := .m (show (decide ((ints ((namesOf N l).set n (↑l.length : Int))).length = N)) = true by simp)
      let t32 : Tp pr := .g .crow (show ((ints ((namesOf N l).set n (↑l.length : Int)))[n]?) = some (intc (↑l.length : Int)) from g2)
      exact .tpe [.b (rfl : false = false), t1, t2, t3, t4, .b (rfl : true = true), .m (rfl : true = true), .m (rfl : true = true), .m (rfl : true = true), .m (rfl : true = true), .m (rfl : true = true), .m (rfl : true = true), .m (rfl : true = true), .m (rfl : true = true), .m (rfl : true = true), .i (rfl : ((↑l.length : Int)) = _), .m (rfl : true = true), t17, t18, .m (rfl : true = true), t20, t21, t22, .m (rfl : true = true), .m (rfl : true = true), t25, t26, .c (rfl : (l.length + (1 : Nat)) = _), t28, t29, t30, t31, t32] (Out.val (V.t (T.int IntKind.i64 (↑l.length : Int))) [Ob.box [V.ptr (1 : Nat) (1 : Nat) (0 : Nat) (0 : Nat), V.vec (2 : Nat) (l.length + (1 : Nat)) (1 : Nat) (0 : Nat) (l.length + (1 : Nat)), V.vec (3 : Nat) N (1 : Nat) (0 : Nat) N], Ob.box [V.t (T.seq (2 : Nat) (List.map Obj.ce h.objects)), V.t (T.seq (1 : Nat) (List.map intt h.roots))], Ob.vec true (1 : Nat) ((ints l).append [[C.t (T.int IntKind.i64 (↑n : Int))]]), Ob.vec true (1 : Nat) (ints ((namesOf N l).set n (↑l.length : Int)))]) (by kernel_rfl) ((((congrArg (fun x => Out.val (V.t (T.int IntKind.i64 (↑l.length : Int))) [Ob.box [V.ptr (1 : Nat) (1 : Nat) (0 : Nat) (0 : Nat), V.vec (2 : Nat) x (1 : Nat) (0 : Nat) (l.length + (1 : Nat)), V.vec (3 : Nat) N (1 : Nat) (0 : Nat) N], Ob.box [V.t (T.seq (2 : Nat) (List.map Obj.ce h.objects)), V.t (T.seq (1 : Nat) (List.map intt h.roots))], Ob.vec true (1 : Nat) ((ints l).append [[C.t (T.int IntKind.i64 (↑n : Int))]]), Ob.vec true (1 : Nat) (ints ((namesOf N l).set n (↑l.length : Int)))]) (show (l.length + (1 : Nat)) = ((l ++ [(↑n : Int)]).length) by simp [intc, ints_app, ints_cons, ← hs])).trans (congrArg (fun x => Out.val (V.t (T.int IntKind.i64 (↑l.length : Int))) [Ob.box [V.ptr (1 : Nat) (1 : Nat) (0 : Nat) (0 : Nat), V.vec (2 : Nat) (l ++ [(↑n : Int)]).length (1 : Nat) (0 : Nat) x, V.vec (3 : Nat) N (1 : Nat) (0 : Nat) N], Ob.box [V.t (T.seq (2 : Nat) (List.map Obj.ce h.objects)), V.t (T.seq (1 : Nat) (List.map intt h.roots))], Ob.vec true (1 : Nat) ((ints l).append [[C.t (T.int IntKind.i64 (↑n : Int))]]), Ob.vec true (1 : Nat) (ints ((namesOf N l).set n (↑l.length : Int)))]) (show (l.length + (1 : Nat)) = ((l ++ [(↑n : Int)]).length) by simp [intc, ints_app, ints_cons, ← hs]))).trans (congrArg (fun x => Out.val (V.t (T.int IntKind.i64 (↑l.length : Int))) [Ob.box [V.ptr (1 : Nat) (1 : Nat) (0 : Nat) (0 : Nat), V.vec (2 : Nat) (l ++ [(↑n : Int)]).length (1 : Nat) (0 : Nat) (l ++ [(↑n : Int)]).length, V.vec (3 : Nat) N (1 : Nat) (0 : Nat) N], Ob.box [V.t (T.seq (2 : Nat) (List.map Obj.ce h.objects)), V.t (T.seq (1 : Nat) (List.map intt h.roots))], Ob.vec true (1 : Nat) x, Ob.vec true (1 : Nat) (ints ((namesOf N l).set n (↑l.length : Int)))]) (show ((ints l).append [[C.t (T.int IntKind.i64 (↑n : Int))]]) = (ints (l ++ [(↑n : Int)])) by simp [intc, ints_app, ints_cons, ← hs]))).trans (congrArg (fun x => Out.val (V.t (T.int IntKind.i64 (↑l.length : Int))) [Ob.box [V.ptr (1 : Nat) (1 : Nat) (0 : Nat) (0 : Nat), V.vec (2 : Nat) (l ++ [(↑n : Int)]).length (1 : Nat) (0 : Nat) (l ++ [(↑n : Int)]).length, V.vec (3 : Nat) N (1 : Nat) (0 : Nat) N], Ob.box [V.t (T.seq (2 : Nat) (List.map Obj.ce h.objects)), V.t (T.seq (1 : Nat) (List.map intt h.roots))], Ob.vec true (1 : Nat) (ints (l ++ [(↑n : Int)])), Ob.vec true (1 : Nat) x]) (show (ints ((namesOf N l).set n (↑l.length : Int))) = (ints (namesOf N (l ++ [(↑n : Int)]))) by simp [intc, ints_app, ints_cons, ← hs])))
theorem nameGo_ge (ks l : List Int) : l.length ≤ (nameGo l ks).1.length := by
  rw [nameGo_order]
  obtain ⟨r, hr⟩ := pushAll_ext ks l
  rw [hr]; simp
theorem push_len (l : List Int) (k : Int) : (push l k).length ≤ l.length + 1 := by
  unfold push
  split
  · omega
  · split
    · omega
    · simp
theorem allL_ev (h : Hp) (N : Nat) (hN : N ≤ 40) (ks : List Int) (hks : ks.length ≤ 100) (hkb : ∀ k ∈ ks, k < N) : ∀ (rest dn l nm : List Int), ks = dn ++ rest → nm.length = dn.length → l.length ≤ 100 + dn.length → (∀ x ∈ l, 0 ≤ x) →
    Ev pr (.loop (lq pr 79 0) (at_ [(0, .ptr 0 1 0 0), (5, .vec 4 ks.length 1 0 ks.length), (11, isq ks), (12, i64 ks.length), (13, i64 dn.length)] (cpObs h N l ++ [.vec true 1 (ints (nm ++ List.replicate rest.length 0))]) 4))
      (.exit 0 (at_ [(5, .vec 4 ks.length 1 0 ks.length)] (cpObs h N (nameGo l rest).1 ++ [.vec true 1 (ints (nm ++ (nameGo l rest).2))]) 4))
  | [], dn, l, nm, he, hn, hl, h0 => by
    have hll : (ks.length : Int) = dn.length := by simp [he]
    rw [show nameGo l [] = (l, []) from rfl]
    let t0 : Tp pr := .b (show (decide ((↑dn.length : Int) < (↑ks.length : Int))) = false by (simp; omega))
    exact .tp [t0] (by kernel_rfl)
  | x :: rest, dn, l, nm, he, hn, hl, h0 => by
    have hll : (ks.length : Int) = dn.length + 1 + rest.length := by simp [he]; omega
    have hg : lkp (ks.map intt) (dn.length : Int) = some [T.int .i64 x] := by rw [he]; simp [intt]
    have hp := name_ev h N hN l (by have := congrArg List.length he; simp at this; omega) h0 x (hkb x (by simp [he]))
    have hpl := push_len l x
    have ih := allL_ev h N hN ks hks hkb rest (dn ++ [x]) (push l x) (nm ++ [newOf (push l x) x]) (by simp [he]) (by simp [hn]) (by simp; omega) (push_nonneg h0)
    rw [show nameGo l (x :: rest) = ((nameGo (push l x) rest).1, newOf (push l x) x :: (nameGo (push l x) rest).2) from rfl]
    rw [show List.replicate (x :: rest).length (0 : Int) = 0 :: List.replicate rest.length 0 from rfl]
    have hg2 : (ints (nm ++ 0 :: List.replicate rest.length 0))[dn.length]? = some [C.t (.int .i64 0)] := by rw [← hn]; simp
    have hs2 : ∀ y : Int, (ints (nm ++ 0 :: List.replicate rest.length 0)).set dn.length [C.t (.int .i64 y)] = ints (nm ++ y :: List.replicate rest.length 0) := fun y => by rw [← hn]; simp
    rw [show nm ++ [newOf (push l x) x] ++ List.replicate rest.length 0 = nm ++ newOf (push l x) x :: List.replicate rest.length 0 by simp, ← hs2] at ih
    let t0 : Tp pr := .b (show (decide ((↑dn.length : Int) < (↑ks.length : Int))) = true by (simp; omega))
    let t1 : Tp pr := .g .row (show (lkp (List.map intt ks) (↑dn.length : Int)) = some ([T.int IntKind.i64 x]) from hg)
    let t3 : Tp pr := .m (show (decide ((0 : Int) ≤ (↑dn.length : Int) ∧ (↑dn.length : Int).toNat < ks.length)) = true by simp [*])
    let t4 : Tp pr := .c (show ((0 : Nat) + (↑dn.length : Int).toNat : Nat) = dn.length by omega)
    let t5 : Tp pr := .m (show (decide ((ints (nm ++ (0 : Int) :: List.replicate rest.length (0 : Int))).length = ks.length)) = true by simp [*])
    let t6 : Tp pr := .g .crow (show ((ints (nm ++ (0 : Int) :: List.replicate rest.length (0 : Int)))[dn.length]?) = some ([C.t (T.int IntKind.i64 (0 : Int))]) from hg2)
    let t7 : Tp pr := .n .crows (show ((ints (nm ++ (0 : Int) :: List.replicate rest.length (0 : Int))).set dn.length [C.t (T.int IntKind.i64 (newOf (push l x) x))]) = ints ((nm ++ (0 : Int) :: List.replicate rest.length (0 : Int)).set dn.length (newOf (push l x) x)) by simp)
    let t8 : Tp pr := .i (wrap_i64 (a := (↑dn.length : Int) + (1 : Int)) (by omega) (by omega))
    let t9 : Tp pr := .a (Ev.castq ((congrArg (fun x_1 => Q.loop (lq pr (79 : FuncId) (0 : Nat)) (at_ [((0 : Nat), V.ptr (0 : Nat) (1 : Nat) (0 : Nat) (0 : Nat)), ((5 : Nat), V.vec (4 : Nat) ks.length (1 : Nat) (0 : Nat) ks.length), ((11 : Nat), isq ks), ((12 : Nat), i64 (↑ks.length : Int)), ((13 : Nat), i64 x_1)] (cpObs h N (push l x) ++ [Ob.vec true (1 : Nat) ((ints (nm ++ (0 : Int) :: List.replicate rest.length (0 : Int))).set dn.length [C.t (T.int IntKind.i64 (newOf (push l x) x))])]) (4 : Nat))) (show ((↑(dn ++ [x]).length : Int)) = ((↑dn.length : Int) + (1 : Int)) by simp)).trans (congrArg (fun x_1 => Q.loop (lq pr (79 : FuncId) (0 : Nat)) (at_ [((0 : Nat), V.ptr (0 : Nat) (1 : Nat) (0 : Nat) (0 : Nat)), ((5 : Nat), V.vec (4 : Nat) ks.length (1 : Nat) (0 : Nat) ks.length), ((11 : Nat), isq ks), ((12 : Nat), i64 (↑ks.length : Int)), ((13 : Nat), i64 ((↑dn.length : Int) + (1 : Int)))] (cpObs h N (push l x) ++ [Ob.vec true (1 : Nat) x_1]) (4 : Nat))) (show ((ints (nm ++ (0 : Int) :: List.replicate rest.length (0 : Int))).set dn.length [C.t (T.int IntKind.i64 (newOf (push l x) x))]) = (ints ((nm ++ (0 : Int) :: List.replicate rest.length (0 : Int)).set dn.length (newOf (push l x) x))) by simp))) (ih))
    exact .tpe [t0, t1, .a (hp), t3, t4, t5, t6, t7, t8, t9] (Out.exit (0 : Nat) (at_ [((5 : Nat), V.vec (4 : Nat) ks.length (1 : Nat) (0 : Nat) ks.length)] [Ob.box [V.ptr (1 : Nat) (1 : Nat) (0 : Nat) (0 : Nat), V.vec (2 : Nat) (nameGo (push l x) rest).fst.length (1 : Nat) (0 : Nat) (nameGo (push l x) rest).fst.length, V.vec (3 : Nat) N (1 : Nat) (0 : Nat) N], Ob.box [V.t (T.seq (2 : Nat) (List.map Obj.ce h.objects)), V.t (T.seq (1 : Nat) (List.map intt h.roots))], Ob.vec true (1 : Nat) (ints (nameGo (push l x) rest).fst), Ob.vec true (1 : Nat) (ints (namesOf N (nameGo (push l x) rest).fst)), Ob.vec true (1 : Nat) (ints (nm ++ [newOf (push l x) x] ++ (nameGo (push l x) rest).snd))] (4 : Nat))) (by kernel_rfl) (((((congrArg (fun x_1 => Out.exit (0 : Nat) (at_ [((5 : Nat), V.vec (4 : Nat) ks.length (1 : Nat) (0 : Nat) ks.length)] [Ob.box [V.ptr (1 : Nat) (1 : Nat) (0 : Nat) (0 : Nat), V.vec (2 : Nat) x_1 (1 : Nat) (0 : Nat) (nameGo (push l x) rest).fst.length, V.vec (3 : Nat) N (1 : Nat) (0 : Nat) N], Ob.box [V.t (T.seq (2 : Nat) (List.map Obj.ce h.objects)), V.t (T.seq (1 : Nat) (List.map intt h.roots))], Ob.vec true (1 : Nat) (ints (nameGo (push l x) rest).fst), Ob.vec true (1 : Nat) (ints (namesOf N (nameGo (push l x) rest).fst)), Ob.vec true (1 : Nat) (ints (nm ++ [newOf (push l x) x] ++ (nameGo (push l x) rest).snd))] (4 : Nat))) (show ((nameGo (push l x) rest).fst.length) = (((nameGo (push l x) rest).fst, newOf (push l x) x :: (nameGo (push l x) rest).snd).fst.length) by simp)).trans (congrArg (fun x_1 => Out.exit (0 : Nat) (at_ [((5 : Nat), V.vec (4 : Nat) ks.length (1 : Nat) (0 : Nat) ks.length)] [Ob.box [V.ptr (1 : Nat) (1 : Nat) (0 : Nat) (0 : Nat), V.vec (2 : Nat) ((nameGo (push l x) rest).fst, newOf (push l x) x :: (nameGo (push l x) rest).snd).fst.length (1 : Nat) (0 : Nat) x_1, V.vec (3 : Nat) N (1 : Nat) (0 : Nat) N], Ob.box [V.t (T.seq (2 : Nat) (List.map Obj.ce h.objects)), V.t (T.seq (1 : Nat) (List.map intt h.roots))], Ob.vec true (1 : Nat) (ints (nameGo (push l x) rest).fst), Ob.vec true (1 : Nat) (ints (namesOf N (nameGo (push l x) rest).fst)), Ob.vec true (1 : Nat) (ints (nm ++ [newOf (push l x) x] ++ (nameGo (push l x) rest).snd))] (4 : Nat))) (show ((nameGo (push l x) rest).fst.length) = (((nameGo (push l x) rest).fst, newOf (push l x) x :: (nameGo (push l x) rest).snd).fst.length) by simp))).trans (congrArg (fun x_1 => Out.exit (0 : Nat) (at_ [((5 : Nat), V.vec (4 : Nat) ks.length (1 : Nat) (0 : Nat) ks.length)] [Ob.box [V.ptr (1 : Nat) (1 : Nat) (0 : Nat) (0 : Nat), V.vec (2 : Nat) ((nameGo (push l x) rest).fst, newOf (push l x) x :: (nameGo (push l x) rest).snd).fst.length (1 : Nat) (0 : Nat) ((nameGo (push l x) rest).fst, newOf (push l x) x :: (nameGo (push l x) rest).snd).fst.length, V.vec (3 : Nat) N (1 : Nat) (0 : Nat) N], Ob.box [V.t (T.seq (2 : Nat) (List.map Obj.ce h.objects)), V.t (T.seq (1 : Nat) (List.map intt h.roots))], Ob.vec true (1 : Nat) x_1, Ob.vec true (1 : Nat) (ints (namesOf N (nameGo (push l x) rest).fst)), Ob.vec true (1 : Nat) (ints (nm ++ [newOf (push l x) x] ++ (nameGo (push l x) rest).snd))] (4 : Nat))) (show (ints (nameGo (push l x) rest).fst) = (ints ((nameGo (push l x) rest).fst, newOf (push l x) x :: (nameGo (push l x) rest).snd).fst) by simp))).trans (congrArg (fun x_1 => Out.exit (0 : Nat) (at_ [((5 : Nat), V.vec (4 : Nat) ks.length (1 : Nat) (0 : Nat) ks.length)] [Ob.box [V.ptr (1 : Nat) (1 : Nat) (0 : Nat) (0 : Nat), V.vec (2 : Nat) ((nameGo (push l x) rest).fst, newOf (push l x) x :: (nameGo (push l x) rest).snd).fst.length (1 : Nat) (0 : Nat) ((nameGo (push l x) rest).fst, newOf (push l x) x :: (nameGo (push l x) rest).snd).fst.length, V.vec (3 : Nat) N (1 : Nat) (0 : Nat) N], Ob.box [V.t (T.seq (2 : Nat) (List.map Obj.ce h.objects)), V.t (T.seq (1 : Nat) (List.map intt h.roots))], Ob.vec true (1 : Nat) (ints ((nameGo (push l x) rest).fst, newOf (push l x) x :: (nameGo (push l x) rest).snd).fst), Ob.vec true (1 : Nat) x_1, Ob.vec true (1 : Nat) (ints (nm ++ [newOf (push l x) x] ++ (nameGo (push l x) rest).snd))] (4 : Nat))) (show (ints (namesOf N (nameGo (push l x) rest).fst)) = (ints (namesOf N ((nameGo (push l x) rest).fst, newOf (push l x) x :: (nameGo (push l x) rest).snd).fst)) by simp))).trans (congrArg (fun x_1 => Out.exit (0 : Nat) (at_ [((5 : Nat), V.vec (4 : Nat) ks.length (1 : Nat) (0 : Nat) ks.length)] [Ob.box [V.ptr (1 : Nat) (1 : Nat) (0 : Nat) (0 : Nat), V.vec (2 : Nat) ((nameGo (push l x) rest).fst, newOf (push l x) x :: (nameGo (push l x) rest).snd).fst.length (1 : Nat) (0 : Nat) ((nameGo (push l x) rest).fst, newOf (push l x) x :: (nameGo (push l x) rest).snd).fst.length, V.vec (3 : Nat) N (1 : Nat) (0 : Nat) N], Ob.box [V.t (T.seq (2 : Nat) (List.map Obj.ce h.objects)), V.t (T.seq (1 : Nat) (List.map intt h.roots))], Ob.vec true (1 : Nat) (ints ((nameGo (push l x) rest).fst, newOf (push l x) x :: (nameGo (push l x) rest).snd).fst), Ob.vec true (1 : Nat) (ints (namesOf N ((nameGo (push l x) rest).fst, newOf (push l x) x :: (nameGo (push l x) rest).snd).fst)), Ob.vec true (1 : Nat) x_1] (4 : Nat))) (show (ints (nm ++ [newOf (push l x) x] ++ (nameGo (push l x) rest).snd)) = (ints (nm ++ ((nameGo (push l x) rest).fst, newOf (push l x) x :: (nameGo (push l x) rest).snd).snd)) by simp)))
theorem all_ev (h : Hp) (N : Nat) (hN : N ≤ 40) (ks l : List Int) (hks : ks.length ≤ 100) (hkb : ∀ k ∈ ks, k < N) (hl : l.length ≤ 100) (h0 : ∀ x ∈ l, 0 ≤ x) :
    Ev pr (.call 79 [.ptr 0 1 0 0, isq ks] (cpObs h N l)) (.val (isq (nameGo l ks).2) (cpObs h N (nameGo l ks).1)) := by
  have g := allL_ev h N hN ks hks hkb ks [] l [] rfl rfl (by simpa using hl) h0
  have hlen : ∀ (ks l : List Int), (nameGo l ks).2.length = ks.length := by
    intro ks
    induction ks with
    | nil => intro l; rfl
    | cons k ks ih => intro l; simp only [nameGo, List.length_cons, ih]
  have hln := hlen ks l
  rw [show ints ([] ++ List.replicate ks.length (0 : Int)) = List.replicate ks.length [C.t (.int .i64 0)] by simp [ints, intc]] at g
  generalize nameGo l ks = q at *
  obtain ⟨q1, q2⟩ := q
  dsimp only at g hln ⊢
  rw [List.nil_append, ← hln] at g
  have ht : List.take q2.length (q2.map intt) = q2.map intt := List.take_of_length_le (by simp)
  let t0 : Tp pr := .i (show ((↑(List.map intt ks).length : Int) : Int) = (↑ks.length : Int) by simp)
  let t1 : Tp pr := .m (show (decide ((0 : Int) ≤ (↑ks.length : Int) ∧ (↑ks.length : Int) ≤ (↑ks.length : Int) ∧ (↑ks.length : Int) ≤ (4294967296 : Int))) = true by (simp; omega))
  let t2 : Tp pr := .c (show ((↑ks.length : Int).toNat : Nat) = ks.length by omega)
  let t3 : Tp pr := .n .crows (rfl : (List.replicate ks.length [C.t (T.int IntKind.i64 (0 : Int))]) = _)
  let t4 : Tp pr := .i (show ((↑(List.map intt ks).length : Int) : Int) = (↑ks.length : Int) by simp)
  let t5 : Tp pr := .a (Ev.castq (((congrArg (fun x => Q.loop (lq pr (79 : Nat) (0 : Nat)) (at_ [((0 : Nat), V.ptr (0 : Nat) (1 : Nat) (0 : Nat) (0 : Nat)), ((5 : Nat), V.vec (4 : Nat) q2.length (1 : Nat) (0 : Nat) q2.length), ((11 : Nat), V.t (T.seq (1 : Nat) (List.map intt ks))), ((12 : Nat), V.t (T.int IntKind.i64 (↑q2.length : Int))), ((13 : Nat), V.t (T.int IntKind.i64 (0 : Int)))] [Ob.box [V.ptr (1 : Nat) (1 : Nat) (0 : Nat) (0 : Nat), V.vec (2 : Nat) l.length (1 : Nat) (0 : Nat) l.length, V.vec (3 : Nat) N (1 : Nat) (0 : Nat) N], Ob.box [V.t (T.seq (2 : Nat) (List.map Obj.ce h.objects)), V.t (T.seq (1 : Nat) (List.map intt h.roots))], Ob.vec true (1 : Nat) (ints l), Ob.vec true (1 : Nat) (ints (namesOf N l)), Ob.vec true (1 : Nat) (List.replicate q2.length [C.t (T.int IntKind.i64 (0 : Int))])] (4 : Nat))) (show (List.replicate q2.length [C.t (T.int IntKind.i64 (0 : Int))]) = (List.replicate ks.length [C.t (T.int IntKind.i64 (0 : Int))]) by simp [hln, ints, intc])).trans (congrArg (fun x => Q.loop (lq pr (79 : Nat) (0 : Nat)) (at_ [((0 : Nat), V.ptr (0 : Nat) (1 : Nat) (0 : Nat) (0 : Nat)), ((5 : Nat), V.vec (4 : Nat) q2.length (1 : Nat) (0 : Nat) q2.length), ((11 : Nat), V.t (T.seq (1 : Nat) (List.map intt ks))), ((12 : Nat), V.t (T.int IntKind.i64 (↑q2.length : Int))), ((13 : Nat), V.t (T.int IntKind.i64 (0 : Int)))] [Ob.box [V.ptr (1 : Nat) (1 : Nat) (0 : Nat) (0 : Nat), V.vec (2 : Nat) l.length (1 : Nat) (0 : Nat) l.length, V.vec (3 : Nat) N (1 : Nat) (0 : Nat) N], Ob.box [V.t (T.seq (2 : Nat) (List.map Obj.ce h.objects)), V.t (T.seq (1 : Nat) (List.map intt h.roots))], Ob.vec true (1 : Nat) (ints l), Ob.vec true (1 : Nat) (ints (namesOf N l)), Ob.vec true (1 : Nat) (List.replicate q2.length [C.t (T.int IntKind.i64 (0 : Int))])] (4 : Nat))) (show ((↑q2.length : Int)) = ((↑ks.length : Int)) by simp [hln, ints, intc]))).trans (congrArg (fun x => Q.loop (lq pr (79 : Nat) (0 : Nat)) (at_ [((0 : Nat), V.ptr (0 : Nat) (1 : Nat) (0 : Nat) (0 : Nat)), ((5 : Nat), V.vec (4 : Nat) x (1 : Nat) (0 : Nat) x), ((11 : Nat), V.t (T.seq (1 : Nat) (List.map intt ks))), ((12 : Nat), V.t (T.int IntKind.i64 (↑x : Int))), ((13 : Nat), V.t (T.int IntKind.i64 (0 : Int)))] [Ob.box [V.ptr (1 : Nat) (1 : Nat) (0 : Nat) (0 : Nat), V.vec (2 : Nat) l.length (1 : Nat) (0 : Nat) l.length, V.vec (3 : Nat) N (1 : Nat) (0 : Nat) N], Ob.box [V.t (T.seq (2 : Nat) (List.map Obj.ce h.objects)), V.t (T.seq (1 : Nat) (List.map intt h.roots))], Ob.vec true (1 : Nat) (ints l), Ob.vec true (1 : Nat) (ints (namesOf N l)), Ob.vec true (1 : Nat) (List.replicate x [C.t (T.int IntKind.i64 (0 : Int))])] (4 : Nat))) (show (q2.length) = (ks.length) by simp [hln, ints, intc]))) (g))
  let t6 : Tp pr := .m (show (decide ((ints q2).length = q2.length ∧ (0 : Nat) + q2.length ≤ q2.length)) = true by simp)
  let t7 : Tp pr := .n .rows (show (List.map (fun x => List.map C.fz x) (List.take q2.length (List.drop (0 : Nat) (ints q2)))) = List.map intt q2 by simp)
  exact .tp [t0, t1, t2, t3, t4, t5, t6, t7] (by kernel_rfl)
end Go.Ev

/- Copies of heaps: the copier's first row of names. -/
namespace Go.Ev
set_option linter.unusedVariables false
set_option linter.unusedSimpArgs false
open Go.Proofs
set_option maxRecDepth 100000
set_option linter.unusedVariables false
set_option maxHeartbeats 4000000
attribute [local simp] ints_takeC
def cpN (h : Hp) (N : Nat) (l out : List Int) : List Ob := [.box [.ptr 1 1 0 0, .vec 4 l.length 1 0 l.length, .vec 2 N 1 0 N], .box [osq h.objects, isq h.roots], .vec true 1 (ints (namesOf N l)), .vec true 1 (ints out), .vec true 1 (ints l)]
theorem allNL_ev (h : Hp) (N : Nat) (hN : N ≤ 40) (ks : List Int) (hks : ks.length ≤ 100) (hkb : ∀ k ∈ ks, k < N) : ∀ (rest dn l nm : List Int), ks = dn ++ rest → nm.length = dn.length → l.length ≤ 100 + dn.length → (∀ x ∈ l, 0 ≤ x) →
    Ev pr (.loop (lq pr 79 0) (at_ [(0, .ptr 0 1 0 0), (5, .vec 3 ks.length 1 0 ks.length), (11, isq ks), (12, i64 ks.length), (13, i64 dn.length)] (cpN h N l (nm ++ List.replicate rest.length 0)) 3))
      (.exit 0 (at_ [(5, .vec 3 ks.length 1 0 ks.length)] (cpN h N (nameGo l rest).1 (nm ++ (nameGo l rest).2)) 3))
  | [], dn, l, nm, he, hn, hl, h0 => by
    have hll : (ks.length : Int) = dn.length := by simp [he]
    rw [show nameGo l [] = (l, []) from rfl]
    let t0 : Tp pr := .b (show (decide ((↑dn.length : Int) < (↑ks.length : Int))) = false by (simp; omega))
    exact .tp [t0] (by kernel_rfl)
  | x :: rest, dn, l, nm, he, hn, hl, h0 => by
    have hll : (ks.length : Int) = dn.length + 1 + rest.length := by simp [he]; omega
    have hg : lkp (ks.map intt) (dn.length : Int) = some [T.int .i64 x] := by rw [he]; simp [intt]
    have hp := name_ev h N hN l (by have := congrArg List.length he; simp at this; omega) h0 x (hkb x (by simp [he]))
    have hpl := push_len l x
    have ih := allNL_ev h N hN ks hks hkb rest (dn ++ [x]) (push l x) (nm ++ [newOf (push l x) x]) (by simp [he]) (by simp [hn]) (by simp; omega) (push_nonneg h0)
    rw [show nameGo l (x :: rest) = ((nameGo (push l x) rest).1, newOf (push l x) x :: (nameGo (push l x) rest).2) from rfl]
    rw [show List.replicate (x :: rest).length (0 : Int) = 0 :: List.replicate rest.length 0 from rfl]
    have hg2 : (ints (nm ++ 0 :: List.replicate rest.length 0))[dn.length]? = some [C.t (.int .i64 0)] := by rw [← hn]; simp
    have hs2 : ∀ y : Int, (ints (nm ++ 0 :: List.replicate rest.length 0)).set dn.length [C.t (.int .i64 y)] = ints (nm ++ y :: List.replicate rest.length 0) := fun y => by rw [← hn]; simp
    rw [show nm ++ [newOf (push l x) x] ++ List.replicate rest.length 0 = nm ++ newOf (push l x) x :: List.replicate rest.length 0 by simp] at ih
    unfold cpN at ih ⊢
    rw [← hs2] at ih
    let t0 : Tp pr := .b (show (decide ((↑dn.length : Int) < (↑ks.length : Int))) = true by (simp; omega))
    let t1 : Tp pr := .g .row (show (lkp (List.map intt ks) (↑dn.length : Int)) = some ([T.int IntKind.i64 x]) from hg)
    let t3 : Tp pr := .m (show (decide ((0 : Int) ≤ (↑dn.length : Int) ∧ (↑dn.length : Int).toNat < ks.length)) = true by simp [*])
    let t4 : Tp pr := .c (show ((0 : Nat) + (↑dn.length : Int).toNat : Nat) = dn.length by omega)
    let t5 : Tp pr := .m (show (decide ((ints (nm ++ (0 : Int) :: List.replicate rest.length (0 : Int))).length = ks.length)) = true by simp [*])
    let t6 : Tp pr := .g .crow (show ((ints (nm ++ (0 : Int) :: List.replicate rest.length (0 : Int)))[dn.length]?) = some ([C.t (T.int IntKind.i64 (0 : Int))]) from hg2)
    let t7 : Tp pr := .n .crows (show ((ints (nm ++ (0 : Int) :: List.replicate rest.length (0 : Int))).set dn.length [C.t (T.int IntKind.i64 (newOf (push l x) x))]) = ints ((nm ++ (0 : Int) :: List.replicate rest.length (0 : Int)).set dn.length (newOf (push l x) x)) by simp)
    let t8 : Tp pr := .i (wrap_i64 (a := (↑dn.length : Int) + (1 : Int)) (by omega) (by omega))
    let t9 : Tp pr := .a (Ev.castq ((congrArg (fun x_1 => Q.loop (lq pr (79 : FuncId) (0 : Nat)) (at_ [((0 : Nat), V.ptr (0 : Nat) (1 : Nat) (0 : Nat) (0 : Nat)), ((5 : Nat), V.vec (3 : Nat) ks.length (1 : Nat) (0 : Nat) ks.length), ((11 : Nat), isq ks), ((12 : Nat), i64 (↑ks.length : Int)), ((13 : Nat), i64 x_1)] [Ob.box [V.ptr (1 : Nat) (1 : Nat) (0 : Nat) (0 : Nat), V.vec (4 : Nat) (push l x).length (1 : Nat) (0 : Nat) (push l x).length, V.vec (2 : Nat) N (1 : Nat) (0 : Nat) N], Ob.box [osq h.objects, isq h.roots], Ob.vec true (1 : Nat) (ints (namesOf N (push l x))), Ob.vec true (1 : Nat) ((ints (nm ++ (0 : Int) :: List.replicate rest.length (0 : Int))).set dn.length [C.t (T.int IntKind.i64 (newOf (push l x) x))]), Ob.vec true (1 : Nat) (ints (push l x))] (3 : Nat))) (show ((↑(dn ++ [x]).length : Int)) = ((↑dn.length : Int) + (1 : Int)) by simp)).trans (congrArg (fun x_1 => Q.loop (lq pr (79 : FuncId) (0 : Nat)) (at_ [((0 : Nat), V.ptr (0 : Nat) (1 : Nat) (0 : Nat) (0 : Nat)), ((5 : Nat), V.vec (3 : Nat) ks.length (1 : Nat) (0 : Nat) ks.length), ((11 : Nat), isq ks), ((12 : Nat), i64 (↑ks.length : Int)), ((13 : Nat), i64 ((↑dn.length : Int) + (1 : Int)))] [Ob.box [V.ptr (1 : Nat) (1 : Nat) (0 : Nat) (0 : Nat), V.vec (4 : Nat) (push l x).length (1 : Nat) (0 : Nat) (push l x).length, V.vec (2 : Nat) N (1 : Nat) (0 : Nat) N], Ob.box [osq h.objects, isq h.roots], Ob.vec true (1 : Nat) (ints (namesOf N (push l x))), Ob.vec true (1 : Nat) x_1, Ob.vec true (1 : Nat) (ints (push l x))] (3 : Nat))) (show ((ints (nm ++ (0 : Int) :: List.replicate rest.length (0 : Int))).set dn.length [C.t (T.int IntKind.i64 (newOf (push l x) x))]) = (ints ((nm ++ (0 : Int) :: List.replicate rest.length (0 : Int)).set dn.length (newOf (push l x) x))) by simp))) (ih))
    exact .tpe [t0, t1, .a (hp), t3, t4, t5, t6, t7, t8, t9] (Out.exit (0 : Nat) (at_ [((5 : Nat), V.vec (3 : Nat) ks.length (1 : Nat) (0 : Nat) ks.length)] [Ob.box [V.ptr (1 : Nat) (1 : Nat) (0 : Nat) (0 : Nat), V.vec (4 : Nat) (nameGo (push l x) rest).fst.length (1 : Nat) (0 : Nat) (nameGo (push l x) rest).fst.length, V.vec (2 : Nat) N (1 : Nat) (0 : Nat) N], Ob.box [V.t (T.seq (2 : Nat) (List.map Obj.ce h.objects)), V.t (T.seq (1 : Nat) (List.map intt h.roots))], Ob.vec true (1 : Nat) (ints (namesOf N (nameGo (push l x) rest).fst)), Ob.vec true (1 : Nat) (ints (nm ++ [newOf (push l x) x] ++ (nameGo (push l x) rest).snd)), Ob.vec true (1 : Nat) (ints (nameGo (push l x) rest).fst)] (3 : Nat))) (by kernel_rfl) (((((congrArg (fun x_1 => Out.exit (0 : Nat) (at_ [((5 : Nat), V.vec (3 : Nat) ks.length (1 : Nat) (0 : Nat) ks.length)] [Ob.box [V.ptr (1 : Nat) (1 : Nat) (0 : Nat) (0 : Nat), V.vec (4 : Nat) x_1 (1 : Nat) (0 : Nat) (nameGo (push l x) rest).fst.length, V.vec (2 : Nat) N (1 : Nat) (0 : Nat) N], Ob.box [V.t (T.seq (2 : Nat) (List.map Obj.ce h.objects)), V.t (T.seq (1 : Nat) (List.map intt h.roots))], Ob.vec true (1 : Nat) (ints (namesOf N (nameGo (push l x) rest).fst)), Ob.vec true (1 : Nat) (ints (nm ++ [newOf (push l x) x] ++ (nameGo (push l x) rest).snd)), Ob.vec true (1 : Nat) (ints (nameGo (push l x) rest).fst)] (3 : Nat))) (show ((nameGo (push l x) rest).fst.length) = (((nameGo (push l x) rest).fst, newOf (push l x) x :: (nameGo (push l x) rest).snd).fst.length) by simp)).trans (congrArg (fun x_1 => Out.exit (0 : Nat) (at_ [((5 : Nat), V.vec (3 : Nat) ks.length (1 : Nat) (0 : Nat) ks.length)] [Ob.box [V.ptr (1 : Nat) (1 : Nat) (0 : Nat) (0 : Nat), V.vec (4 : Nat) ((nameGo (push l x) rest).fst, newOf (push l x) x :: (nameGo (push l x) rest).snd).fst.length (1 : Nat) (0 : Nat) x_1, V.vec (2 : Nat) N (1 : Nat) (0 : Nat) N], Ob.box [V.t (T.seq (2 : Nat) (List.map Obj.ce h.objects)), V.t (T.seq (1 : Nat) (List.map intt h.roots))], Ob.vec true (1 : Nat) (ints (namesOf N (nameGo (push l x) rest).fst)), Ob.vec true (1 : Nat) (ints (nm ++ [newOf (push l x) x] ++ (nameGo (push l x) rest).snd)), Ob.vec true (1 : Nat) (ints (nameGo (push l x) rest).fst)] (3 : Nat))) (show ((nameGo (push l x) rest).fst.length) = (((nameGo (push l x) rest).fst, newOf (push l x) x :: (nameGo (push l x) rest).snd).fst.length) by simp))).trans (congrArg (fun x_1 => Out.exit (0 : Nat) (at_ [((5 : Nat), V.vec (3 : Nat) ks.length (1 : Nat) (0 : Nat) ks.length)] [Ob.box [V.ptr (1 : Nat) (1 : Nat) (0 : Nat) (0 : Nat), V.vec (4 : Nat) ((nameGo (push l x) rest).fst, newOf (push l x) x :: (nameGo (push l x) rest).snd).fst.length (1 : Nat) (0 : Nat) ((nameGo (push l x) rest).fst, newOf (push l x) x :: (nameGo (push l x) rest).snd).fst.length, V.vec (2 : Nat) N (1 : Nat) (0 : Nat) N], Ob.box [V.t (T.seq (2 : Nat) (List.map Obj.ce h.objects)), V.t (T.seq (1 : Nat) (List.map intt h.roots))], Ob.vec true (1 : Nat) x_1, Ob.vec true (1 : Nat) (ints (nm ++ [newOf (push l x) x] ++ (nameGo (push l x) rest).snd)), Ob.vec true (1 : Nat) (ints (nameGo (push l x) rest).fst)] (3 : Nat))) (show (ints (namesOf N (nameGo (push l x) rest).fst)) = (ints (namesOf N ((nameGo (push l x) rest).fst, newOf (push l x) x :: (nameGo (push l x) rest).snd).fst)) by simp))).trans (congrArg (fun x_1 => Out.exit (0 : Nat) (at_ [((5 : Nat), V.vec (3 : Nat) ks.length (1 : Nat) (0 : Nat) ks.length)] [Ob.box [V.ptr (1 : Nat) (1 : Nat) (0 : Nat) (0 : Nat), V.vec (4 : Nat) ((nameGo (push l x) rest).fst, newOf (push l x) x :: (nameGo (push l x) rest).snd).fst.length (1 : Nat) (0 : Nat) ((nameGo (push l x) rest).fst, newOf (push l x) x :: (nameGo (push l x) rest).snd).fst.length, V.vec (2 : Nat) N (1 : Nat) (0 : Nat) N], Ob.box [V.t (T.seq (2 : Nat) (List.map Obj.ce h.objects)), V.t (T.seq (1 : Nat) (List.map intt h.roots))], Ob.vec true (1 : Nat) (ints (namesOf N ((nameGo (push l x) rest).fst, newOf (push l x) x :: (nameGo (push l x) rest).snd).fst)), Ob.vec true (1 : Nat) x_1, Ob.vec true (1 : Nat) (ints (nameGo (push l x) rest).fst)] (3 : Nat))) (show (ints (nm ++ [newOf (push l x) x] ++ (nameGo (push l x) rest).snd)) = (ints (nm ++ ((nameGo (push l x) rest).fst, newOf (push l x) x :: (nameGo (push l x) rest).snd).snd)) by simp))).trans (congrArg (fun x_1 => Out.exit (0 : Nat) (at_ [((5 : Nat), V.vec (3 : Nat) ks.length (1 : Nat) (0 : Nat) ks.length)] [Ob.box [V.ptr (1 : Nat) (1 : Nat) (0 : Nat) (0 : Nat), V.vec (4 : Nat) ((nameGo (push l x) rest).fst, newOf (push l x) x :: (nameGo (push l x) rest).snd).fst.length (1 : Nat) (0 : Nat) ((nameGo (push l x) rest).fst, newOf (push l x) x :: (nameGo (push l x) rest).snd).fst.length, V.vec (2 : Nat) N (1 : Nat) (0 : Nat) N], Ob.box [V.t (T.seq (2 : Nat) (List.map Obj.ce h.objects)), V.t (T.seq (1 : Nat) (List.map intt h.roots))], Ob.vec true (1 : Nat) (ints (namesOf N ((nameGo (push l x) rest).fst, newOf (push l x) x :: (nameGo (push l x) rest).snd).fst)), Ob.vec true (1 : Nat) (ints (nm ++ ((nameGo (push l x) rest).fst, newOf (push l x) x :: (nameGo (push l x) rest).snd).snd)), Ob.vec true (1 : Nat) x_1] (3 : Nat))) (show (ints (nameGo (push l x) rest).fst) = (ints ((nameGo (push l x) rest).fst, newOf (push l x) x :: (nameGo (push l x) rest).snd).fst) by simp)))
theorem nameGo_len2 : ∀ (ks l : List Int), (nameGo l ks).2.length = ks.length
  | [], l => rfl
  | k :: ks, l => by simp only [nameGo, List.length_cons, nameGo_len2 ks]
theorem allN_ev (h : Hp) (N : Nat) (hN : N ≤ 40) (ks : List Int) (hks : ks.length ≤ 100) (hkb : ∀ k ∈ ks, k < N) :
    Ev pr (.call 79 [.ptr 0 1 0 0, isq ks] [.box [.ptr 1 1 0 0, .t .nils, .vec 2 N 1 0 N], .box [osq h.objects, isq h.roots], .vec true 1 (ints (namesOf N []))])
      (.val (isq (nameGo [] ks).2) [.box [.ptr 1 1 0 0, .vec 3 (nameGo [] ks).1.length 1 0 (nameGo [] ks).1.length, .vec 2 N 1 0 N], .box [osq h.objects, isq h.roots], .vec true 1 (ints (namesOf N (nameGo [] ks).1)), .vec true 1 (ints (nameGo [] ks).1)]) := by
  have g := allNL_ev h N hN ks hks hkb ks [] [] [] rfl rfl (by simp) (by simp)
  have hln := nameGo_len2 ks []
  rw [show ([] : List Int) ++ List.replicate ks.length (0 : Int) = List.replicate ks.length 0 from rfl] at g
  unfold cpN at g
  rw [show ints (List.replicate ks.length (0 : Int)) = List.replicate ks.length [C.t (.int .i64 0)] by simp [ints, intc]] at g
  generalize nameGo [] ks = q at *
  obtain ⟨q1, q2⟩ := q
  dsimp only at g hln ⊢
  rw [List.nil_append, ← hln] at g
  have ht : List.take q2.length (q2.map intt) = q2.map intt := List.take_of_length_le (by simp)
  let t0 : Tp pr := .i (show ((↑(List.map intt ks).length : Int) : Int) = (↑ks.length : Int) by simp)
  let t1 : Tp pr := .m (show (decide ((0 : Int) ≤ (↑ks.length : Int) ∧ (↑ks.length : Int) ≤ (↑ks.length : Int) ∧ (↑ks.length : Int) ≤ (4294967296 : Int))) = true by (simp; omega))
  let t2 : Tp pr := .c (show ((↑ks.length : Int).toNat : Nat) = ks.length by omega)
  let t3 : Tp pr := .n .crows (rfl : (List.replicate ks.length [C.t (T.int IntKind.i64 (0 : Int))]) = _)
  let t4 : Tp pr := .i (show ((↑(List.map intt ks).length : Int) : Int) = (↑ks.length : Int) by simp)
  let t5 : Tp pr := .a (Ev.castq (((congrArg (fun x => Q.loop (lq pr (79 : Nat) (0 : Nat)) (at_ [((0 : Nat), V.ptr (0 : Nat) (1 : Nat) (0 : Nat) (0 : Nat)), ((5 : Nat), V.vec (3 : Nat) q2.length (1 : Nat) (0 : Nat) q2.length), ((11 : Nat), V.t (T.seq (1 : Nat) (List.map intt ks))), ((12 : Nat), V.t (T.int IntKind.i64 (↑q2.length : Int))), ((13 : Nat), V.t (T.int IntKind.i64 (0 : Int)))] [Ob.box [V.ptr (1 : Nat) (1 : Nat) (0 : Nat) (0 : Nat), V.vec (4 : Nat) (0 : Nat) (1 : Nat) (0 : Nat) (0 : Nat), V.vec (2 : Nat) N (1 : Nat) (0 : Nat) N], Ob.box [V.t (T.seq (2 : Nat) (List.map Obj.ce h.objects)), V.t (T.seq (1 : Nat) (List.map intt h.roots))], Ob.vec true (1 : Nat) (ints (namesOf N [])), Ob.vec true (1 : Nat) (List.replicate q2.length [C.t (T.int IntKind.i64 (0 : Int))]), Ob.vec true (1 : Nat) []] (3 : Nat))) (show (List.replicate q2.length [C.t (T.int IntKind.i64 (0 : Int))]) = (List.replicate ks.length [C.t (T.int IntKind.i64 (0 : Int))]) by simp [hln, ints, intc])).trans (congrArg (fun x => Q.loop (lq pr (79 : Nat) (0 : Nat)) (at_ [((0 : Nat), V.ptr (0 : Nat) (1 : Nat) (0 : Nat) (0 : Nat)), ((5 : Nat), V.vec (3 : Nat) q2.length (1 : Nat) (0 : Nat) q2.length), ((11 : Nat), V.t (T.seq (1 : Nat) (List.map intt ks))), ((12 : Nat), V.t (T.int IntKind.i64 (↑q2.length : Int))), ((13 : Nat), V.t (T.int IntKind.i64 (0 : Int)))] [Ob.box [V.ptr (1 : Nat) (1 : Nat) (0 : Nat) (0 : Nat), V.vec (4 : Nat) (0 : Nat) (1 : Nat) (0 : Nat) (0 : Nat), V.vec (2 : Nat) N (1 : Nat) (0 : Nat) N], Ob.box [V.t (T.seq (2 : Nat) (List.map Obj.ce h.objects)), V.t (T.seq (1 : Nat) (List.map intt h.roots))], Ob.vec true (1 : Nat) (ints (namesOf N [])), Ob.vec true (1 : Nat) (List.replicate q2.length [C.t (T.int IntKind.i64 (0 : Int))]), Ob.vec true (1 : Nat) []] (3 : Nat))) (show ((↑q2.length : Int)) = ((↑ks.length : Int)) by simp [hln, ints, intc]))).trans (congrArg (fun x => Q.loop (lq pr (79 : Nat) (0 : Nat)) (at_ [((0 : Nat), V.ptr (0 : Nat) (1 : Nat) (0 : Nat) (0 : Nat)), ((5 : Nat), V.vec (3 : Nat) x (1 : Nat) (0 : Nat) x), ((11 : Nat), V.t (T.seq (1 : Nat) (List.map intt ks))), ((12 : Nat), V.t (T.int IntKind.i64 (↑x : Int))), ((13 : Nat), V.t (T.int IntKind.i64 (0 : Int)))] [Ob.box [V.ptr (1 : Nat) (1 : Nat) (0 : Nat) (0 : Nat), V.vec (4 : Nat) (0 : Nat) (1 : Nat) (0 : Nat) (0 : Nat), V.vec (2 : Nat) N (1 : Nat) (0 : Nat) N], Ob.box [V.t (T.seq (2 : Nat) (List.map Obj.ce h.objects)), V.t (T.seq (1 : Nat) (List.map intt h.roots))], Ob.vec true (1 : Nat) (ints (namesOf N [])), Ob.vec true (1 : Nat) (List.replicate x [C.t (T.int IntKind.i64 (0 : Int))]), Ob.vec true (1 : Nat) []] (3 : Nat))) (show (q2.length) = (ks.length) by simp [hln, ints, intc]))) (g))
  let t6 : Tp pr := .m (show (decide ((ints q2).length = q2.length ∧ (0 : Nat) + q2.length ≤ q2.length)) = true by simp)
  let t7 : Tp pr := .n .rows (show (List.map (fun x => List.map C.fz x) (List.take q2.length (List.drop (0 : Nat) (ints q2)))) = List.map intt q2 by simp)
  exact .tp [t0, t1, t2, t3, t4, t5, t6, t7] (by kernel_rfl)
end Go.Ev

/- Copies of heaps. -/
namespace Go.Ev
set_option linter.unusedVariables false
set_option linter.unusedSimpArgs false
open Go.Proofs
set_option maxRecDepth 100000
set_option linter.unusedVariables false
set_option maxHeartbeats 4000000
attribute [local simp] ints_takeC
@[simp] theorem ints_flat9 (fl : Bool) (n : Nat) (l : List Int) : Ob.flat (.vec fl n (ints l)) = true := by simp [Ob.flat, ints, intc, C.flat, T.flat]
@[simp] theorem rep_flat9 (fl : Bool) (n m : Nat) (k : Int) : Ob.flat (.vec fl n (List.replicate m [C.t (.int .i64 k)])) = true := by simp [Ob.flat, C.flat, T.flat]
theorem namesOf_nil (N : Nat) : namesOf N [] = List.replicate N (-1) := by
  apply List.ext_getElem?
  intro j
  simp only [namesOf, List.getElem?_map, List.getElem?_replicate]
  by_cases hj : j < N
  · rw [List.getElem?_range hj, if_pos hj]; rfl
  · rw [List.getElem?_eq_none (by simpa using hj), if_neg hj]; rfl
def chM (h : Hp) (l : List Int) (rt : List Int) (outs : List Obj) : List Ob :=
  [.box [osq h.objects, isq h.roots], .box [.t .nils, .t .nils], .box [.ptr 0 1 0 0, .vec 4 l.length 1 0 l.length, .vec 5 h.objects.length 1 0 h.objects.length], .box [.vec 6 outs.length 2 0 outs.length, isq rt],
   .vec true 1 (ints l), .vec true 1 (ints (namesOf h.objects.length l)), .vec true 2 (outs.map fun o => o.ce.map C.t)]
def chE (h : Hp) (l : List Int) (rt : List Int) (outs : List Obj) : List Ob :=
  [.box [.t .nils, .t .nils], .box [.ptr 3 1 0 0, .vec 4 l.length 1 0 l.length, .vec 5 h.objects.length 1 0 h.objects.length], .box [.vec 6 outs.length 2 0 outs.length, isq rt],
   .box [osq h.objects, isq h.roots], .vec true 1 (ints l), .vec true 1 (ints (namesOf h.objects.length l)), .vec true 2 (outs.map fun o => o.ce.map C.t)]
theorem outs_app (outs : List Obj) (o : Obj) : ((outs ++ [o]).map fun o => o.ce.map C.t) = (outs.map fun o => o.ce.map C.t).append [[C.t (.int .i64 o.mark), C.t (.seq 1 (o.links.map intt))]] := by simp [Obj.ce]
theorem ints_get9 {l : List Int} {i : Nat} {k : Int} (h : l[i]? = some k) : (ints l)[i]? = some [C.t (.int .i64 k)] := by simp [ints, h, intc]
theorem obs_get9 {h : Hp} {k : Int} (h0 : 0 ≤ k) (h1 : k < h.objects.length) : lkp (h.objects.map Obj.ce) k = some (objAt h k).ce := by
  obtain ⟨n, rfl⟩ : ∃ n : Nat, k = n := ⟨k.toNat, by omega⟩
  have hn : n < h.objects.length := by omega
  simp [objAt, List.getD_eq_getElem?_getD, hn, lkp]
theorem copyL_ev (h : Hp) (hg : GoodH h) (rt : List Int) : ∀ (n i : Nat) (l : List Int) (outs : List Obj), done h n i l → outs.length = i → i ≤ l.length → l.Nodup → (∀ x ∈ l, 0 ≤ x ∧ x < h.objects.length) →
    Ev pr (.loop (lq pr 63 0) (at_ [(1, .ptr 0 1 0 0), (2, .ptr 1 1 0 0), (4, .ptr 2 1 0 0), (5, .ptr 3 1 0 0), (6, i64 i)] (chM h l rt outs) 0))
      (.exit 0 (at_ [(2, .ptr 0 1 0 0), (4, .ptr 1 1 0 0), (5, .ptr 2 1 0 0)] (chE h (copyGo h n i l).1 rt (outs ++ (copyGo h n i l).2)) 0))
  | 0, i, l, outs, hd, ho, hi, hn, hb => by
    have hd' : l.length ≤ i := hd
    have hl := nodup_len _ l hn hb
    have hc : copyGo h 0 i l = (l, []) := rfl
    rw [hc]
    have he : l.length = i := by omega
    have h1 := hg.objs
    let t1 : Tp pr := .b (show (decide ((↑i : Int) < (↑l.length : Int))) = false by (simp; omega))
    exact .tpe [.i (rfl : ((↑l.length : Int)) = _), t1] (Out.exit (0 : Nat) (at_ [((2 : Nat), V.ptr (0 : Nat) (1 : Nat) (0 : Nat) (0 : Nat)), ((4 : Nat), V.ptr (1 : Nat) (1 : Nat) (0 : Nat) (0 : Nat)), ((5 : Nat), V.ptr (2 : Nat) (1 : Nat) (0 : Nat) (0 : Nat))] [Ob.box [V.t T.nils, V.t T.nils], Ob.box [V.ptr (3 : Nat) (1 : Nat) (0 : Nat) (0 : Nat), V.vec (4 : Nat) l.length (1 : Nat) (0 : Nat) l.length, V.vec (5 : Nat) h.objects.length (1 : Nat) (0 : Nat) h.objects.length], Ob.box [V.vec (6 : Nat) outs.length (2 : Nat) (0 : Nat) outs.length, V.t (T.seq (1 : Nat) (List.map intt rt))], Ob.box [V.t (T.seq (2 : Nat) (List.map Obj.ce h.objects)), V.t (T.seq (1 : Nat) (List.map intt h.roots))], Ob.vec true (1 : Nat) (ints l), Ob.vec true (1 : Nat) (ints (namesOf h.objects.length l)), Ob.vec true (2 : Nat) (List.map (fun o => List.map C.t o.ce) outs)] (0 : Nat))) (by kernel_rfl) (((((((congrArg (fun x => Out.exit (0 : Nat) (at_ [((2 : Nat), V.ptr (0 : Nat) (1 : Nat) (0 : Nat) (0 : Nat)), ((4 : Nat), V.ptr (1 : Nat) (1 : Nat) (0 : Nat) (0 : Nat)), ((5 : Nat), V.ptr (2 : Nat) (1 : Nat) (0 : Nat) (0 : Nat))] [Ob.box [V.t T.nils, V.t T.nils], Ob.box [V.ptr (3 : Nat) (1 : Nat) (0 : Nat) (0 : Nat), V.vec (4 : Nat) x (1 : Nat) (0 : Nat) l.length, V.vec (5 : Nat) h.objects.length (1 : Nat) (0 : Nat) h.objects.length], Ob.box [V.vec (6 : Nat) outs.length (2 : Nat) (0 : Nat) outs.length, V.t (T.seq (1 : Nat) (List.map intt rt))], Ob.box [V.t (T.seq (2 : Nat) (List.map Obj.ce h.objects)), V.t (T.seq (1 : Nat) (List.map intt h.roots))], Ob.vec true (1 : Nat) (ints l), Ob.vec true (1 : Nat) (ints (namesOf h.objects.length l)), Ob.vec true (2 : Nat) (List.map (fun o => List.map C.t o.ce) outs)] (0 : Nat))) (show (l.length) = ((l, []).fst.length) by simp)).trans (congrArg (fun x => Out.exit (0 : Nat) (at_ [((2 : Nat), V.ptr (0 : Nat) (1 : Nat) (0 : Nat) (0 : Nat)), ((4 : Nat), V.ptr (1 : Nat) (1 : Nat) (0 : Nat) (0 : Nat)), ((5 : Nat), V.ptr (2 : Nat) (1 : Nat) (0 : Nat) (0 : Nat))] [Ob.box [V.t T.nils, V.t T.nils], Ob.box [V.ptr (3 : Nat) (1 : Nat) (0 : Nat) (0 : Nat), V.vec (4 : Nat) (l, []).fst.length (1 : Nat) (0 : Nat) x, V.vec (5 : Nat) h.objects.length (1 : Nat) (0 : Nat) h.objects.length], Ob.box [V.vec (6 : Nat) outs.length (2 : Nat) (0 : Nat) outs.length, V.t (T.seq (1 : Nat) (List.map intt rt))], Ob.box [V.t (T.seq (2 : Nat) (List.map Obj.ce h.objects)), V.t (T.seq (1 : Nat) (List.map intt h.roots))], Ob.vec true (1 : Nat) (ints l), Ob.vec true (1 : Nat) (ints (namesOf h.objects.length l)), Ob.vec true (2 : Nat) (List.map (fun o => List.map C.t o.ce) outs)] (0 : Nat))) (show (l.length) = ((l, []).fst.length) by simp))).trans (congrArg (fun x => Out.exit (0 : Nat) (at_ [((2 : Nat), V.ptr (0 : Nat) (1 : Nat) (0 : Nat) (0 : Nat)), ((4 : Nat), V.ptr (1 : Nat) (1 : Nat) (0 : Nat) (0 : Nat)), ((5 : Nat), V.ptr (2 : Nat) (1 : Nat) (0 : Nat) (0 : Nat))] [Ob.box [V.t T.nils, V.t T.nils], Ob.box [V.ptr (3 : Nat) (1 : Nat) (0 : Nat) (0 : Nat), V.vec (4 : Nat) (l, []).fst.length (1 : Nat) (0 : Nat) (l, []).fst.length, V.vec (5 : Nat) h.objects.length (1 : Nat) (0 : Nat) h.objects.length], Ob.box [V.vec (6 : Nat) x (2 : Nat) (0 : Nat) outs.length, V.t (T.seq (1 : Nat) (List.map intt rt))], Ob.box [V.t (T.seq (2 : Nat) (List.map Obj.ce h.objects)), V.t (T.seq (1 : Nat) (List.map intt h.roots))], Ob.vec true (1 : Nat) (ints l), Ob.vec true (1 : Nat) (ints (namesOf h.objects.length l)), Ob.vec true (2 : Nat) (List.map (fun o => List.map C.t o.ce) outs)] (0 : Nat))) (show (outs.length) = ((outs ++ (l, []).snd).length) by simp))).trans (congrArg (fun x => Out.exit (0 : Nat) (at_ [((2 : Nat), V.ptr (0 : Nat) (1 : Nat) (0 : Nat) (0 : Nat)), ((4 : Nat), V.ptr (1 : Nat) (1 : Nat) (0 : Nat) (0 : Nat)), ((5 : Nat), V.ptr (2 : Nat) (1 : Nat) (0 : Nat) (0 : Nat))] [Ob.box [V.t T.nils, V.t T.nils], Ob.box [V.ptr (3 : Nat) (1 : Nat) (0 : Nat) (0 : Nat), V.vec (4 : Nat) (l, []).fst.length (1 : Nat) (0 : Nat) (l, []).fst.length, V.vec (5 : Nat) h.objects.length (1 : Nat) (0 : Nat) h.objects.length], Ob.box [V.vec (6 : Nat) (outs ++ (l, []).snd).length (2 : Nat) (0 : Nat) x, V.t (T.seq (1 : Nat) (List.map intt rt))], Ob.box [V.t (T.seq (2 : Nat) (List.map Obj.ce h.objects)), V.t (T.seq (1 : Nat) (List.map intt h.roots))], Ob.vec true (1 : Nat) (ints l), Ob.vec true (1 : Nat) (ints (namesOf h.objects.length l)), Ob.vec true (2 : Nat) (List.map (fun o => List.map C.t o.ce) outs)] (0 : Nat))) (show (outs.length) = ((outs ++ (l, []).snd).length) by simp))).trans (congrArg (fun x => Out.exit (0 : Nat) (at_ [((2 : Nat), V.ptr (0 : Nat) (1 : Nat) (0 : Nat) (0 : Nat)), ((4 : Nat), V.ptr (1 : Nat) (1 : Nat) (0 : Nat) (0 : Nat)), ((5 : Nat), V.ptr (2 : Nat) (1 : Nat) (0 : Nat) (0 : Nat))] [Ob.box [V.t T.nils, V.t T.nils], Ob.box [V.ptr (3 : Nat) (1 : Nat) (0 : Nat) (0 : Nat), V.vec (4 : Nat) (l, []).fst.length (1 : Nat) (0 : Nat) (l, []).fst.length, V.vec (5 : Nat) h.objects.length (1 : Nat) (0 : Nat) h.objects.length], Ob.box [V.vec (6 : Nat) (outs ++ (l, []).snd).length (2 : Nat) (0 : Nat) (outs ++ (l, []).snd).length, V.t (T.seq (1 : Nat) (List.map intt rt))], Ob.box [V.t (T.seq (2 : Nat) (List.map Obj.ce h.objects)), V.t (T.seq (1 : Nat) (List.map intt h.roots))], Ob.vec true (1 : Nat) x, Ob.vec true (1 : Nat) (ints (namesOf h.objects.length l)), Ob.vec true (2 : Nat) (List.map (fun o => List.map C.t o.ce) outs)] (0 : Nat))) (show (ints l) = (ints (l, []).fst) by simp))).trans (congrArg (fun x => Out.exit (0 : Nat) (at_ [((2 : Nat), V.ptr (0 : Nat) (1 : Nat) (0 : Nat) (0 : Nat)), ((4 : Nat), V.ptr (1 : Nat) (1 : Nat) (0 : Nat) (0 : Nat)), ((5 : Nat), V.ptr (2 : Nat) (1 : Nat) (0 : Nat) (0 : Nat))] [Ob.box [V.t T.nils, V.t T.nils], Ob.box [V.ptr (3 : Nat) (1 : Nat) (0 : Nat) (0 : Nat), V.vec (4 : Nat) (l, []).fst.length (1 : Nat) (0 : Nat) (l, []).fst.length, V.vec (5 : Nat) h.objects.length (1 : Nat) (0 : Nat) h.objects.length], Ob.box [V.vec (6 : Nat) (outs ++ (l, []).snd).length (2 : Nat) (0 : Nat) (outs ++ (l, []).snd).length, V.t (T.seq (1 : Nat) (List.map intt rt))], Ob.box [V.t (T.seq (2 : Nat) (List.map Obj.ce h.objects)), V.t (T.seq (1 : Nat) (List.map intt h.roots))], Ob.vec true (1 : Nat) (ints (l, []).fst), Ob.vec true (1 : Nat) x, Ob.vec true (2 : Nat) (List.map (fun o => List.map C.t o.ce) outs)] (0 : Nat))) (show (ints (namesOf h.objects.length l)) = (ints (namesOf h.objects.length (l, []).fst)) by simp))).trans (congrArg (fun x => Out.exit (0 : Nat) (at_ [((2 : Nat), V.ptr (0 : Nat) (1 : Nat) (0 : Nat) (0 : Nat)), ((4 : Nat), V.ptr (1 : Nat) (1 : Nat) (0 : Nat) (0 : Nat)), ((5 : Nat), V.ptr (2 : Nat) (1 : Nat) (0 : Nat) (0 : Nat))] [Ob.box [V.t T.nils, V.t T.nils], Ob.box [V.ptr (3 : Nat) (1 : Nat) (0 : Nat) (0 : Nat), V.vec (4 : Nat) (l, []).fst.length (1 : Nat) (0 : Nat) (l, []).fst.length, V.vec (5 : Nat) h.objects.length (1 : Nat) (0 : Nat) h.objects.length], Ob.box [V.vec (6 : Nat) (outs ++ (l, []).snd).length (2 : Nat) (0 : Nat) (outs ++ (l, []).snd).length, V.t (T.seq (1 : Nat) (List.map intt rt))], Ob.box [V.t (T.seq (2 : Nat) (List.map Obj.ce h.objects)), V.t (T.seq (1 : Nat) (List.map intt h.roots))], Ob.vec true (1 : Nat) (ints (l, []).fst), Ob.vec true (1 : Nat) (ints (namesOf h.objects.length (l, []).fst)), Ob.vec true (2 : Nat) x] (0 : Nat))) (show (List.map (fun o => List.map C.t o.ce) outs) = (List.map (fun o => List.map C.t o.ce) (outs ++ (l, []).snd)) by simp)))
  | n + 1, i, l, outs, hd, ho, hi, hn, hb => by
    have hl := nodup_len _ l hn hb
    have h1 := hg.objs
    cases hk : l[i]? with
    | none =>
      have he : l.length ≤ i := List.getElem?_eq_none_iff.1 hk
      have he : l.length = i := by omega
      have hc : copyGo h (n + 1) i l = (l, []) := by rw [copyGo, hk]
      rw [hc]
      let t1 : Tp pr := .b (show (decide ((↑i : Int) < (↑l.length : Int))) = false by (simp; omega))
      exact .tpe [.i (rfl : ((↑l.length : Int)) = _), t1] (Out.exit (0 : Nat) (at_ [((2 : Nat), V.ptr (0 : Nat) (1 : Nat) (0 : Nat) (0 : Nat)), ((4 : Nat), V.ptr (1 : Nat) (1 : Nat) (0 : Nat) (0 : Nat)), ((5 : Nat), V.ptr (2 : Nat) (1 : Nat) (0 : Nat) (0 : Nat))] [Ob.box [V.t T.nils, V.t T.nils], Ob.box [V.ptr (3 : Nat) (1 : Nat) (0 : Nat) (0 : Nat), V.vec (4 : Nat) l.length (1 : Nat) (0 : Nat) l.length, V.vec (5 : Nat) h.objects.length (1 : Nat) (0 : Nat) h.objects.length], Ob.box [V.vec (6 : Nat) outs.length (2 : Nat) (0 : Nat) outs.length, V.t (T.seq (1 : Nat) (List.map intt rt))], Ob.box [V.t (T.seq (2 : Nat) (List.map Obj.ce h.objects)), V.t (T.seq (1 : Nat) (List.map intt h.roots))], Ob.vec true (1 : Nat) (ints l), Ob.vec true (1 : Nat) (ints (namesOf h.objects.length l)), Ob.vec true (2 : Nat) (List.map (fun o => List.map C.t o.ce) outs)] (0 : Nat))) (by kernel_rfl) (((((((congrArg (fun x => Out.exit (0 : Nat) (at_ [((2 : Nat), V.ptr (0 : Nat) (1 : Nat) (0 : Nat) (0 : Nat)), ((4 : Nat), V.ptr (1 : Nat) (1 : Nat) (0 : Nat) (0 : Nat)), ((5 : Nat), V.ptr (2 : Nat) (1 : Nat) (0 : Nat) (0 : Nat))] [Ob.box [V.t T.nils, V.t T.nils], Ob.box [V.ptr (3 : Nat) (1 : Nat) (0 : Nat) (0 : Nat), V.vec (4 : Nat) x (1 : Nat) (0 : Nat) l.length, V.vec (5 : Nat) h.objects.length (1 : Nat) (0 : Nat) h.objects.length], Ob.box [V.vec (6 : Nat) outs.length (2 : Nat) (0 : Nat) outs.length, V.t (T.seq (1 : Nat) (List.map intt rt))], Ob.box [V.t (T.seq (2 : Nat) (List.map Obj.ce h.objects)), V.t (T.seq (1 : Nat) (List.map intt h.roots))], Ob.vec true (1 : Nat) (ints l), Ob.vec true (1 : Nat) (ints (namesOf h.objects.length l)), Ob.vec true (2 : Nat) (List.map (fun o => List.map C.t o.ce) outs)] (0 : Nat))) (show (l.length) = ((l, []).fst.length) by simp)).trans (congrArg (fun x => Out.exit (0 : Nat) (at_ [((2 : Nat), V.ptr (0 : Nat) (1 : Nat) (0 : Nat) (0 : Nat)), ((4 : Nat), V.ptr (1 : Nat) (1 : Nat) (0 : Nat) (0 : Nat)), ((5 : Nat), V.ptr (2 : Nat) (1 : Nat) (0 : Nat) (0 : Nat))] [Ob.box [V.t T.nils, V.t T.nils], Ob.box [V.ptr (3 : Nat) (1 : Nat) (0 : Nat) (0 : Nat), V.vec (4 : Nat) (l, []).fst.length (1 : Nat) (0 : Nat) x, V.vec (5 : Nat) h.objects.length (1 : Nat) (0 : Nat) h.objects.length], Ob.box [V.vec (6 : Nat) outs.length (2 : Nat) (0 : Nat) outs.length, V.t (T.seq (1 : Nat) (List.map intt rt))], Ob.box [V.t (T.seq (2 : Nat) (List.map Obj.ce h.objects)), V.t (T.seq (1 : Nat) (List.map intt h.roots))], Ob.vec true (1 : Nat) (ints l), Ob.vec true (1 : Nat) (ints (namesOf h.objects.length l)), Ob.vec true (2 : Nat) (List.map (fun o => List.map C.t o.ce) outs)] (0 : Nat))) (show (l.length) = ((l, []).fst.length) by simp))).trans (congrArg (fun x => Out.exit (0 : Nat) (at_ [((2 : Nat), V.ptr (0 : Nat) (1 : Nat) (0 : Nat) (0 : Nat)), ((4 : Nat), V.ptr (1 : Nat) (1 : Nat) (0 : Nat) (0 : Nat)), ((5 : Nat), V.ptr (2 : Nat) (1 : Nat) (0 : Nat) (0 : Nat))] [Ob.box [V.t T.nils, V.t T.nils], Ob.box [V.ptr (3 : Nat) (1 : Nat) (0 : Nat) (0 : Nat), V.vec (4 : Nat) (l, []).fst.length (1 : Nat) (0 : Nat) (l, []).fst.length, V.vec (5 : Nat) h.objects.length (1 : Nat) (0 : Nat) h.objects.length], Ob.box [V.vec (6 : Nat) x (2 : Nat) (0 : Nat) outs.length, V.t (T.seq (1 : Nat) (List.map intt rt))], Ob.box [V.t (T.seq (2 : Nat) (List.map Obj.ce h.objects)), V.t (T.seq (1 : Nat) (List.map intt h.roots))], Ob.vec true (1 : Nat) (ints l), Ob.vec true (1 : Nat) (ints (namesOf h.objects.length l)), Ob.vec true (2 : Nat) (List.map (fun o => List.map C.t o.ce) outs)] (0 : Nat))) (show (outs.length) = ((outs ++ (l, []).snd).length) by simp))).trans (congrArg (fun x => Out.exit (0 : Nat) (at_ [((2 : Nat), V.ptr (0 : Nat) (1 : Nat) (0 : Nat) (0 : Nat)), ((4 : Nat), V.ptr (1 : Nat) (1 : Nat) (0 : Nat) (0 : Nat)), ((5 : Nat), V.ptr (2 : Nat) (1 : Nat) (0 : Nat) (0 : Nat))] [Ob.box [V.t T.nils, V.t T.nils], Ob.box [V.ptr (3 : Nat) (1 : Nat) (0 : Nat) (0 : Nat), V.vec (4 : Nat) (l, []).fst.length (1 : Nat) (0 : Nat) (l, []).fst.length, V.vec (5 : Nat) h.objects.length (1 : Nat) (0 : Nat) h.objects.length], Ob.box [V.vec (6 : Nat) (outs ++ (l, []).snd).length (2 : Nat) (0 : Nat) x, V.t (T.seq (1 : Nat) (List.map intt rt))], Ob.box [V.t (T.seq (2 : Nat) (List.map Obj.ce h.objects)), V.t (T.seq (1 : Nat) (List.map intt h.roots))], Ob.vec true (1 : Nat) (ints l), Ob.vec true (1 : Nat) (ints (namesOf h.objects.length l)), Ob.vec true (2 : Nat) (List.map (fun o => List.map C.t o.ce) outs)] (0 : Nat))) (show (outs.length) = ((outs ++ (l, []).snd).length) by simp))).trans (congrArg (fun x => Out.exit (0 : Nat) (at_ [((2 : Nat), V.ptr (0 : Nat) (1 : Nat) (0 : Nat) (0 : Nat)), ((4 : Nat), V.ptr (1 : Nat) (1 : Nat) (0 : Nat) (0 : Nat)), ((5 : Nat), V.ptr (2 : Nat) (1 : Nat) (0 : Nat) (0 : Nat))] [Ob.box [V.t T.nils, V.t T.nils], Ob.box [V.ptr (3 : Nat) (1 : Nat) (0 : Nat) (0 : Nat), V.vec (4 : Nat) (l, []).fst.length (1 : Nat) (0 : Nat) (l, []).fst.length, V.vec (5 : Nat) h.objects.length (1 : Nat) (0 : Nat) h.objects.length], Ob.box [V.vec (6 : Nat) (outs ++ (l, []).snd).length (2 : Nat) (0 : Nat) (outs ++ (l, []).snd).length, V.t (T.seq (1 : Nat) (List.map intt rt))], Ob.box [V.t (T.seq (2 : Nat) (List.map Obj.ce h.objects)), V.t (T.seq (1 : Nat) (List.map intt h.roots))], Ob.vec true (1 : Nat) x, Ob.vec true (1 : Nat) (ints (namesOf h.objects.length l)), Ob.vec true (2 : Nat) (List.map (fun o => List.map C.t o.ce) outs)] (0 : Nat))) (show (ints l) = (ints (l, []).fst) by simp))).trans (congrArg (fun x => Out.exit (0 : Nat) (at_ [((2 : Nat), V.ptr (0 : Nat) (1 : Nat) (0 : Nat) (0 : Nat)), ((4 : Nat), V.ptr (1 : Nat) (1 : Nat) (0 : Nat) (0 : Nat)), ((5 : Nat), V.ptr (2 : Nat) (1 : Nat) (0 : Nat) (0 : Nat))] [Ob.box [V.t T.nils, V.t T.nils], Ob.box [V.ptr (3 : Nat) (1 : Nat) (0 : Nat) (0 : Nat), V.vec (4 : Nat) (l, []).fst.length (1 : Nat) (0 : Nat) (l, []).fst.length, V.vec (5 : Nat) h.objects.length (1 : Nat) (0 : Nat) h.objects.length], Ob.box [V.vec (6 : Nat) (outs ++ (l, []).snd).length (2 : Nat) (0 : Nat) (outs ++ (l, []).snd).length, V.t (T.seq (1 : Nat) (List.map intt rt))], Ob.box [V.t (T.seq (2 : Nat) (List.map Obj.ce h.objects)), V.t (T.seq (1 : Nat) (List.map intt h.roots))], Ob.vec true (1 : Nat) (ints (l, []).fst), Ob.vec true (1 : Nat) x, Ob.vec true (2 : Nat) (List.map (fun o => List.map C.t o.ce) outs)] (0 : Nat))) (show (ints (namesOf h.objects.length l)) = (ints (namesOf h.objects.length (l, []).fst)) by simp))).trans (congrArg (fun x => Out.exit (0 : Nat) (at_ [((2 : Nat), V.ptr (0 : Nat) (1 : Nat) (0 : Nat) (0 : Nat)), ((4 : Nat), V.ptr (1 : Nat) (1 : Nat) (0 : Nat) (0 : Nat)), ((5 : Nat), V.ptr (2 : Nat) (1 : Nat) (0 : Nat) (0 : Nat))] [Ob.box [V.t T.nils, V.t T.nils], Ob.box [V.ptr (3 : Nat) (1 : Nat) (0 : Nat) (0 : Nat), V.vec (4 : Nat) (l, []).fst.length (1 : Nat) (0 : Nat) (l, []).fst.length, V.vec (5 : Nat) h.objects.length (1 : Nat) (0 : Nat) h.objects.length], Ob.box [V.vec (6 : Nat) (outs ++ (l, []).snd).length (2 : Nat) (0 : Nat) (outs ++ (l, []).snd).length, V.t (T.seq (1 : Nat) (List.map intt rt))], Ob.box [V.t (T.seq (2 : Nat) (List.map Obj.ce h.objects)), V.t (T.seq (1 : Nat) (List.map intt h.roots))], Ob.vec true (1 : Nat) (ints (l, []).fst), Ob.vec true (1 : Nat) (ints (namesOf h.objects.length (l, []).fst)), Ob.vec true (2 : Nat) x] (0 : Nat))) (show (List.map (fun o => List.map C.t o.ce) outs) = (List.map (fun o => List.map C.t o.ce) (outs ++ (l, []).snd)) by simp)))
    | some k =>
      have hlt : i < l.length := (List.getElem?_eq_some_iff.1 hk).1
      have hkb := hb k (List.mem_of_getElem? hk)
      have hm := objAt_mem hkb.1 hkb.2
      have hc : copyGo h (n + 1) i l = ((copyGo h n (i + 1) (nameGo l (objAt h k).links).1).1, ⟨(objAt h k).mark, (nameGo l (objAt h k).links).2⟩ :: (copyGo h n (i + 1) (nameGo l (objAt h k).links).1).2) := by rw [copyGo, hk]
      have hd' : done h n (i + 1) (pushAll l (objAt h k).links) := by
        unfold done at hd
        rw [hk] at hd
        exact hd
      have hlk := hg.links _ hm
      have hlm := hg.llen _ hm
      have g1 := ints_get9 hk
      have g2 := obs_get9 hkb.1 hkb.2
      have c1 := all_ev h h.objects.length h1 (objAt h k).links l (by omega) (fun x hx => (hlk x hx).2) (by omega) (fun x hx => (hb x hx).1)
      have ih := copyL_ev h hg rt n (i + 1) (nameGo l (objAt h k).links).1 (outs ++ [⟨(objAt h k).mark, (nameGo l (objAt h k).links).2⟩])
        (by rw [nameGo_order]; exact hd') (by simp [ho]) (by have := nameGo_ge (objAt h k).links l; omega)
        (by rw [nameGo_order]; exact pushAll_nodup _ _ hn) (by rw [nameGo_order]; exact pushAll_bd _ _ hb fun x hx => (hlk x hx).2)
      rw [hc]
      simp only [chM, outs_app, List.length_append, List.length_singleton] at ih
      let t1 : Tp pr := .b (show (decide ((↑i : Int) < (↑l.length : Int))) = true by (simp; omega))
      let t7 : Tp pr := .m (show (decide ((0 : Int) ≤ (↑i : Int) ∧ (↑i : Int).toNat < l.length)) = true by simp [*])
      let t8 : Tp pr := .c (show ((0 : Nat) + (↑i : Int).toNat : Nat) = i by omega)
      let t10 : Tp pr := .m (show (decide ((ints l).length = l.length)) = true by simp)
      let t11 : Tp pr := .g .crow (show ((ints l)[i]?) = some ([C.t (T.int IntKind.i64 k)]) from g1)
      let t13 : Tp pr := .g .row (show (lkp (List.map Obj.ce h.objects) k) = some ((objAt h k).ce) from g2)
      let t29 : Tp pr := .m (show (decide ((List.map (fun o => List.map C.t o.ce) outs).length = outs.length ∧ (0 : Nat) + outs.length ≤ outs.length ∧ outs.length + (1 : Nat) ≤ (4294967296 : Nat))) = true by (simp; omega))
      let t30 : Tp pr := .b (show (decide (outs.length + (1 : Nat) ≤ outs.length)) = false by simp)
      let t31 : Tp pr := .c (rfl : (outs.length + (1 : Nat)) = _)
      let t32 : Tp pr := .n .crows (show ((List.take outs.length (List.map (fun o => List.map C.t o.ce) outs)).append (List.take (1 : Nat) (List.drop (0 : Nat) [[C.t (T.int IntKind.i64 (objAt h k).mark), C.t (T.seq (1 : Nat) (List.map intt (nameGo l (objAt h k).links).snd))]]))) = List.map (fun o => List.map C.t o.ce) outs ++ [[C.t (T.int IntKind.i64 (objAt h k).mark), C.t (T.seq (1 : Nat) (List.map intt (nameGo l (objAt h k).links).snd))]] by simp)
      let t36 : Tp pr := .i (wrap_i64 (a := (↑i : Int) + (1 : Int)) (by omega) (by omega))
      exact .tpe [.i (rfl : ((↑l.length : Int)) = _), t1, .m (rfl : true = true), .m (rfl : true = true), .m (rfl : true = true), .m (rfl : true = true), .m (rfl : true = true), t7, t8, .m (rfl : true = true), t10, t11, .m (rfl : true = true), t13, .m (rfl : true = true), .m (rfl : true = true), .m (rfl : true = true), .m (rfl : true = true), .m (rfl : true = true), .m (rfl : true = true), .m (rfl : true = true), .m (rfl : true = true), .m (rfl : true = true), .m (rfl : true = true), .a (c1), .m (rfl : true = true), .m (rfl : true = true), .m (rfl : true = true), .m (rfl : true = true), t29, t30, t31, t32, .m (rfl : true = true), .m (rfl : true = true), .m (rfl : true = true), t36, .a (ih)] (Out.exit (0 : Nat) (at_ [((2 : Nat), V.ptr (0 : Nat) (1 : Nat) (0 : Nat) (0 : Nat)), ((4 : Nat), V.ptr (1 : Nat) (1 : Nat) (0 : Nat) (0 : Nat)), ((5 : Nat), V.ptr (2 : Nat) (1 : Nat) (0 : Nat) (0 : Nat))] [Ob.box [V.t T.nils, V.t T.nils], Ob.box [V.ptr (3 : Nat) (1 : Nat) (0 : Nat) (0 : Nat), V.vec (4 : Nat) (copyGo h n (i + (1 : Nat)) (nameGo l (objAt h k).links).fst).fst.length (1 : Nat) (0 : Nat) (copyGo h n (i + (1 : Nat)) (nameGo l (objAt h k).links).fst).fst.length, V.vec (5 : Nat) h.objects.length (1 : Nat) (0 : Nat) h.objects.length], Ob.box [V.vec (6 : Nat) (outs ++ [Obj.mk (objAt h k).mark (nameGo l (objAt h k).links).snd] ++ (copyGo h n (i + (1 : Nat)) (nameGo l (objAt h k).links).fst).snd).length (2 : Nat) (0 : Nat) (outs ++ [Obj.mk (objAt h k).mark (nameGo l (objAt h k).links).snd] ++ (copyGo h n (i + (1 : Nat)) (nameGo l (objAt h k).links).fst).snd).length, V.t (T.seq (1 : Nat) (List.map intt rt))], Ob.box [V.t (T.seq (2 : Nat) (List.map Obj.ce h.objects)), V.t (T.seq (1 : Nat) (List.map intt h.roots))], Ob.vec true (1 : Nat) (ints (copyGo h n (i + (1 : Nat)) (nameGo l (objAt h k).links).fst).fst), Ob.vec true (1 : Nat) (ints (namesOf h.objects.length (copyGo h n (i + (1 : Nat)) (nameGo l (objAt h k).links).fst).fst)), Ob.vec true (2 : Nat) (List.map (fun o => List.map C.t o.ce) (outs ++ [Obj.mk (objAt h k).mark (nameGo l (objAt h k).links).snd] ++ (copyGo h n (i + (1 : Nat)) (nameGo l (objAt h k).links).fst).snd))] (0 : Nat))) (by kernel_rfl) (((((((congrArg (fun x => Out.exit (0 : Nat) (at_ [((2 : Nat), V.ptr (0 : Nat) (1 : Nat) (0 : Nat) (0 : Nat)), ((4 : Nat), V.ptr (1 : Nat) (1 : Nat) (0 : Nat) (0 : Nat)), ((5 : Nat), V.ptr (2 : Nat) (1 : Nat) (0 : Nat) (0 : Nat))] [Ob.box [V.t T.nils, V.t T.nils], Ob.box [V.ptr (3 : Nat) (1 : Nat) (0 : Nat) (0 : Nat), V.vec (4 : Nat) x (1 : Nat) (0 : Nat) (copyGo h n (i + (1 : Nat)) (nameGo l (objAt h k).links).fst).fst.length, V.vec (5 : Nat) h.objects.length (1 : Nat) (0 : Nat) h.objects.length], Ob.box [V.vec (6 : Nat) (outs ++ [Obj.mk (objAt h k).mark (nameGo l (objAt h k).links).snd] ++ (copyGo h n (i + (1 : Nat)) (nameGo l (objAt h k).links).fst).snd).length (2 : Nat) (0 : Nat) (outs ++ [Obj.mk (objAt h k).mark (nameGo l (objAt h k).links).snd] ++ (copyGo h n (i + (1 : Nat)) (nameGo l (objAt h k).links).fst).snd).length, V.t (T.seq (1 : Nat) (List.map intt rt))], Ob.box [V.t (T.seq (2 : Nat) (List.map Obj.ce h.objects)), V.t (T.seq (1 : Nat) (List.map intt h.roots))], Ob.vec true (1 : Nat) (ints (copyGo h n (i + (1 : Nat)) (nameGo l (objAt h k).links).fst).fst), Ob.vec true (1 : Nat) (ints (namesOf h.objects.length (copyGo h n (i + (1 : Nat)) (nameGo l (objAt h k).links).fst).fst)), Ob.vec true (2 : Nat) (List.map (fun o => List.map C.t o.ce) (outs ++ [Obj.mk (objAt h k).mark (nameGo l (objAt h k).links).snd] ++ (copyGo h n (i + (1 : Nat)) (nameGo l (objAt h k).links).fst).snd))] (0 : Nat))) (show ((copyGo h n (i + (1 : Nat)) (nameGo l (objAt h k).links).fst).fst.length) = (((copyGo h n (i + (1 : Nat)) (nameGo l (objAt h k).links).fst).fst, Obj.mk (objAt h k).mark (nameGo l (objAt h k).links).snd :: (copyGo h n (i + (1 : Nat)) (nameGo l (objAt h k).links).fst).snd).fst.length) by simp)).trans (congrArg (fun x => Out.exit (0 : Nat) (at_ [((2 : Nat), V.ptr (0 : Nat) (1 : Nat) (0 : Nat) (0 : Nat)), ((4 : Nat), V.ptr (1 : Nat) (1 : Nat) (0 : Nat) (0 : Nat)), ((5 : Nat), V.ptr (2 : Nat) (1 : Nat) (0 : Nat) (0 : Nat))] [Ob.box [V.t T.nils, V.t T.nils], Ob.box [V.ptr (3 : Nat) (1 : Nat) (0 : Nat) (0 : Nat), V.vec (4 : Nat) ((copyGo h n (i + (1 : Nat)) (nameGo l (objAt h k).links).fst).fst, Obj.mk (objAt h k).mark (nameGo l (objAt h k).links).snd :: (copyGo h n (i + (1 : Nat)) (nameGo l (objAt h k).links).fst).snd).fst.length (1 : Nat) (0 : Nat) x, V.vec (5 : Nat) h.objects.length (1 : Nat) (0 : Nat) h.objects.length], Ob.box [V.vec (6 : Nat) (outs ++ [Obj.mk (objAt h k).mark (nameGo l (objAt h k).links).snd] ++ (copyGo h n (i + (1 : Nat)) (nameGo l (objAt h k).links).fst).snd).length (2 : Nat) (0 : Nat) (outs ++ [Obj.mk (objAt h k).mark (nameGo l (objAt h k).links).snd] ++ (copyGo h n (i + (1 : Nat)) (nameGo l (objAt h k).links).fst).snd).length, V.t (T.seq (1 : Nat) (List.map intt rt))], Ob.box [V.t (T.seq (2 : Nat) (List.map Obj.ce h.objects)), V.t (T.seq (1 : Nat) (List.map intt h.roots))], Ob.vec true (1 : Nat) (ints (copyGo h n (i + (1 : Nat)) (nameGo l (objAt h k).links).fst).fst), Ob.vec true (1 : Nat) (ints (namesOf h.objects.length (copyGo h n (i + (1 : Nat)) (nameGo l (objAt h k).links).fst).fst)), Ob.vec true (2 : Nat) (List.map (fun o => List.map C.t o.ce) (outs ++ [Obj.mk (objAt h k).mark (nameGo l (objAt h k).links).snd] ++ (copyGo h n (i + (1 : Nat)) (nameGo l (objAt h k).links).fst).snd))] (0 : Nat))) (show ((copyGo h n (i + (1 : Nat)) (nameGo l (objAt h k).links).fst).fst.length) = (((copyGo h n (i + (1 : Nat)) (nameGo l (objAt h k).links).fst).fst, Obj.mk (objAt h k).mark (nameGo l (objAt h k).links).snd :: (copyGo h n (i + (1 : Nat)) (nameGo l (objAt h k).links).fst).snd).fst.length) by simp))).trans (congrArg (fun x => Out.exit (0 : Nat) (at_ [((2 : Nat), V.ptr (0 : Nat) (1 : Nat) (0 : Nat) (0 : Nat)), ((4 : Nat), V.ptr (1 : Nat) (1 : Nat) (0 : Nat) (0 : Nat)), ((5 : Nat), V.ptr (2 : Nat) (1 : Nat) (0 : Nat) (0 : Nat))] [Ob.box [V.t T.nils, V.t T.nils], Ob.box [V.ptr (3 : Nat) (1 : Nat) (0 : Nat) (0 : Nat), V.vec (4 : Nat) ((copyGo h n (i + (1 : Nat)) (nameGo l (objAt h k).links).fst).fst, Obj.mk (objAt h k).mark (nameGo l (objAt h k).links).snd :: (copyGo h n (i + (1 : Nat)) (nameGo l (objAt h k).links).fst).snd).fst.length (1 : Nat) (0 : Nat) ((copyGo h n (i + (1 : Nat)) (nameGo l (objAt h k).links).fst).fst, Obj.mk (objAt h k).mark (nameGo l (objAt h k).links).snd :: (copyGo h n (i + (1 : Nat)) (nameGo l (objAt h k).links).fst).snd).fst.length, V.vec (5 : Nat) h.objects.length (1 : Nat) (0 : Nat) h.objects.length], Ob.box [V.vec (6 : Nat) x (2 : Nat) (0 : Nat) (outs ++ [Obj.mk (objAt h k).mark (nameGo l (objAt h k).links).snd] ++ (copyGo h n (i + (1 : Nat)) (nameGo l (objAt h k).links).fst).snd).length, V.t (T.seq (1 : Nat) (List.map intt rt))], Ob.box [V.t (T.seq (2 : Nat) (List.map Obj.ce h.objects)), V.t (T.seq (1 : Nat) (List.map intt h.roots))], Ob.vec true (1 : Nat) (ints (copyGo h n (i + (1 : Nat)) (nameGo l (objAt h k).links).fst).fst), Ob.vec true (1 : Nat) (ints (namesOf h.objects.length (copyGo h n (i + (1 : Nat)) (nameGo l (objAt h k).links).fst).fst)), Ob.vec true (2 : Nat) (List.map (fun o => List.map C.t o.ce) (outs ++ [Obj.mk (objAt h k).mark (nameGo l (objAt h k).links).snd] ++ (copyGo h n (i + (1 : Nat)) (nameGo l (objAt h k).links).fst).snd))] (0 : Nat))) (show ((outs ++ [Obj.mk (objAt h k).mark (nameGo l (objAt h k).links).snd] ++ (copyGo h n (i + (1 : Nat)) (nameGo l (objAt h k).links).fst).snd).length) = ((outs ++ ((copyGo h n (i + (1 : Nat)) (nameGo l (objAt h k).links).fst).fst, Obj.mk (objAt h k).mark (nameGo l (objAt h k).links).snd :: (copyGo h n (i + (1 : Nat)) (nameGo l (objAt h k).links).fst).snd).snd).length) by simp))).trans (congrArg (fun x => Out.exit (0 : Nat) (at_ [((2 : Nat), V.ptr (0 : Nat) (1 : Nat) (0 : Nat) (0 : Nat)), ((4 : Nat), V.ptr (1 : Nat) (1 : Nat) (0 : Nat) (0 : Nat)), ((5 : Nat), V.ptr (2 : Nat) (1 : Nat) (0 : Nat) (0 : Nat))] [Ob.box [V.t T.nils, V.t T.nils], Ob.box [V.ptr (3 : Nat) (1 : Nat) (0 : Nat) (0 : Nat), V.vec (4 : Nat) ((copyGo h n (i + (1 : Nat)) (nameGo l (objAt h k).links).fst).fst, Obj.mk (objAt h k).mark (nameGo l (objAt h k).links).snd :: (copyGo h n (i + (1 : Nat)) (nameGo l (objAt h k).links).fst).snd).fst.length (1 : Nat) (0 : Nat) ((copyGo h n (i + (1 : Nat)) (nameGo l (objAt h k).links).fst).fst, Obj.mk (objAt h k).mark (nameGo l (objAt h k).links).snd :: (copyGo h n (i + (1 : Nat)) (nameGo l (objAt h k).links).fst).snd).fst.length, V.vec (5 : Nat) h.objects.length (1 : Nat) (0 : Nat) h.objects.length], Ob.box [V.vec (6 : Nat) (outs ++ ((copyGo h n (i + (1 : Nat)) (nameGo l (objAt h k).links).fst).fst, Obj.mk (objAt h k).mark (nameGo l (objAt h k).links).snd :: (copyGo h n (i + (1 : Nat)) (nameGo l (objAt h k).links).fst).snd).snd).length (2 : Nat) (0 : Nat) x, V.t (T.seq (1 : Nat) (List.map intt rt))], Ob.box [V.t (T.seq (2 : Nat) (List.map Obj.ce h.objects)), V.t (T.seq (1 : Nat) (List.map intt h.roots))], Ob.vec true (1 : Nat) (ints (copyGo h n (i + (1 : Nat)) (nameGo l (objAt h k).links).fst).fst), Ob.vec true (1 : Nat) (ints (namesOf h.objects.length (copyGo h n (i + (1 : Nat)) (nameGo l (objAt h k).links).fst).fst)), Ob.vec true (2 : Nat) (List.map (fun o => List.map C.t o.ce) (outs ++ [Obj.mk (objAt h k).mark (nameGo l (objAt h k).links).snd] ++ (copyGo h n (i + (1 : Nat)) (nameGo l (objAt h k).links).fst).snd))] (0 : Nat))) (show ((outs ++ [Obj.mk (objAt h k).mark (nameGo l (objAt h k).links).snd] ++ (copyGo h n (i + (1 : Nat)) (nameGo l (objAt h k).links).fst).snd).length) = ((outs ++ ((copyGo h n (i + (1 : Nat)) (nameGo l (objAt h k).links).fst).fst, Obj.mk (objAt h k).mark (nameGo l (objAt h k).links).snd :: (copyGo h n (i + (1 : Nat)) (nameGo l (objAt h k).links).fst).snd).snd).length) by simp))).trans (congrArg (fun x => Out.exit (0 : Nat) (at_ [((2 : Nat), V.ptr (0 : Nat) (1 : Nat) (0 : Nat) (0 : Nat)), ((4 : Nat), V.ptr (1 : Nat) (1 : Nat) (0 : Nat) (0 : Nat)), ((5 : Nat), V.ptr (2 : Nat) (1 : Nat) (0 : Nat) (0 : Nat))] [Ob.box [V.t T.nils, V.t T.nils], Ob.box [V.ptr (3 : Nat) (1 : Nat) (0 : Nat) (0 : Nat), V.vec (4 : Nat) ((copyGo h n (i + (1 : Nat)) (nameGo l (objAt h k).links).fst).fst, Obj.mk (objAt h k).mark (nameGo l (objAt h k).links).snd :: (copyGo h n (i + (1 : Nat)) (nameGo l (objAt h k).links).fst).snd).fst.length (1 : Nat) (0 : Nat) ((copyGo h n (i + (1 : Nat)) (nameGo l (objAt h k).links).fst).fst, Obj.mk (objAt h k).mark (nameGo l (objAt h k).links).snd :: (copyGo h n (i + (1 : Nat)) (nameGo l (objAt h k).links).fst).snd).fst.length, V.vec (5 : Nat) h.objects.length (1 : Nat) (0 : Nat) h.objects.length], Ob.box [V.vec (6 : Nat) (outs ++ ((copyGo h n (i + (1 : Nat)) (nameGo l (objAt h k).links).fst).fst, Obj.mk (objAt h k).mark (nameGo l (objAt h k).links).snd :: (copyGo h n (i + (1 : Nat)) (nameGo l (objAt h k).links).fst).snd).snd).length (2 : Nat) (0 : Nat) (outs ++ ((copyGo h n (i + (1 : Nat)) (nameGo l (objAt h k).links).fst).fst, Obj.mk (objAt h k).mark (nameGo l (objAt h k).links).snd :: (copyGo h n (i + (1 : Nat)) (nameGo l (objAt h k).links).fst).snd).snd).length, V.t (T.seq (1 : Nat) (List.map intt rt))], Ob.box [V.t (T.seq (2 : Nat) (List.map Obj.ce h.objects)), V.t (T.seq (1 : Nat) (List.map intt h.roots))], Ob.vec true (1 : Nat) x, Ob.vec true (1 : Nat) (ints (namesOf h.objects.length (copyGo h n (i + (1 : Nat)) (nameGo l (objAt h k).links).fst).fst)), Ob.vec true (2 : Nat) (List.map (fun o => List.map C.t o.ce) (outs ++ [Obj.mk (objAt h k).mark (nameGo l (objAt h k).links).snd] ++ (copyGo h n (i + (1 : Nat)) (nameGo l (objAt h k).links).fst).snd))] (0 : Nat))) (show (ints (copyGo h n (i + (1 : Nat)) (nameGo l (objAt h k).links).fst).fst) = (ints ((copyGo h n (i + (1 : Nat)) (nameGo l (objAt h k).links).fst).fst, Obj.mk (objAt h k).mark (nameGo l (objAt h k).links).snd :: (copyGo h n (i + (1 : Nat)) (nameGo l (objAt h k).links).fst).snd).fst) by simp))).trans (congrArg (fun x => Out.exit (0 : Nat) (at_ [((2 : Nat), V.ptr (0 : Nat) (1 : Nat) (0 : Nat) (0 : Nat)), ((4 : Nat), V.ptr (1 : Nat) (1 : Nat) (0 : Nat) (0 : Nat)), ((5 : Nat), V.ptr (2 : Nat) (1 : Nat) (0 : Nat) (0 : Nat))] [Ob.box [V.t T.nils, V.t T.nils], Ob.box [V.ptr (3 : Nat) (1 : Nat) (0 : Nat) (0 : Nat), V.vec (4 : Nat) ((copyGo h n (i + (1 : Nat)) (nameGo l (objAt h k).links).fst).fst, Obj.mk (objAt h k).mark (nameGo l (objAt h k).links).snd :: (copyGo h n (i + (1 : Nat)) (nameGo l (objAt h k).links).fst).snd).fst.length (1 : Nat) (0 : Nat) ((copyGo h n (i + (1 : Nat)) (nameGo l (objAt h k).links).fst).fst, Obj.mk (objAt h k).mark (nameGo l (objAt h k).links).snd :: (copyGo h n (i + (1 : Nat)) (nameGo l (objAt h k).links).fst).snd).fst.length, V.vec (5 : Nat) h.objects.length (1 : Nat) (0 : Nat) h.objects.length], Ob.box [V.vec (6 : Nat) (outs ++ ((copyGo h n (i + (1 : Nat)) (nameGo l (objAt h k).links).fst).fst, Obj.mk (objAt h k).mark (nameGo l (objAt h k).links).snd :: (copyGo h n (i + (1 : Nat)) (nameGo l (objAt h k).links).fst).snd).snd).length (2 : Nat) (0 : Nat) (outs ++ ((copyGo h n (i + (1 : Nat)) (nameGo l (objAt h k).links).fst).fst, Obj.mk (objAt h k).mark (nameGo l (objAt h k).links).snd :: (copyGo h n (i + (1 : Nat)) (nameGo l (objAt h k).links).fst).snd).snd).length, V.t (T.seq (1 : Nat) (List.map intt rt))], Ob.box [V.t (T.seq (2 : Nat) (List.map Obj.ce h.objects)), V.t (T.seq (1 : Nat) (List.map intt h.roots))], Ob.vec true (1 : Nat) (ints ((copyGo h n (i + (1 : Nat)) (nameGo l (objAt h k).links).fst).fst, Obj.mk (objAt h k).mark (nameGo l (objAt h k).links).snd :: (copyGo h n (i + (1 : Nat)) (nameGo l (objAt h k).links).fst).snd).fst), Ob.vec true (1 : Nat) x, Ob.vec true (2 : Nat) (List.map (fun o => List.map C.t o.ce) (outs ++ [Obj.mk (objAt h k).mark (nameGo l (objAt h k).links).snd] ++ (copyGo h n (i + (1 : Nat)) (nameGo l (objAt h k).links).fst).snd))] (0 : Nat))) (show (ints (namesOf h.objects.length (copyGo h n (i + (1 : Nat)) (nameGo l (objAt h k).links).fst).fst)) = (ints (namesOf h.objects.length ((copyGo h n (i + (1 : Nat)) (nameGo l (objAt h k).links).fst).fst, Obj.mk (objAt h k).mark (nameGo l (objAt h k).links).snd :: (copyGo h n (i + (1 : Nat)) (nameGo l (objAt h k).links).fst).snd).fst)) by simp))).trans (congrArg (fun x => Out.exit (0 : Nat) (at_ [((2 : Nat), V.ptr (0 : Nat) (1 : Nat) (0 : Nat) (0 : Nat)), ((4 : Nat), V.ptr (1 : Nat) (1 : Nat) (0 : Nat) (0 : Nat)), ((5 : Nat), V.ptr (2 : Nat) (1 : Nat) (0 : Nat) (0 : Nat))] [Ob.box [V.t T.nils, V.t T.nils], Ob.box [V.ptr (3 : Nat) (1 : Nat) (0 : Nat) (0 : Nat), V.vec (4 : Nat) ((copyGo h n (i + (1 : Nat)) (nameGo l (objAt h k).links).fst).fst, Obj.mk (objAt h k).mark (nameGo l (objAt h k).links).snd :: (copyGo h n (i + (1 : Nat)) (nameGo l (objAt h k).links).fst).snd).fst.length (1 : Nat) (0 : Nat) ((copyGo h n (i + (1 : Nat)) (nameGo l (objAt h k).links).fst).fst, Obj.mk (objAt h k).mark (nameGo l (objAt h k).links).snd :: (copyGo h n (i + (1 : Nat)) (nameGo l (objAt h k).links).fst).snd).fst.length, V.vec (5 : Nat) h.objects.length (1 : Nat) (0 : Nat) h.objects.length], Ob.box [V.vec (6 : Nat) (outs ++ ((copyGo h n (i + (1 : Nat)) (nameGo l (objAt h k).links).fst).fst, Obj.mk (objAt h k).mark (nameGo l (objAt h k).links).snd :: (copyGo h n (i + (1 : Nat)) (nameGo l (objAt h k).links).fst).snd).snd).length (2 : Nat) (0 : Nat) (outs ++ ((copyGo h n (i + (1 : Nat)) (nameGo l (objAt h k).links).fst).fst, Obj.mk (objAt h k).mark (nameGo l (objAt h k).links).snd :: (copyGo h n (i + (1 : Nat)) (nameGo l (objAt h k).links).fst).snd).snd).length, V.t (T.seq (1 : Nat) (List.map intt rt))], Ob.box [V.t (T.seq (2 : Nat) (List.map Obj.ce h.objects)), V.t (T.seq (1 : Nat) (List.map intt h.roots))], Ob.vec true (1 : Nat) (ints ((copyGo h n (i + (1 : Nat)) (nameGo l (objAt h k).links).fst).fst, Obj.mk (objAt h k).mark (nameGo l (objAt h k).links).snd :: (copyGo h n (i + (1 : Nat)) (nameGo l (objAt h k).links).fst).snd).fst), Ob.vec true (1 : Nat) (ints (namesOf h.objects.length ((copyGo h n (i + (1 : Nat)) (nameGo l (objAt h k).links).fst).fst, Obj.mk (objAt h k).mark (nameGo l (objAt h k).links).snd :: (copyGo h n (i + (1 : Nat)) (nameGo l (objAt h k).links).fst).snd).fst)), Ob.vec true (2 : Nat) x] (0 : Nat))) (show (List.map (fun o => List.map C.t o.ce) (outs ++ [Obj.mk (objAt h k).mark (nameGo l (objAt h k).links).snd] ++ (copyGo h n (i + (1 : Nat)) (nameGo l (objAt h k).links).fst).snd)) = (List.map (fun o => List.map C.t o.ce) (outs ++ ((copyGo h n (i + (1 : Nat)) (nameGo l (objAt h k).links).fst).fst, Obj.mk (objAt h k).mark (nameGo l (objAt h k).links).snd :: (copyGo h n (i + (1 : Nat)) (nameGo l (objAt h k).links).fst).snd).snd)) by simp)))

end Go.Ev

/- Copies of heaps: impl.copyHeap, impl.ReachOf. -/
namespace Go.Ev
set_option linter.unusedVariables false
set_option linter.unusedSimpArgs false
open Go.Proofs
set_option maxRecDepth 100000
set_option linter.unusedVariables false
set_option maxHeartbeats 4000000
attribute [local simp] ints_takeC
@[local simp] theorem ce_fz9 (l : List Obj) : List.map ((fun x => List.map C.fz x) ∘ fun o => List.map C.t o.ce) l = l.map Obj.ce := by
  congr 1
@[local simp] theorem ce_fz9b (l : List Obj) : List.map (fun x => List.map C.fz x) (List.map (fun o => List.map C.t o.ce) l) = l.map Obj.ce := by
  rw [List.map_map]; exact ce_fz9 l
@[local simp] theorem names_take (N : Nat) (l : List Int) : List.take N (List.map intt (namesOf N l)) = List.map intt (namesOf N l) := List.take_of_length_le (by simp)
theorem copyHeap_ev (h : Hp) (hg : GoodH h) :
    Ev pr (.call 63 [vs h.ce] []) (.val (.tup [vs (copyH h).ce, isq (namesOf h.objects.length (order h))]) []) := by
  have h1 := hg.objs
  have h3 := hg.rlen
  have a1 := repeat_ev h.objects.length h1
  have a2 := allN_ev h h.objects.length h1 h.roots (by omega) (fun k hk => (hg.roots k hk).2)
  rw [namesOf_nil] at a2
  have hb := pushAll_bd (N := h.objects.length) h.roots [] (by simp) (fun k hk => (hg.roots k hk).2)
  have hn := pushAll_nodup h.roots [] (by simp)
  have hd := done_ok hg (h.objects.length + 1) 0 (pushAll [] h.roots) hn hb (by omega)
  have a3 := copyL_ev h hg (nameGo [] h.roots).2 (h.objects.length + 1) 0 (pushAll [] h.roots) [] hd rfl (by omega) hn hb
  obtain ⟨e1, e2⟩ := copyGo_copyH hg
  have e3 : (nameGo [] h.roots).2 = (copyH h).roots := by rw [← e2]
  have e4 : (copyGo h (h.objects.length + 1) 0 (pushAll [] h.roots)).2 = (copyH h).objects := by rw [← e2]
  rw [e1, e4, e3, ← nameGo_order, List.nil_append] at a3
  rw [e3] at a2
  let t0 : Tp pr := .i (show ((↑(List.map Obj.ce h.objects).length : Int) : Int) = (↑h.objects.length : Int) by simp)
  let t2 : Tp pr := .n .rows (show (List.map (fun x => List.map C.fz x) (List.take (1 : Nat) (List.drop (0 : Nat) [[C.t (T.int IntKind.i64 (-1 : Int))]]))) = [[(C.t (T.int IntKind.i64 (-1 : Int))).fz]] by simp)
  let t4 : Tp pr := .m (show (true && [Ob.vec true (1 : Nat) (ints (List.replicate h.objects.length (-1 : Int)))].all Ob.flat) = true by simp)
  let t12 : Tp pr := .m (show (decide ((List.map (fun o => List.map C.t o.ce) (copyH h).objects).length = (copyH h).objects.length ∧ (0 : Nat) + (copyH h).objects.length ≤ (copyH h).objects.length)) = true by simp)
  let t13 : Tp pr := .n .rows (show (List.map (fun x => List.map C.fz x) (List.take (copyH h).objects.length (List.drop (0 : Nat) (List.map (fun o => List.map C.t o.ce) (copyH h).objects)))) = List.map Obj.ce (copyH h).objects by simp)
  let t14 : Tp pr := .m (show (decide ((ints (namesOf h.objects.length (order h))).length = h.objects.length ∧ (0 : Nat) + h.objects.length ≤ h.objects.length)) = true by simp)
  let t15 : Tp pr := .n .rows (show (List.map (fun x => List.map C.fz x) (List.take h.objects.length (List.drop (0 : Nat) (ints (namesOf h.objects.length (order h)))))) = List.map intt (namesOf h.objects.length (order h)) by simp)
  exact .tp [t0, .m (rfl : true = true), t2, .a (a1), t4, .a (a2), .a (a3), .m (rfl : true = true), .m (rfl : true = true), .m (rfl : true = true), .m (rfl : true = true), .m (rfl : true = true), t12, t13, t14, t15] (by kernel_rfl)
theorem reachI_ev (N : Nat) (hN : N ≤ 40) (l : List Int) : ∀ (m : Nat) (i : Nat) (out : List Int), i + m = N → out.length ≤ i →
    Ev pr (.loop (lq pr 33 0) (at_ [(6, .vec 0 out.length 1 0 out.length), (18, isq (namesOf N l)), (19, i64 N), (20, i64 i)] [.vec true 1 (ints out)] 0))
      (.exit 0 (at_ [(6, .vec 0 (out ++ upto (fun x => l.contains x) m i).length 1 0 (out ++ upto (fun x => l.contains x) m i).length)] [.vec true 1 (ints (out ++ upto (fun x => l.contains x) m i))] 0))
  | 0, i, out, hi, ho => by
    have hu : upto (fun x => l.contains x) 0 (i : Int) = [] := rfl
    rw [hu, List.append_nil]
    let t0 : Tp pr := .b (show (decide ((↑i : Int) < (↑N : Int))) = false by (simp; omega))
    exact .tp [t0] (by kernel_rfl)
  | m + 1, i, out, hi, ho => by
    have hn : i < N := by omega
    have g : lkp ((namesOf N l).map intt) (i : Int) = some [T.int .i64 (newOf l i)] := by
      have := namesOf_getD (l := l) hn
      simp [lkp, hn, intt, namesOf]
    by_cases hm : (i : Int) ∈ l
    · have hp := newOf_in hm
      have hc : l.contains (i : Int) = true := by simpa using hm
      have hu : upto (fun x => l.contains x) (m + 1) (i : Int) = (i : Int) :: upto (fun x => l.contains x) m ((i + 1 : Nat) : Int) := by
        rw [upto, if_pos hc]; simp
      have ih := reachI_ev N hN l m (i + 1) (out ++ [(i : Int)]) (by omega) (by simp; omega)
      rw [hu, List.append_cons]
      rw [ints_app, show ints [(i : Int)] = [[C.t (.int .i64 i)]] from rfl, List.length_append, List.length_singleton] at ih
      let t0 : Tp pr := .b (show (decide ((↑i : Int) < (↑N : Int))) = true by (simp; omega))
      let t1 : Tp pr := .g .row (show (lkp (List.map intt (namesOf N l)) (↑i : Int)) = some ([T.int IntKind.i64 (newOf l (↑i : Int))]) from g)
      let t2 : Tp pr := .b (show (decide (newOf l (↑i : Int) ≥ (0 : Int))) = true by (simp; omega))
      let t4 : Tp pr := .m (show (decide ((ints out).length = out.length ∧ (0 : Nat) + out.length ≤ out.length ∧ out.length + (1 : Nat) ≤ (4294967296 : Nat))) = true by (simp; omega))
      let t5 : Tp pr := .b (show (decide (out.length + (1 : Nat) ≤ out.length)) = false by simp)
      let t7 : Tp pr := .n .crows (show ((List.take out.length (ints out)).append (List.take (1 : Nat) (List.drop (0 : Nat) [[C.t (T.int IntKind.i64 (↑i : Int))]]))) = ints out ++ [[C.t (T.int IntKind.i64 (↑i : Int))]] by simp)
      let t8 : Tp pr := .i (wrap_i64 (a := (↑i : Int) + (1 : Int)) (by omega) (by omega))
      exact .tp [t0, t1, t2, .m (rfl : true = true), t4, t5, .c (rfl : (out.length + (1 : Nat)) = _), t7, t8, .a (ih)] (by kernel_rfl)
    · have hp := newOf_out hm
      have hc : ¬ l.contains (i : Int) = true := by simpa using hm
      have hu : upto (fun x => l.contains x) (m + 1) (i : Int) = upto (fun x => l.contains x) m ((i + 1 : Nat) : Int) := by
        rw [upto, if_neg hc]; simp
      have ih := reachI_ev N hN l m (i + 1) out (by omega) (by omega)
      rw [hu]
      rw [hp] at g
      let t0 : Tp pr := .b (show (decide ((↑i : Int) < (↑N : Int))) = true by (simp; omega))
      let t1 : Tp pr := .g .row (show (lkp (List.map intt (namesOf N l)) (↑i : Int)) = some ([T.int IntKind.i64 (-1 : Int)]) from g)
      let t3 : Tp pr := .i (wrap_i64 (a := (↑i : Int) + (1 : Int)) (by omega) (by omega))
      exact .tp [t0, t1, .b (rfl : false = false), t3, .a (ih)] (by kernel_rfl)
def reachO (h : Hp) : V := if goodHeap h = true then .vec 0 (reach h).length 1 0 (reach h).length else .t .nils
def reachM (h : Hp) : List Ob := if goodHeap h = true then [.vec true 1 (ints (reach h))] else []
theorem ReachOfI_ev (h : Hp) (h1 : h.objects.length ≤ 1048576) (h2 : ∀ x ∈ h.objects, x.links.length ≤ 1048576) (h3 : h.roots.length ≤ 1048576) :
    Ev pr (.call 33 [vs h.ce] []) (.val (.tup [reachO h, bl (goodHeap h)]) (reachM h)) := by
  have a1 := GoodHeapI_ev h h1 h2 h3
  by_cases hgd : goodHeap h = true
  · have hg := goodHeap_ok hgd
    have a2 := copyHeap_ev h hg
    have hN := hg.objs
    have a3 := reachI_ev h.objects.length hN (order h) h.objects.length 0 [] (by omega) (by simp)
    rw [List.nil_append] at a3
    have e : upto (fun x => (order h).contains x) h.objects.length ((0 : Nat) : Int) = reach h := rfl
    rw [e] at a3
    rw [reachO, reachM, if_pos hgd, if_pos hgd]
    rw [hgd] at a1 ⊢
    let t3 : Tp pr := .i (show ((↑(List.map intt (namesOf h.objects.length (order h))).length : Int) : Int) = (↑h.objects.length : Int) by simp)
    exact .tp [.a (a1), .b (rfl : false = false), .a (a2), t3, .a (a3)] (by kernel_rfl)
  · have hgf : goodHeap h = false := by simpa using hgd
    rw [reachO, reachM, if_neg hgd, if_neg hgd]
    rw [hgf] at a1 ⊢
    exact .tp [.a (a1), .b (rfl : true = true)] (by kernel_rfl)
end Go.Ev

/- The law: the program's ReachOf returns what the reference's returns. -/
namespace Go.Ev
set_option linter.unusedVariables false
set_option linter.unusedSimpArgs false
open Go.Proofs
set_option maxRecDepth 100000
set_option linter.unusedVariables false
set_option maxHeartbeats 1000000
@[simp] theorem obcc_flat (fl : Bool) (l : List Obj) : Ob.flat (.vec fl 2 (l.map Obj.cc)) = true := by simp [Ob.flat, Obj.cc, C.flat, T.flat, intt]
@[local simp] theorem obcc_take (l : List Obj) : List.take l.length (l.map Obj.cc) = l.map Obj.cc := List.take_of_length_le (by simp)
@[local simp] theorem ints_take2 (l : List Int) : List.take l.length (l.map intt) = l.map intt := List.take_of_length_le (by simp)
@[local simp] theorem markI_take (k : Int) (n : Nat) : List.take n (List.map intt (markI k n)) = List.map intt (markI k n) := List.take_of_length_le (by simp [markI_len])
attribute [local simp] markI_len
def Obj.wf (o : Obj) : Prop := (Lit.int .i64 o.mark).wf = true ∧ (o.links.length ≤ 9223372036854775807 ∧ ∀ x ∈ o.links, (Lit.int .i64 x).wf = true)
def Hp.wf (h : Hp) : Prop := (h.objects.length ≤ 9223372036854775807 ∧ ∀ x ∈ h.objects, x.wf) ∧ (h.roots.length ≤ 9223372036854775807 ∧ ∀ x ∈ h.roots, (Lit.int .i64 x).wf = true)
theorem prim_none : PrimOk pr := fun f p h => by cases h
theorem upto_len (p : Int → Bool) : ∀ (n : Nat) (i : Int), (upto p n i).length ≤ n
  | 0, i => by simp [upto]
  | n + 1, i => by
    have := upto_len p n (i + 1)
    unfold upto
    split
    · simp; omega
    · omega
theorem law0_ev (h : Hp) (hl : h.objects.length ≤ 9223372036854775807) (hs : ∀ x ∈ h.objects, x.links.length ≤ 9223372036854775807) (hr : h.roots.length ≤ 9223372036854775807) : Ev pr (.call 8 [vs h.ce] []) (.val (bl true) []) := by
  have h0 := szHeap_ev h 1048576 (by omega) (by omega) hl hs hr
  have e0 : (if szO h.objects 1048576 < 0 then -1 else if szI h.roots (szO h.objects 1048576) < 0 then -1 else szI h.roots (szO h.objects 1048576)) = szH h 1048576 := by
    unfold szH
    split
    · rfl
    · split
      · unfold szI at *; grind
      · rfl
  rw [e0] at h0
  by_cases hz : szH h 1048576 < 0
  · let t1 : Tp pr := .b (show (decide (szH h (1048576 : Int) < (0 : Int))) = true by (simp; omega))
    exact .tp [.a (h0), t1] (by kernel_rfl)
  · obtain ⟨k1, k2, k3, k4⟩ := szH_all hz
    have h1 := toHeap_ev h k1 k2 k3
    have h2 := ReachOfS_ev h k1 k2 k3
    have h3 := ReachOfI_ev h k1 k2 k3
    have h4 := eqHeap_ev h k1 k2 k3
    have h5 := markHeap_ev h h.objects.isEmpty k1 k2 k3 1 (by omega) (by omega) k4
    have h6 := marksO_nonneg h.objects
    by_cases hgd : goodHeap h = true
    · have hN := (goodHeap_ok hgd).objs
      have hrl : (reach h).length ≤ 40 := by
        have := upto_len (fun x => (order h).contains x) h.objects.length 0
        unfold reach
        omega
      have f1 := eqIntS_ev (reach h) (by omega)
      have f2 := markIntS_ev (reach h) 1 (by omega) (by omega) (by omega)
      have f3 := heldIntS_ev (reach h).length 1 (by omega) (by omega) (by omega)
      rw [reachO, reachM, if_pos hgd, if_pos hgd, hgd] at h3
      rw [if_pos hgd, hgd] at h2
      let t1 : Tp pr := .b (show (decide (szH h (1048576 : Int) < (0 : Int))) = false by (simp; omega))
      let t3 : Tp pr := .m (show (decide ((List.map Obj.cc h.objects).length = h.objects.length ∧ (0 : Nat) + h.objects.length ≤ h.objects.length)) = true by simp)
      let t4 : Tp pr := .n .rows (show (List.map (fun x => List.map C.fz x) (List.take h.objects.length (List.drop (0 : Nat) (List.map Obj.cc h.objects)))) = List.map Obj.ce h.objects by simp)
      let t5 : Tp pr := .m (show (decide ((ints h.roots).length = h.roots.length ∧ (0 : Nat) + h.roots.length ≤ h.roots.length)) = true by simp)
      let t6 : Tp pr := .n .rows (show (List.map (fun x => List.map C.fz x) (List.take h.roots.length (List.drop (0 : Nat) (ints h.roots)))) = List.map intt h.roots by simp)
      let t9 : Tp pr := .m (show (decide ((List.map Obj.cc h.objects).length = h.objects.length ∧ (0 : Nat) + h.objects.length ≤ h.objects.length)) = true by simp)
      let t10 : Tp pr := .n .rows (show (List.map (fun x => List.map C.fz x) (List.take h.objects.length (List.drop (0 : Nat) (List.map Obj.cc h.objects)))) = List.map Obj.ce h.objects by simp)
      let t11 : Tp pr := .m (show (decide ((ints h.roots).length = h.roots.length ∧ (0 : Nat) + h.roots.length ≤ h.roots.length)) = true by simp)
      let t12 : Tp pr := .n .rows (show (List.map (fun x => List.map C.fz x) (List.take h.roots.length (List.drop (0 : Nat) (ints h.roots)))) = List.map intt h.roots by simp)
      let t14 : Tp pr := .m (show (true && [Ob.vec true (1 : Nat) (ints (reach h))].all Ob.flat) = true by simp)
      let t15 : Tp pr := .m (show (decide ((ints (reach h)).length = (reach h).length ∧ (0 : Nat) + (reach h).length ≤ (reach h).length)) = true by simp)
      let t16 : Tp pr := .n .rows (show (List.map (fun x => List.map C.fz x) (List.take (reach h).length (List.drop (0 : Nat) (ints (reach h))))) = List.map intt (reach h) by simp)
      let t25 : Tp pr := .m (show (decide ((List.map Obj.cc h.objects).length = h.objects.length ∧ (0 : Nat) + h.objects.length ≤ h.objects.length)) = true by simp)
      let t26 : Tp pr := .n .rows (show (List.map (fun x => List.map C.fz x) (List.take h.objects.length (List.drop (0 : Nat) (List.map Obj.cc h.objects)))) = List.map Obj.ce h.objects by simp)
      let t27 : Tp pr := .m (show (decide ((ints h.roots).length = h.roots.length ∧ (0 : Nat) + h.roots.length ≤ h.roots.length)) = true by simp)
      let t28 : Tp pr := .n .rows (show (List.map (fun x => List.map C.fz x) (List.take h.roots.length (List.drop (0 : Nat) (ints h.roots)))) = List.map intt h.roots by simp)
      let t29 : Tp pr := .m (show (decide ((List.map Obj.cc h.objects).length = h.objects.length ∧ (0 : Nat) + h.objects.length ≤ h.objects.length)) = true by simp)
      let t30 : Tp pr := .n .rows (show (List.map (fun x => List.map C.fz x) (List.take h.objects.length (List.drop (0 : Nat) (List.map Obj.cc h.objects)))) = List.map Obj.ce h.objects by simp)
      let t31 : Tp pr := .m (show (decide ((ints h.roots).length = h.roots.length ∧ (0 : Nat) + h.roots.length ≤ h.roots.length)) = true by simp)
      let t32 : Tp pr := .n .rows (show (List.map (fun x => List.map C.fz x) (List.take h.roots.length (List.drop (0 : Nat) (ints h.roots)))) = List.map intt h.roots by simp)
      let t39 : Tp pr := .b (show (decide ((1 : Int) + marksO h.objects + (↑h.roots.length : Int) < (0 : Int))) = false by (simp; omega))
      let t40 : Tp pr := .m (show (decide ((ints (reach h)).length = (reach h).length ∧ (0 : Nat) + (reach h).length ≤ (reach h).length)) = true by simp)
      let t41 : Tp pr := .n .rows (show (List.map (fun x => List.map C.fz x) (List.take (reach h).length (List.drop (0 : Nat) (ints (reach h))))) = List.map intt (reach h) by simp)
      let t47 : Tp pr := .m (show (decide ((ints (markI (1 : Int) (reach h).length)).length = (reach h).length ∧ (0 : Nat) + (reach h).length ≤ (reach h).length)) = true by simp)
      let t48 : Tp pr := .n .rows (show (List.map (fun x => List.map C.fz x) (List.take (reach h).length (List.drop (0 : Nat) (ints (markI (1 : Int) (reach h).length))))) = List.map intt (markI (1 : Int) (reach h).length) by simp)
      let t52 : Tp pr := .b (show ((1 : Int) + (↑(reach h).length : Int) != (1 : Int) + (↑(reach h).length : Int)) = false by simp)
      let t54 : Tp pr := .m (show (decide ((List.map Obj.cc h.objects).length = h.objects.length ∧ (0 : Nat) + h.objects.length ≤ h.objects.length)) = true by simp)
      let t55 : Tp pr := .n .rows (show (List.map (fun x => List.map C.fz x) (List.take h.objects.length (List.drop (0 : Nat) (List.map Obj.cc h.objects)))) = List.map Obj.ce h.objects by simp)
      let t56 : Tp pr := .m (show (decide ((ints h.roots).length = h.roots.length ∧ (0 : Nat) + h.roots.length ≤ h.roots.length)) = true by simp)
      let t57 : Tp pr := .n .rows (show (List.map (fun x => List.map C.fz x) (List.take h.roots.length (List.drop (0 : Nat) (ints h.roots)))) = List.map intt h.roots by simp)
      let t59 : Tp pr := .m (show (true && [Ob.vec true (1 : Nat) (ints (reach h))].all Ob.flat) = true by simp)
      let t60 : Tp pr := .m (show (decide ((ints (reach h)).length = (reach h).length ∧ (0 : Nat) + (reach h).length ≤ (reach h).length)) = true by simp)
      let t61 : Tp pr := .n .rows (show (List.map (fun x => List.map C.fz x) (List.take (reach h).length (List.drop (0 : Nat) (ints (reach h))))) = List.map intt (reach h) by simp)
      let t66 : Tp pr := .m (show (decide ((ints (markI (1 : Int) (reach h).length)).length = (reach h).length ∧ (0 : Nat) + (reach h).length ≤ (reach h).length)) = true by simp)
      let t67 : Tp pr := .n .rows (show (List.map (fun x => List.map C.fz x) (List.take (reach h).length (List.drop (0 : Nat) (ints (markI (1 : Int) (reach h).length))))) = List.map intt (markI (1 : Int) (reach h).length) by simp)
      let t71 : Tp pr := .b (show ((1 : Int) + (↑(reach h).length : Int) != (1 : Int) + (↑(reach h).length : Int)) = false by simp)
      exact .tp [.a (h0), t1, .a (h1), t3, t4, t5, t6, .a (h2), .a (h1), t9, t10, t11, t12, .a (h3), t14, t15, t16, .a (f1), .m (rfl : true = true), .b (rfl : false = false), .b (rfl : false = false), .m (rfl : true = true), .m (rfl : true = true), .a (h1), .m (rfl : true = true), t25, t26, t27, t28, t29, t30, t31, t32, .a (h4), .m (rfl : true = true), .m (rfl : true = true), .m (rfl : true = true), .b (rfl : false = false), .a (h5), t39, t40, t41, .a (f1), .m (rfl : true = true), .b (rfl : false = false), .b (rfl : false = false), .a (f2), t47, t48, .a (f3), .m (rfl : true = true), .b (rfl : false = false), t52, .a (h1), t54, t55, t56, t57, .a (h3), t59, t60, t61, .a (f1), .m (rfl : true = true), .b (rfl : false = false), .b (rfl : false = false), t66, t67, .a (f3), .m (rfl : true = true), .b (rfl : false = false), t71] (by kernel_rfl)
    · have hgf : goodHeap h = false := by simpa using hgd
      have e1 := eqIntN_ev
      have e2 := markIntN_ev 1
      have e3 := heldIntN_ev 1
      rw [reachO, reachM, if_neg hgd, if_neg hgd, hgf] at h3
      rw [if_neg hgd, hgf] at h2
      let t1 : Tp pr := .b (show (decide (szH h (1048576 : Int) < (0 : Int))) = false by (simp; omega))
      let t3 : Tp pr := .m (show (decide ((List.map Obj.cc h.objects).length = h.objects.length ∧ (0 : Nat) + h.objects.length ≤ h.objects.length)) = true by simp)
      let t4 : Tp pr := .n .rows (show (List.map (fun x => List.map C.fz x) (List.take h.objects.length (List.drop (0 : Nat) (List.map Obj.cc h.objects)))) = List.map Obj.ce h.objects by simp)
      let t5 : Tp pr := .m (show (decide ((ints h.roots).length = h.roots.length ∧ (0 : Nat) + h.roots.length ≤ h.roots.length)) = true by simp)
      let t6 : Tp pr := .n .rows (show (List.map (fun x => List.map C.fz x) (List.take h.roots.length (List.drop (0 : Nat) (ints h.roots)))) = List.map intt h.roots by simp)
      let t9 : Tp pr := .m (show (decide ((List.map Obj.cc h.objects).length = h.objects.length ∧ (0 : Nat) + h.objects.length ≤ h.objects.length)) = true by simp)
      let t10 : Tp pr := .n .rows (show (List.map (fun x => List.map C.fz x) (List.take h.objects.length (List.drop (0 : Nat) (List.map Obj.cc h.objects)))) = List.map Obj.ce h.objects by simp)
      let t11 : Tp pr := .m (show (decide ((ints h.roots).length = h.roots.length ∧ (0 : Nat) + h.roots.length ≤ h.roots.length)) = true by simp)
      let t12 : Tp pr := .n .rows (show (List.map (fun x => List.map C.fz x) (List.take h.roots.length (List.drop (0 : Nat) (ints h.roots)))) = List.map intt h.roots by simp)
      let t22 : Tp pr := .m (show (decide ((List.map Obj.cc h.objects).length = h.objects.length ∧ (0 : Nat) + h.objects.length ≤ h.objects.length)) = true by simp)
      let t23 : Tp pr := .n .rows (show (List.map (fun x => List.map C.fz x) (List.take h.objects.length (List.drop (0 : Nat) (List.map Obj.cc h.objects)))) = List.map Obj.ce h.objects by simp)
      let t24 : Tp pr := .m (show (decide ((ints h.roots).length = h.roots.length ∧ (0 : Nat) + h.roots.length ≤ h.roots.length)) = true by simp)
      let t25 : Tp pr := .n .rows (show (List.map (fun x => List.map C.fz x) (List.take h.roots.length (List.drop (0 : Nat) (ints h.roots)))) = List.map intt h.roots by simp)
      let t26 : Tp pr := .m (show (decide ((List.map Obj.cc h.objects).length = h.objects.length ∧ (0 : Nat) + h.objects.length ≤ h.objects.length)) = true by simp)
      let t27 : Tp pr := .n .rows (show (List.map (fun x => List.map C.fz x) (List.take h.objects.length (List.drop (0 : Nat) (List.map Obj.cc h.objects)))) = List.map Obj.ce h.objects by simp)
      let t28 : Tp pr := .m (show (decide ((ints h.roots).length = h.roots.length ∧ (0 : Nat) + h.roots.length ≤ h.roots.length)) = true by simp)
      let t29 : Tp pr := .n .rows (show (List.map (fun x => List.map C.fz x) (List.take h.roots.length (List.drop (0 : Nat) (ints h.roots)))) = List.map intt h.roots by simp)
      let t36 : Tp pr := .b (show (decide ((1 : Int) + marksO h.objects + (↑h.roots.length : Int) < (0 : Int))) = false by (simp; omega))
      let t45 : Tp pr := .m (show (decide ((List.map Obj.cc h.objects).length = h.objects.length ∧ (0 : Nat) + h.objects.length ≤ h.objects.length)) = true by simp)
      let t46 : Tp pr := .n .rows (show (List.map (fun x => List.map C.fz x) (List.take h.objects.length (List.drop (0 : Nat) (List.map Obj.cc h.objects)))) = List.map Obj.ce h.objects by simp)
      let t47 : Tp pr := .m (show (decide ((ints h.roots).length = h.roots.length ∧ (0 : Nat) + h.roots.length ≤ h.roots.length)) = true by simp)
      let t48 : Tp pr := .n .rows (show (List.map (fun x => List.map C.fz x) (List.take h.roots.length (List.drop (0 : Nat) (ints h.roots)))) = List.map intt h.roots by simp)
      exact .tp [.a (h0), t1, .a (h1), t3, t4, t5, t6, .a (h2), .a (h1), t9, t10, t11, t12, .a (h3), .m (rfl : true = true), .a (e1), .b (rfl : false = false), .b (rfl : false = false), .m (rfl : true = true), .m (rfl : true = true), .a (h1), .m (rfl : true = true), t22, t23, t24, t25, t26, t27, t28, t29, .a (h4), .m (rfl : true = true), .m (rfl : true = true), .m (rfl : true = true), .b (rfl : false = false), .a (h5), t36, .a (e1), .b (rfl : false = false), .b (rfl : false = false), .a (e2), .a (e3), .b (rfl : false = false), .b (rfl : false = false), .a (h1), t45, t46, t47, t48, .a (h3), .m (rfl : true = true), .a (e1), .b (rfl : false = false), .b (rfl : false = false), .a (e3), .b (rfl : false = false), .b (rfl : false = false)] (by kernel_rfl)
theorem law_ev (h : Hp) (hw : h.wf) : Ev pr (.call 8 [vs h.ce] []) (.val (.t (.bool true)) []) := law0_ev h hw.1.1 (fun x hx => (hw.1.2 x hx).2.1) hw.2.1
end Go.Ev
