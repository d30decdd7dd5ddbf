import Derived.Test.YtipolnpffmfmmaaKFnExactSameHeaps4
/- Copies of heaps. -/
namespace Go.Ev
set_option linter.unusedVariables false
set_option linter.unusedSimpArgs false
open Go.Proofs
set_option maxRecDepth 100000
set_option linter.unusedVariables false
set_option maxHeartbeats 4000000
attribute [local simp] ints_takeC
@[simp] theorem ints_flat9 (fl : Bool) (n : Nat) (l : List Int) : Ob.flat (.vec fl n (ints l)) = true := by simp [Ob.flat, ints, intc, C.flat, T.flat]
@[simp] theorem rep_flat9 (fl : Bool) (n m : Nat) (k : Int) : Ob.flat (.vec fl n (List.replicate m [C.t (.int .i64 k)])) = true := by simp [Ob.flat, C.flat, T.flat]
theorem namesOf_nil (N : Nat) : namesOf N [] = List.replicate N (-1) := by
  apply List.ext_getElem?
  intro j
  simp only [namesOf, List.getElem?_map, List.getElem?_replicate]
  by_cases hj : j < N
  · rw [List.getElem?_range hj, if_pos hj]; rfl
  · rw [List.getElem?_eq_none (by simpa using hj), if_neg hj]; rfl
def chM (h : Hp) (l : List Int) (rt : List Int) (outs : List Obj) : List Ob :=
  [.box [osq h.objects, isq h.roots], .box [.t .nils, .t .nils], .box [.ptr 0 1 0 0, .vec 4 l.length 1 0 l.length, .vec 5 h.objects.length 1 0 h.objects.length], .box [.vec 6 outs.length 2 0 outs.length, .vec 7 rt.length 1 0 rt.length],
   .vec true 1 (ints l), .vec true 1 (ints (namesOf h.objects.length l)), .vec outs.isEmpty 2 (outs.map Obj.cc), .vec true 1 (ints rt)]
def chE (h : Hp) (l : List Int) (rt : List Int) (outs : List Obj) : List Ob :=
  [.box [.t .nils, .t .nils], .box [.ptr 3 1 0 0, .vec 4 l.length 1 0 l.length, .vec 5 h.objects.length 1 0 h.objects.length], .box [.vec 6 outs.length 2 0 outs.length, .vec 7 rt.length 1 0 rt.length],
   .box [osq h.objects, isq h.roots], .vec true 1 (ints l), .vec true 1 (ints (namesOf h.objects.length l)), .vec outs.isEmpty 2 (outs.map Obj.cc), .vec true 1 (ints rt)]
theorem outs_app (outs : List Obj) (o : Obj) : (outs ++ [o]).map Obj.cc = (outs.map Obj.cc).append [[C.t (.int .i64 o.mark), C.row 1 (o.links.map intt)]] := by simp [Obj.cc]
theorem outs_emp (outs : List Obj) (o : Obj) : (outs ++ [o]).isEmpty = false := by simp
theorem ints_get9 {l : List Int} {i : Nat} {k : Int} (h : l[i]? = some k) : (ints l)[i]? = some [C.t (.int .i64 k)] := by simp [ints, h, intc]
theorem obs_get9 {h : Hp} {k : Int} (h0 : 0 ≤ k) (h1 : k < h.objects.length) : lkp (h.objects.map Obj.ce) k = some (objAt h k).ce := by
  obtain ⟨n, rfl⟩ : ∃ n : Nat, k = n := ⟨k.toNat, by omega⟩
  have hn : n < h.objects.length := by omega
  simp [objAt, List.getD_eq_getElem?_getD, hn, lkp]
theorem copyL_ev (h : Hp) (hg : GoodH h) (rt : List Int) : ∀ (n i : Nat) (l : List Int) (outs : List Obj), done h n i l → outs.length = i → i ≤ l.length → l.Nodup → (∀ x ∈ l, 0 ≤ x ∧ x < h.objects.length) →
    Ev pr (.loop (lq pr 56 0) (at_ [(1, .ptr 0 1 0 0), (2, .ptr 1 1 0 0), (4, .ptr 2 1 0 0), (5, .ptr 3 1 0 0), (6, i64 i)] (chM h l rt outs) 0))
      (.exit 0 (at_ [(2, .ptr 0 1 0 0), (4, .ptr 1 1 0 0), (5, .ptr 2 1 0 0)] (chE h (copyGo h n i l).1 rt (outs ++ (copyGo h n i l).2)) 0))
  | 0, i, l, outs, hd, ho, hi, hn, hb => by
    have hd' : l.length ≤ i := hd
    have hl := nodup_len _ l hn hb
    have hc : copyGo h 0 i l = (l, []) := rfl
    rw [hc]
    have he : l.length = i := by omega
    have h1 := hg.objs
    let t1 : Tp pr := .b (show (decide ((↑i : Int) < (↑l.length : Int))) = false by (simp; omega))
    exact .tpe [.i (rfl : ((↑l.length : Int)) = _), t1] (Out.exit (0 : Nat) (at_ [((2 : Nat), V.ptr (0 : Nat) (1 : Nat) (0 : Nat) (0 : Nat)), ((4 : Nat), V.ptr (1 : Nat) (1 : Nat) (0 : Nat) (0 : Nat)), ((5 : Nat), V.ptr (2 : Nat) (1 : Nat) (0 : Nat) (0 : Nat))] [Ob.box [V.t T.nils, V.t T.nils], Ob.box [V.ptr (3 : Nat) (1 : Nat) (0 : Nat) (0 : Nat), V.vec (4 : Nat) l.length (1 : Nat) (0 : Nat) l.length, V.vec (5 : Nat) h.objects.length (1 : Nat) (0 : Nat) h.objects.length], Ob.box [V.vec (6 : Nat) outs.length (2 : Nat) (0 : Nat) outs.length, V.vec (7 : Nat) rt.length (1 : Nat) (0 : Nat) rt.length], Ob.box [V.t (T.seq (2 : Nat) (List.map Obj.ce h.objects)), V.t (T.seq (1 : Nat) (List.map intt h.roots))], Ob.vec true (1 : Nat) (ints l), Ob.vec true (1 : Nat) (ints (namesOf h.objects.length l)), Ob.vec outs.isEmpty (2 : Nat) (List.map Obj.cc outs), Ob.vec true (1 : Nat) (ints rt)] (0 : Nat))) (by kernel_rfl) ((((((((congrArg (fun x => Out.exit (0 : Nat) (at_ [((2 : Nat), V.ptr (0 : Nat) (1 : Nat) (0 : Nat) (0 : Nat)), ((4 : Nat), V.ptr (1 : Nat) (1 : Nat) (0 : Nat) (0 : Nat)), ((5 : Nat), V.ptr (2 : Nat) (1 : Nat) (0 : Nat) (0 : Nat))] [Ob.box [V.t T.nils, V.t T.nils], Ob.box [V.ptr (3 : Nat) (1 : Nat) (0 : Nat) (0 : Nat), V.vec (4 : Nat) x (1 : Nat) (0 : Nat) l.length, V.vec (5 : Nat) h.objects.length (1 : Nat) (0 : Nat) h.objects.length], Ob.box [V.vec (6 : Nat) outs.length (2 : Nat) (0 : Nat) outs.length, V.vec (7 : Nat) rt.length (1 : Nat) (0 : Nat) rt.length], Ob.box [V.t (T.seq (2 : Nat) (List.map Obj.ce h.objects)), V.t (T.seq (1 : Nat) (List.map intt h.roots))], Ob.vec true (1 : Nat) (ints l), Ob.vec true (1 : Nat) (ints (namesOf h.objects.length l)), Ob.vec outs.isEmpty (2 : Nat) (List.map Obj.cc outs), Ob.vec true (1 : Nat) (ints rt)] (0 : Nat))) (show (l.length) = ((l, []).fst.length) by simp)).trans (congrArg (fun x => Out.exit (0 : Nat) (at_ [((2 : Nat), V.ptr (0 : Nat) (1 : Nat) (0 : Nat) (0 : Nat)), ((4 : Nat), V.ptr (1 : Nat) (1 : Nat) (0 : Nat) (0 : Nat)), ((5 : Nat), V.ptr (2 : Nat) (1 : Nat) (0 : Nat) (0 : Nat))] [Ob.box [V.t T.nils, V.t T.nils], Ob.box [V.ptr (3 : Nat) (1 : Nat) (0 : Nat) (0 : Nat), V.vec (4 : Nat) (l, []).fst.length (1 : Nat) (0 : Nat) x, V.vec (5 : Nat) h.objects.length (1 : Nat) (0 : Nat) h.objects.length], Ob.box [V.vec (6 : Nat) outs.length (2 : Nat) (0 : Nat) outs.length, V.vec (7 : Nat) rt.length (1 : Nat) (0 : Nat) rt.length], Ob.box [V.t (T.seq (2 : Nat) (List.map Obj.ce h.objects)), V.t (T.seq (1 : Nat) (List.map intt h.roots))], Ob.vec true (1 : Nat) (ints l), Ob.vec true (1 : Nat) (ints (namesOf h.objects.length l)), Ob.vec outs.isEmpty (2 : Nat) (List.map Obj.cc outs), Ob.vec true (1 : Nat) (ints rt)] (0 : Nat))) (show (l.length) = ((l, []).fst.length) by simp))).trans (congrArg (fun x => Out.exit (0 : Nat) (at_ [((2 : Nat), V.ptr (0 : Nat) (1 : Nat) (0 : Nat) (0 : Nat)), ((4 : Nat), V.ptr (1 : Nat) (1 : Nat) (0 : Nat) (0 : Nat)), ((5 : Nat), V.ptr (2 : Nat) (1 : Nat) (0 : Nat) (0 : Nat))] [Ob.box [V.t T.nils, V.t T.nils], Ob.box [V.ptr (3 : Nat) (1 : Nat) (0 : Nat) (0 : Nat), V.vec (4 : Nat) (l, []).fst.length (1 : Nat) (0 : Nat) (l, []).fst.length, V.vec (5 : Nat) h.objects.length (1 : Nat) (0 : Nat) h.objects.length], Ob.box [V.vec (6 : Nat) x (2 : Nat) (0 : Nat) outs.length, V.vec (7 : Nat) rt.length (1 : Nat) (0 : Nat) rt.length], Ob.box [V.t (T.seq (2 : Nat) (List.map Obj.ce h.objects)), V.t (T.seq (1 : Nat) (List.map intt h.roots))], Ob.vec true (1 : Nat) (ints l), Ob.vec true (1 : Nat) (ints (namesOf h.objects.length l)), Ob.vec outs.isEmpty (2 : Nat) (List.map Obj.cc outs), Ob.vec true (1 : Nat) (ints rt)] (0 : Nat))) (show (outs.length) = ((outs ++ (l, []).snd).length) by simp))).trans (congrArg (fun x => Out.exit (0 : Nat) (at_ [((2 : Nat), V.ptr (0 : Nat) (1 : Nat) (0 : Nat) (0 : Nat)), ((4 : Nat), V.ptr (1 : Nat) (1 : Nat) (0 : Nat) (0 : Nat)), ((5 : Nat), V.ptr (2 : Nat) (1 : Nat) (0 : Nat) (0 : Nat))] [Ob.box [V.t T.nils, V.t T.nils], Ob.box [V.ptr (3 : Nat) (1 : Nat) (0 : Nat) (0 : Nat), V.vec (4 : Nat) (l, []).fst.length (1 : Nat) (0 : Nat) (l, []).fst.length, V.vec (5 : Nat) h.objects.length (1 : Nat) (0 : Nat) h.objects.length], Ob.box [V.vec (6 : Nat) (outs ++ (l, []).snd).length (2 : Nat) (0 : Nat) x, V.vec (7 : Nat) rt.length (1 : Nat) (0 : Nat) rt.length], Ob.box [V.t (T.seq (2 : Nat) (List.map Obj.ce h.objects)), V.t (T.seq (1 : Nat) (List.map intt h.roots))], Ob.vec true (1 : Nat) (ints l), Ob.vec true (1 : Nat) (ints (namesOf h.objects.length l)), Ob.vec outs.isEmpty (2 : Nat) (List.map Obj.cc outs), Ob.vec true (1 : Nat) (ints rt)] (0 : Nat))) (show (outs.length) = ((outs ++ (l, []).snd).length) by simp))).trans (congrArg (fun x => Out.exit (0 : Nat) (at_ [((2 : Nat), V.ptr (0 : Nat) (1 : Nat) (0 : Nat) (0 : Nat)), ((4 : Nat), V.ptr (1 : Nat) (1 : Nat) (0 : Nat) (0 : Nat)), ((5 : Nat), V.ptr (2 : Nat) (1 : Nat) (0 : Nat) (0 : Nat))] [Ob.box [V.t T.nils, V.t T.nils], Ob.box [V.ptr (3 : Nat) (1 : Nat) (0 : Nat) (0 : Nat), V.vec (4 : Nat) (l, []).fst.length (1 : Nat) (0 : Nat) (l, []).fst.length, V.vec (5 : Nat) h.objects.length (1 : Nat) (0 : Nat) h.objects.length], Ob.box [V.vec (6 : Nat) (outs ++ (l, []).snd).length (2 : Nat) (0 : Nat) (outs ++ (l, []).snd).length, V.vec (7 : Nat) rt.length (1 : Nat) (0 : Nat) rt.length], Ob.box [V.t (T.seq (2 : Nat) (List.map Obj.ce h.objects)), V.t (T.seq (1 : Nat) (List.map intt h.roots))], Ob.vec true (1 : Nat) x, Ob.vec true (1 : Nat) (ints (namesOf h.objects.length l)), Ob.vec outs.isEmpty (2 : Nat) (List.map Obj.cc outs), Ob.vec true (1 : Nat) (ints rt)] (0 : Nat))) (show (ints l) = (ints (l, []).fst) by simp))).trans (congrArg (fun x => Out.exit (0 : Nat) (at_ [((2 : Nat), V.ptr (0 : Nat) (1 : Nat) (0 : Nat) (0 : Nat)), ((4 : Nat), V.ptr (1 : Nat) (1 : Nat) (0 : Nat) (0 : Nat)), ((5 : Nat), V.ptr (2 : Nat) (1 : Nat) (0 : Nat) (0 : Nat))] [Ob.box [V.t T.nils, V.t T.nils], Ob.box [V.ptr (3 : Nat) (1 : Nat) (0 : Nat) (0 : Nat), V.vec (4 : Nat) (l, []).fst.length (1 : Nat) (0 : Nat) (l, []).fst.length, V.vec (5 : Nat) h.objects.length (1 : Nat) (0 : Nat) h.objects.length], Ob.box [V.vec (6 : Nat) (outs ++ (l, []).snd).length (2 : Nat) (0 : Nat) (outs ++ (l, []).snd).length, V.vec (7 : Nat) rt.length (1 : Nat) (0 : Nat) rt.length], Ob.box [V.t (T.seq (2 : Nat) (List.map Obj.ce h.objects)), V.t (T.seq (1 : Nat) (List.map intt h.roots))], Ob.vec true (1 : Nat) (ints (l, []).fst), Ob.vec true (1 : Nat) x, Ob.vec outs.isEmpty (2 : Nat) (List.map Obj.cc outs), Ob.vec true (1 : Nat) (ints rt)] (0 : Nat))) (show (ints (namesOf h.objects.length l)) = (ints (namesOf h.objects.length (l, []).fst)) by simp))).trans (congrArg (fun x => Out.exit (0 : Nat) (at_ [((2 : Nat), V.ptr (0 : Nat) (1 : Nat) (0 : Nat) (0 : Nat)), ((4 : Nat), V.ptr (1 : Nat) (1 : Nat) (0 : Nat) (0 : Nat)), ((5 : Nat), V.ptr (2 : Nat) (1 : Nat) (0 : Nat) (0 : Nat))] [Ob.box [V.t T.nils, V.t T.nils], Ob.box [V.ptr (3 : Nat) (1 : Nat) (0 : Nat) (0 : Nat), V.vec (4 : Nat) (l, []).fst.length (1 : Nat) (0 : Nat) (l, []).fst.length, V.vec (5 : Nat) h.objects.length (1 : Nat) (0 : Nat) h.objects.length], Ob.box [V.vec (6 : Nat) (outs ++ (l, []).snd).length (2 : Nat) (0 : Nat) (outs ++ (l, []).snd).length, V.vec (7 : Nat) rt.length (1 : Nat) (0 : Nat) rt.length], Ob.box [V.t (T.seq (2 : Nat) (List.map Obj.ce h.objects)), V.t (T.seq (1 : Nat) (List.map intt h.roots))], Ob.vec true (1 : Nat) (ints (l, []).fst), Ob.vec true (1 : Nat) (ints (namesOf h.objects.length (l, []).fst)), Ob.vec x (2 : Nat) (List.map Obj.cc outs), Ob.vec true (1 : Nat) (ints rt)] (0 : Nat))) (show (outs.isEmpty) = ((outs ++ (l, []).snd).isEmpty) by simp))).trans (congrArg (fun x => Out.exit (0 : Nat) (at_ [((2 : Nat), V.ptr (0 : Nat) (1 : Nat) (0 : Nat) (0 : Nat)), ((4 : Nat), V.ptr (1 : Nat) (1 : Nat) (0 : Nat) (0 : Nat)), ((5 : Nat), V.ptr (2 : Nat) (1 : Nat) (0 : Nat) (0 : Nat))] [Ob.box [V.t T.nils, V.t T.nils], Ob.box [V.ptr (3 : Nat) (1 : Nat) (0 : Nat) (0 : Nat), V.vec (4 : Nat) (l, []).fst.length (1 : Nat) (0 : Nat) (l, []).fst.length, V.vec (5 : Nat) h.objects.length (1 : Nat) (0 : Nat) h.objects.length], Ob.box [V.vec (6 : Nat) (outs ++ (l, []).snd).length (2 : Nat) (0 : Nat) (outs ++ (l, []).snd).length, V.vec (7 : Nat) rt.length (1 : Nat) (0 : Nat) rt.length], Ob.box [V.t (T.seq (2 : Nat) (List.map Obj.ce h.objects)), V.t (T.seq (1 : Nat) (List.map intt h.roots))], Ob.vec true (1 : Nat) (ints (l, []).fst), Ob.vec true (1 : Nat) (ints (namesOf h.objects.length (l, []).fst)), Ob.vec (outs ++ (l, []).snd).isEmpty (2 : Nat) x, Ob.vec true (1 : Nat) (ints rt)] (0 : Nat))) (show (List.map Obj.cc outs) = (List.map Obj.cc (outs ++ (l, []).snd)) by simp)))
  | n + 1, i, l, outs, hd, ho, hi, hn, hb => by
    have hl := nodup_len _ l hn hb
    have h1 := hg.objs
    cases hk : l[i]? with
    | none =>
      have he : l.length ≤ i := List.getElem?_eq_none_iff.1 hk
      have he : l.length = i := by omega
      have hc : copyGo h (n + 1) i l = (l, []) := by rw [copyGo, hk]
      rw [hc]
      let t1 : Tp pr := .b (show (decide ((↑i : Int) < (↑l.length : Int))) = false by (simp; omega))
      exact .tpe [.i (rfl : ((↑l.length : Int)) = _), t1] (Out.exit (0 : Nat) (at_ [((2 : Nat), V.ptr (0 : Nat) (1 : Nat) (0 : Nat) (0 : Nat)), ((4 : Nat), V.ptr (1 : Nat) (1 : Nat) (0 : Nat) (0 : Nat)), ((5 : Nat), V.ptr (2 : Nat) (1 : Nat) (0 : Nat) (0 : Nat))] [Ob.box [V.t T.nils, V.t T.nils], Ob.box [V.ptr (3 : Nat) (1 : Nat) (0 : Nat) (0 : Nat), V.vec (4 : Nat) l.length (1 : Nat) (0 : Nat) l.length, V.vec (5 : Nat) h.objects.length (1 : Nat) (0 : Nat) h.objects.length], Ob.box [V.vec (6 : Nat) outs.length (2 : Nat) (0 : Nat) outs.length, V.vec (7 : Nat) rt.length (1 : Nat) (0 : Nat) rt.length], Ob.box [V.t (T.seq (2 : Nat) (List.map Obj.ce h.objects)), V.t (T.seq (1 : Nat) (List.map intt h.roots))], Ob.vec true (1 : Nat) (ints l), Ob.vec true (1 : Nat) (ints (namesOf h.objects.length l)), Ob.vec outs.isEmpty (2 : Nat) (List.map Obj.cc outs), Ob.vec true (1 : Nat) (ints rt)] (0 : Nat))) (by kernel_rfl) ((((((((congrArg (fun x => Out.exit (0 : Nat) (at_ [((2 : Nat), V.ptr (0 : Nat) (1 : Nat) (0 : Nat) (0 : Nat)), ((4 : Nat), V.ptr (1 : Nat) (1 : Nat) (0 : Nat) (0 : Nat)), ((5 : Nat), V.ptr (2 : Nat) (1 : Nat) (0 : Nat) (0 : Nat))] [Ob.box [V.t T.nils, V.t T.nils], Ob.box [V.ptr (3 : Nat) (1 : Nat) (0 : Nat) (0 : Nat), V.vec (4 : Nat) x (1 : Nat) (0 : Nat) l.length, V.vec (5 : Nat) h.objects.length (1 : Nat) (0 : Nat) h.objects.length], Ob.box [V.vec (6 : Nat) outs.length (2 : Nat) (0 : Nat) outs.length, V.vec (7 : Nat) rt.length (1 : Nat) (0 : Nat) rt.length], Ob.box [V.t (T.seq (2 : Nat) (List.map Obj.ce h.objects)), V.t (T.seq (1 : Nat) (List.map intt h.roots))], Ob.vec true (1 : Nat) (ints l), Ob.vec true (1 : Nat) (ints (namesOf h.objects.length l)), Ob.vec outs.isEmpty (2 : Nat) (List.map Obj.cc outs), Ob.vec true (1 : Nat) (ints rt)] (0 : Nat))) (show (l.length) = ((l, []).fst.length) by simp)).trans (congrArg (fun x => Out.exit (0 : Nat) (at_ [((2 : Nat), V.ptr (0 : Nat) (1 : Nat) (0 : Nat) (0 : Nat)), ((4 : Nat), V.ptr (1 : Nat) (1 : Nat) (0 : Nat) (0 : Nat)), ((5 : Nat), V.ptr (2 : Nat) (1 : Nat) (0 : Nat) (0 : Nat))] [Ob.box [V.t T.nils, V.t T.nils], Ob.box [V.ptr (3 : Nat) (1 : Nat) (0 : Nat) (0 : Nat), V.vec (4 : Nat) (l, []).fst.length (1 : Nat) (0 : Nat) x, V.vec (5 : Nat) h.objects.length (1 : Nat) (0 : Nat) h.objects.length], Ob.box [V.vec (6 : Nat) outs.length (2 : Nat) (0 : Nat) outs.length, V.vec (7 : Nat) rt.length (1 : Nat) (0 : Nat) rt.length], Ob.box [V.t (T.seq (2 : Nat) (List.map Obj.ce h.objects)), V.t (T.seq (1 : Nat) (List.map intt h.roots))], Ob.vec true (1 : Nat) (ints l), Ob.vec true (1 : Nat) (ints (namesOf h.objects.length l)), Ob.vec outs.isEmpty (2 : Nat) (List.map Obj.cc outs), Ob.vec true (1 : Nat) (ints rt)] (0 : Nat))) (show (l.length) = ((l, []).fst.length) by simp))).trans (congrArg (fun x => Out.exit (0 : Nat) (at_ [((2 : Nat), V.ptr (0 : Nat) (1 : Nat) (0 : Nat) (0 : Nat)), ((4 : Nat), V.ptr (1 : Nat) (1 : Nat) (0 : Nat) (0 : Nat)), ((5 : Nat), V.ptr (2 : Nat) (1 : Nat) (0 : Nat) (0 : Nat))] [Ob.box [V.t T.nils, V.t T.nils], Ob.box [V.ptr (3 : Nat) (1 : Nat) (0 : Nat) (0 : Nat), V.vec (4 : Nat) (l, []).fst.length (1 : Nat) (0 : Nat) (l, []).fst.length, V.vec (5 : Nat) h.objects.length (1 : Nat) (0 : Nat) h.objects.length], Ob.box [V.vec (6 : Nat) x (2 : Nat) (0 : Nat) outs.length, V.vec (7 : Nat) rt.length (1 : Nat) (0 : Nat) rt.length], Ob.box [V.t (T.seq (2 : Nat) (List.map Obj.ce h.objects)), V.t (T.seq (1 : Nat) (List.map intt h.roots))], Ob.vec true (1 : Nat) (ints l), Ob.vec true (1 : Nat) (ints (namesOf h.objects.length l)), Ob.vec outs.isEmpty (2 : Nat) (List.map Obj.cc outs), Ob.vec true (1 : Nat) (ints rt)] (0 : Nat))) (show (outs.length) = ((outs ++ (l, []).snd).length) by simp))).trans (congrArg (fun x => Out.exit (0 : Nat) (at_ [((2 : Nat), V.ptr (0 : Nat) (1 : Nat) (0 : Nat) (0 : Nat)), ((4 : Nat), V.ptr (1 : Nat) (1 : Nat) (0 : Nat) (0 : Nat)), ((5 : Nat), V.ptr (2 : Nat) (1 : Nat) (0 : Nat) (0 : Nat))] [Ob.box [V.t T.nils, V.t T.nils], Ob.box [V.ptr (3 : Nat) (1 : Nat) (0 : Nat) (0 : Nat), V.vec (4 : Nat) (l, []).fst.length (1 : Nat) (0 : Nat) (l, []).fst.length, V.vec (5 : Nat) h.objects.length (1 : Nat) (0 : Nat) h.objects.length], Ob.box [V.vec (6 : Nat) (outs ++ (l, []).snd).length (2 : Nat) (0 : Nat) x, V.vec (7 : Nat) rt.length (1 : Nat) (0 : Nat) rt.length], Ob.box [V.t (T.seq (2 : Nat) (List.map Obj.ce h.objects)), V.t (T.seq (1 : Nat) (List.map intt h.roots))], Ob.vec true (1 : Nat) (ints l), Ob.vec true (1 : Nat) (ints (namesOf h.objects.length l)), Ob.vec outs.isEmpty (2 : Nat) (List.map Obj.cc outs), Ob.vec true (1 : Nat) (ints rt)] (0 : Nat))) (show (outs.length) = ((outs ++ (l, []).snd).length) by simp))).trans (congrArg (fun x => Out.exit (0 : Nat) (at_ [((2 : Nat), V.ptr (0 : Nat) (1 : Nat) (0 : Nat) (0 : Nat)), ((4 : Nat), V.ptr (1 : Nat) (1 : Nat) (0 : Nat) (0 : Nat)), ((5 : Nat), V.ptr (2 : Nat) (1 : Nat) (0 : Nat) (0 : Nat))] [Ob.box [V.t T.nils, V.t T.nils], Ob.box [V.ptr (3 : Nat) (1 : Nat) (0 : Nat) (0 : Nat), V.vec (4 : Nat) (l, []).fst.length (1 : Nat) (0 : Nat) (l, []).fst.length, V.vec (5 : Nat) h.objects.length (1 : Nat) (0 : Nat) h.objects.length], Ob.box [V.vec (6 : Nat) (outs ++ (l, []).snd).length (2 : Nat) (0 : Nat) (outs ++ (l, []).snd).length, V.vec (7 : Nat) rt.length (1 : Nat) (0 : Nat) rt.length], Ob.box [V.t (T.seq (2 : Nat) (List.map Obj.ce h.objects)), V.t (T.seq (1 : Nat) (List.map intt h.roots))], Ob.vec true (1 : Nat) x, Ob.vec true (1 : Nat) (ints (namesOf h.objects.length l)), Ob.vec outs.isEmpty (2 : Nat) (List.map Obj.cc outs), Ob.vec true (1 : Nat) (ints rt)] (0 : Nat))) (show (ints l) = (ints (l, []).fst) by simp))).trans (congrArg (fun x => Out.exit (0 : Nat) (at_ [((2 : Nat), V.ptr (0 : Nat) (1 : Nat) (0 : Nat) (0 : Nat)), ((4 : Nat), V.ptr (1 : Nat) (1 : Nat) (0 : Nat) (0 : Nat)), ((5 : Nat), V.ptr (2 : Nat) (1 : Nat) (0 : Nat) (0 : Nat))] [Ob.box [V.t T.nils, V.t T.nils], Ob.box [V.ptr (3 : Nat) (1 : Nat) (0 : Nat) (0 : Nat), V.vec (4 : Nat) (l, []).fst.length (1 : Nat) (0 : Nat) (l, []).fst.length, V.vec (5 : Nat) h.objects.length (1 : Nat) (0 : Nat) h.objects.length], Ob.box [V.vec (6 : Nat) (outs ++ (l, []).snd).length (2 : Nat) (0 : Nat) (outs ++ (l, []).snd).length, V.vec (7 : Nat) rt.length (1 : Nat) (0 : Nat) rt.length], Ob.box [V.t (T.seq (2 : Nat) (List.map Obj.ce h.objects)), V.t (T.seq (1 : Nat) (List.map intt h.roots))], Ob.vec true (1 : Nat) (ints (l, []).fst), Ob.vec true (1 : Nat) x, Ob.vec outs.isEmpty (2 : Nat) (List.map Obj.cc outs), Ob.vec true (1 : Nat) (ints rt)] (0 : Nat))) (show (ints (namesOf h.objects.length l)) = (ints (namesOf h.objects.length (l, []).fst)) by simp))).trans (congrArg (fun x => Out.exit (0 : Nat) (at_ [((2 : Nat), V.ptr (0 : Nat) (1 : Nat) (0 : Nat) (0 : Nat)), ((4 : Nat), V.ptr (1 : Nat) (1 : Nat) (0 : Nat) (0 : Nat)), ((5 : Nat), V.ptr (2 : Nat) (1 : Nat) (0 : Nat) (0 : Nat))] [Ob.box [V.t T.nils, V.t T.nils], Ob.box [V.ptr (3 : Nat) (1 : Nat) (0 : Nat) (0 : Nat), V.vec (4 : Nat) (l, []).fst.length (1 : Nat) (0 : Nat) (l, []).fst.length, V.vec (5 : Nat) h.objects.length (1 : Nat) (0 : Nat) h.objects.length], Ob.box [V.vec (6 : Nat) (outs ++ (l, []).snd).length (2 : Nat) (0 : Nat) (outs ++ (l, []).snd).length, V.vec (7 : Nat) rt.length (1 : Nat) (0 : Nat) rt.length], Ob.box [V.t (T.seq (2 : Nat) (List.map Obj.ce h.objects)), V.t (T.seq (1 : Nat) (List.map intt h.roots))], Ob.vec true (1 : Nat) (ints (l, []).fst), Ob.vec true (1 : Nat) (ints (namesOf h.objects.length (l, []).fst)), Ob.vec x (2 : Nat) (List.map Obj.cc outs), Ob.vec true (1 : Nat) (ints rt)] (0 : Nat))) (show (outs.isEmpty) = ((outs ++ (l, []).snd).isEmpty) by simp))).trans (congrArg (fun x => Out.exit (0 : Nat) (at_ [((2 : Nat), V.ptr (0 : Nat) (1 : Nat) (0 : Nat) (0 : Nat)), ((4 : Nat), V.ptr (1 : Nat) (1 : Nat) (0 : Nat) (0 : Nat)), ((5 : Nat), V.ptr (2 : Nat) (1 : Nat) (0 : Nat) (0 : Nat))] [Ob.box [V.t T.nils, V.t T.nils], Ob.box [V.ptr (3 : Nat) (1 : Nat) (0 : Nat) (0 : Nat), V.vec (4 : Nat) (l, []).fst.length (1 : Nat) (0 : Nat) (l, []).fst.length, V.vec (5 : Nat) h.objects.length (1 : Nat) (0 : Nat) h.objects.length], Ob.box [V.vec (6 : Nat) (outs ++ (l, []).snd).length (2 : Nat) (0 : Nat) (outs ++ (l, []).snd).length, V.vec (7 : Nat) rt.length (1 : Nat) (0 : Nat) rt.length], Ob.box [V.t (T.seq (2 : Nat) (List.map Obj.ce h.objects)), V.t (T.seq (1 : Nat) (List.map intt h.roots))], Ob.vec true (1 : Nat) (ints (l, []).fst), Ob.vec true (1 : Nat) (ints (namesOf h.objects.length (l, []).fst)), Ob.vec (outs ++ (l, []).snd).isEmpty (2 : Nat) x, Ob.vec true (1 : Nat) (ints rt)] (0 : Nat))) (show (List.map Obj.cc outs) = (List.map Obj.cc (outs ++ (l, []).snd)) by simp)))
    | some k =>
      have hlt : i < l.length := (List.getElem?_eq_some_iff.1 hk).1
      have hkb := hb k (List.mem_of_getElem? hk)
      have hm := objAt_mem hkb.1 hkb.2
      have hc : copyGo h (n + 1) i l = ((copyGo h n (i + 1) (nameGo l (objAt h k).links).1).1, ⟨(objAt h k).mark, (nameGo l (objAt h k).links).2⟩ :: (copyGo h n (i + 1) (nameGo l (objAt h k).links).1).2) := by rw [copyGo, hk]
      have hd' : done h n (i + 1) (pushAll l (objAt h k).links) := by
        unfold done at hd
        rw [hk] at hd
        exact hd
      have hlk := hg.links _ hm
      have hlm := hg.llen _ hm
      have g1 := ints_get9 hk
      have g2 := obs_get9 hkb.1 hkb.2
      have c1 := all_ev h h.objects.length h1 (objAt h k).links l (by omega) (fun x hx => (hlk x hx).2) (by omega) (fun x hx => (hb x hx).1)
      have ih := copyL_ev h hg rt n (i + 1) (nameGo l (objAt h k).links).1 (outs ++ [⟨(objAt h k).mark, (nameGo l (objAt h k).links).2⟩])
        (by rw [nameGo_order]; exact hd') (by simp [ho]) (by have := nameGo_ge (objAt h k).links l; omega)
        (by rw [nameGo_order]; exact pushAll_nodup _ _ hn) (by rw [nameGo_order]; exact pushAll_bd _ _ hb fun x hx => (hlk x hx).2)
      rw [hc]
      simp only [chM, outs_app, outs_emp, List.length_append, List.length_singleton] at ih
      let t1 : Tp pr := .b (show (decide ((↑i : Int) < (↑l.length : Int))) = true by (simp; omega))
      let t7 : Tp pr := .m (show (decide ((0 : Int) ≤ (↑i : Int) ∧ (↑i : Int).toNat < l.length)) = true by simp [*])
      let t8 : Tp pr := .c (show ((0 : Nat) + (↑i : Int).toNat : Nat) = i by omega)
      let t10 : Tp pr := .m (show (decide ((ints l).length = l.length)) = true by simp)
      let t11 : Tp pr := .g .crow (show ((ints l)[i]?) = some ([C.t (T.int IntKind.i64 k)]) from g1)
      let t13 : Tp pr := .g .row (show (lkp (List.map Obj.ce h.objects) k) = some ((objAt h k).ce) from g2)
      let t27 : Tp pr := .m (show (decide ((ints (nameGo l (objAt h k).links).snd).length = (nameGo l (objAt h k).links).snd.length ∧ (nameGo l (objAt h k).links).snd.length ≤ (nameGo l (objAt h k).links).snd.length)) = true by simp)
      let t29 : Tp pr := .g .crow (show (some [C.t (T.int IntKind.i64 (objAt h k).mark), C.t T.nils]) = some ([C.t (T.int IntKind.i64 (objAt h k).mark), C.t T.nils]) by simp)
      let t30 : Tp pr := .n .rows (show (List.map (fun x => List.map C.fz x) (List.take (nameGo l (objAt h k).links).snd.length (ints (nameGo l (objAt h k).links).snd))) = List.map intt (nameGo l (objAt h k).links).snd by simp)
      let t31 : Tp pr := .n .crows (show ([[C.t (T.int IntKind.i64 (objAt h k).mark), C.t T.nils]].set (0 : Nat) [C.t (T.int IntKind.i64 (objAt h k).mark), C.row (1 : Nat) (List.map intt (nameGo l (objAt h k).links).snd)]) = [[C.t (T.int IntKind.i64 (objAt h k).mark), C.row (1 : Nat) (List.map intt (nameGo l (objAt h k).links).snd)]] by simp)
      let t34 : Tp pr := .m (show (decide ((List.map Obj.cc outs).length = outs.length ∧ outs.length = outs.length ∧ outs.length + (1 : Nat) ≤ (4294967296 : Nat))) = true by (simp; omega))
      let t35 : Tp pr := .c (rfl : (outs.length + (1 : Nat)) = _)
      let t36 : Tp pr := .n .crows (show ((List.map Obj.cc outs).append [[C.t (T.int IntKind.i64 (objAt h k).mark), C.row (1 : Nat) (List.map intt (nameGo l (objAt h k).links).snd)]]) = List.map Obj.cc outs ++ [[C.t (T.int IntKind.i64 (objAt h k).mark), C.row (1 : Nat) (List.map intt (nameGo l (objAt h k).links).snd)]] by simp)
      let t40 : Tp pr := .i (wrap_i64 (a := (↑i : Int) + (1 : Int)) (by omega) (by omega))
      exact .tpe [.i (rfl : ((↑l.length : Int)) = _), t1, .m (rfl : true = true), .m (rfl : true = true), .m (rfl : true = true), .m (rfl : true = true), .m (rfl : true = true), t7, t8, .m (rfl : true = true), t10, t11, .m (rfl : true = true), t13, .m (rfl : true = true), .m (rfl : true = true), .m (rfl : true = true), .m (rfl : true = true), .m (rfl : true = true), .m (rfl : true = true), .m (rfl : true = true), .m (rfl : true = true), .m (rfl : true = true), .m (rfl : true = true), .a (c1), .m (rfl : true = true), .m (rfl : true = true), t27, .m (rfl : true = true), t29, t30, t31, .m (rfl : true = true), .m (rfl : true = true), t34, t35, t36, .m (rfl : true = true), .m (rfl : true = true), .m (rfl : true = true), t40, .a (ih)] (Out.exit (0 : Nat) (at_ [((2 : Nat), V.ptr (0 : Nat) (1 : Nat) (0 : Nat) (0 : Nat)), ((4 : Nat), V.ptr (1 : Nat) (1 : Nat) (0 : Nat) (0 : Nat)), ((5 : Nat), V.ptr (2 : Nat) (1 : Nat) (0 : Nat) (0 : Nat))] [Ob.box [V.t T.nils, V.t T.nils], Ob.box [V.ptr (3 : Nat) (1 : Nat) (0 : Nat) (0 : Nat), V.vec (4 : Nat) (copyGo h n (i + (1 : Nat)) (nameGo l (objAt h k).links).fst).fst.length (1 : Nat) (0 : Nat) (copyGo h n (i + (1 : Nat)) (nameGo l (objAt h k).links).fst).fst.length, V.vec (5 : Nat) h.objects.length (1 : Nat) (0 : Nat) h.objects.length], Ob.box [V.vec (6 : Nat) (outs ++ [Obj.mk (objAt h k).mark (nameGo l (objAt h k).links).snd] ++ (copyGo h n (i + (1 : Nat)) (nameGo l (objAt h k).links).fst).snd).length (2 : Nat) (0 : Nat) (outs ++ [Obj.mk (objAt h k).mark (nameGo l (objAt h k).links).snd] ++ (copyGo h n (i + (1 : Nat)) (nameGo l (objAt h k).links).fst).snd).length, V.vec (7 : Nat) rt.length (1 : Nat) (0 : Nat) rt.length], Ob.box [V.t (T.seq (2 : Nat) (List.map Obj.ce h.objects)), V.t (T.seq (1 : Nat) (List.map intt h.roots))], Ob.vec true (1 : Nat) (ints (copyGo h n (i + (1 : Nat)) (nameGo l (objAt h k).links).fst).fst), Ob.vec true (1 : Nat) (ints (namesOf h.objects.length (copyGo h n (i + (1 : Nat)) (nameGo l (objAt h k).links).fst).fst)), Ob.vec (outs ++ [Obj.mk (objAt h k).mark (nameGo l (objAt h k).links).snd] ++ (copyGo h n (i + (1 : Nat)) (nameGo l (objAt h k).links).fst).snd).isEmpty (2 : Nat) (List.map Obj.cc (outs ++ [Obj.mk (objAt h k).mark (nameGo l (objAt h k).links).snd] ++ (copyGo h n (i + (1 : Nat)) (nameGo l (objAt h k).links).fst).snd)), Ob.vec true (1 : Nat) (ints rt)] (0 : Nat))) (by kernel_rfl) ((((((((congrArg (fun x => Out.exit (0 : Nat) (at_ [((2 : Nat), V.ptr (0 : Nat) (1 : Nat) (0 : Nat) (0 : Nat)), ((4 : Nat), V.ptr (1 : Nat) (1 : Nat) (0 : Nat) (0 : Nat)), ((5 : Nat), V.ptr (2 : Nat) (1 : Nat) (0 : Nat) (0 : Nat))] [Ob.box [V.t T.nils, V.t T.nils], Ob.box [V.ptr (3 : Nat) (1 : Nat) (0 : Nat) (0 : Nat), V.vec (4 : Nat) x (1 : Nat) (0 : Nat) (copyGo h n (i + (1 : Nat)) (nameGo l (objAt h k).links).fst).fst.length, V.vec (5 : Nat) h.objects.length (1 : Nat) (0 : Nat) h.objects.length], Ob.box [V.vec (6 : Nat) (outs ++ [Obj.mk (objAt h k).mark (nameGo l (objAt h k).links).snd] ++ (copyGo h n (i + (1 : Nat)) (nameGo l (objAt h k).links).fst).snd).length (2 : Nat) (0 : Nat) (outs ++ [Obj.mk (objAt h k).mark (nameGo l (objAt h k).links).snd] ++ (copyGo h n (i + (1 : Nat)) (nameGo l (objAt h k).links).fst).snd).length, V.vec (7 : Nat) rt.length (1 : Nat) (0 : Nat) rt.length], Ob.box [V.t (T.seq (2 : Nat) (List.map Obj.ce h.objects)), V.t (T.seq (1 : Nat) (List.map intt h.roots))], Ob.vec true (1 : Nat) (ints (copyGo h n (i + (1 : Nat)) (nameGo l (objAt h k).links).fst).fst), Ob.vec true (1 : Nat) (ints (namesOf h.objects.length (copyGo h n (i + (1 : Nat)) (nameGo l (objAt h k).links).fst).fst)), Ob.vec (outs ++ [Obj.mk (objAt h k).mark (nameGo l (objAt h k).links).snd] ++ (copyGo h n (i + (1 : Nat)) (nameGo l (objAt h k).links).fst).snd).isEmpty (2 : Nat) (List.map Obj.cc (outs ++ [Obj.mk (objAt h k).mark (nameGo l (objAt h k).links).snd] ++ (copyGo h n (i + (1 : Nat)) (nameGo l (objAt h k).links).fst).snd)), Ob.vec true (1 : Nat) (ints rt)] (0 : Nat))) (show ((copyGo h n (i + (1 : Nat)) (nameGo l (objAt h k).links).fst).fst.length) = (((copyGo h n (i + (1 : Nat)) (nameGo l (objAt h k).links).fst).fst, Obj.mk (objAt h k).mark (nameGo l (objAt h k).links).snd :: (copyGo h n (i + (1 : Nat)) (nameGo l (objAt h k).links).fst).snd).fst.length) by simp)).trans (congrArg (fun x => Out.exit (0 : Nat) (at_ [((2 : Nat), V.ptr (0 : Nat) (1 : Nat) (0 : Nat) (0 : Nat)), ((4 : Nat), V.ptr (1 : Nat) (1 : Nat) (0 : Nat) (0 : Nat)), ((5 : Nat), V.ptr (2 : Nat) (1 : Nat) (0 : Nat) (0 : Nat))] [Ob.box [V.t T.nils, V.t T.nils], Ob.box [V.ptr (3 : Nat) (1 : Nat) (0 : Nat) (0 : Nat), V.vec (4 : Nat) ((copyGo h n (i + (1 : Nat)) (nameGo l (objAt h k).links).fst).fst, Obj.mk (objAt h k).mark (nameGo l (objAt h k).links).snd :: (copyGo h n (i + (1 : Nat)) (nameGo l (objAt h k).links).fst).snd).fst.length (1 : Nat) (0 : Nat) x, V.vec (5 : Nat) h.objects.length (1 : Nat) (0 : Nat) h.objects.length], Ob.box [V.vec (6 : Nat) (outs ++ [Obj.mk (objAt h k).mark (nameGo l (objAt h k).links).snd] ++ (copyGo h n (i + (1 : Nat)) (nameGo l (objAt h k).links).fst).snd).length (2 : Nat) (0 : Nat) (outs ++ [Obj.mk (objAt h k).mark (nameGo l (objAt h k).links).snd] ++ (copyGo h n (i + (1 : Nat)) (nameGo l (objAt h k).links).fst).snd).length, V.vec (7 : Nat) rt.length (1 : Nat) (0 : Nat) rt.length], Ob.box [V.t (T.seq (2 : Nat) (List.map Obj.ce h.objects)), V.t (T.seq (1 : Nat) (List.map intt h.roots))], Ob.vec true (1 : Nat) (ints (copyGo h n (i + (1 : Nat)) (nameGo l (objAt h k).links).fst).fst), Ob.vec true (1 : Nat) (ints (namesOf h.objects.length (copyGo h n (i + (1 : Nat)) (nameGo l (objAt h k).links).fst).fst)), Ob.vec (outs ++ [Obj.mk (objAt h k).mark (nameGo l (objAt h k).links).snd] ++ (copyGo h n (i + (1 : Nat)) (nameGo l (objAt h k).links).fst).snd).isEmpty (2 : Nat) (List.map Obj.cc (outs ++ [Obj.mk (objAt h k).mark (nameGo l (objAt h k).links).snd] ++ (copyGo h n (i + (1 : Nat)) (nameGo l (objAt h k).links).fst).snd)), Ob.vec true (1 : Nat) (ints rt)] (0 : Nat))) (show ((copyGo h n (i + (1 : Nat)) (nameGo l (objAt h k).links).fst).fst.length) = (((copyGo h n (i + (1 : Nat)) (nameGo l (objAt h k).links).fst).fst, Obj.mk (objAt h k).mark (nameGo l (objAt h k).links).snd :: (copyGo h n (i + (1 : Nat)) (nameGo l (objAt h k).links).fst).snd).fst.length) by simp))).trans (congrArg (fun x => Out.exit (0 : Nat) (at_ [((2 : Nat), V.ptr (0 : Nat) (1 : Nat) (0 : Nat) (0 : Nat)), ((4 : Nat), V.ptr (1 : Nat) (1 : Nat) (0 : Nat) (0 : Nat)), ((5 : Nat), V.ptr (2 : Nat) (1 : Nat) (0 : Nat) (0 : Nat))] [Ob.box [V.t T.nils, V.t T.nils], Ob.box [V.ptr (3 : Nat) (1 : Nat) (0 : Nat) (0 : Nat), V.vec (4 : Nat) ((copyGo h n (i + (1 : Nat)) (nameGo l (objAt h k).links).fst).fst, Obj.mk (objAt h k).mark (nameGo l (objAt h k).links).snd :: (copyGo h n (i + (1 : Nat)) (nameGo l (objAt h k).links).fst).snd).fst.length (1 : Nat) (0 : Nat) ((copyGo h n (i + (1 : Nat)) (nameGo l (objAt h k).links).fst).fst, Obj.mk (objAt h k).mark (nameGo l (objAt h k).links).snd :: (copyGo h n (i + (1 : Nat)) (nameGo l (objAt h k).links).fst).snd).fst.length, V.vec (5 : Nat) h.objects.length (1 : Nat) (0 : Nat) h.objects.length], Ob.box [V.vec (6 : Nat) x (2 : Nat) (0 : Nat) (outs ++ [Obj.mk (objAt h k).mark (nameGo l (objAt h k).links).snd] ++ (copyGo h n (i + (1 : Nat)) (nameGo l (objAt h k).links).fst).snd).length, V.vec (7 : Nat) rt.length (1 : Nat) (0 : Nat) rt.length], Ob.box [V.t (T.seq (2 : Nat) (List.map Obj.ce h.objects)), V.t (T.seq (1 : Nat) (List.map intt h.roots))], Ob.vec true (1 : Nat) (ints (copyGo h n (i + (1 : Nat)) (nameGo l (objAt h k).links).fst).fst), Ob.vec true (1 : Nat) (ints (namesOf h.objects.length (copyGo h n (i + (1 : Nat)) (nameGo l (objAt h k).links).fst).fst)), Ob.vec (outs ++ [Obj.mk (objAt h k).mark (nameGo l (objAt h k).links).snd] ++ (copyGo h n (i + (1 : Nat)) (nameGo l (objAt h k).links).fst).snd).isEmpty (2 : Nat) (List.map Obj.cc (outs ++ [Obj.mk (objAt h k).mark (nameGo l (objAt h k).links).snd] ++ (copyGo h n (i + (1 : Nat)) (nameGo l (objAt h k).links).fst).snd)), Ob.vec true (1 : Nat) (ints rt)] (0 : Nat))) (show ((outs ++ [Obj.mk (objAt h k).mark (nameGo l (objAt h k).links).snd] ++ (copyGo h n (i + (1 : Nat)) (nameGo l (objAt h k).links).fst).snd).length) = ((outs ++ ((copyGo h n (i + (1 : Nat)) (nameGo l (objAt h k).links).fst).fst, Obj.mk (objAt h k).mark (nameGo l (objAt h k).links).snd :: (copyGo h n (i + (1 : Nat)) (nameGo l (objAt h k).links).fst).snd).snd).length) by simp))).trans (congrArg (fun x => Out.exit (0 : Nat) (at_ [((2 : Nat), V.ptr (0 : Nat) (1 : Nat) (0 : Nat) (0 : Nat)), ((4 : Nat), V.ptr (1 : Nat) (1 : Nat) (0 : Nat) (0 : Nat)), ((5 : Nat), V.ptr (2 : Nat) (1 : Nat) (0 : Nat) (0 : Nat))] [Ob.box [V.t T.nils, V.t T.nils], Ob.box [V.ptr (3 : Nat) (1 : Nat) (0 : Nat) (0 : Nat), V.vec (4 : Nat) ((copyGo h n (i + (1 : Nat)) (nameGo l (objAt h k).links).fst).fst, Obj.mk (objAt h k).mark (nameGo l (objAt h k).links).snd :: (copyGo h n (i + (1 : Nat)) (nameGo l (objAt h k).links).fst).snd).fst.length (1 : Nat) (0 : Nat) ((copyGo h n (i + (1 : Nat)) (nameGo l (objAt h k).links).fst).fst, Obj.mk (objAt h k).mark (nameGo l (objAt h k).links).snd :: (copyGo h n (i + (1 : Nat)) (nameGo l (objAt h k).links).fst).snd).fst.length, V.vec (5 : Nat) h.objects.length (1 : Nat) (0 : Nat) h.objects.length], Ob.box [V.vec (6 : Nat) (outs ++ ((copyGo h n (i + (1 : Nat)) (nameGo l (objAt h k).links).fst).fst, Obj.mk (objAt h k).mark (nameGo l (objAt h k).links).snd :: (copyGo h n (i + (1 : Nat)) (nameGo l (objAt h k).links).fst).snd).snd).length (2 : Nat) (0 : Nat) x, V.vec (7 : Nat) rt.length (1 : Nat) (0 : Nat) rt.length], Ob.box [V.t (T.seq (2 : Nat) (List.map Obj.ce h.objects)), V.t (T.seq (1 : Nat) (List.map intt h.roots))], Ob.vec true (1 : Nat) (ints (copyGo h n (i + (1 : Nat)) (nameGo l (objAt h k).links).fst).fst), Ob.vec true (1 : Nat) (ints (namesOf h.objects.length (copyGo h n (i + (1 : Nat)) (nameGo l (objAt h k).links).fst).fst)), Ob.vec (outs ++ [Obj.mk (objAt h k).mark (nameGo l (objAt h k).links).snd] ++ (copyGo h n (i + (1 : Nat)) (nameGo l (objAt h k).links).fst).snd).isEmpty (2 : Nat) (List.map Obj.cc (outs ++ [Obj.mk (objAt h k).mark (nameGo l (objAt h k).links).snd] ++ (copyGo h n (i + (1 : Nat)) (nameGo l (objAt h k).links).fst).snd)), Ob.vec true (1 : Nat) (ints rt)] (0 : Nat))) (show ((outs ++ [Obj.mk (objAt h k).mark (nameGo l (objAt h k).links).snd] ++ (copyGo h n (i + (1 : Nat)) (nameGo l (objAt h k).links).fst).snd).length) = ((outs ++ ((copyGo h n (i + (1 : Nat)) (nameGo l (objAt h k).links).fst).fst, Obj.mk (objAt h k).mark (nameGo l (objAt h k).links).snd :: (copyGo h n (i + (1 : Nat)) (nameGo l (objAt h k).links).fst).snd).snd).length) by simp))).trans (congrArg (fun x => Out.exit (0 : Nat) (at_ [((2 : Nat), V.ptr (0 : Nat) (1 : Nat) (0 : Nat) (0 : Nat)), ((4 : Nat), V.ptr (1 : Nat) (1 : Nat) (0 : Nat) (0 : Nat)), ((5 : Nat), V.ptr (2 : Nat) (1 : Nat) (0 : Nat) (0 : Nat))] [Ob.box [V.t T.nils, V.t T.nils], Ob.box [V.ptr (3 : Nat) (1 : Nat) (0 : Nat) (0 : Nat), V.vec (4 : Nat) ((copyGo h n (i + (1 : Nat)) (nameGo l (objAt h k).links).fst).fst, Obj.mk (objAt h k).mark (nameGo l (objAt h k).links).snd :: (copyGo h n (i + (1 : Nat)) (nameGo l (objAt h k).links).fst).snd).fst.length (1 : Nat) (0 : Nat) ((copyGo h n (i + (1 : Nat)) (nameGo l (objAt h k).links).fst).fst, Obj.mk (objAt h k).mark (nameGo l (objAt h k).links).snd :: (copyGo h n (i + (1 : Nat)) (nameGo l (objAt h k).links).fst).snd).fst.length, V.vec (5 : Nat) h.objects.length (1 : Nat) (0 : Nat) h.objects.length], Ob.box [V.vec (6 : Nat) (outs ++ ((copyGo h n (i + (1 : Nat)) (nameGo l (objAt h k).links).fst).fst, Obj.mk (objAt h k).mark (nameGo l (objAt h k).links).snd :: (copyGo h n (i + (1 : Nat)) (nameGo l (objAt h k).links).fst).snd).snd).length (2 : Nat) (0 : Nat) (outs ++ ((copyGo h n (i + (1 : Nat)) (nameGo l (objAt h k).links).fst).fst, Obj.mk (objAt h k).mark (nameGo l (objAt h k).links).snd :: (copyGo h n (i + (1 : Nat)) (nameGo l (objAt h k).links).fst).snd).snd).length, V.vec (7 : Nat) rt.length (1 : Nat) (0 : Nat) rt.length], Ob.box [V.t (T.seq (2 : Nat) (List.map Obj.ce h.objects)), V.t (T.seq (1 : Nat) (List.map intt h.roots))], Ob.vec true (1 : Nat) x, Ob.vec true (1 : Nat) (ints (namesOf h.objects.length (copyGo h n (i + (1 : Nat)) (nameGo l (objAt h k).links).fst).fst)), Ob.vec (outs ++ [Obj.mk (objAt h k).mark (nameGo l (objAt h k).links).snd] ++ (copyGo h n (i + (1 : Nat)) (nameGo l (objAt h k).links).fst).snd).isEmpty (2 : Nat) (List.map Obj.cc (outs ++ [Obj.mk (objAt h k).mark (nameGo l (objAt h k).links).snd] ++ (copyGo h n (i + (1 : Nat)) (nameGo l (objAt h k).links).fst).snd)), Ob.vec true (1 : Nat) (ints rt)] (0 : Nat))) (show (ints (copyGo h n (i + (1 : Nat)) (nameGo l (objAt h k).links).fst).fst) = (ints ((copyGo h n (i + (1 : Nat)) (nameGo l (objAt h k).links).fst).fst, Obj.mk (objAt h k).mark (nameGo l (objAt h k).links).snd :: (copyGo h n (i + (1 : Nat)) (nameGo l (objAt h k).links).fst).snd).fst) by simp))).trans (congrArg (fun x => Out.exit (0 : Nat) (at_ [((2 : Nat), V.ptr (0 : Nat) (1 : Nat) (0 : Nat) (0 : Nat)), ((4 : Nat), V.ptr (1 : Nat) (1 : Nat) (0 : Nat) (0 : Nat)), ((5 : Nat), V.ptr (2 : Nat) (1 : Nat) (0 : Nat) (0 : Nat))] [Ob.box [V.t T.nils, V.t T.nils], Ob.box [V.ptr (3 : Nat) (1 : Nat) (0 : Nat) (0 : Nat), V.vec (4 : Nat) ((copyGo h n (i + (1 : Nat)) (nameGo l (objAt h k).links).fst).fst, Obj.mk (objAt h k).mark (nameGo l (objAt h k).links).snd :: (copyGo h n (i + (1 : Nat)) (nameGo l (objAt h k).links).fst).snd).fst.length (1 : Nat) (0 : Nat) ((copyGo h n (i + (1 : Nat)) (nameGo l (objAt h k).links).fst).fst, Obj.mk (objAt h k).mark (nameGo l (objAt h k).links).snd :: (copyGo h n (i + (1 : Nat)) (nameGo l (objAt h k).links).fst).snd).fst.length, V.vec (5 : Nat) h.objects.length (1 : Nat) (0 : Nat) h.objects.length], Ob.box [V.vec (6 : Nat) (outs ++ ((copyGo h n (i + (1 : Nat)) (nameGo l (objAt h k).links).fst).fst, Obj.mk (objAt h k).mark (nameGo l (objAt h k).links).snd :: (copyGo h n (i + (1 : Nat)) (nameGo l (objAt h k).links).fst).snd).snd).length (2 : Nat) (0 : Nat) (outs ++ ((copyGo h n (i + (1 : Nat)) (nameGo l (objAt h k).links).fst).fst, Obj.mk (objAt h k).mark (nameGo l (objAt h k).links).snd :: (copyGo h n (i + (1 : Nat)) (nameGo l (objAt h k).links).fst).snd).snd).length, V.vec (7 : Nat) rt.length (1 : Nat) (0 : Nat) rt.length], Ob.box [V.t (T.seq (2 : Nat) (List.map Obj.ce h.objects)), V.t (T.seq (1 : Nat) (List.map intt h.roots))], Ob.vec true (1 : Nat) (ints ((copyGo h n (i + (1 : Nat)) (nameGo l (objAt h k).links).fst).fst, Obj.mk (objAt h k).mark (nameGo l (objAt h k).links).snd :: (copyGo h n (i + (1 : Nat)) (nameGo l (objAt h k).links).fst).snd).fst), Ob.vec true (1 : Nat) x, Ob.vec (outs ++ [Obj.mk (objAt h k).mark (nameGo l (objAt h k).links).snd] ++ (copyGo h n (i + (1 : Nat)) (nameGo l (objAt h k).links).fst).snd).isEmpty (2 : Nat) (List.map Obj.cc (outs ++ [Obj.mk (objAt h k).mark (nameGo l (objAt h k).links).snd] ++ (copyGo h n (i + (1 : Nat)) (nameGo l (objAt h k).links).fst).snd)), Ob.vec true (1 : Nat) (ints rt)] (0 : Nat))) (show (ints (namesOf h.objects.length (copyGo h n (i + (1 : Nat)) (nameGo l (objAt h k).links).fst).fst)) = (ints (namesOf h.objects.length ((copyGo h n (i + (1 : Nat)) (nameGo l (objAt h k).links).fst).fst, Obj.mk (objAt h k).mark (nameGo l (objAt h k).links).snd :: (copyGo h n (i + (1 : Nat)) (nameGo l (objAt h k).links).fst).snd).fst)) by simp))).trans (congrArg (fun x => Out.exit (0 : Nat) (at_ [((2 : Nat), V.ptr (0 : Nat) (1 : Nat) (0 : Nat) (0 : Nat)), ((4 : Nat), V.ptr (1 : Nat) (1 : Nat) (0 : Nat) (0 : Nat)), ((5 : Nat), V.ptr (2 : Nat) (1 : Nat) (0 : Nat) (0 : Nat))] [Ob.box [V.t T.nils, V.t T.nils], Ob.box [V.ptr (3 : Nat) (1 : Nat) (0 : Nat) (0 : Nat), V.vec (4 : Nat) ((copyGo h n (i + (1 : Nat)) (nameGo l (objAt h k).links).fst).fst, Obj.mk (objAt h k).mark (nameGo l (objAt h k).links).snd :: (copyGo h n (i + (1 : Nat)) (nameGo l (objAt h k).links).fst).snd).fst.length (1 : Nat) (0 : Nat) ((copyGo h n (i + (1 : Nat)) (nameGo l (objAt h k).links).fst).fst, Obj.mk (objAt h k).mark (nameGo l (objAt h k).links).snd :: (copyGo h n (i + (1 : Nat)) (nameGo l (objAt h k).links).fst).snd).fst.length, V.vec (5 : Nat) h.objects.length (1 : Nat) (0 : Nat) h.objects.length], Ob.box [V.vec (6 : Nat) (outs ++ ((copyGo h n (i + (1 : Nat)) (nameGo l (objAt h k).links).fst).fst, Obj.mk (objAt h k).mark (nameGo l (objAt h k).links).snd :: (copyGo h n (i + (1 : Nat)) (nameGo l (objAt h k).links).fst).snd).snd).length (2 : Nat) (0 : Nat) (outs ++ ((copyGo h n (i + (1 : Nat)) (nameGo l (objAt h k).links).fst).fst, Obj.mk (objAt h k).mark (nameGo l (objAt h k).links).snd :: (copyGo h n (i + (1 : Nat)) (nameGo l (objAt h k).links).fst).snd).snd).length, V.vec (7 : Nat) rt.length (1 : Nat) (0 : Nat) rt.length], Ob.box [V.t (T.seq (2 : Nat) (List.map Obj.ce h.objects)), V.t (T.seq (1 : Nat) (List.map intt h.roots))], Ob.vec true (1 : Nat) (ints ((copyGo h n (i + (1 : Nat)) (nameGo l (objAt h k).links).fst).fst, Obj.mk (objAt h k).mark (nameGo l (objAt h k).links).snd :: (copyGo h n (i + (1 : Nat)) (nameGo l (objAt h k).links).fst).snd).fst), Ob.vec true (1 : Nat) (ints (namesOf h.objects.length ((copyGo h n (i + (1 : Nat)) (nameGo l (objAt h k).links).fst).fst, Obj.mk (objAt h k).mark (nameGo l (objAt h k).links).snd :: (copyGo h n (i + (1 : Nat)) (nameGo l (objAt h k).links).fst).snd).fst)), Ob.vec x (2 : Nat) (List.map Obj.cc (outs ++ [Obj.mk (objAt h k).mark (nameGo l (objAt h k).links).snd] ++ (copyGo h n (i + (1 : Nat)) (nameGo l (objAt h k).links).fst).snd)), Ob.vec true (1 : Nat) (ints rt)] (0 : Nat))) (show ((outs ++ [Obj.mk (objAt h k).mark (nameGo l (objAt h k).links).snd] ++ (copyGo h n (i + (1 : Nat)) (nameGo l (objAt h k).links).fst).snd).isEmpty) = ((outs ++ ((copyGo h n (i + (1 : Nat)) (nameGo l (objAt h k).links).fst).fst, Obj.mk (objAt h k).mark (nameGo l (objAt h k).links).snd :: (copyGo h n (i + (1 : Nat)) (nameGo l (objAt h k).links).fst).snd).snd).isEmpty) by simp))).trans (congrArg (fun x => Out.exit (0 : Nat) (at_ [((2 : Nat), V.ptr (0 : Nat) (1 : Nat) (0 : Nat) (0 : Nat)), ((4 : Nat), V.ptr (1 : Nat) (1 : Nat) (0 : Nat) (0 : Nat)), ((5 : Nat), V.ptr (2 : Nat) (1 : Nat) (0 : Nat) (0 : Nat))] [Ob.box [V.t T.nils, V.t T.nils], Ob.box [V.ptr (3 : Nat) (1 : Nat) (0 : Nat) (0 : Nat), V.vec (4 : Nat) ((copyGo h n (i + (1 : Nat)) (nameGo l (objAt h k).links).fst).fst, Obj.mk (objAt h k).mark (nameGo l (objAt h k).links).snd :: (copyGo h n (i + (1 : Nat)) (nameGo l (objAt h k).links).fst).snd).fst.length (1 : Nat) (0 : Nat) ((copyGo h n (i + (1 : Nat)) (nameGo l (objAt h k).links).fst).fst, Obj.mk (objAt h k).mark (nameGo l (objAt h k).links).snd :: (copyGo h n (i + (1 : Nat)) (nameGo l (objAt h k).links).fst).snd).fst.length, V.vec (5 : Nat) h.objects.length (1 : Nat) (0 : Nat) h.objects.length], Ob.box [V.vec (6 : Nat) (outs ++ ((copyGo h n (i + (1 : Nat)) (nameGo l (objAt h k).links).fst).fst, Obj.mk (objAt h k).mark (nameGo l (objAt h k).links).snd :: (copyGo h n (i + (1 : Nat)) (nameGo l (objAt h k).links).fst).snd).snd).length (2 : Nat) (0 : Nat) (outs ++ ((copyGo h n (i + (1 : Nat)) (nameGo l (objAt h k).links).fst).fst, Obj.mk (objAt h k).mark (nameGo l (objAt h k).links).snd :: (copyGo h n (i + (1 : Nat)) (nameGo l (objAt h k).links).fst).snd).snd).length, V.vec (7 : Nat) rt.length (1 : Nat) (0 : Nat) rt.length], Ob.box [V.t (T.seq (2 : Nat) (List.map Obj.ce h.objects)), V.t (T.seq (1 : Nat) (List.map intt h.roots))], Ob.vec true (1 : Nat) (ints ((copyGo h n (i + (1 : Nat)) (nameGo l (objAt h k).links).fst).fst, Obj.mk (objAt h k).mark (nameGo l (objAt h k).links).snd :: (copyGo h n (i + (1 : Nat)) (nameGo l (objAt h k).links).fst).snd).fst), Ob.vec true (1 : Nat) (ints (namesOf h.objects.length ((copyGo h n (i + (1 : Nat)) (nameGo l (objAt h k).links).fst).fst, Obj.mk (objAt h k).mark (nameGo l (objAt h k).links).snd :: (copyGo h n (i + (1 : Nat)) (nameGo l (objAt h k).links).fst).snd).fst)), Ob.vec (outs ++ ((copyGo h n (i + (1 : Nat)) (nameGo l (objAt h k).links).fst).fst, Obj.mk (objAt h k).mark (nameGo l (objAt h k).links).snd :: (copyGo h n (i + (1 : Nat)) (nameGo l (objAt h k).links).fst).snd).snd).isEmpty (2 : Nat) x, Ob.vec true (1 : Nat) (ints rt)] (0 : Nat))) (show (List.map Obj.cc (outs ++ [Obj.mk (objAt h k).mark (nameGo l (objAt h k).links).snd] ++ (copyGo h n (i + (1 : Nat)) (nameGo l (objAt h k).links).fst).snd)) = (List.map Obj.cc (outs ++ ((copyGo h n (i + (1 : Nat)) (nameGo l (objAt h k).links).fst).fst, Obj.mk (objAt h k).mark (nameGo l (objAt h k).links).snd :: (copyGo h n (i + (1 : Nat)) (nameGo l (objAt h k).links).fst).snd).snd)) by simp)))

end Go.Ev

/- Copies of heaps: impl.copyHeap, impl.ReachOf. -/
namespace Go.Ev
set_option linter.unusedVariables false
set_option linter.unusedSimpArgs false
open Go.Proofs
set_option maxRecDepth 100000
set_option linter.unusedVariables false
set_option maxHeartbeats 4000000
attribute [local simp] ints_takeC
@[local simp] theorem ce_fz9 (l : List Obj) : List.map ((fun x => List.map C.fz x) ∘ fun o => List.map C.t o.ce) l = l.map Obj.ce := by
  congr 1
@[local simp] theorem ce_fz9b (l : List Obj) : List.map (fun x => List.map C.fz x) (List.map (fun o => List.map C.t o.ce) l) = l.map Obj.ce := by
  rw [List.map_map]; exact ce_fz9 l
@[local simp] theorem names_take (N : Nat) (l : List Int) : List.take N (List.map intt (namesOf N l)) = List.map intt (namesOf N l) := List.take_of_length_le (by simp)
theorem copyHeap_ev (h : Hp) (hg : GoodH h) :
    Ev pr (.call 56 [vs h.ce] []) (.val (.tup [.agg [.vec 0 (copyH h).objects.length 2 0 (copyH h).objects.length, .vec 1 (copyH h).roots.length 1 0 (copyH h).roots.length], .vec 2 h.objects.length 1 0 h.objects.length]) [.vec (copyH h).objects.isEmpty 2 ((copyH h).objects.map Obj.cc), .vec true 1 (ints (copyH h).roots), .vec true 1 (ints (namesOf h.objects.length (order h)))]) := by
  have h1 := hg.objs
  have h3 := hg.rlen
  have a1 := repeat_ev h.objects.length h1
  have a2 := allN_ev h h.objects.length h1 h.roots (by omega) (fun k hk => (hg.roots k hk).2)
  rw [namesOf_nil] at a2
  have hb := pushAll_bd (N := h.objects.length) h.roots [] (by simp) (fun k hk => (hg.roots k hk).2)
  have hn := pushAll_nodup h.roots [] (by simp)
  have hd := done_ok hg (h.objects.length + 1) 0 (pushAll [] h.roots) hn hb (by omega)
  have a3 := copyL_ev h hg (nameGo [] h.roots).2 (h.objects.length + 1) 0 (pushAll [] h.roots) [] hd rfl (by omega) hn hb
  obtain ⟨e1, e2⟩ := copyGo_copyH hg
  have e3 : (nameGo [] h.roots).2 = (copyH h).roots := by rw [← e2]
  have e4 : (copyGo h (h.objects.length + 1) 0 (pushAll [] h.roots)).2 = (copyH h).objects := by rw [← e2]
  rw [e1, e4, e3, ← nameGo_order, List.nil_append] at a3
  rw [e3] at a2
  let t0 : Tp pr := .i (show ((↑(List.map Obj.ce h.objects).length : Int) : Int) = (↑h.objects.length : Int) by simp)
  let t2 : Tp pr := .n .rows (show (List.map (fun x => List.map C.fz x) (List.take (1 : Nat) (List.drop (0 : Nat) [[C.t (T.int IntKind.i64 (-1 : Int))]]))) = [[(C.t (T.int IntKind.i64 (-1 : Int))).fz]] by simp)
  let t4 : Tp pr := .m (show (true && [Ob.vec true (1 : Nat) (ints (List.replicate h.objects.length (-1 : Int)))].all Ob.flat) = true by simp)
  exact .tp [t0, .m (rfl : true = true), t2, .a (a1), t4, .a (a2), .a (a3), .m (rfl : true = true), .m (rfl : true = true), .m (rfl : true = true), .m (rfl : true = true), .m (rfl : true = true)] (by kernel_rfl)
end Go.Ev

/- Copies of heaps: the reference's. -/
namespace Go.Ev
set_option linter.unusedVariables false
set_option linter.unusedSimpArgs false
open Go.Proofs
set_option maxRecDepth 100000
set_option linter.unusedVariables false
set_option maxHeartbeats 2000000
def newOut (rest : List Int) (k i : Int) : Out := if k ∈ rest then .ret (at_ [(4, i64 (newNo rest k i))] [] 0) else .exit 0 (at_ [] [] 0)
theorem newL_ev (l : List Int) (k : Int) (hl : l.length ≤ 1048576) : ∀ (rest dn : List Int), l = dn ++ rest →
    Ev pr (.loop (lq pr 62 0) (at_ [(1, i64 k), (7, isq l), (8, i64 l.length), (9, i64 dn.length)] [] 0)) (newOut rest k dn.length)
  | [], dn, he => by
    have hll : (l.length : Int) = dn.length := by simp [he]
    rw [show newOut [] k dn.length = .exit 0 (at_ [] [] 0) from rfl]
    let t0 : Tp pr := .b (show (decide ((↑dn.length : Int) < (↑l.length : Int))) = false by (simp; omega))
    exact .tp [t0] (by kernel_rfl)
  | x :: rest, dn, he => by
    have hll : (l.length : Int) = dn.length + 1 + rest.length := by simp [he]; omega
    have hg : lkp (l.map intt) (dn.length : Int) = some [T.int .i64 x] := by rw [he]; simp [intt]
    by_cases hx : x = k
    · rw [show newOut (x :: rest) k dn.length = .ret (at_ [(4, i64 dn.length)] [] 0) by simp [newOut, newNo, hx]]
      let t0 : Tp pr := .b (show (decide ((↑dn.length : Int) < (↑l.length : Int))) = true by (simp; omega))
      let t1 : Tp pr := .g .row (show (lkp (List.map intt l) (↑dn.length : Int)) = some ([T.int IntKind.i64 x]) from hg)
      let t2 : Tp pr := .b (show (decide (x = k)) = true by (simp; omega))
      exact .tp [t0, t1, t2] (by kernel_rfl)
    · have ih := newL_ev l k hl rest (dn ++ [x]) (by simp [he])
      rw [show newOut (x :: rest) k dn.length = newOut rest k ((dn.length : Int) + 1) by simp [newOut, newNo, hx, Ne.symm hx]]
      rw [List.length_append, List.length_singleton, Int.natCast_add] at ih
      unfold newOut at ih ⊢
      by_cases hm : k ∈ rest
      · rw [if_pos hm] at ih ⊢
        let t0 : Tp pr := .b (show (decide ((↑dn.length : Int) < (↑l.length : Int))) = true by (simp; omega))
        let t1 : Tp pr := .g .row (show (lkp (List.map intt l) (↑dn.length : Int)) = some ([T.int IntKind.i64 x]) from hg)
        let t2 : Tp pr := .b (show (decide (x = k)) = false by (simp; omega))
        let t3 : Tp pr := .i (wrap_i64 (a := (↑dn.length : Int) + (1 : Int)) (by omega) (by omega))
        exact .tp [t0, t1, t2, t3, .a (ih)] (by kernel_rfl)
      · rw [if_neg hm] at ih ⊢
        let t0 : Tp pr := .b (show (decide ((↑dn.length : Int) < (↑l.length : Int))) = true by (simp; omega))
        let t1 : Tp pr := .g .row (show (lkp (List.map intt l) (↑dn.length : Int)) = some ([T.int IntKind.i64 x]) from hg)
        let t2 : Tp pr := .b (show (decide (x = k)) = false by (simp; omega))
        let t3 : Tp pr := .i (wrap_i64 (a := (↑dn.length : Int) + (1 : Int)) (by omega) (by omega))
        exact .tp [t0, t1, t2, t3, .a (ih)] (by kernel_rfl)
theorem l15New_ev (l : List Int) (k : Int) (hl : l.length ≤ 1048576) : Ev pr (.call 62 [isq l, i64 k] []) (.val (i64 (newOf l k)) []) := by
  have g := newL_ev l k hl l [] rfl
  unfold newOut at g
  by_cases hm : k ∈ l
  · rw [if_pos hm] at g
    unfold newOf
    let t0 : Tp pr := .i (show ((↑(List.map intt l).length : Int) : Int) = (↑l.length : Int) by simp)
    exact .tp [t0, .a (g)] (by kernel_rfl)
  · rw [if_neg hm] at g
    rw [newOf_out hm]
    let t0 : Tp pr := .i (show ((↑(List.map intt l).length : Int) : Int) = (↑l.length : Int) by simp)
    exact .tp [t0, .a (g)] (by kernel_rfl)
def rowO (l : List Obj) : List (List C) := l.map fun o => o.ce.map C.t
theorem rowO_snoc (l : List Obj) (o : Obj) : rowO (l ++ [o]) = (rowO l).append [[C.t (.int .i64 o.mark), C.t (.seq 1 (o.links.map intt))]] := by simp [rowO, Obj.ce]
@[local simp] theorem rowO_len (l : List Obj) : (rowO l).length = l.length := by simp [rowO]
@[local simp] theorem rowO_fz (l : List Obj) : List.map (fun x => List.map C.fz x) (rowO l) = l.map Obj.ce := by
  rw [rowO, List.map_map]
  congr 1
@[local simp] theorem ints_takeM {α : Type} (f : α → Int) (m : List α) : List.take m.length (ints (m.map f)) = ints (m.map f) := List.take_of_length_le (by simp)
@[local simp] theorem rowO_takeM {α : Type} (f : α → Obj) (m : List α) : List.take m.length (rowO (m.map f)) = rowO (m.map f) := List.take_of_length_le (by simp [rowO])
@[local simp] theorem ints_takeV (l : List Int) : List.take l.length (ints l) = ints l := List.take_of_length_le (by simp)
theorem cpKL_ev (h : Hp) (o l : List Int) (hl : l.length ≤ 1048576) (ho : o.length ≤ 1048576) (mk d : Int) (n : Nat) (R : List (List C)) : ∀ (rest m : List Int), l = m ++ rest →
    Ev pr (.loop (lq pr 52 1) (at_ [(1, .ptr 0 1 0 0), (2, .ptr 1 1 0 0), (3, isq o), (4, .ptr 2 1 0 0), (7, .ptr 3 1 0 0), (15, isq o), (16, i64 o.length), (17, i64 d), (33, isq l), (34, i64 l.length), (35, i64 m.length)]
        [.box [osq h.objects, isq h.roots], .box [.t .nils, .t .nils], .box [.vec 4 n 2 0 n, .t .nils], .box [i64 mk, .vec 5 m.length 1 0 m.length], .vec true 2 R, .vec true 1 (ints (m.map (newOf o)))] 0))
      (.exit 2 (at_ [(1, .ptr 0 1 0 0), (2, .ptr 1 1 0 0), (3, isq o), (4, .ptr 2 1 0 0), (7, .ptr 3 1 0 0), (15, isq o), (16, i64 o.length), (17, i64 d)]
        [.box [osq h.objects, isq h.roots], .box [.t .nils, .t .nils], .box [.vec 4 n 2 0 n, .t .nils], .box [i64 mk, .vec 5 l.length 1 0 l.length], .vec true 2 R, .vec true 1 (ints (l.map (newOf o)))] 0))
  | [], m, he => by
    have hll : (l.length : Int) = m.length := by simp [he]
    have he2 : l = m := by simpa using he
    rw [← he2]
    let t0 : Tp pr := .b (show (decide ((↑l.length : Int) < (↑l.length : Int))) = false by simp)
    exact .tp [t0] (by kernel_rfl)
  | x :: rest, m, he => by
    have hll : (l.length : Int) = m.length + 1 + rest.length := by simp [he]; omega
    have hll2 : l.length = m.length + 1 + rest.length := by omega
    have hg : lkp (l.map intt) (m.length : Int) = some [T.int .i64 x] := by rw [he]; simp [intt]
    have hn := l15New_ev o x ho
    have ih := cpKL_ev h o l hl ho mk d n R rest (m ++ [x]) (by simp [he])
    rw [show ints ((m ++ [x]).map (newOf o)) = (ints (m.map (newOf o))).append [[C.t (.int .i64 (newOf o x))]] by simp [ints, intc], List.length_append, List.length_singleton] at ih
    let t0 : Tp pr := .b (show (decide ((↑m.length : Int) < (↑l.length : Int))) = true by (simp; omega))
    let t1 : Tp pr := .g .row (show (lkp (List.map intt l) (↑m.length : Int)) = some ([T.int IntKind.i64 x]) from hg)
    let t10 : Tp pr := .m (show (decide ((ints (List.map (newOf o) m)).length = m.length ∧ (0 : Nat) + m.length ≤ m.length ∧ m.length + (1 : Nat) ≤ (4294967296 : Nat))) = true by (simp; omega))
    let t11 : Tp pr := .b (show (decide (m.length + (1 : Nat) ≤ m.length)) = false by simp)
    let t13 : Tp pr := .n .crows (show ((List.take m.length (ints (List.map (newOf o) m))).append (List.take (1 : Nat) (List.drop (0 : Nat) [[C.t (T.int IntKind.i64 (newOf o x))]]))) = ints (List.map (newOf o) m) ++ [[C.t (T.int IntKind.i64 (newOf o x))]] by simp)
    let t17 : Tp pr := .i (wrap_i64 (a := (↑m.length : Int) + (1 : Int)) (by omega) (by omega))
    exact .tp [t0, t1, .m (rfl : true = true), .m (rfl : true = true), .m (rfl : true = true), .m (rfl : true = true), .a (hn), .m (rfl : true = true), .m (rfl : true = true), .m (rfl : true = true), t10, t11, .c (rfl : (m.length + (1 : Nat)) = _), t13, .m (rfl : true = true), .m (rfl : true = true), .m (rfl : true = true), t17, .a (ih)] (by kernel_rfl)
theorem cpOL_ev (h : Hp) (hg : GoodH h) (hl : (order h).length ≤ 40) : ∀ (rest dn : List Int), order h = dn ++ rest →
    Ev pr (.loop (lq pr 52 0) (at_ [(1, .ptr 0 1 0 0), (2, .ptr 1 1 0 0), (3, isq (order h)), (4, .ptr 2 1 0 0), (15, isq (order h)), (16, i64 (order h).length), (17, i64 dn.length)]
        [.box [osq h.objects, isq h.roots], .box [.t .nils, .t .nils], .box [.vec 3 dn.length 2 0 dn.length, .t .nils], .vec true 2 (rowO (dn.map fun k => copyObj (order h) (objAt h k)))] 0))
      (.exit 0 (at_ [(1, .ptr 0 1 0 0), (2, .ptr 1 1 0 0), (3, isq (order h)), (4, .ptr 2 1 0 0)]
        [.box [osq h.objects, isq h.roots], .box [.t .nils, .t .nils], .box [.vec 3 (order h).length 2 0 (order h).length, .t .nils], .vec true 2 (rowO ((order h).map fun k => copyObj (order h) (objAt h k)))] 0))
  | [], dn, he => by
    have hll : ((order h).length : Int) = dn.length := by simp [he]
    have he2 : order h = dn := by simpa using he
    rw [← he2]
    let t0 : Tp pr := .b (show (decide ((↑(order h).length : Int) < (↑(order h).length : Int))) = false by simp)
    exact .tp [t0] (by kernel_rfl)
  | x :: rest, dn, he => by
    have hll : ((order h).length : Int) = dn.length + 1 + rest.length := by simp [he]; omega
    have hgx : lkp ((order h).map intt) (dn.length : Int) = some [T.int .i64 x] := by rw [he]; simp [intt]
    have hb := order_bd hg x (by simp [he])
    have hlk := objAt_lkp hb.1 hb.2
    have hm := hg.llen _ (objAt_mem hb.1 hb.2)
    have ih := cpOL_ev h hg hl rest (dn ++ [x]) (by simp [he])
    have kl := cpKL_ev h (order h) (objAt h x).links (by omega) (by omega) (objAt h x).mark dn.length dn.length (rowO (dn.map fun k => copyObj (order h) (objAt h k))) (objAt h x).links [] rfl
    rw [List.map_append, show List.map (fun k => copyObj (order h) (objAt h k)) [x] = [copyObj (order h) (objAt h x)] from rfl, rowO_snoc,
      show (copyObj (order h) (objAt h x)).mark = (objAt h x).mark from rfl, show (copyObj (order h) (objAt h x)).links = (objAt h x).links.map (newOf (order h)) from rfl, List.map_map, List.length_append, List.length_singleton] at ih
    let t0 : Tp pr := .b (show (decide ((↑dn.length : Int) < (↑(order h).length : Int))) = true by (simp; omega))
    let t1 : Tp pr := .g .row (show (lkp (List.map intt (order h)) (↑dn.length : Int)) = some ([T.int IntKind.i64 x]) from hgx)
    let t2 : Tp pr := .g .row (show (lkp (List.map Obj.ce h.objects) x) = some ((objAt h x).ce) from hlk)
    let t3 : Tp pr := .g .row (show (lkp (List.map Obj.ce h.objects) x) = some ((objAt h x).ce) from hlk)
    let t4 : Tp pr := .i (show ((↑(List.map intt (objAt h x).links).length : Int) : Int) = (↑(objAt h x).links.length : Int) by simp)
    let t6 : Tp pr := .m (show (decide ((ints (List.map (newOf (order h)) (objAt h x).links)).length = (objAt h x).links.length ∧ (0 : Nat) + (objAt h x).links.length ≤ (objAt h x).links.length)) = true by simp)
    let t7 : Tp pr := .n .rows (show (List.map (fun x => List.map C.fz x) (List.take (objAt h x).links.length (List.drop (0 : Nat) (ints (List.map (newOf (order h)) (objAt h x).links))))) = List.map (intt ∘ newOf (order h)) (objAt h x).links by simp)
    let t9 : Tp pr := .m (show (decide ((rowO (List.map (fun k => copyObj (order h) (objAt h k)) dn)).length = dn.length ∧ (0 : Nat) + dn.length ≤ dn.length ∧ dn.length + (1 : Nat) ≤ (4294967296 : Nat))) = true by (simp; omega))
    let t10 : Tp pr := .b (show (decide (dn.length + (1 : Nat) ≤ dn.length)) = false by simp)
    let t12 : Tp pr := .n .crows (show ((List.take dn.length (rowO (List.map (fun k => copyObj (order h) (objAt h k)) dn))).append (List.take (1 : Nat) (List.drop (0 : Nat) [[C.t (T.int IntKind.i64 (objAt h x).mark), C.t (T.seq (1 : Nat) (List.map (intt ∘ newOf (order h)) (objAt h x).links))]]))) = rowO (List.map (fun k => copyObj (order h) (objAt h k)) dn) ++ [[C.t (T.int IntKind.i64 (objAt h x).mark), C.t (T.seq (1 : Nat) (List.map (intt ∘ newOf (order h)) (objAt h x).links))]] by simp)
    let t13 : Tp pr := .i (wrap_i64 (a := (↑dn.length : Int) + (1 : Int)) (by omega) (by omega))
    exact .tp [t0, t1, t2, t3, t4, .a (kl), t6, t7, .m (rfl : true = true), t9, t10, .c (rfl : (dn.length + (1 : Nat)) = _), t12, t13, .a (ih)] (by kernel_rfl)
theorem cpRL_ev (o l : List Int) (hl : l.length ≤ 1048576) (ho : o.length ≤ 1048576) (n : Nat) (R : List (List C)) : ∀ (rest m : List Int), l = m ++ rest →
    Ev pr (.loop (lq pr 52 2) (at_ [(2, .ptr 0 1 0 0), (3, isq o), (4, .ptr 1 1 0 0), (56, isq l), (57, i64 l.length), (58, i64 m.length)]
        [.box [.t .nils, .t .nils], .box [.vec 2 n 2 0 n, .vec 3 m.length 1 0 m.length], .vec true 2 R, .vec true 1 (ints (m.map (newOf o)))] 0))
      (.exit 4 (at_ [(2, .ptr 0 1 0 0), (4, .ptr 1 1 0 0)]
        [.box [.t .nils, .t .nils], .box [.vec 2 n 2 0 n, .vec 3 l.length 1 0 l.length], .vec true 2 R, .vec true 1 (ints (l.map (newOf o)))] 0))
  | [], m, he => by
    have hll : (l.length : Int) = m.length := by simp [he]
    have he2 : l = m := by simpa using he
    rw [← he2]
    let t0 : Tp pr := .b (show (decide ((↑l.length : Int) < (↑l.length : Int))) = false by simp)
    exact .tp [t0] (by kernel_rfl)
  | x :: rest, m, he => by
    have hll : (l.length : Int) = m.length + 1 + rest.length := by simp [he]; omega
    have hll2 : l.length = m.length + 1 + rest.length := by omega
    have hg : lkp (l.map intt) (m.length : Int) = some [T.int .i64 x] := by rw [he]; simp [intt]
    have hn := l15New_ev o x ho
    have ih := cpRL_ev o l hl ho n R rest (m ++ [x]) (by simp [he])
    rw [show ints ((m ++ [x]).map (newOf o)) = (ints (m.map (newOf o))).append [[C.t (.int .i64 (newOf o x))]] by simp [ints, intc], List.length_append, List.length_singleton] at ih
    let t0 : Tp pr := .b (show (decide ((↑m.length : Int) < (↑l.length : Int))) = true by (simp; omega))
    let t1 : Tp pr := .g .row (show (lkp (List.map intt l) (↑m.length : Int)) = some ([T.int IntKind.i64 x]) from hg)
    let t10 : Tp pr := .m (show (decide ((ints (List.map (newOf o) m)).length = m.length ∧ (0 : Nat) + m.length ≤ m.length ∧ m.length + (1 : Nat) ≤ (4294967296 : Nat))) = true by (simp; omega))
    let t11 : Tp pr := .b (show (decide (m.length + (1 : Nat) ≤ m.length)) = false by simp)
    let t13 : Tp pr := .n .crows (show ((List.take m.length (ints (List.map (newOf o) m))).append (List.take (1 : Nat) (List.drop (0 : Nat) [[C.t (T.int IntKind.i64 (newOf o x))]]))) = ints (List.map (newOf o) m) ++ [[C.t (T.int IntKind.i64 (newOf o x))]] by simp)
    let t17 : Tp pr := .i (wrap_i64 (a := (↑m.length : Int) + (1 : Int)) (by omega) (by omega))
    exact .tp [t0, t1, .m (rfl : true = true), .m (rfl : true = true), .m (rfl : true = true), .m (rfl : true = true), .a (hn), .m (rfl : true = true), .m (rfl : true = true), .m (rfl : true = true), t10, t11, .c (rfl : (m.length + (1 : Nat)) = _), t13, .m (rfl : true = true), .m (rfl : true = true), .m (rfl : true = true), t17, .a (ih)] (by kernel_rfl)
@[local simp] theorem take_mapV {α β : Type} (f : α → β) (l : List α) : List.take l.length (l.map f) = l.map f := List.take_of_length_le (by simp)
theorem ordlen {h : Hp} (hg : GoodH h) : (order h).length ≤ 40 := by
  have := nodup_len _ (order h) (order_nodup h) (order_bd hg)
  have := hg.objs
  omega
theorem l15Copy_ev (h : Hp) (hg : GoodH h) : Ev pr (.call 52 [vs h.ce] []) (.val (vs (copyH h).ce) []) := by
  have o := l15Order_ev h hg
  have hl := ordlen hg
  have hr := hg.rlen
  have g := cpOL_ev h hg hl (order h) [] rfl
  have g2 := cpRL_ev (order h) h.roots (by omega) (by omega) (order h).length (rowO ((order h).map fun k => copyObj (order h) (objAt h k))) h.roots [] rfl
  rw [show (copyH h).ce = [.seq 2 (((order h).map fun k => copyObj (order h) (objAt h k)).map Obj.ce), .seq 1 ((h.roots.map (newOf (order h))).map intt)] from rfl]
  let t1 : Tp pr := .i (show ((↑(List.map intt (order h)).length : Int) : Int) = (↑(order h).length : Int) by simp)
  let t3 : Tp pr := .i (show ((↑(List.map intt h.roots).length : Int) : Int) = (↑h.roots.length : Int) by simp)
  let t5 : Tp pr := .m (show (decide ((rowO (List.map (fun k => copyObj (order h) (objAt h k)) (order h))).length = (order h).length ∧ (0 : Nat) + (order h).length ≤ (order h).length)) = true by simp)
  let t6 : Tp pr := .n .rows (show (List.map (fun x => List.map C.fz x) (List.take (order h).length (List.drop (0 : Nat) (rowO (List.map (fun k => copyObj (order h) (objAt h k)) (order h)))))) = List.map (Obj.ce ∘ fun k => copyObj (order h) (objAt h k)) (order h) by simp)
  let t7 : Tp pr := .m (show (decide ((ints (List.map (newOf (order h)) h.roots)).length = h.roots.length ∧ (0 : Nat) + h.roots.length ≤ h.roots.length)) = true by simp)
  let t8 : Tp pr := .n .rows (show (List.map (fun x => List.map C.fz x) (List.take h.roots.length (List.drop (0 : Nat) (ints (List.map (newOf (order h)) h.roots))))) = List.map (intt ∘ newOf (order h)) h.roots by simp)
  exact .tpe [.a (o), t1, .a (g), t3, .a (g2), t5, t6, t7, t8] (Out.val (V.agg [V.t (T.seq (2 : Nat) (List.map (Obj.ce ∘ fun k => copyObj (order h) (objAt h k)) (order h))), V.t (T.seq (1 : Nat) (List.map (intt ∘ newOf (order h)) h.roots))]) []) (by kernel_rfl) ((congrArg (fun x => Out.val (V.agg [V.t (T.seq (2 : Nat) x), V.t (T.seq (1 : Nat) (List.map (intt ∘ newOf (order h)) h.roots))]) []) (show (List.map (Obj.ce ∘ fun k => copyObj (order h) (objAt h k)) (order h)) = (List.map Obj.ce (List.map (fun k => copyObj (order h) (objAt h k)) (order h))) by simp)).trans (congrArg (fun x => Out.val (V.agg [V.t (T.seq (2 : Nat) (List.map Obj.ce (List.map (fun k => copyObj (order h) (objAt h k)) (order h)))), V.t (T.seq (1 : Nat) x)]) []) (show (List.map (intt ∘ newOf (order h)) h.roots) = (List.map intt (List.map (newOf (order h)) h.roots)) by simp)))
end Go.Ev

/- CopyHeap: the program's and the reference's, and the law. -/
namespace Go.Ev
set_option linter.unusedVariables false
set_option linter.unusedSimpArgs false
open Go.Proofs
set_option maxRecDepth 100000
set_option linter.unusedVariables false
set_option maxHeartbeats 4000000
attribute [local simp] obcc_take3 ints_take3 obcc_flat3 ints_flat3 markI_len ints_takeC
@[local simp] theorem names_take2 (N : Nat) (l : List Int) : List.take N (ints (namesOf N l)) = ints (namesOf N l) := List.take_of_length_le (by simp)
theorem namesOf_snoc (N : Nat) (l : List Int) : namesOf (N + 1) l = namesOf N l ++ [newOf l N] := by simp [namesOf, List.range_succ]
theorem numL_ev (h : Hp) (o : List Int) (ho : o.length ≤ 1048576) (N : Nat) (hN : N ≤ 40) : ∀ (n i : Nat), i + n = N →
    Ev pr (.loop (lq pr 14 0) (at_ [(1, .ptr 0 1 0 0), (2, .ptr 1 1 0 0), (5, isq o), (6, .vec 2 i 1 0 i), (16, i64 N), (17, i64 i)]
        [.box [osq h.objects, isq h.roots], .box [.t .nils, .t .nils], .vec true 1 (ints (namesOf i o))] 0))
      (.exit 0 (at_ [(1, .ptr 0 1 0 0), (2, .ptr 1 1 0 0), (6, .vec 2 N 1 0 N)]
        [.box [osq h.objects, isq h.roots], .box [.t .nils, .t .nils], .vec true 1 (ints (namesOf N o))] 0))
  | 0, i, hi => by
    obtain rfl : i = N := by omega
    let t0 : Tp pr := .b (show (decide ((↑i : Int) < (↑i : Int))) = false by simp)
    exact .tp [t0] (by kernel_rfl)
  | n + 1, i, hi => by
    have hlt : (i : Int) < N := by omega
    have hn := l15New_ev o i ho
    have ih := numL_ev h o ho N hN n (i + 1) (by omega)
    rw [namesOf_snoc, ints_app, show ints [newOf o i] = [[C.t (.int .i64 (newOf o i))]] from rfl] at ih
    let t0 : Tp pr := .b (show (decide ((↑i : Int) < (↑N : Int))) = true by (simp; omega))
    let t3 : Tp pr := .m (show (decide ((ints (namesOf i o)).length = i ∧ (0 : Nat) + i ≤ i ∧ i + (1 : Nat) ≤ (4294967296 : Nat))) = true by (simp; omega))
    let t4 : Tp pr := .b (show (decide (i + (1 : Nat) ≤ i)) = false by simp)
    let t6 : Tp pr := .n .crows (show ((List.take i (ints (namesOf i o))).append (List.take (1 : Nat) (List.drop (0 : Nat) [[C.t (T.int IntKind.i64 (newOf o (↑i : Int)))]]))) = ints (namesOf i o) ++ [[C.t (T.int IntKind.i64 (newOf o (↑i : Int)))]] by simp)
    let t7 : Tp pr := .i (wrap_i64 (a := (↑i : Int) + (1 : Int)) (by omega) (by omega))
    exact .tp [t0, .a (hn), .m (rfl : true = true), t3, t4, .c (rfl : (i + (1 : Nat)) = _), t6, t7, .a (ih)] (by kernel_rfl)
theorem CopySF_ev (h : Hp) (h1 : h.objects.length ≤ 1048576) (h2 : ∀ x ∈ h.objects, x.links.length ≤ 1048576) (h3 : h.roots.length ≤ 1048576) (hg : goodHeap h = false) :
    Ev pr (.call 14 [vs h.ce] []) (.val (.tup [vs (Hp.mk [] []).ce, .t (.seq 1 []), bl false]) []) := by
  have e := GoodHeapS_ev h h1 h2 h3
  rw [hg] at e
  exact .tp [.a (e), .b (rfl : true = true)] (by kernel_rfl)
theorem CopyST_ev (h : Hp) (h1 : h.objects.length ≤ 1048576) (h2 : ∀ x ∈ h.objects, x.links.length ≤ 1048576) (h3 : h.roots.length ≤ 1048576) (hg : goodHeap h = true) :
    Ev pr (.call 14 [vs h.ce] []) (.val (.tup [vs (copyH h).ce, isq (namesOf h.objects.length (order h)), bl true]) []) := by
  have e := GoodHeapS_ev h h1 h2 h3
  rw [hg] at e
  have gd := goodHeap_ok hg
  have hN := gd.objs
  have o := l15Order_ev h gd
  have ol := ordlen gd
  have c := l15Copy_ev h gd
  have l := numL_ev h (order h) (by omega) h.objects.length hN h.objects.length 0 (by omega)
  rw [show namesOf 0 (order h) = [] from rfl] at l
  let t3 : Tp pr := .i (show ((↑(List.map Obj.ce h.objects).length : Int) : Int) = (↑h.objects.length : Int) by simp)
  let t6 : Tp pr := .m (show (decide ((ints (namesOf h.objects.length (order h))).length = h.objects.length ∧ (0 : Nat) + h.objects.length ≤ h.objects.length)) = true by simp)
  let t7 : Tp pr := .n .rows (show (List.map (fun x => List.map C.fz x) (List.take h.objects.length (List.drop (0 : Nat) (ints (namesOf h.objects.length (order h)))))) = List.map intt (namesOf h.objects.length (order h)) by simp)
  exact .tp [.a (e), .b (rfl : false = false), .a (o), t3, .a (l), .a (c), t6, t7] (by kernel_rfl)
theorem CopyIF_ev (h : Hp) (h1 : h.objects.length ≤ 1048576) (h2 : ∀ x ∈ h.objects, x.links.length ≤ 1048576) (h3 : h.roots.length ≤ 1048576) (hg : goodHeap h = false) :
    Ev pr (.call 15 [vs h.ce] []) (.val (.tup [.agg [.t .nils, .t .nils], .t .nils, bl false]) []) := by
  have e := GoodHeapI_ev h h1 h2 h3
  rw [hg] at e
  exact .tp [.a (e), .b (rfl : true = true)] (by kernel_rfl)
theorem CopyIT_ev (h : Hp) (h1 : h.objects.length ≤ 1048576) (h2 : ∀ x ∈ h.objects, x.links.length ≤ 1048576) (h3 : h.roots.length ≤ 1048576) (hg : goodHeap h = true) :
    Ev pr (.call 15 [vs h.ce] []) (.val (.tup [hpV (copyH h), .vec 2 h.objects.length 1 0 h.objects.length, bl true]) [.vec (copyH h).objects.isEmpty 2 ((copyH h).objects.map Obj.cc), .vec true 1 (ints (copyH h).roots), .vec true 1 (ints (namesOf h.objects.length (order h)))]) := by
  have e := GoodHeapI_ev h h1 h2 h3
  rw [hg] at e
  have c := copyHeap_ev h (goodHeap_ok hg)
  unfold hpV
  exact .tp [.a (e), .b (rfl : false = false), .a (c)] (by kernel_rfl)
theorem copyH_bds {h : Hp} (hg : GoodH h) : (copyH h).objects.length ≤ 40 ∧ (∀ x ∈ (copyH h).objects, x.links.length ≤ 4) ∧ (copyH h).roots.length ≤ 10 := by
  refine ⟨by have := ordlen hg; simpa [copyH] using this, fun x hx => ?_, by have := hg.rlen; simpa [copyH] using this⟩
  obtain ⟨k, hk, rfl⟩ := List.mem_map.1 hx
  have hb := order_bd hg k hk
  have := hg.llen _ (objAt_mem hb.1 hb.2)
  simpa [copyObj] using this
end Go.Ev

/- Rows and objects that are the same. -/
namespace Go.Ev
set_option linter.unusedVariables false
set_option linter.unusedSimpArgs false
open Go.Proofs
set_option maxRecDepth 100000
set_option linter.unusedVariables false
set_option maxHeartbeats 2000000
def eqOut (t : Bool) : Out := if t = true then .exit 0 (at_ [] [] 0) else .ret (at_ [(4, bl false)] [] 0)
theorem eqSL_ev : ∀ (ra rb m : List Int), ra.length = rb.length → (m ++ ra).length ≤ 1048576 →
    Ev pr (.loop (lq pr 58 0) (at_ [(0, isq (m ++ ra)), (1, isq (m ++ rb)), (12, i64 (m ++ ra).length), (13, i64 m.length)] [] 0)) (eqOut (decide (ra = rb)))
  | [], rb, m, hl, hb => by
    obtain rfl : rb = [] := List.length_eq_zero_iff.1 hl.symm
    have hlen : ((m ++ ([] : List Int)).length : Int) = m.length := by simp
    rw [show eqOut (decide (([] : List Int) = [])) = .exit 0 (at_ [] [] 0) by simp [eqOut]]
    let t0 : Tp pr := .b (show (decide ((↑m.length : Int) < (↑(m ++ []).length : Int))) = false by simp)
    exact .tp [t0] (by kernel_rfl)
  | x :: ra, [], m, hl, hb => by simp at hl
  | x :: ra, y :: rb, m, hl, hb => by
    have hlen : ((m ++ x :: ra).length : Int) = m.length + 1 + ra.length := by simp; omega
    have hlen2 : (m ++ x :: ra).length = m.length + 1 + ra.length := by simp; omega
    have hg : lkp ((m ++ x :: ra).map intt) (m.length : Int) = some [T.int .i64 x] := by simp [intt]
    have hg2 : lkp ((m ++ y :: rb).map intt) (m.length : Int) = some [T.int .i64 y] := by simp [intt]
    by_cases hx : x = y
    · subst hx
      have ih := eqSL_ev ra rb (m ++ [x]) (by simpa using hl) (by simpa using hb)
      rw [List.append_assoc, List.append_assoc, List.singleton_append, List.singleton_append, List.length_append (bs := [x])] at ih
      rw [show decide (x :: ra = x :: rb) = decide (ra = rb) by simp]
      cases hd : decide (ra = rb) with
      | true =>
        rw [hd, show eqOut true = .exit 0 (at_ [] [] 0) from rfl] at ih
        rw [show eqOut true = .exit 0 (at_ [] [] 0) from rfl]
        let t0 : Tp pr := .b (show (decide ((↑m.length : Int) < (↑(m ++ x :: ra).length : Int))) = true by (simp; omega))
        let t3 : Tp pr := .g .row (show (lkp (List.map intt (m ++ x :: ra)) (↑m.length : Int)) = some ([T.int IntKind.i64 x]) from hg)
        let t8 : Tp pr := .g .row (show (lkp (List.map intt (m ++ x :: rb)) (↑m.length : Int)) = some ([T.int IntKind.i64 x]) from hg2)
        let t13 : Tp pr := .i (wrap_i64 (a := (↑m.length : Int) + (1 : Int)) (by omega) (by omega))
        exact .tp [t0, .m (rfl : true = true), .m (rfl : true = true), t3, .m (rfl : true = true), .m (rfl : true = true), .m (rfl : true = true), .m (rfl : true = true), t8, .m (rfl : true = true), .m (rfl : true = true), .m (rfl : true = true), .b (show (x != x) = false by simp), t13, .a (ih)] (by kernel_rfl)
      | false =>
        rw [hd, show eqOut false = .ret (at_ [(4, bl false)] [] 0) from rfl] at ih
        rw [show eqOut false = .ret (at_ [(4, bl false)] [] 0) from rfl]
        let t0 : Tp pr := .b (show (decide ((↑m.length : Int) < (↑(m ++ x :: ra).length : Int))) = true by (simp; omega))
        let t3 : Tp pr := .g .row (show (lkp (List.map intt (m ++ x :: ra)) (↑m.length : Int)) = some ([T.int IntKind.i64 x]) from hg)
        let t8 : Tp pr := .g .row (show (lkp (List.map intt (m ++ x :: rb)) (↑m.length : Int)) = some ([T.int IntKind.i64 x]) from hg2)
        let t13 : Tp pr := .i (wrap_i64 (a := (↑m.length : Int) + (1 : Int)) (by omega) (by omega))
        exact .tp [t0, .m (rfl : true = true), .m (rfl : true = true), t3, .m (rfl : true = true), .m (rfl : true = true), .m (rfl : true = true), .m (rfl : true = true), t8, .m (rfl : true = true), .m (rfl : true = true), .m (rfl : true = true), .b (show (x != x) = false by simp), t13, .a (ih)] (by kernel_rfl)
    · rw [show decide (x :: ra = y :: rb) = false by simp [hx], show eqOut false = .ret (at_ [(4, bl false)] [] 0) from rfl]
      let t0 : Tp pr := .b (show (decide ((↑m.length : Int) < (↑(m ++ x :: ra).length : Int))) = true by (simp; omega))
      let t3 : Tp pr := .g .row (show (lkp (List.map intt (m ++ x :: ra)) (↑m.length : Int)) = some ([T.int IntKind.i64 x]) from hg)
      let t8 : Tp pr := .g .row (show (lkp (List.map intt (m ++ y :: rb)) (↑m.length : Int)) = some ([T.int IntKind.i64 y]) from hg2)
      let t12 : Tp pr := .b (show (x != y) = true by (simp; omega))
      exact .tp [t0, .m (rfl : true = true), .m (rfl : true = true), t3, .m (rfl : true = true), .m (rfl : true = true), .m (rfl : true = true), .m (rfl : true = true), t8, .m (rfl : true = true), .m (rfl : true = true), .m (rfl : true = true), t12] (by kernel_rfl)
theorem eqS_ev (a b : List Int) (ha : a.length ≤ 1048576) (hb : b.length ≤ 1048576) : Ev pr (.call 58 [isq a, isq b] []) (.val (bl (decide (a = b))) []) := by
  by_cases hl : a.length = b.length
  · have g := eqSL_ev a b [] hl ha
    rw [List.nil_append, List.nil_append] at g
    cases hd : decide (a = b) with
    | true => rw [hd, show eqOut true = .exit 0 (at_ [] [] 0) from rfl] at g; (
      let t0 : Tp pr := .i (show ((↑(List.map intt a).length : Int) : Int) = (↑a.length : Int) by simp)
      let t1 : Tp pr := .i (show ((↑(List.map intt b).length : Int) : Int) = (↑b.length : Int) by simp)
      let t2 : Tp pr := .b (show ((↑a.length : Int) != (↑b.length : Int)) = false by (simp; omega))
      let t3 : Tp pr := .i (show ((↑(List.map intt a).length : Int) : Int) = (↑a.length : Int) by simp)
      exact .tp [t0, t1, t2, t3, .a (g)] (by kernel_rfl))
    | false => rw [hd, show eqOut false = .ret (at_ [(4, bl false)] [] 0) from rfl] at g; (
      let t0 : Tp pr := .i (show ((↑(List.map intt a).length : Int) : Int) = (↑a.length : Int) by simp)
      let t1 : Tp pr := .i (show ((↑(List.map intt b).length : Int) : Int) = (↑b.length : Int) by simp)
      let t2 : Tp pr := .b (show ((↑a.length : Int) != (↑b.length : Int)) = false by (simp; omega))
      let t3 : Tp pr := .i (show ((↑(List.map intt a).length : Int) : Int) = (↑a.length : Int) by simp)
      exact .tp [t0, t1, t2, t3, .a (g)] (by kernel_rfl))
  · have hd : decide (a = b) = false := by simp; intro h; exact hl (by rw [h])
    rw [hd]
    have hl2 : ¬ ((a.length : Int) = b.length) := by omega
    let t0 : Tp pr := .i (show ((↑(List.map intt a).length : Int) : Int) = (↑a.length : Int) by simp)
    let t1 : Tp pr := .i (show ((↑(List.map intt b).length : Int) : Int) = (↑b.length : Int) by simp)
    let t2 : Tp pr := .b (show ((↑a.length : Int) != (↑b.length : Int)) = true by (simp; omega))
    exact .tp [t0, t1, t2] (by kernel_rfl)
end Go.Ev

/- Objects that are the same. -/
namespace Go.Ev
set_option linter.unusedVariables false
set_option linter.unusedSimpArgs false
open Go.Proofs
set_option maxRecDepth 100000
set_option linter.unusedVariables false
set_option maxHeartbeats 2000000
theorem alikeL_ev : ∀ (ra rb m : List Int), ra.length = rb.length → (m ++ ra).length ≤ 1048576 →
    Ev pr (.loop (lq pr 53 0) (at_ [(0, isq (m ++ ra)), (1, isq (m ++ rb)), (12, i64 (m ++ ra).length), (13, i64 m.length)] [] 0)) (eqOut (decide (ra = rb)))
  | [], rb, m, hl, hb => by
    obtain rfl : rb = [] := List.length_eq_zero_iff.1 hl.symm
    have hlen : ((m ++ ([] : List Int)).length : Int) = m.length := by simp
    rw [show eqOut (decide (([] : List Int) = [])) = .exit 0 (at_ [] [] 0) by simp [eqOut]]
    let t0 : Tp pr := .b (show (decide ((↑m.length : Int) < (↑(m ++ []).length : Int))) = false by simp)
    exact .tp [t0] (by kernel_rfl)
  | x :: ra, [], m, hl, hb => by simp at hl
  | x :: ra, y :: rb, m, hl, hb => by
    have hlen : ((m ++ x :: ra).length : Int) = m.length + 1 + ra.length := by simp; omega
    have hlen2 : (m ++ x :: ra).length = m.length + 1 + ra.length := by simp; omega
    have hg : lkp ((m ++ x :: ra).map intt) (m.length : Int) = some [T.int .i64 x] := by simp [intt]
    have hg2 : lkp ((m ++ y :: rb).map intt) (m.length : Int) = some [T.int .i64 y] := by simp [intt]
    by_cases hx : x = y
    · subst hx
      have ih := alikeL_ev ra rb (m ++ [x]) (by simpa using hl) (by simpa using hb)
      rw [List.append_assoc, List.append_assoc, List.singleton_append, List.singleton_append, List.length_append (bs := [x])] at ih
      rw [show decide (x :: ra = x :: rb) = decide (ra = rb) by simp]
      cases hd : decide (ra = rb) with
      | true =>
        rw [hd, show eqOut true = .exit 0 (at_ [] [] 0) from rfl] at ih
        rw [show eqOut true = .exit 0 (at_ [] [] 0) from rfl]
        let t0 : Tp pr := .b (show (decide ((↑m.length : Int) < (↑(m ++ x :: ra).length : Int))) = true by (simp; omega))
        let t3 : Tp pr := .g .row (show (lkp (List.map intt (m ++ x :: ra)) (↑m.length : Int)) = some ([T.int IntKind.i64 x]) from hg)
        let t8 : Tp pr := .g .row (show (lkp (List.map intt (m ++ x :: rb)) (↑m.length : Int)) = some ([T.int IntKind.i64 x]) from hg2)
        let t13 : Tp pr := .i (wrap_i64 (a := (↑m.length : Int) + (1 : Int)) (by omega) (by omega))
        exact .tp [t0, .m (rfl : true = true), .m (rfl : true = true), t3, .m (rfl : true = true), .m (rfl : true = true), .m (rfl : true = true), .m (rfl : true = true), t8, .m (rfl : true = true), .m (rfl : true = true), .m (rfl : true = true), .b (show (x != x) = false by simp), t13, .a (ih)] (by kernel_rfl)
      | false =>
        rw [hd, show eqOut false = .ret (at_ [(4, bl false)] [] 0) from rfl] at ih
        rw [show eqOut false = .ret (at_ [(4, bl false)] [] 0) from rfl]
        let t0 : Tp pr := .b (show (decide ((↑m.length : Int) < (↑(m ++ x :: ra).length : Int))) = true by (simp; omega))
        let t3 : Tp pr := .g .row (show (lkp (List.map intt (m ++ x :: ra)) (↑m.length : Int)) = some ([T.int IntKind.i64 x]) from hg)
        let t8 : Tp pr := .g .row (show (lkp (List.map intt (m ++ x :: rb)) (↑m.length : Int)) = some ([T.int IntKind.i64 x]) from hg2)
        let t13 : Tp pr := .i (wrap_i64 (a := (↑m.length : Int) + (1 : Int)) (by omega) (by omega))
        exact .tp [t0, .m (rfl : true = true), .m (rfl : true = true), t3, .m (rfl : true = true), .m (rfl : true = true), .m (rfl : true = true), .m (rfl : true = true), t8, .m (rfl : true = true), .m (rfl : true = true), .m (rfl : true = true), .b (show (x != x) = false by simp), t13, .a (ih)] (by kernel_rfl)
    · rw [show decide (x :: ra = y :: rb) = false by simp [hx], show eqOut false = .ret (at_ [(4, bl false)] [] 0) from rfl]
      let t0 : Tp pr := .b (show (decide ((↑m.length : Int) < (↑(m ++ x :: ra).length : Int))) = true by (simp; omega))
      let t3 : Tp pr := .g .row (show (lkp (List.map intt (m ++ x :: ra)) (↑m.length : Int)) = some ([T.int IntKind.i64 x]) from hg)
      let t8 : Tp pr := .g .row (show (lkp (List.map intt (m ++ y :: rb)) (↑m.length : Int)) = some ([T.int IntKind.i64 y]) from hg2)
      let t12 : Tp pr := .b (show (x != y) = true by (simp; omega))
      exact .tp [t0, .m (rfl : true = true), .m (rfl : true = true), t3, .m (rfl : true = true), .m (rfl : true = true), .m (rfl : true = true), .m (rfl : true = true), t8, .m (rfl : true = true), .m (rfl : true = true), .m (rfl : true = true), t12] (by kernel_rfl)
theorem alike_ev (a b : List Int) (ha : a.length ≤ 1048576) (hb : b.length ≤ 1048576) : Ev pr (.call 53 [isq a, isq b] []) (.val (bl (decide (a = b))) []) := by
  by_cases hl : a.length = b.length
  · have g := alikeL_ev a b [] hl ha
    rw [List.nil_append, List.nil_append] at g
    cases hd : decide (a = b) with
    | true => rw [hd, show eqOut true = .exit 0 (at_ [] [] 0) from rfl] at g; (
      let t0 : Tp pr := .i (show ((↑(List.map intt a).length : Int) : Int) = (↑a.length : Int) by simp)
      let t1 : Tp pr := .i (show ((↑(List.map intt b).length : Int) : Int) = (↑b.length : Int) by simp)
      let t2 : Tp pr := .b (show ((↑a.length : Int) != (↑b.length : Int)) = false by (simp; omega))
      let t3 : Tp pr := .i (show ((↑(List.map intt a).length : Int) : Int) = (↑a.length : Int) by simp)
      exact .tp [t0, t1, t2, t3, .a (g)] (by kernel_rfl))
    | false => rw [hd, show eqOut false = .ret (at_ [(4, bl false)] [] 0) from rfl] at g; (
      let t0 : Tp pr := .i (show ((↑(List.map intt a).length : Int) : Int) = (↑a.length : Int) by simp)
      let t1 : Tp pr := .i (show ((↑(List.map intt b).length : Int) : Int) = (↑b.length : Int) by simp)
      let t2 : Tp pr := .b (show ((↑a.length : Int) != (↑b.length : Int)) = false by (simp; omega))
      let t3 : Tp pr := .i (show ((↑(List.map intt a).length : Int) : Int) = (↑a.length : Int) by simp)
      exact .tp [t0, t1, t2, t3, .a (g)] (by kernel_rfl))
  · have hd : decide (a = b) = false := by simp; intro h; exact hl (by rw [h])
    rw [hd]
    have hl2 : ¬ ((a.length : Int) = b.length) := by omega
    let t0 : Tp pr := .i (show ((↑(List.map intt a).length : Int) : Int) = (↑a.length : Int) by simp)
    let t1 : Tp pr := .i (show ((↑(List.map intt b).length : Int) : Int) = (↑b.length : Int) by simp)
    let t2 : Tp pr := .b (show ((↑a.length : Int) != (↑b.length : Int)) = true by (simp; omega))
    exact .tp [t0, t1, t2] (by kernel_rfl)
theorem sameF_ev (o p : Obj) (ho : o.links.length ≤ 1048576) (hp : p.links.length ≤ 1048576) : Ev pr (.call 57 [vs o.ce, vs p.ce] []) (.val (bl (objEq o p)) []) := by
  have e := eqS_ev o.links p.links ho hp
  unfold objEq
  by_cases hm : o.mark = p.mark
  · rw [decide_eq_true hm, Bool.true_and]
    let t0 : Tp pr := .b (show (decide (o.mark = p.mark)) = true by (simp; omega))
    exact .tp [t0, .a (e)] (by kernel_rfl)
  · rw [decide_eq_false hm, Bool.false_and]
    let t0 : Tp pr := .b (show (decide (o.mark = p.mark)) = false by (simp; omega))
    exact .tp [t0] (by kernel_rfl)
def eqOut6 (t : Bool) : Out := if t = true then .exit 0 (at_ [] [] 0) else .ret (at_ [(6, bl false)] [] 0)
theorem eqOL_ev : ∀ (ra rb m : List Obj), ra.length = rb.length → (m ++ ra).length ≤ 1048576 → (∀ x ∈ ra, x.links.length ≤ 1048576) → (∀ x ∈ rb, x.links.length ≤ 1048576) →
    Ev pr (.loop (lq pr 59 0) (at_ [(1, osq (m ++ rb)), (2, .t (.clo 57 [])), (15, osq (m ++ ra)), (16, i64 (m ++ ra).length), (17, i64 m.length)] [] 0)) (eqOut6 (objsEq ra rb))
  | [], rb, m, hl, hb, h1, h2 => by
    obtain rfl : rb = [] := List.length_eq_zero_iff.1 hl.symm
    have hlen : ((m ++ ([] : List Obj)).length : Int) = m.length := by simp
    rw [show eqOut6 (objsEq [] []) = .exit 0 (at_ [] [] 0) from rfl]
    let t0 : Tp pr := .b (show (decide ((↑m.length : Int) < (↑(m ++ []).length : Int))) = false by simp)
    exact .tp [t0] (by kernel_rfl)
  | x :: ra, [], m, hl, hb, h1, h2 => by simp at hl
  | x :: ra, y :: rb, m, hl, hb, h1, h2 => by
    have hlen : ((m ++ x :: ra).length : Int) = m.length + 1 + ra.length := by simp; omega
    have hlen2 : (m ++ x :: ra).length = m.length + 1 + ra.length := by simp; omega
    have hg : lkp ((m ++ x :: ra).map Obj.ce) (m.length : Int) = some x.ce := by simp
    have hg2 : lkp ((m ++ y :: rb).map Obj.ce) (m.length : Int) = some y.ce := by simp
    have hf := sameF_ev x y (h1 x (by simp)) (h2 y (by simp))
    rw [show objsEq (x :: ra) (y :: rb) = (objEq x y && objsEq ra rb) from rfl]
    cases hx : objEq x y with
    | true =>
      obtain rfl := objEq_iff.1 hx
      rw [hx] at hf
      have ih := eqOL_ev ra rb (m ++ [x]) (by simpa using hl) (by simpa using hb) (fun z hz => h1 z (by simp [hz])) (fun z hz => h2 z (by simp [hz]))
      rw [List.append_assoc, List.append_assoc, List.singleton_append, List.singleton_append, List.length_append (bs := [x])] at ih
      rw [Bool.true_and]
      cases hd : objsEq ra rb with
      | true =>
        rw [hd, show eqOut6 true = .exit 0 (at_ [] [] 0) from rfl] at ih
        rw [show eqOut6 true = .exit 0 (at_ [] [] 0) from rfl]
        let t0 : Tp pr := .b (show (decide ((↑m.length : Int) < (↑(m ++ x :: ra).length : Int))) = true by (simp; omega))
        let t1 : Tp pr := .g .row (show (lkp (List.map Obj.ce (m ++ x :: ra)) (↑m.length : Int)) = some (x.ce) from hg)
        let t2 : Tp pr := .g .row (show (lkp (List.map Obj.ce (m ++ x :: rb)) (↑m.length : Int)) = some (x.ce) from hg2)
        let t5 : Tp pr := .i (wrap_i64 (a := (↑m.length : Int) + (1 : Int)) (by omega) (by omega))
        exact .tp [t0, t1, t2, .a (hf), .b (rfl : false = false), t5, .a (ih)] (by kernel_rfl)
      | false =>
        rw [hd, show eqOut6 false = .ret (at_ [(6, bl false)] [] 0) from rfl] at ih
        rw [show eqOut6 false = .ret (at_ [(6, bl false)] [] 0) from rfl]
        let t0 : Tp pr := .b (show (decide ((↑m.length : Int) < (↑(m ++ x :: ra).length : Int))) = true by (simp; omega))
        let t1 : Tp pr := .g .row (show (lkp (List.map Obj.ce (m ++ x :: ra)) (↑m.length : Int)) = some (x.ce) from hg)
        let t2 : Tp pr := .g .row (show (lkp (List.map Obj.ce (m ++ x :: rb)) (↑m.length : Int)) = some (x.ce) from hg2)
        let t5 : Tp pr := .i (wrap_i64 (a := (↑m.length : Int) + (1 : Int)) (by omega) (by omega))
        exact .tp [t0, t1, t2, .a (hf), .b (rfl : false = false), t5, .a (ih)] (by kernel_rfl)
    | false =>
      rw [hx] at hf
      rw [Bool.false_and, show eqOut6 false = .ret (at_ [(6, bl false)] [] 0) from rfl]
      let t0 : Tp pr := .b (show (decide ((↑m.length : Int) < (↑(m ++ x :: ra).length : Int))) = true by (simp; omega))
      let t1 : Tp pr := .g .row (show (lkp (List.map Obj.ce (m ++ x :: ra)) (↑m.length : Int)) = some (x.ce) from hg)
      let t2 : Tp pr := .g .row (show (lkp (List.map Obj.ce (m ++ y :: rb)) (↑m.length : Int)) = some (y.ce) from hg2)
      exact .tp [t0, t1, t2, .a (hf), .b (rfl : true = true)] (by kernel_rfl)
theorem eqO_ev (a b : List Obj) (ha : a.length ≤ 1048576) (hb : b.length ≤ 1048576) (h1 : ∀ x ∈ a, x.links.length ≤ 1048576) (h2 : ∀ x ∈ b, x.links.length ≤ 1048576) :
    Ev pr (.call 59 [osq a, osq b, .t (.clo 57 [])] []) (.val (bl (objsEq a b)) []) := by
  by_cases hl : a.length = b.length
  · have g := eqOL_ev a b [] hl ha h1 h2
    rw [List.nil_append, List.nil_append] at g
    cases hd : objsEq a b with
    | true => rw [hd, show eqOut6 true = .exit 0 (at_ [] [] 0) from rfl] at g; (
      let t0 : Tp pr := .i (show ((↑(List.map Obj.ce a).length : Int) : Int) = (↑a.length : Int) by simp)
      let t1 : Tp pr := .i (show ((↑(List.map Obj.ce b).length : Int) : Int) = (↑b.length : Int) by simp)
      let t2 : Tp pr := .b (show ((↑a.length : Int) != (↑b.length : Int)) = false by (simp; omega))
      let t3 : Tp pr := .i (show ((↑(List.map Obj.ce a).length : Int) : Int) = (↑a.length : Int) by simp)
      exact .tp [t0, t1, t2, t3, .a (g)] (by kernel_rfl))
    | false => rw [hd, show eqOut6 false = .ret (at_ [(6, bl false)] [] 0) from rfl] at g; (
      let t0 : Tp pr := .i (show ((↑(List.map Obj.ce a).length : Int) : Int) = (↑a.length : Int) by simp)
      let t1 : Tp pr := .i (show ((↑(List.map Obj.ce b).length : Int) : Int) = (↑b.length : Int) by simp)
      let t2 : Tp pr := .b (show ((↑a.length : Int) != (↑b.length : Int)) = false by (simp; omega))
      let t3 : Tp pr := .i (show ((↑(List.map Obj.ce a).length : Int) : Int) = (↑a.length : Int) by simp)
      exact .tp [t0, t1, t2, t3, .a (g)] (by kernel_rfl))
  · rw [objsEq_len hl]
    have hl2 : ¬ ((a.length : Int) = b.length) := by omega
    let t0 : Tp pr := .i (show ((↑(List.map Obj.ce a).length : Int) : Int) = (↑a.length : Int) by simp)
    let t1 : Tp pr := .i (show ((↑(List.map Obj.ce b).length : Int) : Int) = (↑b.length : Int) by simp)
    let t2 : Tp pr := .b (show ((↑a.length : Int) != (↑b.length : Int)) = true by (simp; omega))
    exact .tp [t0, t1, t2] (by kernel_rfl)
end Go.Ev

/- SameHeaps: the program's and the reference's. -/
namespace Go.Ev
set_option linter.unusedVariables false
set_option linter.unusedSimpArgs false
open Go.Proofs
set_option maxRecDepth 100000
set_option linter.unusedVariables false
set_option maxHeartbeats 4000000
attribute [local simp] obcc_take3 ints_take3 obcc_flat3 ints_flat3 ints_takeC
theorem SameI1_ev (a b : Hp) (a1 : a.objects.length ≤ 1048576) (a2 : ∀ x ∈ a.objects, x.links.length ≤ 1048576) (a3 : a.roots.length ≤ 1048576) (ga : goodHeap a = false) :
    Ev pr (.call 12 [vs a.ce, vs b.ce] []) (.val (.tup [bl false, bl false]) []) := by
  have e := GoodHeapI_ev a a1 a2 a3
  rw [ga] at e
  exact .tp [.a (e), .b (rfl : true = true), .b (rfl : true = true)] (by kernel_rfl)
theorem SameI2_ev (a b : Hp) (a1 : a.objects.length ≤ 1048576) (a2 : ∀ x ∈ a.objects, x.links.length ≤ 1048576) (a3 : a.roots.length ≤ 1048576) (ga : goodHeap a = true)
    (b1 : b.objects.length ≤ 1048576) (b2 : ∀ x ∈ b.objects, x.links.length ≤ 1048576) (b3 : b.roots.length ≤ 1048576) (gb : goodHeap b = false) :
    Ev pr (.call 12 [vs a.ce, vs b.ce] []) (.val (.tup [bl false, bl false]) []) := by
  have e := GoodHeapI_ev a a1 a2 a3
  rw [ga] at e
  have e2 := GoodHeapI_ev b b1 b2 b3
  rw [gb] at e2
  exact .tp [.a (e), .b (rfl : false = false), .a (e2), .b (rfl : true = true)] (by kernel_rfl)
theorem SameI3_ev (a b : Hp) (a1 : a.objects.length ≤ 1048576) (a2 : ∀ x ∈ a.objects, x.links.length ≤ 1048576) (a3 : a.roots.length ≤ 1048576) (ga : goodHeap a = true)
    (b1 : b.objects.length ≤ 1048576) (b2 : ∀ x ∈ b.objects, x.links.length ≤ 1048576) (b3 : b.roots.length ≤ 1048576) (gb : goodHeap b = true) :
    Ev pr (.call 12 [vs a.ce, vs b.ce] []) (.val (.tup [bl (sameH a b), bl true]) []) := by
  have e := GoodHeapI_ev a a1 a2 a3
  rw [ga] at e
  have e2 := GoodHeapI_ev b b1 b2 b3
  rw [gb] at e2
  have ca := copyHeap_ev a (goodHeap_ok ga)
  have cb := copyHeap_ev b (goodHeap_ok gb)
  obtain ⟨n1, n2, n3⟩ := copyH_bds (goodHeap_ok ga)
  obtain ⟨m1, m2, m3⟩ := copyH_bds (goodHeap_ok gb)
  unfold sameH
  generalize copyH a = x at *
  generalize copyH b = y at *
  have q := eqS_ev x.roots y.roots (by omega) (by omega)
  have q2 := eqO_ev x.objects y.objects (by omega) (by omega) (fun z hz => by have := n2 z hz; omega) (fun z hz => by have := m2 z hz; omega)
  cases hr : decide (x.roots = y.roots) with
  | true =>
    rw [hr] at q
    rw [Bool.true_and]
    let t6 : Tp pr := .m (show (decide ((ints x.roots).length = x.roots.length ∧ (0 : Nat) + x.roots.length ≤ x.roots.length)) = true by simp)
    let t7 : Tp pr := .n .rows (show (List.map (fun x => List.map C.fz x) (List.take x.roots.length (List.drop (0 : Nat) (ints x.roots)))) = List.map intt x.roots by simp)
    let t8 : Tp pr := .m (show (decide ((ints y.roots).length = y.roots.length ∧ (0 : Nat) + y.roots.length ≤ y.roots.length)) = true by simp)
    let t9 : Tp pr := .n .rows (show (List.map (fun x => List.map C.fz x) (List.take y.roots.length (List.drop (0 : Nat) (ints y.roots)))) = List.map intt y.roots by simp)
    let t13 : Tp pr := .m (show (decide ((List.map Obj.cc x.objects).length = x.objects.length ∧ (0 : Nat) + x.objects.length ≤ x.objects.length)) = true by simp)
    let t14 : Tp pr := .n .rows (show (List.map (fun x => List.map C.fz x) (List.take x.objects.length (List.drop (0 : Nat) (List.map Obj.cc x.objects)))) = List.map Obj.ce x.objects by simp)
    let t15 : Tp pr := .m (show (decide ((List.map Obj.cc y.objects).length = y.objects.length ∧ (0 : Nat) + y.objects.length ≤ y.objects.length)) = true by simp)
    let t16 : Tp pr := .n .rows (show (List.map (fun x => List.map C.fz x) (List.take y.objects.length (List.drop (0 : Nat) (List.map Obj.cc y.objects)))) = List.map Obj.ce y.objects by simp)
    exact .tp [.a (e), .b (rfl : false = false), .a (e2), .b (rfl : false = false), .a (ca), .a (cb), t6, t7, t8, t9, .a (q), .m (rfl : true = true), .b (rfl : true = true), t13, t14, t15, t16, .a (q2), .m (rfl : true = true)] (by kernel_rfl)
  | false =>
    rw [hr] at q
    rw [Bool.false_and]
    let t6 : Tp pr := .m (show (decide ((ints x.roots).length = x.roots.length ∧ (0 : Nat) + x.roots.length ≤ x.roots.length)) = true by simp)
    let t7 : Tp pr := .n .rows (show (List.map (fun x => List.map C.fz x) (List.take x.roots.length (List.drop (0 : Nat) (ints x.roots)))) = List.map intt x.roots by simp)
    let t8 : Tp pr := .m (show (decide ((ints y.roots).length = y.roots.length ∧ (0 : Nat) + y.roots.length ≤ y.roots.length)) = true by simp)
    let t9 : Tp pr := .n .rows (show (List.map (fun x => List.map C.fz x) (List.take y.roots.length (List.drop (0 : Nat) (ints y.roots)))) = List.map intt y.roots by simp)
    exact .tp [.a (e), .b (rfl : false = false), .a (e2), .b (rfl : false = false), .a (ca), .a (cb), t6, t7, t8, t9, .a (q), .m (rfl : true = true), .b (rfl : false = false)] (by kernel_rfl)
theorem SameS1_ev (a b : Hp) (a1 : a.objects.length ≤ 1048576) (a2 : ∀ x ∈ a.objects, x.links.length ≤ 1048576) (a3 : a.roots.length ≤ 1048576) (ga : goodHeap a = false) :
    Ev pr (.call 10 [vs a.ce, vs b.ce] []) (.val (.tup [bl false, bl false]) []) := by
  have e := GoodHeapS_ev a a1 a2 a3
  rw [ga] at e
  exact .tp [.a (e), .b (rfl : true = true), .b (rfl : true = true)] (by kernel_rfl)
theorem SameS2_ev (a b : Hp) (a1 : a.objects.length ≤ 1048576) (a2 : ∀ x ∈ a.objects, x.links.length ≤ 1048576) (a3 : a.roots.length ≤ 1048576) (ga : goodHeap a = true)
    (b1 : b.objects.length ≤ 1048576) (b2 : ∀ x ∈ b.objects, x.links.length ≤ 1048576) (b3 : b.roots.length ≤ 1048576) (gb : goodHeap b = false) :
    Ev pr (.call 10 [vs a.ce, vs b.ce] []) (.val (.tup [bl false, bl false]) []) := by
  have e := GoodHeapS_ev a a1 a2 a3
  rw [ga] at e
  have e2 := GoodHeapS_ev b b1 b2 b3
  rw [gb] at e2
  exact .tp [.a (e), .b (rfl : false = false), .a (e2), .b (rfl : true = true)] (by kernel_rfl)
def eqOut45 (t : Bool) : Out := if t = true then .exit 0 (at_ [] [] 0) else .ret (at_ [(4, bl false), (5, bl true)] [] 0)
theorem sameL_ev (rs : List Int) : ∀ (ra rb m : List Obj), ra.length = rb.length → (m ++ ra).length ≤ 1048576 → (∀ x ∈ ra, x.links.length ≤ 1048576) → (∀ x ∈ rb, x.links.length ≤ 1048576) →
    Ev pr (.loop (lq pr 10 0) (at_ [(7, .ptr 0 1 0 0), (38, osq (m ++ ra)), (39, i64 (m ++ ra).length), (40, i64 m.length)] [.box [osq (m ++ rb), isq rs]] 0)) (eqOut45 (objsEq ra rb))
  | [], rb, m, hl, hb, h1, h2 => by
    obtain rfl : rb = [] := List.length_eq_zero_iff.1 hl.symm
    have hlen : ((m ++ ([] : List Obj)).length : Int) = m.length := by simp
    rw [show eqOut45 (objsEq [] []) = .exit 0 (at_ [] [] 0) from rfl]
    let t0 : Tp pr := .b (show (decide ((↑m.length : Int) < (↑(m ++ []).length : Int))) = false by simp)
    exact .tp [t0] (by kernel_rfl)
  | x :: ra, [], m, hl, hb, h1, h2 => by simp at hl
  | x :: ra, y :: rb, m, hl, hb, h1, h2 => by
    have hlen : ((m ++ x :: ra).length : Int) = m.length + 1 + ra.length := by simp; omega
    have hlen2 : (m ++ x :: ra).length = m.length + 1 + ra.length := by simp; omega
    have hg : lkp ((m ++ x :: ra).map Obj.ce) (m.length : Int) = some x.ce := by simp
    have hg2 : lkp ((m ++ y :: rb).map Obj.ce) (m.length : Int) = some y.ce := by simp
    have hf := alike_ev x.links y.links (h1 x (by simp)) (h2 y (by simp))
    rw [show objsEq (x :: ra) (y :: rb) = ((decide (x.mark = y.mark) && decide (x.links = y.links)) && objsEq ra rb) from rfl]
    by_cases hk : x.mark = y.mark
    · rw [decide_eq_true hk, Bool.true_and]
      cases hx : decide (x.links = y.links) with
      | true =>
        have hxy : x = y := objEq_iff.1 (by simp [objEq, hk, of_decide_eq_true hx])
        rw [hx] at hf
        have ih := sameL_ev rs ra rb (m ++ [x]) (by simpa using hl) (by simpa using hb) (fun z hz => h1 z (by simp [hz])) (fun z hz => h2 z (by simp [hz]))
        rw [List.append_assoc, List.append_assoc, List.singleton_append, List.singleton_append, List.length_append (bs := [x])] at ih
        rw [Bool.true_and]
        subst hxy
        cases hd : objsEq ra rb with
        | true =>
          rw [hd, show eqOut45 true = .exit 0 (at_ [] [] 0) from rfl] at ih
          rw [show eqOut45 true = .exit 0 (at_ [] [] 0) from rfl]
          let t0 : Tp pr := .b (show (decide ((↑m.length : Int) < (↑(m ++ x :: ra).length : Int))) = true by (simp; omega))
          let t1 : Tp pr := .g .row (show (lkp (List.map Obj.ce (m ++ x :: ra)) (↑m.length : Int)) = some (x.ce) from hg)
          let t7 : Tp pr := .g .row (show (lkp (List.map Obj.ce (m ++ x :: rb)) (↑m.length : Int)) = some (x.ce) from hg2)
          let t13 : Tp pr := .b (show (x.mark != x.mark) = false by simp)
          let t19 : Tp pr := .g .row (show (lkp (List.map Obj.ce (m ++ x :: rb)) (↑m.length : Int)) = some (x.ce) from hg2)
          let t28 : Tp pr := .i (wrap_i64 (a := (↑m.length : Int) + (1 : Int)) (by omega) (by omega))
          exact .tp [t0, t1, .m (rfl : true = true), .m (rfl : true = true), .m (rfl : true = true), .m (rfl : true = true), .m (rfl : true = true), t7, .m (rfl : true = true), .m (rfl : true = true), .m (rfl : true = true), .m (rfl : true = true), .m (rfl : true = true), t13, .m (rfl : true = true), .m (rfl : true = true), .m (rfl : true = true), .m (rfl : true = true), .m (rfl : true = true), t19, .m (rfl : true = true), .m (rfl : true = true), .m (rfl : true = true), .a (hf), .m (rfl : true = true), .m (rfl : true = true), .m (rfl : true = true), .b (rfl : false = false), t28, .a (ih)] (by kernel_rfl)
        | false =>
          rw [hd, show eqOut45 false = .ret (at_ [(4, bl false), (5, bl true)] [] 0) from rfl] at ih
          rw [show eqOut45 false = .ret (at_ [(4, bl false), (5, bl true)] [] 0) from rfl]
          let t0 : Tp pr := .b (show (decide ((↑m.length : Int) < (↑(m ++ x :: ra).length : Int))) = true by (simp; omega))
          let t1 : Tp pr := .g .row (show (lkp (List.map Obj.ce (m ++ x :: ra)) (↑m.length : Int)) = some (x.ce) from hg)
          let t7 : Tp pr := .g .row (show (lkp (List.map Obj.ce (m ++ x :: rb)) (↑m.length : Int)) = some (x.ce) from hg2)
          let t13 : Tp pr := .b (show (x.mark != x.mark) = false by simp)
          let t19 : Tp pr := .g .row (show (lkp (List.map Obj.ce (m ++ x :: rb)) (↑m.length : Int)) = some (x.ce) from hg2)
          let t28 : Tp pr := .i (wrap_i64 (a := (↑m.length : Int) + (1 : Int)) (by omega) (by omega))
          exact .tp [t0, t1, .m (rfl : true = true), .m (rfl : true = true), .m (rfl : true = true), .m (rfl : true = true), .m (rfl : true = true), t7, .m (rfl : true = true), .m (rfl : true = true), .m (rfl : true = true), .m (rfl : true = true), .m (rfl : true = true), t13, .m (rfl : true = true), .m (rfl : true = true), .m (rfl : true = true), .m (rfl : true = true), .m (rfl : true = true), t19, .m (rfl : true = true), .m (rfl : true = true), .m (rfl : true = true), .a (hf), .m (rfl : true = true), .m (rfl : true = true), .m (rfl : true = true), .b (rfl : false = false), t28, .a (ih)] (by kernel_rfl)
      | false =>
        rw [hx] at hf
        rw [Bool.false_and, show eqOut45 false = .ret (at_ [(4, bl false), (5, bl true)] [] 0) from rfl]
        let t0 : Tp pr := .b (show (decide ((↑m.length : Int) < (↑(m ++ x :: ra).length : Int))) = true by (simp; omega))
        let t1 : Tp pr := .g .row (show (lkp (List.map Obj.ce (m ++ x :: ra)) (↑m.length : Int)) = some (x.ce) from hg)
        let t7 : Tp pr := .g .row (show (lkp (List.map Obj.ce (m ++ y :: rb)) (↑m.length : Int)) = some (y.ce) from hg2)
        let t13 : Tp pr := .b (show (x.mark != y.mark) = false by (simp; omega))
        let t19 : Tp pr := .g .row (show (lkp (List.map Obj.ce (m ++ y :: rb)) (↑m.length : Int)) = some (y.ce) from hg2)
        exact .tp [t0, t1, .m (rfl : true = true), .m (rfl : true = true), .m (rfl : true = true), .m (rfl : true = true), .m (rfl : true = true), t7, .m (rfl : true = true), .m (rfl : true = true), .m (rfl : true = true), .m (rfl : true = true), .m (rfl : true = true), t13, .m (rfl : true = true), .m (rfl : true = true), .m (rfl : true = true), .m (rfl : true = true), .m (rfl : true = true), t19, .m (rfl : true = true), .m (rfl : true = true), .m (rfl : true = true), .a (hf), .m (rfl : true = true), .m (rfl : true = true), .m (rfl : true = true), .b (rfl : true = true)] (by kernel_rfl)
    · rw [decide_eq_false hk, Bool.false_and, Bool.false_and, show eqOut45 false = .ret (at_ [(4, bl false), (5, bl true)] [] 0) from rfl]
      let t0 : Tp pr := .b (show (decide ((↑m.length : Int) < (↑(m ++ x :: ra).length : Int))) = true by (simp; omega))
      let t1 : Tp pr := .g .row (show (lkp (List.map Obj.ce (m ++ x :: ra)) (↑m.length : Int)) = some (x.ce) from hg)
      let t7 : Tp pr := .g .row (show (lkp (List.map Obj.ce (m ++ y :: rb)) (↑m.length : Int)) = some (y.ce) from hg2)
      let t13 : Tp pr := .b (show (x.mark != y.mark) = true by (simp; omega))
      exact .tp [t0, t1, .m (rfl : true = true), .m (rfl : true = true), .m (rfl : true = true), .m (rfl : true = true), .m (rfl : true = true), t7, .m (rfl : true = true), .m (rfl : true = true), .m (rfl : true = true), .m (rfl : true = true), .m (rfl : true = true), t13, .m (rfl : true = true), .m (rfl : true = true), .m (rfl : true = true), .m (rfl : true = true), .m (rfl : true = true), .m (rfl : true = true), .m (rfl : true = true), .m (rfl : true = true), .m (rfl : true = true), .m (rfl : true = true), .m (rfl : true = true), .b (rfl : true = true)] (by kernel_rfl)
theorem SameS3_ev (a b : Hp) (a1 : a.objects.length ≤ 1048576) (a2 : ∀ x ∈ a.objects, x.links.length ≤ 1048576) (a3 : a.roots.length ≤ 1048576) (ga : goodHeap a = true)
    (b1 : b.objects.length ≤ 1048576) (b2 : ∀ x ∈ b.objects, x.links.length ≤ 1048576) (b3 : b.roots.length ≤ 1048576) (gb : goodHeap b = true) :
    Ev pr (.call 10 [vs a.ce, vs b.ce] []) (.val (.tup [bl (sameH a b), bl true]) []) := by
  have e := GoodHeapS_ev a a1 a2 a3
  rw [ga] at e
  have e2 := GoodHeapS_ev b b1 b2 b3
  rw [gb] at e2
  have ca := l15Copy_ev a (goodHeap_ok ga)
  have cb := l15Copy_ev b (goodHeap_ok gb)
  obtain ⟨n1, n2, n3⟩ := copyH_bds (goodHeap_ok ga)
  obtain ⟨m1, m2, m3⟩ := copyH_bds (goodHeap_ok gb)
  unfold sameH
  generalize copyH a = x at *
  generalize copyH b = y at *
  have q := alike_ev x.roots y.roots (by omega) (by omega)
  cases hr : decide (x.roots = y.roots) with
  | true =>
    rw [hr] at q
    rw [Bool.true_and]
    by_cases hl : x.objects.length = y.objects.length
    · have g := sameL_ev y.roots x.objects y.objects [] hl (by simp; omega) (fun z hz => by have := n2 z hz; omega) (fun z hz => by have := m2 z hz; omega)
      rw [List.nil_append, List.nil_append] at g
      cases hd : objsEq x.objects y.objects with
      | true => rw [hd, show eqOut45 true = .exit 0 (at_ [] [] 0) from rfl] at g; (
        let t8 : Tp pr := .i (show ((↑(List.map Obj.ce x.objects).length : Int) : Int) = (↑x.objects.length : Int) by simp)
        let t9 : Tp pr := .i (show ((↑(List.map Obj.ce y.objects).length : Int) : Int) = (↑y.objects.length : Int) by simp)
        let t10 : Tp pr := .b (show ((↑x.objects.length : Int) != (↑y.objects.length : Int)) = false by (simp; omega))
        let t11 : Tp pr := .i (show ((↑(List.map Obj.ce x.objects).length : Int) : Int) = (↑x.objects.length : Int) by simp)
        exact .tp [.a (e), .b (rfl : false = false), .a (e2), .b (rfl : false = false), .a (ca), .a (cb), .a (q), .b (rfl : false = false), t8, t9, t10, t11, .a (g)] (by kernel_rfl))
      | false => rw [hd, show eqOut45 false = .ret (at_ [(4, bl false), (5, bl true)] [] 0) from rfl] at g; (
        let t8 : Tp pr := .i (show ((↑(List.map Obj.ce x.objects).length : Int) : Int) = (↑x.objects.length : Int) by simp)
        let t9 : Tp pr := .i (show ((↑(List.map Obj.ce y.objects).length : Int) : Int) = (↑y.objects.length : Int) by simp)
        let t10 : Tp pr := .b (show ((↑x.objects.length : Int) != (↑y.objects.length : Int)) = false by (simp; omega))
        let t11 : Tp pr := .i (show ((↑(List.map Obj.ce x.objects).length : Int) : Int) = (↑x.objects.length : Int) by simp)
        exact .tp [.a (e), .b (rfl : false = false), .a (e2), .b (rfl : false = false), .a (ca), .a (cb), .a (q), .b (rfl : false = false), t8, t9, t10, t11, .a (g)] (by kernel_rfl))
    · rw [objsEq_len hl]
      have hl2 : ¬ ((x.objects.length : Int) = y.objects.length) := by omega
      let t8 : Tp pr := .i (show ((↑(List.map Obj.ce x.objects).length : Int) : Int) = (↑x.objects.length : Int) by simp)
      let t9 : Tp pr := .i (show ((↑(List.map Obj.ce y.objects).length : Int) : Int) = (↑y.objects.length : Int) by simp)
      let t10 : Tp pr := .b (show ((↑x.objects.length : Int) != (↑y.objects.length : Int)) = true by (simp; omega))
      exact .tp [.a (e), .b (rfl : false = false), .a (e2), .b (rfl : false = false), .a (ca), .a (cb), .a (q), .b (rfl : false = false), t8, t9, t10] (by kernel_rfl)
  | false =>
    rw [hr] at q
    rw [Bool.false_and]
    exact .tp [.a (e), .b (rfl : false = false), .a (e2), .b (rfl : false = false), .a (ca), .a (cb), .a (q), .b (rfl : true = true), .b (rfl : true = true)] (by kernel_rfl)
end Go.Ev

/- The law: the program's SameHeaps returns what the reference's returns. -/
namespace Go.Ev
set_option linter.unusedVariables false
set_option linter.unusedSimpArgs false
open Go.Proofs
set_option maxRecDepth 100000
set_option linter.unusedVariables false
set_option maxHeartbeats 4000000
attribute [local simp] obcc_take3 ints_take3 obcc_flat3 ints_flat3
def Obj.wf (o : Obj) : Prop := (Lit.int .i64 o.mark).wf = true ∧ (o.links.length ≤ 9223372036854775807 ∧ ∀ x ∈ o.links, (Lit.int .i64 x).wf = true)
def Hp.wf (h : Hp) : Prop := (h.objects.length ≤ 9223372036854775807 ∧ ∀ x ∈ h.objects, x.wf) ∧ (h.roots.length ≤ 9223372036854775807 ∧ ∀ x ∈ h.roots, (Lit.int .i64 x).wf = true)
theorem szHp_ev (h : Hp) (n : Int) (h0 : 0 ≤ n) (h1 : n ≤ 1048576) (hl : h.objects.length ≤ 9223372036854775807) (hs : ∀ x ∈ h.objects, x.links.length ≤ 9223372036854775807) (hr : h.roots.length ≤ 9223372036854775807) :
    Ev pr (.call 9 [vs h.ce, i64 n] []) (.val (i64 (szH h n)) []) := by
  have g := szHeap_ev h n h0 h1 hl hs hr
  have e0 : (if szO h.objects n < 0 then -1 else if szI h.roots (szO h.objects n) < 0 then -1 else szI h.roots (szO h.objects n)) = szH h n := by
    unfold szH
    split
    · rfl
    · split
      · unfold szI at *; grind
      · rfl
  rwa [e0] at g
theorem szOL_all2 : ∀ (l : List Obj) (n m : Int), 0 ≤ n → szOL l n = some m → ∀ x ∈ l, x.links.length ≤ n
  | [], n, m, h0, h, x, hx => by cases hx
  | y :: l, n, m, h0, h, x, hx => by
    unfold szOL at h
    split at h
    · cases h
    · rename_i h2
      have h3 := szI_le h2
      rcases List.mem_cons.1 hx with rfl | hx
      · omega
      · have := szOL_all2 l _ m h3.1 h x hx
        omega
theorem szH_all2 {h : Hp} {n : Int} (h0 : 0 ≤ n) (hz : ¬ szH h n < 0) : 0 ≤ szH h n ∧ szH h n ≤ n ∧ h.objects.length ≤ n ∧ (∀ x ∈ h.objects, x.links.length ≤ n) ∧ h.roots.length ≤ n := by
  unfold szH at hz ⊢
  split at hz
  · omega
  · rename_i h1
    rw [if_neg h1]
    have h2 := szI_le hz
    unfold szO at h1 h2 ⊢
    split at h1
    · omega
    · rename_i h3
      rw [if_neg h3] at h2 ⊢
      cases hr : szOL h.objects (n - h.objects.length) with
      | none => rw [hr] at h1; simp at h1
      | some m =>
        have h4 := szOL_sum h.objects _ m hr (by omega)
        have h5 := marksO_nonneg h.objects
        have h6 := szOL_all2 h.objects _ m (by omega) hr
        rw [hr] at h2
        simp only [Option.getD_some] at h2 ⊢
        have h7 : (h.objects.length : Int) ≤ marksO h.objects := by
          clear h2 h4 h5 h6 hr h1 h3 hz
          induction h.objects with
          | nil => simp [marksO]
          | cons x l ih => simp only [marksO, List.length_cons]; omega
        exact ⟨by omega, by omega, by omega, fun x hx => by have := h6 x hx; omega, by omega⟩
theorem same_cases (a b : Hp) (a1 : a.objects.length ≤ 1048576) (a2 : ∀ x ∈ a.objects, x.links.length ≤ 1048576) (a3 : a.roots.length ≤ 1048576)
    (b1 : b.objects.length ≤ 1048576) (b2 : ∀ x ∈ b.objects, x.links.length ≤ 1048576) (b3 : b.roots.length ≤ 1048576) :
    ∃ p q : Bool, Ev pr (.call 10 [vs a.ce, vs b.ce] []) (.val (.tup [bl p, bl q]) []) ∧ Ev pr (.call 12 [vs a.ce, vs b.ce] []) (.val (.tup [bl p, bl q]) []) := by
  by_cases ga : goodHeap a = true
  · by_cases gb : goodHeap b = true
    · exact ⟨_, _, SameS3_ev a b a1 a2 a3 ga b1 b2 b3 gb, SameI3_ev a b a1 a2 a3 ga b1 b2 b3 gb⟩
    · have gb : goodHeap b = false := by simpa using gb
      exact ⟨_, _, SameS2_ev a b a1 a2 a3 ga b1 b2 b3 gb, SameI2_ev a b a1 a2 a3 ga b1 b2 b3 gb⟩
  · have ga : goodHeap a = false := by simpa using ga
    exact ⟨_, _, SameS1_ev a b a1 a2 a3 ga, SameI1_ev a b a1 a2 a3 ga⟩
theorem law0_ev (a b : Hp) (al : a.objects.length ≤ 9223372036854775807) (az' : ∀ x ∈ a.objects, x.links.length ≤ 9223372036854775807) (ar : a.roots.length ≤ 9223372036854775807)
    (bl' : b.objects.length ≤ 9223372036854775807) (bs : ∀ x ∈ b.objects, x.links.length ≤ 9223372036854775807) (br : b.roots.length ≤ 9223372036854775807) :
    Ev pr (.call 3 [vs a.ce, vs b.ce] []) (.val (bl true) []) := by
  have h0 := szHp_ev a 1048576 (by omega) (by omega) al az' ar
  by_cases hz : szH a 1048576 < 0
  · let t1 : Tp pr := .b (show (decide (szH a (1048576 : Int) < (0 : Int))) = true by (simp; omega))
    exact .tp [.a (h0), t1] (by kernel_rfl)
  · obtain ⟨z1, z2, a1, a2, a3⟩ := szH_all2 (by omega) hz
    have g0 := szHp_ev b (szH a 1048576) (by omega) (by omega) bl' bs br
    by_cases hy : szH b (szH a 1048576) < 0
    · let t1 : Tp pr := .b (show (decide (szH a (1048576 : Int) < (0 : Int))) = false by (simp; omega))
      let t3 : Tp pr := .b (show (decide (szH b (szH a (1048576 : Int)) < (0 : Int))) = true by (simp; omega))
      exact .tp [.a (h0), t1, .a (g0), t3] (by kernel_rfl)
    · obtain ⟨y1, y2, b1, b2, b3⟩ := szH_all2 (by omega) hy
      have a1' : a.objects.length ≤ 1048576 := by omega
      have a2' : ∀ x ∈ a.objects, x.links.length ≤ 1048576 := fun x hx => by have := a2 x hx; omega
      have a3' : a.roots.length ≤ 1048576 := by omega
      have b1' : b.objects.length ≤ 1048576 := by omega
      have b2' : ∀ x ∈ b.objects, x.links.length ≤ 1048576 := fun x hx => by have := b2 x hx; omega
      have b3' : b.roots.length ≤ 1048576 := by omega
      have ta := toHeap_ev a a1' a2' a3'
      have tb := toHeap_ev b b1' b2' b3'
      have ea := eqHeap_ev a a1' a2' a3'
      have eb := eqHeap_ev b b1' b2' b3'
      obtain ⟨p, q, s1, i1⟩ := same_cases a b a1' a2' a3' b1' b2' b3'
      cases p <;> cases q
      · let t1 : Tp pr := .b (show (decide (szH a (1048576 : Int) < (0 : Int))) = false by (simp; omega))
        let t3 : Tp pr := .b (show (decide (szH b (szH a (1048576 : Int)) < (0 : Int))) = false by (simp; omega))
        let t10 : Tp pr := .m (show (decide ((List.map Obj.cc a.objects).length = a.objects.length ∧ (0 : Nat) + a.objects.length ≤ a.objects.length)) = true by simp)
        let t11 : Tp pr := .n .rows (show (List.map (fun x => List.map C.fz x) (List.take a.objects.length (List.drop (0 : Nat) (List.map Obj.cc a.objects)))) = List.map Obj.ce a.objects by simp)
        let t12 : Tp pr := .m (show (decide ((ints a.roots).length = a.roots.length ∧ (0 : Nat) + a.roots.length ≤ a.roots.length)) = true by simp)
        let t13 : Tp pr := .n .rows (show (List.map (fun x => List.map C.fz x) (List.take a.roots.length (List.drop (0 : Nat) (ints a.roots)))) = List.map intt a.roots by simp)
        let t14 : Tp pr := .m (show (decide ((List.map Obj.cc b.objects).length = b.objects.length ∧ (0 : Nat) + b.objects.length ≤ b.objects.length)) = true by simp)
        let t15 : Tp pr := .n .rows (show (List.map (fun x => List.map C.fz x) (List.take b.objects.length (List.drop (0 : Nat) (List.map Obj.cc b.objects)))) = List.map Obj.ce b.objects by simp)
        let t16 : Tp pr := .m (show (decide ((ints b.roots).length = b.roots.length ∧ (0 : Nat) + b.roots.length ≤ b.roots.length)) = true by simp)
        let t17 : Tp pr := .n .rows (show (List.map (fun x => List.map C.fz x) (List.take b.roots.length (List.drop (0 : Nat) (ints b.roots)))) = List.map intt b.roots by simp)
        let t27 : Tp pr := .m (show (decide ((List.map Obj.cc a.objects).length = a.objects.length ∧ (0 : Nat) + a.objects.length ≤ a.objects.length)) = true by simp)
        let t28 : Tp pr := .n .rows (show (List.map (fun x => List.map C.fz x) (List.take a.objects.length (List.drop (0 : Nat) (List.map Obj.cc a.objects)))) = List.map Obj.ce a.objects by simp)
        let t29 : Tp pr := .m (show (decide ((ints a.roots).length = a.roots.length ∧ (0 : Nat) + a.roots.length ≤ a.roots.length)) = true by simp)
        let t30 : Tp pr := .n .rows (show (List.map (fun x => List.map C.fz x) (List.take a.roots.length (List.drop (0 : Nat) (ints a.roots)))) = List.map intt a.roots by simp)
        let t31 : Tp pr := .m (show (decide ((List.map Obj.cc b.objects).length = b.objects.length ∧ (0 : Nat) + b.objects.length ≤ b.objects.length)) = true by simp)
        let t32 : Tp pr := .n .rows (show (List.map (fun x => List.map C.fz x) (List.take b.objects.length (List.drop (0 : Nat) (List.map Obj.cc b.objects)))) = List.map Obj.ce b.objects by simp)
        let t33 : Tp pr := .m (show (decide ((ints b.roots).length = b.roots.length ∧ (0 : Nat) + b.roots.length ≤ b.roots.length)) = true by simp)
        let t34 : Tp pr := .n .rows (show (List.map (fun x => List.map C.fz x) (List.take b.roots.length (List.drop (0 : Nat) (ints b.roots)))) = List.map intt b.roots by simp)
        let t43 : Tp pr := .m (show (decide ((List.map Obj.cc a.objects).length = a.objects.length ∧ (0 : Nat) + a.objects.length ≤ a.objects.length)) = true by simp)
        let t44 : Tp pr := .n .rows (show (List.map (fun x => List.map C.fz x) (List.take a.objects.length (List.drop (0 : Nat) (List.map Obj.cc a.objects)))) = List.map Obj.ce a.objects by simp)
        let t45 : Tp pr := .m (show (decide ((ints a.roots).length = a.roots.length ∧ (0 : Nat) + a.roots.length ≤ a.roots.length)) = true by simp)
        let t46 : Tp pr := .n .rows (show (List.map (fun x => List.map C.fz x) (List.take a.roots.length (List.drop (0 : Nat) (ints a.roots)))) = List.map intt a.roots by simp)
        let t47 : Tp pr := .m (show (decide ((List.map Obj.cc a.objects).length = a.objects.length ∧ (0 : Nat) + a.objects.length ≤ a.objects.length)) = true by simp)
        let t48 : Tp pr := .n .rows (show (List.map (fun x => List.map C.fz x) (List.take a.objects.length (List.drop (0 : Nat) (List.map Obj.cc a.objects)))) = List.map Obj.ce a.objects by simp)
        let t49 : Tp pr := .m (show (decide ((ints a.roots).length = a.roots.length ∧ (0 : Nat) + a.roots.length ≤ a.roots.length)) = true by simp)
        let t50 : Tp pr := .n .rows (show (List.map (fun x => List.map C.fz x) (List.take a.roots.length (List.drop (0 : Nat) (ints a.roots)))) = List.map intt a.roots by simp)
        let t60 : Tp pr := .m (show (decide ((List.map Obj.cc b.objects).length = b.objects.length ∧ (0 : Nat) + b.objects.length ≤ b.objects.length)) = true by simp)
        let t61 : Tp pr := .n .rows (show (List.map (fun x => List.map C.fz x) (List.take b.objects.length (List.drop (0 : Nat) (List.map Obj.cc b.objects)))) = List.map Obj.ce b.objects by simp)
        let t62 : Tp pr := .m (show (decide ((ints b.roots).length = b.roots.length ∧ (0 : Nat) + b.roots.length ≤ b.roots.length)) = true by simp)
        let t63 : Tp pr := .n .rows (show (List.map (fun x => List.map C.fz x) (List.take b.roots.length (List.drop (0 : Nat) (ints b.roots)))) = List.map intt b.roots by simp)
        let t64 : Tp pr := .m (show (decide ((List.map Obj.cc b.objects).length = b.objects.length ∧ (0 : Nat) + b.objects.length ≤ b.objects.length)) = true by simp)
        let t65 : Tp pr := .n .rows (show (List.map (fun x => List.map C.fz x) (List.take b.objects.length (List.drop (0 : Nat) (List.map Obj.cc b.objects)))) = List.map Obj.ce b.objects by simp)
        let t66 : Tp pr := .m (show (decide ((ints b.roots).length = b.roots.length ∧ (0 : Nat) + b.roots.length ≤ b.roots.length)) = true by simp)
        let t67 : Tp pr := .n .rows (show (List.map (fun x => List.map C.fz x) (List.take b.roots.length (List.drop (0 : Nat) (ints b.roots)))) = List.map intt b.roots by simp)
        exact .tp [.a (h0), t1, .a (g0), t3, .m (rfl : true = true), .a (ta), .m (rfl : true = true), .m (rfl : true = true), .a (tb), .m (rfl : true = true), t10, t11, t12, t13, t14, t15, t16, t17, .a (s1), .m (rfl : true = true), .m (rfl : true = true), .m (rfl : true = true), .m (rfl : true = true), .m (rfl : true = true), .m (rfl : true = true), .a (ta), .a (tb), t27, t28, t29, t30, t31, t32, t33, t34, .a (i1), .m (rfl : true = true), .b (rfl : false = false), .b (rfl : false = false), .m (rfl : true = true), .m (rfl : true = true), .a (ta), .m (rfl : true = true), t43, t44, t45, t46, t47, t48, t49, t50, .a (ea), .m (rfl : true = true), .m (rfl : true = true), .m (rfl : true = true), .b (rfl : false = false), .m (rfl : true = true), .m (rfl : true = true), .a (tb), .m (rfl : true = true), t60, t61, t62, t63, t64, t65, t66, t67, .a (eb), .m (rfl : true = true), .m (rfl : true = true), .m (rfl : true = true), .b (rfl : false = false)] (by kernel_rfl)
      · let t1 : Tp pr := .b (show (decide (szH a (1048576 : Int) < (0 : Int))) = false by (simp; omega))
        let t3 : Tp pr := .b (show (decide (szH b (szH a (1048576 : Int)) < (0 : Int))) = false by (simp; omega))
        let t10 : Tp pr := .m (show (decide ((List.map Obj.cc a.objects).length = a.objects.length ∧ (0 : Nat) + a.objects.length ≤ a.objects.length)) = true by simp)
        let t11 : Tp pr := .n .rows (show (List.map (fun x => List.map C.fz x) (List.take a.objects.length (List.drop (0 : Nat) (List.map Obj.cc a.objects)))) = List.map Obj.ce a.objects by simp)
        let t12 : Tp pr := .m (show (decide ((ints a.roots).length = a.roots.length ∧ (0 : Nat) + a.roots.length ≤ a.roots.length)) = true by simp)
        let t13 : Tp pr := .n .rows (show (List.map (fun x => List.map C.fz x) (List.take a.roots.length (List.drop (0 : Nat) (ints a.roots)))) = List.map intt a.roots by simp)
        let t14 : Tp pr := .m (show (decide ((List.map Obj.cc b.objects).length = b.objects.length ∧ (0 : Nat) + b.objects.length ≤ b.objects.length)) = true by simp)
        let t15 : Tp pr := .n .rows (show (List.map (fun x => List.map C.fz x) (List.take b.objects.length (List.drop (0 : Nat) (List.map Obj.cc b.objects)))) = List.map Obj.ce b.objects by simp)
        let t16 : Tp pr := .m (show (decide ((ints b.roots).length = b.roots.length ∧ (0 : Nat) + b.roots.length ≤ b.roots.length)) = true by simp)
        let t17 : Tp pr := .n .rows (show (List.map (fun x => List.map C.fz x) (List.take b.roots.length (List.drop (0 : Nat) (ints b.roots)))) = List.map intt b.roots by simp)
        let t27 : Tp pr := .m (show (decide ((List.map Obj.cc a.objects).length = a.objects.length ∧ (0 : Nat) + a.objects.length ≤ a.objects.length)) = true by simp)
        let t28 : Tp pr := .n .rows (show (List.map (fun x => List.map C.fz x) (List.take a.objects.length (List.drop (0 : Nat) (List.map Obj.cc a.objects)))) = List.map Obj.ce a.objects by simp)
        let t29 : Tp pr := .m (show (decide ((ints a.roots).length = a.roots.length ∧ (0 : Nat) + a.roots.length ≤ a.roots.length)) = true by simp)
        let t30 : Tp pr := .n .rows (show (List.map (fun x => List.map C.fz x) (List.take a.roots.length (List.drop (0 : Nat) (ints a.roots)))) = List.map intt a.roots by simp)
        let t31 : Tp pr := .m (show (decide ((List.map Obj.cc b.objects).length = b.objects.length ∧ (0 : Nat) + b.objects.length ≤ b.objects.length)) = true by simp)
        let t32 : Tp pr := .n .rows (show (List.map (fun x => List.map C.fz x) (List.take b.objects.length (List.drop (0 : Nat) (List.map Obj.cc b.objects)))) = List.map Obj.ce b.objects by simp)
        let t33 : Tp pr := .m (show (decide ((ints b.roots).length = b.roots.length ∧ (0 : Nat) + b.roots.length ≤ b.roots.length)) = true by simp)
        let t34 : Tp pr := .n .rows (show (List.map (fun x => List.map C.fz x) (List.take b.roots.length (List.drop (0 : Nat) (ints b.roots)))) = List.map intt b.roots by simp)
        let t43 : Tp pr := .m (show (decide ((List.map Obj.cc a.objects).length = a.objects.length ∧ (0 : Nat) + a.objects.length ≤ a.objects.length)) = true by simp)
        let t44 : Tp pr := .n .rows (show (List.map (fun x => List.map C.fz x) (List.take a.objects.length (List.drop (0 : Nat) (List.map Obj.cc a.objects)))) = List.map Obj.ce a.objects by simp)
        let t45 : Tp pr := .m (show (decide ((ints a.roots).length = a.roots.length ∧ (0 : Nat) + a.roots.length ≤ a.roots.length)) = true by simp)
        let t46 : Tp pr := .n .rows (show (List.map (fun x => List.map C.fz x) (List.take a.roots.length (List.drop (0 : Nat) (ints a.roots)))) = List.map intt a.roots by simp)
        let t47 : Tp pr := .m (show (decide ((List.map Obj.cc a.objects).length = a.objects.length ∧ (0 : Nat) + a.objects.length ≤ a.objects.length)) = true by simp)
        let t48 : Tp pr := .n .rows (show (List.map (fun x => List.map C.fz x) (List.take a.objects.length (List.drop (0 : Nat) (List.map Obj.cc a.objects)))) = List.map Obj.ce a.objects by simp)
        let t49 : Tp pr := .m (show (decide ((ints a.roots).length = a.roots.length ∧ (0 : Nat) + a.roots.length ≤ a.roots.length)) = true by simp)
        let t50 : Tp pr := .n .rows (show (List.map (fun x => List.map C.fz x) (List.take a.roots.length (List.drop (0 : Nat) (ints a.roots)))) = List.map intt a.roots by simp)
        let t60 : Tp pr := .m (show (decide ((List.map Obj.cc b.objects).length = b.objects.length ∧ (0 : Nat) + b.objects.length ≤ b.objects.length)) = true by simp)
        let t61 : Tp pr := .n .rows (show (List.map (fun x => List.map C.fz x) (List.take b.objects.length (List.drop (0 : Nat) (List.map Obj.cc b.objects)))) = List.map Obj.ce b.objects by simp)
        let t62 : Tp pr := .m (show (decide ((ints b.roots).length = b.roots.length ∧ (0 : Nat) + b.roots.length ≤ b.roots.length)) = true by simp)
        let t63 : Tp pr := .n .rows (show (List.map (fun x => List.map C.fz x) (List.take b.roots.length (List.drop (0 : Nat) (ints b.roots)))) = List.map intt b.roots by simp)
        let t64 : Tp pr := .m (show (decide ((List.map Obj.cc b.objects).length = b.objects.length ∧ (0 : Nat) + b.objects.length ≤ b.objects.length)) = true by simp)
        let t65 : Tp pr := .n .rows (show (List.map (fun x => List.map C.fz x) (List.take b.objects.length (List.drop (0 : Nat) (List.map Obj.cc b.objects)))) = List.map Obj.ce b.objects by simp)
        let t66 : Tp pr := .m (show (decide ((ints b.roots).length = b.roots.length ∧ (0 : Nat) + b.roots.length ≤ b.roots.length)) = true by simp)
        let t67 : Tp pr := .n .rows (show (List.map (fun x => List.map C.fz x) (List.take b.roots.length (List.drop (0 : Nat) (ints b.roots)))) = List.map intt b.roots by simp)
        exact .tp [.a (h0), t1, .a (g0), t3, .m (rfl : true = true), .a (ta), .m (rfl : true = true), .m (rfl : true = true), .a (tb), .m (rfl : true = true), t10, t11, t12, t13, t14, t15, t16, t17, .a (s1), .m (rfl : true = true), .m (rfl : true = true), .m (rfl : true = true), .m (rfl : true = true), .m (rfl : true = true), .m (rfl : true = true), .a (ta), .a (tb), t27, t28, t29, t30, t31, t32, t33, t34, .a (i1), .m (rfl : true = true), .b (rfl : false = false), .b (rfl : false = false), .m (rfl : true = true), .m (rfl : true = true), .a (ta), .m (rfl : true = true), t43, t44, t45, t46, t47, t48, t49, t50, .a (ea), .m (rfl : true = true), .m (rfl : true = true), .m (rfl : true = true), .b (rfl : false = false), .m (rfl : true = true), .m (rfl : true = true), .a (tb), .m (rfl : true = true), t60, t61, t62, t63, t64, t65, t66, t67, .a (eb), .m (rfl : true = true), .m (rfl : true = true), .m (rfl : true = true), .b (rfl : false = false)] (by kernel_rfl)
      · let t1 : Tp pr := .b (show (decide (szH a (1048576 : Int) < (0 : Int))) = false by (simp; omega))
        let t3 : Tp pr := .b (show (decide (szH b (szH a (1048576 : Int)) < (0 : Int))) = false by (simp; omega))
        let t10 : Tp pr := .m (show (decide ((List.map Obj.cc a.objects).length = a.objects.length ∧ (0 : Nat) + a.objects.length ≤ a.objects.length)) = true by simp)
        let t11 : Tp pr := .n .rows (show (List.map (fun x => List.map C.fz x) (List.take a.objects.length (List.drop (0 : Nat) (List.map Obj.cc a.objects)))) = List.map Obj.ce a.objects by simp)
        let t12 : Tp pr := .m (show (decide ((ints a.roots).length = a.roots.length ∧ (0 : Nat) + a.roots.length ≤ a.roots.length)) = true by simp)
        let t13 : Tp pr := .n .rows (show (List.map (fun x => List.map C.fz x) (List.take a.roots.length (List.drop (0 : Nat) (ints a.roots)))) = List.map intt a.roots by simp)
        let t14 : Tp pr := .m (show (decide ((List.map Obj.cc b.objects).length = b.objects.length ∧ (0 : Nat) + b.objects.length ≤ b.objects.length)) = true by simp)
        let t15 : Tp pr := .n .rows (show (List.map (fun x => List.map C.fz x) (List.take b.objects.length (List.drop (0 : Nat) (List.map Obj.cc b.objects)))) = List.map Obj.ce b.objects by simp)
        let t16 : Tp pr := .m (show (decide ((ints b.roots).length = b.roots.length ∧ (0 : Nat) + b.roots.length ≤ b.roots.length)) = true by simp)
        let t17 : Tp pr := .n .rows (show (List.map (fun x => List.map C.fz x) (List.take b.roots.length (List.drop (0 : Nat) (ints b.roots)))) = List.map intt b.roots by simp)
        let t27 : Tp pr := .m (show (decide ((List.map Obj.cc a.objects).length = a.objects.length ∧ (0 : Nat) + a.objects.length ≤ a.objects.length)) = true by simp)
        let t28 : Tp pr := .n .rows (show (List.map (fun x => List.map C.fz x) (List.take a.objects.length (List.drop (0 : Nat) (List.map Obj.cc a.objects)))) = List.map Obj.ce a.objects by simp)
        let t29 : Tp pr := .m (show (decide ((ints a.roots).length = a.roots.length ∧ (0 : Nat) + a.roots.length ≤ a.roots.length)) = true by simp)
        let t30 : Tp pr := .n .rows (show (List.map (fun x => List.map C.fz x) (List.take a.roots.length (List.drop (0 : Nat) (ints a.roots)))) = List.map intt a.roots by simp)
        let t31 : Tp pr := .m (show (decide ((List.map Obj.cc b.objects).length = b.objects.length ∧ (0 : Nat) + b.objects.length ≤ b.objects.length)) = true by simp)
        let t32 : Tp pr := .n .rows (show (List.map (fun x => List.map C.fz x) (List.take b.objects.length (List.drop (0 : Nat) (List.map Obj.cc b.objects)))) = List.map Obj.ce b.objects by simp)
        let t33 : Tp pr := .m (show (decide ((ints b.roots).length = b.roots.length ∧ (0 : Nat) + b.roots.length ≤ b.roots.length)) = true by simp)
        let t34 : Tp pr := .n .rows (show (List.map (fun x => List.map C.fz x) (List.take b.roots.length (List.drop (0 : Nat) (ints b.roots)))) = List.map intt b.roots by simp)
        let t43 : Tp pr := .m (show (decide ((List.map Obj.cc a.objects).length = a.objects.length ∧ (0 : Nat) + a.objects.length ≤ a.objects.length)) = true by simp)
        let t44 : Tp pr := .n .rows (show (List.map (fun x => List.map C.fz x) (List.take a.objects.length (List.drop (0 : Nat) (List.map Obj.cc a.objects)))) = List.map Obj.ce a.objects by simp)
        let t45 : Tp pr := .m (show (decide ((ints a.roots).length = a.roots.length ∧ (0 : Nat) + a.roots.length ≤ a.roots.length)) = true by simp)
        let t46 : Tp pr := .n .rows (show (List.map (fun x => List.map C.fz x) (List.take a.roots.length (List.drop (0 : Nat) (ints a.roots)))) = List.map intt a.roots by simp)
        let t47 : Tp pr := .m (show (decide ((List.map Obj.cc a.objects).length = a.objects.length ∧ (0 : Nat) + a.objects.length ≤ a.objects.length)) = true by simp)
        let t48 : Tp pr := .n .rows (show (List.map (fun x => List.map C.fz x) (List.take a.objects.length (List.drop (0 : Nat) (List.map Obj.cc a.objects)))) = List.map Obj.ce a.objects by simp)
        let t49 : Tp pr := .m (show (decide ((ints a.roots).length = a.roots.length ∧ (0 : Nat) + a.roots.length ≤ a.roots.length)) = true by simp)
        let t50 : Tp pr := .n .rows (show (List.map (fun x => List.map C.fz x) (List.take a.roots.length (List.drop (0 : Nat) (ints a.roots)))) = List.map intt a.roots by simp)
        let t60 : Tp pr := .m (show (decide ((List.map Obj.cc b.objects).length = b.objects.length ∧ (0 : Nat) + b.objects.length ≤ b.objects.length)) = true by simp)
        let t61 : Tp pr := .n .rows (show (List.map (fun x => List.map C.fz x) (List.take b.objects.length (List.drop (0 : Nat) (List.map Obj.cc b.objects)))) = List.map Obj.ce b.objects by simp)
        let t62 : Tp pr := .m (show (decide ((ints b.roots).length = b.roots.length ∧ (0 : Nat) + b.roots.length ≤ b.roots.length)) = true by simp)
        let t63 : Tp pr := .n .rows (show (List.map (fun x => List.map C.fz x) (List.take b.roots.length (List.drop (0 : Nat) (ints b.roots)))) = List.map intt b.roots by simp)
        let t64 : Tp pr := .m (show (decide ((List.map Obj.cc b.objects).length = b.objects.length ∧ (0 : Nat) + b.objects.length ≤ b.objects.length)) = true by simp)
        let t65 : Tp pr := .n .rows (show (List.map (fun x => List.map C.fz x) (List.take b.objects.length (List.drop (0 : Nat) (List.map Obj.cc b.objects)))) = List.map Obj.ce b.objects by simp)
        let t66 : Tp pr := .m (show (decide ((ints b.roots).length = b.roots.length ∧ (0 : Nat) + b.roots.length ≤ b.roots.length)) = true by simp)
        let t67 : Tp pr := .n .rows (show (List.map (fun x => List.map C.fz x) (List.take b.roots.length (List.drop (0 : Nat) (ints b.roots)))) = List.map intt b.roots by simp)
        exact .tp [.a (h0), t1, .a (g0), t3, .m (rfl : true = true), .a (ta), .m (rfl : true = true), .m (rfl : true = true), .a (tb), .m (rfl : true = true), t10, t11, t12, t13, t14, t15, t16, t17, .a (s1), .m (rfl : true = true), .m (rfl : true = true), .m (rfl : true = true), .m (rfl : true = true), .m (rfl : true = true), .m (rfl : true = true), .a (ta), .a (tb), t27, t28, t29, t30, t31, t32, t33, t34, .a (i1), .m (rfl : true = true), .b (rfl : false = false), .b (rfl : false = false), .m (rfl : true = true), .m (rfl : true = true), .a (ta), .m (rfl : true = true), t43, t44, t45, t46, t47, t48, t49, t50, .a (ea), .m (rfl : true = true), .m (rfl : true = true), .m (rfl : true = true), .b (rfl : false = false), .m (rfl : true = true), .m (rfl : true = true), .a (tb), .m (rfl : true = true), t60, t61, t62, t63, t64, t65, t66, t67, .a (eb), .m (rfl : true = true), .m (rfl : true = true), .m (rfl : true = true), .b (rfl : false = false)] (by kernel_rfl)
      · let t1 : Tp pr := .b (show (decide (szH a (1048576 : Int) < (0 : Int))) = false by (simp; omega))
        let t3 : Tp pr := .b (show (decide (szH b (szH a (1048576 : Int)) < (0 : Int))) = false by (simp; omega))
        let t10 : Tp pr := .m (show (decide ((List.map Obj.cc a.objects).length = a.objects.length ∧ (0 : Nat) + a.objects.length ≤ a.objects.length)) = true by simp)
        let t11 : Tp pr := .n .rows (show (List.map (fun x => List.map C.fz x) (List.take a.objects.length (List.drop (0 : Nat) (List.map Obj.cc a.objects)))) = List.map Obj.ce a.objects by simp)
        let t12 : Tp pr := .m (show (decide ((ints a.roots).length = a.roots.length ∧ (0 : Nat) + a.roots.length ≤ a.roots.length)) = true by simp)
        let t13 : Tp pr := .n .rows (show (List.map (fun x => List.map C.fz x) (List.take a.roots.length (List.drop (0 : Nat) (ints a.roots)))) = List.map intt a.roots by simp)
        let t14 : Tp pr := .m (show (decide ((List.map Obj.cc b.objects).length = b.objects.length ∧ (0 : Nat) + b.objects.length ≤ b.objects.length)) = true by simp)
        let t15 : Tp pr := .n .rows (show (List.map (fun x => List.map C.fz x) (List.take b.objects.length (List.drop (0 : Nat) (List.map Obj.cc b.objects)))) = List.map Obj.ce b.objects by simp)
        let t16 : Tp pr := .m (show (decide ((ints b.roots).length = b.roots.length ∧ (0 : Nat) + b.roots.length ≤ b.roots.length)) = true by simp)
        let t17 : Tp pr := .n .rows (show (List.map (fun x => List.map C.fz x) (List.take b.roots.length (List.drop (0 : Nat) (ints b.roots)))) = List.map intt b.roots by simp)
        let t27 : Tp pr := .m (show (decide ((List.map Obj.cc a.objects).length = a.objects.length ∧ (0 : Nat) + a.objects.length ≤ a.objects.length)) = true by simp)
        let t28 : Tp pr := .n .rows (show (List.map (fun x => List.map C.fz x) (List.take a.objects.length (List.drop (0 : Nat) (List.map Obj.cc a.objects)))) = List.map Obj.ce a.objects by simp)
        let t29 : Tp pr := .m (show (decide ((ints a.roots).length = a.roots.length ∧ (0 : Nat) + a.roots.length ≤ a.roots.length)) = true by simp)
        let t30 : Tp pr := .n .rows (show (List.map (fun x => List.map C.fz x) (List.take a.roots.length (List.drop (0 : Nat) (ints a.roots)))) = List.map intt a.roots by simp)
        let t31 : Tp pr := .m (show (decide ((List.map Obj.cc b.objects).length = b.objects.length ∧ (0 : Nat) + b.objects.length ≤ b.objects.length)) = true by simp)
        let t32 : Tp pr := .n .rows (show (List.map (fun x => List.map C.fz x) (List.take b.objects.length (List.drop (0 : Nat) (List.map Obj.cc b.objects)))) = List.map Obj.ce b.objects by simp)
        let t33 : Tp pr := .m (show (decide ((ints b.roots).length = b.roots.length ∧ (0 : Nat) + b.roots.length ≤ b.roots.length)) = true by simp)
        let t34 : Tp pr := .n .rows (show (List.map (fun x => List.map C.fz x) (List.take b.roots.length (List.drop (0 : Nat) (ints b.roots)))) = List.map intt b.roots by simp)
        let t43 : Tp pr := .m (show (decide ((List.map Obj.cc a.objects).length = a.objects.length ∧ (0 : Nat) + a.objects.length ≤ a.objects.length)) = true by simp)
        let t44 : Tp pr := .n .rows (show (List.map (fun x => List.map C.fz x) (List.take a.objects.length (List.drop (0 : Nat) (List.map Obj.cc a.objects)))) = List.map Obj.ce a.objects by simp)
        let t45 : Tp pr := .m (show (decide ((ints a.roots).length = a.roots.length ∧ (0 : Nat) + a.roots.length ≤ a.roots.length)) = true by simp)
        let t46 : Tp pr := .n .rows (show (List.map (fun x => List.map C.fz x) (List.take a.roots.length (List.drop (0 : Nat) (ints a.roots)))) = List.map intt a.roots by simp)
        let t47 : Tp pr := .m (show (decide ((List.map Obj.cc a.objects).length = a.objects.length ∧ (0 : Nat) + a.objects.length ≤ a.objects.length)) = true by simp)
        let t48 : Tp pr := .n .rows (show (List.map (fun x => List.map C.fz x) (List.take a.objects.length (List.drop (0 : Nat) (List.map Obj.cc a.objects)))) = List.map Obj.ce a.objects by simp)
        let t49 : Tp pr := .m (show (decide ((ints a.roots).length = a.roots.length ∧ (0 : Nat) + a.roots.length ≤ a.roots.length)) = true by simp)
        let t50 : Tp pr := .n .rows (show (List.map (fun x => List.map C.fz x) (List.take a.roots.length (List.drop (0 : Nat) (ints a.roots)))) = List.map intt a.roots by simp)
        let t60 : Tp pr := .m (show (decide ((List.map Obj.cc b.objects).length = b.objects.length ∧ (0 : Nat) + b.objects.length ≤ b.objects.length)) = true by simp)
        let t61 : Tp pr := .n .rows (show (List.map (fun x => List.map C.fz x) (List.take b.objects.length (List.drop (0 : Nat) (List.map Obj.cc b.objects)))) = List.map Obj.ce b.objects by simp)
        let t62 : Tp pr := .m (show (decide ((ints b.roots).length = b.roots.length ∧ (0 : Nat) + b.roots.length ≤ b.roots.length)) = true by simp)
        let t63 : Tp pr := .n .rows (show (List.map (fun x => List.map C.fz x) (List.take b.roots.length (List.drop (0 : Nat) (ints b.roots)))) = List.map intt b.roots by simp)
        let t64 : Tp pr := .m (show (decide ((List.map Obj.cc b.objects).length = b.objects.length ∧ (0 : Nat) + b.objects.length ≤ b.objects.length)) = true by simp)
        let t65 : Tp pr := .n .rows (show (List.map (fun x => List.map C.fz x) (List.take b.objects.length (List.drop (0 : Nat) (List.map Obj.cc b.objects)))) = List.map Obj.ce b.objects by simp)
        let t66 : Tp pr := .m (show (decide ((ints b.roots).length = b.roots.length ∧ (0 : Nat) + b.roots.length ≤ b.roots.length)) = true by simp)
        let t67 : Tp pr := .n .rows (show (List.map (fun x => List.map C.fz x) (List.take b.roots.length (List.drop (0 : Nat) (ints b.roots)))) = List.map intt b.roots by simp)
        exact .tp [.a (h0), t1, .a (g0), t3, .m (rfl : true = true), .a (ta), .m (rfl : true = true), .m (rfl : true = true), .a (tb), .m (rfl : true = true), t10, t11, t12, t13, t14, t15, t16, t17, .a (s1), .m (rfl : true = true), .m (rfl : true = true), .m (rfl : true = true), .m (rfl : true = true), .m (rfl : true = true), .m (rfl : true = true), .a (ta), .a (tb), t27, t28, t29, t30, t31, t32, t33, t34, .a (i1), .m (rfl : true = true), .b (rfl : false = false), .b (rfl : false = false), .m (rfl : true = true), .m (rfl : true = true), .a (ta), .m (rfl : true = true), t43, t44, t45, t46, t47, t48, t49, t50, .a (ea), .m (rfl : true = true), .m (rfl : true = true), .m (rfl : true = true), .b (rfl : false = false), .m (rfl : true = true), .m (rfl : true = true), .a (tb), .m (rfl : true = true), t60, t61, t62, t63, t64, t65, t66, t67, .a (eb), .m (rfl : true = true), .m (rfl : true = true), .m (rfl : true = true), .b (rfl : false = false)] (by kernel_rfl)
theorem law_ev (a : Hp) (ha : a.wf) (b : Hp) (hb : b.wf) : Ev pr (.call 3 [vs a.ce, vs b.ce] []) (.val (.t (.bool true)) []) :=
  law0_ev a b ha.1.1 (fun x hx => (ha.1.2 x hx).2.1) ha.2.1 hb.1.1 (fun x hx => (hb.1.2 x hx).2.1) hb.2.1
end Go.Ev
