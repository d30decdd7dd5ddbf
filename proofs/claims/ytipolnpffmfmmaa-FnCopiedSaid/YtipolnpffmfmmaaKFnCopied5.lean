import Derived.Test.YtipolnpffmfmmaaKFnCopied4
/- Copies of heaps. -/
namespace Go.Ev
set_option linter.unusedVariables false
set_option linter.unusedSimpArgs false
open Go.Proofs
set_option maxRecDepth 100000
set_option linter.unusedVariables false
set_option maxHeartbeats 4000000
attribute [local simp] ints_takeC
@[simp] theorem ints_flat9 (fl : Bool) (n : Nat) (l : List Int) : Ob.flat (.vec fl n (ints l)) = true := by simp [Ob.flat, ints, intc, C.flat, T.flat]
@[simp] theorem rep_flat9 (fl : Bool) (n m : Nat) (k : Int) : Ob.flat (.vec fl n (List.replicate m [C.t (.int .i64 k)])) = true := by simp [Ob.flat, C.flat, T.flat]
theorem namesOf_nil (N : Nat) : namesOf N [] = List.replicate N (-1) := by
  apply List.ext_getElem?
  intro j
  simp only [namesOf, List.getElem?_map, List.getElem?_replicate]
  by_cases hj : j < N
  · rw [List.getElem?_range hj, if_pos hj]; rfl
  · rw [List.getElem?_eq_none (by simpa using hj), if_neg hj]; rfl
def chM (h : Hp) (l : List Int) (rt : List Int) (outs : List Obj) : List Ob :=
  [.box [osq h.objects, isq h.roots], .box [.t .nils, .t .nils], .box [.ptr 0 1 0 0, .vec 4 l.length 1 0 l.length, .vec 5 h.objects.length 1 0 h.objects.length], .box [.vec 6 outs.length 2 0 outs.length, .vec 7 rt.length 1 0 rt.length],
   .vec true 1 (ints l), .vec true 1 (ints (namesOf h.objects.length l)), .vec outs.isEmpty 2 (outs.map Obj.cc), .vec true 1 (ints rt)]
def chE (h : Hp) (l : List Int) (rt : List Int) (outs : List Obj) : List Ob :=
  [.box [.t .nils, .t .nils], .box [.ptr 3 1 0 0, .vec 4 l.length 1 0 l.length, .vec 5 h.objects.length 1 0 h.objects.length], .box [.vec 6 outs.length 2 0 outs.length, .vec 7 rt.length 1 0 rt.length],
   .box [osq h.objects, isq h.roots], .vec true 1 (ints l), .vec true 1 (ints (namesOf h.objects.length l)), .vec outs.isEmpty 2 (outs.map Obj.cc), .vec true 1 (ints rt)]
theorem outs_app (outs : List Obj) (o : Obj) : (outs ++ [o]).map Obj.cc = (outs.map Obj.cc).append [[C.t (.int .i64 o.mark), C.row 1 (o.links.map intt)]] := by simp [Obj.cc]
theorem outs_emp (outs : List Obj) (o : Obj) : (outs ++ [o]).isEmpty = false := by simp
theorem ints_get9 {l : List Int} {i : Nat} {k : Int} (h : l[i]? = some k) : (ints l)[i]? = some [C.t (.int .i64 k)] := by simp [ints, h, intc]
theorem obs_get9 {h : Hp} {k : Int} (h0 : 0 ≤ k) (h1 : k < h.objects.length) : lkp (h.objects.map Obj.ce) k = some (objAt h k).ce := by
  obtain ⟨n, rfl⟩ : ∃ n : Nat, k = n := ⟨k.toNat, by omega⟩
  have hn : n < h.objects.length := by omega
  simp [objAt, List.getD_eq_getElem?_getD, hn, lkp]
theorem copyL_ev (h : Hp) (hg : GoodH h) (rt : List Int) : ∀ (n i : Nat) (l : List Int) (outs : List Obj), done h n i l → outs.length = i → i ≤ l.length → l.Nodup → (∀ x ∈ l, 0 ≤ x ∧ x < h.objects.length) →
    Ev pr (.loop (lq pr 56 0) (at_ [(1, .ptr 0 1 0 0), (2, .ptr 1 1 0 0), (4, .ptr 2 1 0 0), (5, .ptr 3 1 0 0), (6, i64 i)] (chM h l rt outs) 0))
      (.exit 0 (at_ [(2, .ptr 0 1 0 0), (4, .ptr 1 1 0 0), (5, .ptr 2 1 0 0)] (chE h (copyGo h n i l).1 rt (outs ++ (copyGo h n i l).2)) 0))
  | 0, i, l, outs, hd, ho, hi, hn, hb => by
    have hd' : l.length ≤ i := hd
    have hl := nodup_len _ l hn hb
    have hc : copyGo h 0 i l = (l, []) := rfl
    rw [hc]
    have he : l.length = i := by omega
    have h1 := hg.objs
    let t1 : Tp pr := .b (show (decide ((↑i : Int) < (↑l.length : Int))) = false by (simp; omega))
    exact .tpe [.i (rfl : ((↑l.length : Int)) = _), t1] (Out.exit (0 : Nat) (at_ [((2 : Nat), V.ptr (0 : Nat) (1 : Nat) (0 : Nat) (0 : Nat)), ((4 : Nat), V.ptr (1 : Nat) (1 : Nat) (0 : Nat) (0 : Nat)), ((5 : Nat), V.ptr (2 : Nat) (1 : Nat) (0 : Nat) (0 : Nat))] [Ob.box [V.t T.nils, V.t T.nils], Ob.box [V.ptr (3 : Nat) (1 : Nat) (0 : Nat) (0 : Nat), V.vec (4 : Nat) l.length (1 : Nat) (0 : Nat) l.length, V.vec (5 : Nat) h.objects.length (1 : Nat) (0 : Nat) h.objects.length], Ob.box [V.vec (6 : Nat) outs.length (2 : Nat) (0 : Nat) outs.length, V.vec (7 : Nat) rt.length (1 : Nat) (0 : Nat) rt.length], Ob.box [V.t (T.seq (2 : Nat) (List.map Obj.ce h.objects)), V.t (T.seq (1 : Nat) (List.map intt h.roots))], Ob.vec true (1 : Nat) (ints l), Ob.vec true (1 : Nat) (ints (namesOf h.objects.length l)), Ob.vec outs.isEmpty (2 : Nat) (List.map Obj.cc outs), Ob.vec true (1 : Nat) (ints rt)] (0 : Nat))) (by kernel_rfl) ((((((((congrArg (fun x => Out.exit (0 : Nat) (at_ [((2 : Nat), V.ptr (0 : Nat) (1 : Nat) (0 : Nat) (0 : Nat)), ((4 : Nat), V.ptr (1 : Nat) (1 : Nat) (0 : Nat) (0 : Nat)), ((5 : Nat), V.ptr (2 : Nat) (1 : Nat) (0 : Nat) (0 : Nat))] [Ob.box [V.t T.nils, V.t T.nils], Ob.box [V.ptr (3 : Nat) (1 : Nat) (0 : Nat) (0 : Nat), V.vec (4 : Nat) x (1 : Nat) (0 : Nat) l.length, V.vec (5 : Nat) h.objects.length (1 : Nat) (0 : Nat) h.objects.length], Ob.box [V.vec (6 : Nat) outs.length (2 : Nat) (0 : Nat) outs.length, V.vec (7 : Nat) rt.length (1 : Nat) (0 : Nat) rt.length], Ob.box [V.t (T.seq (2 : Nat) (List.map Obj.ce h.objects)), V.t (T.seq (1 : Nat) (List.map intt h.roots))], Ob.vec true (1 : Nat) (ints l), Ob.vec true (1 : Nat) (ints (namesOf h.objects.length l)), Ob.vec outs.isEmpty (2 : Nat) (List.map Obj.cc outs), Ob.vec true (1 : Nat) (ints rt)] (0 : Nat))) (show (l.length) = ((l, []).fst.length) by simp)).trans (congrArg (fun x => Out.exit (0 : Nat) (at_ [((2 : Nat), V.ptr (0 : Nat) (1 : Nat) (0 : Nat) (0 : Nat)), ((4 : Nat), V.ptr (1 : Nat) (1 : Nat) (0 : Nat) (0 : Nat)), ((5 : Nat), V.ptr (2 : Nat) (1 : Nat) (0 : Nat) (0 : Nat))] [Ob.box [V.t T.nils, V.t T.nils], Ob.box [V.ptr (3 : Nat) (1 : Nat) (0 : Nat) (0 : Nat), V.vec (4 : Nat) (l, []).fst.length (1 : Nat) (0 : Nat) x, V.vec (5 : Nat) h.objects.length (1 : Nat) (0 : Nat) h.objects.length], Ob.box [V.vec (6 : Nat) outs.length (2 : Nat) (0 : Nat) outs.length, V.vec (7 : Nat) rt.length (1 : Nat) (0 : Nat) rt.length], Ob.box [V.t (T.seq (2 : Nat) (List.map Obj.ce h.objects)), V.t (T.seq (1 : Nat) (List.map intt h.roots))], Ob.vec true (1 : Nat) (ints l), Ob.vec true (1 : Nat) (ints (namesOf h.objects.length l)), Ob.vec outs.isEmpty (2 : Nat) (List.map Obj.cc outs), Ob.vec true (1 : Nat) (ints rt)] (0 : Nat))) (show (l.length) = ((l, []).fst.length) by simp))).trans (congrArg (fun x => Out.exit (0 : Nat) (at_ [((2 : Nat), V.ptr (0 : Nat) (1 : Nat) (0 : Nat) (0 : Nat)), ((4 : Nat), V.ptr (1 : Nat) (1 : Nat) (0 : Nat) (0 : Nat)), ((5 : Nat), V.ptr (2 : Nat) (1 : Nat) (0 : Nat) (0 : Nat))] [Ob.box [V.t T.nils, V.t T.nils], Ob.box [V.ptr (3 : Nat) (1 : Nat) (0 : Nat) (0 : Nat), V.vec (4 : Nat) (l, []).fst.length (1 : Nat) (0 : Nat) (l, []).fst.length, V.vec (5 : Nat) h.objects.length (1 : Nat) (0 : Nat) h.objects.length], Ob.box [V.vec (6 : Nat) x (2 : Nat) (0 : Nat) outs.length, V.vec (7 : Nat) rt.length (1 : Nat) (0 : Nat) rt.length], Ob.box [V.t (T.seq (2 : Nat) (List.map Obj.ce h.objects)), V.t (T.seq (1 : Nat) (List.map intt h.roots))], Ob.vec true (1 : Nat) (ints l), Ob.vec true (1 : Nat) (ints (namesOf h.objects.length l)), Ob.vec outs.isEmpty (2 : Nat) (List.map Obj.cc outs), Ob.vec true (1 : Nat) (ints rt)] (0 : Nat))) (show (outs.length) = ((outs ++ (l, []).snd).length) by simp))).trans (congrArg (fun x => Out.exit (0 : Nat) (at_ [((2 : Nat), V.ptr (0 : Nat) (1 : Nat) (0 : Nat) (0 : Nat)), ((4 : Nat), V.ptr (1 : Nat) (1 : Nat) (0 : Nat) (0 : Nat)), ((5 : Nat), V.ptr (2 : Nat) (1 : Nat) (0 : Nat) (0 : Nat))] [Ob.box [V.t T.nils, V.t T.nils], Ob.box [V.ptr (3 : Nat) (1 : Nat) (0 : Nat) (0 : Nat), V.vec (4 : Nat) (l, []).fst.length (1 : Nat) (0 : Nat) (l, []).fst.length, V.vec (5 : Nat) h.objects.length (1 : Nat) (0 : Nat) h.objects.length], Ob.box [V.vec (6 : Nat) (outs ++ (l, []).snd).length (2 : Nat) (0 : Nat) x, V.vec (7 : Nat) rt.length (1 : Nat) (0 : Nat) rt.length], Ob.box [V.t (T.seq (2 : Nat) (List.map Obj.ce h.objects)), V.t (T.seq (1 : Nat) (List.map intt h.roots))], Ob.vec true (1 : Nat) (ints l), Ob.vec true (1 : Nat) (ints (namesOf h.objects.length l)), Ob.vec outs.isEmpty (2 : Nat) (List.map Obj.cc outs), Ob.vec true (1 : Nat) (ints rt)] (0 : Nat))) (show (outs.length) = ((outs ++ (l, []).snd).length) by simp))).trans (congrArg (fun x => Out.exit (0 : Nat) (at_ [((2 : Nat), V.ptr (0 : Nat) (1 : Nat) (0 : Nat) (0 : Nat)), ((4 : Nat), V.ptr (1 : Nat) (1 : Nat) (0 : Nat) (0 : Nat)), ((5 : Nat), V.ptr (2 : Nat) (1 : Nat) (0 : Nat) (0 : Nat))] [Ob.box [V.t T.nils, V.t T.nils], Ob.box [V.ptr (3 : Nat) (1 : Nat) (0 : Nat) (0 : Nat), V.vec (4 : Nat) (l, []).fst.length (1 : Nat) (0 : Nat) (l, []).fst.length, V.vec (5 : Nat) h.objects.length (1 : Nat) (0 : Nat) h.objects.length], Ob.box [V.vec (6 : Nat) (outs ++ (l, []).snd).length (2 : Nat) (0 : Nat) (outs ++ (l, []).snd).length, V.vec (7 : Nat) rt.length (1 : Nat) (0 : Nat) rt.length], Ob.box [V.t (T.seq (2 : Nat) (List.map Obj.ce h.objects)), V.t (T.seq (1 : Nat) (List.map intt h.roots))], Ob.vec true (1 : Nat) x, Ob.vec true (1 : Nat) (ints (namesOf h.objects.length l)), Ob.vec outs.isEmpty (2 : Nat) (List.map Obj.cc outs), Ob.vec true (1 : Nat) (ints rt)] (0 : Nat))) (show (ints l) = (ints (l, []).fst) by simp))).trans (congrArg (fun x => Out.exit (0 : Nat) (at_ [((2 : Nat), V.ptr (0 : Nat) (1 : Nat) (0 : Nat) (0 : Nat)), ((4 : Nat), V.ptr (1 : Nat) (1 : Nat) (0 : Nat) (0 : Nat)), ((5 : Nat), V.ptr (2 : Nat) (1 : Nat) (0 : Nat) (0 : Nat))] [Ob.box [V.t T.nils, V.t T.nils], Ob.box [V.ptr (3 : Nat) (1 : Nat) (0 : Nat) (0 : Nat), V.vec (4 : Nat) (l, []).fst.length (1 : Nat) (0 : Nat) (l, []).fst.length, V.vec (5 : Nat) h.objects.length (1 : Nat) (0 : Nat) h.objects.length], Ob.box [V.vec (6 : Nat) (outs ++ (l, []).snd).length (2 : Nat) (0 : Nat) (outs ++ (l, []).snd).length, V.vec (7 : Nat) rt.length (1 : Nat) (0 : Nat) rt.length], Ob.box [V.t (T.seq (2 : Nat) (List.map Obj.ce h.objects)), V.t (T.seq (1 : Nat) (List.map intt h.roots))], Ob.vec true (1 : Nat) (ints (l, []).fst), Ob.vec true (1 : Nat) x, Ob.vec outs.isEmpty (2 : Nat) (List.map Obj.cc outs), Ob.vec true (1 : Nat) (ints rt)] (0 : Nat))) (show (ints (namesOf h.objects.length l)) = (ints (namesOf h.objects.length (l, []).fst)) by simp))).trans (congrArg (fun x => Out.exit (0 : Nat) (at_ [((2 : Nat), V.ptr (0 : Nat) (1 : Nat) (0 : Nat) (0 : Nat)), ((4 : Nat), V.ptr (1 : Nat) (1 : Nat) (0 : Nat) (0 : Nat)), ((5 : Nat), V.ptr (2 : Nat) (1 : Nat) (0 : Nat) (0 : Nat))] [Ob.box [V.t T.nils, V.t T.nils], Ob.box [V.ptr (3 : Nat) (1 : Nat) (0 : Nat) (0 : Nat), V.vec (4 : Nat) (l, []).fst.length (1 : Nat) (0 : Nat) (l, []).fst.length, V.vec (5 : Nat) h.objects.length (1 : Nat) (0 : Nat) h.objects.length], Ob.box [V.vec (6 : Nat) (outs ++ (l, []).snd).length (2 : Nat) (0 : Nat) (outs ++ (l, []).snd).length, V.vec (7 : Nat) rt.length (1 : Nat) (0 : Nat) rt.length], Ob.box [V.t (T.seq (2 : Nat) (List.map Obj.ce h.objects)), V.t (T.seq (1 : Nat) (List.map intt h.roots))], Ob.vec true (1 : Nat) (ints (l, []).fst), Ob.vec true (1 : Nat) (ints (namesOf h.objects.length (l, []).fst)), Ob.vec x (2 : Nat) (List.map Obj.cc outs), Ob.vec true (1 : Nat) (ints rt)] (0 : Nat))) (show (outs.isEmpty) = ((outs ++ (l, []).snd).isEmpty) by simp))).trans (congrArg (fun x => Out.exit (0 : Nat) (at_ [((2 : Nat), V.ptr (0 : Nat) (1 : Nat) (0 : Nat) (0 : Nat)), ((4 : Nat), V.ptr (1 : Nat) (1 : Nat) (0 : Nat) (0 : Nat)), ((5 : Nat), V.ptr (2 : Nat) (1 : Nat) (0 : Nat) (0 : Nat))] [Ob.box [V.t T.nils, V.t T.nils], Ob.box [V.ptr (3 : Nat) (1 : Nat) (0 : Nat) (0 : Nat), V.vec (4 : Nat) (l, []).fst.length (1 : Nat) (0 : Nat) (l, []).fst.length, V.vec (5 : Nat) h.objects.length (1 : Nat) (0 : Nat) h.objects.length], Ob.box [V.vec (6 : Nat) (outs ++ (l, []).snd).length (2 : Nat) (0 : Nat) (outs ++ (l, []).snd).length, V.vec (7 : Nat) rt.length (1 : Nat) (0 : Nat) rt.length], Ob.box [V.t (T.seq (2 : Nat) (List.map Obj.ce h.objects)), V.t (T.seq (1 : Nat) (List.map intt h.roots))], Ob.vec true (1 : Nat) (ints (l, []).fst), Ob.vec true (1 : Nat) (ints (namesOf h.objects.length (l, []).fst)), Ob.vec (outs ++ (l, []).snd).isEmpty (2 : Nat) x, Ob.vec true (1 : Nat) (ints rt)] (0 : Nat))) (show (List.map Obj.cc outs) = (List.map Obj.cc (outs ++ (l, []).snd)) by simp)))
  | n + 1, i, l, outs, hd, ho, hi, hn, hb => by
    have hl := nodup_len _ l hn hb
    have h1 := hg.objs
    cases hk : l[i]? with
    | none =>
      have he : l.length ≤ i := List.getElem?_eq_none_iff.1 hk
      have he : l.length = i := by omega
      have hc : copyGo h (n + 1) i l = (l, []) := by rw [copyGo, hk]
      rw [hc]
      let t1 : Tp pr := .b (show (decide ((↑i : Int) < (↑l.length : Int))) = false by (simp; omega))
      exact .tpe [.i (rfl : ((↑l.length : Int)) = _), t1] (Out.exit (0 : Nat) (at_ [((2 : Nat), V.ptr (0 : Nat) (1 : Nat) (0 : Nat) (0 : Nat)), ((4 : Nat), V.ptr (1 : Nat) (1 : Nat) (0 : Nat) (0 : Nat)), ((5 : Nat), V.ptr (2 : Nat) (1 : Nat) (0 : Nat) (0 : Nat))] [Ob.box [V.t T.nils, V.t T.nils], Ob.box [V.ptr (3 : Nat) (1 : Nat) (0 : Nat) (0 : Nat), V.vec (4 : Nat) l.length (1 : Nat) (0 : Nat) l.length, V.vec (5 : Nat) h.objects.length (1 : Nat) (0 : Nat) h.objects.length], Ob.box [V.vec (6 : Nat) outs.length (2 : Nat) (0 : Nat) outs.length, V.vec (7 : Nat) rt.length (1 : Nat) (0 : Nat) rt.length], Ob.box [V.t (T.seq (2 : Nat) (List.map Obj.ce h.objects)), V.t (T.seq (1 : Nat) (List.map intt h.roots))], Ob.vec true (1 : Nat) (ints l), Ob.vec true (1 : Nat) (ints (namesOf h.objects.length l)), Ob.vec outs.isEmpty (2 : Nat) (List.map Obj.cc outs), Ob.vec true (1 : Nat) (ints rt)] (0 : Nat))) (by kernel_rfl) ((((((((congrArg (fun x => Out.exit (0 : Nat) (at_ [((2 : Nat), V.ptr (0 : Nat) (1 : Nat) (0 : Nat) (0 : Nat)), ((4 : Nat), V.ptr (1 : Nat) (1 : Nat) (0 : Nat) (0 : Nat)), ((5 : Nat), V.ptr (2 : Nat) (1 : Nat) (0 : Nat) (0 : Nat))] [Ob.box [V.t T.nils, V.t T.nils], Ob.box [V.ptr (3 : Nat) (1 : Nat) (0 : Nat) (0 : Nat), V.vec (4 : Nat) x (1 : Nat) (0 : Nat) l.length, V.vec (5 : Nat) h.objects.length (1 : Nat) (0 : Nat) h.objects.length], Ob.box [V.vec (6 : Nat) outs.length (2 : Nat) (0 : Nat) outs.length, V.vec (7 : Nat) rt.length (1 : Nat) (0 : Nat) rt.length], Ob.box [V.t (T.seq (2 : Nat) (List.map Obj.ce h.objects)), V.t (T.seq (1 : Nat) (List.map intt h.roots))], Ob.vec true (1 : Nat) (ints l), Ob.vec true (1 : Nat) (ints (namesOf h.objects.length l)), Ob.vec outs.isEmpty (2 : Nat) (List.map Obj.cc outs), Ob.vec true (1 : Nat) (ints rt)] (0 : Nat))) (show (l.length) = ((l, []).fst.length) by simp)).trans (congrArg (fun x => Out.exit (0 : Nat) (at_ [((2 : Nat), V.ptr (0 : Nat) (1 : Nat) (0 : Nat) (0 : Nat)), ((4 : Nat), V.ptr (1 : Nat) (1 : Nat) (0 : Nat) (0 : Nat)), ((5 : Nat), V.ptr (2 : Nat) (1 : Nat) (0 : Nat) (0 : Nat))] [Ob.box [V.t T.nils, V.t T.nils], Ob.box [V.ptr (3 : Nat) (1 : Nat) (0 : Nat) (0 : Nat), V.vec (4 : Nat) (l, []).fst.length (1 : Nat) (0 : Nat) x, V.vec (5 : Nat) h.objects.length (1 : Nat) (0 : Nat) h.objects.length], Ob.box [V.vec (6 : Nat) outs.length (2 : Nat) (0 : Nat) outs.length, V.vec (7 : Nat) rt.length (1 : Nat) (0 : Nat) rt.length], Ob.box [V.t (T.seq (2 : Nat) (List.map Obj.ce h.objects)), V.t (T.seq (1 : Nat) (List.map intt h.roots))], Ob.vec true (1 : Nat) (ints l), Ob.vec true (1 : Nat) (ints (namesOf h.objects.length l)), Ob.vec outs.isEmpty (2 : Nat) (List.map Obj.cc outs), Ob.vec true (1 : Nat) (ints rt)] (0 : Nat))) (show (l.length) = ((l, []).fst.length) by simp))).trans (congrArg (fun x => Out.exit (0 : Nat) (at_ [((2 : Nat), V.ptr (0 : Nat) (1 : Nat) (0 : Nat) (0 : Nat)), ((4 : Nat), V.ptr (1 : Nat) (1 : Nat) (0 : Nat) (0 : Nat)), ((5 : Nat), V.ptr (2 : Nat) (1 : Nat) (0 : Nat) (0 : Nat))] [Ob.box [V.t T.nils, V.t T.nils], Ob.box [V.ptr (3 : Nat) (1 : Nat) (0 : Nat) (0 : Nat), V.vec (4 : Nat) (l, []).fst.length (1 : Nat) (0 : Nat) (l, []).fst.length, V.vec (5 : Nat) h.objects.length (1 : Nat) (0 : Nat) h.objects.length], Ob.box [V.vec (6 : Nat) x (2 : Nat) (0 : Nat) outs.length, V.vec (7 : Nat) rt.length (1 : Nat) (0 : Nat) rt.length], Ob.box [V.t (T.seq (2 : Nat) (List.map Obj.ce h.objects)), V.t (T.seq (1 : Nat) (List.map intt h.roots))], Ob.vec true (1 : Nat) (ints l), Ob.vec true (1 : Nat) (ints (namesOf h.objects.length l)), Ob.vec outs.isEmpty (2 : Nat) (List.map Obj.cc outs), Ob.vec true (1 : Nat) (ints rt)] (0 : Nat))) (show (outs.length) = ((outs ++ (l, []).snd).length) by simp))).trans (congrArg (fun x => Out.exit (0 : Nat) (at_ [((2 : Nat), V.ptr (0 : Nat) (1 : Nat) (0 : Nat) (0 : Nat)), ((4 : Nat), V.ptr (1 : Nat) (1 : Nat) (0 : Nat) (0 : Nat)), ((5 : Nat), V.ptr (2 : Nat) (1 : Nat) (0 : Nat) (0 : Nat))] [Ob.box [V.t T.nils, V.t T.nils], Ob.box [V.ptr (3 : Nat) (1 : Nat) (0 : Nat) (0 : Nat), V.vec (4 : Nat) (l, []).fst.length (1 : Nat) (0 : Nat) (l, []).fst.length, V.vec (5 : Nat) h.objects.length (1 : Nat) (0 : Nat) h.objects.length], Ob.box [V.vec (6 : Nat) (outs ++ (l, []).snd).length (2 : Nat) (0 : Nat) x, V.vec (7 : Nat) rt.length (1 : Nat) (0 : Nat) rt.length], Ob.box [V.t (T.seq (2 : Nat) (List.map Obj.ce h.objects)), V.t (T.seq (1 : Nat) (List.map intt h.roots))], Ob.vec true (1 : Nat) (ints l), Ob.vec true (1 : Nat) (ints (namesOf h.objects.length l)), Ob.vec outs.isEmpty (2 : Nat) (List.map Obj.cc outs), Ob.vec true (1 : Nat) (ints rt)] (0 : Nat))) (show (outs.length) = ((outs ++ (l, []).snd).length) by simp))).trans (congrArg (fun x => Out.exit (0 : Nat) (at_ [((2 : Nat), V.ptr (0 : Nat) (1 : Nat) (0 : Nat) (0 : Nat)), ((4 : Nat), V.ptr (1 : Nat) (1 : Nat) (0 : Nat) (0 : Nat)), ((5 : Nat), V.ptr (2 : Nat) (1 : Nat) (0 : Nat) (0 : Nat))] [Ob.box [V.t T.nils, V.t T.nils], Ob.box [V.ptr (3 : Nat) (1 : Nat) (0 : Nat) (0 : Nat), V.vec (4 : Nat) (l, []).fst.length (1 : Nat) (0 : Nat) (l, []).fst.length, V.vec (5 : Nat) h.objects.length (1 : Nat) (0 : Nat) h.objects.length], Ob.box [V.vec (6 : Nat) (outs ++ (l, []).snd).length (2 : Nat) (0 : Nat) (outs ++ (l, []).snd).length, V.vec (7 : Nat) rt.length (1 : Nat) (0 : Nat) rt.length], Ob.box [V.t (T.seq (2 : Nat) (List.map Obj.ce h.objects)), V.t (T.seq (1 : Nat) (List.map intt h.roots))], Ob.vec true (1 : Nat) x, Ob.vec true (1 : Nat) (ints (namesOf h.objects.length l)), Ob.vec outs.isEmpty (2 : Nat) (List.map Obj.cc outs), Ob.vec true (1 : Nat) (ints rt)] (0 : Nat))) (show (ints l) = (ints (l, []).fst) by simp))).trans (congrArg (fun x => Out.exit (0 : Nat) (at_ [((2 : Nat), V.ptr (0 : Nat) (1 : Nat) (0 : Nat) (0 : Nat)), ((4 : Nat), V.ptr (1 : Nat) (1 : Nat) (0 : Nat) (0 : Nat)), ((5 : Nat), V.ptr (2 : Nat) (1 : Nat) (0 : Nat) (0 : Nat))] [Ob.box [V.t T.nils, V.t T.nils], Ob.box [V.ptr (3 : Nat) (1 : Nat) (0 : Nat) (0 : Nat), V.vec (4 : Nat) (l, []).fst.length (1 : Nat) (0 : Nat) (l, []).fst.length, V.vec (5 : Nat) h.objects.length (1 : Nat) (0 : Nat) h.objects.length], Ob.box [V.vec (6 : Nat) (outs ++ (l, []).snd).length (2 : Nat) (0 : Nat) (outs ++ (l, []).snd).length, V.vec (7 : Nat) rt.length (1 : Nat) (0 : Nat) rt.length], Ob.box [V.t (T.seq (2 : Nat) (List.map Obj.ce h.objects)), V.t (T.seq (1 : Nat) (List.map intt h.roots))], Ob.vec true (1 : Nat) (ints (l, []).fst), Ob.vec true (1 : Nat) x, Ob.vec outs.isEmpty (2 : Nat) (List.map Obj.cc outs), Ob.vec true (1 : Nat) (ints rt)] (0 : Nat))) (show (ints (namesOf h.objects.length l)) = (ints (namesOf h.objects.length (l, []).fst)) by simp))).trans (congrArg (fun x => Out.exit (0 : Nat) (at_ [((2 : Nat), V.ptr (0 : Nat) (1 : Nat) (0 : Nat) (0 : Nat)), ((4 : Nat), V.ptr (1 : Nat) (1 : Nat) (0 : Nat) (0 : Nat)), ((5 : Nat), V.ptr (2 : Nat) (1 : Nat) (0 : Nat) (0 : Nat))] [Ob.box [V.t T.nils, V.t T.nils], Ob.box [V.ptr (3 : Nat) (1 : Nat) (0 : Nat) (0 : Nat), V.vec (4 : Nat) (l, []).fst.length (1 : Nat) (0 : Nat) (l, []).fst.length, V.vec (5 : Nat) h.objects.length (1 : Nat) (0 : Nat) h.objects.length], Ob.box [V.vec (6 : Nat) (outs ++ (l, []).snd).length (2 : Nat) (0 : Nat) (outs ++ (l, []).snd).length, V.vec (7 : Nat) rt.length (1 : Nat) (0 : Nat) rt.length], Ob.box [V.t (T.seq (2 : Nat) (List.map Obj.ce h.objects)), V.t (T.seq (1 : Nat) (List.map intt h.roots))], Ob.vec true (1 : Nat) (ints (l, []).fst), Ob.vec true (1 : Nat) (ints (namesOf h.objects.length (l, []).fst)), Ob.vec x (2 : Nat) (List.map Obj.cc outs), Ob.vec true (1 : Nat) (ints rt)] (0 : Nat))) (show (outs.isEmpty) = ((outs ++ (l, []).snd).isEmpty) by simp))).trans (congrArg (fun x => Out.exit (0 : Nat) (at_ [((2 : Nat), V.ptr (0 : Nat) (1 : Nat) (0 : Nat) (0 : Nat)), ((4 : Nat), V.ptr (1 : Nat) (1 : Nat) (0 : Nat) (0 : Nat)), ((5 : Nat), V.ptr (2 : Nat) (1 : Nat) (0 : Nat) (0 : Nat))] [Ob.box [V.t T.nils, V.t T.nils], Ob.box [V.ptr (3 : Nat) (1 : Nat) (0 : Nat) (0 : Nat), V.vec (4 : Nat) (l, []).fst.length (1 : Nat) (0 : Nat) (l, []).fst.length, V.vec (5 : Nat) h.objects.length (1 : Nat) (0 : Nat) h.objects.length], Ob.box [V.vec (6 : Nat) (outs ++ (l, []).snd).length (2 : Nat) (0 : Nat) (outs ++ (l, []).snd).length, V.vec (7 : Nat) rt.length (1 : Nat) (0 : Nat) rt.length], Ob.box [V.t (T.seq (2 : Nat) (List.map Obj.ce h.objects)), V.t (T.seq (1 : Nat) (List.map intt h.roots))], Ob.vec true (1 : Nat) (ints (l, []).fst), Ob.vec true (1 : Nat) (ints (namesOf h.objects.length (l, []).fst)), Ob.vec (outs ++ (l, []).snd).isEmpty (2 : Nat) x, Ob.vec true (1 : Nat) (ints rt)] (0 : Nat))) (show (List.map Obj.cc outs) = (List.map Obj.cc (outs ++ (l, []).snd)) by simp)))
    | some k =>
      have hlt : i < l.length := (List.getElem?_eq_some_iff.1 hk).1
      have hkb := hb k (List.mem_of_getElem? hk)
      have hm := objAt_mem hkb.1 hkb.2
      have hc : copyGo h (n + 1) i l = ((copyGo h n (i + 1) (nameGo l (objAt h k).links).1).1, ⟨(objAt h k).mark, (nameGo l (objAt h k).links).2⟩ :: (copyGo h n (i + 1) (nameGo l (objAt h k).links).1).2) := by rw [copyGo, hk]
      have hd' : done h n (i + 1) (pushAll l (objAt h k).links) := by
        unfold done at hd
        rw [hk] at hd
        exact hd
      have hlk := hg.links _ hm
      have hlm := hg.llen _ hm
      have g1 := ints_get9 hk
      have g2 := obs_get9 hkb.1 hkb.2
      have c1 := all_ev h h.objects.length h1 (objAt h k).links l (by omega) (fun x hx => (hlk x hx).2) (by omega) (fun x hx => (hb x hx).1)
      have ih := copyL_ev h hg rt n (i + 1) (nameGo l (objAt h k).links).1 (outs ++ [⟨(objAt h k).mark, (nameGo l (objAt h k).links).2⟩])
        (by rw [nameGo_order]; exact hd') (by simp [ho]) (by have := nameGo_ge (objAt h k).links l; omega)
        (by rw [nameGo_order]; exact pushAll_nodup _ _ hn) (by rw [nameGo_order]; exact pushAll_bd _ _ hb fun x hx => (hlk x hx).2)
      rw [hc]
      simp only [chM, outs_app, outs_emp, List.length_append, List.length_singleton] at ih
      let t1 : Tp pr := .b (show (decide ((↑i : Int) < (↑l.length : Int))) = true by (simp; omega))
      let t7 : Tp pr := .m (show (decide ((0 : Int) ≤ (↑i : Int) ∧ (↑i : Int).toNat < l.length)) = true by simp [*])
      let t8 : Tp pr := .c (show ((0 : Nat) + (↑i : Int).toNat : Nat) = i by omega)
      let t10 : Tp pr := .m (show (decide ((ints l).length = l.length)) = true by simp)
      let t11 : Tp pr := .g .crow (show ((ints l)[i]?) = some ([C.t (T.int IntKind.i64 k)]) from g1)
      let t13 : Tp pr := .g .row (show (lkp (List.map Obj.ce h.objects) k) = some ((objAt h k).ce) from g2)
      let t27 : Tp pr := .m (show (decide ((ints (nameGo l (objAt h k).links).snd).length = (nameGo l (objAt h k).links).snd.length ∧ (nameGo l (objAt h k).links).snd.length ≤ (nameGo l (objAt h k).links).snd.length)) = true by simp)
      let t29 : Tp pr := .g .crow (show (some [C.t (T.int IntKind.i64 (objAt h k).mark), C.t T.nils]) = some ([C.t (T.int IntKind.i64 (objAt h k).mark), C.t T.nils]) by simp)
      let t30 : Tp pr := .n .rows (show (List.map (fun x => List.map C.fz x) (List.take (nameGo l (objAt h k).links).snd.length (ints (nameGo l (objAt h k).links).snd))) = List.map intt (nameGo l (objAt h k).links).snd by simp)
      let t31 : Tp pr := .n .crows (show ([[C.t (T.int IntKind.i64 (objAt h k).mark), C.t T.nils]].set (0 : Nat) [C.t (T.int IntKind.i64 (objAt h k).mark), C.row (1 : Nat) (List.map intt (nameGo l (objAt h k).links).snd)]) = [[C.t (T.int IntKind.i64 (objAt h k).mark), C.row (1 : Nat) (List.map intt (nameGo l (objAt h k).links).snd)]] by simp)
      let t34 : Tp pr := .m (show (decide ((List.map Obj.cc outs).length = outs.length ∧ outs.length = outs.length ∧ outs.length + (1 : Nat) ≤ (4294967296 : Nat))) = true by (simp; omega))
      let t35 : Tp pr := .c (rfl : (outs.length + (1 : Nat)) = _)
      let t36 : Tp pr := .n .crows (show ((List.map Obj.cc outs).append [[C.t (T.int IntKind.i64 (objAt h k).mark), C.row (1 : Nat) (List.map intt (nameGo l (objAt h k).links).snd)]]) = List.map Obj.cc outs ++ [[C.t (T.int IntKind.i64 (objAt h k).mark), C.row (1 : Nat) (List.map intt (nameGo l (objAt h k).links).snd)]] by simp)
      let t40 : Tp pr := .i (wrap_i64 (a := (↑i : Int) + (1 : Int)) (by omega) (by omega))
      exact .tpe [.i (rfl : ((↑l.length : Int)) = _), t1, .m (rfl : true = true), .m (rfl : true = true), .m (rfl : true = true), .m (rfl : true = true), .m (rfl : true = true), t7, t8, .m (rfl : true = true), t10, t11, .m (rfl : true = true), t13, .m (rfl : true = true), .m (rfl : true = true), .m (rfl : true = true), .m (rfl : true = true), .m (rfl : true = true), .m (rfl : true = true), .m (rfl : true = true), .m (rfl : true = true), .m (rfl : true = true), .m (rfl : true = true), .a (c1), .m (rfl : true = true), .m (rfl : true = true), t27, .m (rfl : true = true), t29, t30, t31, .m (rfl : true = true), .m (rfl : true = true), t34, t35, t36, .m (rfl : true = true), .m (rfl : true = true), .m (rfl : true = true), t40, .a (ih)] (Out.exit (0 : Nat) (at_ [((2 : Nat), V.ptr (0 : Nat) (1 : Nat) (0 : Nat) (0 : Nat)), ((4 : Nat), V.ptr (1 : Nat) (1 : Nat) (0 : Nat) (0 : Nat)), ((5 : Nat), V.ptr (2 : Nat) (1 : Nat) (0 : Nat) (0 : Nat))] [Ob.box [V.t T.nils, V.t T.nils], Ob.box [V.ptr (3 : Nat) (1 : Nat) (0 : Nat) (0 : Nat), V.vec (4 : Nat) (copyGo h n (i + (1 : Nat)) (nameGo l (objAt h k).links).fst).fst.length (1 : Nat) (0 : Nat) (copyGo h n (i + (1 : Nat)) (nameGo l (objAt h k).links).fst).fst.length, V.vec (5 : Nat) h.objects.length (1 : Nat) (0 : Nat) h.objects.length], Ob.box [V.vec (6 : Nat) (outs ++ [Obj.mk (objAt h k).mark (nameGo l (objAt h k).links).snd] ++ (copyGo h n (i + (1 : Nat)) (nameGo l (objAt h k).links).fst).snd).length (2 : Nat) (0 : Nat) (outs ++ [Obj.mk (objAt h k).mark (nameGo l (objAt h k).links).snd] ++ (copyGo h n (i + (1 : Nat)) (nameGo l (objAt h k).links).fst).snd).length, V.vec (7 : Nat) rt.length (1 : Nat) (0 : Nat) rt.length], Ob.box [V.t (T.seq (2 : Nat) (List.map Obj.ce h.objects)), V.t (T.seq (1 : Nat) (List.map intt h.roots))], Ob.vec true (1 : Nat) (ints (copyGo h n (i + (1 : Nat)) (nameGo l (objAt h k).links).fst).fst), Ob.vec true (1 : Nat) (ints (namesOf h.objects.length (copyGo h n (i + (1 : Nat)) (nameGo l (objAt h k).links).fst).fst)), Ob.vec (outs ++ [Obj.mk (objAt h k).mark (nameGo l (objAt h k).links).snd] ++ (copyGo h n (i + (1 : Nat)) (nameGo l (objAt h k).links).fst).snd).isEmpty (2 : Nat) (List.map Obj.cc (outs ++ [Obj.mk (objAt h k).mark (nameGo l (objAt h k).links).snd] ++ (copyGo h n (i + (1 : Nat)) (nameGo l (objAt h k).links).fst).snd)), Ob.vec true (1 : Nat) (ints rt)] (0 : Nat))) (by kernel_rfl) ((((((((congrArg (fun x => Out.exit (0 : Nat) (at_ [((2 : Nat), V.ptr (0 : Nat) (1 : Nat) (0 : Nat) (0 : Nat)), ((4 : Nat), V.ptr (1 : Nat) (1 : Nat) (0 : Nat) (0 : Nat)), ((5 : Nat), V.ptr (2 : Nat) (1 : Nat) (0 : Nat) (0 : Nat))] [Ob.box [V.t T.nils, V.t T.nils], Ob.box [V.ptr (3 : Nat) (1 : Nat) (0 : Nat) (0 : Nat), V.vec (4 : Nat) x (1 : Nat) (0 : Nat) (copyGo h n (i + (1 : Nat)) (nameGo l (objAt h k).links).fst).fst.length, V.vec (5 : Nat) h.objects.length (1 : Nat) (0 : Nat) h.objects.length], Ob.box [V.vec (6 : Nat) (outs ++ [Obj.mk (objAt h k).mark (nameGo l (objAt h k).links).snd] ++ (copyGo h n (i + (1 : Nat)) (nameGo l (objAt h k).links).fst).snd).length (2 : Nat) (0 : Nat) (outs ++ [Obj.mk (objAt h k).mark (nameGo l (objAt h k).links).snd] ++ (copyGo h n (i + (1 : Nat)) (nameGo l (objAt h k).links).fst).snd).length, V.vec (7 : Nat) rt.length (1 : Nat) (0 : Nat) rt.length], Ob.box [V.t (T.seq (2 : Nat) (List.map Obj.ce h.objects)), V.t (T.seq (1 : Nat) (List.map intt h.roots))], Ob.vec true (1 : Nat) (ints (copyGo h n (i + (1 : Nat)) (nameGo l (objAt h k).links).fst).fst), Ob.vec true (1 : Nat) (ints (namesOf h.objects.length (copyGo h n (i + (1 : Nat)) (nameGo l (objAt h k).links).fst).fst)), Ob.vec (outs ++ [Obj.mk (objAt h k).mark (nameGo l (objAt h k).links).snd] ++ (copyGo h n (i + (1 : Nat)) (nameGo l (objAt h k).links).fst).snd).isEmpty (2 : Nat) (List.map Obj.cc (outs ++ [Obj.mk (objAt h k).mark (nameGo l (objAt h k).links).snd] ++ (copyGo h n (i + (1 : Nat)) (nameGo l (objAt h k).links).fst).snd)), Ob.vec true (1 : Nat) (ints rt)] (0 : Nat))) (show ((copyGo h n (i + (1 : Nat)) (nameGo l (objAt h k).links).fst).fst.length) = (((copyGo h n (i + (1 : Nat)) (nameGo l (objAt h k).links).fst).fst, Obj.mk (objAt h k).mark (nameGo l (objAt h k).links).snd :: (copyGo h n (i + (1 : Nat)) (nameGo l (objAt h k).links).fst).snd).fst.length) by simp)).trans (congrArg (fun x => Out.exit (0 : Nat) (at_ [((2 : Nat), V.ptr (0 : Nat) (1 : Nat) (0 : Nat) (0 : Nat)), ((4 : Nat), V.ptr (1 : Nat) (1 : Nat) (0 : Nat) (0 : Nat)), ((5 : Nat), V.ptr (2 : Nat) (1 : Nat) (0 : Nat) (0 : Nat))] [Ob.box [V.t T.nils, V.t T.nils], Ob.box [V.ptr (3 : Nat) (1 : Nat) (0 : Nat) (0 : Nat), V.vec (4 : Nat) ((copyGo h n (i + (1 : Nat)) (nameGo l (objAt h k).links).fst).fst, Obj.mk (objAt h k).mark (nameGo l (objAt h k).links).snd :: (copyGo h n (i + (1 : Nat)) (nameGo l (objAt h k).links).fst).snd).fst.length (1 : Nat) (0 : Nat) x, V.vec (5 : Nat) h.objects.length (1 : Nat) (0 : Nat) h.objects.length], Ob.box [V.vec (6 : Nat) (outs ++ [Obj.mk (objAt h k).mark (nameGo l (objAt h k).links).snd] ++ (copyGo h n (i + (1 : Nat)) (nameGo l (objAt h k).links).fst).snd).length (2 : Nat) (0 : Nat) (outs ++ [Obj.mk (objAt h k).mark (nameGo l (objAt h k).links).snd] ++ (copyGo h n (i + (1 : Nat)) (nameGo l (objAt h k).links).fst).snd).length, V.vec (7 : Nat) rt.length (1 : Nat) (0 : Nat) rt.length], Ob.box [V.t (T.seq (2 : Nat) (List.map Obj.ce h.objects)), V.t (T.seq (1 : Nat) (List.map intt h.roots))], Ob.vec true (1 : Nat) (ints (copyGo h n (i + (1 : Nat)) (nameGo l (objAt h k).links).fst).fst), Ob.vec true (1 : Nat) (ints (namesOf h.objects.length (copyGo h n (i + (1 : Nat)) (nameGo l (objAt h k).links).fst).fst)), Ob.vec (outs ++ [Obj.mk (objAt h k).mark (nameGo l (objAt h k).links).snd] ++ (copyGo h n (i + (1 : Nat)) (nameGo l (objAt h k).links).fst).snd).isEmpty (2 : Nat) (List.map Obj.cc (outs ++ [Obj.mk (objAt h k).mark (nameGo l (objAt h k).links).snd] ++ (copyGo h n (i + (1 : Nat)) (nameGo l (objAt h k).links).fst).snd)), Ob.vec true (1 : Nat) (ints rt)] (0 : Nat))) (show ((copyGo h n (i + (1 : Nat)) (nameGo l (objAt h k).links).fst).fst.length) = (((copyGo h n (i + (1 : Nat)) (nameGo l (objAt h k).links).fst).fst, Obj.mk (objAt h k).mark (nameGo l (objAt h k).links).snd :: (copyGo h n (i + (1 : Nat)) (nameGo l (objAt h k).links).fst).snd).fst.length) by simp))).trans (congrArg (fun x => Out.exit (0 : Nat) (at_ [((2 : Nat), V.ptr (0 : Nat) (1 : Nat) (0 : Nat) (0 : Nat)), ((4 : Nat), V.ptr (1 : Nat) (1 : Nat) (0 : Nat) (0 : Nat)), ((5 : Nat), V.ptr (2 : Nat) (1 : Nat) (0 : Nat) (0 : Nat))] [Ob.box [V.t T.nils, V.t T.nils], Ob.box [V.ptr (3 : Nat) (1 : Nat) (0 : Nat) (0 : Nat), V.vec (4 : Nat) ((copyGo h n (i + (1 : Nat)) (nameGo l (objAt h k).links).fst).fst, Obj.mk (objAt h k).mark (nameGo l (objAt h k).links).snd :: (copyGo h n (i + (1 : Nat)) (nameGo l (objAt h k).links).fst).snd).fst.length (1 : Nat) (0 : Nat) ((copyGo h n (i + (1 : Nat)) (nameGo l (objAt h k).links).fst).fst, Obj.mk (objAt h k).mark (nameGo l (objAt h k).links).snd :: (copyGo h n (i + (1 : Nat)) (nameGo l (objAt h k).links).fst).snd).fst.length, V.vec (5 : Nat) h.objects.length (1 : Nat) (0 : Nat) h.objects.length], Ob.box [V.vec (6 : Nat) x (2 : Nat) (0 : Nat) (outs ++ [Obj.mk (objAt h k).mark (nameGo l (objAt h k).links).snd] ++ (copyGo h n (i + (1 : Nat)) (nameGo l (objAt h k).links).fst).snd).length, V.vec (7 : Nat) rt.length (1 : Nat) (0 : Nat) rt.length], Ob.box [V.t (T.seq (2 : Nat) (List.map Obj.ce h.objects)), V.t (T.seq (1 : Nat) (List.map intt h.roots))], Ob.vec true (1 : Nat) (ints (copyGo h n (i + (1 : Nat)) (nameGo l (objAt h k).links).fst).fst), Ob.vec true (1 : Nat) (ints (namesOf h.objects.length (copyGo h n (i + (1 : Nat)) (nameGo l (objAt h k).links).fst).fst)), Ob.vec (outs ++ [Obj.mk (objAt h k).mark (nameGo l (objAt h k).links).snd] ++ (copyGo h n (i + (1 : Nat)) (nameGo l (objAt h k).links).fst).snd).isEmpty (2 : Nat) (List.map Obj.cc (outs ++ [Obj.mk (objAt h k).mark (nameGo l (objAt h k).links).snd] ++ (copyGo h n (i + (1 : Nat)) (nameGo l (objAt h k).links).fst).snd)), Ob.vec true (1 : Nat) (ints rt)] (0 : Nat))) (show ((outs ++ [Obj.mk (objAt h k).mark (nameGo l (objAt h k).links).snd] ++ (copyGo h n (i + (1 : Nat)) (nameGo l (objAt h k).links).fst).snd).length) = ((outs ++ ((copyGo h n (i + (1 : Nat)) (nameGo l (objAt h k).links).fst).fst, Obj.mk (objAt h k).mark (nameGo l (objAt h k).links).snd :: (copyGo h n (i + (1 : Nat)) (nameGo l (objAt h k).links).fst).snd).snd).length) by simp))).trans (congrArg (fun x => Out.exit (0 : Nat) (at_ [((2 : Nat), V.ptr (0 : Nat) (1 : Nat) (0 : Nat) (0 : Nat)), ((4 : Nat), V.ptr (1 : Nat) (1 : Nat) (0 : Nat) (0 : Nat)), ((5 : Nat), V.ptr (2 : Nat) (1 : Nat) (0 : Nat) (0 : Nat))] [Ob.box [V.t T.nils, V.t T.nils], Ob.box [V.ptr (3 : Nat) (1 : Nat) (0 : Nat) (0 : Nat), V.vec (4 : Nat) ((copyGo h n (i + (1 : Nat)) (nameGo l (objAt h k).links).fst).fst, Obj.mk (objAt h k).mark (nameGo l (objAt h k).links).snd :: (copyGo h n (i + (1 : Nat)) (nameGo l (objAt h k).links).fst).snd).fst.length (1 : Nat) (0 : Nat) ((copyGo h n (i + (1 : Nat)) (nameGo l (objAt h k).links).fst).fst, Obj.mk (objAt h k).mark (nameGo l (objAt h k).links).snd :: (copyGo h n (i + (1 : Nat)) (nameGo l (objAt h k).links).fst).snd).fst.length, V.vec (5 : Nat) h.objects.length (1 : Nat) (0 : Nat) h.objects.length], Ob.box [V.vec (6 : Nat) (outs ++ ((copyGo h n (i + (1 : Nat)) (nameGo l (objAt h k).links).fst).fst, Obj.mk (objAt h k).mark (nameGo l (objAt h k).links).snd :: (copyGo h n (i + (1 : Nat)) (nameGo l (objAt h k).links).fst).snd).snd).length (2 : Nat) (0 : Nat) x, V.vec (7 : Nat) rt.length (1 : Nat) (0 : Nat) rt.length], Ob.box [V.t (T.seq (2 : Nat) (List.map Obj.ce h.objects)), V.t (T.seq (1 : Nat) (List.map intt h.roots))], Ob.vec true (1 : Nat) (ints (copyGo h n (i + (1 : Nat)) (nameGo l (objAt h k).links).fst).fst), Ob.vec true (1 : Nat) (ints (namesOf h.objects.length (copyGo h n (i + (1 : Nat)) (nameGo l (objAt h k).links).fst).fst)), Ob.vec (outs ++ [Obj.mk (objAt h k).mark (nameGo l (objAt h k).links).snd] ++ (copyGo h n (i + (1 : Nat)) (nameGo l (objAt h k).links).fst).snd).isEmpty (2 : Nat) (List.map Obj.cc (outs ++ [Obj.mk (objAt h k).mark (nameGo l (objAt h k).links).snd] ++ (copyGo h n (i + (1 : Nat)) (nameGo l (objAt h k).links).fst).snd)), Ob.vec true (1 : Nat) (ints rt)] (0 : Nat))) (show ((outs ++ [Obj.mk (objAt h k).mark (nameGo l (objAt h k).links).snd] ++ (copyGo h n (i + (1 : Nat)) (nameGo l (objAt h k).links).fst).snd).length) = ((outs ++ ((copyGo h n (i + (1 : Nat)) (nameGo l (objAt h k).links).fst).fst, Obj.mk (objAt h k).mark (nameGo l (objAt h k).links).snd :: (copyGo h n (i + (1 : Nat)) (nameGo l (objAt h k).links).fst).snd).snd).length) by simp))).trans (congrArg (fun x => Out.exit (0 : Nat) (at_ [((2 : Nat), V.ptr (0 : Nat) (1 : Nat) (0 : Nat) (0 : Nat)), ((4 : Nat), V.ptr (1 : Nat) (1 : Nat) (0 : Nat) (0 : Nat)), ((5 : Nat), V.ptr (2 : Nat) (1 : Nat) (0 : Nat) (0 : Nat))] [Ob.box [V.t T.nils, V.t T.nils], Ob.box [V.ptr (3 : Nat) (1 : Nat) (0 : Nat) (0 : Nat), V.vec (4 : Nat) ((copyGo h n (i + (1 : Nat)) (nameGo l (objAt h k).links).fst).fst, Obj.mk (objAt h k).mark (nameGo l (objAt h k).links).snd :: (copyGo h n (i + (1 : Nat)) (nameGo l (objAt h k).links).fst).snd).fst.length (1 : Nat) (0 : Nat) ((copyGo h n (i + (1 : Nat)) (nameGo l (objAt h k).links).fst).fst, Obj.mk (objAt h k).mark (nameGo l (objAt h k).links).snd :: (copyGo h n (i + (1 : Nat)) (nameGo l (objAt h k).links).fst).snd).fst.length, V.vec (5 : Nat) h.objects.length (1 : Nat) (0 : Nat) h.objects.length], Ob.box [V.vec (6 : Nat) (outs ++ ((copyGo h n (i + (1 : Nat)) (nameGo l (objAt h k).links).fst).fst, Obj.mk (objAt h k).mark (nameGo l (objAt h k).links).snd :: (copyGo h n (i + (1 : Nat)) (nameGo l (objAt h k).links).fst).snd).snd).length (2 : Nat) (0 : Nat) (outs ++ ((copyGo h n (i + (1 : Nat)) (nameGo l (objAt h k).links).fst).fst, Obj.mk (objAt h k).mark (nameGo l (objAt h k).links).snd :: (copyGo h n (i + (1 : Nat)) (nameGo l (objAt h k).links).fst).snd).snd).length, V.vec (7 : Nat) rt.length (1 : Nat) (0 : Nat) rt.length], Ob.box [V.t (T.seq (2 : Nat) (List.map Obj.ce h.objects)), V.t (T.seq (1 : Nat) (List.map intt h.roots))], Ob.vec true (1 : Nat) x, Ob.vec true (1 : Nat) (ints (namesOf h.objects.length (copyGo h n (i + (1 : Nat)) (nameGo l (objAt h k).links).fst).fst)), Ob.vec (outs ++ [Obj.mk (objAt h k).mark (nameGo l (objAt h k).links).snd] ++ (copyGo h n (i + (1 : Nat)) (nameGo l (objAt h k).links).fst).snd).isEmpty (2 : Nat) (List.map Obj.cc (outs ++ [Obj.mk (objAt h k).mark (nameGo l (objAt h k).links).snd] ++ (copyGo h n (i + (1 : Nat)) (nameGo l (objAt h k).links).fst).snd)), Ob.vec true (1 : Nat) (ints rt)] (0 : Nat))) (show (ints (copyGo h n (i + (1 : Nat)) (nameGo l (objAt h k).links).fst).fst) = (ints ((copyGo h n (i + (1 : Nat)) (nameGo l (objAt h k).links).fst).fst, Obj.mk (objAt h k).mark (nameGo l (objAt h k).links).snd :: (copyGo h n (i + (1 : Nat)) (nameGo l (objAt h k).links).fst).snd).fst) by simp))).trans (congrArg (fun x => Out.exit (0 : Nat) (at_ [((2 : Nat), V.ptr (0 : Nat) (1 : Nat) (0 : Nat) (0 : Nat)), ((4 : Nat), V.ptr (1 : Nat) (1 : Nat) (0 : Nat) (0 : Nat)), ((5 : Nat), V.ptr (2 : Nat) (1 : Nat) (0 : Nat) (0 : Nat))] [Ob.box [V.t T.nils, V.t T.nils], Ob.box [V.ptr (3 : Nat) (1 : Nat) (0 : Nat) (0 : Nat), V.vec (4 : Nat) ((copyGo h n (i + (1 : Nat)) (nameGo l (objAt h k).links).fst).fst, Obj.mk (objAt h k).mark (nameGo l (objAt h k).links).snd :: (copyGo h n (i + (1 : Nat)) (nameGo l (objAt h k).links).fst).snd).fst.length (1 : Nat) (0 : Nat) ((copyGo h n (i + (1 : Nat)) (nameGo l (objAt h k).links).fst).fst, Obj.mk (objAt h k).mark (nameGo l (objAt h k).links).snd :: (copyGo h n (i + (1 : Nat)) (nameGo l (objAt h k).links).fst).snd).fst.length, V.vec (5 : Nat) h.objects.length (1 : Nat) (0 : Nat) h.objects.length], Ob.box [V.vec (6 : Nat) (outs ++ ((copyGo h n (i + (1 : Nat)) (nameGo l (objAt h k).links).fst).fst, Obj.mk (objAt h k).mark (nameGo l (objAt h k).links).snd :: (copyGo h n (i + (1 : Nat)) (nameGo l (objAt h k).links).fst).snd).snd).length (2 : Nat) (0 : Nat) (outs ++ ((copyGo h n (i + (1 : Nat)) (nameGo l (objAt h k).links).fst).fst, Obj.mk (objAt h k).mark (nameGo l (objAt h k).links).snd :: (copyGo h n (i + (1 : Nat)) (nameGo l (objAt h k).links).fst).snd).snd).length, V.vec (7 : Nat) rt.length (1 : Nat) (0 : Nat) rt.length], Ob.box [V.t (T.seq (2 : Nat) (List.map Obj.ce h.objects)), V.t (T.seq (1 : Nat) (List.map intt h.roots))], Ob.vec true (1 : Nat) (ints ((copyGo h n (i + (1 : Nat)) (nameGo l (objAt h k).links).fst).fst, Obj.mk (objAt h k).mark (nameGo l (objAt h k).links).snd :: (copyGo h n (i + (1 : Nat)) (nameGo l (objAt h k).links).fst).snd).fst), Ob.vec true (1 : Nat) x, Ob.vec (outs ++ [Obj.mk (objAt h k).mark (nameGo l (objAt h k).links).snd] ++ (copyGo h n (i + (1 : Nat)) (nameGo l (objAt h k).links).fst).snd).isEmpty (2 : Nat) (List.map Obj.cc (outs ++ [Obj.mk (objAt h k).mark (nameGo l (objAt h k).links).snd] ++ (copyGo h n (i + (1 : Nat)) (nameGo l (objAt h k).links).fst).snd)), Ob.vec true (1 : Nat) (ints rt)] (0 : Nat))) (show (ints (namesOf h.objects.length (copyGo h n (i + (1 : Nat)) (nameGo l (objAt h k).links).fst).fst)) = (ints (namesOf h.objects.length ((copyGo h n (i + (1 : Nat)) (nameGo l (objAt h k).links).fst).fst, Obj.mk (objAt h k).mark (nameGo l (objAt h k).links).snd :: (copyGo h n (i + (1 : Nat)) (nameGo l (objAt h k).links).fst).snd).fst)) by simp))).trans (congrArg (fun x => Out.exit (0 : Nat) (at_ [((2 : Nat), V.ptr (0 : Nat) (1 : Nat) (0 : Nat) (0 : Nat)), ((4 : Nat), V.ptr (1 : Nat) (1 : Nat) (0 : Nat) (0 : Nat)), ((5 : Nat), V.ptr (2 : Nat) (1 : Nat) (0 : Nat) (0 : Nat))] [Ob.box [V.t T.nils, V.t T.nils], Ob.box [V.ptr (3 : Nat) (1 : Nat) (0 : Nat) (0 : Nat), V.vec (4 : Nat) ((copyGo h n (i + (1 : Nat)) (nameGo l (objAt h k).links).fst).fst, Obj.mk (objAt h k).mark (nameGo l (objAt h k).links).snd :: (copyGo h n (i + (1 : Nat)) (nameGo l (objAt h k).links).fst).snd).fst.length (1 : Nat) (0 : Nat) ((copyGo h n (i + (1 : Nat)) (nameGo l (objAt h k).links).fst).fst, Obj.mk (objAt h k).mark (nameGo l (objAt h k).links).snd :: (copyGo h n (i + (1 : Nat)) (nameGo l (objAt h k).links).fst).snd).fst.length, V.vec (5 : Nat) h.objects.length (1 : Nat) (0 : Nat) h.objects.length], Ob.box [V.vec (6 : Nat) (outs ++ ((copyGo h n (i + (1 : Nat)) (nameGo l (objAt h k).links).fst).fst, Obj.mk (objAt h k).mark (nameGo l (objAt h k).links).snd :: (copyGo h n (i + (1 : Nat)) (nameGo l (objAt h k).links).fst).snd).snd).length (2 : Nat) (0 : Nat) (outs ++ ((copyGo h n (i + (1 : Nat)) (nameGo l (objAt h k).links).fst).fst, Obj.mk (objAt h k).mark (nameGo l (objAt h k).links).snd :: (copyGo h n (i + (1 : Nat)) (nameGo l (objAt h k).links).fst).snd).snd).length, V.vec (7 : Nat) rt.length (1 : Nat) (0 : Nat) rt.length], Ob.box [V.t (T.seq (2 : Nat) (List.map Obj.ce h.objects)), V.t (T.seq (1 : Nat) (List.map intt h.roots))], Ob.vec true (1 : Nat) (ints ((copyGo h n (i + (1 : Nat)) (nameGo l (objAt h k).links).fst).fst, Obj.mk (objAt h k).mark (nameGo l (objAt h k).links).snd :: (copyGo h n (i + (1 : Nat)) (nameGo l (objAt h k).links).fst).snd).fst), Ob.vec true (1 : Nat) (ints (namesOf h.objects.length ((copyGo h n (i + (1 : Nat)) (nameGo l (objAt h k).links).fst).fst, Obj.mk (objAt h k).mark (nameGo l (objAt h k).links).snd :: (copyGo h n (i + (1 : Nat)) (nameGo l (objAt h k).links).fst).snd).fst)), Ob.vec x (2 : Nat) (List.map Obj.cc (outs ++ [Obj.mk (objAt h k).mark (nameGo l (objAt h k).links).snd] ++ (copyGo h n (i + (1 : Nat)) (nameGo l (objAt h k).links).fst).snd)), Ob.vec true (1 : Nat) (ints rt)] (0 : Nat))) (show ((outs ++ [Obj.mk (objAt h k).mark (nameGo l (objAt h k).links).snd] ++ (copyGo h n (i + (1 : Nat)) (nameGo l (objAt h k).links).fst).snd).isEmpty) = ((outs ++ ((copyGo h n (i + (1 : Nat)) (nameGo l (objAt h k).links).fst).fst, Obj.mk (objAt h k).mark (nameGo l (objAt h k).links).snd :: (copyGo h n (i + (1 : Nat)) (nameGo l (objAt h k).links).fst).snd).snd).isEmpty) by simp))).trans (congrArg (fun x => Out.exit (0 : Nat) (at_ [((2 : Nat), V.ptr (0 : Nat) (1 : Nat) (0 : Nat) (0 : Nat)), ((4 : Nat), V.ptr (1 : Nat) (1 : Nat) (0 : Nat) (0 : Nat)), ((5 : Nat), V.ptr (2 : Nat) (1 : Nat) (0 : Nat) (0 : Nat))] [Ob.box [V.t T.nils, V.t T.nils], Ob.box [V.ptr (3 : Nat) (1 : Nat) (0 : Nat) (0 : Nat), V.vec (4 : Nat) ((copyGo h n (i + (1 : Nat)) (nameGo l (objAt h k).links).fst).fst, Obj.mk (objAt h k).mark (nameGo l (objAt h k).links).snd :: (copyGo h n (i + (1 : Nat)) (nameGo l (objAt h k).links).fst).snd).fst.length (1 : Nat) (0 : Nat) ((copyGo h n (i + (1 : Nat)) (nameGo l (objAt h k).links).fst).fst, Obj.mk (objAt h k).mark (nameGo l (objAt h k).links).snd :: (copyGo h n (i + (1 : Nat)) (nameGo l (objAt h k).links).fst).snd).fst.length, V.vec (5 : Nat) h.objects.length (1 : Nat) (0 : Nat) h.objects.length], Ob.box [V.vec (6 : Nat) (outs ++ ((copyGo h n (i + (1 : Nat)) (nameGo l (objAt h k).links).fst).fst, Obj.mk (objAt h k).mark (nameGo l (objAt h k).links).snd :: (copyGo h n (i + (1 : Nat)) (nameGo l (objAt h k).links).fst).snd).snd).length (2 : Nat) (0 : Nat) (outs ++ ((copyGo h n (i + (1 : Nat)) (nameGo l (objAt h k).links).fst).fst, Obj.mk (objAt h k).mark (nameGo l (objAt h k).links).snd :: (copyGo h n (i + (1 : Nat)) (nameGo l (objAt h k).links).fst).snd).snd).length, V.vec (7 : Nat) rt.length (1 : Nat) (0 : Nat) rt.length], Ob.box [V.t (T.seq (2 : Nat) (List.map Obj.ce h.objects)), V.t (T.seq (1 : Nat) (List.map intt h.roots))], Ob.vec true (1 : Nat) (ints ((copyGo h n (i + (1 : Nat)) (nameGo l (objAt h k).links).fst).fst, Obj.mk (objAt h k).mark (nameGo l (objAt h k).links).snd :: (copyGo h n (i + (1 : Nat)) (nameGo l (objAt h k).links).fst).snd).fst), Ob.vec true (1 : Nat) (ints (namesOf h.objects.length ((copyGo h n (i + (1 : Nat)) (nameGo l (objAt h k).links).fst).fst, Obj.mk (objAt h k).mark (nameGo l (objAt h k).links).snd :: (copyGo h n (i + (1 : Nat)) (nameGo l (objAt h k).links).fst).snd).fst)), Ob.vec (outs ++ ((copyGo h n (i + (1 : Nat)) (nameGo l (objAt h k).links).fst).fst, Obj.mk (objAt h k).mark (nameGo l (objAt h k).links).snd :: (copyGo h n (i + (1 : Nat)) (nameGo l (objAt h k).links).fst).snd).snd).isEmpty (2 : Nat) x, Ob.vec true (1 : Nat) (ints rt)] (0 : Nat))) (show (List.map Obj.cc (outs ++ [Obj.mk (objAt h k).mark (nameGo l (objAt h k).links).snd] ++ (copyGo h n (i + (1 : Nat)) (nameGo l (objAt h k).links).fst).snd)) = (List.map Obj.cc (outs ++ ((copyGo h n (i + (1 : Nat)) (nameGo l (objAt h k).links).fst).fst, Obj.mk (objAt h k).mark (nameGo l (objAt h k).links).snd :: (copyGo h n (i + (1 : Nat)) (nameGo l (objAt h k).links).fst).snd).snd)) by simp)))

end Go.Ev

/- Copies of heaps: impl.copyHeap, impl.ReachOf. -/
namespace Go.Ev
set_option linter.unusedVariables false
set_option linter.unusedSimpArgs false
open Go.Proofs
set_option maxRecDepth 100000
set_option linter.unusedVariables false
set_option maxHeartbeats 4000000
attribute [local simp] ints_takeC
@[local simp] theorem ce_fz9 (l : List Obj) : List.map ((fun x => List.map C.fz x) ∘ fun o => List.map C.t o.ce) l = l.map Obj.ce := by
  congr 1
@[local simp] theorem ce_fz9b (l : List Obj) : List.map (fun x => List.map C.fz x) (List.map (fun o => List.map C.t o.ce) l) = l.map Obj.ce := by
  rw [List.map_map]; exact ce_fz9 l
@[local simp] theorem names_take (N : Nat) (l : List Int) : List.take N (List.map intt (namesOf N l)) = List.map intt (namesOf N l) := List.take_of_length_le (by simp)
theorem copyHeap_ev (h : Hp) (hg : GoodH h) :
    Ev pr (.call 56 [vs h.ce] []) (.val (.tup [.agg [.vec 0 (copyH h).objects.length 2 0 (copyH h).objects.length, .vec 1 (copyH h).roots.length 1 0 (copyH h).roots.length], .vec 2 h.objects.length 1 0 h.objects.length]) [.vec (copyH h).objects.isEmpty 2 ((copyH h).objects.map Obj.cc), .vec true 1 (ints (copyH h).roots), .vec true 1 (ints (namesOf h.objects.length (order h)))]) := by
  have h1 := hg.objs
  have h3 := hg.rlen
  have a1 := repeat_ev h.objects.length h1
  have a2 := allN_ev h h.objects.length h1 h.roots (by omega) (fun k hk => (hg.roots k hk).2)
  rw [namesOf_nil] at a2
  have hb := pushAll_bd (N := h.objects.length) h.roots [] (by simp) (fun k hk => (hg.roots k hk).2)
  have hn := pushAll_nodup h.roots [] (by simp)
  have hd := done_ok hg (h.objects.length + 1) 0 (pushAll [] h.roots) hn hb (by omega)
  have a3 := copyL_ev h hg (nameGo [] h.roots).2 (h.objects.length + 1) 0 (pushAll [] h.roots) [] hd rfl (by omega) hn hb
  obtain ⟨e1, e2⟩ := copyGo_copyH hg
  have e3 : (nameGo [] h.roots).2 = (copyH h).roots := by rw [← e2]
  have e4 : (copyGo h (h.objects.length + 1) 0 (pushAll [] h.roots)).2 = (copyH h).objects := by rw [← e2]
  rw [e1, e4, e3, ← nameGo_order, List.nil_append] at a3
  rw [e3] at a2
  let t0 : Tp pr := .i (show ((↑(List.map Obj.ce h.objects).length : Int) : Int) = (↑h.objects.length : Int) by simp)
  let t2 : Tp pr := .n .rows (show (List.map (fun x => List.map C.fz x) (List.take (1 : Nat) (List.drop (0 : Nat) [[C.t (T.int IntKind.i64 (-1 : Int))]]))) = [[(C.t (T.int IntKind.i64 (-1 : Int))).fz]] by simp)
  let t4 : Tp pr := .m (show (true && [Ob.vec true (1 : Nat) (ints (List.replicate h.objects.length (-1 : Int)))].all Ob.flat) = true by simp)
  exact .tp [t0, .m (rfl : true = true), t2, .a (a1), t4, .a (a2), .a (a3), .m (rfl : true = true), .m (rfl : true = true), .m (rfl : true = true), .m (rfl : true = true), .m (rfl : true = true)] (by kernel_rfl)
end Go.Ev

/- Copies of heaps: the reference's. -/
namespace Go.Ev
set_option linter.unusedVariables false
set_option linter.unusedSimpArgs false
open Go.Proofs
set_option maxRecDepth 100000
set_option linter.unusedVariables false
set_option maxHeartbeats 2000000
def newOut (rest : List Int) (k i : Int) : Out := if k ∈ rest then .ret (at_ [(4, i64 (newNo rest k i))] [] 0) else .exit 0 (at_ [] [] 0)
theorem newL_ev (l : List Int) (k : Int) (hl : l.length ≤ 1048576) : ∀ (rest dn : List Int), l = dn ++ rest →
    Ev pr (.loop (lq pr 62 0) (at_ [(1, i64 k), (7, isq l), (8, i64 l.length), (9, i64 dn.length)] [] 0)) (newOut rest k dn.length)
  | [], dn, he => by
    have hll : (l.length : Int) = dn.length := by simp [he]
    rw [show newOut [] k dn.length = .exit 0 (at_ [] [] 0) from rfl]
    let t0 : Tp pr := .b (show (decide ((↑dn.length : Int) < (↑l.length : Int))) = false by (simp; omega))
    exact .tp [t0] (by kernel_rfl)
  | x :: rest, dn, he => by
    have hll : (l.length : Int) = dn.length + 1 + rest.length := by simp [he]; omega
    have hg : lkp (l.map intt) (dn.length : Int) = some [T.int .i64 x] := by rw [he]; simp [intt]
    by_cases hx : x = k
    · rw [show newOut (x :: rest) k dn.length = .ret (at_ [(4, i64 dn.length)] [] 0) by simp [newOut, newNo, hx]]
      let t0 : Tp pr := .b (show (decide ((↑dn.length : Int) < (↑l.length : Int))) = true by (simp; omega))
      let t1 : Tp pr := .g .row (show (lkp (List.map intt l) (↑dn.length : Int)) = some ([T.int IntKind.i64 x]) from hg)
      let t2 : Tp pr := .b (show (decide (x = k)) = true by (simp; omega))
      exact .tp [t0, t1, t2] (by kernel_rfl)
    · have ih := newL_ev l k hl rest (dn ++ [x]) (by simp [he])
      rw [show newOut (x :: rest) k dn.length = newOut rest k ((dn.length : Int) + 1) by simp [newOut, newNo, hx, Ne.symm hx]]
      rw [List.length_append, List.length_singleton, Int.natCast_add] at ih
      unfold newOut at ih ⊢
      by_cases hm : k ∈ rest
      · rw [if_pos hm] at ih ⊢
        let t0 : Tp pr := .b (show (decide ((↑dn.length : Int) < (↑l.length : Int))) = true by (simp; omega))
        let t1 : Tp pr := .g .row (show (lkp (List.map intt l) (↑dn.length : Int)) = some ([T.int IntKind.i64 x]) from hg)
        let t2 : Tp pr := .b (show (decide (x = k)) = false by (simp; omega))
        let t3 : Tp pr := .i (wrap_i64 (a := (↑dn.length : Int) + (1 : Int)) (by omega) (by omega))
        exact .tp [t0, t1, t2, t3, .a (ih)] (by kernel_rfl)
      · rw [if_neg hm] at ih ⊢
        let t0 : Tp pr := .b (show (decide ((↑dn.length : Int) < (↑l.length : Int))) = true by (simp; omega))
        let t1 : Tp pr := .g .row (show (lkp (List.map intt l) (↑dn.length : Int)) = some ([T.int IntKind.i64 x]) from hg)
        let t2 : Tp pr := .b (show (decide (x = k)) = false by (simp; omega))
        let t3 : Tp pr := .i (wrap_i64 (a := (↑dn.length : Int) + (1 : Int)) (by omega) (by omega))
        exact .tp [t0, t1, t2, t3, .a (ih)] (by kernel_rfl)
theorem l15New_ev (l : List Int) (k : Int) (hl : l.length ≤ 1048576) : Ev pr (.call 62 [isq l, i64 k] []) (.val (i64 (newOf l k)) []) := by
  have g := newL_ev l k hl l [] rfl
  unfold newOut at g
  by_cases hm : k ∈ l
  · rw [if_pos hm] at g
    unfold newOf
    let t0 : Tp pr := .i (show ((↑(List.map intt l).length : Int) : Int) = (↑l.length : Int) by simp)
    exact .tp [t0, .a (g)] (by kernel_rfl)
  · rw [if_neg hm] at g
    rw [newOf_out hm]
    let t0 : Tp pr := .i (show ((↑(List.map intt l).length : Int) : Int) = (↑l.length : Int) by simp)
    exact .tp [t0, .a (g)] (by kernel_rfl)
def rowO (l : List Obj) : List (List C) := l.map fun o => o.ce.map C.t
theorem rowO_snoc (l : List Obj) (o : Obj) : rowO (l ++ [o]) = (rowO l).append [[C.t (.int .i64 o.mark), C.t (.seq 1 (o.links.map intt))]] := by simp [rowO, Obj.ce]
@[local simp] theorem rowO_len (l : List Obj) : (rowO l).length = l.length := by simp [rowO]
@[local simp] theorem rowO_fz (l : List Obj) : List.map (fun x => List.map C.fz x) (rowO l) = l.map Obj.ce := by
  rw [rowO, List.map_map]
  congr 1
@[local simp] theorem ints_takeM {α : Type} (f : α → Int) (m : List α) : List.take m.length (ints (m.map f)) = ints (m.map f) := List.take_of_length_le (by simp)
@[local simp] theorem rowO_takeM {α : Type} (f : α → Obj) (m : List α) : List.take m.length (rowO (m.map f)) = rowO (m.map f) := List.take_of_length_le (by simp [rowO])
@[local simp] theorem ints_takeV (l : List Int) : List.take l.length (ints l) = ints l := List.take_of_length_le (by simp)
theorem cpKL_ev (h : Hp) (o l : List Int) (hl : l.length ≤ 1048576) (ho : o.length ≤ 1048576) (mk d : Int) (n : Nat) (R : List (List C)) : ∀ (rest m : List Int), l = m ++ rest →
    Ev pr (.loop (lq pr 52 1) (at_ [(1, .ptr 0 1 0 0), (2, .ptr 1 1 0 0), (3, isq o), (4, .ptr 2 1 0 0), (7, .ptr 3 1 0 0), (15, isq o), (16, i64 o.length), (17, i64 d), (33, isq l), (34, i64 l.length), (35, i64 m.length)]
        [.box [osq h.objects, isq h.roots], .box [.t .nils, .t .nils], .box [.vec 4 n 2 0 n, .t .nils], .box [i64 mk, .vec 5 m.length 1 0 m.length], .vec true 2 R, .vec true 1 (ints (m.map (newOf o)))] 0))
      (.exit 2 (at_ [(1, .ptr 0 1 0 0), (2, .ptr 1 1 0 0), (3, isq o), (4, .ptr 2 1 0 0), (7, .ptr 3 1 0 0), (15, isq o), (16, i64 o.length), (17, i64 d)]
        [.box [osq h.objects, isq h.roots], .box [.t .nils, .t .nils], .box [.vec 4 n 2 0 n, .t .nils], .box [i64 mk, .vec 5 l.length 1 0 l.length], .vec true 2 R, .vec true 1 (ints (l.map (newOf o)))] 0))
  | [], m, he => by
    have hll : (l.length : Int) = m.length := by simp [he]
    have he2 : l = m := by simpa using he
    rw [← he2]
    let t0 : Tp pr := .b (show (decide ((↑l.length : Int) < (↑l.length : Int))) = false by simp)
    exact .tp [t0] (by kernel_rfl)
  | x :: rest, m, he => by
    have hll : (l.length : Int) = m.length + 1 + rest.length := by simp [he]; omega
    have hll2 : l.length = m.length + 1 + rest.length := by omega
    have hg : lkp (l.map intt) (m.length : Int) = some [T.int .i64 x] := by rw [he]; simp [intt]
    have hn := l15New_ev o x ho
    have ih := cpKL_ev h o l hl ho mk d n R rest (m ++ [x]) (by simp [he])
    rw [show ints ((m ++ [x]).map (newOf o)) = (ints (m.map (newOf o))).append [[C.t (.int .i64 (newOf o x))]] by simp [ints, intc], List.length_append, List.length_singleton] at ih
    let t0 : Tp pr := .b (show (decide ((↑m.length : Int) < (↑l.length : Int))) = true by (simp; omega))
    let t1 : Tp pr := .g .row (show (lkp (List.map intt l) (↑m.length : Int)) = some ([T.int IntKind.i64 x]) from hg)
    let t10 : Tp pr := .m (show (decide ((ints (List.map (newOf o) m)).length = m.length ∧ (0 : Nat) + m.length ≤ m.length ∧ m.length + (1 : Nat) ≤ (4294967296 : Nat))) = true by (simp; omega))
    let t11 : Tp pr := .b (show (decide (m.length + (1 : Nat) ≤ m.length)) = false by simp)
    let t13 : Tp pr := .n .crows (show ((List.take m.length (ints (List.map (newOf o) m))).append (List.take (1 : Nat) (List.drop (0 : Nat) [[C.t (T.int IntKind.i64 (newOf o x))]]))) = ints (List.map (newOf o) m) ++ [[C.t (T.int IntKind.i64 (newOf o x))]] by simp)
    let t17 : Tp pr := .i (wrap_i64 (a := (↑m.length : Int) + (1 : Int)) (by omega) (by omega))
    exact .tp [t0, t1, .m (rfl : true = true), .m (rfl : true = true), .m (rfl : true = true), .m (rfl : true = true), .a (hn), .m (rfl : true = true), .m (rfl : true = true), .m (rfl : true = true), t10, t11, .c (rfl : (m.length + (1 : Nat)) = _), t13, .m (rfl : true = true), .m (rfl : true = true), .m (rfl : true = true), t17, .a (ih)] (by kernel_rfl)
theorem cpOL_ev (h : Hp) (hg : GoodH h) (hl : (order h).length ≤ 40) : ∀ (rest dn : List Int), order h = dn ++ rest →
    Ev pr (.loop (lq pr 52 0) (at_ [(1, .ptr 0 1 0 0), (2, .ptr 1 1 0 0), (3, isq (order h)), (4, .ptr 2 1 0 0), (15, isq (order h)), (16, i64 (order h).length), (17, i64 dn.length)]
        [.box [osq h.objects, isq h.roots], .box [.t .nils, .t .nils], .box [.vec 3 dn.length 2 0 dn.length, .t .nils], .vec true 2 (rowO (dn.map fun k => copyObj (order h) (objAt h k)))] 0))
      (.exit 0 (at_ [(1, .ptr 0 1 0 0), (2, .ptr 1 1 0 0), (3, isq (order h)), (4, .ptr 2 1 0 0)]
        [.box [osq h.objects, isq h.roots], .box [.t .nils, .t .nils], .box [.vec 3 (order h).length 2 0 (order h).length, .t .nils], .vec true 2 (rowO ((order h).map fun k => copyObj (order h) (objAt h k)))] 0))
  | [], dn, he => by
    have hll : ((order h).length : Int) = dn.length := by simp [he]
    have he2 : order h = dn := by simpa using he
    rw [← he2]
    let t0 : Tp pr := .b (show (decide ((↑(order h).length : Int) < (↑(order h).length : Int))) = false by simp)
    exact .tp [t0] (by kernel_rfl)
  | x :: rest, dn, he => by
    have hll : ((order h).length : Int) = dn.length + 1 + rest.length := by simp [he]; omega
    have hgx : lkp ((order h).map intt) (dn.length : Int) = some [T.int .i64 x] := by rw [he]; simp [intt]
    have hb := order_bd hg x (by simp [he])
    have hlk := objAt_lkp hb.1 hb.2
    have hm := hg.llen _ (objAt_mem hb.1 hb.2)
    have ih := cpOL_ev h hg hl rest (dn ++ [x]) (by simp [he])
    have kl := cpKL_ev h (order h) (objAt h x).links (by omega) (by omega) (objAt h x).mark dn.length dn.length (rowO (dn.map fun k => copyObj (order h) (objAt h k))) (objAt h x).links [] rfl
    rw [List.map_append, show List.map (fun k => copyObj (order h) (objAt h k)) [x] = [copyObj (order h) (objAt h x)] from rfl, rowO_snoc,
      show (copyObj (order h) (objAt h x)).mark = (objAt h x).mark from rfl, show (copyObj (order h) (objAt h x)).links = (objAt h x).links.map (newOf (order h)) from rfl, List.map_map, List.length_append, List.length_singleton] at ih
    let t0 : Tp pr := .b (show (decide ((↑dn.length : Int) < (↑(order h).length : Int))) = true by (simp; omega))
    let t1 : Tp pr := .g .row (show (lkp (List.map intt (order h)) (↑dn.length : Int)) = some ([T.int IntKind.i64 x]) from hgx)
    let t2 : Tp pr := .g .row (show (lkp (List.map Obj.ce h.objects) x) = some ((objAt h x).ce) from hlk)
    let t3 : Tp pr := .g .row (show (lkp (List.map Obj.ce h.objects) x) = some ((objAt h x).ce) from hlk)
    let t4 : Tp pr := .i (show ((↑(List.map intt (objAt h x).links).length : Int) : Int) = (↑(objAt h x).links.length : Int) by simp)
    let t6 : Tp pr := .m (show (decide ((ints (List.map (newOf (order h)) (objAt h x).links)).length = (objAt h x).links.length ∧ (0 : Nat) + (objAt h x).links.length ≤ (objAt h x).links.length)) = true by simp)
    let t7 : Tp pr := .n .rows (show (List.map (fun x => List.map C.fz x) (List.take (objAt h x).links.length (List.drop (0 : Nat) (ints (List.map (newOf (order h)) (objAt h x).links))))) = List.map (intt ∘ newOf (order h)) (objAt h x).links by simp)
    let t9 : Tp pr := .m (show (decide ((rowO (List.map (fun k => copyObj (order h) (objAt h k)) dn)).length = dn.length ∧ (0 : Nat) + dn.length ≤ dn.length ∧ dn.length + (1 : Nat) ≤ (4294967296 : Nat))) = true by (simp; omega))
    let t10 : Tp pr := .b (show (decide (dn.length + (1 : Nat) ≤ dn.length)) = false by simp)
    let t12 : Tp pr := .n .crows (show ((List.take dn.length (rowO (List.map (fun k => copyObj (order h) (objAt h k)) dn))).append (List.take (1 : Nat) (List.drop (0 : Nat) [[C.t (T.int IntKind.i64 (objAt h x).mark), C.t (T.seq (1 : Nat) (List.map (intt ∘ newOf (order h)) (objAt h x).links))]]))) = rowO (List.map (fun k => copyObj (order h) (objAt h k)) dn) ++ [[C.t (T.int IntKind.i64 (objAt h x).mark), C.t (T.seq (1 : Nat) (List.map (intt ∘ newOf (order h)) (objAt h x).links))]] by simp)
    let t13 : Tp pr := .i (wrap_i64 (a := (↑dn.length : Int) + (1 : Int)) (by omega) (by omega))
    exact .tp [t0, t1, t2, t3, t4, .a (kl), t6, t7, .m (rfl : true = true), t9, t10, .c (rfl : (dn.length + (1 : Nat)) = _), t12, t13, .a (ih)] (by kernel_rfl)
theorem cpRL_ev (o l : List Int) (hl : l.length ≤ 1048576) (ho : o.length ≤ 1048576) (n : Nat) (R : List (List C)) : ∀ (rest m : List Int), l = m ++ rest →
    Ev pr (.loop (lq pr 52 2) (at_ [(2, .ptr 0 1 0 0), (3, isq o), (4, .ptr 1 1 0 0), (56, isq l), (57, i64 l.length), (58, i64 m.length)]
        [.box [.t .nils, .t .nils], .box [.vec 2 n 2 0 n, .vec 3 m.length 1 0 m.length], .vec true 2 R, .vec true 1 (ints (m.map (newOf o)))] 0))
      (.exit 4 (at_ [(2, .ptr 0 1 0 0), (4, .ptr 1 1 0 0)]
        [.box [.t .nils, .t .nils], .box [.vec 2 n 2 0 n, .vec 3 l.length 1 0 l.length], .vec true 2 R, .vec true 1 (ints (l.map (newOf o)))] 0))
  | [], m, he => by
    have hll : (l.length : Int) = m.length := by simp [he]
    have he2 : l = m := by simpa using he
    rw [← he2]
    let t0 : Tp pr := .b (show (decide ((↑l.length : Int) < (↑l.length : Int))) = false by simp)
    exact .tp [t0] (by kernel_rfl)
  | x :: rest, m, he => by
    have hll : (l.length : Int) = m.length + 1 + rest.length := by simp [he]; omega
    have hll2 : l.length = m.length + 1 + rest.length := by omega
    have hg : lkp (l.map intt) (m.length : Int) = some [T.int .i64 x] := by rw [he]; simp [intt]
    have hn := l15New_ev o x ho
    have ih := cpRL_ev o l hl ho n R rest (m ++ [x]) (by simp [he])
    rw [show ints ((m ++ [x]).map (newOf o)) = (ints (m.map (newOf o))).append [[C.t (.int .i64 (newOf o x))]] by simp [ints, intc], List.length_append, List.length_singleton] at ih
    let t0 : Tp pr := .b (show (decide ((↑m.length : Int) < (↑l.length : Int))) = true by (simp; omega))
    let t1 : Tp pr := .g .row (show (lkp (List.map intt l) (↑m.length : Int)) = some ([T.int IntKind.i64 x]) from hg)
    let t10 : Tp pr := .m (show (decide ((ints (List.map (newOf o) m)).length = m.length ∧ (0 : Nat) + m.length ≤ m.length ∧ m.length + (1 : Nat) ≤ (4294967296 : Nat))) = true by (simp; omega))
    let t11 : Tp pr := .b (show (decide (m.length + (1 : Nat) ≤ m.length)) = false by simp)
    let t13 : Tp pr := .n .crows (show ((List.take m.length (ints (List.map (newOf o) m))).append (List.take (1 : Nat) (List.drop (0 : Nat) [[C.t (T.int IntKind.i64 (newOf o x))]]))) = ints (List.map (newOf o) m) ++ [[C.t (T.int IntKind.i64 (newOf o x))]] by simp)
    let t17 : Tp pr := .i (wrap_i64 (a := (↑m.length : Int) + (1 : Int)) (by omega) (by omega))
    exact .tp [t0, t1, .m (rfl : true = true), .m (rfl : true = true), .m (rfl : true = true), .m (rfl : true = true), .a (hn), .m (rfl : true = true), .m (rfl : true = true), .m (rfl : true = true), t10, t11, .c (rfl : (m.length + (1 : Nat)) = _), t13, .m (rfl : true = true), .m (rfl : true = true), .m (rfl : true = true), t17, .a (ih)] (by kernel_rfl)
@[local simp] theorem take_mapV {α β : Type} (f : α → β) (l : List α) : List.take l.length (l.map f) = l.map f := List.take_of_length_le (by simp)
theorem ordlen {h : Hp} (hg : GoodH h) : (order h).length ≤ 40 := by
  have := nodup_len _ (order h) (order_nodup h) (order_bd hg)
  have := hg.objs
  omega
def cpH (h : Hp) : List Obj := (order h).map fun k => copyObj (order h) (objAt h k)
theorem l15Copy_ev (h : Hp) (hg : GoodH h) : Ev pr (.call 52 [vs h.ce] []) (.val (.agg [.vec 0 (copyH h).objects.length 2 0 (copyH h).objects.length, .vec 1 (copyH h).roots.length 1 0 (copyH h).roots.length])
    [.vec true 2 (rowO (copyH h).objects), .vec true 1 (ints (copyH h).roots)]) := by
  have o := l15Order_ev h hg
  have hl := ordlen hg
  have hr := hg.rlen
  have g := cpOL_ev h hg hl (order h) [] rfl
  have g2 := cpRL_ev (order h) h.roots (by omega) (by omega) (order h).length (rowO ((order h).map fun k => copyObj (order h) (objAt h k))) h.roots [] rfl
  rw [show (copyH h).objects.length = (order h).length by simp [copyH], show (copyH h).roots.length = h.roots.length by simp [copyH],
    show (copyH h).objects = (order h).map fun k => copyObj (order h) (objAt h k) from rfl, show (copyH h).roots = h.roots.map (newOf (order h)) from rfl]
  let t1 : Tp pr := .i (show ((↑(List.map intt (order h)).length : Int) : Int) = (↑(order h).length : Int) by simp)
  let t3 : Tp pr := .i (show ((↑(List.map intt h.roots).length : Int) : Int) = (↑h.roots.length : Int) by simp)
  exact .tp [.a (o), t1, .a (g), t3, .a (g2)] (by kernel_rfl)
end Go.Ev

/- CopyHeap: the program's and the reference's, and the law. -/
namespace Go.Ev
set_option linter.unusedVariables false
set_option linter.unusedSimpArgs false
open Go.Proofs
set_option maxRecDepth 100000
set_option linter.unusedVariables false
set_option maxHeartbeats 4000000
attribute [local simp] obcc_take3 ints_take3 obcc_flat3 ints_flat3 markI_len ints_takeC
@[local simp] theorem names_take2 (N : Nat) (l : List Int) : List.take N (ints (namesOf N l)) = ints (namesOf N l) := List.take_of_length_le (by simp)
theorem namesOf_snoc (N : Nat) (l : List Int) : namesOf (N + 1) l = namesOf N l ++ [newOf l N] := by simp [namesOf, List.range_succ]
theorem numL_ev (h : Hp) (o : List Int) (ho : o.length ≤ 1048576) (N : Nat) (hN : N ≤ 40) : ∀ (n i : Nat), i + n = N →
    Ev pr (.loop (lq pr 14 0) (at_ [(1, .ptr 0 1 0 0), (2, .ptr 1 1 0 0), (5, isq o), (6, .vec 2 i 1 0 i), (16, i64 N), (17, i64 i)]
        [.box [osq h.objects, isq h.roots], .box [.t .nils, .t .nils], .vec true 1 (ints (namesOf i o))] 0))
      (.exit 0 (at_ [(1, .ptr 0 1 0 0), (2, .ptr 1 1 0 0), (6, .vec 2 N 1 0 N)]
        [.box [osq h.objects, isq h.roots], .box [.t .nils, .t .nils], .vec true 1 (ints (namesOf N o))] 0))
  | 0, i, hi => by
    obtain rfl : i = N := by omega
    let t0 : Tp pr := .b (show (decide ((↑i : Int) < (↑i : Int))) = false by simp)
    exact .tp [t0] (by kernel_rfl)
  | n + 1, i, hi => by
    have hlt : (i : Int) < N := by omega
    have hn := l15New_ev o i ho
    have ih := numL_ev h o ho N hN n (i + 1) (by omega)
    rw [namesOf_snoc, ints_app, show ints [newOf o i] = [[C.t (.int .i64 (newOf o i))]] from rfl] at ih
    let t0 : Tp pr := .b (show (decide ((↑i : Int) < (↑N : Int))) = true by (simp; omega))
    let t3 : Tp pr := .m (show (decide ((ints (namesOf i o)).length = i ∧ (0 : Nat) + i ≤ i ∧ i + (1 : Nat) ≤ (4294967296 : Nat))) = true by (simp; omega))
    let t4 : Tp pr := .b (show (decide (i + (1 : Nat) ≤ i)) = false by simp)
    let t6 : Tp pr := .n .crows (show ((List.take i (ints (namesOf i o))).append (List.take (1 : Nat) (List.drop (0 : Nat) [[C.t (T.int IntKind.i64 (newOf o (↑i : Int)))]]))) = ints (namesOf i o) ++ [[C.t (T.int IntKind.i64 (newOf o (↑i : Int)))]] by simp)
    let t7 : Tp pr := .i (wrap_i64 (a := (↑i : Int) + (1 : Int)) (by omega) (by omega))
    exact .tp [t0, .a (hn), .m (rfl : true = true), t3, t4, .c (rfl : (i + (1 : Nat)) = _), t6, t7, .a (ih)] (by kernel_rfl)
theorem CopySF_ev (h : Hp) (h1 : h.objects.length ≤ 1048576) (h2 : ∀ x ∈ h.objects, x.links.length ≤ 1048576) (h3 : h.roots.length ≤ 1048576) (hg : goodHeap h = false) :
    Ev pr (.call 14 [vs h.ce] []) (.val (.tup [vs (Hp.mk [] []).ce, .t (.seq 1 []), bl false]) []) := by
  have e := GoodHeapS_ev h h1 h2 h3
  rw [hg] at e
  exact .tp [.a (e), .b (rfl : true = true)] (by kernel_rfl)
theorem CopyST_ev (h : Hp) (h1 : h.objects.length ≤ 1048576) (h2 : ∀ x ∈ h.objects, x.links.length ≤ 1048576) (h3 : h.roots.length ≤ 1048576) (hg : goodHeap h = true) :
    Ev pr (.call 14 [vs h.ce] []) (.val (.tup [.agg [.vec 0 (copyH h).objects.length 2 0 (copyH h).objects.length, .vec 1 (copyH h).roots.length 1 0 (copyH h).roots.length], .vec 2 h.objects.length 1 0 h.objects.length, bl true]) [.vec true 2 (rowO (copyH h).objects), .vec true 1 (ints (copyH h).roots), .vec true 1 (ints (namesOf h.objects.length (order h)))]) := by
  have e := GoodHeapS_ev h h1 h2 h3
  rw [hg] at e
  have gd := goodHeap_ok hg
  have hN := gd.objs
  have o := l15Order_ev h gd
  have ol := ordlen gd
  have c := l15Copy_ev h gd
  have l := numL_ev h (order h) (by omega) h.objects.length hN h.objects.length 0 (by omega)
  rw [show namesOf 0 (order h) = [] from rfl] at l
  let t3 : Tp pr := .i (show ((↑(List.map Obj.ce h.objects).length : Int) : Int) = (↑h.objects.length : Int) by simp)
  exact .tp [.a (e), .b (rfl : false = false), .a (o), t3, .a (l), .a (c)] (by kernel_rfl)
theorem CopyIF_ev (h : Hp) (h1 : h.objects.length ≤ 1048576) (h2 : ∀ x ∈ h.objects, x.links.length ≤ 1048576) (h3 : h.roots.length ≤ 1048576) (hg : goodHeap h = false) :
    Ev pr (.call 15 [vs h.ce] []) (.val (.tup [vs (Hp.mk [] []).ce, .t (.seq 1 []), bl false]) []) := by
  have e := GoodHeapI_ev h h1 h2 h3
  rw [hg] at e
  exact .tp [.a (e), .b (rfl : true = true)] (by kernel_rfl)
theorem CopyIT_ev (h : Hp) (h1 : h.objects.length ≤ 1048576) (h2 : ∀ x ∈ h.objects, x.links.length ≤ 1048576) (h3 : h.roots.length ≤ 1048576) (hg : goodHeap h = true) :
    Ev pr (.call 15 [vs h.ce] []) (.val (.tup [vs (copyH h).ce, isq (namesOf h.objects.length (order h)), bl true]) []) := by
  have e := GoodHeapI_ev h h1 h2 h3
  rw [hg] at e
  have c := copyHeap_ev h (goodHeap_ok hg)
  let t3 : Tp pr := .m (show (decide ((List.map Obj.cc (copyH h).objects).length = (copyH h).objects.length ∧ (0 : Nat) + (copyH h).objects.length ≤ (copyH h).objects.length)) = true by simp)
  let t4 : Tp pr := .n .rows (show (List.map (fun x => List.map C.fz x) (List.take (copyH h).objects.length (List.drop (0 : Nat) (List.map Obj.cc (copyH h).objects)))) = List.map Obj.ce (copyH h).objects by simp)
  let t5 : Tp pr := .m (show (decide ((ints (copyH h).roots).length = (copyH h).roots.length ∧ (0 : Nat) + (copyH h).roots.length ≤ (copyH h).roots.length)) = true by simp)
  let t6 : Tp pr := .n .rows (show (List.map (fun x => List.map C.fz x) (List.take (copyH h).roots.length (List.drop (0 : Nat) (ints (copyH h).roots)))) = List.map intt (copyH h).roots by simp)
  let t7 : Tp pr := .m (show (decide ((ints (namesOf h.objects.length (order h))).length = h.objects.length ∧ (0 : Nat) + h.objects.length ≤ h.objects.length)) = true by simp)
  let t8 : Tp pr := .n .rows (show (List.map (fun x => List.map C.fz x) (List.take h.objects.length (List.drop (0 : Nat) (ints (namesOf h.objects.length (order h)))))) = List.map intt (namesOf h.objects.length (order h)) by simp)
  exact .tp [.a (e), .b (rfl : false = false), .a (c), t3, t4, t5, t6, t7, t8] (by kernel_rfl)
theorem copyH_bds {h : Hp} (hg : GoodH h) : (copyH h).objects.length ≤ 40 ∧ (∀ x ∈ (copyH h).objects, x.links.length ≤ 4) ∧ (copyH h).roots.length ≤ 10 := by
  refine ⟨by have := ordlen hg; simpa [copyH] using this, fun x hx => ?_, by have := hg.rlen; simpa [copyH] using this⟩
  obtain ⟨k, hk, rfl⟩ := List.mem_map.1 hx
  have hb := order_bd hg k hk
  have := hg.llen _ (objAt_mem hb.1 hb.2)
  simpa [copyObj] using this
end Go.Ev

/- Rows and objects that are the same. -/
namespace Go.Ev
set_option linter.unusedVariables false
set_option linter.unusedSimpArgs false
open Go.Proofs
set_option maxRecDepth 100000
set_option linter.unusedVariables false
set_option maxHeartbeats 2000000
def eqOut (t : Bool) : Out := if t = true then .exit 0 (at_ [] [] 0) else .ret (at_ [(4, bl false)] [] 0)
theorem eqSL_ev : ∀ (ra rb m : List Int), ra.length = rb.length → (m ++ ra).length ≤ 1048576 →
    Ev pr (.loop (lq pr 58 0) (at_ [(0, isq (m ++ ra)), (1, isq (m ++ rb)), (12, i64 (m ++ ra).length), (13, i64 m.length)] [] 0)) (eqOut (decide (ra = rb)))
  | [], rb, m, hl, hb => by
    obtain rfl : rb = [] := List.length_eq_zero_iff.1 hl.symm
    have hlen : ((m ++ ([] : List Int)).length : Int) = m.length := by simp
    rw [show eqOut (decide (([] : List Int) = [])) = .exit 0 (at_ [] [] 0) by simp [eqOut]]
    let t0 : Tp pr := .b (show (decide ((↑m.length : Int) < (↑(m ++ []).length : Int))) = false by simp)
    exact .tp [t0] (by kernel_rfl)
  | x :: ra, [], m, hl, hb => by simp at hl
  | x :: ra, y :: rb, m, hl, hb => by
    have hlen : ((m ++ x :: ra).length : Int) = m.length + 1 + ra.length := by simp; omega
    have hlen2 : (m ++ x :: ra).length = m.length + 1 + ra.length := by simp; omega
    have hg : lkp ((m ++ x :: ra).map intt) (m.length : Int) = some [T.int .i64 x] := by simp [intt]
    have hg2 : lkp ((m ++ y :: rb).map intt) (m.length : Int) = some [T.int .i64 y] := by simp [intt]
    by_cases hx : x = y
    · subst hx
      have ih := eqSL_ev ra rb (m ++ [x]) (by simpa using hl) (by simpa using hb)
      rw [List.append_assoc, List.append_assoc, List.singleton_append, List.singleton_append, List.length_append (bs := [x])] at ih
      rw [show decide (x :: ra = x :: rb) = decide (ra = rb) by simp]
      cases hd : decide (ra = rb) with
      | true =>
        rw [hd, show eqOut true = .exit 0 (at_ [] [] 0) from rfl] at ih
        rw [show eqOut true = .exit 0 (at_ [] [] 0) from rfl]
        let t0 : Tp pr := .b (show (decide ((↑m.length : Int) < (↑(m ++ x :: ra).length : Int))) = true by (simp; omega))
        let t3 : Tp pr := .g .row (show (lkp (List.map intt (m ++ x :: ra)) (↑m.length : Int)) = some ([T.int IntKind.i64 x]) from hg)
        let t8 : Tp pr := .g .row (show (lkp (List.map intt (m ++ x :: rb)) (↑m.length : Int)) = some ([T.int IntKind.i64 x]) from hg2)
        let t13 : Tp pr := .i (wrap_i64 (a := (↑m.length : Int) + (1 : Int)) (by omega) (by omega))
        exact .tp [t0, .m (rfl : true = true), .m (rfl : true = true), t3, .m (rfl : true = true), .m (rfl : true = true), .m (rfl : true = true), .m (rfl : true = true), t8, .m (rfl : true = true), .m (rfl : true = true), .m (rfl : true = true), .b (show (x != x) = false by simp), t13, .a (ih)] (by kernel_rfl)
      | false =>
        rw [hd, show eqOut false = .ret (at_ [(4, bl false)] [] 0) from rfl] at ih
        rw [show eqOut false = .ret (at_ [(4, bl false)] [] 0) from rfl]
        let t0 : Tp pr := .b (show (decide ((↑m.length : Int) < (↑(m ++ x :: ra).length : Int))) = true by (simp; omega))
        let t3 : Tp pr := .g .row (show (lkp (List.map intt (m ++ x :: ra)) (↑m.length : Int)) = some ([T.int IntKind.i64 x]) from hg)
        let t8 : Tp pr := .g .row (show (lkp (List.map intt (m ++ x :: rb)) (↑m.length : Int)) = some ([T.int IntKind.i64 x]) from hg2)
        let t13 : Tp pr := .i (wrap_i64 (a := (↑m.length : Int) + (1 : Int)) (by omega) (by omega))
        exact .tp [t0, .m (rfl : true = true), .m (rfl : true = true), t3, .m (rfl : true = true), .m (rfl : true = true), .m (rfl : true = true), .m (rfl : true = true), t8, .m (rfl : true = true), .m (rfl : true = true), .m (rfl : true = true), .b (show (x != x) = false by simp), t13, .a (ih)] (by kernel_rfl)
    · rw [show decide (x :: ra = y :: rb) = false by simp [hx], show eqOut false = .ret (at_ [(4, bl false)] [] 0) from rfl]
      let t0 : Tp pr := .b (show (decide ((↑m.length : Int) < (↑(m ++ x :: ra).length : Int))) = true by (simp; omega))
      let t3 : Tp pr := .g .row (show (lkp (List.map intt (m ++ x :: ra)) (↑m.length : Int)) = some ([T.int IntKind.i64 x]) from hg)
      let t8 : Tp pr := .g .row (show (lkp (List.map intt (m ++ y :: rb)) (↑m.length : Int)) = some ([T.int IntKind.i64 y]) from hg2)
      let t12 : Tp pr := .b (show (x != y) = true by (simp; omega))
      exact .tp [t0, .m (rfl : true = true), .m (rfl : true = true), t3, .m (rfl : true = true), .m (rfl : true = true), .m (rfl : true = true), .m (rfl : true = true), t8, .m (rfl : true = true), .m (rfl : true = true), .m (rfl : true = true), t12] (by kernel_rfl)
theorem eqS_ev (a b : List Int) (ha : a.length ≤ 1048576) (hb : b.length ≤ 1048576) : Ev pr (.call 58 [isq a, isq b] []) (.val (bl (decide (a = b))) []) := by
  by_cases hl : a.length = b.length
  · have g := eqSL_ev a b [] hl ha
    rw [List.nil_append, List.nil_append] at g
    cases hd : decide (a = b) with
    | true => rw [hd, show eqOut true = .exit 0 (at_ [] [] 0) from rfl] at g; (
      let t0 : Tp pr := .i (show ((↑(List.map intt a).length : Int) : Int) = (↑a.length : Int) by simp)
      let t1 : Tp pr := .i (show ((↑(List.map intt b).length : Int) : Int) = (↑b.length : Int) by simp)
      let t2 : Tp pr := .b (show ((↑a.length : Int) != (↑b.length : Int)) = false by (simp; omega))
      let t3 : Tp pr := .i (show ((↑(List.map intt a).length : Int) : Int) = (↑a.length : Int) by simp)
      exact .tp [t0, t1, t2, t3, .a (g)] (by kernel_rfl))
    | false => rw [hd, show eqOut false = .ret (at_ [(4, bl false)] [] 0) from rfl] at g; (
      let t0 : Tp pr := .i (show ((↑(List.map intt a).length : Int) : Int) = (↑a.length : Int) by simp)
      let t1 : Tp pr := .i (show ((↑(List.map intt b).length : Int) : Int) = (↑b.length : Int) by simp)
      let t2 : Tp pr := .b (show ((↑a.length : Int) != (↑b.length : Int)) = false by (simp; omega))
      let t3 : Tp pr := .i (show ((↑(List.map intt a).length : Int) : Int) = (↑a.length : Int) by simp)
      exact .tp [t0, t1, t2, t3, .a (g)] (by kernel_rfl))
  · have hd : decide (a = b) = false := by simp; intro h; exact hl (by rw [h])
    rw [hd]
    have hl2 : ¬ ((a.length : Int) = b.length) := by omega
    let t0 : Tp pr := .i (show ((↑(List.map intt a).length : Int) : Int) = (↑a.length : Int) by simp)
    let t1 : Tp pr := .i (show ((↑(List.map intt b).length : Int) : Int) = (↑b.length : Int) by simp)
    let t2 : Tp pr := .b (show ((↑a.length : Int) != (↑b.length : Int)) = true by (simp; omega))
    exact .tp [t0, t1, t2] (by kernel_rfl)
end Go.Ev

/- Objects that are the same. -/
namespace Go.Ev
set_option linter.unusedVariables false
set_option linter.unusedSimpArgs false
open Go.Proofs
set_option maxRecDepth 100000
set_option linter.unusedVariables false
set_option maxHeartbeats 2000000
theorem alikeL_ev : ∀ (ra rb m : List Int), ra.length = rb.length → (m ++ ra).length ≤ 1048576 →
    Ev pr (.loop (lq pr 53 0) (at_ [(0, isq (m ++ ra)), (1, isq (m ++ rb)), (12, i64 (m ++ ra).length), (13, i64 m.length)] [] 0)) (eqOut (decide (ra = rb)))
  | [], rb, m, hl, hb => by
    obtain rfl : rb = [] := List.length_eq_zero_iff.1 hl.symm
    have hlen : ((m ++ ([] : List Int)).length : Int) = m.length := by simp
    rw [show eqOut (decide (([] : List Int) = [])) = .exit 0 (at_ [] [] 0) by simp [eqOut]]
    let t0 : Tp pr := .b (show (decide ((↑m.length : Int) < (↑(m ++ []).length : Int))) = false by simp)
    exact .tp [t0] (by kernel_rfl)
  | x :: ra, [], m, hl, hb => by simp at hl
  | x :: ra, y :: rb, m, hl, hb => by
    have hlen : ((m ++ x :: ra).length : Int) = m.length + 1 + ra.length := by simp; omega
    have hlen2 : (m ++ x :: ra).length = m.length + 1 + ra.length := by simp; omega
    have hg : lkp ((m ++ x :: ra).map intt) (m.length : Int) = some [T.int .i64 x] := by simp [intt]
    have hg2 : lkp ((m ++ y :: rb).map intt) (m.length : Int) = some [T.int .i64 y] := by simp [intt]
    by_cases hx : x = y
    · subst hx
      have ih := alikeL_ev ra rb (m ++ [x]) (by simpa using hl) (by simpa using hb)
      rw [List.append_assoc, List.append_assoc, List.singleton_append, List.singleton_append, List.length_append (bs := [x])] at ih
      rw [show decide (x :: ra = x :: rb) = decide (ra = rb) by simp]
      cases hd : decide (ra = rb) with
      | true =>
        rw [hd, show eqOut true = .exit 0 (at_ [] [] 0) from rfl] at ih
        rw [show eqOut true = .exit 0 (at_ [] [] 0) from rfl]
        let t0 : Tp pr := .b (show (decide ((↑m.length : Int) < (↑(m ++ x :: ra).length : Int))) = true by (simp; omega))
        let t3 : Tp pr := .g .row (show (lkp (List.map intt (m ++ x :: ra)) (↑m.length : Int)) = some ([T.int IntKind.i64 x]) from hg)
        let t8 : Tp pr := .g .row (show (lkp (List.map intt (m ++ x :: rb)) (↑m.length : Int)) = some ([T.int IntKind.i64 x]) from hg2)
        let t13 : Tp pr := .i (wrap_i64 (a := (↑m.length : Int) + (1 : Int)) (by omega) (by omega))
        exact .tp [t0, .m (rfl : true = true), .m (rfl : true = true), t3, .m (rfl : true = true), .m (rfl : true = true), .m (rfl : true = true), .m (rfl : true = true), t8, .m (rfl : true = true), .m (rfl : true = true), .m (rfl : true = true), .b (show (x != x) = false by simp), t13, .a (ih)] (by kernel_rfl)
      | false =>
        rw [hd, show eqOut false = .ret (at_ [(4, bl false)] [] 0) from rfl] at ih
        rw [show eqOut false = .ret (at_ [(4, bl false)] [] 0) from rfl]
        let t0 : Tp pr := .b (show (decide ((↑m.length : Int) < (↑(m ++ x :: ra).length : Int))) = true by (simp; omega))
        let t3 : Tp pr := .g .row (show (lkp (List.map intt (m ++ x :: ra)) (↑m.length : Int)) = some ([T.int IntKind.i64 x]) from hg)
        let t8 : Tp pr := .g .row (show (lkp (List.map intt (m ++ x :: rb)) (↑m.length : Int)) = some ([T.int IntKind.i64 x]) from hg2)
        let t13 : Tp pr := .i (wrap_i64 (a := (↑m.length : Int) + (1 : Int)) (by omega) (by omega))
        exact .tp [t0, .m (rfl : true = true), .m (rfl : true = true), t3, .m (rfl : true = true), .m (rfl : true = true), .m (rfl : true = true), .m (rfl : true = true), t8, .m (rfl : true = true), .m (rfl : true = true), .m (rfl : true = true), .b (show (x != x) = false by simp), t13, .a (ih)] (by kernel_rfl)
    · rw [show decide (x :: ra = y :: rb) = false by simp [hx], show eqOut false = .ret (at_ [(4, bl false)] [] 0) from rfl]
      let t0 : Tp pr := .b (show (decide ((↑m.length : Int) < (↑(m ++ x :: ra).length : Int))) = true by (simp; omega))
      let t3 : Tp pr := .g .row (show (lkp (List.map intt (m ++ x :: ra)) (↑m.length : Int)) = some ([T.int IntKind.i64 x]) from hg)
      let t8 : Tp pr := .g .row (show (lkp (List.map intt (m ++ y :: rb)) (↑m.length : Int)) = some ([T.int IntKind.i64 y]) from hg2)
      let t12 : Tp pr := .b (show (x != y) = true by (simp; omega))
      exact .tp [t0, .m (rfl : true = true), .m (rfl : true = true), t3, .m (rfl : true = true), .m (rfl : true = true), .m (rfl : true = true), .m (rfl : true = true), t8, .m (rfl : true = true), .m (rfl : true = true), .m (rfl : true = true), t12] (by kernel_rfl)
theorem alike_ev (a b : List Int) (ha : a.length ≤ 1048576) (hb : b.length ≤ 1048576) : Ev pr (.call 53 [isq a, isq b] []) (.val (bl (decide (a = b))) []) := by
  by_cases hl : a.length = b.length
  · have g := alikeL_ev a b [] hl ha
    rw [List.nil_append, List.nil_append] at g
    cases hd : decide (a = b) with
    | true => rw [hd, show eqOut true = .exit 0 (at_ [] [] 0) from rfl] at g; (
      let t0 : Tp pr := .i (show ((↑(List.map intt a).length : Int) : Int) = (↑a.length : Int) by simp)
      let t1 : Tp pr := .i (show ((↑(List.map intt b).length : Int) : Int) = (↑b.length : Int) by simp)
      let t2 : Tp pr := .b (show ((↑a.length : Int) != (↑b.length : Int)) = false by (simp; omega))
      let t3 : Tp pr := .i (show ((↑(List.map intt a).length : Int) : Int) = (↑a.length : Int) by simp)
      exact .tp [t0, t1, t2, t3, .a (g)] (by kernel_rfl))
    | false => rw [hd, show eqOut false = .ret (at_ [(4, bl false)] [] 0) from rfl] at g; (
      let t0 : Tp pr := .i (show ((↑(List.map intt a).length : Int) : Int) = (↑a.length : Int) by simp)
      let t1 : Tp pr := .i (show ((↑(List.map intt b).length : Int) : Int) = (↑b.length : Int) by simp)
      let t2 : Tp pr := .b (show ((↑a.length : Int) != (↑b.length : Int)) = false by (simp; omega))
      let t3 : Tp pr := .i (show ((↑(List.map intt a).length : Int) : Int) = (↑a.length : Int) by simp)
      exact .tp [t0, t1, t2, t3, .a (g)] (by kernel_rfl))
  · have hd : decide (a = b) = false := by simp; intro h; exact hl (by rw [h])
    rw [hd]
    have hl2 : ¬ ((a.length : Int) = b.length) := by omega
    let t0 : Tp pr := .i (show ((↑(List.map intt a).length : Int) : Int) = (↑a.length : Int) by simp)
    let t1 : Tp pr := .i (show ((↑(List.map intt b).length : Int) : Int) = (↑b.length : Int) by simp)
    let t2 : Tp pr := .b (show ((↑a.length : Int) != (↑b.length : Int)) = true by (simp; omega))
    exact .tp [t0, t1, t2] (by kernel_rfl)
theorem sameF_ev (o p : Obj) (ho : o.links.length ≤ 1048576) (hp : p.links.length ≤ 1048576) : Ev pr (.call 57 [vs o.ce, vs p.ce] []) (.val (bl (objEq o p)) []) := by
  have e := eqS_ev o.links p.links ho hp
  unfold objEq
  by_cases hm : o.mark = p.mark
  · rw [decide_eq_true hm, Bool.true_and]
    let t0 : Tp pr := .b (show (decide (o.mark = p.mark)) = true by (simp; omega))
    exact .tp [t0, .a (e)] (by kernel_rfl)
  · rw [decide_eq_false hm, Bool.false_and]
    let t0 : Tp pr := .b (show (decide (o.mark = p.mark)) = false by (simp; omega))
    exact .tp [t0] (by kernel_rfl)
def eqOut6 (t : Bool) : Out := if t = true then .exit 0 (at_ [] [] 0) else .ret (at_ [(6, bl false)] [] 0)
theorem eqOL_ev : ∀ (ra rb m : List Obj), ra.length = rb.length → (m ++ ra).length ≤ 1048576 → (∀ x ∈ ra, x.links.length ≤ 1048576) → (∀ x ∈ rb, x.links.length ≤ 1048576) →
    Ev pr (.loop (lq pr 59 0) (at_ [(1, osq (m ++ rb)), (2, .t (.clo 57 [])), (15, osq (m ++ ra)), (16, i64 (m ++ ra).length), (17, i64 m.length)] [] 0)) (eqOut6 (objsEq ra rb))
  | [], rb, m, hl, hb, h1, h2 => by
    obtain rfl : rb = [] := List.length_eq_zero_iff.1 hl.symm
    have hlen : ((m ++ ([] : List Obj)).length : Int) = m.length := by simp
    rw [show eqOut6 (objsEq [] []) = .exit 0 (at_ [] [] 0) from rfl]
    let t0 : Tp pr := .b (show (decide ((↑m.length : Int) < (↑(m ++ []).length : Int))) = false by simp)
    exact .tp [t0] (by kernel_rfl)
  | x :: ra, [], m, hl, hb, h1, h2 => by simp at hl
  | x :: ra, y :: rb, m, hl, hb, h1, h2 => by
    have hlen : ((m ++ x :: ra).length : Int) = m.length + 1 + ra.length := by simp; omega
    have hlen2 : (m ++ x :: ra).length = m.length + 1 + ra.length := by simp; omega
    have hg : lkp ((m ++ x :: ra).map Obj.ce) (m.length : Int) = some x.ce := by simp
    have hg2 : lkp ((m ++ y :: rb).map Obj.ce) (m.length : Int) = some y.ce := by simp
    have hf := sameF_ev x y (h1 x (by simp)) (h2 y (by simp))
    rw [show objsEq (x :: ra) (y :: rb) = (objEq x y && objsEq ra rb) from rfl]
    cases hx : objEq x y with
    | true =>
      obtain rfl := objEq_iff.1 hx
      rw [hx] at hf
      have ih := eqOL_ev ra rb (m ++ [x]) (by simpa using hl) (by simpa using hb) (fun z hz => h1 z (by simp [hz])) (fun z hz => h2 z (by simp [hz]))
      rw [List.append_assoc, List.append_assoc, List.singleton_append, List.singleton_append, List.length_append (bs := [x])] at ih
      rw [Bool.true_and]
      cases hd : objsEq ra rb with
      | true =>
        rw [hd, show eqOut6 true = .exit 0 (at_ [] [] 0) from rfl] at ih
        rw [show eqOut6 true = .exit 0 (at_ [] [] 0) from rfl]
        let t0 : Tp pr := .b (show (decide ((↑m.length : Int) < (↑(m ++ x :: ra).length : Int))) = true by (simp; omega))
        let t1 : Tp pr := .g .row (show (lkp (List.map Obj.ce (m ++ x :: ra)) (↑m.length : Int)) = some (x.ce) from hg)
        let t2 : Tp pr := .g .row (show (lkp (List.map Obj.ce (m ++ x :: rb)) (↑m.length : Int)) = some (x.ce) from hg2)
        let t5 : Tp pr := .i (wrap_i64 (a := (↑m.length : Int) + (1 : Int)) (by omega) (by omega))
        exact .tp [t0, t1, t2, .a (hf), .b (rfl : false = false), t5, .a (ih)] (by kernel_rfl)
      | false =>
        rw [hd, show eqOut6 false = .ret (at_ [(6, bl false)] [] 0) from rfl] at ih
        rw [show eqOut6 false = .ret (at_ [(6, bl false)] [] 0) from rfl]
        let t0 : Tp pr := .b (show (decide ((↑m.length : Int) < (↑(m ++ x :: ra).length : Int))) = true by (simp; omega))
        let t1 : Tp pr := .g .row (show (lkp (List.map Obj.ce (m ++ x :: ra)) (↑m.length : Int)) = some (x.ce) from hg)
        let t2 : Tp pr := .g .row (show (lkp (List.map Obj.ce (m ++ x :: rb)) (↑m.length : Int)) = some (x.ce) from hg2)
        let t5 : Tp pr := .i (wrap_i64 (a := (↑m.length : Int) + (1 : Int)) (by omega) (by omega))
        exact .tp [t0, t1, t2, .a (hf), .b (rfl : false = false), t5, .a (ih)] (by kernel_rfl)
    | false =>
      rw [hx] at hf
      rw [Bool.false_and, show eqOut6 false = .ret (at_ [(6, bl false)] [] 0) from rfl]
      let t0 : Tp pr := .b (show (decide ((↑m.length : Int) < (↑(m ++ x :: ra).length : Int))) = true by (simp; omega))
      let t1 : Tp pr := .g .row (show (lkp (List.map Obj.ce (m ++ x :: ra)) (↑m.length : Int)) = some (x.ce) from hg)
      let t2 : Tp pr := .g .row (show (lkp (List.map Obj.ce (m ++ y :: rb)) (↑m.length : Int)) = some (y.ce) from hg2)
      exact .tp [t0, t1, t2, .a (hf), .b (rfl : true = true)] (by kernel_rfl)
theorem eqO_ev (a b : List Obj) (ha : a.length ≤ 1048576) (hb : b.length ≤ 1048576) (h1 : ∀ x ∈ a, x.links.length ≤ 1048576) (h2 : ∀ x ∈ b, x.links.length ≤ 1048576) :
    Ev pr (.call 59 [osq a, osq b, .t (.clo 57 [])] []) (.val (bl (objsEq a b)) []) := by
  by_cases hl : a.length = b.length
  · have g := eqOL_ev a b [] hl ha h1 h2
    rw [List.nil_append, List.nil_append] at g
    cases hd : objsEq a b with
    | true => rw [hd, show eqOut6 true = .exit 0 (at_ [] [] 0) from rfl] at g; (
      let t0 : Tp pr := .i (show ((↑(List.map Obj.ce a).length : Int) : Int) = (↑a.length : Int) by simp)
      let t1 : Tp pr := .i (show ((↑(List.map Obj.ce b).length : Int) : Int) = (↑b.length : Int) by simp)
      let t2 : Tp pr := .b (show ((↑a.length : Int) != (↑b.length : Int)) = false by (simp; omega))
      let t3 : Tp pr := .i (show ((↑(List.map Obj.ce a).length : Int) : Int) = (↑a.length : Int) by simp)
      exact .tp [t0, t1, t2, t3, .a (g)] (by kernel_rfl))
    | false => rw [hd, show eqOut6 false = .ret (at_ [(6, bl false)] [] 0) from rfl] at g; (
      let t0 : Tp pr := .i (show ((↑(List.map Obj.ce a).length : Int) : Int) = (↑a.length : Int) by simp)
      let t1 : Tp pr := .i (show ((↑(List.map Obj.ce b).length : Int) : Int) = (↑b.length : Int) by simp)
      let t2 : Tp pr := .b (show ((↑a.length : Int) != (↑b.length : Int)) = false by (simp; omega))
      let t3 : Tp pr := .i (show ((↑(List.map Obj.ce a).length : Int) : Int) = (↑a.length : Int) by simp)
      exact .tp [t0, t1, t2, t3, .a (g)] (by kernel_rfl))
  · rw [objsEq_len hl]
    have hl2 : ¬ ((a.length : Int) = b.length) := by omega
    let t0 : Tp pr := .i (show ((↑(List.map Obj.ce a).length : Int) : Int) = (↑a.length : Int) by simp)
    let t1 : Tp pr := .i (show ((↑(List.map Obj.ce b).length : Int) : Int) = (↑b.length : Int) by simp)
    let t2 : Tp pr := .b (show ((↑a.length : Int) != (↑b.length : Int)) = true by (simp; omega))
    exact .tp [t0, t1, t2] (by kernel_rfl)
end Go.Ev

/- SameHeaps: the program's and the reference's. -/
namespace Go.Ev
set_option linter.unusedVariables false
set_option linter.unusedSimpArgs false
open Go.Proofs
set_option maxRecDepth 100000
set_option linter.unusedVariables false
set_option maxHeartbeats 4000000
attribute [local simp] rowO_len rowO_fz ints_takeV take_mapV obcc_take3 ints_take3 obcc_flat3 ints_flat3 ints_takeC
theorem SameI1_ev (a b : Hp) (a1 : a.objects.length ≤ 1048576) (a2 : ∀ x ∈ a.objects, x.links.length ≤ 1048576) (a3 : a.roots.length ≤ 1048576) (ga : goodHeap a = false) :
    Ev pr (.call 12 [vs a.ce, vs b.ce] []) (.val (.tup [bl false, bl false]) []) := by
  have e := GoodHeapI_ev a a1 a2 a3
  rw [ga] at e
  exact .tp [.a (e), .b (rfl : true = true), .b (rfl : true = true)] (by kernel_rfl)
theorem SameI2_ev (a b : Hp) (a1 : a.objects.length ≤ 1048576) (a2 : ∀ x ∈ a.objects, x.links.length ≤ 1048576) (a3 : a.roots.length ≤ 1048576) (ga : goodHeap a = true)
    (b1 : b.objects.length ≤ 1048576) (b2 : ∀ x ∈ b.objects, x.links.length ≤ 1048576) (b3 : b.roots.length ≤ 1048576) (gb : goodHeap b = false) :
    Ev pr (.call 12 [vs a.ce, vs b.ce] []) (.val (.tup [bl false, bl false]) []) := by
  have e := GoodHeapI_ev a a1 a2 a3
  rw [ga] at e
  have e2 := GoodHeapI_ev b b1 b2 b3
  rw [gb] at e2
  exact .tp [.a (e), .b (rfl : false = false), .a (e2), .b (rfl : true = true)] (by kernel_rfl)
theorem SameI3_ev (a b : Hp) (a1 : a.objects.length ≤ 1048576) (a2 : ∀ x ∈ a.objects, x.links.length ≤ 1048576) (a3 : a.roots.length ≤ 1048576) (ga : goodHeap a = true)
    (b1 : b.objects.length ≤ 1048576) (b2 : ∀ x ∈ b.objects, x.links.length ≤ 1048576) (b3 : b.roots.length ≤ 1048576) (gb : goodHeap b = true) :
    Ev pr (.call 12 [vs a.ce, vs b.ce] []) (.val (.tup [bl (sameH a b), bl true]) []) := by
  have e := GoodHeapI_ev a a1 a2 a3
  rw [ga] at e
  have e2 := GoodHeapI_ev b b1 b2 b3
  rw [gb] at e2
  have ca := copyHeap_ev a (goodHeap_ok ga)
  have cb := copyHeap_ev b (goodHeap_ok gb)
  obtain ⟨n1, n2, n3⟩ := copyH_bds (goodHeap_ok ga)
  obtain ⟨m1, m2, m3⟩ := copyH_bds (goodHeap_ok gb)
  unfold sameH
  generalize copyH a = x at *
  generalize copyH b = y at *
  have q := eqS_ev x.roots y.roots (by omega) (by omega)
  have q2 := eqO_ev x.objects y.objects (by omega) (by omega) (fun z hz => by have := n2 z hz; omega) (fun z hz => by have := m2 z hz; omega)
  cases hr : decide (x.roots = y.roots) with
  | true =>
    rw [hr] at q
    rw [Bool.true_and]
    let t6 : Tp pr := .m (show (decide ((ints x.roots).length = x.roots.length ∧ (0 : Nat) + x.roots.length ≤ x.roots.length)) = true by simp)
    let t7 : Tp pr := .n .rows (show (List.map (fun x => List.map C.fz x) (List.take x.roots.length (List.drop (0 : Nat) (ints x.roots)))) = List.map intt x.roots by simp)
    let t8 : Tp pr := .m (show (decide ((ints y.roots).length = y.roots.length ∧ (0 : Nat) + y.roots.length ≤ y.roots.length)) = true by simp)
    let t9 : Tp pr := .n .rows (show (List.map (fun x => List.map C.fz x) (List.take y.roots.length (List.drop (0 : Nat) (ints y.roots)))) = List.map intt y.roots by simp)
    let t13 : Tp pr := .m (show (decide ((List.map Obj.cc x.objects).length = x.objects.length ∧ (0 : Nat) + x.objects.length ≤ x.objects.length)) = true by simp)
    let t14 : Tp pr := .n .rows (show (List.map (fun x => List.map C.fz x) (List.take x.objects.length (List.drop (0 : Nat) (List.map Obj.cc x.objects)))) = List.map Obj.ce x.objects by simp)
    let t15 : Tp pr := .m (show (decide ((List.map Obj.cc y.objects).length = y.objects.length ∧ (0 : Nat) + y.objects.length ≤ y.objects.length)) = true by simp)
    let t16 : Tp pr := .n .rows (show (List.map (fun x => List.map C.fz x) (List.take y.objects.length (List.drop (0 : Nat) (List.map Obj.cc y.objects)))) = List.map Obj.ce y.objects by simp)
    exact .tp [.a (e), .b (rfl : false = false), .a (e2), .b (rfl : false = false), .a (ca), .a (cb), t6, t7, t8, t9, .a (q), .m (rfl : true = true), .b (rfl : true = true), t13, t14, t15, t16, .a (q2), .m (rfl : true = true)] (by kernel_rfl)
  | false =>
    rw [hr] at q
    rw [Bool.false_and]
    let t6 : Tp pr := .m (show (decide ((ints x.roots).length = x.roots.length ∧ (0 : Nat) + x.roots.length ≤ x.roots.length)) = true by simp)
    let t7 : Tp pr := .n .rows (show (List.map (fun x => List.map C.fz x) (List.take x.roots.length (List.drop (0 : Nat) (ints x.roots)))) = List.map intt x.roots by simp)
    let t8 : Tp pr := .m (show (decide ((ints y.roots).length = y.roots.length ∧ (0 : Nat) + y.roots.length ≤ y.roots.length)) = true by simp)
    let t9 : Tp pr := .n .rows (show (List.map (fun x => List.map C.fz x) (List.take y.roots.length (List.drop (0 : Nat) (ints y.roots)))) = List.map intt y.roots by simp)
    exact .tp [.a (e), .b (rfl : false = false), .a (e2), .b (rfl : false = false), .a (ca), .a (cb), t6, t7, t8, t9, .a (q), .m (rfl : true = true), .b (rfl : false = false)] (by kernel_rfl)
theorem SameS1_ev (a b : Hp) (a1 : a.objects.length ≤ 1048576) (a2 : ∀ x ∈ a.objects, x.links.length ≤ 1048576) (a3 : a.roots.length ≤ 1048576) (ga : goodHeap a = false) :
    Ev pr (.call 10 [vs a.ce, vs b.ce] []) (.val (.tup [bl false, bl false]) []) := by
  have e := GoodHeapS_ev a a1 a2 a3
  rw [ga] at e
  exact .tp [.a (e), .b (rfl : true = true), .b (rfl : true = true)] (by kernel_rfl)
theorem SameS2_ev (a b : Hp) (a1 : a.objects.length ≤ 1048576) (a2 : ∀ x ∈ a.objects, x.links.length ≤ 1048576) (a3 : a.roots.length ≤ 1048576) (ga : goodHeap a = true)
    (b1 : b.objects.length ≤ 1048576) (b2 : ∀ x ∈ b.objects, x.links.length ≤ 1048576) (b3 : b.roots.length ≤ 1048576) (gb : goodHeap b = false) :
    Ev pr (.call 10 [vs a.ce, vs b.ce] []) (.val (.tup [bl false, bl false]) []) := by
  have e := GoodHeapS_ev a a1 a2 a3
  rw [ga] at e
  have e2 := GoodHeapS_ev b b1 b2 b3
  rw [gb] at e2
  exact .tp [.a (e), .b (rfl : false = false), .a (e2), .b (rfl : true = true)] (by kernel_rfl)
@[local simp] theorem rowO_takeW (l : List Obj) : List.take l.length (rowO l) = rowO l := List.take_of_length_le (by simp)
def eqOut45 (t : Bool) : Out := if t = true then .exit 0 (at_ [] [] 0) else .ret (at_ [(4, bl false), (5, bl true)] [] 0)
theorem sameL_ev (rs : List Int) : ∀ (ra rb m : List Obj), ra.length = rb.length → (m ++ ra).length ≤ 1048576 → (∀ x ∈ ra, x.links.length ≤ 1048576) → (∀ x ∈ rb, x.links.length ≤ 1048576) →
    Ev pr (.loop (lq pr 10 0) (at_ [(7, .ptr 0 1 0 0), (38, .vec 1 (m ++ ra).length 2 0 (m ++ ra).length), (39, i64 (m ++ ra).length), (40, i64 m.length)] [.box [.vec 2 (m ++ rb).length 2 0 (m ++ rb).length, .vec 3 rs.length 1 0 rs.length], .vec true 2 (rowO (m ++ ra)), .vec true 2 (rowO (m ++ rb)), .vec true 1 (ints rs)] 0)) (eqOut45 (objsEq ra rb))
  | [], rb, m, hl, hb, h1, h2 => by
    obtain rfl : rb = [] := List.length_eq_zero_iff.1 hl.symm
    have hlen : ((m ++ ([] : List Obj)).length : Int) = m.length := by simp
    rw [show eqOut45 (objsEq [] []) = .exit 0 (at_ [] [] 0) from rfl]
    let t0 : Tp pr := .b (show (decide ((↑m.length : Int) < (↑(m ++ []).length : Int))) = false by simp)
    exact .tp [t0] (by kernel_rfl)
  | x :: ra, [], m, hl, hb, h1, h2 => by simp at hl
  | x :: ra, y :: rb, m, hl, hb, h1, h2 => by
    have hlen : ((m ++ x :: ra).length : Int) = m.length + 1 + ra.length := by simp; omega
    have hlen2 : (m ++ x :: ra).length = m.length + 1 + ra.length := by simp; omega
    have hg : (rowO (m ++ x :: ra))[m.length]? = some [C.t (.int .i64 x.mark), C.t (.seq 1 (x.links.map intt))] := by simp [rowO, Obj.ce]
    have hg2 : (rowO (m ++ y :: rb))[m.length]? = some [C.t (.int .i64 y.mark), C.t (.seq 1 (y.links.map intt))] := by simp [rowO, Obj.ce]
    have hlr : (m ++ y :: rb).length = m.length + 1 + rb.length := by simp; omega
    have hlr2 : ra.length = rb.length := by simpa using hl
    have hf := alike_ev x.links y.links (h1 x (by simp)) (h2 y (by simp))
    rw [show objsEq (x :: ra) (y :: rb) = ((decide (x.mark = y.mark) && decide (x.links = y.links)) && objsEq ra rb) from rfl]
    by_cases hk : x.mark = y.mark
    · rw [decide_eq_true hk, Bool.true_and]
      cases hx : decide (x.links = y.links) with
      | true =>
        have hxy : x = y := objEq_iff.1 (by simp [objEq, hk, of_decide_eq_true hx])
        rw [hx] at hf
        have ih := sameL_ev rs ra rb (m ++ [x]) (by simpa using hl) (by simpa using hb) (fun z hz => h1 z (by simp [hz])) (fun z hz => h2 z (by simp [hz]))
        rw [List.append_assoc, List.append_assoc, List.singleton_append, List.singleton_append, List.length_append (bs := [x])] at ih
        rw [Bool.true_and]
        subst hxy
        cases hd : objsEq ra rb with
        | true =>
          rw [hd, show eqOut45 true = .exit 0 (at_ [] [] 0) from rfl] at ih
          rw [show eqOut45 true = .exit 0 (at_ [] [] 0) from rfl]
          let t0 : Tp pr := .b (show (decide ((↑m.length : Int) < (↑(m ++ x :: ra).length : Int))) = true by (simp; omega))
          let t1 : Tp pr := .m (show (decide ((0 : Int) ≤ (↑m.length : Int) ∧ (↑m.length : Int).toNat < (m ++ x :: ra).length)) = true by simp)
          let t2 : Tp pr := .c (show ((0 : Nat) + (↑m.length : Int).toNat : Nat) = m.length by omega)
          let t3 : Tp pr := .m (show (decide ((rowO (m ++ x :: ra)).length = (m ++ x :: ra).length)) = true by simp)
          let t4 : Tp pr := .g .crow (show ((rowO (m ++ x :: ra))[m.length]?) = some ([C.t (T.int IntKind.i64 x.mark), C.t (T.seq (1 : Nat) (List.map intt x.links))]) from hg)
          let t5 : Tp pr := .m (show (decide ((rowO (m ++ x :: ra)).length = (m ++ x :: ra).length)) = true by simp)
          let t6 : Tp pr := .g .crow (show ((rowO (m ++ x :: ra))[m.length]?) = some ([C.t (T.int IntKind.i64 x.mark), C.t (T.seq (1 : Nat) (List.map intt x.links))]) from hg)
          let t12 : Tp pr := .m (show (decide ((0 : Int) ≤ (↑m.length : Int) ∧ (↑m.length : Int).toNat < (m ++ x :: rb).length)) = true by simp)
          let t13 : Tp pr := .c (show ((0 : Nat) + (↑m.length : Int).toNat : Nat) = m.length by omega)
          let t16 : Tp pr := .m (show (decide ((rowO (m ++ x :: rb)).length = (m ++ x :: rb).length)) = true by simp)
          let t17 : Tp pr := .g .crow (show ((rowO (m ++ x :: rb))[m.length]?) = some ([C.t (T.int IntKind.i64 x.mark), C.t (T.seq (1 : Nat) (List.map intt x.links))]) from hg2)
          let t21 : Tp pr := .b (show (x.mark != x.mark) = false by simp)
          let t27 : Tp pr := .m (show (decide ((0 : Int) ≤ (↑m.length : Int) ∧ (↑m.length : Int).toNat < (m ++ x :: rb).length)) = true by simp)
          let t28 : Tp pr := .c (show ((0 : Nat) + (↑m.length : Int).toNat : Nat) = m.length by omega)
          let t31 : Tp pr := .m (show (decide ((rowO (m ++ x :: rb)).length = (m ++ x :: rb).length)) = true by simp)
          let t32 : Tp pr := .g .crow (show ((rowO (m ++ x :: rb))[m.length]?) = some ([C.t (T.int IntKind.i64 x.mark), C.t (T.seq (1 : Nat) (List.map intt x.links))]) from hg2)
          let t39 : Tp pr := .i (wrap_i64 (a := (↑m.length : Int) + (1 : Int)) (by omega) (by omega))
          exact .tp [t0, t1, t2, t3, t4, t5, t6, .m (rfl : true = true), .m (rfl : true = true), .m (rfl : true = true), .m (rfl : true = true), .m (rfl : true = true), t12, t13, .m (rfl : true = true), .m (rfl : true = true), t16, t17, .m (rfl : true = true), .m (rfl : true = true), .m (rfl : true = true), t21, .m (rfl : true = true), .m (rfl : true = true), .m (rfl : true = true), .m (rfl : true = true), .m (rfl : true = true), t27, t28, .m (rfl : true = true), .m (rfl : true = true), t31, t32, .m (rfl : true = true), .a (hf), .m (rfl : true = true), .m (rfl : true = true), .m (rfl : true = true), .b (rfl : false = false), t39, .a (ih)] (by kernel_rfl)
        | false =>
          rw [hd, show eqOut45 false = .ret (at_ [(4, bl false), (5, bl true)] [] 0) from rfl] at ih
          rw [show eqOut45 false = .ret (at_ [(4, bl false), (5, bl true)] [] 0) from rfl]
          let t0 : Tp pr := .b (show (decide ((↑m.length : Int) < (↑(m ++ x :: ra).length : Int))) = true by (simp; omega))
          let t1 : Tp pr := .m (show (decide ((0 : Int) ≤ (↑m.length : Int) ∧ (↑m.length : Int).toNat < (m ++ x :: ra).length)) = true by simp)
          let t2 : Tp pr := .c (show ((0 : Nat) + (↑m.length : Int).toNat : Nat) = m.length by omega)
          let t3 : Tp pr := .m (show (decide ((rowO (m ++ x :: ra)).length = (m ++ x :: ra).length)) = true by simp)
          let t4 : Tp pr := .g .crow (show ((rowO (m ++ x :: ra))[m.length]?) = some ([C.t (T.int IntKind.i64 x.mark), C.t (T.seq (1 : Nat) (List.map intt x.links))]) from hg)
          let t5 : Tp pr := .m (show (decide ((rowO (m ++ x :: ra)).length = (m ++ x :: ra).length)) = true by simp)
          let t6 : Tp pr := .g .crow (show ((rowO (m ++ x :: ra))[m.length]?) = some ([C.t (T.int IntKind.i64 x.mark), C.t (T.seq (1 : Nat) (List.map intt x.links))]) from hg)
          let t12 : Tp pr := .m (show (decide ((0 : Int) ≤ (↑m.length : Int) ∧ (↑m.length : Int).toNat < (m ++ x :: rb).length)) = true by simp)
          let t13 : Tp pr := .c (show ((0 : Nat) + (↑m.length : Int).toNat : Nat) = m.length by omega)
          let t16 : Tp pr := .m (show (decide ((rowO (m ++ x :: rb)).length = (m ++ x :: rb).length)) = true by simp)
          let t17 : Tp pr := .g .crow (show ((rowO (m ++ x :: rb))[m.length]?) = some ([C.t (T.int IntKind.i64 x.mark), C.t (T.seq (1 : Nat) (List.map intt x.links))]) from hg2)
          let t21 : Tp pr := .b (show (x.mark != x.mark) = false by simp)
          let t27 : Tp pr := .m (show (decide ((0 : Int) ≤ (↑m.length : Int) ∧ (↑m.length : Int).toNat < (m ++ x :: rb).length)) = true by simp)
          let t28 : Tp pr := .c (show ((0 : Nat) + (↑m.length : Int).toNat : Nat) = m.length by omega)
          let t31 : Tp pr := .m (show (decide ((rowO (m ++ x :: rb)).length = (m ++ x :: rb).length)) = true by simp)
          let t32 : Tp pr := .g .crow (show ((rowO (m ++ x :: rb))[m.length]?) = some ([C.t (T.int IntKind.i64 x.mark), C.t (T.seq (1 : Nat) (List.map intt x.links))]) from hg2)
          let t39 : Tp pr := .i (wrap_i64 (a := (↑m.length : Int) + (1 : Int)) (by omega) (by omega))
          exact .tp [t0, t1, t2, t3, t4, t5, t6, .m (rfl : true = true), .m (rfl : true = true), .m (rfl : true = true), .m (rfl : true = true), .m (rfl : true = true), t12, t13, .m (rfl : true = true), .m (rfl : true = true), t16, t17, .m (rfl : true = true), .m (rfl : true = true), .m (rfl : true = true), t21, .m (rfl : true = true), .m (rfl : true = true), .m (rfl : true = true), .m (rfl : true = true), .m (rfl : true = true), t27, t28, .m (rfl : true = true), .m (rfl : true = true), t31, t32, .m (rfl : true = true), .a (hf), .m (rfl : true = true), .m (rfl : true = true), .m (rfl : true = true), .b (rfl : false = false), t39, .a (ih)] (by kernel_rfl)
      | false =>
        rw [hx] at hf
        rw [Bool.false_and, show eqOut45 false = .ret (at_ [(4, bl false), (5, bl true)] [] 0) from rfl]
        let t0 : Tp pr := .b (show (decide ((↑m.length : Int) < (↑(m ++ x :: ra).length : Int))) = true by (simp; omega))
        let t1 : Tp pr := .m (show (decide ((0 : Int) ≤ (↑m.length : Int) ∧ (↑m.length : Int).toNat < (m ++ x :: ra).length)) = true by simp)
        let t2 : Tp pr := .c (show ((0 : Nat) + (↑m.length : Int).toNat : Nat) = m.length by omega)
        let t3 : Tp pr := .m (show (decide ((rowO (m ++ x :: ra)).length = (m ++ x :: ra).length)) = true by simp)
        let t4 : Tp pr := .g .crow (show ((rowO (m ++ x :: ra))[m.length]?) = some ([C.t (T.int IntKind.i64 x.mark), C.t (T.seq (1 : Nat) (List.map intt x.links))]) from hg)
        let t5 : Tp pr := .m (show (decide ((rowO (m ++ x :: ra)).length = (m ++ x :: ra).length)) = true by simp)
        let t6 : Tp pr := .g .crow (show ((rowO (m ++ x :: ra))[m.length]?) = some ([C.t (T.int IntKind.i64 x.mark), C.t (T.seq (1 : Nat) (List.map intt x.links))]) from hg)
        let t12 : Tp pr := .m (show (decide ((0 : Int) ≤ (↑m.length : Int) ∧ (↑m.length : Int).toNat < (m ++ y :: rb).length)) = true by simp)
        let t13 : Tp pr := .c (show ((0 : Nat) + (↑m.length : Int).toNat : Nat) = m.length by omega)
        let t16 : Tp pr := .m (show (decide ((rowO (m ++ y :: rb)).length = (m ++ y :: rb).length)) = true by simp)
        let t17 : Tp pr := .g .crow (show ((rowO (m ++ y :: rb))[m.length]?) = some ([C.t (T.int IntKind.i64 y.mark), C.t (T.seq (1 : Nat) (List.map intt y.links))]) from hg2)
        let t21 : Tp pr := .b (show (x.mark != y.mark) = false by (simp; omega))
        let t27 : Tp pr := .m (show (decide ((0 : Int) ≤ (↑m.length : Int) ∧ (↑m.length : Int).toNat < (m ++ y :: rb).length)) = true by simp)
        let t28 : Tp pr := .c (show ((0 : Nat) + (↑m.length : Int).toNat : Nat) = m.length by omega)
        let t31 : Tp pr := .m (show (decide ((rowO (m ++ y :: rb)).length = (m ++ y :: rb).length)) = true by simp)
        let t32 : Tp pr := .g .crow (show ((rowO (m ++ y :: rb))[m.length]?) = some ([C.t (T.int IntKind.i64 y.mark), C.t (T.seq (1 : Nat) (List.map intt y.links))]) from hg2)
        exact .tp [t0, t1, t2, t3, t4, t5, t6, .m (rfl : true = true), .m (rfl : true = true), .m (rfl : true = true), .m (rfl : true = true), .m (rfl : true = true), t12, t13, .m (rfl : true = true), .m (rfl : true = true), t16, t17, .m (rfl : true = true), .m (rfl : true = true), .m (rfl : true = true), t21, .m (rfl : true = true), .m (rfl : true = true), .m (rfl : true = true), .m (rfl : true = true), .m (rfl : true = true), t27, t28, .m (rfl : true = true), .m (rfl : true = true), t31, t32, .m (rfl : true = true), .a (hf), .m (rfl : true = true), .m (rfl : true = true), .m (rfl : true = true), .b (rfl : true = true)] (by kernel_rfl)
    · rw [decide_eq_false hk, Bool.false_and, Bool.false_and, show eqOut45 false = .ret (at_ [(4, bl false), (5, bl true)] [] 0) from rfl]
      let t0 : Tp pr := .b (show (decide ((↑m.length : Int) < (↑(m ++ x :: ra).length : Int))) = true by (simp; omega))
      let t1 : Tp pr := .m (show (decide ((0 : Int) ≤ (↑m.length : Int) ∧ (↑m.length : Int).toNat < (m ++ x :: ra).length)) = true by simp)
      let t2 : Tp pr := .c (show ((0 : Nat) + (↑m.length : Int).toNat : Nat) = m.length by omega)
      let t3 : Tp pr := .m (show (decide ((rowO (m ++ x :: ra)).length = (m ++ x :: ra).length)) = true by simp)
      let t4 : Tp pr := .g .crow (show ((rowO (m ++ x :: ra))[m.length]?) = some ([C.t (T.int IntKind.i64 x.mark), C.t (T.seq (1 : Nat) (List.map intt x.links))]) from hg)
      let t5 : Tp pr := .m (show (decide ((rowO (m ++ x :: ra)).length = (m ++ x :: ra).length)) = true by simp)
      let t6 : Tp pr := .g .crow (show ((rowO (m ++ x :: ra))[m.length]?) = some ([C.t (T.int IntKind.i64 x.mark), C.t (T.seq (1 : Nat) (List.map intt x.links))]) from hg)
      let t12 : Tp pr := .m (show (decide ((0 : Int) ≤ (↑m.length : Int) ∧ (↑m.length : Int).toNat < (m ++ y :: rb).length)) = true by simp)
      let t13 : Tp pr := .c (show ((0 : Nat) + (↑m.length : Int).toNat : Nat) = m.length by omega)
      let t16 : Tp pr := .m (show (decide ((rowO (m ++ y :: rb)).length = (m ++ y :: rb).length)) = true by simp)
      let t17 : Tp pr := .g .crow (show ((rowO (m ++ y :: rb))[m.length]?) = some ([C.t (T.int IntKind.i64 y.mark), C.t (T.seq (1 : Nat) (List.map intt y.links))]) from hg2)
      let t21 : Tp pr := .b (show (x.mark != y.mark) = true by (simp; omega))
      exact .tp [t0, t1, t2, t3, t4, t5, t6, .m (rfl : true = true), .m (rfl : true = true), .m (rfl : true = true), .m (rfl : true = true), .m (rfl : true = true), t12, t13, .m (rfl : true = true), .m (rfl : true = true), t16, t17, .m (rfl : true = true), .m (rfl : true = true), .m (rfl : true = true), t21, .m (rfl : true = true), .m (rfl : true = true), .m (rfl : true = true), .m (rfl : true = true), .m (rfl : true = true), .m (rfl : true = true), .m (rfl : true = true), .m (rfl : true = true), .m (rfl : true = true), .m (rfl : true = true), .m (rfl : true = true), .b (rfl : true = true)] (by kernel_rfl)
theorem SameS3_ev (a b : Hp) (a1 : a.objects.length ≤ 1048576) (a2 : ∀ x ∈ a.objects, x.links.length ≤ 1048576) (a3 : a.roots.length ≤ 1048576) (ga : goodHeap a = true)
    (b1 : b.objects.length ≤ 1048576) (b2 : ∀ x ∈ b.objects, x.links.length ≤ 1048576) (b3 : b.roots.length ≤ 1048576) (gb : goodHeap b = true) :
    Ev pr (.call 10 [vs a.ce, vs b.ce] []) (.val (.tup [bl (sameH a b), bl true]) []) := by
  have e := GoodHeapS_ev a a1 a2 a3
  rw [ga] at e
  have e2 := GoodHeapS_ev b b1 b2 b3
  rw [gb] at e2
  have ca := l15Copy_ev a (goodHeap_ok ga)
  have cb := l15Copy_ev b (goodHeap_ok gb)
  obtain ⟨n1, n2, n3⟩ := copyH_bds (goodHeap_ok ga)
  obtain ⟨m1, m2, m3⟩ := copyH_bds (goodHeap_ok gb)
  unfold sameH
  generalize copyH a = x at *
  generalize copyH b = y at *
  have q := alike_ev x.roots y.roots (by omega) (by omega)
  cases hr : decide (x.roots = y.roots) with
  | true =>
    rw [hr] at q
    rw [Bool.true_and]
    by_cases hl : x.objects.length = y.objects.length
    · have g := sameL_ev y.roots x.objects y.objects [] hl (by simp; omega) (fun z hz => by have := n2 z hz; omega) (fun z hz => by have := m2 z hz; omega)
      rw [List.nil_append, List.nil_append] at g
      cases hd : objsEq x.objects y.objects with
      | true => rw [hd, show eqOut45 true = .exit 0 (at_ [] [] 0) from rfl] at g; (
        let t6 : Tp pr := .m (show (decide ((ints x.roots).length = x.roots.length ∧ (0 : Nat) + x.roots.length ≤ x.roots.length)) = true by simp)
        let t7 : Tp pr := .n .rows (show (List.map (fun x => List.map C.fz x) (List.take x.roots.length (List.drop (0 : Nat) (ints x.roots)))) = List.map intt x.roots by simp)
        let t8 : Tp pr := .m (show (decide ((ints y.roots).length = y.roots.length ∧ (0 : Nat) + y.roots.length ≤ y.roots.length)) = true by simp)
        let t9 : Tp pr := .n .rows (show (List.map (fun x => List.map C.fz x) (List.take y.roots.length (List.drop (0 : Nat) (ints y.roots)))) = List.map intt y.roots by simp)
        let t13 : Tp pr := .i (rfl : ((↑x.objects.length : Int)) = _)
        let t14 : Tp pr := .i (rfl : ((↑y.objects.length : Int)) = _)
        let t15 : Tp pr := .b (show ((↑x.objects.length : Int) != (↑y.objects.length : Int)) = false by (simp; omega))
        let t16 : Tp pr := .i (rfl : ((↑x.objects.length : Int)) = _)
        exact .tp [.a (e), .b (rfl : false = false), .a (e2), .b (rfl : false = false), .a (ca), .a (cb), t6, t7, t8, t9, .a (q), .m (rfl : true = true), .b (rfl : false = false), t13, t14, t15, t16, .a (g)] (by kernel_rfl))
      | false => rw [hd, show eqOut45 false = .ret (at_ [(4, bl false), (5, bl true)] [] 0) from rfl] at g; (
        let t6 : Tp pr := .m (show (decide ((ints x.roots).length = x.roots.length ∧ (0 : Nat) + x.roots.length ≤ x.roots.length)) = true by simp)
        let t7 : Tp pr := .n .rows (show (List.map (fun x => List.map C.fz x) (List.take x.roots.length (List.drop (0 : Nat) (ints x.roots)))) = List.map intt x.roots by simp)
        let t8 : Tp pr := .m (show (decide ((ints y.roots).length = y.roots.length ∧ (0 : Nat) + y.roots.length ≤ y.roots.length)) = true by simp)
        let t9 : Tp pr := .n .rows (show (List.map (fun x => List.map C.fz x) (List.take y.roots.length (List.drop (0 : Nat) (ints y.roots)))) = List.map intt y.roots by simp)
        let t13 : Tp pr := .i (rfl : ((↑x.objects.length : Int)) = _)
        let t14 : Tp pr := .i (rfl : ((↑y.objects.length : Int)) = _)
        let t15 : Tp pr := .b (show ((↑x.objects.length : Int) != (↑y.objects.length : Int)) = false by (simp; omega))
        let t16 : Tp pr := .i (rfl : ((↑x.objects.length : Int)) = _)
        exact .tp [.a (e), .b (rfl : false = false), .a (e2), .b (rfl : false = false), .a (ca), .a (cb), t6, t7, t8, t9, .a (q), .m (rfl : true = true), .b (rfl : false = false), t13, t14, t15, t16, .a (g)] (by kernel_rfl))
    · rw [objsEq_len hl]
      have hl2 : ¬ ((x.objects.length : Int) = y.objects.length) := by omega
      let t6 : Tp pr := .m (show (decide ((ints x.roots).length = x.roots.length ∧ (0 : Nat) + x.roots.length ≤ x.roots.length)) = true by simp)
      let t7 : Tp pr := .n .rows (show (List.map (fun x => List.map C.fz x) (List.take x.roots.length (List.drop (0 : Nat) (ints x.roots)))) = List.map intt x.roots by simp)
      let t8 : Tp pr := .m (show (decide ((ints y.roots).length = y.roots.length ∧ (0 : Nat) + y.roots.length ≤ y.roots.length)) = true by simp)
      let t9 : Tp pr := .n .rows (show (List.map (fun x => List.map C.fz x) (List.take y.roots.length (List.drop (0 : Nat) (ints y.roots)))) = List.map intt y.roots by simp)
      let t13 : Tp pr := .i (rfl : ((↑x.objects.length : Int)) = _)
      let t14 : Tp pr := .i (rfl : ((↑y.objects.length : Int)) = _)
      let t15 : Tp pr := .b (show ((↑x.objects.length : Int) != (↑y.objects.length : Int)) = true by (simp; omega))
      exact .tp [.a (e), .b (rfl : false = false), .a (e2), .b (rfl : false = false), .a (ca), .a (cb), t6, t7, t8, t9, .a (q), .m (rfl : true = true), .b (rfl : false = false), t13, t14, t15] (by kernel_rfl)
  | false =>
    rw [hr] at q
    rw [Bool.false_and]
    let t6 : Tp pr := .m (show (decide ((ints x.roots).length = x.roots.length ∧ (0 : Nat) + x.roots.length ≤ x.roots.length)) = true by simp)
    let t7 : Tp pr := .n .rows (show (List.map (fun x => List.map C.fz x) (List.take x.roots.length (List.drop (0 : Nat) (ints x.roots)))) = List.map intt x.roots by simp)
    let t8 : Tp pr := .m (show (decide ((ints y.roots).length = y.roots.length ∧ (0 : Nat) + y.roots.length ≤ y.roots.length)) = true by simp)
    let t9 : Tp pr := .n .rows (show (List.map (fun x => List.map C.fz x) (List.take y.roots.length (List.drop (0 : Nat) (ints y.roots)))) = List.map intt y.roots by simp)
    exact .tp [.a (e), .b (rfl : false = false), .a (e2), .b (rfl : false = false), .a (ca), .a (cb), t6, t7, t8, t9, .a (q), .m (rfl : true = true), .b (rfl : true = true), .b (rfl : true = true)] (by kernel_rfl)
end Go.Ev

/- ReachOf: the program's, with names that are ours; what is frozen comes back. -/
namespace Go.Ev
set_option linter.unusedVariables false
set_option linter.unusedSimpArgs false
open Go.Proofs
set_option maxRecDepth 100000
set_option linter.unusedVariables false
set_option maxHeartbeats 4000000
attribute [local simp] ints_takeC
@[local simp] theorem names_takeW (N : Nat) (l : List Int) : List.take N (ints (namesOf N l)) = ints (namesOf N l) := List.take_of_length_le (by simp)
theorem reachI_ev (N : Nat) (hN : N ≤ 40) (l : List Int) : ∀ (m : Nat) (i : Nat) (out : List Int), i + m = N → out.length ≤ i →
    Ev pr (.loop (lq pr 36 0) (at_ [(6, .vec 0 out.length 1 0 out.length), (18, .vec 1 N 1 0 N), (19, i64 N), (20, i64 i)] [.vec true 1 (ints out), .vec true 1 (ints (namesOf N l))] 0))
      (.exit 0 (at_ [(6, .vec 0 (out ++ upto (fun x => l.contains x) m i).length 1 0 (out ++ upto (fun x => l.contains x) m i).length)] [.vec true 1 (ints (out ++ upto (fun x => l.contains x) m i))] 0))
  | 0, i, out, hi, ho => by
    have hu : upto (fun x => l.contains x) 0 (i : Int) = [] := rfl
    rw [hu, List.append_nil]
    let t0 : Tp pr := .b (show (decide ((↑i : Int) < (↑N : Int))) = false by (simp; omega))
    exact .tp [t0] (by kernel_rfl)
  | m + 1, i, out, hi, ho => by
    have hn : i < N := by omega
    have g : (ints (namesOf N l))[i]? = some [C.t (.int .i64 (newOf l i))] := by
      have := ints_get (l := namesOf N l) (k := i) (by simpa using hn)
      rwa [namesOf_getD hn] at this
    by_cases hm : (i : Int) ∈ l
    · have hp := newOf_in hm
      have hc : l.contains (i : Int) = true := by simpa using hm
      have hu : upto (fun x => l.contains x) (m + 1) (i : Int) = (i : Int) :: upto (fun x => l.contains x) m ((i + 1 : Nat) : Int) := by
        rw [upto, if_pos hc]; simp
      have ih := reachI_ev N hN l m (i + 1) (out ++ [(i : Int)]) (by omega) (by simp; omega)
      rw [hu, List.append_cons]
      rw [ints_app, show ints [(i : Int)] = [[C.t (.int .i64 i)]] from rfl, List.length_append, List.length_singleton] at ih
      let t0 : Tp pr := .b (show (decide ((↑i : Int) < (↑N : Int))) = true by (simp; omega))
      let t1 : Tp pr := .m (show (decide ((0 : Int) ≤ (↑i : Int) ∧ (↑i : Int).toNat < N)) = true by simp [*])
      let t2 : Tp pr := .c (show ((0 : Nat) + (↑i : Int).toNat : Nat) = i by omega)
      let t3 : Tp pr := .m (show (decide ((ints (namesOf N l)).length = N)) = true by simp)
      let t4 : Tp pr := .g .crow (show ((ints (namesOf N l))[i]?) = some ([C.t (T.int IntKind.i64 (newOf l (↑i : Int)))]) from g)
      let t5 : Tp pr := .b (show (decide (newOf l (↑i : Int) ≥ (0 : Int))) = true by (simp; omega))
      let t7 : Tp pr := .m (show (decide ((ints out).length = out.length ∧ (0 : Nat) + out.length ≤ out.length ∧ out.length + (1 : Nat) ≤ (4294967296 : Nat))) = true by (simp; omega))
      let t8 : Tp pr := .b (show (decide (out.length + (1 : Nat) ≤ out.length)) = false by simp)
      let t10 : Tp pr := .n .crows (show ((List.take out.length (ints out)).append (List.take (1 : Nat) (List.drop (0 : Nat) [[C.t (T.int IntKind.i64 (↑i : Int))]]))) = ints out ++ [[C.t (T.int IntKind.i64 (↑i : Int))]] by simp)
      let t11 : Tp pr := .i (wrap_i64 (a := (↑i : Int) + (1 : Int)) (by omega) (by omega))
      exact .tp [t0, t1, t2, t3, t4, t5, .m (rfl : true = true), t7, t8, .c (rfl : (out.length + (1 : Nat)) = _), t10, t11, .a (ih)] (by kernel_rfl)
    · have hp := newOf_out hm
      have hc : ¬ l.contains (i : Int) = true := by simpa using hm
      have hu : upto (fun x => l.contains x) (m + 1) (i : Int) = upto (fun x => l.contains x) m ((i + 1 : Nat) : Int) := by
        rw [upto, if_neg hc]; simp
      have ih := reachI_ev N hN l m (i + 1) out (by omega) (by omega)
      rw [hu]
      rw [hp] at g
      let t0 : Tp pr := .b (show (decide ((↑i : Int) < (↑N : Int))) = true by (simp; omega))
      let t1 : Tp pr := .m (show (decide ((0 : Int) ≤ (↑i : Int) ∧ (↑i : Int).toNat < N)) = true by simp [*])
      let t2 : Tp pr := .c (show ((0 : Nat) + (↑i : Int).toNat : Nat) = i by omega)
      let t3 : Tp pr := .m (show (decide ((ints (namesOf N l)).length = N)) = true by simp)
      let t4 : Tp pr := .g .crow (show ((ints (namesOf N l))[i]?) = some ([C.t (T.int IntKind.i64 (-1 : Int))]) from g)
      let t6 : Tp pr := .i (wrap_i64 (a := (↑i : Int) + (1 : Int)) (by omega) (by omega))
      exact .tp [t0, t1, t2, t3, t4, .b (rfl : false = false), t6, .a (ih)] (by kernel_rfl)
@[local simp] theorem ints_takeW (l : List Int) : List.take l.length (l.map intt) = l.map intt := List.take_of_length_le (by simp)
theorem ReachIT_ev (h : Hp) (h1 : h.objects.length ≤ 1048576) (h2 : ∀ x ∈ h.objects, x.links.length ≤ 1048576) (h3 : h.roots.length ≤ 1048576) (hgd : goodHeap h = true) :
    Ev pr (.call 36 [vs h.ce] []) (.val (.tup [isq (reach h), bl true]) []) := by
  have a1 := GoodHeapI_ev h h1 h2 h3
  have hg := goodHeap_ok hgd
  have a2 := copyHeap_ev h hg
  have hN := hg.objs
  have a3 := reachI_ev h.objects.length hN (order h) h.objects.length 0 [] (by omega) (by simp)
  rw [List.nil_append] at a3
  have e : upto (fun x => (order h).contains x) h.objects.length ((0 : Nat) : Int) = reach h := rfl
  rw [e] at a3
  rw [hgd] at a1
  let t3 : Tp pr := .i (rfl : ((↑h.objects.length : Int)) = _)
  let t5 : Tp pr := .m (show (decide ((ints (reach h)).length = (reach h).length ∧ (0 : Nat) + (reach h).length ≤ (reach h).length)) = true by simp)
  let t6 : Tp pr := .n .rows (show (List.map (fun x => List.map C.fz x) (List.take (reach h).length (List.drop (0 : Nat) (ints (reach h))))) = List.map intt (reach h) by simp)
  exact .tp [.a (a1), .b (rfl : false = false), .a (a2), t3, .a (a3), t5, t6] (by kernel_rfl)
theorem ReachIF_ev (h : Hp) (h1 : h.objects.length ≤ 1048576) (h2 : ∀ x ∈ h.objects, x.links.length ≤ 1048576) (h3 : h.roots.length ≤ 1048576) (hgd : goodHeap h = false) :
    Ev pr (.call 36 [vs h.ce] []) (.val (.tup [.t (.seq 1 []), bl false]) []) := by
  have a1 := GoodHeapI_ev h h1 h2 h3
  rw [hgd] at a1
  exact .tp [.a (a1), .b (rfl : true = true)] (by kernel_rfl)
end Go.Ev

/- What is drawn from bytes: next, pick, one, among. -/
namespace Go.Ev
set_option linter.unusedVariables false
set_option linter.unusedSimpArgs false
open Go.Proofs
set_option maxRecDepth 100000
set_option linter.unusedVariables false
set_option maxHeartbeats 2000000
attribute [local simp] vA_simp
theorem nextA_ev (A B : List Int) (b s : Int) (hb : 0 ≤ b ∧ b ≤ 255) (ha : A.length ≤ 50000000) (hlb : (A ++ b :: B).length ≤ 9223372036854775807) :
    Ev pr (.call 100 [.ptr 0 1 0 0] [cuB (A ++ b :: B) A.length s]) (.val (i64 b) [cuB (A ++ b :: B) (A.length + 1) (sdN s b)]) := by
  have hg : lkp ((A ++ b :: B).map u8t) (A.length : Int) = some [T.int .u8 b] := by simp [u8t]
  have hl : ((A ++ b :: B).length : Int) = A.length + 1 + B.length := by simp; omega
  have hl2 : (A ++ b :: B).length = A.length + 1 + B.length := by simp; omega
  have w := wrap_i64 (a := b) (by omega) (by omega)
  unfold cuB sdN
  let t8 : Tp pr := .i (show ((↑(List.map u8t (A ++ b :: B)).length : Int) : Int) = (↑A.length : Int) + ((↑B.length : Int) + (1 : Int)) by simp)
  let t11 : Tp pr := .b (show (decide ((↑A.length : Int) < (↑A.length : Int) + ((↑B.length : Int) + (1 : Int)))) = true by (simp; omega))
  let t20 : Tp pr := .g .row (show (lkp (List.map u8t (A ++ b :: B)) (↑A.length : Int)) = some ([T.int IntKind.u8 b]) from hg)
  let t23 : Tp pr := .i (wrap_i64 (a := b) (by omega) (by omega))
  let t26 : Tp pr := .i (wrap_i64 (a := (↑A.length : Int) + (1 : Int)) (by omega) (by omega))
  let t27 : Tp pr := .i (rfl : (IntKind.u64.wrap (s * (6364136223846793005 : Int))) = _)
  let t28 : Tp pr := .i (wrap_u64 (a := b) (by omega) (by omega))
  let t29 : Tp pr := .i (rfl : (IntKind.u64.wrap (IntKind.u64.wrap (s * (6364136223846793005 : Int)) + b)) = _)
  let t30 : Tp pr := .i (rfl : (IntKind.u64.wrap (IntKind.u64.wrap (IntKind.u64.wrap (s * (6364136223846793005 : Int)) + b) + (1442695040888963407 : Int))) = _)
  let t39 : Tp pr := .i (show ((↑(List.map u8t (A ++ b :: B)).length : Int) : Int) = (↑A.length : Int) + ((↑B.length : Int) + (1 : Int)) by simp)
  let t42 : Tp pr := .b (show (decide ((↑A.length : Int) + (1 : Int) ≤ (↑A.length : Int) + ((↑B.length : Int) + (1 : Int)))) = true by (simp; omega))
  exact .tp [.m (rfl : true = true), .m (rfl : true = true), .m (rfl : true = true), .m (rfl : true = true), .m (rfl : true = true), .m (rfl : true = true), .m (rfl : true = true), .m (rfl : true = true), t8, .m (rfl : true = true), .m (rfl : true = true), t11, .m (rfl : true = true), .m (rfl : true = true), .m (rfl : true = true), .m (rfl : true = true), .m (rfl : true = true), .m (rfl : true = true), .m (rfl : true = true), .m (rfl : true = true), t20, .m (rfl : true = true), .m (rfl : true = true), t23, .m (rfl : true = true), .m (rfl : true = true), t26, t27, t28, t29, t30, .m (rfl : true = true), .m (rfl : true = true), .m (rfl : true = true), .m (rfl : true = true), .m (rfl : true = true), .m (rfl : true = true), .m (rfl : true = true), .m (rfl : true = true), t39, .m (rfl : true = true), .m (rfl : true = true), t42] (by kernel_rfl)
theorem nextB_ev (bs : List Int) (a s : Int) (h0 : (bs.length : Int) ≤ a) (ha : a ≤ 100000000) :
    Ev pr (.call 100 [.ptr 0 1 0 0] [cuB bs a s]) (.val (i64 (vvN (sdN s 0))) [cuB bs (a + 1) (sdN s 0)]) := by
  have hv := vvN_bd (sdN s 0)
  unfold cuB
  unfold vvN at *
  unfold sdN at *
  rw [Int.add_zero] at hv ⊢
  let t8 : Tp pr := .i (show ((↑(List.map u8t bs).length : Int) : Int) = (↑bs.length : Int) by simp)
  let t11 : Tp pr := .b (show (decide (a < (↑bs.length : Int))) = false by (simp; omega))
  let t12 : Tp pr := .i (wrap_i64 (a := a + (1 : Int)) (by omega) (by omega))
  let t13 : Tp pr := .i (rfl : (IntKind.u64.wrap (s * (6364136223846793005 : Int))) = _)
  let t14 : Tp pr := .i (rfl : ((0 : Int) : Int) = (0 : Int))
  let t15 : Tp pr := .i (rfl : (IntKind.u64.wrap (IntKind.u64.wrap (s * (6364136223846793005 : Int)) + (0 : Int))) = _)
  let t16 : Tp pr := .i (rfl : (IntKind.u64.wrap (IntKind.u64.wrap (IntKind.u64.wrap (s * (6364136223846793005 : Int)) + (0 : Int)) + (1442695040888963407 : Int))) = _)
  let t25 : Tp pr := .i (show ((↑(List.map u8t bs).length : Int) : Int) = (↑bs.length : Int) by simp)
  let t28 : Tp pr := .b (show (decide (a + (1 : Int) ≤ (↑bs.length : Int))) = false by (simp; omega))
  let t30 : Tp pr := .i (show ((IntKind.u64.wrap (IntKind.u64.wrap (IntKind.u64.wrap (s * (6364136223846793005 : Int)) + (0 : Int)) + (1442695040888963407 : Int))).fdiv (1099511627776 : Int) : Int) = (IntKind.u64.wrap (IntKind.u64.wrap (IntKind.u64.wrap (s * (6364136223846793005 : Int))) + (1442695040888963407 : Int))).fdiv (1099511627776 : Int) by simp)
  let t31 : Tp pr := .i (show (have x := BitVec.ofInt IntKind.u64.bits ((IntKind.u64.wrap (IntKind.u64.wrap (IntKind.u64.wrap (s * (6364136223846793005 : Int))) + (1442695040888963407 : Int))).fdiv (1099511627776 : Int));
  have y := BitVec.ofInt IntKind.u64.bits (255 : Int);
  match BinOp.and with
  | BinOp.and => IntKind.u64.wrap (↑(x &&& y).toNat : Int)
  | BinOp.or => IntKind.u64.wrap (↑(x ||| y).toNat : Int)
  | BinOp.xor => IntKind.u64.wrap (↑(x ^^^ y).toNat : Int)
  | x_1 => IntKind.u64.wrap (↑(x &&& ~~~y).toNat : Int) : Int) = vA ((IntKind.u64.wrap (IntKind.u64.wrap (IntKind.u64.wrap (s * (6364136223846793005 : Int))) + (1442695040888963407 : Int))).fdiv (1099511627776 : Int)) by simp)
  let t32 : Tp pr := .i (wrap_i64 (a := vA ((IntKind.u64.wrap (IntKind.u64.wrap (IntKind.u64.wrap (s * (6364136223846793005 : Int))) + (1442695040888963407 : Int))).fdiv (1099511627776 : Int))) (by omega) (by omega))
  exact .tpe [.m (rfl : true = true), .m (rfl : true = true), .m (rfl : true = true), .m (rfl : true = true), .m (rfl : true = true), .m (rfl : true = true), .m (rfl : true = true), .m (rfl : true = true), t8, .m (rfl : true = true), .m (rfl : true = true), t11, t12, t13, t14, t15, t16, .m (rfl : true = true), .m (rfl : true = true), .m (rfl : true = true), .m (rfl : true = true), .m (rfl : true = true), .m (rfl : true = true), .m (rfl : true = true), .m (rfl : true = true), t25, .m (rfl : true = true), .m (rfl : true = true), t28, .m (rfl : true = true), t30, t31, t32] (Out.val (V.t (T.int IntKind.i64 (vA ((IntKind.u64.wrap (IntKind.u64.wrap (IntKind.u64.wrap (s * (6364136223846793005 : Int))) + (1442695040888963407 : Int))).fdiv (1099511627776 : Int))))) [Ob.box [V.t (T.seq (1 : Nat) (List.map u8t bs)), V.t (T.int IntKind.i64 (a + (1 : Int))), V.t (T.int IntKind.u64 (IntKind.u64.wrap (IntKind.u64.wrap (IntKind.u64.wrap (s * (6364136223846793005 : Int)) + (0 : Int)) + (1442695040888963407 : Int))))]]) (by kernel_rfl) (congrArg (fun x => Out.val (V.t (T.int IntKind.i64 (vA ((IntKind.u64.wrap (IntKind.u64.wrap (IntKind.u64.wrap (s * (6364136223846793005 : Int))) + (1442695040888963407 : Int))).fdiv (1099511627776 : Int))))) [Ob.box [V.t (T.seq (1 : Nat) (List.map u8t bs)), V.t (T.int IntKind.i64 (a + (1 : Int))), V.t (T.int IntKind.u64 x)]]) (show (IntKind.u64.wrap (IntKind.u64.wrap (IntKind.u64.wrap (s * (6364136223846793005 : Int)) + (0 : Int)) + (1442695040888963407 : Int))) = (IntKind.u64.wrap (IntKind.u64.wrap (IntKind.u64.wrap (s * (6364136223846793005 : Int))) + (1442695040888963407 : Int))) by simp))
end Go.Ev

/- What is drawn from bytes: that it ends, and in which bounds. -/
namespace Go.Ev
set_option linter.unusedVariables false
set_option linter.unusedSimpArgs false
open Go.Proofs
set_option maxRecDepth 100000
set_option linter.unusedVariables false
set_option maxHeartbeats 2000000
def okB (bs : List Int) : Prop := bs.length ≤ 9223372036854775807 ∧ ∀ b ∈ bs, 0 ≤ b ∧ b ≤ 255
theorem next_ex (bs : List Int) (hb : okB bs) (a s : Int) (h0 : 0 ≤ a) (ha : a ≤ 50000000) :
    ∃ v s' : Int, (0 ≤ v ∧ v ≤ 255) ∧ Ev pr (.call 100 [.ptr 0 1 0 0] [cuB bs a s]) (.val (i64 v) [cuB bs (a + 1) s']) := by
  by_cases h : a < bs.length
  · have hn : a.toNat < bs.length := by omega
    have e : bs = bs.take a.toNat ++ bs[a.toNat] :: bs.drop (a.toNat + 1) := by
      rw [← List.drop_eq_getElem_cons hn, List.take_append_drop]
    have hl : (bs.take a.toNat).length = a.toNat := by simp; omega
    have hm := hb.2 _ (List.getElem_mem hn)
    generalize bs[a.toNat] = b at e hm
    have hlen := hb.1
    generalize bs.take a.toNat = A at e hl
    generalize bs.drop (a.toNat + 1) = B at e
    have hA : a = A.length := by omega
    subst e
    rw [hA]
    exact ⟨b, sdN s b, hm, nextA_ev A B b s hm (by omega) hlen⟩
  · exact ⟨vvN (sdN s 0), sdN s 0, vvN_bd _, nextB_ev bs a s (by omega) (by omega)⟩
theorem pick_ex (bs : List Int) (hb : okB bs) (a s : Int) (h0 : 0 ≤ a) (ha : a ≤ 50000000) (n : Int) (hn : n ≤ 200) :
    ∃ v a' s' : Int, (0 ≤ v ∧ (v < n ∨ v = 0)) ∧ (a ≤ a' ∧ a' ≤ a + 1) ∧ Ev pr (.call 66 [.ptr 0 1 0 0, i64 n] [cuB bs a s]) (.val (i64 v) [cuB bs a' s']) := by
  by_cases h : n ≤ 1
  · refine ⟨0, a, s, by omega, by omega, ?_⟩
    unfold cuB
    let t0 : Tp pr := .b (show (decide (n ≤ (1 : Int))) = true by (simp; omega))
    exact .tp [t0] (by kernel_rfl)
  · obtain ⟨v, s', hv, e⟩ := next_ex bs hb a s h0 ha
    have hm : v.tmod n = v % n := Int.tmod_eq_emod_of_nonneg hv.1
    have h1 := Int.emod_nonneg v (show n ≠ 0 by omega)
    have h2 := Int.emod_lt_of_pos v (show 0 < n by omega)
    refine ⟨v % n, a + 1, s', by omega, by omega, ?_⟩
    unfold cuB at *
    have h3 : ¬ n > 200 := by omega
    rw [← hm] at h1 h2 ⊢
    let t0 : Tp pr := .b (show (decide (n ≤ (1 : Int))) = false by (simp; omega))
    let t2 : Tp pr := .b (show (decide (n > (200 : Int))) = false by (simp; omega))
    let t3 : Tp pr := .m (show (decide (n ≠ (0 : Int))) = true by (simp; omega))
    exact .tp [t0, .a (e), t2, t3, .i (rfl : (v.tmod n) = _)] (by kernel_rfl)
theorem one_ex (bs : List Int) (hb : okB bs) (a s : Int) (h0 : 0 ≤ a) (ha : a ≤ 50000000) (n : Int) (hn : n ≤ 200) :
    ∃ (v : Bool) (a' s' : Int), (a ≤ a' ∧ a' ≤ a + 1) ∧ Ev pr (.call 80 [.ptr 0 1 0 0, i64 n] [cuB bs a s]) (.val (bl v) [cuB bs a' s']) := by
  obtain ⟨v, a', s', hv, h1, e⟩ := pick_ex bs hb a s h0 ha n hn
  by_cases hz : v = 0
  · refine ⟨true, a', s', h1, ?_⟩
    subst hz
    unfold cuB at *
    exact .tp [.a (e)] (by kernel_rfl)
  · refine ⟨false, a', s', h1, ?_⟩
    unfold cuB at *
    exact .tpe [.a (e)] (Out.val (V.t (T.bool (decide (v = (0 : Int))))) [Ob.box [V.t (T.seq (1 : Nat) (List.map u8t bs)), V.t (T.int IntKind.i64 a'), V.t (T.int IntKind.u64 s')]]) (by kernel_rfl) (congrArg (fun x => Out.val (V.t (T.bool x)) [Ob.box [V.t (T.seq (1 : Nat) (List.map u8t bs)), V.t (T.int IntKind.i64 a'), V.t (T.int IntKind.u64 s')]]) (show (decide (v = (0 : Int))) = (false) by simp [*]))
theorem among_ex (bs : List Int) (hb : okB bs) (a s : Int) (h0 : 0 ≤ a) (ha : a ≤ 50000000) (l : List Int) (hl : 0 < l.length) (hl2 : l.length ≤ 100) :
    ∃ (v : Int) (a' s' : Int), v ∈ l ∧ (a ≤ a' ∧ a' ≤ a + 1) ∧ Ev pr (.call 75 [.ptr 0 1 0 0, isq l] [cuB bs a s]) (.val (i64 v) [cuB bs a' s']) := by
  obtain ⟨v, a', s', hv, h1, e⟩ := pick_ex bs hb a s h0 ha l.length (by omega)
  have hlt : v.toNat < l.length := by omega
  have hg : lkp (l.map intt) v = some [T.int .i64 l[v.toNat]] := by simp [lkp, intt, hv.1, hlt]
  refine ⟨l[v.toNat], a', s', List.getElem_mem hlt, h1, ?_⟩
  generalize l[v.toNat] = x at hg ⊢
  unfold cuB at *
  let t0 : Tp pr := .i (show ((↑(List.map intt l).length : Int) : Int) = (↑l.length : Int) by simp)
  let t2 : Tp pr := .g .row (show (lkp (List.map intt l) v) = some ([T.int IntKind.i64 x]) from hg)
  exact .tp [t0, .a (e), t2] (by kernel_rfl)
end Go.Ev

/- Heaps that are drawn: that the drawing ends, and how large they are. -/
namespace Go.Ev
set_option linter.unusedVariables false
set_option linter.unusedSimpArgs false
open Go.Proofs
set_option maxRecDepth 100000
set_option linter.unusedVariables false
set_option maxHeartbeats 2000000
def rowD (l : List Obj) : List (List C) := l.map fun o => o.ce.map C.t
theorem rowD_snoc (l : List Obj) (o : Obj) : rowD (l ++ [o]) = (rowD l).append [[C.t (.int .i64 o.mark), C.t (.seq 1 (o.links.map intt))]] := by simp [rowD, Obj.ce]
@[local simp] theorem rowD_len (l : List Obj) : (rowD l).length = l.length := by simp [rowD]
@[local simp] theorem rowD_fz (l : List Obj) : List.map (fun x => List.map C.fz x) (rowD l) = l.map Obj.ce := by
  rw [rowD, List.map_map]
  congr 1
@[local simp] theorem rowD_take (l : List Obj) : List.take l.length (rowD l) = rowD l := List.take_of_length_le (by simp)
@[local simp] theorem ints_takeD (l : List Int) : List.take l.length (ints l) = ints l := List.take_of_length_le (by simp)
theorem ints_snocD (l : List Int) (x : Int) : ints (l ++ [x]) = (ints l).append [[C.t (.int .i64 x)]] := by simp [ints, intc]
theorem hL2_ex (bs : List Int) (hb : okB bs) (n : Int) (hn0 : 0 ≤ n) (hn : n ≤ 45) (i mk : Int) (N : Nat) (R : List (List C)) : ∀ (k : Nat) (l : List Int) (a s : Int), 0 ≤ a → a + k ≤ 40000000 → l.length + k ≤ 100 →
    ∃ (l' : List Int) (a' s' : Int), l'.length ≤ l.length + k ∧ (a ≤ a' ∧ a' ≤ a + k) ∧
    Ev pr (.loop (lq pr 65 1) (at_ [(0, .ptr 0 1 0 0), (2, .ptr 1 1 0 0), (3, .ptr 2 1 0 0), (4, i64 n), (5, i64 i), (6, .ptr 3 1 0 0), (7, i64 k)]
        [cuB bs a s, .box [.t .nils, .t .nils], .box [.vec 4 N 2 0 N, .t .nils], .box [i64 mk, .vec 5 l.length 1 0 l.length], .vec true 2 R, .vec true 1 (ints l)] 1))
      (.exit 2 (at_ [(0, .ptr 0 1 0 0), (2, .ptr 1 1 0 0), (3, .ptr 2 1 0 0), (4, i64 n), (5, i64 i), (6, .ptr 3 1 0 0)]
        [cuB bs a' s', .box [.t .nils, .t .nils], .box [.vec 4 N 2 0 N, .t .nils], .box [i64 mk, .vec 5 l'.length 1 0 l'.length], .vec true 2 R, .vec true 1 (ints l')] 1))
  | 0, l, a, s, h0, h1, h2 => by
    refine ⟨l, a, s, by omega, by omega, ?_⟩
    unfold cuB
    exact .tp [.b (rfl : false = false)] (by kernel_rfl)
  | k + 1, l, a, s, h0, h1, h2 => by
    obtain ⟨v, a1, s1, hv, ha1, e⟩ := pick_ex bs hb a s h0 (by omega) (n + 1) (by omega)
    obtain ⟨l', a', s', hl, ha, ih⟩ := hL2_ex bs hb n hn0 hn i mk N R k (l ++ [v - 1]) a1 s1 (by omega) (by omega) (by simp; omega)
    refine ⟨l', a', s', by simp at hl; omega, by omega, ?_⟩
    rw [ints_snocD, List.length_append, List.length_singleton] at ih
    unfold cuB at *
    let t0 : Tp pr := .b (show (decide ((↑(k + (1 : Nat)) : Int) > (0 : Int))) = true by simp)
    let t5 : Tp pr := .i (wrap_i64 (a := n + (1 : Int)) (by omega) (by omega))
    let t9 : Tp pr := .i (wrap_i64 (a := v - (1 : Int)) (by omega) (by omega))
    let t13 : Tp pr := .m (show (decide ((ints l).length = l.length ∧ (0 : Nat) + l.length ≤ l.length ∧ l.length + (1 : Nat) ≤ (4294967296 : Nat))) = true by (simp; omega))
    let t14 : Tp pr := .b (show (decide (l.length + (1 : Nat) ≤ l.length)) = false by simp)
    let t16 : Tp pr := .n .crows (show ((List.take l.length (ints l)).append (List.take (1 : Nat) (List.drop (0 : Nat) [[C.t (T.int IntKind.i64 (v - (1 : Int)))]]))) = ints l ++ [[C.t (T.int IntKind.i64 (v - (1 : Int)))]] by simp)
    let t20 : Tp pr := .i (wrap_i64 (a := (↑(k + (1 : Nat)) : Int) - (1 : Int)) (by omega) (by omega))
    let t21 : Tp pr := .a (Ev.castq (congrArg (fun x => Q.loop (lq pr (65 : FuncId) (1 : Nat)) (at_ [((0 : Nat), V.ptr (0 : Nat) (1 : Nat) (0 : Nat) (0 : Nat)), ((2 : Nat), V.ptr (1 : Nat) (1 : Nat) (0 : Nat) (0 : Nat)), ((3 : Nat), V.ptr (2 : Nat) (1 : Nat) (0 : Nat) (0 : Nat)), ((4 : Nat), i64 n), ((5 : Nat), i64 i), ((6 : Nat), V.ptr (3 : Nat) (1 : Nat) (0 : Nat) (0 : Nat)), ((7 : Nat), i64 x)] [Ob.box [V.t (T.seq (1 : Nat) (List.map u8t bs)), V.t (T.int IntKind.i64 a1), V.t (T.int IntKind.u64 s1)], Ob.box [V.t T.nils, V.t T.nils], Ob.box [V.vec (4 : Nat) N (2 : Nat) (0 : Nat) N, V.t T.nils], Ob.box [i64 mk, V.vec (5 : Nat) (l.length + (1 : Nat)) (1 : Nat) (0 : Nat) (l.length + (1 : Nat))], Ob.vec true (2 : Nat) R, Ob.vec true (1 : Nat) ((ints l).append [[C.t (T.int IntKind.i64 (v - (1 : Int)))]])] (1 : Nat))) (show ((↑k : Int)) = ((↑(k + (1 : Nat)) : Int) - (1 : Int)) by simp)) (ih))
    exact .tp [t0, .m (rfl : true = true), .m (rfl : true = true), .m (rfl : true = true), .m (rfl : true = true), t5, .m (rfl : true = true), .a (e), .m (rfl : true = true), t9, .m (rfl : true = true), .m (rfl : true = true), .m (rfl : true = true), t13, t14, .c (rfl : (l.length + (1 : Nat)) = _), t16, .m (rfl : true = true), .m (rfl : true = true), .m (rfl : true = true), t20, t21] (by kernel_rfl)
theorem hL1_ex (bs : List Int) (hb : okB bs) (n : Int) (hn : n ≤ 45) : ∀ (k : Nat) (os : List Obj) (a s : Int), 0 ≤ a → a + 10 * k ≤ 30000000 → n = os.length + k → (∀ x ∈ os, x.links.length ≤ 4) →
    ∃ (os' : List Obj) (a' s' : Int), os'.length = os.length + k ∧ (∀ x ∈ os', x.links.length ≤ 4) ∧ (a ≤ a' ∧ a' ≤ a + 10 * k) ∧
    Ev pr (.loop (lq pr 65 0) (at_ [(0, .ptr 0 1 0 0), (2, .ptr 1 1 0 0), (3, .ptr 2 1 0 0), (4, i64 n), (5, i64 os.length)]
        [cuB bs a s, .box [.t .nils, .t .nils], .box [.vec 3 os.length 2 0 os.length, .t .nils], .vec true 2 (rowD os)] 1))
      (.exit 0 (at_ [(0, .ptr 0 1 0 0), (2, .ptr 1 1 0 0), (3, .ptr 2 1 0 0), (4, i64 n)]
        [cuB bs a' s', .box [.t .nils, .t .nils], .box [.vec 3 os'.length 2 0 os'.length, .t .nils], .vec true 2 (rowD os')] 1))
  | 0, os, a, s, h0, h1, hk, hx => by
    refine ⟨os, a, s, by omega, hx, by omega, ?_⟩
    unfold cuB
    let t0 : Tp pr := .b (show (decide ((↑os.length : Int) < n)) = false by (simp; omega))
    exact .tp [t0] (by kernel_rfl)
  | k + 1, os, a, s, h0, h1, hk, hx => by
    obtain ⟨v1, a1, s1, hv1, ha1, e1⟩ := pick_ex bs hb a s h0 (by omega) 6 (by omega)
    obtain ⟨v2, a2, s2, hv2, ha2, e2⟩ := pick_ex bs hb a1 s1 (by omega) (by omega) 4 (by omega)
    obtain ⟨m, rfl⟩ : ∃ m : Nat, v2 = m := ⟨v2.toNat, by omega⟩
    obtain ⟨l', a3, s3, hl, ha3, g⟩ := hL2_ex bs hb n (by omega) hn os.length v1 os.length (rowD os) m [] a2 s2 (by omega) (by omega) (by simp; omega)
    obtain ⟨os', a', s', ho, hx', ha, ih⟩ := hL1_ex bs hb n hn k (os ++ [⟨v1, l'⟩]) a3 s3 (by omega) (by omega) (by simp; omega) (by
      intro x hx2
      rcases List.mem_append.1 hx2 with h | h
      · exact hx x h
      · obtain rfl := List.mem_singleton.1 h
        simp at hl
        show l'.length ≤ 4
        omega)
    refine ⟨os', a', s', by simp at ho; omega, hx', by omega, ?_⟩
    rw [rowD_snoc, List.length_append, List.length_singleton] at ih
    unfold cuB at *
    let t0 : Tp pr := .b (show (decide ((↑os.length : Int) < n)) = true by (simp; omega))
    let t4 : Tp pr := .m (show (decide ((ints l').length = l'.length ∧ (0 : Nat) + l'.length ≤ l'.length)) = true by simp)
    let t5 : Tp pr := .n .rows (show (List.map (fun x => List.map C.fz x) (List.take l'.length (List.drop (0 : Nat) (ints l')))) = List.map intt l' by simp)
    let t7 : Tp pr := .m (show (decide ((rowD os).length = os.length ∧ (0 : Nat) + os.length ≤ os.length ∧ os.length + (1 : Nat) ≤ (4294967296 : Nat))) = true by (simp; omega))
    let t8 : Tp pr := .b (show (decide (os.length + (1 : Nat) ≤ os.length)) = false by simp)
    let t10 : Tp pr := .n .crows (show ((List.take os.length (rowD os)).append (List.take (1 : Nat) (List.drop (0 : Nat) [[C.t (T.int IntKind.i64 v1), C.t (T.seq (1 : Nat) (List.map intt l'))]]))) = rowD os ++ [[C.t (T.int IntKind.i64 v1), C.t (T.seq (1 : Nat) (List.map intt l'))]] by simp)
    let t11 : Tp pr := .i (wrap_i64 (a := (↑os.length : Int) + (1 : Int)) (by omega) (by omega))
    exact .tp [t0, .a (e1), .a (e2), .a (g), t4, t5, .m (rfl : true = true), t7, t8, .c (rfl : (os.length + (1 : Nat)) = _), t10, t11, .a (ih)] (by kernel_rfl)
theorem hL3_ex (bs : List Int) (hb : okB bs) (n : Int) (hn0 : 0 ≤ n) (hn : n ≤ 45) (N : Nat) (R : List (List C)) : ∀ (k : Nat) (l : List Int) (a s : Int), 0 ≤ a → a + k ≤ 40000000 → l.length + k ≤ 100 →
    ∃ (l' : List Int) (a' s' : Int), l'.length ≤ l.length + k ∧ (a ≤ a' ∧ a' ≤ a + k) ∧
    Ev pr (.loop (lq pr 65 2) (at_ [(0, .ptr 0 1 0 0), (2, .ptr 1 1 0 0), (3, .ptr 2 1 0 0), (4, i64 n), (8, i64 k)]
        [cuB bs a s, .box [.t .nils, .t .nils], .box [.vec 3 N 2 0 N, .vec 4 l.length 1 0 l.length], .vec true 2 R, .vec true 1 (ints l)] 1))
      (.exit 4 (at_ [(0, .ptr 0 1 0 0), (2, .ptr 1 1 0 0), (3, .ptr 2 1 0 0), (4, i64 n)]
        [cuB bs a' s', .box [.t .nils, .t .nils], .box [.vec 3 N 2 0 N, .vec 4 l'.length 1 0 l'.length], .vec true 2 R, .vec true 1 (ints l')] 1))
  | 0, l, a, s, h0, h1, h2 => by
    refine ⟨l, a, s, by omega, by omega, ?_⟩
    unfold cuB
    exact .tp [.b (rfl : false = false)] (by kernel_rfl)
  | k + 1, l, a, s, h0, h1, h2 => by
    obtain ⟨v, a1, s1, hv, ha1, e⟩ := pick_ex bs hb a s h0 (by omega) (n + 1) (by omega)
    obtain ⟨l', a', s', hl, ha, ih⟩ := hL3_ex bs hb n hn0 hn N R k (l ++ [v - 1]) a1 s1 (by omega) (by omega) (by simp; omega)
    refine ⟨l', a', s', by simp at hl; omega, by omega, ?_⟩
    rw [ints_snocD, List.length_append, List.length_singleton] at ih
    unfold cuB at *
    let t0 : Tp pr := .b (show (decide ((↑(k + (1 : Nat)) : Int) > (0 : Int))) = true by simp)
    let t5 : Tp pr := .i (wrap_i64 (a := n + (1 : Int)) (by omega) (by omega))
    let t9 : Tp pr := .i (wrap_i64 (a := v - (1 : Int)) (by omega) (by omega))
    let t13 : Tp pr := .m (show (decide ((ints l).length = l.length ∧ (0 : Nat) + l.length ≤ l.length ∧ l.length + (1 : Nat) ≤ (4294967296 : Nat))) = true by (simp; omega))
    let t14 : Tp pr := .b (show (decide (l.length + (1 : Nat) ≤ l.length)) = false by simp)
    let t16 : Tp pr := .n .crows (show ((List.take l.length (ints l)).append (List.take (1 : Nat) (List.drop (0 : Nat) [[C.t (T.int IntKind.i64 (v - (1 : Int)))]]))) = ints l ++ [[C.t (T.int IntKind.i64 (v - (1 : Int)))]] by simp)
    let t20 : Tp pr := .i (wrap_i64 (a := (↑(k + (1 : Nat)) : Int) - (1 : Int)) (by omega) (by omega))
    let t21 : Tp pr := .a (Ev.castq (congrArg (fun x => Q.loop (lq pr (65 : FuncId) (2 : Nat)) (at_ [((0 : Nat), V.ptr (0 : Nat) (1 : Nat) (0 : Nat) (0 : Nat)), ((2 : Nat), V.ptr (1 : Nat) (1 : Nat) (0 : Nat) (0 : Nat)), ((3 : Nat), V.ptr (2 : Nat) (1 : Nat) (0 : Nat) (0 : Nat)), ((4 : Nat), i64 n), ((8 : Nat), i64 x)] [Ob.box [V.t (T.seq (1 : Nat) (List.map u8t bs)), V.t (T.int IntKind.i64 a1), V.t (T.int IntKind.u64 s1)], Ob.box [V.t T.nils, V.t T.nils], Ob.box [V.vec (3 : Nat) N (2 : Nat) (0 : Nat) N, V.vec (4 : Nat) (l.length + (1 : Nat)) (1 : Nat) (0 : Nat) (l.length + (1 : Nat))], Ob.vec true (2 : Nat) R, Ob.vec true (1 : Nat) ((ints l).append [[C.t (T.int IntKind.i64 (v - (1 : Int)))]])] (1 : Nat))) (show ((↑k : Int)) = ((↑(k + (1 : Nat)) : Int) - (1 : Int)) by simp)) (ih))
    exact .tp [t0, .m (rfl : true = true), .m (rfl : true = true), .m (rfl : true = true), .m (rfl : true = true), t5, .m (rfl : true = true), .a (e), .m (rfl : true = true), t9, .m (rfl : true = true), .m (rfl : true = true), .m (rfl : true = true), t13, t14, .c (rfl : (l.length + (1 : Nat)) = _), t16, .m (rfl : true = true), .m (rfl : true = true), .m (rfl : true = true), t20, t21] (by kernel_rfl)
end Go.Ev

/- Heaps that are drawn. -/
namespace Go.Ev
set_option linter.unusedVariables false
set_option linter.unusedSimpArgs false
open Go.Proofs
set_option maxRecDepth 100000
set_option linter.unusedVariables false
set_option maxHeartbeats 4000000
attribute [local simp] rowD_len rowD_fz rowD_take ints_takeD
@[local simp] theorem take_snocD {α β : Type} (f : α → β) (l : List α) (e : β) : List.take (l.length + 1) (l.map f ++ [e]) = l.map f ++ [e] := List.take_of_length_le (by simp)
@[local simp] theorem take_snocD2 {α β : Type} (f : α → β) (l : List α) (e : β) : List.take (l.length + 1) ((l.map f).append [e]) = (l.map f).append [e] := List.take_of_length_le (by simp)
theorem heap_ex (bs : List Int) (hb : okB bs) (a s : Int) (h0 : 0 ≤ a) (h1 : a ≤ 10000000) :
    ∃ (h : Hp) (a' s' : Int), h.objects.length ≤ 41 ∧ (∀ x ∈ h.objects, x.links.length ≤ 5) ∧ h.roots.length ≤ 5 ∧ (a ≤ a' ∧ a' ≤ a + 1000) ∧
      Ev pr (.call 65 [.ptr 0 1 0 0] [cuB bs a s]) (.val (vs h.ce) [cuB bs a' s']) := by
  obtain ⟨n, a1, s1, hn, ha1, e1⟩ := pick_ex bs hb a s h0 (by omega) 10 (by omega)
  obtain ⟨v, a2, s2, ha2, e2⟩ := one_ex bs hb a1 s1 (by omega) (by omega) 20 (by omega)
  obtain ⟨n, rfl⟩ : ∃ m : Nat, n = m := ⟨n.toNat, by omega⟩
  cases v with
  | false =>
    obtain ⟨os', a3, s3, ho, hx', ha3, l1⟩ := hL1_ex bs hb n (by omega) n [] a2 s2 (by omega) (by omega) (by simp) (by simp)
    obtain ⟨m, a4, s4, hm, ha4, e4⟩ := pick_ex bs hb a3 s3 (by omega) (by omega) 4 (by omega)
    obtain ⟨m, rfl⟩ : ∃ k : Nat, m = k := ⟨m.toNat, by omega⟩
    obtain ⟨l', a5, s5, hl, ha5, l3⟩ := hL3_ex bs hb n (by omega) (by omega) os'.length (rowD os') m [] a4 s4 (by omega) (by omega) (by simp; omega)
    simp at hl ho
    by_cases hn0 : 0 < (n : Int)
    · obtain ⟨w, b1, t1', hb1, g1⟩ := one_ex bs hb a5 s5 (by omega) (by omega) 20 (by omega)
      cases w with
      | false =>
        refine ⟨⟨os', l'⟩, b1, t1', ?_, ?_, ?_, ?_, ?_⟩
        · dsimp only; omega
        · exact fun x hx => by have := hx' x hx; omega
        · dsimp only; omega
        · omega
        · unfold cuB at *
          let t6 : Tp pr := .b (show (decide ((↑n : Int) > (0 : Int))) = true by (simp; omega))
          let t9 : Tp pr := .m (show (decide ((rowD os').length = os'.length ∧ (0 : Nat) + os'.length ≤ os'.length)) = true by simp)
          let t10 : Tp pr := .n .rows (show (List.map (fun x => List.map C.fz x) (List.take os'.length (List.drop (0 : Nat) (rowD os')))) = List.map Obj.ce os' by simp)
          let t11 : Tp pr := .m (show (decide ((ints l').length = l'.length ∧ (0 : Nat) + l'.length ≤ l'.length)) = true by simp)
          let t12 : Tp pr := .n .rows (show (List.map (fun x => List.map C.fz x) (List.take l'.length (List.drop (0 : Nat) (ints l')))) = List.map intt l' by simp)
          exact .tp [.a (e1), .a (e2), .b (rfl : false = false), .a (l1), .a (e4), .a (l3), t6, .a (g1), .b (rfl : false = false), t9, t10, t11, t12] (by kernel_rfl)
      | true =>
        obtain ⟨v3, b2, t2', hv3, hb2, g2⟩ := pick_ex bs hb b1 t1' (by omega) (by omega) 3 (by omega)
        obtain ⟨o0, os2, ho2⟩ : ∃ o0 os2, os' = o0 :: os2 := by
          cases os' with
          | nil => simp at ho; omega
          | cons x l => exact ⟨x, l, rfl⟩
        subst ho2
        by_cases hz : v3 = 0
        · obtain ⟨mk, b3, t3', hmk, hb3, g3⟩ := among_ex bs hb b2 t2' (by omega) (by omega) [-1, 1000, 1001] (by simp) (by simp)
          subst hz
          refine ⟨⟨⟨mk, o0.links⟩ :: os2, l'⟩, b3, t3', ?_, ?_, ?_, ?_, ?_⟩
          · simp at ho ⊢; omega
          · intro x hx
            rcases List.mem_cons.1 hx with rfl | hx
            · have := hx' o0 (by simp); show o0.links.length ≤ 5; omega
            · have := hx' x (by simp [hx]); omega
          · dsimp only; omega
          · omega
          · unfold cuB at *
            rw [show rowD (o0 :: os2) = [C.t (.int .i64 o0.mark), C.t (.seq 1 (o0.links.map intt))] :: rowD os2 from rfl] at *
            let t6 : Tp pr := .b (show (decide ((↑n : Int) > (0 : Int))) = true by (simp; omega))
            let t16 : Tp pr := .n .rows (show (List.map (fun x => List.map C.fz x) (List.take (3 : Nat) (List.drop (0 : Nat) [[C.t (T.int IntKind.i64 (-1 : Int))], [C.t (T.int IntKind.i64 (1000 : Int))], [C.t (T.int IntKind.i64 (1001 : Int))]]))) = [[(C.t (T.int IntKind.i64 (-1 : Int))).fz], [(C.t (T.int IntKind.i64 (1000 : Int))).fz], [(C.t (T.int IntKind.i64 (1001 : Int))).fz]] by simp)
            let t23 : Tp pr := .m (show (decide (([C.t (T.int IntKind.i64 o0.mark), C.t (T.seq (1 : Nat) (List.map intt o0.links))] :: rowD os2).length = (o0 :: os2).length)) = true by simp)
            let t24 : Tp pr := .g .crow (show (some [C.t (T.int IntKind.i64 o0.mark), C.t (T.seq (1 : Nat) (List.map intt o0.links))]) = some ([C.t (T.int IntKind.i64 o0.mark), C.t (T.seq (1 : Nat) (List.map intt o0.links))]) by simp)
            let t25 : Tp pr := .m (show (decide (([C.t (T.int IntKind.i64 o0.mark), C.t (T.seq (1 : Nat) (List.map intt o0.links))] :: rowD os2).length = (o0 :: os2).length)) = true by simp)
            let t26 : Tp pr := .g .crow (show (some [C.t (T.int IntKind.i64 o0.mark), C.t (T.seq (1 : Nat) (List.map intt o0.links))]) = some ([C.t (T.int IntKind.i64 o0.mark), C.t (T.seq (1 : Nat) (List.map intt o0.links))]) by simp)
            let t27 : Tp pr := .n .crows (show (([C.t (T.int IntKind.i64 o0.mark), C.t (T.seq (1 : Nat) (List.map intt o0.links))] :: rowD os2).set (0 : Nat) [C.t (T.int IntKind.i64 mk), C.t (T.seq (1 : Nat) (List.map intt o0.links))]) = [C.t (T.int IntKind.i64 mk), C.t (T.seq (1 : Nat) (List.map intt o0.links))] :: rowD os2 by simp)
            let t29 : Tp pr := .m (show (decide (([C.t (T.int IntKind.i64 mk), C.t (T.seq (1 : Nat) (List.map intt o0.links))] :: rowD os2).length = (o0 :: os2).length ∧ (0 : Nat) + (o0 :: os2).length ≤ (o0 :: os2).length)) = true by simp)
            let t30 : Tp pr := .n .rows (show (List.map (fun x => List.map C.fz x) (List.take (o0 :: os2).length (List.drop (0 : Nat) ([C.t (T.int IntKind.i64 mk), C.t (T.seq (1 : Nat) (List.map intt o0.links))] :: rowD os2)))) = [(C.t (T.int IntKind.i64 mk)).fz, (C.t (T.seq (1 : Nat) (List.map intt o0.links))).fz] :: List.map Obj.ce os2 by simp)
            let t31 : Tp pr := .m (show (decide ((ints l').length = l'.length ∧ (0 : Nat) + l'.length ≤ l'.length)) = true by simp)
            let t32 : Tp pr := .n .rows (show (List.map (fun x => List.map C.fz x) (List.take l'.length (List.drop (0 : Nat) (ints l')))) = List.map intt l' by simp)
            exact .tp [.a (e1), .a (e2), .b (rfl : false = false), .a (l1), .a (e4), .a (l3), t6, .a (g1), .b (rfl : true = true), .a (g2), .b (rfl : true = true), .m (rfl : true = true), .m (rfl : true = true), .m (rfl : true = true), .m (rfl : true = true), .m (rfl : true = true), t16, .a (g3), .m (rfl : true = true), .m (rfl : true = true), .c (rfl : ((0 : Nat)) = _), .m (rfl : true = true), .m (rfl : true = true), t23, t24, t25, t26, t27, .m (rfl : true = true), t29, t30, t31, t32] (by kernel_rfl)
        · by_cases hz1 : v3 = 1
          · obtain ⟨rt, b3, t3', hrt, hb3, g3⟩ := among_ex bs hb b2 t2' (by omega) (by omega) [-2, (n : Int)] (by simp) (by simp)
            subst hz1
            refine ⟨⟨o0 :: os2, l' ++ [rt]⟩, b3, t3', ?_, ?_, ?_, ?_, ?_⟩
            · dsimp only; omega
            · exact fun x hx => by have := hx' x hx; omega
            · simp at hl ⊢; omega
            · omega
            · unfold cuB at *
              let t6 : Tp pr := .b (show (decide ((↑n : Int) > (0 : Int))) = true by (simp; omega))
              let t18 : Tp pr := .n .rows (show (List.map (fun x => List.map C.fz x) (List.take (2 : Nat) (List.drop (0 : Nat) [[C.t (T.int IntKind.i64 (-2 : Int))], [C.t (T.int IntKind.i64 (↑n : Int))]]))) = [[(C.t (T.int IntKind.i64 (-2 : Int))).fz], [(C.t (T.int IntKind.i64 (↑n : Int))).fz]] by simp)
              let t23 : Tp pr := .m (show (decide ((ints l').length = l'.length ∧ (0 : Nat) + l'.length ≤ l'.length ∧ l'.length + (1 : Nat) ≤ (4294967296 : Nat))) = true by (simp; omega))
              let t24 : Tp pr := .b (show (decide (l'.length + (1 : Nat) ≤ l'.length)) = false by simp)
              let t26 : Tp pr := .n .crows (show ((List.take l'.length (ints l')).append (List.take (1 : Nat) (List.drop (0 : Nat) [[C.t (T.int IntKind.i64 rt)]]))) = ints l' ++ [[C.t (T.int IntKind.i64 rt)]] by simp)
              let t30 : Tp pr := .m (show (decide ((rowD (o0 :: os2)).length = (o0 :: os2).length ∧ (0 : Nat) + (o0 :: os2).length ≤ (o0 :: os2).length)) = true by simp)
              let t31 : Tp pr := .n .rows (show (List.map (fun x => List.map C.fz x) (List.take (o0 :: os2).length (List.drop (0 : Nat) (rowD (o0 :: os2))))) = o0.ce :: List.map Obj.ce os2 by simp)
              let t32 : Tp pr := .m (show (decide (((ints l').append [[C.t (T.int IntKind.i64 rt)]]).length = l'.length + (1 : Nat) ∧ (0 : Nat) + (l'.length + (1 : Nat)) ≤ l'.length + (1 : Nat))) = true by simp)
              let t33 : Tp pr := .n .rows (show (List.map (fun x => List.map C.fz x) (List.take (l'.length + (1 : Nat)) (List.drop (0 : Nat) ((ints l').append [[C.t (T.int IntKind.i64 rt)]])))) = List.map intt l' ++ [[(C.t (T.int IntKind.i64 rt)).fz]] by simp)
              exact .tpe [.a (e1), .a (e2), .b (rfl : false = false), .a (l1), .a (e4), .a (l3), t6, .a (g1), .b (rfl : true = true), .a (g2), .b (rfl : false = false), .b (rfl : true = true), .m (rfl : true = true), .m (rfl : true = true), .m (rfl : true = true), .m (rfl : true = true), .m (rfl : true = true), .m (rfl : true = true), t18, .a (g3), .m (rfl : true = true), .m (rfl : true = true), .m (rfl : true = true), t23, t24, .c (rfl : (l'.length + (1 : Nat)) = _), t26, .m (rfl : true = true), .m (rfl : true = true), .m (rfl : true = true), t30, t31, t32, t33] (Out.val (V.agg [V.t (T.seq (2 : Nat) ([T.int IntKind.i64 o0.mark, T.seq (1 : Nat) (List.map intt o0.links)] :: List.map Obj.ce os2)), V.t (T.seq (1 : Nat) ((List.map intt l').append [[T.int IntKind.i64 rt]]))]) [Ob.box [V.t (T.seq (1 : Nat) (List.map u8t bs)), V.t (T.int IntKind.i64 b3), V.t (T.int IntKind.u64 t3')]]) (by kernel_rfl) ((congrArg (fun x => Out.val (V.agg [V.t (T.seq (2 : Nat) x), V.t (T.seq (1 : Nat) ((List.map intt l').append [[T.int IntKind.i64 rt]]))]) [Ob.box [V.t (T.seq (1 : Nat) (List.map u8t bs)), V.t (T.int IntKind.i64 b3), V.t (T.int IntKind.u64 t3')]]) (show ([T.int IntKind.i64 o0.mark, T.seq (1 : Nat) (List.map intt o0.links)] :: List.map Obj.ce os2) = (List.map Obj.ce (Hp.mk (o0 :: os2) (l' ++ [rt])).objects) by simp [intt, Obj.ce])).trans (congrArg (fun x => Out.val (V.agg [V.t (T.seq (2 : Nat) (List.map Obj.ce (Hp.mk (o0 :: os2) (l' ++ [rt])).objects)), V.t (T.seq (1 : Nat) x)]) [Ob.box [V.t (T.seq (1 : Nat) (List.map u8t bs)), V.t (T.int IntKind.i64 b3), V.t (T.int IntKind.u64 t3')]]) (show ((List.map intt l').append [[T.int IntKind.i64 rt]]) = (List.map intt (Hp.mk (o0 :: os2) (l' ++ [rt])).roots) by simp [intt, Obj.ce])))
          · refine ⟨⟨⟨o0.mark, [0, 0, 0, 0, 0]⟩ :: os2, l'⟩, b2, t2', ?_, ?_, ?_, ?_, ?_⟩
            · simp at ho ⊢; omega
            · intro x hx
              rcases List.mem_cons.1 hx with rfl | hx
              · simp
              · have := hx' x (by simp [hx]); omega
            · dsimp only; omega
            · omega
            · unfold cuB at *
              rw [show rowD (o0 :: os2) = [C.t (.int .i64 o0.mark), C.t (.seq 1 (o0.links.map intt))] :: rowD os2 from rfl] at *
              let t6 : Tp pr := .b (show (decide ((↑n : Int) > (0 : Int))) = true by (simp; omega))
              let t10 : Tp pr := .b (show (decide (v3 = (0 : Int))) = false by (simp; omega))
              let t11 : Tp pr := .b (show (decide (v3 = (1 : Int))) = false by (simp; omega))
              let t15 : Tp pr := .n .rows (show (List.map (fun x => List.map C.fz x) (List.take (5 : Nat) (List.drop (0 : Nat) [[C.t (T.int IntKind.i64 (0 : Int))], [C.t (T.int IntKind.i64 (0 : Int))], [C.t (T.int IntKind.i64 (0 : Int))], [C.t (T.int IntKind.i64 (0 : Int))], [C.t (T.int IntKind.i64 (0 : Int))]]))) = [[(C.t (T.int IntKind.i64 (0 : Int))).fz], [(C.t (T.int IntKind.i64 (0 : Int))).fz], [(C.t (T.int IntKind.i64 (0 : Int))).fz], [(C.t (T.int IntKind.i64 (0 : Int))).fz], [(C.t (T.int IntKind.i64 (0 : Int))).fz]] by simp)
              let t16 : Tp pr := .m (show (decide (([C.t (T.int IntKind.i64 o0.mark), C.t (T.seq (1 : Nat) (List.map intt o0.links))] :: rowD os2).length = (o0 :: os2).length)) = true by simp)
              let t17 : Tp pr := .g .crow (show (some [C.t (T.int IntKind.i64 o0.mark), C.t (T.seq (1 : Nat) (List.map intt o0.links))]) = some ([C.t (T.int IntKind.i64 o0.mark), C.t (T.seq (1 : Nat) (List.map intt o0.links))]) by simp)
              let t18 : Tp pr := .n .crows (show (([C.t (T.int IntKind.i64 o0.mark), C.t (T.seq (1 : Nat) (List.map intt o0.links))] :: rowD os2).set (0 : Nat) [C.t (T.int IntKind.i64 o0.mark), C.t (T.seq (1 : Nat) [[T.int IntKind.i64 (0 : Int)], [T.int IntKind.i64 (0 : Int)], [T.int IntKind.i64 (0 : Int)], [T.int IntKind.i64 (0 : Int)], [T.int IntKind.i64 (0 : Int)]])]) = [C.t (T.int IntKind.i64 o0.mark), C.t (T.seq (1 : Nat) [[T.int IntKind.i64 (0 : Int)], [T.int IntKind.i64 (0 : Int)], [T.int IntKind.i64 (0 : Int)], [T.int IntKind.i64 (0 : Int)], [T.int IntKind.i64 (0 : Int)]])] :: rowD os2 by simp)
              let t19 : Tp pr := .m (show (decide (([C.t (T.int IntKind.i64 o0.mark), C.t (T.seq (1 : Nat) [[T.int IntKind.i64 (0 : Int)], [T.int IntKind.i64 (0 : Int)], [T.int IntKind.i64 (0 : Int)], [T.int IntKind.i64 (0 : Int)], [T.int IntKind.i64 (0 : Int)]])] :: rowD os2).length = (o0 :: os2).length ∧ (0 : Nat) + (o0 :: os2).length ≤ (o0 :: os2).length)) = true by simp)
              let t20 : Tp pr := .n .rows (show (List.map (fun x => List.map C.fz x) (List.take (o0 :: os2).length (List.drop (0 : Nat) ([C.t (T.int IntKind.i64 o0.mark), C.t (T.seq (1 : Nat) [[T.int IntKind.i64 (0 : Int)], [T.int IntKind.i64 (0 : Int)], [T.int IntKind.i64 (0 : Int)], [T.int IntKind.i64 (0 : Int)], [T.int IntKind.i64 (0 : Int)]])] :: rowD os2)))) = [(C.t (T.int IntKind.i64 o0.mark)).fz, (C.t (T.seq (1 : Nat) [[T.int IntKind.i64 (0 : Int)], [T.int IntKind.i64 (0 : Int)], [T.int IntKind.i64 (0 : Int)], [T.int IntKind.i64 (0 : Int)], [T.int IntKind.i64 (0 : Int)]])).fz] :: List.map Obj.ce os2 by simp)
              let t21 : Tp pr := .m (show (decide ((ints l').length = l'.length ∧ (0 : Nat) + l'.length ≤ l'.length)) = true by simp)
              let t22 : Tp pr := .n .rows (show (List.map (fun x => List.map C.fz x) (List.take l'.length (List.drop (0 : Nat) (ints l')))) = List.map intt l' by simp)
              exact .tp [.a (e1), .a (e2), .b (rfl : false = false), .a (l1), .a (e4), .a (l3), t6, .a (g1), .b (rfl : true = true), .a (g2), t10, t11, .m (rfl : true = true), .c (rfl : ((0 : Nat)) = _), .m (rfl : true = true), t15, t16, t17, t18, t19, t20, t21, t22] (by kernel_rfl)
    · refine ⟨⟨os', l'⟩, a5, s5, ?_, ?_, ?_, ?_, ?_⟩
      · dsimp only; omega
      · exact fun x hx => by have := hx' x hx; omega
      · dsimp only; omega
      · omega
      · unfold cuB at *
        let t6 : Tp pr := .b (show (decide ((↑n : Int) > (0 : Int))) = false by (simp; omega))
        let t8 : Tp pr := .m (show (decide ((rowD os').length = os'.length ∧ (0 : Nat) + os'.length ≤ os'.length)) = true by simp)
        let t9 : Tp pr := .n .rows (show (List.map (fun x => List.map C.fz x) (List.take os'.length (List.drop (0 : Nat) (rowD os')))) = List.map Obj.ce os' by simp)
        let t10 : Tp pr := .m (show (decide ((ints l').length = l'.length ∧ (0 : Nat) + l'.length ≤ l'.length)) = true by simp)
        let t11 : Tp pr := .n .rows (show (List.map (fun x => List.map C.fz x) (List.take l'.length (List.drop (0 : Nat) (ints l')))) = List.map intt l' by simp)
        exact .tp [.a (e1), .a (e2), .b (rfl : false = false), .a (l1), .a (e4), .a (l3), t6, .b (rfl : false = false), t8, t9, t10, t11] (by kernel_rfl)
  | true =>
    obtain ⟨v2, b0, t0', hv2, hb0, g0⟩ := pick_ex bs hb a2 s2 (by omega) (by omega) 2 (by omega)
    obtain ⟨n2, hn2⟩ : ∃ m : Nat, 40 + v2 = m := ⟨(40 + v2).toNat, by omega⟩
    obtain ⟨os', a3, s3, ho, hx', ha3, l1⟩ := hL1_ex bs hb n2 (by omega) n2 [] b0 t0' (by omega) (by omega) (by simp) (by simp)
    obtain ⟨m, a4, s4, hm, ha4, e4⟩ := pick_ex bs hb a3 s3 (by omega) (by omega) 4 (by omega)
    obtain ⟨m, rfl⟩ : ∃ k : Nat, m = k := ⟨m.toNat, by omega⟩
    obtain ⟨l', a5, s5, hl, ha5, l3⟩ := hL3_ex bs hb n2 (by omega) (by omega) os'.length (rowD os') m [] a4 s4 (by omega) (by omega) (by simp; omega)
    simp at hl ho
    rw [← hn2] at l1 l3
    by_cases hn0 : 0 < (40 + v2)
    · obtain ⟨w, b1, t1', hb1, g1⟩ := one_ex bs hb a5 s5 (by omega) (by omega) 20 (by omega)
      cases w with
      | false =>
        refine ⟨⟨os', l'⟩, b1, t1', ?_, ?_, ?_, ?_, ?_⟩
        · dsimp only; omega
        · exact fun x hx => by have := hx' x hx; omega
        · dsimp only; omega
        · omega
        · unfold cuB at *
          let t4 : Tp pr := .i (wrap_i64 (a := (40 : Int) + v2) (by omega) (by omega))
          let t8 : Tp pr := .b (show (decide ((40 : Int) + v2 > (0 : Int))) = true by (simp; omega))
          let t11 : Tp pr := .m (show (decide ((rowD os').length = os'.length ∧ (0 : Nat) + os'.length ≤ os'.length)) = true by simp)
          let t12 : Tp pr := .n .rows (show (List.map (fun x => List.map C.fz x) (List.take os'.length (List.drop (0 : Nat) (rowD os')))) = List.map Obj.ce os' by simp)
          let t13 : Tp pr := .m (show (decide ((ints l').length = l'.length ∧ (0 : Nat) + l'.length ≤ l'.length)) = true by simp)
          let t14 : Tp pr := .n .rows (show (List.map (fun x => List.map C.fz x) (List.take l'.length (List.drop (0 : Nat) (ints l')))) = List.map intt l' by simp)
          exact .tp [.a (e1), .a (e2), .b (rfl : true = true), .a (g0), t4, .a (l1), .a (e4), .a (l3), t8, .a (g1), .b (rfl : false = false), t11, t12, t13, t14] (by kernel_rfl)
      | true =>
        obtain ⟨v3, b2, t2', hv3, hb2, g2⟩ := pick_ex bs hb b1 t1' (by omega) (by omega) 3 (by omega)
        obtain ⟨o0, os2, ho2⟩ : ∃ o0 os2, os' = o0 :: os2 := by
          cases os' with
          | nil => simp at ho; omega
          | cons x l => exact ⟨x, l, rfl⟩
        subst ho2
        by_cases hz : v3 = 0
        · obtain ⟨mk, b3, t3', hmk, hb3, g3⟩ := among_ex bs hb b2 t2' (by omega) (by omega) [-1, 1000, 1001] (by simp) (by simp)
          subst hz
          refine ⟨⟨⟨mk, o0.links⟩ :: os2, l'⟩, b3, t3', ?_, ?_, ?_, ?_, ?_⟩
          · simp at ho ⊢; omega
          · intro x hx
            rcases List.mem_cons.1 hx with rfl | hx
            · have := hx' o0 (by simp); show o0.links.length ≤ 5; omega
            · have := hx' x (by simp [hx]); omega
          · dsimp only; omega
          · omega
          · unfold cuB at *
            rw [show rowD (o0 :: os2) = [C.t (.int .i64 o0.mark), C.t (.seq 1 (o0.links.map intt))] :: rowD os2 from rfl] at *
            let t4 : Tp pr := .i (wrap_i64 (a := (40 : Int) + v2) (by omega) (by omega))
            let t8 : Tp pr := .b (show (decide ((40 : Int) + v2 > (0 : Int))) = true by (simp; omega))
            let t18 : Tp pr := .n .rows (show (List.map (fun x => List.map C.fz x) (List.take (3 : Nat) (List.drop (0 : Nat) [[C.t (T.int IntKind.i64 (-1 : Int))], [C.t (T.int IntKind.i64 (1000 : Int))], [C.t (T.int IntKind.i64 (1001 : Int))]]))) = [[(C.t (T.int IntKind.i64 (-1 : Int))).fz], [(C.t (T.int IntKind.i64 (1000 : Int))).fz], [(C.t (T.int IntKind.i64 (1001 : Int))).fz]] by simp)
            let t25 : Tp pr := .m (show (decide (([C.t (T.int IntKind.i64 o0.mark), C.t (T.seq (1 : Nat) (List.map intt o0.links))] :: rowD os2).length = (o0 :: os2).length)) = true by simp)
            let t26 : Tp pr := .g .crow (show (some [C.t (T.int IntKind.i64 o0.mark), C.t (T.seq (1 : Nat) (List.map intt o0.links))]) = some ([C.t (T.int IntKind.i64 o0.mark), C.t (T.seq (1 : Nat) (List.map intt o0.links))]) by simp)
            let t27 : Tp pr := .m (show (decide (([C.t (T.int IntKind.i64 o0.mark), C.t (T.seq (1 : Nat) (List.map intt o0.links))] :: rowD os2).length = (o0 :: os2).length)) = true by simp)
            let t28 : Tp pr := .g .crow (show (some [C.t (T.int IntKind.i64 o0.mark), C.t (T.seq (1 : Nat) (List.map intt o0.links))]) = some ([C.t (T.int IntKind.i64 o0.mark), C.t (T.seq (1 : Nat) (List.map intt o0.links))]) by simp)
            let t29 : Tp pr := .n .crows (show (([C.t (T.int IntKind.i64 o0.mark), C.t (T.seq (1 : Nat) (List.map intt o0.links))] :: rowD os2).set (0 : Nat) [C.t (T.int IntKind.i64 mk), C.t (T.seq (1 : Nat) (List.map intt o0.links))]) = [C.t (T.int IntKind.i64 mk), C.t (T.seq (1 : Nat) (List.map intt o0.links))] :: rowD os2 by simp)
            let t31 : Tp pr := .m (show (decide (([C.t (T.int IntKind.i64 mk), C.t (T.seq (1 : Nat) (List.map intt o0.links))] :: rowD os2).length = (o0 :: os2).length ∧ (0 : Nat) + (o0 :: os2).length ≤ (o0 :: os2).length)) = true by simp)
            let t32 : Tp pr := .n .rows (show (List.map (fun x => List.map C.fz x) (List.take (o0 :: os2).length (List.drop (0 : Nat) ([C.t (T.int IntKind.i64 mk), C.t (T.seq (1 : Nat) (List.map intt o0.links))] :: rowD os2)))) = [(C.t (T.int IntKind.i64 mk)).fz, (C.t (T.seq (1 : Nat) (List.map intt o0.links))).fz] :: List.map Obj.ce os2 by simp)
            let t33 : Tp pr := .m (show (decide ((ints l').length = l'.length ∧ (0 : Nat) + l'.length ≤ l'.length)) = true by simp)
            let t34 : Tp pr := .n .rows (show (List.map (fun x => List.map C.fz x) (List.take l'.length (List.drop (0 : Nat) (ints l')))) = List.map intt l' by simp)
            exact .tp [.a (e1), .a (e2), .b (rfl : true = true), .a (g0), t4, .a (l1), .a (e4), .a (l3), t8, .a (g1), .b (rfl : true = true), .a (g2), .b (rfl : true = true), .m (rfl : true = true), .m (rfl : true = true), .m (rfl : true = true), .m (rfl : true = true), .m (rfl : true = true), t18, .a (g3), .m (rfl : true = true), .m (rfl : true = true), .c (rfl : ((0 : Nat)) = _), .m (rfl : true = true), .m (rfl : true = true), t25, t26, t27, t28, t29, .m (rfl : true = true), t31, t32, t33, t34] (by kernel_rfl)
        · by_cases hz1 : v3 = 1
          · obtain ⟨rt, b3, t3', hrt, hb3, g3⟩ := among_ex bs hb b2 t2' (by omega) (by omega) [-2, (40 + v2)] (by simp) (by simp)
            subst hz1
            refine ⟨⟨o0 :: os2, l' ++ [rt]⟩, b3, t3', ?_, ?_, ?_, ?_, ?_⟩
            · dsimp only; omega
            · exact fun x hx => by have := hx' x hx; omega
            · simp at hl ⊢; omega
            · omega
            · unfold cuB at *
              let t4 : Tp pr := .i (wrap_i64 (a := (40 : Int) + v2) (by omega) (by omega))
              let t8 : Tp pr := .b (show (decide ((40 : Int) + v2 > (0 : Int))) = true by (simp; omega))
              let t20 : Tp pr := .n .rows (show (List.map (fun x => List.map C.fz x) (List.take (2 : Nat) (List.drop (0 : Nat) [[C.t (T.int IntKind.i64 (-2 : Int))], [C.t (T.int IntKind.i64 ((40 : Int) + v2))]]))) = [[(C.t (T.int IntKind.i64 (-2 : Int))).fz], [(C.t (T.int IntKind.i64 ((40 : Int) + v2))).fz]] by simp)
              let t25 : Tp pr := .m (show (decide ((ints l').length = l'.length ∧ (0 : Nat) + l'.length ≤ l'.length ∧ l'.length + (1 : Nat) ≤ (4294967296 : Nat))) = true by (simp; omega))
              let t26 : Tp pr := .b (show (decide (l'.length + (1 : Nat) ≤ l'.length)) = false by simp)
              let t28 : Tp pr := .n .crows (show ((List.take l'.length (ints l')).append (List.take (1 : Nat) (List.drop (0 : Nat) [[C.t (T.int IntKind.i64 rt)]]))) = ints l' ++ [[C.t (T.int IntKind.i64 rt)]] by simp)
              let t32 : Tp pr := .m (show (decide ((rowD (o0 :: os2)).length = (o0 :: os2).length ∧ (0 : Nat) + (o0 :: os2).length ≤ (o0 :: os2).length)) = true by simp)
              let t33 : Tp pr := .n .rows (show (List.map (fun x => List.map C.fz x) (List.take (o0 :: os2).length (List.drop (0 : Nat) (rowD (o0 :: os2))))) = o0.ce :: List.map Obj.ce os2 by simp)
              let t34 : Tp pr := .m (show (decide (((ints l').append [[C.t (T.int IntKind.i64 rt)]]).length = l'.length + (1 : Nat) ∧ (0 : Nat) + (l'.length + (1 : Nat)) ≤ l'.length + (1 : Nat))) = true by simp)
              let t35 : Tp pr := .n .rows (show (List.map (fun x => List.map C.fz x) (List.take (l'.length + (1 : Nat)) (List.drop (0 : Nat) ((ints l').append [[C.t (T.int IntKind.i64 rt)]])))) = List.map intt l' ++ [[(C.t (T.int IntKind.i64 rt)).fz]] by simp)
              exact .tpe [.a (e1), .a (e2), .b (rfl : true = true), .a (g0), t4, .a (l1), .a (e4), .a (l3), t8, .a (g1), .b (rfl : true = true), .a (g2), .b (rfl : false = false), .b (rfl : true = true), .m (rfl : true = true), .m (rfl : true = true), .m (rfl : true = true), .m (rfl : true = true), .m (rfl : true = true), .m (rfl : true = true), t20, .a (g3), .m (rfl : true = true), .m (rfl : true = true), .m (rfl : true = true), t25, t26, .c (rfl : (l'.length + (1 : Nat)) = _), t28, .m (rfl : true = true), .m (rfl : true = true), .m (rfl : true = true), t32, t33, t34, t35] (Out.val (V.agg [V.t (T.seq (2 : Nat) ([T.int IntKind.i64 o0.mark, T.seq (1 : Nat) (List.map intt o0.links)] :: List.map Obj.ce os2)), V.t (T.seq (1 : Nat) ((List.map intt l').append [[T.int IntKind.i64 rt]]))]) [Ob.box [V.t (T.seq (1 : Nat) (List.map u8t bs)), V.t (T.int IntKind.i64 b3), V.t (T.int IntKind.u64 t3')]]) (by kernel_rfl) ((congrArg (fun x => Out.val (V.agg [V.t (T.seq (2 : Nat) x), V.t (T.seq (1 : Nat) ((List.map intt l').append [[T.int IntKind.i64 rt]]))]) [Ob.box [V.t (T.seq (1 : Nat) (List.map u8t bs)), V.t (T.int IntKind.i64 b3), V.t (T.int IntKind.u64 t3')]]) (show ([T.int IntKind.i64 o0.mark, T.seq (1 : Nat) (List.map intt o0.links)] :: List.map Obj.ce os2) = (List.map Obj.ce (Hp.mk (o0 :: os2) (l' ++ [rt])).objects) by simp [intt, Obj.ce])).trans (congrArg (fun x => Out.val (V.agg [V.t (T.seq (2 : Nat) (List.map Obj.ce (Hp.mk (o0 :: os2) (l' ++ [rt])).objects)), V.t (T.seq (1 : Nat) x)]) [Ob.box [V.t (T.seq (1 : Nat) (List.map u8t bs)), V.t (T.int IntKind.i64 b3), V.t (T.int IntKind.u64 t3')]]) (show ((List.map intt l').append [[T.int IntKind.i64 rt]]) = (List.map intt (Hp.mk (o0 :: os2) (l' ++ [rt])).roots) by simp [intt, Obj.ce])))
          · refine ⟨⟨⟨o0.mark, [0, 0, 0, 0, 0]⟩ :: os2, l'⟩, b2, t2', ?_, ?_, ?_, ?_, ?_⟩
            · simp at ho ⊢; omega
            · intro x hx
              rcases List.mem_cons.1 hx with rfl | hx
              · simp
              · have := hx' x (by simp [hx]); omega
            · dsimp only; omega
            · omega
            · unfold cuB at *
              rw [show rowD (o0 :: os2) = [C.t (.int .i64 o0.mark), C.t (.seq 1 (o0.links.map intt))] :: rowD os2 from rfl] at *
              let t4 : Tp pr := .i (wrap_i64 (a := (40 : Int) + v2) (by omega) (by omega))
              let t8 : Tp pr := .b (show (decide ((40 : Int) + v2 > (0 : Int))) = true by (simp; omega))
              let t12 : Tp pr := .b (show (decide (v3 = (0 : Int))) = false by (simp; omega))
              let t13 : Tp pr := .b (show (decide (v3 = (1 : Int))) = false by (simp; omega))
              let t17 : Tp pr := .n .rows (show (List.map (fun x => List.map C.fz x) (List.take (5 : Nat) (List.drop (0 : Nat) [[C.t (T.int IntKind.i64 (0 : Int))], [C.t (T.int IntKind.i64 (0 : Int))], [C.t (T.int IntKind.i64 (0 : Int))], [C.t (T.int IntKind.i64 (0 : Int))], [C.t (T.int IntKind.i64 (0 : Int))]]))) = [[(C.t (T.int IntKind.i64 (0 : Int))).fz], [(C.t (T.int IntKind.i64 (0 : Int))).fz], [(C.t (T.int IntKind.i64 (0 : Int))).fz], [(C.t (T.int IntKind.i64 (0 : Int))).fz], [(C.t (T.int IntKind.i64 (0 : Int))).fz]] by simp)
              let t18 : Tp pr := .m (show (decide (([C.t (T.int IntKind.i64 o0.mark), C.t (T.seq (1 : Nat) (List.map intt o0.links))] :: rowD os2).length = (o0 :: os2).length)) = true by simp)
              let t19 : Tp pr := .g .crow (show (some [C.t (T.int IntKind.i64 o0.mark), C.t (T.seq (1 : Nat) (List.map intt o0.links))]) = some ([C.t (T.int IntKind.i64 o0.mark), C.t (T.seq (1 : Nat) (List.map intt o0.links))]) by simp)
              let t20 : Tp pr := .n .crows (show (([C.t (T.int IntKind.i64 o0.mark), C.t (T.seq (1 : Nat) (List.map intt o0.links))] :: rowD os2).set (0 : Nat) [C.t (T.int IntKind.i64 o0.mark), C.t (T.seq (1 : Nat) [[T.int IntKind.i64 (0 : Int)], [T.int IntKind.i64 (0 : Int)], [T.int IntKind.i64 (0 : Int)], [T.int IntKind.i64 (0 : Int)], [T.int IntKind.i64 (0 : Int)]])]) = [C.t (T.int IntKind.i64 o0.mark), C.t (T.seq (1 : Nat) [[T.int IntKind.i64 (0 : Int)], [T.int IntKind.i64 (0 : Int)], [T.int IntKind.i64 (0 : Int)], [T.int IntKind.i64 (0 : Int)], [T.int IntKind.i64 (0 : Int)]])] :: rowD os2 by simp)
              let t21 : Tp pr := .m (show (decide (([C.t (T.int IntKind.i64 o0.mark), C.t (T.seq (1 : Nat) [[T.int IntKind.i64 (0 : Int)], [T.int IntKind.i64 (0 : Int)], [T.int IntKind.i64 (0 : Int)], [T.int IntKind.i64 (0 : Int)], [T.int IntKind.i64 (0 : Int)]])] :: rowD os2).length = (o0 :: os2).length ∧ (0 : Nat) + (o0 :: os2).length ≤ (o0 :: os2).length)) = true by simp)
              let t22 : Tp pr := .n .rows (show (List.map (fun x => List.map C.fz x) (List.take (o0 :: os2).length (List.drop (0 : Nat) ([C.t (T.int IntKind.i64 o0.mark), C.t (T.seq (1 : Nat) [[T.int IntKind.i64 (0 : Int)], [T.int IntKind.i64 (0 : Int)], [T.int IntKind.i64 (0 : Int)], [T.int IntKind.i64 (0 : Int)], [T.int IntKind.i64 (0 : Int)]])] :: rowD os2)))) = [(C.t (T.int IntKind.i64 o0.mark)).fz, (C.t (T.seq (1 : Nat) [[T.int IntKind.i64 (0 : Int)], [T.int IntKind.i64 (0 : Int)], [T.int IntKind.i64 (0 : Int)], [T.int IntKind.i64 (0 : Int)], [T.int IntKind.i64 (0 : Int)]])).fz] :: List.map Obj.ce os2 by simp)
              let t23 : Tp pr := .m (show (decide ((ints l').length = l'.length ∧ (0 : Nat) + l'.length ≤ l'.length)) = true by simp)
              let t24 : Tp pr := .n .rows (show (List.map (fun x => List.map C.fz x) (List.take l'.length (List.drop (0 : Nat) (ints l')))) = List.map intt l' by simp)
              exact .tp [.a (e1), .a (e2), .b (rfl : true = true), .a (g0), t4, .a (l1), .a (e4), .a (l3), t8, .a (g1), .b (rfl : true = true), .a (g2), t12, t13, .m (rfl : true = true), .c (rfl : ((0 : Nat)) = _), .m (rfl : true = true), t17, t18, t19, t20, t21, t22, t23, t24] (by kernel_rfl)
    · exact absurd (by omega) hn0
end Go.Ev

/- Heaps that are the same, az the laws ask it. -/
namespace Go.Ev
set_option linter.unusedVariables false
set_option linter.unusedSimpArgs false
open Go.Proofs
set_option maxRecDepth 100000
set_option linter.unusedVariables false
set_option maxHeartbeats 2000000
theorem sameIL_ev (l : List Int) (hl : l.length ≤ 1048576) : ∀ (r m : List Int), l = m ++ r →
    Ev pr (.loop (lq pr 38 0) (at_ [(0, isq l), (1, isq l), (12, i64 l.length), (13, i64 m.length)] [] 0)) (.exit 0 (at_ [] [] 0))
  | [], m, he => by
    have hll : (l.length : Int) = m.length := by simp [he]
    let t0 : Tp pr := .b (show (decide ((↑m.length : Int) < (↑l.length : Int))) = false by (simp; omega))
    exact .tp [t0] (by kernel_rfl)
  | x :: r, m, he => by
    have hll : (l.length : Int) = m.length + 1 + r.length := by simp [he]; omega
    have hg : lkp (l.map intt) (m.length : Int) = some [T.int .i64 x] := by rw [he]; simp [intt]
    have ih := sameIL_ev l hl r (m ++ [x]) (by simp [he])
    let t0 : Tp pr := .b (show (decide ((↑m.length : Int) < (↑l.length : Int))) = true by (simp; omega))
    let t3 : Tp pr := .g .row (show (lkp (List.map intt l) (↑m.length : Int)) = some ([T.int IntKind.i64 x]) from hg)
    let t8 : Tp pr := .g .row (show (lkp (List.map intt l) (↑m.length : Int)) = some ([T.int IntKind.i64 x]) from hg)
    let t13 : Tp pr := .i (wrap_i64 (a := (↑m.length : Int) + (1 : Int)) (by omega) (by omega))
    let t14 : Tp pr := .a (Ev.castq (congrArg (fun x => Q.loop (lq pr (38 : FuncId) (0 : Nat)) (at_ [((0 : Nat), isq l), ((1 : Nat), isq l), ((12 : Nat), i64 (↑l.length : Int)), ((13 : Nat), i64 x)] [] (0 : Nat))) (show ((↑(m ++ [x]).length : Int)) = ((↑m.length : Int) + (1 : Int)) by simp)) (ih))
    exact .tp [t0, .m (rfl : true = true), .m (rfl : true = true), t3, .m (rfl : true = true), .m (rfl : true = true), .m (rfl : true = true), .m (rfl : true = true), t8, .m (rfl : true = true), .m (rfl : true = true), .m (rfl : true = true), .b (show (x != x) = false by simp), t13, t14] (by kernel_rfl)
theorem sameInts_ev (l : List Int) (hl : l.length ≤ 1048576) : Ev pr (.call 38 [isq l, isq l] []) (.val (bl true) []) := by
  have g := sameIL_ev l hl l [] rfl
  let t0 : Tp pr := .i (show ((↑(List.map intt l).length : Int) : Int) = (↑l.length : Int) by simp)
  let t1 : Tp pr := .i (show ((↑(List.map intt l).length : Int) : Int) = (↑l.length : Int) by simp)
  let t2 : Tp pr := .b (show ((↑l.length : Int) != (↑l.length : Int)) = false by simp)
  let t3 : Tp pr := .i (show ((↑(List.map intt l).length : Int) : Int) = (↑l.length : Int) by simp)
  exact .tp [t0, t1, t2, t3, .a (g)] (by kernel_rfl)
theorem sameHpL_ev (os : List Obj) (rs rs2 : List Int) (hl : os.length ≤ 1048576) (hx : ∀ x ∈ os, x.links.length ≤ 1048576) : ∀ (r m : List Obj), os = m ++ r →
    Ev pr (.loop (lq pr 24 0) (at_ [(2, .ptr 0 1 0 0), (3, .ptr 1 1 0 0), (23, i64 os.length), (24, i64 m.length)] [.box [osq os, isq rs], .box [osq os, isq rs2]] 0)) (.exit 0 (at_ [] [] 0))
  | [], m, he => by
    have hll : (os.length : Int) = m.length := by simp [he]
    let t0 : Tp pr := .b (show (decide ((↑m.length : Int) < (↑os.length : Int))) = false by (simp; omega))
    exact .tp [t0] (by kernel_rfl)
  | x :: r, m, he => by
    have hll : (os.length : Int) = m.length + 1 + r.length := by simp [he]; omega
    have hg : lkp (os.map Obj.ce) (m.length : Int) = some x.ce := by rw [he]; simp
    have ih := sameHpL_ev os rs rs2 hl hx r (m ++ [x]) (by simp [he])
    have hs := sameInts_ev x.links (hx x (by simp [he]))
    let t0 : Tp pr := .b (show (decide ((↑m.length : Int) < (↑os.length : Int))) = true by (simp; omega))
    let t4 : Tp pr := .g .row (show (lkp (List.map Obj.ce os) (↑m.length : Int)) = some (x.ce) from hg)
    let t11 : Tp pr := .g .row (show (lkp (List.map Obj.ce os) (↑m.length : Int)) = some (x.ce) from hg)
    let t17 : Tp pr := .b (show (x.mark != x.mark) = false by simp)
    let t21 : Tp pr := .g .row (show (lkp (List.map Obj.ce os) (↑m.length : Int)) = some (x.ce) from hg)
    let t28 : Tp pr := .g .row (show (lkp (List.map Obj.ce os) (↑m.length : Int)) = some (x.ce) from hg)
    let t37 : Tp pr := .i (wrap_i64 (a := (↑m.length : Int) + (1 : Int)) (by omega) (by omega))
    let t38 : Tp pr := .a (Ev.castq (congrArg (fun x => Q.loop (lq pr (24 : FuncId) (0 : Nat)) (at_ [((2 : Nat), V.ptr (0 : Nat) (1 : Nat) (0 : Nat) (0 : Nat)), ((3 : Nat), V.ptr (1 : Nat) (1 : Nat) (0 : Nat) (0 : Nat)), ((23 : Nat), i64 (↑os.length : Int)), ((24 : Nat), i64 x)] [Ob.box [osq os, isq rs], Ob.box [osq os, isq rs2]] (0 : Nat))) (show ((↑(m ++ [x]).length : Int)) = ((↑m.length : Int) + (1 : Int)) by simp)) (ih))
    exact .tp [t0, .m (rfl : true = true), .m (rfl : true = true), .m (rfl : true = true), t4, .m (rfl : true = true), .m (rfl : true = true), .m (rfl : true = true), .m (rfl : true = true), .m (rfl : true = true), .m (rfl : true = true), t11, .m (rfl : true = true), .m (rfl : true = true), .m (rfl : true = true), .m (rfl : true = true), .m (rfl : true = true), t17, .m (rfl : true = true), .m (rfl : true = true), .m (rfl : true = true), t21, .m (rfl : true = true), .m (rfl : true = true), .m (rfl : true = true), .m (rfl : true = true), .m (rfl : true = true), .m (rfl : true = true), t28, .m (rfl : true = true), .m (rfl : true = true), .m (rfl : true = true), .a (hs), .m (rfl : true = true), .m (rfl : true = true), .m (rfl : true = true), .b (rfl : false = false), t37, t38] (by kernel_rfl)
theorem sameHp_ev (h : Hp) (h1 : h.objects.length ≤ 1048576) (h2 : ∀ x ∈ h.objects, x.links.length ≤ 1048576) (h3 : h.roots.length ≤ 1048576) : Ev pr (.call 24 [vs h.ce, vs h.ce] []) (.val (bl true) []) := by
  have g := sameInts_ev h.roots h3
  have g2 := sameHpL_ev h.objects h.roots h.roots h1 h2 h.objects [] rfl
  let t2 : Tp pr := .i (show ((↑(List.map Obj.ce h.objects).length : Int) : Int) = (↑h.objects.length : Int) by simp)
  let t3 : Tp pr := .i (show ((↑(List.map Obj.ce h.objects).length : Int) : Int) = (↑h.objects.length : Int) by simp)
  let t4 : Tp pr := .b (show ((↑h.objects.length : Int) != (↑h.objects.length : Int)) = false by simp)
  let t5 : Tp pr := .i (show ((↑(List.map Obj.ce h.objects).length : Int) : Int) = (↑h.objects.length : Int) by simp)
  exact .tp [.a (g), .b (rfl : false = false), t2, t3, t4, t5, .a (g2)] (by kernel_rfl)
end Go.Ev

/- FollowPath: the program's and the reference's. -/
namespace Go.Ev
set_option linter.unusedVariables false
set_option linter.unusedSimpArgs false
open Go.Proofs
set_option maxRecDepth 100000
set_option linter.unusedVariables false
set_option maxHeartbeats 2000000
def fpOut (o : Option Int) : Out := match o with
  | some b => .exit 0 (at_ [(3, .ptr 0 1 0 0), (8, i64 b)] [] 0)
  | none => .ret (at_ [(6, i64 0), (7, bl false)] [] 0)
def fpM (h : Hp) : List Ob := [.box [osq h.objects, isq h.roots]]
def fpX (h : Hp) (o : Option Int) : Out := match o with
  | some b => .exit 0 (at_ [(3, .ptr 0 1 0 0), (8, i64 b)] [.box [osq h.objects, isq h.roots]] 0)
  | none => .ret (at_ [(6, i64 0), (7, bl false)] [] 0)
theorem walkI_ev (h : Hp) (hg : GoodH h) (p : List Int) (hp : p.length ≤ 40) : ∀ (r m : List Int) (a : Int), p = m ++ r → a < h.objects.length →
    Ev pr (.loop (lq pr 33 0) (at_ [(3, .ptr 0 1 0 0), (8, i64 a), (33, isq p), (34, i64 p.length), (35, i64 m.length)] [.box [osq h.objects, isq h.roots]] 0)) (fpX h (walkP h a r))
  | [], m, a, he, ha => by
    have hll : (p.length : Int) = m.length := by simp [he]
    rw [show fpX h (walkP h a []) = .exit 0 (at_ [(3, .ptr 0 1 0 0), (8, i64 a)] [.box [osq h.objects, isq h.roots]] 0) from rfl]
    let t0 : Tp pr := .b (show (decide ((↑m.length : Int) < (↑p.length : Int))) = false by (simp; omega))
    exact .tp [t0] (by kernel_rfl)
  | k :: r, m, a, he, ha => by
    have hll : (p.length : Int) = m.length + 1 + r.length := by simp [he]; omega
    have hgk : lkp (p.map intt) (m.length : Int) = some [T.int .i64 k] := by rw [he]; simp [intt]
    by_cases h0 : a < 0
    · rw [show walkP h a (k :: r) = none by rw [walkP, if_pos h0], show fpX h none = .ret (at_ [(6, i64 0), (7, bl false)] [] 0) from rfl]
      let t0 : Tp pr := .b (show (decide ((↑m.length : Int) < (↑p.length : Int))) = true by (simp; omega))
      let t1 : Tp pr := .g .row (show (lkp (List.map intt p) (↑m.length : Int)) = some ([T.int IntKind.i64 k]) from hgk)
      let t2 : Tp pr := .b (show (decide (a < (0 : Int))) = true by (simp; omega))
      exact .tp [t0, t1, t2, .b (rfl : true = true)] (by kernel_rfl)
    · have hlk := objAt_lkp (h := h) (k := a) (by omega) ha
      have hm := hg.llen _ (objAt_mem (by omega) ha)
      have w := within_ev k 0 ((objAt h a).links.length - 1)
      by_cases hk : 0 ≤ k ∧ k < (objAt h a).links.length
      · rw [show (decide (k ≥ 0) && decide (k ≤ ((objAt h a).links.length : Int) - 1)) = true by
          rw [Bool.and_eq_true]; exact ⟨by simpa using hk.1, by simp; omega⟩] at w
        have hlt : k.toNat < (objAt h a).links.length := by omega
        have hx : (objAt h a).links.getD k.toNat 0 = (objAt h a).links[k.toNat] := by rw [List.getD_eq_getElem?_getD, List.getElem?_eq_getElem hlt]; rfl
        have hmm := (hg.links _ (objAt_mem (by omega) ha) _ (List.getElem_mem hlt)).2
        have hlx : lkp ((objAt h a).links.map intt) k = some [T.int .i64 (objAt h a).links[k.toNat]] := by simp [lkp, intt, hk.1, hlt]
        rw [show walkP h a (k :: r) = walkP h ((objAt h a).links.getD k.toNat 0) r by rw [walkP, if_neg h0, if_pos hk], hx]
        generalize (objAt h a).links[k.toNat] = b at *
        have ih := walkI_ev h hg p hp r (m ++ [k]) b (by simp [he]) hmm
        unfold fpX at ih ⊢
        cases hw : walkP h b r with
        | some c => rw [hw] at ih; (
          let t0 : Tp pr := .b (show (decide ((↑m.length : Int) < (↑p.length : Int))) = true by (simp; omega))
          let t1 : Tp pr := .g .row (show (lkp (List.map intt p) (↑m.length : Int)) = some ([T.int IntKind.i64 k]) from hgk)
          let t2 : Tp pr := .b (show (decide (a < (0 : Int))) = false by (simp; omega))
          let t3 : Tp pr := .g .row (show (lkp (List.map Obj.ce h.objects) a) = some ((objAt h a).ce) from hlk)
          let t4 : Tp pr := .i (show ((↑(List.map intt (objAt h a).links).length : Int) : Int) = (↑(objAt h a).links.length : Int) by simp)
          let t5 : Tp pr := .i (wrap_i64 (a := (↑(objAt h a).links.length : Int) - (1 : Int)) (by omega) (by omega))
          let t8 : Tp pr := .g .row (show (lkp (List.map Obj.ce h.objects) a) = some ((objAt h a).ce) from hlk)
          let t9 : Tp pr := .g .row (show (lkp (List.map intt (objAt h a).links) k) = some ([T.int IntKind.i64 b]) from hlx)
          let t10 : Tp pr := .i (wrap_i64 (a := (↑m.length : Int) + (1 : Int)) (by omega) (by omega))
          let t11 : Tp pr := .a (Ev.castq (congrArg (fun x => Q.loop (lq pr (33 : FuncId) (0 : Nat)) (at_ [((3 : Nat), V.ptr (0 : Nat) (1 : Nat) (0 : Nat) (0 : Nat)), ((8 : Nat), i64 b), ((33 : Nat), isq p), ((34 : Nat), i64 (↑p.length : Int)), ((35 : Nat), i64 x)] [Ob.box [osq h.objects, isq h.roots]] (0 : Nat))) (show ((↑(m ++ [k]).length : Int)) = ((↑m.length : Int) + (1 : Int)) by simp)) (ih))
          exact .tp [t0, t1, t2, t3, t4, t5, .a (w), .b (rfl : false = false), t8, t9, t10, t11] (by kernel_rfl))
        | none => rw [hw] at ih; (
          let t0 : Tp pr := .b (show (decide ((↑m.length : Int) < (↑p.length : Int))) = true by (simp; omega))
          let t1 : Tp pr := .g .row (show (lkp (List.map intt p) (↑m.length : Int)) = some ([T.int IntKind.i64 k]) from hgk)
          let t2 : Tp pr := .b (show (decide (a < (0 : Int))) = false by (simp; omega))
          let t3 : Tp pr := .g .row (show (lkp (List.map Obj.ce h.objects) a) = some ((objAt h a).ce) from hlk)
          let t4 : Tp pr := .i (show ((↑(List.map intt (objAt h a).links).length : Int) : Int) = (↑(objAt h a).links.length : Int) by simp)
          let t5 : Tp pr := .i (wrap_i64 (a := (↑(objAt h a).links.length : Int) - (1 : Int)) (by omega) (by omega))
          let t8 : Tp pr := .g .row (show (lkp (List.map Obj.ce h.objects) a) = some ((objAt h a).ce) from hlk)
          let t9 : Tp pr := .g .row (show (lkp (List.map intt (objAt h a).links) k) = some ([T.int IntKind.i64 b]) from hlx)
          let t10 : Tp pr := .i (wrap_i64 (a := (↑m.length : Int) + (1 : Int)) (by omega) (by omega))
          let t11 : Tp pr := .a (Ev.castq (congrArg (fun x => Q.loop (lq pr (33 : FuncId) (0 : Nat)) (at_ [((3 : Nat), V.ptr (0 : Nat) (1 : Nat) (0 : Nat) (0 : Nat)), ((8 : Nat), i64 b), ((33 : Nat), isq p), ((34 : Nat), i64 (↑p.length : Int)), ((35 : Nat), i64 x)] [Ob.box [osq h.objects, isq h.roots]] (0 : Nat))) (show ((↑(m ++ [k]).length : Int)) = ((↑m.length : Int) + (1 : Int)) by simp)) (ih))
          exact .tp [t0, t1, t2, t3, t4, t5, .a (w), .b (rfl : false = false), t8, t9, t10, t11] (by kernel_rfl))
      · rw [show (decide (k ≥ 0) && decide (k ≤ ((objAt h a).links.length : Int) - 1)) = false by
          rw [Bool.and_eq_false_iff]; by_cases h1 : 0 ≤ k
          · right; simp; omega
          · left; simpa using h1] at w
        rw [show walkP h a (k :: r) = none by rw [walkP, if_neg h0, if_neg hk], show fpX h none = .ret (at_ [(6, i64 0), (7, bl false)] [] 0) from rfl]
        let t0 : Tp pr := .b (show (decide ((↑m.length : Int) < (↑p.length : Int))) = true by (simp; omega))
        let t1 : Tp pr := .g .row (show (lkp (List.map intt p) (↑m.length : Int)) = some ([T.int IntKind.i64 k]) from hgk)
        let t2 : Tp pr := .b (show (decide (a < (0 : Int))) = false by (simp; omega))
        let t3 : Tp pr := .g .row (show (lkp (List.map Obj.ce h.objects) a) = some ((objAt h a).ce) from hlk)
        let t4 : Tp pr := .i (show ((↑(List.map intt (objAt h a).links).length : Int) : Int) = (↑(objAt h a).links.length : Int) by simp)
        let t5 : Tp pr := .i (wrap_i64 (a := (↑(objAt h a).links.length : Int) - (1 : Int)) (by omega) (by omega))
        exact .tp [t0, t1, t2, t3, t4, t5, .a (w), .b (rfl : true = true)] (by kernel_rfl)
theorem walkS_ev (h : Hp) (hg : GoodH h) (p : List Int) (hp : p.length ≤ 40) : ∀ (r m : List Int) (a : Int), p = m ++ r → a < h.objects.length →
    Ev pr (.loop (lq pr 34 0) (at_ [(3, .ptr 0 1 0 0), (8, i64 a), (35, isq p), (36, i64 p.length), (37, i64 m.length)] [.box [osq h.objects, isq h.roots]] 0)) (fpX h (walkP h a r))
  | [], m, a, he, ha => by
    have hll : (p.length : Int) = m.length := by simp [he]
    rw [show fpX h (walkP h a []) = .exit 0 (at_ [(3, .ptr 0 1 0 0), (8, i64 a)] [.box [osq h.objects, isq h.roots]] 0) from rfl]
    let t0 : Tp pr := .b (show (decide ((↑m.length : Int) < (↑p.length : Int))) = false by (simp; omega))
    exact .tp [t0] (by kernel_rfl)
  | k :: r, m, a, he, ha => by
    have hll : (p.length : Int) = m.length + 1 + r.length := by simp [he]; omega
    have hgk : lkp (p.map intt) (m.length : Int) = some [T.int .i64 k] := by rw [he]; simp [intt]
    by_cases h0 : a < 0
    · rw [show walkP h a (k :: r) = none by rw [walkP, if_pos h0], show fpX h none = .ret (at_ [(6, i64 0), (7, bl false)] [] 0) from rfl]
      let t0 : Tp pr := .b (show (decide ((↑m.length : Int) < (↑p.length : Int))) = true by (simp; omega))
      let t1 : Tp pr := .g .row (show (lkp (List.map intt p) (↑m.length : Int)) = some ([T.int IntKind.i64 k]) from hgk)
      let t2 : Tp pr := .b (show (decide (a < (0 : Int))) = true by (simp; omega))
      exact .tp [t0, t1, t2, .b (rfl : true = true), .b (rfl : true = true)] (by kernel_rfl)
    · have hlk := objAt_lkp (h := h) (k := a) (by omega) ha
      have hm := hg.llen _ (objAt_mem (by omega) ha)
      by_cases hk : 0 ≤ k ∧ k < (objAt h a).links.length
      · have hlt : k.toNat < (objAt h a).links.length := by omega
        have hx : (objAt h a).links.getD k.toNat 0 = (objAt h a).links[k.toNat] := by rw [List.getD_eq_getElem?_getD, List.getElem?_eq_getElem hlt]; rfl
        have hmm := (hg.links _ (objAt_mem (by omega) ha) _ (List.getElem_mem hlt)).2
        have hlx : lkp ((objAt h a).links.map intt) k = some [T.int .i64 (objAt h a).links[k.toNat]] := by simp [lkp, intt, hk.1, hlt]
        rw [show walkP h a (k :: r) = walkP h ((objAt h a).links.getD k.toNat 0) r by rw [walkP, if_neg h0, if_pos hk], hx]
        generalize (objAt h a).links[k.toNat] = b at *
        have ih := walkS_ev h hg p hp r (m ++ [k]) b (by simp [he]) hmm
        unfold fpX at ih ⊢
        cases hw : walkP h b r with
        | some c => rw [hw] at ih; (
          let t0 : Tp pr := .b (show (decide ((↑m.length : Int) < (↑p.length : Int))) = true by (simp; omega))
          let t1 : Tp pr := .g .row (show (lkp (List.map intt p) (↑m.length : Int)) = some ([T.int IntKind.i64 k]) from hgk)
          let t2 : Tp pr := .b (show (decide (a < (0 : Int))) = false by (simp; omega))
          let t3 : Tp pr := .b (show (decide (k < (0 : Int))) = false by (simp; omega))
          let t4 : Tp pr := .g .row (show (lkp (List.map Obj.ce h.objects) a) = some ((objAt h a).ce) from hlk)
          let t5 : Tp pr := .i (show ((↑(List.map intt (objAt h a).links).length : Int) : Int) = (↑(objAt h a).links.length : Int) by simp)
          let t6 : Tp pr := .b (show (decide (k ≥ (↑(objAt h a).links.length : Int))) = false by (simp; omega))
          let t7 : Tp pr := .g .row (show (lkp (List.map Obj.ce h.objects) a) = some ((objAt h a).ce) from hlk)
          let t8 : Tp pr := .g .row (show (lkp (List.map intt (objAt h a).links) k) = some ([T.int IntKind.i64 b]) from hlx)
          let t9 : Tp pr := .i (wrap_i64 (a := (↑m.length : Int) + (1 : Int)) (by omega) (by omega))
          let t10 : Tp pr := .a (Ev.castq (congrArg (fun x => Q.loop (lq pr (34 : FuncId) (0 : Nat)) (at_ [((3 : Nat), V.ptr (0 : Nat) (1 : Nat) (0 : Nat) (0 : Nat)), ((8 : Nat), i64 b), ((35 : Nat), isq p), ((36 : Nat), i64 (↑p.length : Int)), ((37 : Nat), i64 x)] [Ob.box [osq h.objects, isq h.roots]] (0 : Nat))) (show ((↑(m ++ [k]).length : Int)) = ((↑m.length : Int) + (1 : Int)) by simp)) (ih))
          exact .tp [t0, t1, t2, t3, t4, t5, t6, t7, t8, t9, t10] (by kernel_rfl))
        | none => rw [hw] at ih; (
          let t0 : Tp pr := .b (show (decide ((↑m.length : Int) < (↑p.length : Int))) = true by (simp; omega))
          let t1 : Tp pr := .g .row (show (lkp (List.map intt p) (↑m.length : Int)) = some ([T.int IntKind.i64 k]) from hgk)
          let t2 : Tp pr := .b (show (decide (a < (0 : Int))) = false by (simp; omega))
          let t3 : Tp pr := .b (show (decide (k < (0 : Int))) = false by (simp; omega))
          let t4 : Tp pr := .g .row (show (lkp (List.map Obj.ce h.objects) a) = some ((objAt h a).ce) from hlk)
          let t5 : Tp pr := .i (show ((↑(List.map intt (objAt h a).links).length : Int) : Int) = (↑(objAt h a).links.length : Int) by simp)
          let t6 : Tp pr := .b (show (decide (k ≥ (↑(objAt h a).links.length : Int))) = false by (simp; omega))
          let t7 : Tp pr := .g .row (show (lkp (List.map Obj.ce h.objects) a) = some ((objAt h a).ce) from hlk)
          let t8 : Tp pr := .g .row (show (lkp (List.map intt (objAt h a).links) k) = some ([T.int IntKind.i64 b]) from hlx)
          let t9 : Tp pr := .i (wrap_i64 (a := (↑m.length : Int) + (1 : Int)) (by omega) (by omega))
          let t10 : Tp pr := .a (Ev.castq (congrArg (fun x => Q.loop (lq pr (34 : FuncId) (0 : Nat)) (at_ [((3 : Nat), V.ptr (0 : Nat) (1 : Nat) (0 : Nat) (0 : Nat)), ((8 : Nat), i64 b), ((35 : Nat), isq p), ((36 : Nat), i64 (↑p.length : Int)), ((37 : Nat), i64 x)] [Ob.box [osq h.objects, isq h.roots]] (0 : Nat))) (show ((↑(m ++ [k]).length : Int)) = ((↑m.length : Int) + (1 : Int)) by simp)) (ih))
          exact .tp [t0, t1, t2, t3, t4, t5, t6, t7, t8, t9, t10] (by kernel_rfl))
      · rw [show walkP h a (k :: r) = none by rw [walkP, if_neg h0, if_neg hk], show fpX h none = .ret (at_ [(6, i64 0), (7, bl false)] [] 0) from rfl]
        by_cases h1 : 0 ≤ k
        · have h2 : ¬ (k < (objAt h a).links.length) := fun hh => hk ⟨h1, hh⟩
          let t0 : Tp pr := .b (show (decide ((↑m.length : Int) < (↑p.length : Int))) = true by (simp; omega))
          let t1 : Tp pr := .g .row (show (lkp (List.map intt p) (↑m.length : Int)) = some ([T.int IntKind.i64 k]) from hgk)
          let t2 : Tp pr := .b (show (decide (a < (0 : Int))) = false by (simp; omega))
          let t3 : Tp pr := .b (show (decide (k < (0 : Int))) = false by (simp; omega))
          let t4 : Tp pr := .g .row (show (lkp (List.map Obj.ce h.objects) a) = some ((objAt h a).ce) from hlk)
          let t5 : Tp pr := .i (show ((↑(List.map intt (objAt h a).links).length : Int) : Int) = (↑(objAt h a).links.length : Int) by simp)
          let t6 : Tp pr := .b (show (decide (k ≥ (↑(objAt h a).links.length : Int))) = true by (simp; omega))
          exact .tp [t0, t1, t2, t3, t4, t5, t6] (by kernel_rfl)
        · let t0 : Tp pr := .b (show (decide ((↑m.length : Int) < (↑p.length : Int))) = true by (simp; omega))
          let t1 : Tp pr := .g .row (show (lkp (List.map intt p) (↑m.length : Int)) = some ([T.int IntKind.i64 k]) from hgk)
          let t2 : Tp pr := .b (show (decide (a < (0 : Int))) = false by (simp; omega))
          let t3 : Tp pr := .b (show (decide (k < (0 : Int))) = true by (simp; omega))
          exact .tp [t0, t1, t2, t3, .b (rfl : true = true)] (by kernel_rfl)
end Go.Ev

/- FollowPath: what it tells. -/
namespace Go.Ev
set_option linter.unusedVariables false
set_option linter.unusedSimpArgs false
open Go.Proofs
set_option maxRecDepth 100000
set_option linter.unusedVariables false
set_option maxHeartbeats 2000000
theorem FpIA_ev (h : Hp) (root : Int) (p : List Int) (h1 : h.objects.length ≤ 1048576) (h2 : ∀ x ∈ h.objects, x.links.length ≤ 1048576) (h3 : h.roots.length ≤ 1048576) (hp : p.length ≤ 1048576) (hg : goodHeap h = false) :
    Ev pr (.call 33 [vs h.ce, i64 root, isq p] []) (.val (.tup [i64 0, bl false]) []) := by
  have e := GoodHeapI_ev h h1 h2 h3
  rw [hg] at e
  exact .tp [.a (e), .b (rfl : true = true), .b (rfl : true = true), .b (rfl : true = true)] (by kernel_rfl)
theorem FpIB_ev (h : Hp) (root : Int) (p : List Int) (h1 : h.objects.length ≤ 1048576) (h2 : ∀ x ∈ h.objects, x.links.length ≤ 1048576) (h3 : h.roots.length ≤ 1048576) (hp : p.length ≤ 1048576) (hg : goodHeap h = true) (hr : ¬ (0 ≤ root ∧ root < h.roots.length)) :
    Ev pr (.call 33 [vs h.ce, i64 root, isq p] []) (.val (.tup [i64 0, bl false]) []) := by
  have e := GoodHeapI_ev h h1 h2 h3
  rw [hg] at e
  have w := within_ev root 0 (h.roots.length - 1)
  rw [show (decide (root ≥ 0) && decide (root ≤ (h.roots.length : Int) - 1)) = false by
    rw [Bool.and_eq_false_iff]; by_cases h0 : 0 ≤ root
    · right; simp; omega
    · left; simpa using h0] at w
  let t2 : Tp pr := .i (show ((↑(List.map intt h.roots).length : Int) : Int) = (↑h.roots.length : Int) by simp)
  let t3 : Tp pr := .i (wrap_i64 (a := (↑h.roots.length : Int) - (1 : Int)) (by omega) (by omega))
  exact .tp [.a (e), .b (rfl : false = false), t2, t3, .a (w), .b (rfl : true = true), .b (rfl : true = true)] (by kernel_rfl)
theorem FpIC_ev (h : Hp) (root : Int) (p : List Int) (h1 : h.objects.length ≤ 1048576) (h2 : ∀ x ∈ h.objects, x.links.length ≤ 1048576) (h3 : h.roots.length ≤ 1048576) (hp : p.length ≤ 1048576) (hg : goodHeap h = true) (hr : 0 ≤ root ∧ root < h.roots.length) (hp2 : ¬ p.length ≤ 40) :
    Ev pr (.call 33 [vs h.ce, i64 root, isq p] []) (.val (.tup [i64 0, bl false]) []) := by
  have e := GoodHeapI_ev h h1 h2 h3
  rw [hg] at e
  have w := within_ev root 0 (h.roots.length - 1)
  rw [show (decide (root ≥ 0) && decide (root ≤ (h.roots.length : Int) - 1)) = true by
    rw [Bool.and_eq_true]; exact ⟨by simpa using hr.1, by simp; omega⟩] at w
  let t2 : Tp pr := .i (show ((↑(List.map intt h.roots).length : Int) : Int) = (↑h.roots.length : Int) by simp)
  let t3 : Tp pr := .i (wrap_i64 (a := (↑h.roots.length : Int) - (1 : Int)) (by omega) (by omega))
  let t6 : Tp pr := .i (show ((↑(List.map intt p).length : Int) : Int) = (↑p.length : Int) by simp)
  let t7 : Tp pr := .b (show (decide ((↑p.length : Int) > (40 : Int))) = true by (simp; omega))
  exact .tp [.a (e), .b (rfl : false = false), t2, t3, .a (w), .b (rfl : false = false), t6, t7] (by kernel_rfl)
theorem FpIT_ev (h : Hp) (root a : Int) (p : List Int) (h1 : h.objects.length ≤ 1048576) (h2 : ∀ x ∈ h.objects, x.links.length ≤ 1048576) (h3 : h.roots.length ≤ 1048576) (hp : p.length ≤ 1048576) (hg : goodHeap h = true) (hr : 0 ≤ root ∧ root < h.roots.length) (hp2 : p.length ≤ 40)
    (ha : lkp (h.roots.map intt) root = some [T.int .i64 a]) (ham : a < h.objects.length) :
    Ev pr (.call 33 [vs h.ce, i64 root, isq p] []) (.val (.tup [i64 ((follow h a p).getD 0), bl (follow h a p).isSome]) []) := by
  have e := GoodHeapI_ev h h1 h2 h3
  rw [hg] at e
  have gd := goodHeap_ok hg
  have w := within_ev root 0 (h.roots.length - 1)
  rw [show (decide (root ≥ 0) && decide (root ≤ (h.roots.length : Int) - 1)) = true by
    rw [Bool.and_eq_true]; exact ⟨by simpa using hr.1, by simp; omega⟩] at w
  have l := walkI_ev h gd p hp2 p [] a rfl ham
  rw [follow_walk]
  unfold fpX at l
  cases hw : walkP h a p with
  | none =>
    rw [hw] at l
    rw [show ((none : Option Int).bind fun b => if b < 0 then none else some (objAt h b).mark) = none from rfl]
    let t2 : Tp pr := .i (show ((↑(List.map intt h.roots).length : Int) : Int) = (↑h.roots.length : Int) by simp)
    let t3 : Tp pr := .i (wrap_i64 (a := (↑h.roots.length : Int) - (1 : Int)) (by omega) (by omega))
    let t6 : Tp pr := .i (show ((↑(List.map intt p).length : Int) : Int) = (↑p.length : Int) by simp)
    let t7 : Tp pr := .b (show (decide ((↑p.length : Int) > (40 : Int))) = false by (simp; omega))
    let t8 : Tp pr := .g .row (show (lkp (List.map intt h.roots) root) = some ([T.int IntKind.i64 a]) from ha)
    let t9 : Tp pr := .i (show ((↑(List.map intt p).length : Int) : Int) = (↑p.length : Int) by simp)
    exact .tp [.a (e), .b (rfl : false = false), t2, t3, .a (w), .b (rfl : false = false), t6, t7, t8, t9, .a (l)] (by kernel_rfl)
  | some b =>
    rw [hw] at l
    rw [show ((some b).bind fun b => if b < 0 then none else some (objAt h b).mark) = if b < 0 then none else some (objAt h b).mark from rfl]
    by_cases h0 : b < 0
    · rw [if_pos h0]
      let t2 : Tp pr := .i (show ((↑(List.map intt h.roots).length : Int) : Int) = (↑h.roots.length : Int) by simp)
      let t3 : Tp pr := .i (wrap_i64 (a := (↑h.roots.length : Int) - (1 : Int)) (by omega) (by omega))
      let t6 : Tp pr := .i (show ((↑(List.map intt p).length : Int) : Int) = (↑p.length : Int) by simp)
      let t7 : Tp pr := .b (show (decide ((↑p.length : Int) > (40 : Int))) = false by (simp; omega))
      let t8 : Tp pr := .g .row (show (lkp (List.map intt h.roots) root) = some ([T.int IntKind.i64 a]) from ha)
      let t9 : Tp pr := .i (show ((↑(List.map intt p).length : Int) : Int) = (↑p.length : Int) by simp)
      let t11 : Tp pr := .b (show (decide (b < (0 : Int))) = true by (simp; omega))
      exact .tp [.a (e), .b (rfl : false = false), t2, t3, .a (w), .b (rfl : false = false), t6, t7, t8, t9, .a (l), t11] (by kernel_rfl)
    · rw [if_neg h0]
      have hb := walkP_bd gd p a b ham hw
      have hlk := objAt_lkp (h := h) (k := b) (by omega) hb
      let t2 : Tp pr := .i (show ((↑(List.map intt h.roots).length : Int) : Int) = (↑h.roots.length : Int) by simp)
      let t3 : Tp pr := .i (wrap_i64 (a := (↑h.roots.length : Int) - (1 : Int)) (by omega) (by omega))
      let t6 : Tp pr := .i (show ((↑(List.map intt p).length : Int) : Int) = (↑p.length : Int) by simp)
      let t7 : Tp pr := .b (show (decide ((↑p.length : Int) > (40 : Int))) = false by (simp; omega))
      let t8 : Tp pr := .g .row (show (lkp (List.map intt h.roots) root) = some ([T.int IntKind.i64 a]) from ha)
      let t9 : Tp pr := .i (show ((↑(List.map intt p).length : Int) : Int) = (↑p.length : Int) by simp)
      let t11 : Tp pr := .b (show (decide (b < (0 : Int))) = false by (simp; omega))
      let t12 : Tp pr := .g .row (show (lkp (List.map Obj.ce h.objects) b) = some ((objAt h b).ce) from hlk)
      exact .tp [.a (e), .b (rfl : false = false), t2, t3, .a (w), .b (rfl : false = false), t6, t7, t8, t9, .a (l), t11, t12] (by kernel_rfl)
theorem FpSA_ev (h : Hp) (root : Int) (p : List Int) (h1 : h.objects.length ≤ 1048576) (h2 : ∀ x ∈ h.objects, x.links.length ≤ 1048576) (h3 : h.roots.length ≤ 1048576) (hp : p.length ≤ 1048576) (hg : goodHeap h = false) :
    Ev pr (.call 34 [vs h.ce, i64 root, isq p] []) (.val (.tup [i64 0, bl false]) []) := by
  have e := GoodHeapS_ev h h1 h2 h3
  rw [hg] at e
  exact .tp [.a (e), .b (rfl : true = true), .b (rfl : true = true), .b (rfl : true = true), .b (rfl : true = true)] (by kernel_rfl)
theorem FpSB_ev (h : Hp) (root : Int) (p : List Int) (h1 : h.objects.length ≤ 1048576) (h2 : ∀ x ∈ h.objects, x.links.length ≤ 1048576) (h3 : h.roots.length ≤ 1048576) (hp : p.length ≤ 1048576) (hg : goodHeap h = true) (hr : ¬ (0 ≤ root ∧ root < h.roots.length)) :
    Ev pr (.call 34 [vs h.ce, i64 root, isq p] []) (.val (.tup [i64 0, bl false]) []) := by
  have e := GoodHeapS_ev h h1 h2 h3
  rw [hg] at e
  by_cases h0 : 0 ≤ root
  · have h4 : ¬ root < h.roots.length := fun hh => hr ⟨h0, hh⟩
    let t2 : Tp pr := .b (show (decide (root < (0 : Int))) = false by (simp; omega))
    let t3 : Tp pr := .i (show ((↑(List.map intt h.roots).length : Int) : Int) = (↑h.roots.length : Int) by simp)
    let t4 : Tp pr := .b (show (decide (root ≥ (↑h.roots.length : Int))) = true by (simp; omega))
    exact .tp [.a (e), .b (rfl : false = false), t2, t3, t4, .b (rfl : true = true)] (by kernel_rfl)
  · let t2 : Tp pr := .b (show (decide (root < (0 : Int))) = true by (simp; omega))
    exact .tp [.a (e), .b (rfl : false = false), t2, .b (rfl : true = true), .b (rfl : true = true)] (by kernel_rfl)
theorem FpSC_ev (h : Hp) (root : Int) (p : List Int) (h1 : h.objects.length ≤ 1048576) (h2 : ∀ x ∈ h.objects, x.links.length ≤ 1048576) (h3 : h.roots.length ≤ 1048576) (hp : p.length ≤ 1048576) (hg : goodHeap h = true) (hr : 0 ≤ root ∧ root < h.roots.length) (hp2 : ¬ p.length ≤ 40) :
    Ev pr (.call 34 [vs h.ce, i64 root, isq p] []) (.val (.tup [i64 0, bl false]) []) := by
  have e := GoodHeapS_ev h h1 h2 h3
  rw [hg] at e
  let t2 : Tp pr := .b (show (decide (root < (0 : Int))) = false by (simp; omega))
  let t3 : Tp pr := .i (show ((↑(List.map intt h.roots).length : Int) : Int) = (↑h.roots.length : Int) by simp)
  let t4 : Tp pr := .b (show (decide (root ≥ (↑h.roots.length : Int))) = false by (simp; omega))
  let t5 : Tp pr := .i (show ((↑(List.map intt p).length : Int) : Int) = (↑p.length : Int) by simp)
  let t6 : Tp pr := .b (show (decide ((↑p.length : Int) > (40 : Int))) = true by (simp; omega))
  exact .tp [.a (e), .b (rfl : false = false), t2, t3, t4, t5, t6] (by kernel_rfl)
theorem FpST_ev (h : Hp) (root a : Int) (p : List Int) (h1 : h.objects.length ≤ 1048576) (h2 : ∀ x ∈ h.objects, x.links.length ≤ 1048576) (h3 : h.roots.length ≤ 1048576) (hp : p.length ≤ 1048576) (hg : goodHeap h = true) (hr : 0 ≤ root ∧ root < h.roots.length) (hp2 : p.length ≤ 40)
    (ha : lkp (h.roots.map intt) root = some [T.int .i64 a]) (ham : a < h.objects.length) :
    Ev pr (.call 34 [vs h.ce, i64 root, isq p] []) (.val (.tup [i64 ((follow h a p).getD 0), bl (follow h a p).isSome]) []) := by
  have e := GoodHeapS_ev h h1 h2 h3
  rw [hg] at e
  have gd := goodHeap_ok hg
  have l := walkS_ev h gd p hp2 p [] a rfl ham
  rw [follow_walk]
  unfold fpX at l
  cases hw : walkP h a p with
  | none =>
    rw [hw] at l
    rw [show ((none : Option Int).bind fun b => if b < 0 then none else some (objAt h b).mark) = none from rfl]
    let t2 : Tp pr := .b (show (decide (root < (0 : Int))) = false by (simp; omega))
    let t3 : Tp pr := .i (show ((↑(List.map intt h.roots).length : Int) : Int) = (↑h.roots.length : Int) by simp)
    let t4 : Tp pr := .b (show (decide (root ≥ (↑h.roots.length : Int))) = false by (simp; omega))
    let t5 : Tp pr := .i (show ((↑(List.map intt p).length : Int) : Int) = (↑p.length : Int) by simp)
    let t6 : Tp pr := .b (show (decide ((↑p.length : Int) > (40 : Int))) = false by (simp; omega))
    let t7 : Tp pr := .g .row (show (lkp (List.map intt h.roots) root) = some ([T.int IntKind.i64 a]) from ha)
    let t8 : Tp pr := .i (show ((↑(List.map intt p).length : Int) : Int) = (↑p.length : Int) by simp)
    exact .tp [.a (e), .b (rfl : false = false), t2, t3, t4, t5, t6, t7, t8, .a (l)] (by kernel_rfl)
  | some b =>
    rw [hw] at l
    rw [show ((some b).bind fun b => if b < 0 then none else some (objAt h b).mark) = if b < 0 then none else some (objAt h b).mark from rfl]
    by_cases h0 : b < 0
    · rw [if_pos h0]
      let t2 : Tp pr := .b (show (decide (root < (0 : Int))) = false by (simp; omega))
      let t3 : Tp pr := .i (show ((↑(List.map intt h.roots).length : Int) : Int) = (↑h.roots.length : Int) by simp)
      let t4 : Tp pr := .b (show (decide (root ≥ (↑h.roots.length : Int))) = false by (simp; omega))
      let t5 : Tp pr := .i (show ((↑(List.map intt p).length : Int) : Int) = (↑p.length : Int) by simp)
      let t6 : Tp pr := .b (show (decide ((↑p.length : Int) > (40 : Int))) = false by (simp; omega))
      let t7 : Tp pr := .g .row (show (lkp (List.map intt h.roots) root) = some ([T.int IntKind.i64 a]) from ha)
      let t8 : Tp pr := .i (show ((↑(List.map intt p).length : Int) : Int) = (↑p.length : Int) by simp)
      let t10 : Tp pr := .b (show (decide (b < (0 : Int))) = true by (simp; omega))
      exact .tp [.a (e), .b (rfl : false = false), t2, t3, t4, t5, t6, t7, t8, .a (l), t10] (by kernel_rfl)
    · rw [if_neg h0]
      have hb := walkP_bd gd p a b ham hw
      have hlk := objAt_lkp (h := h) (k := b) (by omega) hb
      let t2 : Tp pr := .b (show (decide (root < (0 : Int))) = false by (simp; omega))
      let t3 : Tp pr := .i (show ((↑(List.map intt h.roots).length : Int) : Int) = (↑h.roots.length : Int) by simp)
      let t4 : Tp pr := .b (show (decide (root ≥ (↑h.roots.length : Int))) = false by (simp; omega))
      let t5 : Tp pr := .i (show ((↑(List.map intt p).length : Int) : Int) = (↑p.length : Int) by simp)
      let t6 : Tp pr := .b (show (decide ((↑p.length : Int) > (40 : Int))) = false by (simp; omega))
      let t7 : Tp pr := .g .row (show (lkp (List.map intt h.roots) root) = some ([T.int IntKind.i64 a]) from ha)
      let t8 : Tp pr := .i (show ((↑(List.map intt p).length : Int) : Int) = (↑p.length : Int) by simp)
      let t10 : Tp pr := .b (show (decide (b < (0 : Int))) = false by (simp; omega))
      let t11 : Tp pr := .g .row (show (lkp (List.map Obj.ce h.objects) b) = some ((objAt h b).ce) from hlk)
      exact .tp [.a (e), .b (rfl : false = false), t2, t3, t4, t5, t6, t7, t8, .a (l), t10, t11] (by kernel_rfl)
theorem root_lkp {h : Hp} {root : Int} (hg : GoodH h) (hr : 0 ≤ root ∧ root < h.roots.length) : ∃ a, a ∈ h.roots ∧ a < h.objects.length ∧ lkp (h.roots.map intt) root = some [T.int .i64 a] := by
  have hlt : root.toNat < h.roots.length := by omega
  refine ⟨h.roots[root.toNat], List.getElem_mem hlt, (hg.roots _ (List.getElem_mem hlt)).2, ?_⟩
  simp [lkp, intt, hr.1, hlt]
theorem fp_cases (h : Hp) (root : Int) (p : List Int) (h1 : h.objects.length ≤ 1048576) (h2 : ∀ x ∈ h.objects, x.links.length ≤ 1048576) (h3 : h.roots.length ≤ 1048576) (hp : p.length ≤ 1048576) :
    ∃ (v : Int) (b : Bool), Ev pr (.call 33 [vs h.ce, i64 root, isq p] []) (.val (.tup [i64 v, bl b]) []) ∧ Ev pr (.call 34 [vs h.ce, i64 root, isq p] []) (.val (.tup [i64 v, bl b]) []) := by
  by_cases hg : goodHeap h = true
  · by_cases hr : 0 ≤ root ∧ root < h.roots.length
    · by_cases hp2 : p.length ≤ 40
      · obtain ⟨a, _, ham, ha⟩ := root_lkp (goodHeap_ok hg) hr
        exact ⟨_, _, FpIT_ev h root a p h1 h2 h3 hp hg hr hp2 ha ham, FpST_ev h root a p h1 h2 h3 hp hg hr hp2 ha ham⟩
      · exact ⟨_, _, FpIC_ev h root p h1 h2 h3 hp hg hr hp2, FpSC_ev h root p h1 h2 h3 hp hg hr hp2⟩
    · exact ⟨_, _, FpIB_ev h root p h1 h2 h3 hp hg hr, FpSB_ev h root p h1 h2 h3 hp hg hr⟩
  · have hg : goodHeap h = false := by simpa using hg
    exact ⟨_, _, FpIA_ev h root p h1 h2 h3 hp hg, FpSA_ev h root p h1 h2 h3 hp hg⟩
end Go.Ev

/- What the law of copies draws. -/
namespace Go.Ev
set_option linter.unusedVariables false
set_option linter.unusedSimpArgs false
open Go.Proofs
set_option maxRecDepth 100000
set_option linter.unusedVariables false
set_option maxHeartbeats 4000000
attribute [local simp] ints_takeD rowO_len rowO_fz ints_takeV take_mapV
@[local simp] theorem rowO_takeW5 (l : List Obj) : List.take l.length (rowO l) = rowO l := List.take_of_length_le (by simp)
abbrev bsq (bs : List Int) : V := .t (.seq 1 (bs.map u8t))
def smallH (h : Hp) : Prop := h.objects.length ≤ 41 ∧ (∀ x ∈ h.objects, x.links.length ≤ 5) ∧ h.roots.length ≤ 10
theorem split_at {α : Type} (l : List α) (o : Int) (h0 : 0 ≤ o) (h1 : o < l.length) : ∃ P x Q, l = P ++ x :: Q ∧ o = P.length := by
  have hn : o.toNat < l.length := by omega
  refine ⟨l.take o.toNat, l[o.toNat], l.drop (o.toNat + 1), ?_, by simp; omega⟩
  rw [← List.drop_eq_getElem_cons hn, List.take_append_drop]
theorem drawGood_ex (bs : List Int) (hb : okB bs) : ∃ (h : Hp), smallH h ∧ Ev pr (.call 78 [bsq bs] []) (.val (vs h.ce) []) := by
  obtain ⟨h, a1, s1, b1, b2, b3, ha1, e1⟩ := heap_ex bs hb 0 0 (by omega) (by omega)
  refine ⟨h, ⟨b1, b2, by omega⟩, ?_⟩
  unfold cuB at *
  exact .tp [.a (e1)] (by kernel_rfl)
theorem drawCopy_ex (bs : List Int) (hb : okB bs) : ∃ (h : Hp), smallH h ∧ Ev pr (.call 35 [bsq bs] []) (.val (vs h.ce) []) := by
  obtain ⟨h, hs, e⟩ := drawGood_ex bs hb
  refine ⟨h, hs, ?_⟩
  exact .tp [.a (e)] (by kernel_rfl)
@[local simp] theorem take_midW {α β : Type} (f : α → β) (P Q : List α) (e : β) : List.take (P.length + (Q.length + 1)) (P.map f ++ e :: Q.map f) = P.map f ++ e :: Q.map f := List.take_of_length_le (by simp)
@[local simp] theorem take_midWb {α β : Type} (f : α → β) (P Q : List α) (e : β) : List.take (P.length + (Q.length + 1)) ((P.map f).append (e :: Q.map f)) = (P.map f).append (e :: Q.map f) := List.take_of_length_le (by simp)
@[local simp] theorem rowO_split (P Q : List Obj) (x : Obj) : rowO (P ++ x :: Q) = rowO P ++ [C.t (.int .i64 x.mark), C.t (.seq 1 (x.links.map intt))] :: rowO Q := by simp [rowO, Obj.ce]
theorem drawSame_ex (bs : List Int) (hb : okB bs) : ∃ (a b : Hp), smallH a ∧ smallH b ∧ Ev pr (.call 40 [bsq bs] []) (.val (.tup [vs a.ce, vs b.ce]) []) := by
  obtain ⟨h, a1, s1, b1, b2, b3, ha1, e1⟩ := heap_ex bs hb 0 0 (by omega) (by omega)
  by_cases hg : goodHeap h = true
  · have gd := goodHeap_ok hg
    have cs := CopyST_ev h (by omega) (fun x hx => by have := b2 x hx; omega) (by omega) hg
    obtain ⟨n1, n2, n3⟩ := copyH_bds gd
    have hN := gd.objs
    generalize copyH h = c at *
    obtain ⟨os, rs⟩ := c
    dsimp only at n1 n2 n3 cs
    obtain ⟨v, a2, s2, ha2, e2⟩ := one_ex bs hb a1 s1 (by omega) (by omega) 3 (by omega)
    cases v with
    | true =>
      obtain ⟨g, a3, s3, d1, d2, d3, ha3, e3⟩ := heap_ex bs hb a2 s2 (by omega) (by omega)
      refine ⟨h, g, ⟨b1, b2, by omega⟩, ⟨d1, d2, by omega⟩, ?_⟩
      unfold cuB at *
      exact .tp [.a (e1), .a (cs), .b (rfl : true = true), .a (e2), .b (rfl : false = false), .m (rfl : true = true), .m (rfl : true = true), .a (e3), .m (rfl : true = true), .m (rfl : true = true), .m (rfl : true = true)] (by kernel_rfl)
    | false =>
      by_cases h0 : 0 < os.length
      · obtain ⟨v2, a3, s3, ha3, e3⟩ := one_ex bs hb a2 s2 (by omega) (by omega) 4 (by omega)
        cases v2 with
        | true =>
          obtain ⟨i, a4, s4, hi, ha4, e4⟩ := pick_ex bs hb a3 s3 (by omega) (by omega) os.length (by omega)
          obtain ⟨mk, a5, s5, hmk, ha5, e5⟩ := pick_ex bs hb a4 s4 (by omega) (by omega) 6 (by omega)
          obtain ⟨P, x, Q, rfl, rfl⟩ := split_at os i hi.1 (by omega)
          refine ⟨h, ⟨P ++ ⟨mk, x.links⟩ :: Q, rs⟩, ⟨b1, b2, by omega⟩, ⟨by simp at n1 ⊢; omega, fun y hy => ?_, by dsimp only; omega⟩, ?_⟩
          · rcases List.mem_append.1 hy with hy | hy
            · have := n2 y (by simp [hy]); omega
            · rcases List.mem_cons.1 hy with rfl | hy
              · have := n2 x (by simp); show x.links.length ≤ 5; omega
              · have := n2 y (by simp [hy]); omega
          · unfold cuB at *
            have hg5 : (rowO P ++ [C.t (.int .i64 x.mark), C.t (.seq 1 (x.links.map intt))] :: rowO Q)[P.length]? = some [C.t (.int .i64 x.mark), C.t (.seq 1 (x.links.map intt))] := by
              have := get_mid (rowO P) [C.t (.int .i64 x.mark), C.t (.seq 1 (x.links.map intt))] (rowO Q)
              rwa [rowO_len] at this
            rw [rowO_split] at cs
            let t5 : Tp pr := .i (show ((↑(P ++ x :: Q).length : Int) : Int) = (↑P.length : Int) + ((↑Q.length : Int) + (1 : Int)) by simp)
            let t6 : Tp pr := .b (show (decide ((↑P.length : Int) + ((↑Q.length : Int) + (1 : Int)) > (0 : Int))) = true by (simp; omega))
            let t14 : Tp pr := .i (show ((↑(P ++ x :: Q).length : Int) : Int) = (↑P.length : Int) + ((↑Q.length : Int) + (1 : Int)) by simp)
            let t16 : Tp pr := .a (Ev.castq (congrArg (fun x => Ev.Q.call (66 : FuncId) [V.ptr (0 : Nat) (1 : Nat) (0 : Nat) (0 : Nat), i64 x] [Ob.box [V.t (T.seq (1 : Nat) (List.map u8t bs)), V.t (T.int IntKind.i64 a3), V.t (T.int IntKind.u64 s3)]]) (show ((↑(P ++ x :: Q).length : Int)) = ((↑P.length : Int) + ((↑Q.length : Int) + (1 : Int))) by simp [Obj.ce])) (e4))
            let t21 : Tp pr := .m (show (decide ((0 : Int) ≤ (↑P.length : Int) ∧ (↑P.length : Int).toNat < (P ++ x :: Q).length)) = true by simp)
            let t22 : Tp pr := .c (show ((0 : Nat) + (↑P.length : Int).toNat : Nat) = P.length by omega)
            let t25 : Tp pr := .m (show (decide (((rowO P).append ([C.t (T.int IntKind.i64 x.mark), C.t (T.seq (1 : Nat) (List.map intt x.links))] :: rowO Q)).length = (P ++ x :: Q).length)) = true by simp)
            let t26 : Tp pr := .g .crow (show (((rowO P).append ([C.t (T.int IntKind.i64 x.mark), C.t (T.seq (1 : Nat) (List.map intt x.links))] :: rowO Q))[P.length]?) = some ([C.t (T.int IntKind.i64 x.mark), C.t (T.seq (1 : Nat) (List.map intt x.links))]) from hg5)
            let t27 : Tp pr := .m (show (decide (((rowO P).append ([C.t (T.int IntKind.i64 x.mark), C.t (T.seq (1 : Nat) (List.map intt x.links))] :: rowO Q)).length = (P ++ x :: Q).length)) = true by simp)
            let t28 : Tp pr := .g .crow (show (((rowO P).append ([C.t (T.int IntKind.i64 x.mark), C.t (T.seq (1 : Nat) (List.map intt x.links))] :: rowO Q))[P.length]?) = some ([C.t (T.int IntKind.i64 x.mark), C.t (T.seq (1 : Nat) (List.map intt x.links))]) from hg5)
            let t29 : Tp pr := .n .crows (show (((rowO P).append ([C.t (T.int IntKind.i64 x.mark), C.t (T.seq (1 : Nat) (List.map intt x.links))] :: rowO Q)).set P.length [C.t (T.int IntKind.i64 mk), C.t (T.seq (1 : Nat) (List.map intt x.links))]) = rowO P ++ [C.t (T.int IntKind.i64 mk), C.t (T.seq (1 : Nat) (List.map intt x.links))] :: rowO Q by simp)
            let t35 : Tp pr := .m (show (decide (((rowO P).append ([C.t (T.int IntKind.i64 mk), C.t (T.seq (1 : Nat) (List.map intt x.links))] :: rowO Q)).length = (P ++ x :: Q).length ∧ (0 : Nat) + (P ++ x :: Q).length ≤ (P ++ x :: Q).length)) = true by simp)
            let t36 : Tp pr := .n .rows (show (List.map (fun x => List.map C.fz x) (List.take (P ++ x :: Q).length (List.drop (0 : Nat) ((rowO P).append ([C.t (T.int IntKind.i64 mk), C.t (T.seq (1 : Nat) (List.map intt x.links))] :: rowO Q))))) = List.map Obj.ce P ++ [(C.t (T.int IntKind.i64 mk)).fz, (C.t (T.seq (1 : Nat) (List.map intt x.links))).fz] :: List.map Obj.ce Q by simp)
            let t37 : Tp pr := .m (show (decide ((ints rs).length = rs.length ∧ (0 : Nat) + rs.length ≤ rs.length)) = true by simp)
            let t38 : Tp pr := .n .rows (show (List.map (fun x => List.map C.fz x) (List.take rs.length (List.drop (0 : Nat) (ints rs)))) = List.map intt rs by simp)
            exact .tpe [.a (e1), .a (cs), .b (rfl : true = true), .a (e2), .b (rfl : true = true), t5, t6, .a (e3), .b (rfl : true = true), .m (rfl : true = true), .m (rfl : true = true), .m (rfl : true = true), .m (rfl : true = true), .m (rfl : true = true), t14, .m (rfl : true = true), t16, .m (rfl : true = true), .m (rfl : true = true), .a (e5), .m (rfl : true = true), t21, t22, .m (rfl : true = true), .m (rfl : true = true), t25, t26, t27, t28, t29, .m (rfl : true = true), .m (rfl : true = true), .m (rfl : true = true), .m (rfl : true = true), .m (rfl : true = true), t35, t36, t37, t38] (Out.val (V.tup [V.agg [V.t (T.seq (2 : Nat) (List.map Obj.ce h.objects)), V.t (T.seq (1 : Nat) (List.map intt h.roots))], V.agg [V.t (T.seq (2 : Nat) ((List.map Obj.ce P).append ([T.int IntKind.i64 mk, T.seq (1 : Nat) (List.map intt x.links)] :: List.map Obj.ce Q))), V.t (T.seq (1 : Nat) (List.map intt rs))]]) []) (by kernel_rfl) ((congrArg (fun x => Out.val (V.tup [V.agg [V.t (T.seq (2 : Nat) (List.map Obj.ce h.objects)), V.t (T.seq (1 : Nat) (List.map intt h.roots))], V.agg [V.t (T.seq (2 : Nat) x), V.t (T.seq (1 : Nat) (List.map intt rs))]]) []) (show ((List.map Obj.ce P).append ([T.int IntKind.i64 mk, T.seq (1 : Nat) (List.map intt x.links)] :: List.map Obj.ce Q)) = (List.map Obj.ce (Hp.mk (P ++ Obj.mk mk x.links :: Q) rs).objects) by simp [Obj.ce])).trans (congrArg (fun x_1 => Out.val (V.tup [V.agg [V.t (T.seq (2 : Nat) (List.map Obj.ce h.objects)), V.t (T.seq (1 : Nat) (List.map intt h.roots))], V.agg [V.t (T.seq (2 : Nat) (List.map Obj.ce (Hp.mk (P ++ Obj.mk mk x.links :: Q) rs).objects)), V.t (T.seq (1 : Nat) x_1)]]) []) (show (List.map intt rs) = (List.map intt (Hp.mk (P ++ Obj.mk mk x.links :: Q) rs).roots) by simp [Obj.ce])))
        | false =>
          refine ⟨h, ⟨os, rs⟩, ⟨b1, b2, by omega⟩, ⟨by dsimp only; omega, fun y hy => by have := n2 y hy; omega, by dsimp only; omega⟩, ?_⟩
          unfold cuB at *
          let t6 : Tp pr := .b (show (decide ((↑os.length : Int) > (0 : Int))) = true by (simp; omega))
          let t13 : Tp pr := .m (show (decide ((rowO os).length = os.length ∧ (0 : Nat) + os.length ≤ os.length)) = true by simp)
          let t14 : Tp pr := .n .rows (show (List.map (fun x => List.map C.fz x) (List.take os.length (List.drop (0 : Nat) (rowO os)))) = List.map Obj.ce os by simp)
          let t15 : Tp pr := .m (show (decide ((ints rs).length = rs.length ∧ (0 : Nat) + rs.length ≤ rs.length)) = true by simp)
          let t16 : Tp pr := .n .rows (show (List.map (fun x => List.map C.fz x) (List.take rs.length (List.drop (0 : Nat) (ints rs)))) = List.map intt rs by simp)
          exact .tp [.a (e1), .a (cs), .b (rfl : true = true), .a (e2), .b (rfl : true = true), .i (rfl : ((↑os.length : Int)) = _), t6, .a (e3), .b (rfl : false = false), .m (rfl : true = true), .m (rfl : true = true), .m (rfl : true = true), .m (rfl : true = true), t13, t14, t15, t16] (by kernel_rfl)
      · refine ⟨h, ⟨os, rs⟩, ⟨b1, b2, by omega⟩, ⟨by dsimp only; omega, fun y hy => by have := n2 y hy; omega, by dsimp only; omega⟩, ?_⟩
        unfold cuB at *
        let t6 : Tp pr := .b (show (decide ((↑os.length : Int) > (0 : Int))) = false by simp [*])
        let t12 : Tp pr := .m (show (decide ((rowO os).length = os.length ∧ (0 : Nat) + os.length ≤ os.length)) = true by simp)
        let t13 : Tp pr := .n .rows (show (List.map (fun x => List.map C.fz x) (List.take os.length (List.drop (0 : Nat) (rowO os)))) = List.map Obj.ce os by simp)
        let t14 : Tp pr := .m (show (decide ((ints rs).length = rs.length ∧ (0 : Nat) + rs.length ≤ rs.length)) = true by simp)
        let t15 : Tp pr := .n .rows (show (List.map (fun x => List.map C.fz x) (List.take rs.length (List.drop (0 : Nat) (ints rs)))) = List.map intt rs by simp)
        exact .tp [.a (e1), .a (cs), .b (rfl : true = true), .a (e2), .b (rfl : true = true), .i (rfl : ((↑os.length : Int)) = _), t6, .b (rfl : false = false), .m (rfl : true = true), .m (rfl : true = true), .m (rfl : true = true), .m (rfl : true = true), t12, t13, t14, t15] (by kernel_rfl)
  · have hg : goodHeap h = false := by simpa using hg
    have cs := CopySF_ev h (by omega) (fun x hx => by have := b2 x hx; omega) (by omega) hg
    obtain ⟨g, a3, s3, d1, d2, d3, ha3, e3⟩ := heap_ex bs hb a1 s1 (by omega) (by omega)
    refine ⟨h, g, ⟨b1, b2, by omega⟩, ⟨d1, d2, by omega⟩, ?_⟩
    unfold cuB at *
    exact .tp [.a (e1), .a (cs), .b (rfl : false = false), .b (rfl : false = false), .m (rfl : true = true), .m (rfl : true = true), .a (e3), .m (rfl : true = true), .m (rfl : true = true), .m (rfl : true = true)] (by kernel_rfl)
end Go.Ev

/- What is reached, by the reference. -/
namespace Go.Ev
set_option linter.unusedVariables false
set_option linter.unusedSimpArgs false
open Go.Proofs
set_option maxRecDepth 100000
set_option linter.unusedVariables false
set_option maxHeartbeats 2000000
def lowN (l : List Int) (n : Int) : List Int := l.takeWhile fun x => decide (x < n)
def hiN (l : List Int) (n : Int) : List Int := l.dropWhile fun x => decide (x < n)
theorem low_hi (l : List Int) (n : Int) : lowN l n ++ hiN l n = l := List.takeWhile_append_dropWhile
theorem insL_low : ∀ (l : List Int) (n : Int), insL l n = match hiN l n with
    | [] => lowN l n ++ [n]
    | x :: r => if x = n then l else lowN l n ++ n :: x :: r
  | [], n => rfl
  | y :: l, n => by
    by_cases h : y < n
    · have e1 : hiN (y :: l) n = hiN l n := by simp [hiN, List.dropWhile_cons, h]
      have e2 : lowN (y :: l) n = y :: lowN l n := by simp [lowN, List.takeWhile_cons, h]
      have ih := insL_low l n
      rw [e1, e2]
      simp only [insL]
      rw [if_pos h, ih]
      split
      · rfl
      · split <;> rfl
    · have e1 : hiN (y :: l) n = y :: l := by simp [hiN, List.dropWhile_cons, h]
      have e2 : lowN (y :: l) n = [] := by simp [lowN, List.takeWhile_cons, h]
      rw [e1, e2]
      simp only [insL]
      rw [if_neg h]
      rfl
theorem putL_ev (l : List Int) (n : Int) (hl : l.length ≤ 1000) : ∀ (rest dn : List Int), l = dn ++ rest →
    Ev pr (.loop (lq pr 79 0) (at_ [(0, isq l), (1, i64 n), (5, i64 dn.length)] [] 0)) (.exit 0 (at_ [(0, isq l), (1, i64 n), (5, i64 (dn.length + (lowN rest n).length))] [] 0))
  | [], dn, he => by
    have hll : (l.length : Int) = dn.length := by simp [he]
    rw [show lowN [] n = [] from rfl]
    let t0 : Tp pr := .i (show ((↑(List.map intt l).length : Int) : Int) = (↑l.length : Int) by simp)
    let t1 : Tp pr := .b (show (decide ((↑dn.length : Int) < (↑l.length : Int))) = false by (simp; omega))
    exact .tp [t0, t1, .b (rfl : false = false)] (by kernel_rfl)
  | x :: rest, dn, he => by
    have hll : (l.length : Int) = dn.length + 1 + rest.length := by simp [he]; omega
    have hg : lkp (l.map intt) (dn.length : Int) = some [T.int .i64 x] := by subst he; simp [intt]
    have ih := putL_ev l n hl rest (dn ++ [x]) (by simp [he])
    by_cases hx : x < n
    · rw [show lowN (x :: rest) n = x :: lowN rest n by simp [lowN, List.takeWhile_cons, hx]]
      let t0 : Tp pr := .i (show ((↑(List.map intt l).length : Int) : Int) = (↑l.length : Int) by simp)
      let t1 : Tp pr := .b (show (decide ((↑dn.length : Int) < (↑l.length : Int))) = true by (simp; omega))
      let t2 : Tp pr := .g .row (show (lkp (List.map intt l) (↑dn.length : Int)) = some ([T.int IntKind.i64 x]) from hg)
      let t3 : Tp pr := .b (show (decide (x < n)) = true by (simp; omega))
      let t4 : Tp pr := .i (wrap_i64 (a := (↑dn.length : Int) + (1 : Int)) (by omega) (by omega))
      let t5 : Tp pr := .a (Ev.castq (congrArg (fun x => Q.loop (lq pr (79 : FuncId) (0 : Nat)) (at_ [((0 : Nat), isq l), ((1 : Nat), i64 n), ((5 : Nat), i64 x)] [] (0 : Nat))) (show ((↑(dn ++ [x]).length : Int)) = ((↑dn.length : Int) + (1 : Int)) by (simp <;> omega))) (ih))
      exact .tpe [t0, t1, t2, t3, t4, t5] (Out.exit (0 : Nat) (at_ [((0 : Nat), V.t (T.seq (1 : Nat) (List.map intt l))), ((1 : Nat), V.t (T.int IntKind.i64 n)), ((5 : Nat), V.t (T.int IntKind.i64 ((↑(dn ++ [x]).length : Int) + (↑(lowN rest n).length : Int))))] [] (0 : Nat))) (by kernel_rfl) (congrArg (fun x => Out.exit (0 : Nat) (at_ [((0 : Nat), V.t (T.seq (1 : Nat) (List.map intt l))), ((1 : Nat), V.t (T.int IntKind.i64 n)), ((5 : Nat), V.t (T.int IntKind.i64 x))] [] (0 : Nat))) (show ((↑(dn ++ [x]).length : Int) + (↑(lowN rest n).length : Int)) = ((↑dn.length : Int) + (↑(x :: lowN rest n).length : Int)) by (simp <;> omega)))
    · rw [show lowN (x :: rest) n = [] by simp [lowN, List.takeWhile_cons, hx]]
      let t0 : Tp pr := .i (show ((↑(List.map intt l).length : Int) : Int) = (↑l.length : Int) by simp)
      let t1 : Tp pr := .b (show (decide ((↑dn.length : Int) < (↑l.length : Int))) = true by (simp; omega))
      let t2 : Tp pr := .g .row (show (lkp (List.map intt l) (↑dn.length : Int)) = some ([T.int IntKind.i64 x]) from hg)
      let t3 : Tp pr := .b (show (decide (x < n)) = false by (simp; omega))
      exact .tp [t0, t1, t2, t3] (by kernel_rfl)
@[local simp] theorem take_mapL {α β : Type} (f : α → β) (a : List α) (c : List β) : List.take a.length (a.map f ++ c) = a.map f := List.take_left' (by simp)
@[local simp] theorem drop_mapL {α β : Type} (f : α → β) (a : List α) (c : List β) : List.drop a.length (a.map f ++ c) = c := List.drop_left' (by simp)
@[local simp] theorem ints_of (l : List Int) : List.map ((fun x => List.map C.t x) ∘ intt) l = ints l := by simp [ints, Function.comp_def, intc, intt]
@[local simp] theorem ints_of2 (l : List Int) : List.map (fun x => List.map C.t x) (List.map intt l) = ints l := by simp
attribute [local simp] ints_takeL
@[local simp] theorem intt_take2 (a r : List Int) (y z : List T) : List.take (a.length + 1 + (r.length + 1)) (a.map intt ++ y :: z :: r.map intt) = a.map intt ++ y :: z :: r.map intt := List.take_of_length_le (by simp; omega)
@[local simp] theorem ints_takeA (l : List Int) (c : List (List C)) : List.take l.length (ints l ++ c) = ints l := List.take_left' (by simp)
@[local simp] theorem ints_take1 (l : List Int) (z : List C) : List.take (l.length + 1) (ints l ++ [z]) = ints l ++ [z] := List.take_of_length_le (by simp)
@[local simp] theorem ints_drop1 (l : List Int) (z : List C) : List.drop (l.length + 1) (ints l ++ [z]) = [] := List.drop_of_length_le (by simp)
@[local simp] theorem intt_drop1 (l : List Int) (z : List T) : List.drop (l.length + 1) (l.map intt ++ [z]) = [] := List.drop_of_length_le (by simp)
@[local simp] theorem intt_take1 (l : List Int) (z : List T) : List.take (l.length + 1) (l.map intt ++ [z]) = l.map intt ++ [z] := List.take_of_length_le (by simp)
@[local simp] theorem tn3 (a b : Nat) : ((a : Int) + ((b : Int) + 1)).toNat = a + (b + 1) := by omega
@[local simp] theorem tn4 (a b : Nat) : a + (b + 1) - a = b + 1 := by omega
@[local simp] theorem cons_take (b : List Int) (z : List C) : List.take (b.length + 1) (z :: ints b) = z :: ints b := List.take_of_length_le (by simp)
def insAB (a b : List Int) (n : Int) : List Int :=
  match b with
  | [] => a ++ [n]
  | x :: r => if x = n then a ++ b else a ++ n :: x :: r
theorem putAB_ev (a b : List Int) (n : Int) (hl : (a ++ b).length ≤ 1000) (h : Ev pr (.loop (lq pr 79 0) (at_ [(0, isq (a ++ b)), (1, i64 n), (5, i64 0)] [] 0)) (.exit 0 (at_ [(0, isq (a ++ b)), (1, i64 n), (5, i64 a.length)] [] 0))) :
    Ev pr (.call 79 [isq (a ++ b), i64 n] []) (.val (isq (insAB a b n)) []) := by
  cases b with
  | nil =>
    have hl2 : a.length ≤ 1000 := by simp at hl; exact hl
    have t1 : List.take (a.length + 1) (ints a ++ [[C.t (T.int .i64 n)]]) = ints a ++ [[C.t (T.int .i64 n)]] := List.take_of_length_le (by simp)
    rw [show insAB a [] n = a ++ [n] from rfl]
    let t1 : Tp pr := .i (show ((↑(List.map intt (a ++ [])).length : Int) : Int) = (↑a.length : Int) by simp)
    let t2 : Tp pr := .b (show (decide ((↑a.length : Int) < (↑a.length : Int))) = false by simp)
    let t4 : Tp pr := .m (show (decide ((0 : Int) ≤ (0 : Int) ∧ (0 : Int) ≤ (↑a.length : Int) ∧ (↑a.length : Int) ≤ (↑(List.map intt (a ++ [])).length : Int))) = true by simp)
    let t5 : Tp pr := .n .rows (show (List.take ((↑a.length : Int).toNat - (0 : Nat)) (List.drop (0 : Nat) (List.map intt (a ++ [])))) = List.map intt a by simp)
    let t6 : Tp pr := .m (show (decide ((List.map (fun x => List.map C.t x) (List.map intt a)).length ≤ (4294967296 : Nat))) = true by (simp; omega))
    let t7 : Tp pr := .c (show ((List.map (fun x => List.map C.t x) (List.map intt a)).length : Nat) = a.length by simp)
    let t8 : Tp pr := .n .crows (show (List.map (fun x => List.map C.t x) (List.map intt a)) = ints a by simp)
    let t10 : Tp pr := .m (show (decide ((ints a).length = a.length ∧ (0 : Nat) + a.length ≤ a.length ∧ a.length + (1 : Nat) ≤ (4294967296 : Nat))) = true by (simp; omega))
    let t11 : Tp pr := .b (show (decide (a.length + (1 : Nat) ≤ a.length)) = false by simp)
    let t13 : Tp pr := .n .crows (show ((List.take a.length (ints a)).append (List.take (1 : Nat) (List.drop (0 : Nat) [[C.t (T.int IntKind.i64 n)]]))) = ints a ++ [[C.t (T.int IntKind.i64 n)]] by simp)
    let t14 : Tp pr := .m (show (decide ((0 : Int) ≤ (↑a.length : Int) ∧ (↑a.length : Int) ≤ (↑(List.map intt (a ++ [])).length : Int) ∧ (↑(List.map intt (a ++ [])).length : Int) ≤ (↑(List.map intt (a ++ [])).length : Int))) = true by simp)
    let t15 : Tp pr := .n .rows (show (List.take ((↑(List.map intt (a ++ [])).length : Int).toNat - (↑a.length : Int).toNat) (List.drop (↑a.length : Int).toNat (List.map intt (a ++ [])))) = [] by simp)
    let t16 : Tp pr := .m (show (decide (((ints a).append [[C.t (T.int IntKind.i64 n)]]).length = a.length + (1 : Nat) ∧ (0 : Nat) + (a.length + (1 : Nat)) ≤ a.length + (1 : Nat) ∧ a.length + (1 : Nat) + (0 : Nat) ≤ (4294967296 : Nat))) = true by (simp; omega))
    let t17 : Tp pr := .b (show (decide (a.length + (1 : Nat) + (0 : Nat) ≤ a.length + (1 : Nat))) = true by simp)
    let t18 : Tp pr := .c (show (a.length + (1 : Nat) + (0 : Nat) : Nat) = a.length + (1 : Nat) by omega)
    let t19 : Tp pr := .n .crows (show (((List.take (a.length + (1 : Nat)) ((ints a).append [[C.t (T.int IntKind.i64 n)]])).append []).append (List.drop (a.length + (1 : Nat) + (0 : Nat)) ((ints a).append [[C.t (T.int IntKind.i64 n)]]))) = ints a ++ [[C.t (T.int IntKind.i64 n)]] by simp)
    let t20 : Tp pr := .m (show (decide (((ints a).append [[C.t (T.int IntKind.i64 n)]]).length = a.length + (1 : Nat) ∧ (0 : Nat) + (a.length + (1 : Nat)) ≤ a.length + (1 : Nat))) = true by simp)
    let t21 : Tp pr := .n .rows (show (List.map (fun x => List.map C.fz x) (List.take (a.length + (1 : Nat)) (List.drop (0 : Nat) ((ints a).append [[C.t (T.int IntKind.i64 n)]])))) = List.map intt a ++ [[(C.t (T.int IntKind.i64 n)).fz]] by simp)
    exact .tpe [.a (h), t1, t2, .b (rfl : false = false), t4, t5, t6, t7, t8, .m (rfl : true = true), t10, t11, .c (rfl : (a.length + (1 : Nat)) = _), t13, t14, t15, t16, t17, t18, t19, t20, t21] (Out.val (V.t (T.seq (1 : Nat) ((List.map intt a).append [[T.int IntKind.i64 n]]))) []) (by kernel_rfl) (congrArg (fun x => Out.val (V.t (T.seq (1 : Nat) x)) []) (show ((List.map intt a).append [[T.int IntKind.i64 n]]) = (List.map intt (a ++ [n])) by simp [ints, intc, intt, C.fz, Function.comp_def]))
  | cons x r =>
    have hl2 : a.length + r.length + 1 ≤ 1000 := by simp at hl; omega
    have hg : lkp ((a ++ x :: r).map intt) (a.length : Int) = some [T.int .i64 x] := by simp [intt]
    unfold insAB
    dsimp only
    by_cases hx : x = n
    · rw [if_pos hx]; (
      let t1 : Tp pr := .i (show ((↑(List.map intt (a ++ x :: r)).length : Int) : Int) = (↑a.length : Int) + ((↑r.length : Int) + (1 : Int)) by simp)
      let t2 : Tp pr := .b (show (decide ((↑a.length : Int) < (↑a.length : Int) + ((↑r.length : Int) + (1 : Int)))) = true by (simp; omega))
      let t3 : Tp pr := .g .row (show (lkp (List.map intt (a ++ x :: r)) (↑a.length : Int)) = some ([T.int IntKind.i64 x]) from hg)
      let t4 : Tp pr := .b (show (decide (x = n)) = true by (simp; omega))
      exact .tp [.a (h), t1, t2, t3, t4] (by kernel_rfl))
    · rw [if_neg hx]; (
      let t1 : Tp pr := .i (show ((↑(List.map intt (a ++ x :: r)).length : Int) : Int) = (↑a.length : Int) + ((↑r.length : Int) + (1 : Int)) by simp)
      let t2 : Tp pr := .b (show (decide ((↑a.length : Int) < (↑a.length : Int) + ((↑r.length : Int) + (1 : Int)))) = true by (simp; omega))
      let t3 : Tp pr := .g .row (show (lkp (List.map intt (a ++ x :: r)) (↑a.length : Int)) = some ([T.int IntKind.i64 x]) from hg)
      let t4 : Tp pr := .b (show (decide (x = n)) = false by (simp; omega))
      let t5 : Tp pr := .m (show (decide ((0 : Int) ≤ (0 : Int) ∧ (0 : Int) ≤ (↑a.length : Int) ∧ (↑a.length : Int) ≤ (↑(List.map intt (a ++ x :: r)).length : Int))) = true by (simp; omega))
      let t6 : Tp pr := .n .rows (show (List.take ((↑a.length : Int).toNat - (0 : Nat)) (List.drop (0 : Nat) (List.map intt (a ++ x :: r)))) = List.map intt a by simp)
      let t7 : Tp pr := .m (show (decide ((List.map (fun x => List.map C.t x) (List.map intt a)).length ≤ (4294967296 : Nat))) = true by (simp; omega))
      let t8 : Tp pr := .c (show ((List.map (fun x => List.map C.t x) (List.map intt a)).length : Nat) = a.length by simp)
      let t9 : Tp pr := .n .crows (show (List.map (fun x => List.map C.t x) (List.map intt a)) = ints a by simp)
      let t11 : Tp pr := .m (show (decide ((ints a).length = a.length ∧ (0 : Nat) + a.length ≤ a.length ∧ a.length + (1 : Nat) ≤ (4294967296 : Nat))) = true by (simp; omega))
      let t12 : Tp pr := .b (show (decide (a.length + (1 : Nat) ≤ a.length)) = false by simp)
      let t14 : Tp pr := .n .crows (show ((List.take a.length (ints a)).append (List.take (1 : Nat) (List.drop (0 : Nat) [[C.t (T.int IntKind.i64 n)]]))) = ints a ++ [[C.t (T.int IntKind.i64 n)]] by simp)
      let t15 : Tp pr := .m (show (decide ((0 : Int) ≤ (↑a.length : Int) ∧ (↑a.length : Int) ≤ (↑(List.map intt (a ++ x :: r)).length : Int) ∧ (↑(List.map intt (a ++ x :: r)).length : Int) ≤ (↑(List.map intt (a ++ x :: r)).length : Int))) = true by (simp; omega))
      let t16 : Tp pr := .n .rows (show (List.take ((↑(List.map intt (a ++ x :: r)).length : Int).toNat - (↑a.length : Int).toNat) (List.drop (↑a.length : Int).toNat (List.map intt (a ++ x :: r)))) = intt x :: List.map intt r by simp)
      let t17 : Tp pr := .m (show (decide (((ints a).append [[C.t (T.int IntKind.i64 n)]]).length = a.length + (1 : Nat) ∧ (0 : Nat) + (a.length + (1 : Nat)) ≤ a.length + (1 : Nat) ∧ a.length + (1 : Nat) + (List.map (fun x => List.map C.t x) ([T.int IntKind.i64 x] :: List.map intt r)).length ≤ (4294967296 : Nat))) = true by (simp; omega))
      let t18 : Tp pr := .b (show (decide (a.length + (1 : Nat) + (List.map (fun x => List.map C.t x) ([T.int IntKind.i64 x] :: List.map intt r)).length ≤ a.length + (1 : Nat))) = false by simp)
      let t19 : Tp pr := .c (show (a.length + (1 : Nat) + (List.map (fun x => List.map C.t x) ([T.int IntKind.i64 x] :: List.map intt r)).length : Nat) = a.length + (1 : Nat) + (r.length + (1 : Nat)) by simp)
      let t20 : Tp pr := .n .crows (show ((List.take (a.length + (1 : Nat)) ((ints a).append [[C.t (T.int IntKind.i64 n)]])).append (List.map (fun x => List.map C.t x) ([T.int IntKind.i64 x] :: List.map intt r))) = ints a ++ [C.t (T.int IntKind.i64 n)] :: [C.t (T.int IntKind.i64 x)] :: ints r by simp)
      let t21 : Tp pr := .m (show (decide (((ints a).append ([C.t (T.int IntKind.i64 n)] :: [C.t (T.int IntKind.i64 x)] :: ints r)).length = a.length + (1 : Nat) + (r.length + (1 : Nat)) ∧ (0 : Nat) + (a.length + (1 : Nat) + (r.length + (1 : Nat))) ≤ a.length + (1 : Nat) + (r.length + (1 : Nat)))) = true by (simp; omega))
      let t22 : Tp pr := .n .rows (show (List.map (fun x => List.map C.fz x) (List.take (a.length + (1 : Nat) + (r.length + (1 : Nat))) (List.drop (0 : Nat) ((ints a).append ([C.t (T.int IntKind.i64 n)] :: [C.t (T.int IntKind.i64 x)] :: ints r))))) = List.map intt a ++ [(C.t (T.int IntKind.i64 n)).fz] :: [(C.t (T.int IntKind.i64 x)).fz] :: List.map intt r by simp)
      exact .tpe [.a (h), t1, t2, t3, t4, t5, t6, t7, t8, t9, .m (rfl : true = true), t11, t12, .c (rfl : (a.length + (1 : Nat)) = _), t14, t15, t16, t17, t18, t19, t20, t21, t22] (Out.val (V.t (T.seq (1 : Nat) ((List.map intt a).append ([T.int IntKind.i64 n] :: [T.int IntKind.i64 x] :: List.map intt r)))) []) (by kernel_rfl) (congrArg (fun x => Out.val (V.t (T.seq (1 : Nat) x)) []) (show ((List.map intt a).append ([T.int IntKind.i64 n] :: [T.int IntKind.i64 x] :: List.map intt r)) = (List.map intt (a ++ n :: x :: r)) by simp [ints, intc, intt])))
theorem l1Put_ev (l : List Int) (n : Int) (hl : l.length ≤ 1000) : Ev pr (.call 79 [isq l, i64 n] []) (.val (isq (insL l n)) []) := by
  have h := putL_ev l n hl l [] rfl
  have e := low_hi l n
  have hk : ((([] : List Int).length : Int) + ((lowN l n).length : Int)) = (lowN l n).length := by simp
  rw [hk] at h
  have hp := putAB_ev (lowN l n) (hiN l n) n (by rw [e]; exact hl) (by rw [e]; exact h)
  rw [e] at hp
  have hi : insAB (lowN l n) (hiN l n) n = insL l n := by
    rw [insL_low]
    unfold insAB
    rw [e]
  rw [hi] at hp
  exact hp
theorem l1PutN_ev (n : Int) : Ev pr (.call 79 [.t .nils, i64 n] []) (.val (isq [n]) []) := by
  have h : Ev pr (.loop (lq pr 79 0) (at_ [(0, .t .nils), (1, i64 n), (5, i64 0)] [] 0)) (.exit 0 (at_ [(0, .t .nils), (1, i64 n), (5, i64 0)] [] 0)) := by
    let t0 : Tp pr := .i (rfl : ((0 : Int) : Int) = (0 : Int))
    exact .tp [t0, .b (rfl : false = false), .b (rfl : false = false)] (by kernel_rfl)
  let t1 : Tp pr := .i (rfl : ((0 : Int) : Int) = (0 : Int))
  let t12 : Tp pr := .n .crows (show ([].append (List.take (1 : Nat) (List.drop (0 : Nat) [[C.t (T.int IntKind.i64 n)]]))) = [[C.t (T.int IntKind.i64 n)]] by simp)
  let t17 : Tp pr := .n .crows (show (((List.take (1 : Nat) [[C.t (T.int IntKind.i64 n)]]).append []).append []) = [[C.t (T.int IntKind.i64 n)]] by simp)
  let t19 : Tp pr := .n .rows (show (List.map (fun x => List.map C.fz x) (List.take (1 : Nat) (List.drop (0 : Nat) [[C.t (T.int IntKind.i64 n)]]))) = [[(C.t (T.int IntKind.i64 n)).fz]] by simp)
  exact .tp [.a (h), t1, .b (rfl : false = false), .b (rfl : false = false), .m (rfl : true = true), .m (rfl : true = true), .c (rfl : ((0 : Nat)) = _), .n .crows (rfl : ([]) = _), .m (rfl : true = true), .m (rfl : true = true), .b (rfl : false = false), .c (rfl : ((1 : Nat)) = _), t12, .m (rfl : true = true), .m (rfl : true = true), .b (rfl : true = true), .c (rfl : ((1 : Nat)) = _), t17, .m (rfl : true = true), t19] (by kernel_rfl)
theorem reachL_ev (o : List Int) (ho : o.length ≤ 100) : ∀ (rest dn out : List Int), o = dn ++ rest → out.length ≤ dn.length →
    Ev pr (.loop (lq pr 37 0) (at_ [(4, isq out), (11, isq o), (12, i64 o.length), (13, i64 dn.length)] [] 0)) (.exit 0 (at_ [(4, isq (rest.foldl insL out))] [] 0))
  | [], dn, out, he, hd => by
    have hll : (o.length : Int) = dn.length := by simp [he]
    let t0 : Tp pr := .b (show (decide ((↑dn.length : Int) < (↑o.length : Int))) = false by (simp; omega))
    exact .tp [t0] (by kernel_rfl)
  | x :: rest, dn, out, he, hd => by
    have hll : (o.length : Int) = dn.length + 1 + rest.length := by simp [he]; omega
    have hg : lkp (o.map intt) (dn.length : Int) = some [T.int .i64 x] := by rw [he]; simp [intt]
    have hp := l1Put_ev out x (by omega)
    have hlen : (insL out x).length ≤ out.length + 1 := by
      rw [insL_low]
      have e := congrArg List.length (low_hi out x)
      split <;> rename_i hh <;> rw [hh] at e <;> simp at e
      · simp; omega
      · split
        · omega
        · simp; omega
    have ih := reachL_ev o ho rest (dn ++ [x]) (insL out x) (by simp [he]) (by simp; omega)
    let t0 : Tp pr := .b (show (decide ((↑dn.length : Int) < (↑o.length : Int))) = true by (simp; omega))
    let t1 : Tp pr := .g .row (show (lkp (List.map intt o) (↑dn.length : Int)) = some ([T.int IntKind.i64 x]) from hg)
    let t3 : Tp pr := .i (wrap_i64 (a := (↑dn.length : Int) + (1 : Int)) (by omega) (by omega))
    let t4 : Tp pr := .a (Ev.castq (congrArg (fun x_1 => Q.loop (lq pr (37 : FuncId) (0 : Nat)) (at_ [((4 : Nat), isq (insL out x)), ((11 : Nat), isq o), ((12 : Nat), i64 (↑o.length : Int)), ((13 : Nat), i64 x_1)] [] (0 : Nat))) (show ((↑(dn ++ [x]).length : Int)) = ((↑dn.length : Int) + (1 : Int)) by simp)) (ih))
    exact .tp [t0, t1, .a (hp), t3, t4] (by kernel_rfl)
theorem ReachOfS_ev (h : Hp) (h1 : h.objects.length ≤ 1048576) (h2 : ∀ x ∈ h.objects, x.links.length ≤ 1048576) (h3 : h.roots.length ≤ 1048576) :
    Ev pr (.call 37 [vs h.ce] []) (.val (.tup [isq (if goodHeap h = true then reach h else []), bl (goodHeap h)]) []) := by
  have g := GoodHeapS_ev h h1 h2 h3
  cases hg : goodHeap h with
  | false => rw [hg] at g; exact .tp [.a (g), .b (rfl : true = true)] (by kernel_rfl)
  | true =>
    rw [hg] at g
    have hG := goodHeap_ok hg
    have g2 := l15Order_ev h hG
    have hp := reach_put hG
    have hlen : (order h).length ≤ 100 := by
      have hb := order_bd hG
      have := hG.objs
      have hn : (order h).Nodup := order_nodup h
      have := nodup_len _ _ hn hb
      omega
    rw [if_pos rfl, ← hp]
    cases ho : order h with
    | nil =>
      rw [ho] at g2
      have hL0 : Ev pr (.loop (lq pr 37 0) (at_ [(4, .t .nils), (11, isq []), (12, i64 0), (13, i64 0)] [] 0)) (.exit 0 (at_ [(4, .t .nils)] [] 0)) := by
        exact .tp [.b (rfl : false = false)] (by kernel_rfl)
      let t3 : Tp pr := .i (rfl : ((0 : Int) : Int) = (0 : Int))
      exact .tp [.a (g), .b (rfl : false = false), .a (g2), t3, .a (hL0)] (by kernel_rfl)
    | cons x r =>
      rw [ho] at g2 hlen
      have hL := reachL_ev (x :: r) hlen r [x] [x] rfl (by simp)
      have hq := l1PutN_ev x
      have hg3 : lkp ((x :: r).map intt) 0 = some [T.int .i64 x] := rfl
      have hL2 : Ev pr (.loop (lq pr 37 0) (at_ [(4, .t .nils), (11, isq (x :: r)), (12, i64 (x :: r).length), (13, i64 0)] [] 0)) (.exit 0 (at_ [(4, isq (r.foldl insL [x]))] [] 0)) := by
        let t0 : Tp pr := .b (show (decide ((0 : Int) < (↑(x :: r).length : Int))) = true by simp)
        let t1 : Tp pr := .g .row (show (lkp (List.map intt (x :: r)) (0 : Int)) = some ([T.int IntKind.i64 x]) from hg3)
        let t3 : Tp pr := .i (rfl : ((1 : Int) : Int) = (1 : Int))
        exact .tp [t0, t1, .a (hq), t3, .a (hL)] (by kernel_rfl)
      rw [show (x :: r).foldl insL [] = r.foldl insL [x] from rfl]
      let t3 : Tp pr := .i (show ((↑(List.map intt (x :: r)).length : Int) : Int) = (↑r.length : Int) + (1 : Int) by simp)
      exact .tp [.a (g), .b (rfl : false = false), .a (g2), t3, .a (hL2)] (by kernel_rfl)
end Go.Ev

/- The law of copies: its parts. -/
namespace Go.Ev
set_option linter.unusedVariables false
set_option linter.unusedSimpArgs false
open Go.Proofs
set_option maxRecDepth 100000
set_option linter.unusedVariables false
set_option maxHeartbeats 8000000
attribute [local simp] rowO_len rowO_fz ints_takeV take_mapV rowO_takeW5 names_take2
theorem hasL_ev (l : List Int) (n : Int) (hl : l.length ≤ 1048576) : ∀ (rest done : List Int), l = done ++ rest →
    Ev pr (.loop (lq pr 39 0) (at_ [(1, i64 n), (7, isq l), (8, i64 l.length), (9, i64 done.length)] [] 0))
      (bif rest.contains n then .ret (at_ [(4, bl true)] [] 0) else .exit 0 (at_ [] [] 0))
  | [], done, he => by
    have hll : (l.length : Int) = done.length := by simp [he]
    let t0 : Tp pr := .b (show (decide ((↑done.length : Int) < (↑l.length : Int))) = false by (simp; omega))
    exact .tp [t0] (by kernel_rfl)
  | x :: rest, done, he => by
    have hll : (l.length : Int) = done.length + 1 + rest.length := by simp [he]; omega
    have hg : lkp (l.map intt) (done.length : Int) = some [T.int .i64 x] := by subst he; simp [intt]
    have ih := hasL_ev l n hl rest (done ++ [x]) (by simp [he])
    by_cases hx : x = n
    · subst hx
      rw [show (x :: rest).contains x = true by simp]
      let t0 : Tp pr := .b (show (decide ((↑done.length : Int) < (↑l.length : Int))) = true by (simp; omega))
      let t1 : Tp pr := .g .row (show (lkp (List.map intt l) (↑done.length : Int)) = some ([T.int IntKind.i64 x]) from hg)
      let t2 : Tp pr := .b (show (decide (x = x)) = true by simp)
      exact .tp [t0, t1, t2] (by kernel_rfl)
    · have hx2 : ¬ n = x := fun e => hx e.symm
      rw [show (x :: rest).contains n = rest.contains n by simp [hx2]]
      cases hr : rest.contains n with
      | true => rw [hr] at ih; (
        let t0 : Tp pr := .b (show (decide ((↑done.length : Int) < (↑l.length : Int))) = true by (simp; omega))
        let t1 : Tp pr := .g .row (show (lkp (List.map intt l) (↑done.length : Int)) = some ([T.int IntKind.i64 x]) from hg)
        let t2 : Tp pr := .b (show (decide (x = n)) = false by (simp; omega))
        let t3 : Tp pr := .i (wrap_i64 (a := (↑done.length : Int) + (1 : Int)) (by omega) (by omega))
        let t4 : Tp pr := .a (Ev.castq (congrArg (fun x => Q.loop (lq pr (39 : FuncId) (0 : Nat)) (at_ [((1 : Nat), i64 n), ((7 : Nat), isq l), ((8 : Nat), i64 (↑l.length : Int)), ((9 : Nat), i64 x)] [] (0 : Nat))) (show ((↑(done ++ [x]).length : Int)) = ((↑done.length : Int) + (1 : Int)) by simp)) (ih))
        exact .tp [t0, t1, t2, t3, t4] (by kernel_rfl))
      | false => rw [hr] at ih; (
        let t0 : Tp pr := .b (show (decide ((↑done.length : Int) < (↑l.length : Int))) = true by (simp; omega))
        let t1 : Tp pr := .g .row (show (lkp (List.map intt l) (↑done.length : Int)) = some ([T.int IntKind.i64 x]) from hg)
        let t2 : Tp pr := .b (show (decide (x = n)) = false by (simp; omega))
        let t3 : Tp pr := .i (wrap_i64 (a := (↑done.length : Int) + (1 : Int)) (by omega) (by omega))
        let t4 : Tp pr := .a (Ev.castq (congrArg (fun x => Q.loop (lq pr (39 : FuncId) (0 : Nat)) (at_ [((1 : Nat), i64 n), ((7 : Nat), isq l), ((8 : Nat), i64 (↑l.length : Int)), ((9 : Nat), i64 x)] [] (0 : Nat))) (show ((↑(done ++ [x]).length : Int)) = ((↑done.length : Int) + (1 : Int)) by simp)) (ih))
        exact .tp [t0, t1, t2, t3, t4] (by kernel_rfl))
theorem has_ev (l : List Int) (n : Int) (hl : l.length ≤ 1048576) : Ev pr (.call 39 [isq l, i64 n] []) (.val (bl (l.contains n)) []) := by
  have h := hasL_ev l n hl l [] rfl
  cases hr : l.contains n with
  | true => rw [hr] at h; (
    let t0 : Tp pr := .i (show ((↑(List.map intt l).length : Int) : Int) = (↑l.length : Int) by simp)
    exact .tp [t0, .a (h)] (by kernel_rfl))
  | false => rw [hr] at h; (
    let t0 : Tp pr := .i (show ((↑(List.map intt l).length : Int) : Int) = (↑l.length : Int) by simp)
    exact .tp [t0, .a (h)] (by kernel_rfl))
theorem names_lkp {N : Nat} {l : List Int} {k : Int} (h0 : 0 ≤ k) (h1 : k < N) : lkp ((namesOf N l).map intt) k = some [T.int .i64 (newOf l k)] := by
  have hk : k.toNat < N := by omega
  have e := namesOf_getD (l := l) hk
  rw [List.getD_eq_getElem?_getD, List.getElem?_eq_getElem (by simpa using hk)] at e
  simp only [Option.getD_some] at e
  have hlt : k.toNat < (namesOf N l).length := by simpa using hk
  simp only [lkp, if_pos h0, List.getElem?_map, List.getElem?_eq_getElem hlt, Option.map_some, intt, e]
  rw [show ((k.toNat : Nat) : Int) = k by omega]
theorem cpL0_ev (h c : Hp) (cs r o : List Int) (N : Nat) (hN : N ≤ 40) (hNl : N = h.objects.length) (hr : ∀ x, r.contains x = o.contains x) (hrl : r.length ≤ 1048576) (hob : ∀ k ∈ o, 0 ≤ k ∧ k < N)
    (hmk : ∀ k ∈ o, newOf o k < c.objects.length ∧ (objAt c (newOf o k)).mark = (objAt h k).mark) : ∀ (n i : Nat), i + n = N →
    Ev pr (.loop (lq pr 6 0) (at_ [(1, bsq cs), (5, .ptr 0 1 0 0), (6, .ptr 1 1 0 0), (12, isq r), (162, isq (namesOf N o)), (163, i64 N), (164, i64 i)] [.box [osq h.objects, isq h.roots], .box [osq c.objects, isq c.roots]] 0))
      (.exit 0 (at_ [(1, bsq cs), (5, .ptr 0 1 0 0), (6, .ptr 1 1 0 0)] [.box [osq h.objects, isq h.roots], .box [osq c.objects, isq c.roots]] 0))
  | 0, i, hi => by
    obtain rfl : i = N := by omega
    let t0 : Tp pr := .b (show (decide ((↑i : Int) < (↑i : Int))) = false by simp)
    exact .tp [t0] (by kernel_rfl)
  | n + 1, i, hi => by
    have hlt : (i : Int) < N := by omega
    have g := names_lkp (l := o) (k := (i : Int)) (N := N) (by omega) hlt
    have hh := has_ev r i hrl
    rw [hr] at hh
    have ih := cpL0_ev h c cs r o N hN hNl hr hrl hob hmk n (i + 1) (by omega)
    by_cases hm : (i : Int) ∈ o
    · have hc : o.contains (i : Int) = true := by simpa using hm
      rw [hc] at hh
      have hp := newOf_in hm
      obtain ⟨m1, m2⟩ := hmk _ hm
      have g1 := objAt_lkp (h := c) (k := newOf o i) hp m1
      have g2 := objAt_lkp (h := h) (k := (i : Int)) (by omega) (by omega)
      rw [show (objAt c (newOf o i)).ce = [T.int .i64 (objAt h i).mark, T.seq 1 ((objAt c (newOf o i)).links.map intt)] by rw [Obj.ce, m2]] at g1
      generalize newOf o (i : Int) = nn at *
      let t0 : Tp pr := .b (show (decide ((↑i : Int) < (↑N : Int))) = true by (simp; omega))
      let t1 : Tp pr := .g .row (show (lkp (List.map intt (namesOf N o)) (↑i : Int)) = some ([T.int IntKind.i64 nn]) from g)
      let t10 : Tp pr := .b (show (!decide (decide (nn ≥ (0 : Int)) = true)) = false by (simp; omega))
      let t14 : Tp pr := .b (show (decide (nn ≥ (0 : Int))) = true by (simp; omega))
      let t18 : Tp pr := .g .row (show (lkp (List.map Obj.ce c.objects) nn) = some ([T.int IntKind.i64 (objAt h (↑i : Int)).mark, T.seq (1 : Nat) (List.map intt (objAt c nn).links)]) from g1)
      let t25 : Tp pr := .g .row (show (lkp (List.map Obj.ce h.objects) (↑i : Int)) = some ((objAt h (↑i : Int)).ce) from g2)
      let t32 : Tp pr := .b (show ((objAt h (↑i : Int)).mark != (objAt h (↑i : Int)).mark) = false by simp)
      let t33 : Tp pr := .i (wrap_i64 (a := (↑i : Int) + (1 : Int)) (by omega) (by omega))
      exact .tp [t0, t1, .m (rfl : true = true), .m (rfl : true = true), .m (rfl : true = true), .m (rfl : true = true), .a (hh), .m (rfl : true = true), .m (rfl : true = true), .m (rfl : true = true), t10, .m (rfl : true = true), .m (rfl : true = true), .m (rfl : true = true), t14, .m (rfl : true = true), .m (rfl : true = true), .m (rfl : true = true), t18, .m (rfl : true = true), .m (rfl : true = true), .m (rfl : true = true), .m (rfl : true = true), .m (rfl : true = true), .m (rfl : true = true), t25, .m (rfl : true = true), .m (rfl : true = true), .m (rfl : true = true), .m (rfl : true = true), .m (rfl : true = true), .m (rfl : true = true), t32, t33, .a (ih)] (by kernel_rfl)
    · have hc : o.contains (i : Int) = false := by simpa using hm
      rw [hc] at hh
      rw [newOf_out hm] at g
      let t0 : Tp pr := .b (show (decide ((↑i : Int) < (↑N : Int))) = true by (simp; omega))
      let t1 : Tp pr := .g .row (show (lkp (List.map intt (namesOf N o)) (↑i : Int)) = some ([T.int IntKind.i64 (-1 : Int)]) from g)
      let t31 : Tp pr := .i (wrap_i64 (a := (↑i : Int) + (1 : Int)) (by omega) (by omega))
      exact .tp [t0, t1, .m (rfl : true = true), .m (rfl : true = true), .m (rfl : true = true), .m (rfl : true = true), .a (hh), .m (rfl : true = true), .m (rfl : true = true), .m (rfl : true = true), .b (rfl : false = false), .m (rfl : true = true), .m (rfl : true = true), .m (rfl : true = true), .b (rfl : false = false), .m (rfl : true = true), .m (rfl : true = true), .m (rfl : true = true), .m (rfl : true = true), .m (rfl : true = true), .m (rfl : true = true), .m (rfl : true = true), .m (rfl : true = true), .m (rfl : true = true), .m (rfl : true = true), .m (rfl : true = true), .m (rfl : true = true), .m (rfl : true = true), .m (rfl : true = true), .m (rfl : true = true), .b (rfl : false = false), t31, .a (ih)] (by kernel_rfl)
@[local simp] theorem ints_take6w (l : List Int) : List.take l.length (ints l) = ints l := List.take_of_length_le (by simp)
theorem cpL1_ex (h c : Hp) (cs : List Int) (hc : ∀ b ∈ cs, 0 ≤ b ∧ b ≤ 255) (hl : cs.length ≤ 9223372036854775807) : ∀ (rest dn p : List Int), cs = dn ++ rest → p.length ≤ 12 → p.length ≤ dn.length →
    ∃ p' : List Int, p'.length ≤ 12 ∧ Ev pr (.loop (lq pr 6 1) (at_ [(1, bsq cs), (5, .ptr 0 1 0 0), (6, .ptr 1 1 0 0), (25, .vec 2 p.length 1 0 p.length), (195, bsq cs), (196, i64 cs.length), (197, i64 dn.length)]
        [.box [osq h.objects, isq h.roots], .box [osq c.objects, isq c.roots], .vec true 1 (ints p)] 0))
      (.exit 2 (at_ [(1, bsq cs), (5, .ptr 0 1 0 0), (6, .ptr 1 1 0 0), (25, .vec 2 p'.length 1 0 p'.length)] [.box [osq h.objects, isq h.roots], .box [osq c.objects, isq c.roots], .vec true 1 (ints p')] 0))
  | [], dn, p, he, h1, h2 => by
    have hll : (cs.length : Int) = dn.length := by simp [he]
    refine ⟨p, h1, ?_⟩
    let t0 : Tp pr := .b (show (decide ((↑dn.length : Int) < (↑cs.length : Int))) = false by (simp; omega))
    exact .tp [t0] (by kernel_rfl)
  | b :: rest, dn, p, he, h1, h2 => by
    have hll : (cs.length : Int) = dn.length + 1 + rest.length := by simp [he]; omega
    have hg : lkp (cs.map u8t) (dn.length : Int) = some [T.int .u8 b] := by rw [he]; simp [u8t]
    have hb := hc b (by simp [he])
    have w := wrap_i64 (a := b) (by omega) (by omega)
    have hm : b.tmod 3 = b % 3 := Int.tmod_eq_emod_of_nonneg hb.1
    by_cases h12 : dn.length < 12
    · obtain ⟨p', hp', ih⟩ := cpL1_ex h c cs hc hl rest (dn ++ [b]) (p ++ [b.tmod 3]) (by simp [he]) (by simp; omega) (by simp; omega)
      refine ⟨p', hp', ?_⟩
      rw [ints_snocD, List.length_append, List.length_singleton] at ih
      let t0 : Tp pr := .b (show (decide ((↑dn.length : Int) < (↑cs.length : Int))) = true by (simp; omega))
      let t1 : Tp pr := .g .row (show (lkp (List.map u8t cs) (↑dn.length : Int)) = some ([T.int IntKind.u8 b]) from hg)
      let t2 : Tp pr := .b (show (decide ((↑dn.length : Int) < (12 : Int))) = true by (simp; omega))
      let t3 : Tp pr := .i (wrap_i64 (a := b) (by omega) (by omega))
      let t7 : Tp pr := .m (show (decide ((ints p).length = p.length ∧ (0 : Nat) + p.length ≤ p.length ∧ p.length + (1 : Nat) ≤ (4294967296 : Nat))) = true by (simp; omega))
      let t8 : Tp pr := .b (show (decide (p.length + (1 : Nat) ≤ p.length)) = false by simp)
      let t10 : Tp pr := .n .crows (show ((List.take p.length (ints p)).append (List.take (1 : Nat) (List.drop (0 : Nat) [[C.t (T.int IntKind.i64 (b.tmod (3 : Int)))]]))) = ints p ++ [[C.t (T.int IntKind.i64 (b.tmod (3 : Int)))]] by simp)
      let t11 : Tp pr := .i (wrap_i64 (a := (↑dn.length : Int) + (1 : Int)) (by omega) (by omega))
      let t12 : Tp pr := .a (Ev.castq (congrArg (fun x => Q.loop (lq pr (6 : FuncId) (1 : Nat)) (at_ [((1 : Nat), bsq cs), ((5 : Nat), V.ptr (0 : Nat) (1 : Nat) (0 : Nat) (0 : Nat)), ((6 : Nat), V.ptr (1 : Nat) (1 : Nat) (0 : Nat) (0 : Nat)), ((25 : Nat), V.vec (2 : Nat) (p.length + (1 : Nat)) (1 : Nat) (0 : Nat) (p.length + (1 : Nat))), ((195 : Nat), bsq cs), ((196 : Nat), i64 (↑cs.length : Int)), ((197 : Nat), i64 x)] [Ob.box [osq h.objects, isq h.roots], Ob.box [osq c.objects, isq c.roots], Ob.vec true (1 : Nat) ((ints p).append [[C.t (T.int IntKind.i64 (b.tmod (3 : Int)))]])] (0 : Nat))) (show ((↑(dn ++ [b]).length : Int)) = ((↑dn.length : Int) + (1 : Int)) by simp)) (ih))
      exact .tp [t0, t1, t2, t3, .m (rfl : true = true), .i (rfl : (b.tmod (3 : Int)) = _), .m (rfl : true = true), t7, t8, .c (rfl : (p.length + (1 : Nat)) = _), t10, t11, t12] (by kernel_rfl)
    · obtain ⟨p', hp', ih⟩ := cpL1_ex h c cs hc hl rest (dn ++ [b]) p (by simp [he]) h1 (by simp; omega)
      refine ⟨p', hp', ?_⟩
      let t0 : Tp pr := .b (show (decide ((↑dn.length : Int) < (↑cs.length : Int))) = true by (simp; omega))
      let t1 : Tp pr := .g .row (show (lkp (List.map u8t cs) (↑dn.length : Int)) = some ([T.int IntKind.u8 b]) from hg)
      let t2 : Tp pr := .b (show (decide ((↑dn.length : Int) < (12 : Int))) = false by (simp; omega))
      let t3 : Tp pr := .i (wrap_i64 (a := (↑dn.length : Int) + (1 : Int)) (by omega) (by omega))
      let t4 : Tp pr := .a (Ev.castq (congrArg (fun x => Q.loop (lq pr (6 : FuncId) (1 : Nat)) (at_ [((1 : Nat), bsq cs), ((5 : Nat), V.ptr (0 : Nat) (1 : Nat) (0 : Nat) (0 : Nat)), ((6 : Nat), V.ptr (1 : Nat) (1 : Nat) (0 : Nat) (0 : Nat)), ((25 : Nat), V.vec (2 : Nat) p.length (1 : Nat) (0 : Nat) p.length), ((195 : Nat), bsq cs), ((196 : Nat), i64 (↑cs.length : Int)), ((197 : Nat), i64 x)] [Ob.box [osq h.objects, isq h.roots], Ob.box [osq c.objects, isq c.roots], Ob.vec true (1 : Nat) (ints p)] (0 : Nat))) (show ((↑(dn ++ [b]).length : Int)) = ((↑dn.length : Int) + (1 : Int)) by simp)) (ih))
      exact .tp [t0, t1, t2, t3, t4] (by kernel_rfl)
theorem fp_both {h : Hp} (hg : goodHeap h = true) (hg2 : goodHeap (copyH h) = true) (p : List Int) (hp : p.length ≤ 12) (k : Nat) (hk : k < h.roots.length) :
    ∃ (v : Int) (b : Bool), Ev pr (.call 33 [vs h.ce, i64 k, isq p] []) (.val (.tup [i64 v, bl b]) []) ∧ Ev pr (.call 33 [vs (copyH h).ce, i64 k, isq p] []) (.val (.tup [i64 v, bl b]) []) := by
  have gd := goodHeap_ok hg
  have gd2 := goodHeap_ok hg2
  have mid : ∀ {g : Hp}, GoodH g → g.objects.length ≤ 1048576 ∧ (∀ x ∈ g.objects, x.links.length ≤ 1048576) ∧ g.roots.length ≤ 1048576 := fun {g} gd => ⟨by have := gd.objs; omega, fun x hx => by have := gd.llen x hx; omega, by have := gd.rlen; omega⟩
  obtain ⟨m1, m2, m3⟩ := mid gd
  obtain ⟨n1, n2, n3⟩ := mid gd2
  have hlen : (copyH h).roots.length = h.roots.length := by simp [copyH]
  have ha : lkp (h.roots.map intt) (k : Int) = some [T.int .i64 h.roots[k]] := by simp [lkp, intt, hk]
  have hm := List.getElem_mem hk
  have hc : lkp ((copyH h).roots.map intt) (k : Int) = some [T.int .i64 (newOf (order h) h.roots[k])] := by
    show lkp ((h.roots.map (newOf (order h))).map intt) (k : Int) = _
    simp [lkp, intt, hk]
  have ccl : (copyH h).objects.length = (order h).length := by simp [copyH]
  have f1 := FpIT_ev h k h.roots[k] p m1 m2 m3 (by omega) hg ⟨by omega, by omega⟩ (by omega) ha (gd.roots _ hm).2
  have f2 := FpIT_ev (copyH h) k (newOf (order h) h.roots[k]) p n1 n2 n3 (by omega) hg2 ⟨by omega, by omega⟩ (by omega) hc (by rw [ccl]; exact (newOf_bd _ _).2)
  rw [follow_copy gd p _ (order_roots gd _ hm)] at f2
  exact ⟨_, _, f1, f2⟩
theorem cpL2_ev (h c : Hp) (cs p : List Int) (R : Nat) (hR : R = h.roots.length) (hRb : R ≤ 10)
    (H : ∀ k : Nat, k < R → ∃ (v : Int) (b : Bool), Ev pr (.call 33 [vs h.ce, i64 k, isq p] []) (.val (.tup [i64 v, bl b]) []) ∧ Ev pr (.call 33 [vs c.ce, i64 k, isq p] []) (.val (.tup [i64 v, bl b]) [])) : ∀ (n i : Nat), i + n = R →
    Ev pr (.loop (lq pr 6 2) (at_ [(1, bsq cs), (5, .ptr 0 1 0 0), (6, .ptr 1 1 0 0), (25, .vec 2 p.length 1 0 p.length), (213, i64 R), (214, i64 i)] [.box [osq h.objects, isq h.roots], .box [osq c.objects, isq c.roots], .vec true 1 (ints p)] 0))
      (.exit 4 (at_ [(1, bsq cs)] [] 0))
  | 0, i, hi => by
    obtain rfl : i = R := by omega
    let t0 : Tp pr := .b (show (decide ((↑i : Int) < (↑i : Int))) = false by simp)
    exact .tp [t0] (by kernel_rfl)
  | n + 1, i, hi => by
    have hlt : (i : Int) < R := by omega
    obtain ⟨v, b, f1, f2⟩ := H i (by omega)
    have ih := cpL2_ev h c cs p R hR hRb H n (i + 1) (by omega)
    let t0 : Tp pr := .b (show (decide ((↑i : Int) < (↑R : Int))) = true by (simp; omega))
    let t1 : Tp pr := .m (show (decide ((ints p).length = p.length ∧ (0 : Nat) + p.length ≤ p.length)) = true by simp)
    let t2 : Tp pr := .n .rows (show (List.map (fun x => List.map C.fz x) (List.take p.length (List.drop (0 : Nat) (ints p)))) = List.map intt p by simp)
    let t5 : Tp pr := .m (show (decide ((ints p).length = p.length ∧ (0 : Nat) + p.length ≤ p.length)) = true by simp)
    let t6 : Tp pr := .n .rows (show (List.map (fun x => List.map C.fz x) (List.take p.length (List.drop (0 : Nat) (ints p)))) = List.map intt p by simp)
    let t9 : Tp pr := .b (show (!decide (b = b)) = false by simp)
    let t11 : Tp pr := .i (wrap_i64 (a := (↑i : Int) + (1 : Int)) (by omega) (by omega))
    exact .tp [t0, t1, t2, .a (f1), .m (rfl : true = true), t5, t6, .a (f2), .m (rfl : true = true), t9, .b (show (v != v) = false by simp), t11, .a (ih)] (by kernel_rfl)
end Go.Ev
