import Derived.Test.YtoinanmhigafgaaKFnExactRunProgram4
/- Programs that run: names, and the program's loop. -/
namespace Go.Ev
set_option linter.unusedVariables false
set_option linter.unusedSimpArgs false
open Go.Proofs
set_option maxRecDepth 100000
set_option linter.unusedVariables false
set_option maxHeartbeats 2000000
theorem l17All_ev : Ev pr (.call 83 [] []) (.val (.t (.seq 1 (lnames.map strt))) []) := by
  let t1 : Tp pr := .n .rows (show (List.map (fun x => List.map C.fz x) (List.take (10 : Nat) (List.drop (0 : Nat) [[C.t (T.str (ByteArray.mk #[(97 : UInt8)]))], [C.t (T.str (ByteArray.mk #[(98 : UInt8)]))], [C.t (T.str (ByteArray.mk #[(99 : UInt8)]))], [C.t (T.str (ByteArray.mk #[(100 : UInt8)]))], [C.t (T.str (ByteArray.mk #[(101 : UInt8)]))], [C.t (T.str (ByteArray.mk #[(102 : UInt8)]))], [C.t (T.str (ByteArray.mk #[(103 : UInt8)]))], [C.t (T.str (ByteArray.mk #[(104 : UInt8)]))], [C.t (T.str (ByteArray.mk #[(105 : UInt8)]))], [C.t (T.str (ByteArray.mk #[(106 : UInt8)]))]]))) = [[(C.t (T.str (ByteArray.mk #[(97 : UInt8)]))).fz], [(C.t (T.str (ByteArray.mk #[(98 : UInt8)]))).fz], [(C.t (T.str (ByteArray.mk #[(99 : UInt8)]))).fz], [(C.t (T.str (ByteArray.mk #[(100 : UInt8)]))).fz], [(C.t (T.str (ByteArray.mk #[(101 : UInt8)]))).fz], [(C.t (T.str (ByteArray.mk #[(102 : UInt8)]))).fz], [(C.t (T.str (ByteArray.mk #[(103 : UInt8)]))).fz], [(C.t (T.str (ByteArray.mk #[(104 : UInt8)]))).fz], [(C.t (T.str (ByteArray.mk #[(105 : UInt8)]))).fz], [(C.t (T.str (ByteArray.mk #[(106 : UInt8)]))).fz]] by simp)
  exact .tp [.m (rfl : true = true), t1] (by kernel_rfl)
def strc (s : ByteArray) : List C := [.t (.str s)]
def lnm (i : Nat) : List ByteArray := (List.range i).map lname
theorem lnm_succ (i : Nat) : lnm (i + 1) = lnm i ++ [lname i] := by simp [lnm, List.range_succ]
theorem lnm_len (i : Nat) : (lnm i).length = i := by simp [lnm]
theorem strOf_lname {i : Nat} (h : i < 10) : strOf [97 + (i : Int)] = lname i := by
  have : (97 + (i : Int)).toNat = 97 + i := by omega
  simp [strOf, lname, this]
theorem localNamesL_ev : ∀ (n i : Nat), i + n = 10 → Ev pr (.loop (lq pr 67 0) (at_ [(1, .vec 0 10 1 0 10), (5, i64 10), (6, i64 i)] [.vec true 1 ((lnm i).map strc ++ List.replicate n [C.t (.str ⟨#[]⟩)])] 0))
    (.exit 0 (at_ [(1, .vec 0 10 1 0 10)] [.vec true 1 ((lnm 10).map strc)] 0))
  | 0, i, h => by
    have hi : i = 10 := by omega
    subst hi
    exact .tp [.b (rfl : false = false)] (by kernel_rfl)
  | n + 1, i, h => by
    have hi : i < 10 := by omega
    have hs := strOf_lname hi
    have hl := lnm_len i
    have ih := localNamesL_ev n (i + 1) (by omega)
    rw [show List.replicate (n + 1) [C.t (T.str ⟨#[]⟩)] = [C.t (.str ⟨#[]⟩)] :: List.replicate n [C.t (.str ⟨#[]⟩)] from rfl]
    have hg : ((lnm i).map strc ++ [C.t (.str ⟨#[]⟩)] :: List.replicate n [C.t (.str ⟨#[]⟩)])[i]? = some [C.t (T.str ⟨#[]⟩)] := by
      simp [hl]
    have hset : ∀ y : List C, ((lnm i).map strc ++ [C.t (.str ⟨#[]⟩)] :: List.replicate n [C.t (.str ⟨#[]⟩)]).set i y = (lnm i).map strc ++ y :: List.replicate n [C.t (.str ⟨#[]⟩)] := fun y => by
      have := set_mid ((lnm i).map strc) [C.t (.str ⟨#[]⟩)] y (List.replicate n [C.t (.str ⟨#[]⟩)])
      rwa [List.length_map, hl] at this
    have hs2 : (ByteArray.mk (Array.mk [UInt8.ofNat ((97 : Int) + (i : Int)).toNat])) = lname i := hs
    rw [show (lnm (i + 1)).map strc ++ List.replicate n [C.t (.str ⟨#[]⟩)] = ((lnm i).map strc ++ [C.t (.str ⟨#[]⟩)] :: List.replicate n [C.t (.str ⟨#[]⟩)]).set i [C.t (.str (ByteArray.mk (Array.mk [UInt8.ofNat ((97 : Int) + (i : Int)).toNat])))] by
      rw [hset, hs2]
      simp [lnm_succ, strc]] at ih
    let t0 : Tp pr := .b (show (decide ((↑i : Int) < (10 : Int))) = true by (simp; omega))
    let t1 : Tp pr := .i (wrap_u8 (a := (↑i : Int)) (by omega) (by omega))
    let t2 : Tp pr := .i (wrap_u8 (a := (97 : Int) + (↑i : Int)) (by omega) (by omega))
    let t4 : Tp pr := .n .rows (show (List.map (fun x => List.map C.fz x) (List.take (1 : Nat) (List.drop (0 : Nat) [[C.t (T.int IntKind.u8 ((97 : Int) + (↑i : Int)))]]))) = [[(C.t (T.int IntKind.u8 ((97 : Int) + (↑i : Int)))).fz]] by simp)
    let t5 : Tp pr := .m (show (decide ((0 : Int) ≤ (↑i : Int) ∧ (↑i : Int).toNat < (10 : Nat))) = true by simp [*])
    let t6 : Tp pr := .c (show ((0 : Nat) + (↑i : Int).toNat : Nat) = i by omega)
    let t7 : Tp pr := .m (show (decide (((List.map strc (lnm i)).append ([C.t (T.str (ByteArray.mk #[]))] :: List.replicate n [C.t (T.str (ByteArray.mk #[]))])).length = (10 : Nat))) = true by simp [*])
    let t8 : Tp pr := .g .crow (show (((List.map strc (lnm i)).append ([C.t (T.str (ByteArray.mk #[]))] :: List.replicate n [C.t (T.str (ByteArray.mk #[]))]))[i]?) = some ([C.t (T.str (ByteArray.mk #[]))]) from hg)
    let t9 : Tp pr := .n .crows (show (((List.map strc (lnm i)).append ([C.t (T.str (ByteArray.mk #[]))] :: List.replicate n [C.t (T.str (ByteArray.mk #[]))])).set i [C.t (T.str (ByteArray.mk (Array.mk [UInt8.ofNat ((97 : Int) + (↑i : Int)).toNat])))]) = (List.map strc (lnm i) ++ [C.t (T.str (ByteArray.mk #[]))] :: List.replicate n [C.t (T.str (ByteArray.mk #[]))]).set i [C.t (T.str (ByteArray.mk (Array.mk [UInt8.ofNat ((97 : Int) + (↑i : Int)).toNat])))] by simp)
    let t10 : Tp pr := .i (wrap_i64 (a := (↑i : Int) + (1 : Int)) (by omega) (by omega))
    exact .tp [t0, t1, t2, .m (rfl : true = true), t4, t5, t6, t7, t8, t9, t10, .a (ih)] (by kernel_rfl)
theorem localNames_ev : Ev pr (.call 67 [] []) (.val (.t (.seq 1 (lnames.map strt))) []) := by
  have h := localNamesL_ev 10 0 rfl
  let t2 : Tp pr := .n .crows (show (List.replicate (10 : Nat) [C.t (T.str (ByteArray.mk #[]))]) = [[C.t (T.str (ByteArray.mk #[]))], [C.t (T.str (ByteArray.mk #[]))], [C.t (T.str (ByteArray.mk #[]))], [C.t (T.str (ByteArray.mk #[]))], [C.t (T.str (ByteArray.mk #[]))], [C.t (T.str (ByteArray.mk #[]))], [C.t (T.str (ByteArray.mk #[]))], [C.t (T.str (ByteArray.mk #[]))], [C.t (T.str (ByteArray.mk #[]))], [C.t (T.str (ByteArray.mk #[]))]] by simp)
  let t3 : Tp pr := .i (rfl : ((10 : Int) : Int) = (10 : Int))
  let t6 : Tp pr := .n .rows (show (List.map (fun x => List.map C.fz x) (List.take (10 : Nat) (List.drop (0 : Nat) (List.map strc (lnm (10 : Nat)))))) = List.take (10 : Nat) (List.map ((fun x => List.map C.fz x) ∘ strc) (lnm (10 : Nat))) by simp)
  exact .tp [.m (rfl : true = true), .c (rfl : ((10 : Nat)) = _), t2, t3, .a (h), .m (rfl : true = true), t6] (by kernel_rfl)
end Go.Ev

/- Programs that run, by the program. -/
namespace Go.Ev
set_option linter.unusedVariables false
set_option linter.unusedSimpArgs false
open Go.Proofs
set_option maxRecDepth 100000
set_option linter.unusedVariables false
set_option maxHeartbeats 4000000
theorem lnames_ok : ∀ s : ByteArray, 0 ≤ nameNo s → idxFrom (fun x : ByteArray => x.toList == s.toList) 0 lnames = nameNo s := fun s h => idxFrom_names h
def outRun : Option (List Int) × Int → Out
  | (some lo, _) => .exit 0 (at_ [(11, .vec 0 10 1 0 10)] [.vec true 1 (ints lo)] 0)
  | (none, c) => .ret (at_ [(6, .t .nils), (7, i64 c), (8, bl true)] [] 0)
theorem runPL_ev (p : List Line) (hl : p.length ≤ 12) (hs : ∀ x ∈ p, x.expr.length ≤ 1048576 ∧ ∀ y ∈ x.expr, y.text.size ≤ 9223372036854775807) (hk : ∀ x ∈ p, lineOk x = true) (W : List Int) (hWl : W.length = p.length) (hW : ∀ a ∈ W, 0 ≤ a ∧ a < p.length) :
    ∀ (n k : Nat) (lo : List Int), n ≤ 2000 → k ≤ p.length → lo.length = 10 → (∀ v ∈ lo, bd v) →
    Ev pr (.loop (lq pr 31 0) (at_ [(0, lines p), (2, i64 n), (9, .t (.seq 1 (W.map intt))), (11, .vec 0 10 1 0 10), (12, i64 k)] [.vec true 1 (ints lo)] 0)) (outRun (runP W p n k lo))
  | 0, k, lo, hn, hkl, h10, hbd => by
    unfold runP
    by_cases h : k < p.length
    · rw [if_pos h]
      let t0 : Tp pr := .i (show ((↑(List.map Line.ce p).length : Int) : Int) = (↑p.length : Int) by simp)
      let t1 : Tp pr := .b (show (decide ((↑k : Int) < (↑p.length : Int))) = true by (simp; omega))
      exact .tp [t0, t1, .b (rfl : true = true)] (by kernel_rfl)
    · rw [if_neg h]
      let t0 : Tp pr := .i (show ((↑(List.map Line.ce p).length : Int) : Int) = (↑p.length : Int) by simp)
      let t1 : Tp pr := .b (show (decide ((↑k : Int) < (↑p.length : Int))) = false by (simp; omega))
      exact .tp [t0, t1] (by kernel_rfl)
  | n + 1, k, lo, hn, hkl, h10, hbd => by
    unfold runP
    by_cases h : k < p.length
    · have hx : p[k]? = some p[k] := List.getElem?_eq_getElem h
      have hmem : p[k] ∈ p := List.getElem_mem h
      generalize p[k] = x at *
      rw [hx]
      dsimp only
      have hg : lkp (p.map Line.ce) (k : Int) = some x.ce := by simp [lkp, hx]
      obtain ⟨hj1, hj2⟩ := jOf_lt (k := k) hW (by omega)
      have hgW : lkp (W.map intt) (k : Int) = some [T.int .i64 (jOf W k : Int)] := by
        rw [← hj2, lkp, if_pos (by omega)]
        simp [List.getD_eq_getElem?_getD, intt, show k < W.length by omega]
      have hxe := localExpr_ev x.expr (hs x hmem).1 (hs x hmem).2
      by_cases h3 : x.kind = 3
      · rw [if_pos h3]
        have ih := runPL_ev p hl hs hk W hWl hW n (jOf W k) lo (by omega) (by omega) h10 hbd
        let t0 : Tp pr := .i (show ((↑(List.map Line.ce p).length : Int) : Int) = (↑p.length : Int) by simp)
        let t1 : Tp pr := .b (show (decide ((↑k : Int) < (↑p.length : Int))) = true by (simp; omega))
        let t3 : Tp pr := .g .row (show (lkp (List.map Line.ce p) (↑k : Int)) = some (x.ce) from hg)
        let t4 : Tp pr := .b (show (decide (x.kind = (3 : Int))) = true by (simp; omega))
        let t5 : Tp pr := .g .row (show (lkp (List.map intt W) (↑k : Int)) = some ([T.int IntKind.i64 (↑(jOf W k) : Int)]) from hgW)
        let t6 : Tp pr := .i (wrap_i64 (a := (↑(n + (1 : Nat)) : Int) - (1 : Int)) (by omega) (by omega))
        let t7 : Tp pr := .a (Ev.castq (congrArg (fun x => Q.loop (lq pr (31 : FuncId) (0 : Nat)) (at_ [((0 : Nat), lines p), ((2 : Nat), i64 x), ((9 : Nat), V.t (T.seq (1 : Nat) (List.map intt W))), ((11 : Nat), V.vec (0 : Nat) (10 : Nat) (1 : Nat) (0 : Nat) (10 : Nat)), ((12 : Nat), i64 (↑(jOf W k) : Int))] [Ob.vec true (1 : Nat) (ints lo)] (0 : Nat))) (show ((↑n : Int)) = ((↑(n + (1 : Nat)) : Int) - (1 : Int)) by omega)) (ih))
        exact .tp [t0, t1, .b (rfl : false = false), t3, t4, t5, t6, t7] (by kernel_rfl)
      · rw [if_neg h3]
        obtain ⟨e, he⟩ : ∃ e, parseL x.expr = some e := by
          rcases lineOk_kind (hk x hmem) with ⟨_, _, _, h⟩ | ⟨_, h⟩ | h
          · exact h
          · exact h
          · exact absurd h h3
        rw [he] at hxe
        rw [he]
        dsimp only
        have hok := parse_ok (parseL_parse he)
        have hev := eval_ev lnames (by decide) lnames_ok lo h10 hbd e hok (parseL_names he)
        rw [← List.take_of_length_le (show (lo.map intt).length ≤ 10 by simp; omega)] at hev
        have heb := evalE_bd (lval lo) (lval_bd hbd) e hok
        generalize evalE (lval lo) e = q at *
        obtain ⟨v, c⟩ := q
        dsimp only at hev heb ⊢
        by_cases hc : c = 0
        · rw [if_pos hc]
          subst hc
          by_cases h1 : x.kind = 1
          · rw [if_pos h1]
            have hnm : 0 ≤ x.name ∧ x.name ≤ 9 := by
              rcases lineOk_kind (hk x hmem) with ⟨_, h2, h4, _⟩ | ⟨h2, _⟩ | h2
              · exact ⟨h2, h4⟩
              · omega
              · omega
            have gl := ints_get (l := lo) (k := x.name.toNat) (by omega)
            have ih := runPL_ev p hl hs hk W hWl hW n (k + 1) (lo.set x.name.toNat v) (by omega) (by omega) (by simpa using h10) (fun w hw => by
              rcases List.mem_or_eq_of_mem_set hw with hw | rfl
              · exact hbd w hw
              · exact heb)
            let t0 : Tp pr := .i (show ((↑(List.map Line.ce p).length : Int) : Int) = (↑p.length : Int) by simp)
            let t1 : Tp pr := .b (show (decide ((↑k : Int) < (↑p.length : Int))) = true by (simp; omega))
            let t3 : Tp pr := .g .row (show (lkp (List.map Line.ce p) (↑k : Int)) = some (x.ce) from hg)
            let t4 : Tp pr := .b (show (decide (x.kind = (3 : Int))) = false by (simp; omega))
            let t7 : Tp pr := .m (show (decide ((ints lo).length = (10 : Nat) ∧ (10 : Nat) ≤ (10 : Nat))) = true by simp [*])
            let t8 : Tp pr := .n .rows (show (List.map (fun x => List.map C.fz x) (List.take (10 : Nat) (List.drop (0 : Nat) (ints lo)))) = List.take (10 : Nat) (List.map intt lo) by simp)
            let t12 : Tp pr := .b (show (decide (x.kind = (1 : Int))) = true by (simp; omega))
            let t13 : Tp pr := .m (show (decide ((0 : Int) ≤ x.name ∧ x.name.toNat < (10 : Nat))) = true by (simp; omega))
            let t14 : Tp pr := .c (show ((0 : Nat) + x.name.toNat : Nat) = x.name.toNat by omega)
            let t15 : Tp pr := .m (show (decide ((ints lo).length = (10 : Nat))) = true by simp [*])
            let t16 : Tp pr := .g .crow (show ((ints lo)[x.name.toNat]?) = some (intc (lo.getD x.name.toNat (0 : Int))) from gl)
            let t17 : Tp pr := .n .crows (show ((ints lo).set x.name.toNat [C.t (T.int IntKind.i64 v)]) = ints (lo.set x.name.toNat v) by simp)
            let t18 : Tp pr := .i (wrap_i64 (a := (↑k : Int) + (1 : Int)) (by omega) (by omega))
            let t19 : Tp pr := .i (wrap_i64 (a := (↑(n + (1 : Nat)) : Int) - (1 : Int)) (by omega) (by omega))
            let t20 : Tp pr := .a (Ev.castq (congrArg (fun x_1 => Q.loop (lq pr (31 : FuncId) (0 : Nat)) (at_ [((0 : Nat), lines p), ((2 : Nat), i64 x_1), ((9 : Nat), V.t (T.seq (1 : Nat) (List.map intt W))), ((11 : Nat), V.vec (0 : Nat) (10 : Nat) (1 : Nat) (0 : Nat) (10 : Nat)), ((12 : Nat), i64 (↑(k + (1 : Nat)) : Int))] [Ob.vec true (1 : Nat) (ints (lo.set x.name.toNat v))] (0 : Nat))) (show ((↑n : Int)) = ((↑(n + (1 : Nat)) : Int) - (1 : Int)) by simp [intc])) (ih))
            exact .tp [t0, t1, .b (rfl : false = false), t3, t4, .a (hxe), .a (localNames_ev), t7, t8, .a (hev), .m (rfl : true = true), .b (rfl : false = false), t12, t13, t14, t15, t16, t17, t18, t19, t20] (by kernel_rfl)
          · rw [if_neg h1]
            by_cases hv : v = 0
            · rw [if_pos hv]
              have ih := runPL_ev p hl hs hk W hWl hW n (jOf W k + 1) lo (by omega) (by omega) h10 hbd
              let t0 : Tp pr := .i (show ((↑(List.map Line.ce p).length : Int) : Int) = (↑p.length : Int) by simp)
              let t1 : Tp pr := .b (show (decide ((↑k : Int) < (↑p.length : Int))) = true by (simp; omega))
              let t3 : Tp pr := .g .row (show (lkp (List.map Line.ce p) (↑k : Int)) = some (x.ce) from hg)
              let t4 : Tp pr := .b (show (decide (x.kind = (3 : Int))) = false by (simp; omega))
              let t7 : Tp pr := .m (show (decide ((ints lo).length = (10 : Nat) ∧ (10 : Nat) ≤ (10 : Nat))) = true by simp [*])
              let t8 : Tp pr := .n .rows (show (List.map (fun x => List.map C.fz x) (List.take (10 : Nat) (List.drop (0 : Nat) (ints lo)))) = List.take (10 : Nat) (List.map intt lo) by simp)
              let t12 : Tp pr := .b (show (decide (x.kind = (1 : Int))) = false by (simp; omega))
              let t13 : Tp pr := .b (show (decide (v = (0 : Int))) = true by (simp; omega))
              let t14 : Tp pr := .g .row (show (lkp (List.map intt W) (↑k : Int)) = some ([T.int IntKind.i64 (↑(jOf W k) : Int)]) from hgW)
              let t15 : Tp pr := .i (wrap_i64 (a := (↑(jOf W k) : Int) + (1 : Int)) (by omega) (by omega))
              let t16 : Tp pr := .i (wrap_i64 (a := (↑(n + (1 : Nat)) : Int) - (1 : Int)) (by omega) (by omega))
              let t17 : Tp pr := .a (Ev.castq (congrArg (fun x => Q.loop (lq pr (31 : FuncId) (0 : Nat)) (at_ [((0 : Nat), lines p), ((2 : Nat), i64 x), ((9 : Nat), V.t (T.seq (1 : Nat) (List.map intt W))), ((11 : Nat), V.vec (0 : Nat) (10 : Nat) (1 : Nat) (0 : Nat) (10 : Nat)), ((12 : Nat), i64 (↑(jOf W k + (1 : Nat)) : Int))] [Ob.vec true (1 : Nat) (ints lo)] (0 : Nat))) (show ((↑n : Int)) = ((↑(n + (1 : Nat)) : Int) - (1 : Int)) by omega)) (ih))
              exact .tp [t0, t1, .b (rfl : false = false), t3, t4, .a (hxe), .a (localNames_ev), t7, t8, .a (hev), .m (rfl : true = true), .b (rfl : false = false), t12, t13, t14, t15, t16, t17] (by kernel_rfl)
            · rw [if_neg hv]
              have ih := runPL_ev p hl hs hk W hWl hW n (k + 1) lo (by omega) (by omega) h10 hbd
              let t0 : Tp pr := .i (show ((↑(List.map Line.ce p).length : Int) : Int) = (↑p.length : Int) by simp)
              let t1 : Tp pr := .b (show (decide ((↑k : Int) < (↑p.length : Int))) = true by (simp; omega))
              let t3 : Tp pr := .g .row (show (lkp (List.map Line.ce p) (↑k : Int)) = some (x.ce) from hg)
              let t4 : Tp pr := .b (show (decide (x.kind = (3 : Int))) = false by (simp; omega))
              let t7 : Tp pr := .m (show (decide ((ints lo).length = (10 : Nat) ∧ (10 : Nat) ≤ (10 : Nat))) = true by simp [*])
              let t8 : Tp pr := .n .rows (show (List.map (fun x => List.map C.fz x) (List.take (10 : Nat) (List.drop (0 : Nat) (ints lo)))) = List.take (10 : Nat) (List.map intt lo) by simp)
              let t12 : Tp pr := .b (show (decide (x.kind = (1 : Int))) = false by (simp; omega))
              let t13 : Tp pr := .b (show (decide (v = (0 : Int))) = false by (simp; omega))
              let t14 : Tp pr := .i (wrap_i64 (a := (↑k : Int) + (1 : Int)) (by omega) (by omega))
              let t15 : Tp pr := .i (wrap_i64 (a := (↑(n + (1 : Nat)) : Int) - (1 : Int)) (by omega) (by omega))
              let t16 : Tp pr := .a (Ev.castq (congrArg (fun x => Q.loop (lq pr (31 : FuncId) (0 : Nat)) (at_ [((0 : Nat), lines p), ((2 : Nat), i64 x), ((9 : Nat), V.t (T.seq (1 : Nat) (List.map intt W))), ((11 : Nat), V.vec (0 : Nat) (10 : Nat) (1 : Nat) (0 : Nat) (10 : Nat)), ((12 : Nat), i64 (↑(k + (1 : Nat)) : Int))] [Ob.vec true (1 : Nat) (ints lo)] (0 : Nat))) (show ((↑n : Int)) = ((↑(n + (1 : Nat)) : Int) - (1 : Int)) by omega)) (ih))
              exact .tp [t0, t1, .b (rfl : false = false), t3, t4, .a (hxe), .a (localNames_ev), t7, t8, .a (hev), .m (rfl : true = true), .b (rfl : false = false), t12, t13, t14, t15, t16] (by kernel_rfl)
        · rw [if_neg hc]
          let t0 : Tp pr := .i (show ((↑(List.map Line.ce p).length : Int) : Int) = (↑p.length : Int) by simp)
          let t1 : Tp pr := .b (show (decide ((↑k : Int) < (↑p.length : Int))) = true by (simp; omega))
          let t3 : Tp pr := .g .row (show (lkp (List.map Line.ce p) (↑k : Int)) = some (x.ce) from hg)
          let t4 : Tp pr := .b (show (decide (x.kind = (3 : Int))) = false by (simp; omega))
          let t7 : Tp pr := .m (show (decide ((ints lo).length = (10 : Nat) ∧ (10 : Nat) ≤ (10 : Nat))) = true by simp [*])
          let t8 : Tp pr := .n .rows (show (List.map (fun x => List.map C.fz x) (List.take (10 : Nat) (List.drop (0 : Nat) (ints lo)))) = List.take (10 : Nat) (List.map intt lo) by simp)
          let t11 : Tp pr := .b (show (c != (0 : Int)) = true by (simp; omega))
          exact .tp [t0, t1, .b (rfl : false = false), t3, t4, .a (hxe), .a (localNames_ev), t7, t8, .a (hev), .m (rfl : true = true), t11, .a (endOf_ev (c))] (by kernel_rfl)
    · have hx : p[k]? = none := List.getElem?_eq_none (by omega)
      rw [hx]
      let t0 : Tp pr := .i (show ((↑(List.map Line.ce p).length : Int) : Int) = (↑p.length : Int) by simp)
      let t1 : Tp pr := .b (show (decide ((↑k : Int) < (↑p.length : Int))) = false by (simp; omega))
      exact .tp [t0, t1] (by kernel_rfl)
end Go.Ev

/- Programs that run, by the reference. -/
namespace Go.Ev
set_option linter.unusedVariables false
set_option linter.unusedSimpArgs false
open Go.Proofs
set_option maxRecDepth 100000
set_option linter.unusedVariables false
set_option maxHeartbeats 4000000
theorem l17EndsL_ev (l : List Line) (hl : l.length ≤ 1048576) (W st' junk' : List Int) : ∀ (rest done : List Line) (i : Int) (out st junk : List Int), l = done ++ rest → i = done.length → out.length = l.length → (∀ k ∈ st, 0 ≤ k ∧ k < l.length) → st.length ≤ done.length →
    endsGo rest i out st junk = some (W, st', junk') →
    Ev pr (.loop (lq pr 81 0) (at_ [(3, .vec 0 l.length 1 0 l.length), (4, .vec 1 (st.length + junk.length) 1 0 st.length), (11, lines l), (12, i64 l.length), (13, i64 i)] [.vec true 1 (ints out), .vec true 1 (ints (st.reverse ++ junk))] 0))
      (.exit 0 (at_ [(3, .vec 0 l.length 1 0 l.length)] [.vec true 1 (ints W)] 0))
  | [], done, i, out, st, junk, h, hi, ho, hs, hd, he => by
    have hll : (l.length : Int) = done.length := by simp [h]
    simp [endsGo] at he
    rw [← he.1]
    let t0 : Tp pr := .b (show (decide (i < (↑l.length : Int))) = false by (simp; omega))
    exact .tp [t0] (by kernel_rfl)
  | x :: rest, done, i, out, st, junk, h, hi, ho, hs, hd, he => by
    have hll : (l.length : Int) = done.length + 1 + rest.length := by simp [h]; omega
    have hg : lkp (l.map Line.ce) i = some x.ce := by subst hi; subst h; simp
    have hdl : (done ++ [x]).length = done.length + 1 := by simp
    unfold endsGo at he
    by_cases h2 : x.kind = 2
    · rw [if_pos h2] at he
      have ih := l17EndsL_ev l hl W st' junk' rest (done ++ [x]) (i + 1) out (i :: st) junk.tail (by simp [h]) (by simp [hi]) ho (List.forall_mem_cons.2 ⟨by omega, hs⟩) (by simp; omega) he
      clear he
      cases junk with
      | nil => 
        let t0 : Tp pr := .b (show (decide (i < (↑l.length : Int))) = true by (simp; omega))
        let t1 : Tp pr := .g .row (show (lkp (List.map Line.ce l) i) = some (x.ce) from hg)
        let t2 : Tp pr := .b (show (decide (x.kind = (2 : Int))) = true by (simp; omega))
        let t4 : Tp pr := .m (show (decide ((ints (st.reverse ++ [])).length = st.length + (0 : Nat) ∧ (0 : Nat) + st.length ≤ st.length + (0 : Nat) ∧ st.length + (1 : Nat) ≤ (4294967296 : Nat))) = true by (simp; omega))
        let t5 : Tp pr := .b (show (decide (st.length + (1 : Nat) ≤ st.length + (0 : Nat))) = false by simp)
        let t7 : Tp pr := .n .crows (show ((List.take st.length (ints (st.reverse ++ []))).append (List.take (1 : Nat) (List.drop (0 : Nat) [[C.t (T.int IntKind.i64 i)]]))) = ints st.reverse ++ [[C.t (T.int IntKind.i64 i)]] by simp)
        let t8 : Tp pr := .i (wrap_i64 (a := i + (1 : Int)) (by omega) (by omega))
        let t9 : Tp pr := .a (Ev.castq (congrArg (fun x => Q.loop (lq pr (81 : FuncId) (0 : Nat)) (at_ [((3 : Nat), V.vec (0 : Nat) l.length (1 : Nat) (0 : Nat) l.length), ((4 : Nat), V.vec (1 : Nat) ((i :: st).length + [].tail.length) (1 : Nat) (0 : Nat) (i :: st).length), ((11 : Nat), lines l), ((12 : Nat), i64 (↑l.length : Int)), ((13 : Nat), i64 (i + (1 : Int)))] [Ob.vec true (1 : Nat) (ints out), Ob.vec true (1 : Nat) x] (0 : Nat))) (show (ints ((i :: st).reverse ++ [].tail)) = ((ints st.reverse).append [[C.t (T.int IntKind.i64 i)]]) by simp [ints_app, ints_cons, intc])) (ih))
        exact .tp [t0, t1, t2, .m (rfl : true = true), t4, t5, .c (rfl : (st.length + (1 : Nat)) = _), t7, t8, t9] (by kernel_rfl)
      | cons j junk => 
        let t0 : Tp pr := .b (show (decide (i < (↑l.length : Int))) = true by (simp; omega))
        let t1 : Tp pr := .g .row (show (lkp (List.map Line.ce l) i) = some (x.ce) from hg)
        let t2 : Tp pr := .b (show (decide (x.kind = (2 : Int))) = true by (simp; omega))
        let t4 : Tp pr := .m (show (decide ((ints (st.reverse ++ j :: junk)).length = st.length + (j :: junk).length ∧ (0 : Nat) + st.length ≤ st.length + (j :: junk).length ∧ st.length + (1 : Nat) ≤ (4294967296 : Nat))) = true by (simp; omega))
        let t5 : Tp pr := .b (show (decide (st.length + (1 : Nat) ≤ st.length + (j :: junk).length)) = true by simp)
        let t7 : Tp pr := .n .crows (show (((List.take st.length (ints (st.reverse ++ j :: junk))).append (List.take (1 : Nat) (List.drop (0 : Nat) [[C.t (T.int IntKind.i64 i)]]))).append (List.drop (st.length + (1 : Nat)) (ints (st.reverse ++ j :: junk)))) = ints st.reverse ++ [C.t (T.int IntKind.i64 i)] :: ints junk by simp)
        let t8 : Tp pr := .i (wrap_i64 (a := i + (1 : Int)) (by omega) (by omega))
        let t9 : Tp pr := .a (Ev.castq ((congrArg (fun x => Q.loop (lq pr (81 : FuncId) (0 : Nat)) (at_ [((3 : Nat), V.vec (0 : Nat) l.length (1 : Nat) (0 : Nat) l.length), ((4 : Nat), V.vec (1 : Nat) x (1 : Nat) (0 : Nat) (i :: st).length), ((11 : Nat), lines l), ((12 : Nat), i64 (↑l.length : Int)), ((13 : Nat), i64 (i + (1 : Int)))] [Ob.vec true (1 : Nat) (ints out), Ob.vec true (1 : Nat) (ints ((i :: st).reverse ++ (j :: junk).tail))] (0 : Nat))) (show ((i :: st).length + (j :: junk).tail.length) = (st.length + (j :: junk).length) by (simp; omega))).trans (congrArg (fun x => Q.loop (lq pr (81 : FuncId) (0 : Nat)) (at_ [((3 : Nat), V.vec (0 : Nat) l.length (1 : Nat) (0 : Nat) l.length), ((4 : Nat), V.vec (1 : Nat) (st.length + (j :: junk).length) (1 : Nat) (0 : Nat) (i :: st).length), ((11 : Nat), lines l), ((12 : Nat), i64 (↑l.length : Int)), ((13 : Nat), i64 (i + (1 : Int)))] [Ob.vec true (1 : Nat) (ints out), Ob.vec true (1 : Nat) x] (0 : Nat))) (show (ints ((i :: st).reverse ++ (j :: junk).tail)) = ((ints st.reverse).append ([C.t (T.int IntKind.i64 i)] :: ints junk)) by simp [ints_app, ints_cons, intc]))) (ih))
        exact .tp [t0, t1, t2, .m (rfl : true = true), t4, t5, .c (rfl : (st.length + (1 : Nat)) = _), t7, t8, t9] (by kernel_rfl)
    · rw [if_neg h2] at he
      by_cases h3 : x.kind = 3
      · rw [if_pos h3] at he
        cases st with
        | nil => cases he
        | cons j st0 =>
          dsimp only at he
          have hj := hs j (by simp)
          have ih := l17EndsL_ev l hl W st' junk' rest (done ++ [x]) (i + 1) ((out.set i.toNat j).set j.toNat i) st0 (j :: junk) (by simp [h]) (by simp [hi]) (by simp [ho]) (by intro k hk; exact hs k (by simp [hk])) (by simp at hd ⊢; omega) he
          have g1 := ints_get (l := out) (k := i.toNat) (by omega)
          have g2 := ints_get (l := out.set i.toNat j) (k := j.toNat) (by simp; omega)
          clear he
          let t0 : Tp pr := .b (show (decide (i < (↑l.length : Int))) = true by (simp; omega))
          let t1 : Tp pr := .g .row (show (lkp (List.map Line.ce l) i) = some (x.ce) from hg)
          let t2 : Tp pr := .b (show (decide (x.kind = (2 : Int))) = false by (simp; omega))
          let t3 : Tp pr := .b (show (decide (x.kind = (3 : Int))) = true by (simp; omega))
          let t4 : Tp pr := .i (show ((↑(j :: st0).length : Int) : Int) = (↑st0.length : Int) + (1 : Int) by simp)
          let t5 : Tp pr := .i (wrap_i64 (a := (↑st0.length : Int) + (1 : Int) - (1 : Int)) (by omega) (by (simp at *; omega)))
          let t6 : Tp pr := .m (show (decide ((0 : Int) ≤ (↑st0.length : Int) + (1 : Int) - (1 : Int) ∧ ((↑st0.length : Int) + (1 : Int) - (1 : Int)).toNat < (j :: st0).length)) = true by simp)
          let t7 : Tp pr := .c (show ((0 : Nat) + ((↑st0.length : Int) + (1 : Int) - (1 : Int)).toNat : Nat) = st0.length by omega)
          let t8 : Tp pr := .m (show (decide ((ints ((j :: st0).reverse ++ junk)).length = (j :: st0).length + junk.length)) = true by (simp; omega))
          let t9 : Tp pr := .g .crow (show ((ints ((j :: st0).reverse ++ junk))[st0.length]?) = some (intc j) by simp)
          let t10 : Tp pr := .m (show (decide ((0 : Int) ≤ i ∧ i.toNat < l.length)) = true by simp [*])
          let t11 : Tp pr := .c (show ((0 : Nat) + i.toNat : Nat) = i.toNat by omega)
          let t12 : Tp pr := .m (show (decide ((ints out).length = l.length)) = true by simp [*])
          let t13 : Tp pr := .g .crow (show ((ints out)[i.toNat]?) = some (intc (out.getD i.toNat (0 : Int))) from g1)
          let t14 : Tp pr := .n .crows (show ((ints out).set i.toNat [C.t (T.int IntKind.i64 j)]) = ints (out.set i.toNat j) by simp)
          let t15 : Tp pr := .m (show (decide ((0 : Int) ≤ (↑st0.length : Int) + (1 : Int) - (1 : Int) ∧ ((↑st0.length : Int) + (1 : Int) - (1 : Int)).toNat < (j :: st0).length)) = true by simp)
          let t16 : Tp pr := .c (show ((0 : Nat) + ((↑st0.length : Int) + (1 : Int) - (1 : Int)).toNat : Nat) = st0.length by omega)
          let t17 : Tp pr := .m (show (decide ((ints ((j :: st0).reverse ++ junk)).length = (j :: st0).length + junk.length)) = true by (simp; omega))
          let t18 : Tp pr := .g .crow (show ((ints ((j :: st0).reverse ++ junk))[st0.length]?) = some (intc j) by simp)
          let t19 : Tp pr := .m (show (decide ((0 : Int) ≤ j ∧ j.toNat < l.length)) = true by (simp; omega))
          let t20 : Tp pr := .c (show ((0 : Nat) + j.toNat : Nat) = j.toNat by omega)
          let t21 : Tp pr := .m (show (decide ((ints (out.set i.toNat j)).length = l.length)) = true by simp [*])
          let t22 : Tp pr := .g .crow (show ((ints (out.set i.toNat j))[j.toNat]?) = some (intc ((out.set i.toNat j).getD j.toNat (0 : Int))) from g2)
          let t23 : Tp pr := .n .crows (show ((ints (out.set i.toNat j)).set j.toNat [C.t (T.int IntKind.i64 i)]) = ints ((out.set i.toNat j).set j.toNat i) by simp)
          let t24 : Tp pr := .m (show (decide ((0 : Int) ≤ (0 : Int) ∧ (0 : Int) ≤ (↑st0.length : Int) + (1 : Int) - (1 : Int) ∧ (0 : Nat) + ((↑st0.length : Int) + (1 : Int) - (1 : Int)).toNat ≤ (j :: st0).length + junk.length)) = true by (simp; omega))
          let t26 : Tp pr := .c (show (((↑st0.length : Int) + (1 : Int) - (1 : Int)).toNat - (0 : Nat) : Nat) = st0.length by omega)
          let t27 : Tp pr := .i (wrap_i64 (a := i + (1 : Int)) (by omega) (by omega))
          let t28 : Tp pr := .a (Ev.castq ((congrArg (fun x => Q.loop (lq pr (81 : FuncId) (0 : Nat)) (at_ [((3 : Nat), V.vec (0 : Nat) l.length (1 : Nat) (0 : Nat) l.length), ((4 : Nat), V.vec (1 : Nat) x (1 : Nat) (0 : Nat) st0.length), ((11 : Nat), lines l), ((12 : Nat), i64 (↑l.length : Int)), ((13 : Nat), i64 (i + (1 : Int)))] [Ob.vec true (1 : Nat) (ints ((out.set i.toNat j).set j.toNat i)), Ob.vec true (1 : Nat) (ints (st0.reverse ++ j :: junk))] (0 : Nat))) (show (st0.length + (j :: junk).length) = ((j :: st0).length + junk.length) by (simp; omega))).trans (congrArg (fun x => Q.loop (lq pr (81 : FuncId) (0 : Nat)) (at_ [((3 : Nat), V.vec (0 : Nat) l.length (1 : Nat) (0 : Nat) l.length), ((4 : Nat), V.vec (1 : Nat) ((j :: st0).length + junk.length) (1 : Nat) (0 : Nat) st0.length), ((11 : Nat), lines l), ((12 : Nat), i64 (↑l.length : Int)), ((13 : Nat), i64 (i + (1 : Int)))] [Ob.vec true (1 : Nat) (ints ((out.set i.toNat j).set j.toNat i)), Ob.vec true (1 : Nat) x] (0 : Nat))) (show (ints (st0.reverse ++ j :: junk)) = (ints ((j :: st0).reverse ++ junk)) by simp [ints_app, ints_cons, intc]))) (ih))
          exact .tp [t0, t1, t2, t3, t4, t5, t6, t7, t8, t9, t10, t11, t12, t13, t14, t15, t16, t17, t18, t19, t20, t21, t22, t23, t24, .c (rfl : ((0 : Nat)) = _), t26, t27, t28] (by kernel_rfl)
      · rw [if_neg h3] at he
        have ih := l17EndsL_ev l hl W st' junk' rest (done ++ [x]) (i + 1) out st junk (by simp [h]) (by simp [hi]) ho hs (by simp; omega) he
        clear he
        let t0 : Tp pr := .b (show (decide (i < (↑l.length : Int))) = true by (simp; omega))
        let t1 : Tp pr := .g .row (show (lkp (List.map Line.ce l) i) = some (x.ce) from hg)
        let t2 : Tp pr := .b (show (decide (x.kind = (2 : Int))) = false by (simp; omega))
        let t3 : Tp pr := .b (show (decide (x.kind = (3 : Int))) = false by (simp; omega))
        let t4 : Tp pr := .i (wrap_i64 (a := i + (1 : Int)) (by omega) (by omega))
        exact .tp [t0, t1, t2, t3, t4, .a (ih)] (by kernel_rfl)
theorem l17Ends_ev (l : List Line) (hl : l.length ≤ 1048576) (W junk : List Int) (h : endsGo l 0 (List.replicate l.length 0) [] [] = some (W, [], junk)) : Ev pr (.call 81 [lines l] []) (.val (.t (.seq 1 (W.map intt))) []) := by
  have hL := l17EndsL_ev l hl W [] junk l [] 0 (List.replicate l.length 0) [] [] rfl rfl (by simp) (by simp) (by simp) h
  have hol := endsGo_len _ _ _ _ _ _ _ _ h
  simp at hol
  clear h
  let t0 : Tp pr := .i (show ((↑(List.map Line.ce l).length : Int) : Int) = (↑l.length : Int) by simp)
  let t1 : Tp pr := .m (show (decide ((0 : Int) ≤ (↑l.length : Int) ∧ (↑l.length : Int) ≤ (↑l.length : Int) ∧ (↑l.length : Int) ≤ (4294967296 : Int))) = true by (simp; omega))
  let t2 : Tp pr := .c (show ((↑l.length : Int).toNat : Nat) = l.length by omega)
  let t3 : Tp pr := .n .crows (rfl : (List.replicate l.length [C.t (T.int IntKind.i64 (0 : Int))]) = _)
  let t4 : Tp pr := .i (show ((↑(List.map Line.ce l).length : Int) : Int) = (↑l.length : Int) by simp)
  let t5 : Tp pr := .a (Ev.castq (congrArg (fun x => Q.loop (lq pr (81 : FuncId) (0 : Nat)) (at_ [((3 : Nat), V.vec (0 : Nat) l.length (1 : Nat) (0 : Nat) l.length), ((4 : Nat), V.vec (1 : Nat) ((0 : Nat) + (0 : Nat)) (1 : Nat) (0 : Nat) (0 : Nat)), ((11 : Nat), lines l), ((12 : Nat), i64 (↑l.length : Int)), ((13 : Nat), i64 (0 : Int))] [Ob.vec true (1 : Nat) x, Ob.vec true (1 : Nat) (ints ([].reverse ++ []))] (0 : Nat))) (show (ints (List.replicate l.length (0 : Int))) = (List.replicate l.length [C.t (T.int IntKind.i64 (0 : Int))]) by simp [intt, ← hol])) (hL))
  let t6 : Tp pr := .m (show (decide ((ints W).length = l.length ∧ (0 : Nat) + l.length ≤ l.length)) = true by simp [*])
  let t7 : Tp pr := .n .rows (show (List.map (fun x => List.map C.fz x) (List.take l.length (List.drop (0 : Nat) (ints W)))) = List.take l.length (List.map intt W) by simp)
  exact .tpe [t0, t1, t2, t3, t4, t5, t6, t7] (Out.val (V.t (T.seq (1 : Nat) (List.take l.length (List.map intt W)))) []) (by kernel_rfl) (congrArg (fun x => Out.val (V.t (T.seq (1 : Nat) x)) []) (show (List.take l.length (List.map intt W)) = (List.map intt W) by simp [intt, ← hol]))
def outRunS : Option (List Int) × Int → Out
  | (some lo, _) => .exit 0 (at_ [(9, .vec 0 10 1 0 10)] [.vec true 1 (ints lo)] 0)
  | (none, c) => .ret (at_ [(6, .t .nils), (7, i64 c)] [] 0)
theorem runPSL_ev (p : List Line) (hl : p.length ≤ 12) (hs : ∀ x ∈ p, x.expr.length ≤ 1048576 ∧ ∀ y ∈ x.expr, y.text.size ≤ 9223372036854775807) (hk : ∀ x ∈ p, lineOk x = true) (W : List Int) (hWl : W.length = p.length) (hW : ∀ a ∈ W, 0 ≤ a ∧ a < p.length) :
    ∀ (n k : Nat) (lo : List Int), n ≤ 2000 → k ≤ p.length → lo.length = 10 → (∀ v ∈ lo, bd v) →
    Ev pr (.loop (lq pr 63 0) (at_ [(0, lines p), (2, i64 n), (8, .t (.seq 1 (W.map intt))), (9, .vec 0 10 1 0 10), (10, i64 k)] [.vec true 1 (ints lo)] 0)) (outRunS (runP W p n k lo))
  | 0, k, lo, hn, hkl, h10, hbd => by
    unfold runP
    by_cases h : k < p.length
    · rw [if_pos h]
      let t0 : Tp pr := .i (show ((↑(List.map Line.ce p).length : Int) : Int) = (↑p.length : Int) by simp)
      let t1 : Tp pr := .b (show (decide ((↑k : Int) < (↑p.length : Int))) = true by (simp; omega))
      exact .tp [t0, t1, .b (rfl : true = true)] (by kernel_rfl)
    · rw [if_neg h]
      let t0 : Tp pr := .i (show ((↑(List.map Line.ce p).length : Int) : Int) = (↑p.length : Int) by simp)
      let t1 : Tp pr := .b (show (decide ((↑k : Int) < (↑p.length : Int))) = false by (simp; omega))
      exact .tp [t0, t1] (by kernel_rfl)
  | n + 1, k, lo, hn, hkl, h10, hbd => by
    unfold runP
    by_cases h : k < p.length
    · have hx : p[k]? = some p[k] := List.getElem?_eq_getElem h
      have hmem : p[k] ∈ p := List.getElem_mem h
      generalize p[k] = x at *
      rw [hx]
      dsimp only
      have hg : lkp (p.map Line.ce) (k : Int) = some x.ce := by simp [lkp, hx]
      obtain ⟨hj1, hj2⟩ := jOf_lt (k := k) hW (by omega)
      have hgW : lkp (W.map intt) (k : Int) = some [T.int .i64 (jOf W k : Int)] := by
        rw [← hj2, lkp, if_pos (by omega)]
        simp [List.getD_eq_getElem?_getD, intt, show k < W.length by omega]
      have hxe := l2Tree_ev x.expr (hs x hmem).1 (hs x hmem).2
      by_cases h3 : x.kind = 3
      · rw [if_pos h3]
        have ih := runPSL_ev p hl hs hk W hWl hW n (jOf W k) lo (by omega) (by omega) h10 hbd
        let t0 : Tp pr := .i (show ((↑(List.map Line.ce p).length : Int) : Int) = (↑p.length : Int) by simp)
        let t1 : Tp pr := .b (show (decide ((↑k : Int) < (↑p.length : Int))) = true by (simp; omega))
        let t3 : Tp pr := .g .row (show (lkp (List.map Line.ce p) (↑k : Int)) = some (x.ce) from hg)
        let t4 : Tp pr := .b (show (decide (x.kind = (3 : Int))) = true by (simp; omega))
        let t5 : Tp pr := .g .row (show (lkp (List.map intt W) (↑k : Int)) = some ([T.int IntKind.i64 (↑(jOf W k) : Int)]) from hgW)
        let t6 : Tp pr := .i (wrap_i64 (a := (↑(n + (1 : Nat)) : Int) - (1 : Int)) (by omega) (by omega))
        let t7 : Tp pr := .a (Ev.castq (congrArg (fun x => Q.loop (lq pr (63 : FuncId) (0 : Nat)) (at_ [((0 : Nat), lines p), ((2 : Nat), i64 x), ((8 : Nat), V.t (T.seq (1 : Nat) (List.map intt W))), ((9 : Nat), V.vec (0 : Nat) (10 : Nat) (1 : Nat) (0 : Nat) (10 : Nat)), ((10 : Nat), i64 (↑(jOf W k) : Int))] [Ob.vec true (1 : Nat) (ints lo)] (0 : Nat))) (show ((↑n : Int)) = ((↑(n + (1 : Nat)) : Int) - (1 : Int)) by omega)) (ih))
        exact .tp [t0, t1, .b (rfl : false = false), t3, t4, t5, t6, t7] (by kernel_rfl)
      · rw [if_neg h3]
        obtain ⟨e, he⟩ : ∃ e, parseL x.expr = some e := by
          rcases lineOk_kind (hk x hmem) with ⟨_, _, _, h⟩ | ⟨_, h⟩ | h
          · exact h
          · exact h
          · exact absurd h h3
        rw [parse_tree (parseL_parse he), parseL_parse he] at hxe
        rw [he]
        dsimp only
        have hok := parse_ok (parseL_parse he)
        have hev := l2Eval_ev lnames (by decide) lnames_ok lo h10 hbd e hok (parseL_names he)
        rw [← List.take_of_length_le (show (lo.map intt).length ≤ 10 by simp; omega)] at hev
        have heb := evalE_bd (lval lo) (lval_bd hbd) e hok
        have hcd := evalE_code (lval lo) (fun s h => by cases h) e
        generalize evalE (lval lo) e = q at *
        obtain ⟨v, c⟩ := q
        dsimp only at hev heb hcd ⊢
        by_cases hc : c = 0
        · rw [if_pos hc]
          subst hc
          by_cases h1 : x.kind = 1
          · rw [if_pos h1]
            have hnm : 0 ≤ x.name ∧ x.name ≤ 9 := by
              rcases lineOk_kind (hk x hmem) with ⟨_, h2, h4, _⟩ | ⟨h2, _⟩ | h2
              · exact ⟨h2, h4⟩
              · omega
              · omega
            have gl := ints_get (l := lo) (k := x.name.toNat) (by omega)
            have ih := runPSL_ev p hl hs hk W hWl hW n (k + 1) (lo.set x.name.toNat v) (by omega) (by omega) (by simpa using h10) (fun w hw => by
              rcases List.mem_or_eq_of_mem_set hw with hw | rfl
              · exact hbd w hw
              · exact heb)
            let t0 : Tp pr := .i (show ((↑(List.map Line.ce p).length : Int) : Int) = (↑p.length : Int) by simp)
            let t1 : Tp pr := .b (show (decide ((↑k : Int) < (↑p.length : Int))) = true by (simp; omega))
            let t3 : Tp pr := .g .row (show (lkp (List.map Line.ce p) (↑k : Int)) = some (x.ce) from hg)
            let t4 : Tp pr := .b (show (decide (x.kind = (3 : Int))) = false by (simp; omega))
            let t10 : Tp pr := .m (show (decide ((ints lo).length = (10 : Nat) ∧ (10 : Nat) ≤ (10 : Nat))) = true by simp [*])
            let t11 : Tp pr := .n .rows (show (List.map (fun x => List.map C.fz x) (List.take (10 : Nat) (List.drop (0 : Nat) (ints lo)))) = List.take (10 : Nat) (List.map intt lo) by simp)
            let t22 : Tp pr := .b (show (decide (x.kind = (1 : Int))) = true by (simp; omega))
            let t23 : Tp pr := .m (show (decide ((0 : Int) ≤ x.name ∧ x.name.toNat < (10 : Nat))) = true by (simp; omega))
            let t24 : Tp pr := .c (show ((0 : Nat) + x.name.toNat : Nat) = x.name.toNat by omega)
            let t25 : Tp pr := .m (show (decide ((ints lo).length = (10 : Nat))) = true by simp [*])
            let t26 : Tp pr := .g .crow (show ((ints lo)[x.name.toNat]?) = some (intc (lo.getD x.name.toNat (0 : Int))) from gl)
            let t27 : Tp pr := .n .crows (show ((ints lo).set x.name.toNat [C.t (T.int IntKind.i64 v)]) = ints (lo.set x.name.toNat v) by simp)
            let t28 : Tp pr := .i (wrap_i64 (a := (↑k : Int) + (1 : Int)) (by omega) (by omega))
            let t29 : Tp pr := .i (wrap_i64 (a := (↑(n + (1 : Nat)) : Int) - (1 : Int)) (by omega) (by omega))
            let t30 : Tp pr := .a (Ev.castq (congrArg (fun x_1 => Q.loop (lq pr (63 : FuncId) (0 : Nat)) (at_ [((0 : Nat), lines p), ((2 : Nat), i64 x_1), ((8 : Nat), V.t (T.seq (1 : Nat) (List.map intt W))), ((9 : Nat), V.vec (0 : Nat) (10 : Nat) (1 : Nat) (0 : Nat) (10 : Nat)), ((10 : Nat), i64 (↑(k + (1 : Nat)) : Int))] [Ob.vec true (1 : Nat) (ints (lo.set x.name.toNat v))] (0 : Nat))) (show ((↑n : Int)) = ((↑(n + (1 : Nat)) : Int) - (1 : Int)) by simp [intc])) (ih))
            exact .tp [t0, t1, .b (rfl : false = false), t3, t4, .a (hxe), .m (rfl : true = true), .a (l17All_ev), .m (rfl : true = true), .m (rfl : true = true), t10, t11, .a (hev), .m (rfl : true = true), .m (rfl : true = true), .m (rfl : true = true), .m (rfl : true = true), .m (rfl : true = true), .m (rfl : true = true), .m (rfl : true = true), .b (rfl : false = false), .b (rfl : false = false), t22, t23, t24, t25, t26, t27, t28, t29, t30] (by kernel_rfl)
          · rw [if_neg h1]
            by_cases hv : v = 0
            · rw [if_pos hv]
              have ih := runPSL_ev p hl hs hk W hWl hW n (jOf W k + 1) lo (by omega) (by omega) h10 hbd
              let t0 : Tp pr := .i (show ((↑(List.map Line.ce p).length : Int) : Int) = (↑p.length : Int) by simp)
              let t1 : Tp pr := .b (show (decide ((↑k : Int) < (↑p.length : Int))) = true by (simp; omega))
              let t3 : Tp pr := .g .row (show (lkp (List.map Line.ce p) (↑k : Int)) = some (x.ce) from hg)
              let t4 : Tp pr := .b (show (decide (x.kind = (3 : Int))) = false by (simp; omega))
              let t10 : Tp pr := .m (show (decide ((ints lo).length = (10 : Nat) ∧ (10 : Nat) ≤ (10 : Nat))) = true by simp [*])
              let t11 : Tp pr := .n .rows (show (List.map (fun x => List.map C.fz x) (List.take (10 : Nat) (List.drop (0 : Nat) (ints lo)))) = List.take (10 : Nat) (List.map intt lo) by simp)
              let t22 : Tp pr := .b (show (decide (x.kind = (1 : Int))) = false by (simp; omega))
              let t23 : Tp pr := .b (show (decide (v = (0 : Int))) = true by (simp; omega))
              let t24 : Tp pr := .g .row (show (lkp (List.map intt W) (↑k : Int)) = some ([T.int IntKind.i64 (↑(jOf W k) : Int)]) from hgW)
              let t25 : Tp pr := .i (wrap_i64 (a := (↑(jOf W k) : Int) + (1 : Int)) (by omega) (by omega))
              let t26 : Tp pr := .i (wrap_i64 (a := (↑(n + (1 : Nat)) : Int) - (1 : Int)) (by omega) (by omega))
              let t27 : Tp pr := .a (Ev.castq (congrArg (fun x => Q.loop (lq pr (63 : FuncId) (0 : Nat)) (at_ [((0 : Nat), lines p), ((2 : Nat), i64 x), ((8 : Nat), V.t (T.seq (1 : Nat) (List.map intt W))), ((9 : Nat), V.vec (0 : Nat) (10 : Nat) (1 : Nat) (0 : Nat) (10 : Nat)), ((10 : Nat), i64 (↑(jOf W k + (1 : Nat)) : Int))] [Ob.vec true (1 : Nat) (ints lo)] (0 : Nat))) (show ((↑n : Int)) = ((↑(n + (1 : Nat)) : Int) - (1 : Int)) by omega)) (ih))
              exact .tp [t0, t1, .b (rfl : false = false), t3, t4, .a (hxe), .m (rfl : true = true), .a (l17All_ev), .m (rfl : true = true), .m (rfl : true = true), t10, t11, .a (hev), .m (rfl : true = true), .m (rfl : true = true), .m (rfl : true = true), .m (rfl : true = true), .m (rfl : true = true), .m (rfl : true = true), .m (rfl : true = true), .b (rfl : false = false), .b (rfl : false = false), t22, t23, t24, t25, t26, t27] (by kernel_rfl)
            · rw [if_neg hv]
              have ih := runPSL_ev p hl hs hk W hWl hW n (k + 1) lo (by omega) (by omega) h10 hbd
              let t0 : Tp pr := .i (show ((↑(List.map Line.ce p).length : Int) : Int) = (↑p.length : Int) by simp)
              let t1 : Tp pr := .b (show (decide ((↑k : Int) < (↑p.length : Int))) = true by (simp; omega))
              let t3 : Tp pr := .g .row (show (lkp (List.map Line.ce p) (↑k : Int)) = some (x.ce) from hg)
              let t4 : Tp pr := .b (show (decide (x.kind = (3 : Int))) = false by (simp; omega))
              let t10 : Tp pr := .m (show (decide ((ints lo).length = (10 : Nat) ∧ (10 : Nat) ≤ (10 : Nat))) = true by simp [*])
              let t11 : Tp pr := .n .rows (show (List.map (fun x => List.map C.fz x) (List.take (10 : Nat) (List.drop (0 : Nat) (ints lo)))) = List.take (10 : Nat) (List.map intt lo) by simp)
              let t22 : Tp pr := .b (show (decide (x.kind = (1 : Int))) = false by (simp; omega))
              let t23 : Tp pr := .b (show (decide (v = (0 : Int))) = false by (simp; omega))
              let t24 : Tp pr := .i (wrap_i64 (a := (↑k : Int) + (1 : Int)) (by omega) (by omega))
              let t25 : Tp pr := .i (wrap_i64 (a := (↑(n + (1 : Nat)) : Int) - (1 : Int)) (by omega) (by omega))
              let t26 : Tp pr := .a (Ev.castq (congrArg (fun x => Q.loop (lq pr (63 : FuncId) (0 : Nat)) (at_ [((0 : Nat), lines p), ((2 : Nat), i64 x), ((8 : Nat), V.t (T.seq (1 : Nat) (List.map intt W))), ((9 : Nat), V.vec (0 : Nat) (10 : Nat) (1 : Nat) (0 : Nat) (10 : Nat)), ((10 : Nat), i64 (↑(k + (1 : Nat)) : Int))] [Ob.vec true (1 : Nat) (ints lo)] (0 : Nat))) (show ((↑n : Int)) = ((↑(n + (1 : Nat)) : Int) - (1 : Int)) by omega)) (ih))
              exact .tp [t0, t1, .b (rfl : false = false), t3, t4, .a (hxe), .m (rfl : true = true), .a (l17All_ev), .m (rfl : true = true), .m (rfl : true = true), t10, t11, .a (hev), .m (rfl : true = true), .m (rfl : true = true), .m (rfl : true = true), .m (rfl : true = true), .m (rfl : true = true), .m (rfl : true = true), .m (rfl : true = true), .b (rfl : false = false), .b (rfl : false = false), t22, t23, t24, t25, t26] (by kernel_rfl)
        · rw [if_neg hc]
          rcases hcd with hcd | hcd | hcd
          · exact absurd hcd hc
          · subst hcd
            rw [show endOf 2 = 2 from rfl]
            let t0 : Tp pr := .i (show ((↑(List.map Line.ce p).length : Int) : Int) = (↑p.length : Int) by simp)
            let t1 : Tp pr := .b (show (decide ((↑k : Int) < (↑p.length : Int))) = true by (simp; omega))
            let t3 : Tp pr := .g .row (show (lkp (List.map Line.ce p) (↑k : Int)) = some (x.ce) from hg)
            let t4 : Tp pr := .b (show (decide (x.kind = (3 : Int))) = false by (simp; omega))
            let t10 : Tp pr := .m (show (decide ((ints lo).length = (10 : Nat) ∧ (10 : Nat) ≤ (10 : Nat))) = true by simp [*])
            let t11 : Tp pr := .n .rows (show (List.map (fun x => List.map C.fz x) (List.take (10 : Nat) (List.drop (0 : Nat) (ints lo)))) = List.take (10 : Nat) (List.map intt lo) by simp)
            exact .tp [t0, t1, .b (rfl : false = false), t3, t4, .a (hxe), .m (rfl : true = true), .a (l17All_ev), .m (rfl : true = true), .m (rfl : true = true), t10, t11, .a (hev), .m (rfl : true = true), .m (rfl : true = true), .m (rfl : true = true), .m (rfl : true = true), .m (rfl : true = true), .m (rfl : true = true), .m (rfl : true = true), .b (rfl : true = true)] (by kernel_rfl)
          · subst hcd
            rw [show endOf 3 = 3 from rfl]
            let t0 : Tp pr := .i (show ((↑(List.map Line.ce p).length : Int) : Int) = (↑p.length : Int) by simp)
            let t1 : Tp pr := .b (show (decide ((↑k : Int) < (↑p.length : Int))) = true by (simp; omega))
            let t3 : Tp pr := .g .row (show (lkp (List.map Line.ce p) (↑k : Int)) = some (x.ce) from hg)
            let t4 : Tp pr := .b (show (decide (x.kind = (3 : Int))) = false by (simp; omega))
            let t10 : Tp pr := .m (show (decide ((ints lo).length = (10 : Nat) ∧ (10 : Nat) ≤ (10 : Nat))) = true by simp [*])
            let t11 : Tp pr := .n .rows (show (List.map (fun x => List.map C.fz x) (List.take (10 : Nat) (List.drop (0 : Nat) (ints lo)))) = List.take (10 : Nat) (List.map intt lo) by simp)
            exact .tp [t0, t1, .b (rfl : false = false), t3, t4, .a (hxe), .m (rfl : true = true), .a (l17All_ev), .m (rfl : true = true), .m (rfl : true = true), t10, t11, .a (hev), .m (rfl : true = true), .m (rfl : true = true), .m (rfl : true = true), .m (rfl : true = true), .m (rfl : true = true), .m (rfl : true = true), .m (rfl : true = true), .b (rfl : false = false), .b (rfl : true = true)] (by kernel_rfl)
    · have hx : p[k]? = none := List.getElem?_eq_none (by omega)
      rw [hx]
      let t0 : Tp pr := .i (show ((↑(List.map Line.ce p).length : Int) : Int) = (↑p.length : Int) by simp)
      let t1 : Tp pr := .b (show (decide ((↑k : Int) < (↑p.length : Int))) = false by (simp; omega))
      exact .tp [t0, t1] (by kernel_rfl)
theorem l17Run_ev (l : List Line) (h2 : l.length ≤ 12) (hs : ∀ x ∈ l, x.expr.length ≤ 1048576 ∧ ∀ y ∈ x.expr, y.text.size ≤ 9223372036854775807) (h3 : ∀ x ∈ l, lineOk x = true) (W junk : List Int) (hW : endsGo l 0 (List.replicate l.length 0) [] [] = some (W, [], junk))
    (lo : List Int) (h10 : lo.length = 10) (hbd : ∀ v ∈ lo, bd v) (n : Nat) (hn : n ≤ 2000) :
    Ev pr (.call 63 [lines l, .t (.seq 1 (lo.map intt)), i64 n] []) (match runP W l n 0 lo with
      | (some r, c) => .val (.tup [.t (.seq 1 (r.map intt)), i64 1]) []
      | (none, c) => .val (.tup [.t (.seq 1 []), i64 c]) []) := by
  have he := l17Ends_ev l (by omega) W junk hW
  have hWl : W.length = l.length := by simpa using endsGo_len _ _ _ _ _ _ _ _ hW
  have hL0 := runPSL_ev l h2 hs h3 W hWl (ends_bd hW) n 0 lo hn (Nat.zero_le _) h10 hbd
  have hL : Ev pr (.loop (lq pr 63 0) (at_ [(0, lines l), (2, i64 n), (8, .t (.seq 1 (W.map intt))), (9, .vec 0 lo.length 1 0 lo.length), (10, i64 0)] [.vec true 1 (List.map ((fun x => List.map C.t x) ∘ intt) lo)] 0)) (outRunS (runP W l n 0 lo)) := by
    rw [h10]
    exact hL0
  clear hL0
  have hr := runP_len W l n 0 lo
  cases hq : runP W l n 0 lo with
  | mk r c =>
    rw [hq] at hL hr
    cases r with
    | none => unfold outRunS at hL; (
      let t1 : Tp pr := .m (show (decide ((0 : Nat) = (0 : Nat) ∧ (0 : Nat) ≤ (0 : Nat) ∧ (0 : Nat) + (List.map (fun x => List.map C.t x) (List.map intt lo)).length ≤ (4294967296 : Nat))) = true by simp [*])
      let t2 : Tp pr := .b (show (decide ((0 : Nat) + (List.map (fun x => List.map C.t x) (List.map intt lo)).length ≤ (0 : Nat))) = false by simp [*])
      let t3 : Tp pr := .c (show ((0 : Nat) + (List.map (fun x => List.map C.t x) (List.map intt lo)).length : Nat) = lo.length by simp)
      let t4 : Tp pr := .n .crows (show ([].append (List.map (fun x => List.map C.t x) (List.map intt lo))) = List.map ((fun x => List.map C.t x) ∘ intt) lo by simp)
      exact .tp [.a (he), t1, t2, t3, t4, .a (hL)] (by kernel_rfl))
    | some r =>
      have hr10 : r.length = 10 := by rw [hr r rfl, h10]
      unfold outRunS at hL
      rw [← hr10] at hL
      let t1 : Tp pr := .m (show (decide ((0 : Nat) = (0 : Nat) ∧ (0 : Nat) ≤ (0 : Nat) ∧ (0 : Nat) + (List.map (fun x => List.map C.t x) (List.map intt lo)).length ≤ (4294967296 : Nat))) = true by simp [*])
      let t2 : Tp pr := .b (show (decide ((0 : Nat) + (List.map (fun x => List.map C.t x) (List.map intt lo)).length ≤ (0 : Nat))) = false by simp [*])
      let t3 : Tp pr := .c (show ((0 : Nat) + (List.map (fun x => List.map C.t x) (List.map intt lo)).length : Nat) = lo.length by simp)
      let t4 : Tp pr := .n .crows (show ([].append (List.map (fun x => List.map C.t x) (List.map intt lo))) = List.map ((fun x => List.map C.t x) ∘ intt) lo by simp)
      let t5 : Tp pr := .a (Ev.castq (congrArg (fun x => Q.loop (lq pr (63 : FuncId) (0 : Nat)) (at_ [((0 : Nat), lines l), ((2 : Nat), i64 (↑n : Int)), ((8 : Nat), V.t (T.seq (1 : Nat) (List.map intt W))), ((9 : Nat), V.vec (0 : Nat) lo.length (1 : Nat) (0 : Nat) lo.length), (x, i64 (0 : Int))] [Ob.vec true (1 : Nat) (List.map ((fun x => List.map C.t x) ∘ intt) lo)] (0 : Nat))) (show (r.length) = ((10 : Nat)) by assumption)) (hL))
      let t6 : Tp pr := .m (show (decide ((ints r).length = r.length ∧ (0 : Nat) + r.length ≤ r.length)) = true by simp)
      let t7 : Tp pr := .n .rows (show (List.map (fun x => List.map C.fz x) (List.take r.length (List.drop (0 : Nat) (ints r)))) = List.map intt r by simp)
      exact .tp [.a (he), t1, t2, t3, t4, t5, t6, t7] (by kernel_rfl)
theorem locPL_ev (lo : List Int) (hl : lo.length ≤ 1048576) : ∀ (rest done : List Int) (i : Int), lo = done ++ rest → i = done.length →
    Ev pr (.loop (lq pr 62 0) (at_ [(0, .t (.seq 1 (lo.map intt))), (5, .t (.seq 1 (lo.map intt))), (6, i64 lo.length), (7, i64 i)] [] 0))
      (bif rest.all bdB then .exit 0 (at_ [(0, .t (.seq 1 (lo.map intt)))] [] 0) else .ret (at_ [(2, bl false)] [] 0))
  | [], done, i, h, hi => by
    have hll : (lo.length : Int) = done.length := by simp [h]
    let t0 : Tp pr := .b (show (decide (i < (↑lo.length : Int))) = false by (simp; omega))
    exact .tp [t0] (by kernel_rfl)
  | x :: rest, done, i, h, hi => by
    have hll : (lo.length : Int) = done.length + 1 + rest.length := by simp [h]; omega
    have hg : lkp (lo.map intt) i = some [T.int .i64 x] := by subst hi; subst h; simp [intt]
    have ih := locPL_ev lo hl rest (done ++ [x]) (i + 1) (by simp [h]) (by simp [hi])
    have hx := l2Bound_ev x
    rw [show (decide (x ≥ -1000000000) && decide (x ≤ 1000000000)) = bdB x from rfl] at hx
    cases hb : bdB x with
    | false =>
      rw [hb] at hx
      simp only [List.all_cons, hb, Bool.false_and]
      let t0 : Tp pr := .b (show (decide (i < (↑lo.length : Int))) = true by (simp; omega))
      let t1 : Tp pr := .g .row (show (lkp (List.map intt lo) i) = some ([T.int IntKind.i64 x]) from hg)
      exact .tp [t0, t1, .a (hx), .b (rfl : true = true)] (by kernel_rfl)
    | true =>
      rw [hb] at hx
      simp only [List.all_cons, hb, Bool.true_and]
      cases hr : rest.all bdB with
      | true => rw [hr] at ih; (
        let t0 : Tp pr := .b (show (decide (i < (↑lo.length : Int))) = true by (simp; omega))
        let t1 : Tp pr := .g .row (show (lkp (List.map intt lo) i) = some ([T.int IntKind.i64 x]) from hg)
        let t4 : Tp pr := .i (wrap_i64 (a := i + (1 : Int)) (by omega) (by omega))
        exact .tp [t0, t1, .a (hx), .b (rfl : false = false), t4, .a (ih)] (by kernel_rfl))
      | false => rw [hr] at ih; (
        let t0 : Tp pr := .b (show (decide (i < (↑lo.length : Int))) = true by (simp; omega))
        let t1 : Tp pr := .g .row (show (lkp (List.map intt lo) i) = some ([T.int IntKind.i64 x]) from hg)
        let t4 : Tp pr := .i (wrap_i64 (a := i + (1 : Int)) (by omega) (by omega))
        exact .tp [t0, t1, .a (hx), .b (rfl : false = false), t4, .a (ih)] (by kernel_rfl))
theorem l17Locals_ev (lo : List Int) (hl : lo.length ≤ 1048576) : Ev pr (.call 62 [.t (.seq 1 (lo.map intt))] []) (.val (bl (localsOk lo)) []) := by
  have h := locPL_ev lo hl lo [] 0 rfl rfl
  unfold localsOk
  cases hr : lo.all bdB with
  | true => rw [hr] at h; (
    let t0 : Tp pr := .i (show ((↑(List.map intt lo).length : Int) : Int) = (↑lo.length : Int) by simp)
    let t2 : Tp pr := .i (show ((↑(List.map intt lo).length : Int) : Int) = (↑lo.length : Int) by simp)
    exact .tpe [t0, .a (h), t2] (Out.val (V.t (T.bool (decide ((↑lo.length : Int) = (10 : Int))))) []) (by kernel_rfl) (congrArg (fun x => Out.val (V.t (T.bool x)) []) (show (decide ((↑lo.length : Int) = (10 : Int))) = (decide (lo.length = (10 : Nat)) && true) by (simp <;> omega))))
  | false => rw [hr] at h; (
    let t0 : Tp pr := .i (show ((↑(List.map intt lo).length : Int) : Int) = (↑lo.length : Int) by simp)
    exact .tpe [t0, .a (h)] (Out.val (V.t (T.bool false)) []) (by kernel_rfl) (congrArg (fun x => Out.val (V.t (T.bool x)) []) (show (false) = (decide (lo.length = (10 : Nat)) && false) by simp)))
end Go.Ev

/- RunProgram, the program's and the reference's. -/
namespace Go.Ev
set_option linter.unusedVariables false
set_option linter.unusedSimpArgs false
open Go.Proofs
set_option maxRecDepth 100000
set_option linter.unusedVariables false
set_option maxHeartbeats 2000000
def runProg (p : List Line) (lo : List Int) (fuel : Int) : Option (Option (List Int) × Int) :=
  if goodProgram p = true ∧ localsOk lo = true ∧ 0 ≤ fuel ∧ fuel ≤ 2000 then match endsGo p 0 (List.replicate p.length 0) [] [] with
    | some (W, _, _) => some (runP W p fuel.toNat 0 lo)
    | none => none else none
theorem localsOk_bd {lo : List Int} (h : localsOk lo = true) : lo.length = 10 ∧ ∀ v ∈ lo, bd v := by
  simp only [localsOk, Bool.and_eq_true, decide_eq_true_eq, List.all_eq_true] at h
  refine ⟨h.1, fun v hv => ?_⟩
  have := h.2 v hv
  simpa [bdB, bd] using this
theorem RunProgramS_ev (l : List Line) (lo : List Int) (fuel : Int) (hl : l.length ≤ 1048576) (hs : ∀ x ∈ l, x.expr.length ≤ 1048576 ∧ ∀ y ∈ x.expr, y.text.size ≤ 9223372036854775807) (hlo : lo.length ≤ 1048576) :
    Ev pr (.call 29 [lines l, .t (.seq 1 (lo.map intt)), i64 fuel] []) (match runProg l lo fuel with
      | some (some r, c) => .val (.tup [.t (.seq 1 (r.map intt)), i64 1, bl true]) []
      | some (none, c) => .val (.tup [.t (.seq 1 []), i64 c, bl true]) []
      | none => .val (.tup [.t (.seq 1 []), i64 0, bl false]) []) := by
  have hg := GoodProgramS_ev l hl hs
  have hk := l17Locals_ev lo hlo
  unfold runProg
  cases hp : goodProgram l with
  | false => rw [hp] at hg; rw [if_neg (by simp)]; exact .tp [.a (hg), .b (rfl : true = true), .b (rfl : true = true), .b (rfl : true = true)] (by kernel_rfl)
  | true =>
    rw [hp] at hg
    cases hq : localsOk lo with
    | false => rw [hq] at hk; rw [if_neg (by simp)]; exact .tp [.a (hg), .b (rfl : false = false), .a (hk), .b (rfl : true = true), .b (rfl : true = true)] (by kernel_rfl)
    | true =>
      rw [hq] at hk
      by_cases hf : 0 ≤ fuel ∧ fuel ≤ 2000
      · rw [if_pos ⟨rfl, rfl, hf⟩]
        obtain ⟨h1, h2, h3, W, junk, hW⟩ := goodProgram_all hp
        obtain ⟨h10, hbd⟩ := localsOk_bd hq
        obtain ⟨n, rfl⟩ : ∃ n : Nat, fuel = n := ⟨fuel.toNat, by omega⟩
        have hr := l17Run_ev l h2 hs h3 W junk hW lo h10 hbd n (by omega)
        rw [hW]
        dsimp only
        rw [Int.toNat_natCast]
        cases hx : runP W l n 0 lo with
        | mk r c =>
          rw [hx] at hr
          cases r with
          | none => (
            let t4 : Tp pr := .a (l1In_ev ((↑n : Int)) ((0 : Int)) ((2000 : Int)))
            let t5 : Tp pr := .b (show (!(true && decide ((↑n : Int) ≤ (2000 : Int)))) = false by (simp; omega))
            exact .tp [.a (hg), .b (rfl : false = false), .a (hk), .b (rfl : false = false), t4, t5, .a (hr)] (by kernel_rfl))
          | some r => (
            let t4 : Tp pr := .a (l1In_ev ((↑n : Int)) ((0 : Int)) ((2000 : Int)))
            let t5 : Tp pr := .b (show (!(true && decide ((↑n : Int) ≤ (2000 : Int)))) = false by (simp; omega))
            exact .tp [.a (hg), .b (rfl : false = false), .a (hk), .b (rfl : false = false), t4, t5, .a (hr)] (by kernel_rfl))
      · rw [if_neg (fun h => hf h.2.2)]
        let t4 : Tp pr := .a (l1In_ev (fuel) ((0 : Int)) ((2000 : Int)))
        let t5 : Tp pr := .b (show (!(decide (fuel ≥ (0 : Int)) && decide (fuel ≤ (2000 : Int)))) = true by (simp; omega))
        exact .tp [.a (hg), .b (rfl : false = false), .a (hk), .b (rfl : false = false), t4, t5] (by kernel_rfl)
theorem RunProgramI_ev (l : List Line) (lo : List Int) (fuel : Int) (hl : l.length ≤ 1048576) (hs : ∀ x ∈ l, x.expr.length ≤ 1048576 ∧ ∀ y ∈ x.expr, y.text.size ≤ 9223372036854775807) (hlo : lo.length ≤ 1048576) :
    Ev pr (.call 31 [lines l, .t (.seq 1 (lo.map intt)), i64 fuel] []) (match runProg l lo fuel with
      | some (some r, c) => .val (.tup [.vec 0 r.length 1 0 r.length, i64 1, bl true]) [.vec true 1 (ints r)]
      | some (none, c) => .val (.tup [.t .nils, i64 c, bl true]) []
      | none => .val (.tup [.t .nils, i64 0, bl false]) []) := by
  have hg := GoodProgramI_ev l hl hs
  have hk := localsOk_ev lo hlo
  unfold runProg
  cases hp : goodProgram l with
  | false => rw [hp] at hg; rw [if_neg (by simp)]; exact .tp [.a (hg), .b (rfl : true = true), .b (rfl : true = true), .b (rfl : true = true)] (by kernel_rfl)
  | true =>
    rw [hp] at hg
    cases hq : localsOk lo with
    | false => rw [hq] at hk; rw [if_neg (by simp)]; exact .tp [.a (hg), .b (rfl : false = false), .a (hk), .b (rfl : true = true), .b (rfl : true = true)] (by kernel_rfl)
    | true =>
      rw [hq] at hk
      by_cases hf : 0 ≤ fuel ∧ fuel ≤ 2000
      · rw [if_pos ⟨rfl, rfl, hf⟩]
        obtain ⟨h1, h2, h3, W, junk, hW⟩ := goodProgram_all hp
        obtain ⟨h10, hbd⟩ := localsOk_bd hq
        obtain ⟨n, rfl⟩ : ∃ n : Nat, fuel = n := ⟨fuel.toNat, by omega⟩
        have he := ends_ev l hl
        rw [hW] at he
        have hc := Clone_ev lo (by omega) (by omega)
        rw [h10] at hc
        have hWl : W.length = l.length := by simpa using endsGo_len _ _ _ _ _ _ _ _ hW
        have hL := runPL_ev l h2 hs h3 W hWl (ends_bd hW) n 0 lo (by omega) (Nat.zero_le _) h10 hbd
        have hr := runP_len W l n 0 lo
        rw [hW]
        dsimp only
        rw [Int.toNat_natCast]
        cases hx : runP W l n 0 lo with
        | mk r c =>
          rw [hx] at hL hr
          cases r with
          | none => unfold outRun at hL; (
            let t4 : Tp pr := .a (within_ev ((↑n : Int)) ((0 : Int)) ((2000 : Int)))
            let t5 : Tp pr := .b (show (!(true && decide ((↑n : Int) ≤ (2000 : Int)))) = false by (simp; omega))
            exact .tp [.a (hg), .b (rfl : false = false), .a (hk), .b (rfl : false = false), t4, t5, .a (he), .a (hc), .a (hL)] (by kernel_rfl))
          | some r =>
            have hr10 : r.length = 10 := by rw [hr r rfl, h10]
            unfold outRun at hL
            dsimp only
            rw [hr10]
            let t4 : Tp pr := .a (within_ev ((↑n : Int)) ((0 : Int)) ((2000 : Int)))
            let t5 : Tp pr := .b (show (!(true && decide ((↑n : Int) ≤ (2000 : Int)))) = false by (simp; omega))
            exact .tp [.a (hg), .b (rfl : false = false), .a (hk), .b (rfl : false = false), t4, t5, .a (he), .a (hc), .a (hL)] (by kernel_rfl)
      · rw [if_neg (fun h => hf h.2.2)]
        let t4 : Tp pr := .a (within_ev (fuel) ((0 : Int)) ((2000 : Int)))
        let t5 : Tp pr := .b (show (!(decide (fuel ≥ (0 : Int)) && decide (fuel ≤ (2000 : Int)))) = true by (simp; omega))
        exact .tp [.a (hg), .b (rfl : false = false), .a (hk), .b (rfl : false = false), t4, t5] (by kernel_rfl)
end Go.Ev

/- Marks. -/
namespace Go.Ev
set_option linter.unusedVariables false
set_option linter.unusedSimpArgs false
open Go.Proofs
set_option maxRecDepth 100000
set_option linter.unusedVariables false
set_option maxHeartbeats 1000000
attribute [local simp] e0
theorem markTextL_ev : ∀ (n : Nat) (k : Int) (o : ByteArray), 0 ≤ k → k < 10 ^ n → o.size + n ≤ 1000 → n ≤ 18 →
    Ev pr (.loop (lq pr 54 0) (at_ [(0, i64 k), (3, .t (.str o))] [] 0)) (.exit 0 (at_ [(3, .t (.str (mtGo n k o)))] [] 0))
  | 0, k, o, h0, h1, h2, h3 => by
    have hk : k = 0 := by simp at h1; omega
    subst hk
    exact .tp [.b (rfl : false = false)] (by kernel_rfl)
  | n + 1, k, o, h0, h1, h2, h3 => by
    have hp : (10 : Int) ^ (n + 1) = 10 * 10 ^ n := by rw [Int.pow_succ]; omega
    have hb : (10 : Int) ^ n ≤ 10 ^ 17 := by
      have : n ≤ 17 := by omega
      exact_mod_cast Nat.pow_le_pow_right (by omega) this
    have hb2 : (10 : Int) ^ 17 = 100000000000000000 := by decide
    have hm0 : 0 ≤ k.tmod 10 := Int.tmod_nonneg _ h0
    have hm1 : k.tmod 10 < 10 := Int.tmod_lt_of_pos _ (by omega)
    have hd : k.tdiv 10 = k / 10 := Int.tdiv_eq_ediv_of_nonneg h0
    have hs : (strOf [48 + k.tmod 10]).size = 1 := by simp [strOf_size]
    by_cases hk : k > 0
    · have ih := markTextL_ev n (k.tdiv 10) (strOf [48 + k.tmod 10] ++ o) (by omega) (by omega) (by rw [ByteArray.size_append]; omega) (by omega)
      have e : mtGo (n + 1) k o = mtGo n (k.tdiv 10) (strOf [48 + k.tmod 10] ++ o) := by simp [mtGo, hk]
      rw [e]
      let t0 : Tp pr := .b (show (decide (k > (0 : Int))) = true by (simp; omega))
      let t3 : Tp pr := .i (wrap_i64 (a := (48 : Int) + k.tmod (10 : Int)) (by omega) (by omega))
      let t4 : Tp pr := .i (wrap_u8 (a := (48 : Int) + k.tmod (10 : Int)) (by omega) (by omega))
      let t6 : Tp pr := .n .rows (show (List.map (fun x => List.map C.fz x) (List.take (1 : Nat) (List.drop (0 : Nat) [[C.t (T.int IntKind.u8 ((48 : Int) + k.tmod (10 : Int)))]]))) = [[(C.t (T.int IntKind.u8 ((48 : Int) + k.tmod (10 : Int)))).fz]] by simp)
      let t7 : Tp pr := .m (show (decide ((1 : Nat) + o.size ≤ (9223372036854775807 : Nat))) = true by (simp; omega))
      let t8 : Tp pr := .n .str (show ((ByteArray.mk (Array.mk [UInt8.ofNat ((48 : Int) + k.tmod (10 : Int)).toNat])).append o) = ByteArray.mk (Array.mk [UInt8.ofNat ((48 : Int) + k.tmod (10 : Int)).toNat]) ++ o by simp)
      let t10 : Tp pr := .i (wrap_i64 (a := k.tdiv (10 : Int)) (by omega) (by omega))
      exact .tp [t0, .m (rfl : true = true), .i (rfl : (k.tmod (10 : Int)) = _), t3, t4, .m (rfl : true = true), t6, t7, t8, .m (rfl : true = true), t10, .a (ih)] (by kernel_rfl)
    · have e : mtGo (n + 1) k o = o := by simp [mtGo, hk]
      rw [e]
      let t0 : Tp pr := .b (show (decide (k > (0 : Int))) = false by (simp; omega))
      exact .tp [t0] (by kernel_rfl)
theorem markText_ev (k : Int) (h0 : 0 ≤ k) (h : k ≤ 10000000000) : Ev pr (.call 54 [i64 k] []) (.val (.t (.str (mText k))) []) := by
  unfold mText
  by_cases hk : k ≤ 0
  · rw [if_pos hk]; (
    let t0 : Tp pr := .b (show (decide (k ≤ (0 : Int))) = true by (simp; omega))
    exact .tp [t0] (by kernel_rfl))
  · rw [if_neg hk]
    have hl := markTextL_ev 18 k ⟨#[]⟩ h0 (by omega) (by decide) (by omega)
    have hz : (mtGo 18 k ⟨#[]⟩).size ≤ 1000 := mtGo_size 18 k ⟨#[]⟩ (by decide)
    let t0 : Tp pr := .b (show (decide (k ≤ (0 : Int))) = false by (simp; omega))
    let t2 : Tp pr := .m (show (decide ((1 : Nat) + (mtGo (18 : Nat) k (ByteArray.mk #[])).size ≤ (9223372036854775807 : Nat))) = true by (simp; omega))
    let t3 : Tp pr := .n .str (show ((ByteArray.mk #[(109 : UInt8)]).append (mtGo (18 : Nat) k (ByteArray.mk #[]))) = ByteArray.mk #[(109 : UInt8)] ++ mtGo (18 : Nat) k (ByteArray.mk #[]) by simp)
    exact .tp [t0, .a (hl), t2, t3] (by kernel_rfl)
theorem markBcL_ev (mt : Int → ByteArray) (hmt : ∀ k, 0 ≤ k → k ≤ 10000000000 → Ev pr (.call 54 [i64 k] []) (.val (.t (.str (mt k))) [])) : ∀ (rest m : List Bc) (k : Int), 0 ≤ k → k + 3 * rest.length ≤ 9000000 → m.length + rest.length ≤ 1048576 →
    Ev pr (.loop (lq pr 21 0) (at_ [(0, .vec 0 (m.length + rest.length) 3 0 (m.length + rest.length)), (1, i64 k), (5, i64 m.length)] [.vec true 3 (bcc (m ++ rest))] 1))
      (.exit 0 (at_ [(1, i64 (k + 3 * rest.length))] [.vec true 3 (bcc (m ++ mark3 mt k rest.length))] 1))
  | [], m, k, h0, h1, h2 => by
    let t0 : Tp pr := .i (show ((↑(m.length + (0 : Nat)) : Int) : Int) = (↑m.length : Int) by omega)
    let t1 : Tp pr := .b (show (decide ((↑m.length : Int) < (↑m.length : Int))) = false by simp)
    exact .tpe [t0, t1] (Out.exit (0 : Nat) (at_ [((1 : Nat), V.t (T.int IntKind.i64 k))] [Ob.vec true (3 : Nat) (bcc (m ++ []))] (1 : Nat))) (by kernel_rfl) ((congrArg (fun x => Out.exit (0 : Nat) (at_ [((1 : Nat), V.t (T.int IntKind.i64 x))] [Ob.vec true (3 : Nat) (bcc (m ++ []))] (1 : Nat))) (show (k) = (k + (0 : Int)) by simp [mark3])).trans (congrArg (fun x => Out.exit (0 : Nat) (at_ [((1 : Nat), V.t (T.int IntKind.i64 (k + (0 : Int))))] [Ob.vec true (3 : Nat) x] (1 : Nat))) (show (bcc (m ++ [])) = (bcc (m ++ mark3 mt k (0 : Nat))) by simp [mark3])))
  | x :: rest, m, k, h0, h1, h2 => by
    simp at h1 h2
    have ht := hmt (k + 1 + 1) (by omega) (by omega)
    have ih := markBcL_ev mt hmt rest (m ++ [⟨k, k + 1, mt (k + 1 + 1)⟩]) (k + 1 + 1 + 1) (by omega) (by omega) (by simp; omega)
    let t0 : Tp pr := .i (show ((↑(m.length + (x :: rest).length) : Int) : Int) = (↑m.length : Int) + ((↑rest.length : Int) + (1 : Int)) by simp)
    let t1 : Tp pr := .b (show (decide ((↑m.length : Int) < (↑m.length : Int) + ((↑rest.length : Int) + (1 : Int)))) = true by (simp; omega))
    let t2 : Tp pr := .m (show (decide ((0 : Int) ≤ (↑m.length : Int) ∧ (↑m.length : Int).toNat < m.length + (x :: rest).length)) = true by simp)
    let t3 : Tp pr := .c (show ((0 : Nat) + (↑m.length : Int).toNat : Nat) = m.length by omega)
    let t4 : Tp pr := .m (show (decide ((bcc (m ++ x :: rest)).length = m.length + (x :: rest).length)) = true by simp)
    let t5 : Tp pr := .g .crow (show ((bcc (m ++ x :: rest))[m.length]?) = some ([C.t (T.int IntKind.i64 x.op), C.t (T.int IntKind.i64 x.n), C.t (T.str x.text)]) by simp)
    let t6 : Tp pr := .m (show (decide ((bcc (m ++ x :: rest)).length = m.length + (x :: rest).length)) = true by simp)
    let t7 : Tp pr := .g .crow (show ((bcc (m ++ x :: rest))[m.length]?) = some ([C.t (T.int IntKind.i64 x.op), C.t (T.int IntKind.i64 x.n), C.t (T.str x.text)]) by simp)
    let t8 : Tp pr := .n .crows (show ((bcc (m ++ x :: rest)).set m.length [C.t (T.int IntKind.i64 k), C.t (T.int IntKind.i64 x.n), C.t (T.str x.text)]) = bcc (m ++ Bc.mk k x.n x.text :: rest) by simp)
    let t9 : Tp pr := .i (wrap_i64 (a := k + (1 : Int)) (by omega) (by omega))
    let t10 : Tp pr := .m (show (decide ((0 : Int) ≤ (↑m.length : Int) ∧ (↑m.length : Int).toNat < m.length + (x :: rest).length)) = true by simp)
    let t11 : Tp pr := .c (show ((0 : Nat) + (↑m.length : Int).toNat : Nat) = m.length by omega)
    let t12 : Tp pr := .m (show (decide ((bcc (m ++ Bc.mk k x.n x.text :: rest)).length = m.length + (x :: rest).length)) = true by simp)
    let t13 : Tp pr := .g .crow (show ((bcc (m ++ Bc.mk k x.n x.text :: rest))[m.length]?) = some ([C.t (T.int IntKind.i64 k), C.t (T.int IntKind.i64 x.n), C.t (T.str x.text)]) by simp)
    let t14 : Tp pr := .n .crows (show ((bcc (m ++ Bc.mk k x.n x.text :: rest)).set m.length [C.t (T.int IntKind.i64 k), C.t (T.int IntKind.i64 (k + (1 : Int))), C.t (T.str x.text)]) = bcc (m ++ Bc.mk k (k + (1 : Int)) x.text :: rest) by simp)
    let t15 : Tp pr := .i (wrap_i64 (a := k + (1 : Int) + (1 : Int)) (by omega) (by omega))
    let t16 : Tp pr := .a (hmt (k + (1 : Int) + (1 : Int)) (by omega) (by omega))
    let t17 : Tp pr := .m (show (decide ((0 : Int) ≤ (↑m.length : Int) ∧ (↑m.length : Int).toNat < m.length + (x :: rest).length)) = true by simp)
    let t18 : Tp pr := .c (show ((0 : Nat) + (↑m.length : Int).toNat : Nat) = m.length by omega)
    let t19 : Tp pr := .m (show (decide ((bcc (m ++ Bc.mk k (k + (1 : Int)) x.text :: rest)).length = m.length + (x :: rest).length)) = true by simp)
    let t20 : Tp pr := .g .crow (show ((bcc (m ++ Bc.mk k (k + (1 : Int)) x.text :: rest))[m.length]?) = some ([C.t (T.int IntKind.i64 k), C.t (T.int IntKind.i64 (k + (1 : Int))), C.t (T.str x.text)]) by simp)
    let t21 : Tp pr := .n .crows (show ((bcc (m ++ Bc.mk k (k + (1 : Int)) x.text :: rest)).set m.length [C.t (T.int IntKind.i64 k), C.t (T.int IntKind.i64 (k + (1 : Int))), C.t (T.str (mt (k + (1 : Int) + (1 : Int))))]) = bcc (m ++ Bc.mk k (k + (1 : Int)) (mt (k + (1 : Int) + (1 : Int))) :: rest) by simp)
    let t22 : Tp pr := .i (wrap_i64 (a := k + (1 : Int) + (1 : Int) + (1 : Int)) (by omega) (by omega))
    let t23 : Tp pr := .i (wrap_i64 (a := (↑m.length : Int) + (1 : Int)) (by omega) (by omega))
    let t24 : Tp pr := .a (Ev.castq (((congrArg (fun x => Q.loop (lq pr (21 : FuncId) (0 : Nat)) (at_ [((0 : Nat), V.vec (0 : Nat) x (3 : Nat) (0 : Nat) x), ((1 : Nat), i64 (k + (1 : Int) + (1 : Int) + (1 : Int))), ((5 : Nat), i64 (↑(m ++ [Bc.mk k (k + (1 : Int)) (mt (k + (1 : Int) + (1 : Int)))]).length : Int))] [Ob.vec true (3 : Nat) (bcc (m ++ [Bc.mk k (k + (1 : Int)) (mt (k + (1 : Int) + (1 : Int)))] ++ rest))] (1 : Nat))) (show ((m ++ [Bc.mk k (k + (1 : Int)) (mt (k + (1 : Int) + (1 : Int)))]).length + rest.length) = (m.length + (x :: rest).length) by (simp [mark3] <;> omega))).trans (congrArg (fun x_1 => Q.loop (lq pr (21 : FuncId) (0 : Nat)) (at_ [((0 : Nat), V.vec (0 : Nat) (m.length + (x :: rest).length) (3 : Nat) (0 : Nat) (m.length + (x :: rest).length)), ((1 : Nat), i64 (k + (1 : Int) + (1 : Int) + (1 : Int))), ((5 : Nat), i64 x_1)] [Ob.vec true (3 : Nat) (bcc (m ++ [Bc.mk k (k + (1 : Int)) (mt (k + (1 : Int) + (1 : Int)))] ++ rest))] (1 : Nat))) (show ((↑(m ++ [Bc.mk k (k + (1 : Int)) (mt (k + (1 : Int) + (1 : Int)))]).length : Int)) = ((↑m.length : Int) + (1 : Int)) by (simp [mark3] <;> omega)))).trans (congrArg (fun x_1 => Q.loop (lq pr (21 : FuncId) (0 : Nat)) (at_ [((0 : Nat), V.vec (0 : Nat) (m.length + (x :: rest).length) (3 : Nat) (0 : Nat) (m.length + (x :: rest).length)), ((1 : Nat), i64 (k + (1 : Int) + (1 : Int) + (1 : Int))), ((5 : Nat), i64 ((↑m.length : Int) + (1 : Int)))] [Ob.vec true (3 : Nat) x_1] (1 : Nat))) (show (bcc (m ++ [Bc.mk k (k + (1 : Int)) (mt (k + (1 : Int) + (1 : Int)))] ++ rest)) = (bcc (m ++ Bc.mk k (k + (1 : Int)) (mt (k + (1 : Int) + (1 : Int))) :: rest)) by (simp [mark3] <;> omega)))) (ih))
    exact .tpe [t0, t1, t2, t3, t4, t5, t6, t7, t8, t9, t10, t11, t12, t13, t14, t15, t16, t17, t18, t19, t20, t21, t22, t23, t24] (Out.exit (0 : Nat) (at_ [((1 : Nat), V.t (T.int IntKind.i64 (k + (1 : Int) + (1 : Int) + (1 : Int) + (3 : Int) * (↑rest.length : Int))))] [Ob.vec true (3 : Nat) (bcc (m ++ [Bc.mk k (k + (1 : Int)) (mt (k + (1 : Int) + (1 : Int)))] ++ mark3 mt (k + (1 : Int) + (1 : Int) + (1 : Int)) rest.length))] (1 : Nat))) (by kernel_rfl) ((congrArg (fun x => Out.exit (0 : Nat) (at_ [((1 : Nat), V.t (T.int IntKind.i64 x))] [Ob.vec true (3 : Nat) (bcc (m ++ [Bc.mk k (k + (1 : Int)) (mt (k + (1 : Int) + (1 : Int)))] ++ mark3 mt (k + (1 : Int) + (1 : Int) + (1 : Int)) rest.length))] (1 : Nat))) (show (k + (1 : Int) + (1 : Int) + (1 : Int) + (3 : Int) * (↑rest.length : Int)) = (k + (3 : Int) * (↑(x :: rest).length : Int)) by (simp [mark3] <;> omega))).trans (congrArg (fun x_1 => Out.exit (0 : Nat) (at_ [((1 : Nat), V.t (T.int IntKind.i64 (k + (3 : Int) * (↑(x :: rest).length : Int))))] [Ob.vec true (3 : Nat) x_1] (1 : Nat))) (show (bcc (m ++ [Bc.mk k (k + (1 : Int)) (mt (k + (1 : Int) + (1 : Int)))] ++ mark3 mt (k + (1 : Int) + (1 : Int) + (1 : Int)) rest.length)) = (bcc (m ++ mark3 mt k (x :: rest).length)) by (simp [mark3] <;> omega))))
theorem markBcS_ev (mt : Int → ByteArray) (hmt : ∀ k, 0 ≤ k → k ≤ 10000000000 → Ev pr (.call 54 [i64 k] []) (.val (.t (.str (mt k))) [])) (l : List Bc) (k : Int) (h0 : 0 ≤ k) (h : k + 3 * l.length ≤ 9000000) (h2 : l.length ≤ 1048576) : Ev pr (.call 21 [.vec 0 l.length 3 0 l.length, i64 k] [.vec true 3 (bcc l)]) (.val (i64 (k + 3 * l.length)) [.vec true 3 (bcc (mark3 mt k l.length))]) := by
  have := markBcL_ev mt hmt l [] k h0 h (by simpa using h2)
  let t0 : Tp pr := .a (Ev.castq (congrArg (fun x => Q.loop (lq pr (21 : FuncId) (0 : Nat)) (at_ [((0 : Nat), V.vec (0 : Nat) x (3 : Nat) (0 : Nat) x), ((1 : Nat), i64 k), ((5 : Nat), i64 (↑(0 : Nat) : Int))] [Ob.vec true (3 : Nat) (bcc ([] ++ l))] (1 : Nat))) (show ((0 : Nat) + l.length) = (l.length) by simp)) (this))
  exact .tp [t0] (by kernel_rfl)
theorem markExL_ev (mt : Int → ByteArray) (hmt : ∀ k, 0 ≤ k → k ≤ 10000000000 → Ev pr (.call 54 [i64 k] []) (.val (.t (.str (mt k))) [])) : ∀ (rest m : List Bc) (k : Int), 0 ≤ k → k + 3 * rest.length ≤ 9000000 → m.length + rest.length ≤ 1048576 →
    Ev pr (.loop (lq pr 20 0) (at_ [(0, .vec 0 (m.length + rest.length) 3 0 (m.length + rest.length)), (1, i64 k), (5, i64 m.length)] [.vec true 3 (bcc (m ++ rest))] 1))
      (.exit 0 (at_ [(1, i64 (k + 3 * rest.length))] [.vec true 3 (bcc (m ++ mark3 mt k rest.length))] 1))
  | [], m, k, h0, h1, h2 => by
    let t0 : Tp pr := .i (show ((↑(m.length + (0 : Nat)) : Int) : Int) = (↑m.length : Int) by omega)
    let t1 : Tp pr := .b (show (decide ((↑m.length : Int) < (↑m.length : Int))) = false by simp)
    exact .tpe [t0, t1] (Out.exit (0 : Nat) (at_ [((1 : Nat), V.t (T.int IntKind.i64 k))] [Ob.vec true (3 : Nat) (bcc (m ++ []))] (1 : Nat))) (by kernel_rfl) ((congrArg (fun x => Out.exit (0 : Nat) (at_ [((1 : Nat), V.t (T.int IntKind.i64 x))] [Ob.vec true (3 : Nat) (bcc (m ++ []))] (1 : Nat))) (show (k) = (k + (0 : Int)) by simp [mark3])).trans (congrArg (fun x => Out.exit (0 : Nat) (at_ [((1 : Nat), V.t (T.int IntKind.i64 (k + (0 : Int))))] [Ob.vec true (3 : Nat) x] (1 : Nat))) (show (bcc (m ++ [])) = (bcc (m ++ mark3 mt k (0 : Nat))) by simp [mark3])))
  | x :: rest, m, k, h0, h1, h2 => by
    simp at h1 h2
    have ht := hmt (k + 1 + 1) (by omega) (by omega)
    have ih := markExL_ev mt hmt rest (m ++ [⟨k, k + 1, mt (k + 1 + 1)⟩]) (k + 1 + 1 + 1) (by omega) (by omega) (by simp; omega)
    let t0 : Tp pr := .i (show ((↑(m.length + (x :: rest).length) : Int) : Int) = (↑m.length : Int) + ((↑rest.length : Int) + (1 : Int)) by simp)
    let t1 : Tp pr := .b (show (decide ((↑m.length : Int) < (↑m.length : Int) + ((↑rest.length : Int) + (1 : Int)))) = true by (simp; omega))
    let t2 : Tp pr := .m (show (decide ((0 : Int) ≤ (↑m.length : Int) ∧ (↑m.length : Int).toNat < m.length + (x :: rest).length)) = true by simp)
    let t3 : Tp pr := .c (show ((0 : Nat) + (↑m.length : Int).toNat : Nat) = m.length by omega)
    let t4 : Tp pr := .m (show (decide ((bcc (m ++ x :: rest)).length = m.length + (x :: rest).length)) = true by simp)
    let t5 : Tp pr := .g .crow (show ((bcc (m ++ x :: rest))[m.length]?) = some ([C.t (T.int IntKind.i64 x.op), C.t (T.int IntKind.i64 x.n), C.t (T.str x.text)]) by simp)
    let t6 : Tp pr := .m (show (decide ((bcc (m ++ x :: rest)).length = m.length + (x :: rest).length)) = true by simp)
    let t7 : Tp pr := .g .crow (show ((bcc (m ++ x :: rest))[m.length]?) = some ([C.t (T.int IntKind.i64 x.op), C.t (T.int IntKind.i64 x.n), C.t (T.str x.text)]) by simp)
    let t8 : Tp pr := .n .crows (show ((bcc (m ++ x :: rest)).set m.length [C.t (T.int IntKind.i64 k), C.t (T.int IntKind.i64 x.n), C.t (T.str x.text)]) = bcc (m ++ Bc.mk k x.n x.text :: rest) by simp)
    let t9 : Tp pr := .i (wrap_i64 (a := k + (1 : Int)) (by omega) (by omega))
    let t10 : Tp pr := .m (show (decide ((0 : Int) ≤ (↑m.length : Int) ∧ (↑m.length : Int).toNat < m.length + (x :: rest).length)) = true by simp)
    let t11 : Tp pr := .c (show ((0 : Nat) + (↑m.length : Int).toNat : Nat) = m.length by omega)
    let t12 : Tp pr := .m (show (decide ((bcc (m ++ Bc.mk k x.n x.text :: rest)).length = m.length + (x :: rest).length)) = true by simp)
    let t13 : Tp pr := .g .crow (show ((bcc (m ++ Bc.mk k x.n x.text :: rest))[m.length]?) = some ([C.t (T.int IntKind.i64 k), C.t (T.int IntKind.i64 x.n), C.t (T.str x.text)]) by simp)
    let t14 : Tp pr := .n .crows (show ((bcc (m ++ Bc.mk k x.n x.text :: rest)).set m.length [C.t (T.int IntKind.i64 k), C.t (T.int IntKind.i64 (k + (1 : Int))), C.t (T.str x.text)]) = bcc (m ++ Bc.mk k (k + (1 : Int)) x.text :: rest) by simp)
    let t15 : Tp pr := .i (wrap_i64 (a := k + (1 : Int) + (1 : Int)) (by omega) (by omega))
    let t16 : Tp pr := .a (hmt (k + (1 : Int) + (1 : Int)) (by omega) (by omega))
    let t17 : Tp pr := .m (show (decide ((0 : Int) ≤ (↑m.length : Int) ∧ (↑m.length : Int).toNat < m.length + (x :: rest).length)) = true by simp)
    let t18 : Tp pr := .c (show ((0 : Nat) + (↑m.length : Int).toNat : Nat) = m.length by omega)
    let t19 : Tp pr := .m (show (decide ((bcc (m ++ Bc.mk k (k + (1 : Int)) x.text :: rest)).length = m.length + (x :: rest).length)) = true by simp)
    let t20 : Tp pr := .g .crow (show ((bcc (m ++ Bc.mk k (k + (1 : Int)) x.text :: rest))[m.length]?) = some ([C.t (T.int IntKind.i64 k), C.t (T.int IntKind.i64 (k + (1 : Int))), C.t (T.str x.text)]) by simp)
    let t21 : Tp pr := .n .crows (show ((bcc (m ++ Bc.mk k (k + (1 : Int)) x.text :: rest)).set m.length [C.t (T.int IntKind.i64 k), C.t (T.int IntKind.i64 (k + (1 : Int))), C.t (T.str (mt (k + (1 : Int) + (1 : Int))))]) = bcc (m ++ Bc.mk k (k + (1 : Int)) (mt (k + (1 : Int) + (1 : Int))) :: rest) by simp)
    let t22 : Tp pr := .i (wrap_i64 (a := k + (1 : Int) + (1 : Int) + (1 : Int)) (by omega) (by omega))
    let t23 : Tp pr := .i (wrap_i64 (a := (↑m.length : Int) + (1 : Int)) (by omega) (by omega))
    let t24 : Tp pr := .a (Ev.castq (((congrArg (fun x => Q.loop (lq pr (20 : FuncId) (0 : Nat)) (at_ [((0 : Nat), V.vec (0 : Nat) x (3 : Nat) (0 : Nat) x), ((1 : Nat), i64 (k + (1 : Int) + (1 : Int) + (1 : Int))), ((5 : Nat), i64 (↑(m ++ [Bc.mk k (k + (1 : Int)) (mt (k + (1 : Int) + (1 : Int)))]).length : Int))] [Ob.vec true (3 : Nat) (bcc (m ++ [Bc.mk k (k + (1 : Int)) (mt (k + (1 : Int) + (1 : Int)))] ++ rest))] (1 : Nat))) (show ((m ++ [Bc.mk k (k + (1 : Int)) (mt (k + (1 : Int) + (1 : Int)))]).length + rest.length) = (m.length + (x :: rest).length) by (simp [mark3] <;> omega))).trans (congrArg (fun x_1 => Q.loop (lq pr (20 : FuncId) (0 : Nat)) (at_ [((0 : Nat), V.vec (0 : Nat) (m.length + (x :: rest).length) (3 : Nat) (0 : Nat) (m.length + (x :: rest).length)), ((1 : Nat), i64 (k + (1 : Int) + (1 : Int) + (1 : Int))), ((5 : Nat), i64 x_1)] [Ob.vec true (3 : Nat) (bcc (m ++ [Bc.mk k (k + (1 : Int)) (mt (k + (1 : Int) + (1 : Int)))] ++ rest))] (1 : Nat))) (show ((↑(m ++ [Bc.mk k (k + (1 : Int)) (mt (k + (1 : Int) + (1 : Int)))]).length : Int)) = ((↑m.length : Int) + (1 : Int)) by (simp [mark3] <;> omega)))).trans (congrArg (fun x_1 => Q.loop (lq pr (20 : FuncId) (0 : Nat)) (at_ [((0 : Nat), V.vec (0 : Nat) (m.length + (x :: rest).length) (3 : Nat) (0 : Nat) (m.length + (x :: rest).length)), ((1 : Nat), i64 (k + (1 : Int) + (1 : Int) + (1 : Int))), ((5 : Nat), i64 ((↑m.length : Int) + (1 : Int)))] [Ob.vec true (3 : Nat) x_1] (1 : Nat))) (show (bcc (m ++ [Bc.mk k (k + (1 : Int)) (mt (k + (1 : Int) + (1 : Int)))] ++ rest)) = (bcc (m ++ Bc.mk k (k + (1 : Int)) (mt (k + (1 : Int) + (1 : Int))) :: rest)) by (simp [mark3] <;> omega)))) (ih))
    exact .tpe [t0, t1, t2, t3, t4, t5, t6, t7, t8, t9, t10, t11, t12, t13, t14, t15, t16, t17, t18, t19, t20, t21, t22, t23, t24] (Out.exit (0 : Nat) (at_ [((1 : Nat), V.t (T.int IntKind.i64 (k + (1 : Int) + (1 : Int) + (1 : Int) + (3 : Int) * (↑rest.length : Int))))] [Ob.vec true (3 : Nat) (bcc (m ++ [Bc.mk k (k + (1 : Int)) (mt (k + (1 : Int) + (1 : Int)))] ++ mark3 mt (k + (1 : Int) + (1 : Int) + (1 : Int)) rest.length))] (1 : Nat))) (by kernel_rfl) ((congrArg (fun x => Out.exit (0 : Nat) (at_ [((1 : Nat), V.t (T.int IntKind.i64 x))] [Ob.vec true (3 : Nat) (bcc (m ++ [Bc.mk k (k + (1 : Int)) (mt (k + (1 : Int) + (1 : Int)))] ++ mark3 mt (k + (1 : Int) + (1 : Int) + (1 : Int)) rest.length))] (1 : Nat))) (show (k + (1 : Int) + (1 : Int) + (1 : Int) + (3 : Int) * (↑rest.length : Int)) = (k + (3 : Int) * (↑(x :: rest).length : Int)) by (simp [mark3] <;> omega))).trans (congrArg (fun x_1 => Out.exit (0 : Nat) (at_ [((1 : Nat), V.t (T.int IntKind.i64 (k + (3 : Int) * (↑(x :: rest).length : Int))))] [Ob.vec true (3 : Nat) x_1] (1 : Nat))) (show (bcc (m ++ [Bc.mk k (k + (1 : Int)) (mt (k + (1 : Int) + (1 : Int)))] ++ mark3 mt (k + (1 : Int) + (1 : Int) + (1 : Int)) rest.length)) = (bcc (m ++ mark3 mt k (x :: rest).length)) by (simp [mark3] <;> omega))))
theorem markExS_ev (mt : Int → ByteArray) (hmt : ∀ k, 0 ≤ k → k ≤ 10000000000 → Ev pr (.call 54 [i64 k] []) (.val (.t (.str (mt k))) [])) (l : List Bc) (k : Int) (h0 : 0 ≤ k) (h : k + 3 * l.length ≤ 9000000) (h2 : l.length ≤ 1048576) : Ev pr (.call 20 [.vec 0 l.length 3 0 l.length, i64 k] [.vec true 3 (bcc l)]) (.val (i64 (k + 3 * l.length)) [.vec true 3 (bcc (mark3 mt k l.length))]) := by
  have := markExL_ev mt hmt l [] k h0 h (by simpa using h2)
  let t0 : Tp pr := .a (Ev.castq (congrArg (fun x => Q.loop (lq pr (20 : FuncId) (0 : Nat)) (at_ [((0 : Nat), V.vec (0 : Nat) x (3 : Nat) (0 : Nat) x), ((1 : Nat), i64 k), ((5 : Nat), i64 (↑(0 : Nat) : Int))] [Ob.vec true (3 : Nat) (bcc ([] ++ l))] (1 : Nat))) (show ((0 : Nat) + l.length) = (l.length) by simp)) (this))
  exact .tp [t0] (by kernel_rfl)
theorem heldBcL_ev (mt : Int → ByteArray) (hmt : ∀ k, 0 ≤ k → k ≤ 10000000000 → Ev pr (.call 54 [i64 k] []) (.val (.t (.str (mt k))) [])) : ∀ (n : Nat) (m : List Bc) (k : Int), 0 ≤ k → k + 3 * n ≤ 9000000 → m.length + n ≤ 1048576 →
    Ev pr (.loop (lq pr 22 0) (at_ [(0, bcs (m ++ mark3 mt k n)), (1, i64 k), (5, i64 m.length)] [] 0)) (.exit 0 (at_ [(1, i64 (k + 3 * n))] [] 0))
  | 0, m, k, h0, h1, h2 => by
    let t0 : Tp pr := .i (show ((↑(List.map Bc.ce (m ++ mark3 mt k (0 : Nat))).length : Int) : Int) = (↑m.length : Int) + (↑(mark3 mt k (0 : Nat)).length : Int) by simp)
    let t1 : Tp pr := .b (show (decide ((↑m.length : Int) < (↑m.length : Int) + (0 : Int))) = false by simp)
    exact .tpe [t0, t1] (Out.exit (0 : Nat) (at_ [((1 : Nat), V.t (T.int IntKind.i64 k))] [] (0 : Nat))) (by kernel_rfl) (congrArg (fun x => Out.exit (0 : Nat) (at_ [((1 : Nat), V.t (T.int IntKind.i64 x))] [] (0 : Nat))) (show (k) = (k + (0 : Int)) by simp [mark3]))
  | n + 1, m, k, h0, h1, h2 => by
    have ht := hmt (k + 1 + 1) (by omega) (by omega)
    have ih := heldBcL_ev mt hmt n (m ++ [⟨k, k + 1, mt (k + 1 + 1)⟩]) (k + 1 + 1 + 1) (by omega) (by omega) (by simp; omega)
    have hm := mark3_len mt (k + 1 + 1 + 1) n
    rw [show mark3 mt k (n + 1) = ⟨k, k + 1, mt (k + 1 + 1)⟩ :: mark3 mt (k + 1 + 1 + 1) n from rfl]
    let t0 : Tp pr := .i (show ((↑(List.map Bc.ce (m ++ Bc.mk k (k + (1 : Int)) (mt (k + (1 : Int) + (1 : Int))) :: mark3 mt (k + (1 : Int) + (1 : Int) + (1 : Int)) n)).length : Int) : Int) = (↑m.length : Int) + ((↑(mark3 mt (k + (1 : Int) + (1 : Int) + (1 : Int)) n).length : Int) + (1 : Int)) by simp)
    let t1 : Tp pr := .b (show (decide ((↑m.length : Int) < (↑m.length : Int) + ((↑(mark3 mt (k + (1 : Int) + (1 : Int) + (1 : Int)) n).length : Int) + (1 : Int)))) = true by (simp; omega))
    let t2 : Tp pr := .g .row (show (lkp (List.map Bc.ce (m ++ Bc.mk k (k + (1 : Int)) (mt (k + (1 : Int) + (1 : Int))) :: mark3 mt (k + (1 : Int) + (1 : Int) + (1 : Int)) n)) (↑m.length : Int)) = some ((Bc.mk k (k + (1 : Int)) (mt (k + (1 : Int) + (1 : Int)))).ce) by simp)
    let t4 : Tp pr := .i (wrap_i64 (a := k + (1 : Int)) (by omega) (by omega))
    let t5 : Tp pr := .g .row (show (lkp (List.map Bc.ce (m ++ Bc.mk k (k + (1 : Int)) (mt (k + (1 : Int) + (1 : Int))) :: mark3 mt (k + (1 : Int) + (1 : Int) + (1 : Int)) n)) (↑m.length : Int)) = some ((Bc.mk k (k + (1 : Int)) (mt (k + (1 : Int) + (1 : Int)))).ce) by simp)
    let t6 : Tp pr := .b (show (k + (1 : Int) != k + (1 : Int)) = false by simp)
    let t7 : Tp pr := .i (wrap_i64 (a := k + (1 : Int) + (1 : Int)) (by omega) (by omega))
    let t10 : Tp pr := .g .row (show (lkp (List.map Bc.ce (m ++ Bc.mk k (k + (1 : Int)) (mt (k + (1 : Int) + (1 : Int))) :: mark3 mt (k + (1 : Int) + (1 : Int) + (1 : Int)) n)) (↑m.length : Int)) = some ((Bc.mk k (k + (1 : Int)) (mt (k + (1 : Int) + (1 : Int)))).ce) by simp)
    let t15 : Tp pr := .a (hmt (k + (1 : Int) + (1 : Int)) (by omega) (by omega))
    let t18 : Tp pr := .b (show (!(mt (k + (1 : Int) + (1 : Int))).toList == (mt (k + (1 : Int) + (1 : Int))).toList) = false by simp)
    let t19 : Tp pr := .i (wrap_i64 (a := k + (1 : Int) + (1 : Int) + (1 : Int)) (by omega) (by omega))
    let t20 : Tp pr := .i (wrap_i64 (a := (↑m.length : Int) + (1 : Int)) (by omega) (by omega))
    let t21 : Tp pr := .a (Ev.castq ((congrArg (fun x => Q.loop (lq pr (22 : FuncId) (0 : Nat)) (at_ [((0 : Nat), V.t (T.seq (3 : Nat) x)), ((1 : Nat), V.t (T.int IntKind.i64 (k + (1 : Int) + (1 : Int) + (1 : Int)))), ((5 : Nat), V.t (T.int IntKind.i64 (↑(m ++ [Bc.mk k (k + (1 : Int)) (mt (k + (1 : Int) + (1 : Int)))]).length : Int)))] [] (0 : Nat))) (show (List.map Bc.ce (m ++ [Bc.mk k (k + (1 : Int)) (mt (k + (1 : Int) + (1 : Int)))] ++ mark3 mt (k + (1 : Int) + (1 : Int) + (1 : Int)) n)) = (List.map Bc.ce (m ++ Bc.mk k (k + (1 : Int)) (mt (k + (1 : Int) + (1 : Int))) :: mark3 mt (k + (1 : Int) + (1 : Int) + (1 : Int)) n)) by (simp <;> omega))).trans (congrArg (fun x => Q.loop (lq pr (22 : FuncId) (0 : Nat)) (at_ [((0 : Nat), V.t (T.seq (3 : Nat) (List.map Bc.ce (m ++ Bc.mk k (k + (1 : Int)) (mt (k + (1 : Int) + (1 : Int))) :: mark3 mt (k + (1 : Int) + (1 : Int) + (1 : Int)) n)))), ((1 : Nat), V.t (T.int IntKind.i64 (k + (1 : Int) + (1 : Int) + (1 : Int)))), ((5 : Nat), V.t (T.int IntKind.i64 x))] [] (0 : Nat))) (show ((↑(m ++ [Bc.mk k (k + (1 : Int)) (mt (k + (1 : Int) + (1 : Int)))]).length : Int)) = ((↑m.length : Int) + (1 : Int)) by (simp <;> omega)))) (ih))
    exact .tpe [t0, t1, t2, .b (show (k != k) = false by simp), t4, t5, t6, t7, .m (rfl : true = true), .m (rfl : true = true), t10, .m (rfl : true = true), .m (rfl : true = true), .m (rfl : true = true), .m (rfl : true = true), t15, .m (rfl : true = true), .m (rfl : true = true), t18, t19, t20, t21] (Out.exit (0 : Nat) (at_ [((1 : Nat), V.t (T.int IntKind.i64 (k + (1 : Int) + (1 : Int) + (1 : Int) + (3 : Int) * (↑n : Int))))] [] (0 : Nat))) (by kernel_rfl) (congrArg (fun x => Out.exit (0 : Nat) (at_ [((1 : Nat), V.t (T.int IntKind.i64 x))] [] (0 : Nat))) (show (k + (1 : Int) + (1 : Int) + (1 : Int) + (3 : Int) * (↑n : Int)) = (k + (3 : Int) * (↑(n + (1 : Nat)) : Int)) by (simp <;> omega)))
theorem heldBcS_ev (mt : Int → ByteArray) (hmt : ∀ k, 0 ≤ k → k ≤ 10000000000 → Ev pr (.call 54 [i64 k] []) (.val (.t (.str (mt k))) [])) (n : Nat) (k : Int) (h0 : 0 ≤ k) (h : k + 3 * n ≤ 9000000) (h2 : n ≤ 1048576) : Ev pr (.call 22 [bcs (mark3 mt k n), i64 k] []) (.val (i64 (k + 3 * n)) []) := by
  have := heldBcL_ev mt hmt n [] k h0 h (by simpa using h2)
  exact .tp [.a (this)] (by kernel_rfl)
theorem eqBc_ev (x : Bc) : Ev pr (.call 52 [vs x.ce, vs x.ce] []) (.val (bl true) []) := by
  let t0 : Tp pr := .b (show (x.op != x.op) = false by simp)
  let t2 : Tp pr := .b (show (!x.text.toList == x.text.toList) = false by simp)
  exact .tp [t0, .b (show (x.n != x.n) = false by simp), t2] (by kernel_rfl)
theorem eqBcL_ev : ∀ (rest m : List Bc), m.length + rest.length ≤ 1048576 → Ev pr (.loop (lq pr 18 0) (at_ [(0, bcs (m ++ rest)), (1, bcs (m ++ rest)), (5, i64 m.length)] [] 0)) (.exit 0 (at_ [] [] 0))
  | [], m, h => by
    let t0 : Tp pr := .i (show ((↑(List.map Bc.ce (m ++ [])).length : Int) : Int) = (↑m.length : Int) by simp)
    let t1 : Tp pr := .b (show (decide ((↑m.length : Int) < (↑m.length : Int))) = false by simp)
    exact .tp [t0, t1] (by kernel_rfl)
  | x :: rest, m, h => by
    simp at h
    have ih := eqBcL_ev rest (m ++ [x]) (by simp; omega)
    have hx := eqBc_ev x
    let t0 : Tp pr := .i (show ((↑(List.map Bc.ce (m ++ x :: rest)).length : Int) : Int) = (↑m.length : Int) + ((↑rest.length : Int) + (1 : Int)) by simp)
    let t1 : Tp pr := .b (show (decide ((↑m.length : Int) < (↑m.length : Int) + ((↑rest.length : Int) + (1 : Int)))) = true by (simp; omega))
    let t4 : Tp pr := .g .row (show (lkp (List.map Bc.ce (m ++ x :: rest)) (↑m.length : Int)) = some (x.ce) by simp)
    let t9 : Tp pr := .g .row (show (lkp (List.map Bc.ce (m ++ x :: rest)) (↑m.length : Int)) = some (x.ce) by simp)
    let t16 : Tp pr := .i (wrap_i64 (a := (↑m.length : Int) + (1 : Int)) (by omega) (by omega))
    let t17 : Tp pr := .a (Ev.castq ((congrArg (fun x_1 => Q.loop (lq pr (18 : FuncId) (0 : Nat)) (at_ [((0 : Nat), V.t (T.seq (3 : Nat) x_1)), ((1 : Nat), V.t (T.seq (3 : Nat) x_1)), ((5 : Nat), V.t (T.int IntKind.i64 (↑(m ++ [x]).length : Int)))] [] (0 : Nat))) (show (List.map Bc.ce (m ++ [x] ++ rest)) = (List.map Bc.ce (m ++ x :: rest)) by simp)).trans (congrArg (fun x_1 => Q.loop (lq pr (18 : FuncId) (0 : Nat)) (at_ [((0 : Nat), V.t (T.seq (3 : Nat) (List.map Bc.ce (m ++ x :: rest)))), ((1 : Nat), V.t (T.seq (3 : Nat) (List.map Bc.ce (m ++ x :: rest)))), ((5 : Nat), V.t (T.int IntKind.i64 x_1))] [] (0 : Nat))) (show ((↑(m ++ [x]).length : Int)) = ((↑m.length : Int) + (1 : Int)) by simp))) (ih))
    exact .tp [t0, t1, .m (rfl : true = true), .m (rfl : true = true), t4, .m (rfl : true = true), .m (rfl : true = true), .m (rfl : true = true), .m (rfl : true = true), t9, .m (rfl : true = true), .m (rfl : true = true), .a (hx), .m (rfl : true = true), .m (rfl : true = true), .b (rfl : false = false), t16, t17] (by kernel_rfl)
theorem eqBcS_ev (l : List Bc) (h : l.length ≤ 1048576) : Ev pr (.call 18 [bcs l, bcs l] []) (.val (bl true) []) := by
  have := eqBcL_ev l [] (by simpa using h)
  let t0 : Tp pr := .i (show ((↑(List.map Bc.ce l).length : Int) : Int) = (↑l.length : Int) by simp)
  let t1 : Tp pr := .i (show ((↑(List.map Bc.ce l).length : Int) : Int) = (↑l.length : Int) by simp)
  let t2 : Tp pr := .b (show ((↑l.length : Int) != (↑l.length : Int)) = false by simp)
  exact .tp [t0, t1, t2, .a (this)] (by kernel_rfl)
theorem eqBcNL_ev : Ev pr (.loop (lq pr 18 0) (at_ [(0, .t .nils), (1, .t (.seq 3 [])), (5, i64 0)] [] 0)) (.exit 0 (at_ [] [] 0)) := by
  let t0 : Tp pr := .i (rfl : ((0 : Int) : Int) = (0 : Int))
  exact .tp [t0, .b (rfl : false = false)] (by kernel_rfl)
theorem eqBcN_ev : Ev pr (.call 18 [.t .nils, .t (.seq 3 [])] []) (.val (bl true) []) := by
  let t0 : Tp pr := .i (rfl : ((0 : Int) : Int) = (0 : Int))
  let t1 : Tp pr := .i (rfl : ((0 : Int) : Int) = (0 : Int))
  exact .tp [t0, t1, .b (rfl : false = false), .a (eqBcNL_ev)] (by kernel_rfl)
theorem toEx2_ev (x : Ex) : Ev pr (.call 49 [vs x.ce] []) (.val (vs x.ce) []) := by
  exact .tp [] (by kernel_rfl)
theorem toExL2_ev : ∀ (rest m : List Ex), m.length + rest.length ≤ 1048576 → Ev pr (.loop (lq pr 16 0) (at_ [(0, exs (m ++ rest)), (3, .vec 0 (m.length + rest.length) 3 0 (m.length + rest.length)), (4, i64 m.length)] [.vec true 3 (bcc (exb m ++ List.replicate rest.length ⟨0, 0, e0⟩))] 0))
    (.exit 0 (at_ [(3, .vec 0 (m.length + rest.length) 3 0 (m.length + rest.length))] [.vec true 3 (bcc (exb (m ++ rest)))] 0))
  | [], m, h => by
    let t0 : Tp pr := .i (show ((↑(List.map Ex.ce (m ++ [])).length : Int) : Int) = (↑m.length : Int) by simp)
    let t1 : Tp pr := .b (show (decide ((↑m.length : Int) < (↑m.length : Int))) = false by simp)
    exact .tpe [t0, t1] (Out.exit (0 : Nat) (at_ [((3 : Nat), V.vec (0 : Nat) (m.length + (0 : Nat)) (3 : Nat) (0 : Nat) (m.length + (0 : Nat)))] [Ob.vec true (3 : Nat) (bcc (exb m ++ List.replicate (0 : Nat) (Bc.mk (0 : Int) (0 : Int) e0)))] (0 : Nat))) (by kernel_rfl) (congrArg (fun x => Out.exit (0 : Nat) (at_ [((3 : Nat), V.vec (0 : Nat) (m.length + (0 : Nat)) (3 : Nat) (0 : Nat) (m.length + (0 : Nat)))] [Ob.vec true (3 : Nat) x] (0 : Nat))) (show (bcc (exb m ++ List.replicate (0 : Nat) (Bc.mk (0 : Int) (0 : Int) e0))) = (bcc (exb (m ++ []))) by simp))
  | x :: rest, m, h => by
    simp at h
    have ih := toExL2_ev rest (m ++ [x]) (by simp; omega)
    have hx := toEx2_ev x
    rw [show List.replicate (x :: rest).length (⟨0, 0, e0⟩ : Bc) = ⟨0, 0, e0⟩ :: List.replicate rest.length ⟨0, 0, e0⟩ from rfl]
    have hg : (bcc (exb m ++ ⟨0, 0, e0⟩ :: List.replicate rest.length ⟨0, 0, e0⟩))[m.length]? = some [C.t (.int .i64 0), C.t (.int .i64 0), C.t (.str ⟨#[]⟩)] := by simpa using bcc_get_mid (exb m) ⟨0, 0, e0⟩ (List.replicate rest.length ⟨0, 0, e0⟩)
    let t0 : Tp pr := .i (show ((↑(List.map Ex.ce (m ++ x :: rest)).length : Int) : Int) = (↑m.length : Int) + ((↑rest.length : Int) + (1 : Int)) by simp)
    let t1 : Tp pr := .b (show (decide ((↑m.length : Int) < (↑m.length : Int) + ((↑rest.length : Int) + (1 : Int)))) = true by (simp; omega))
    let t2 : Tp pr := .g .row (show (lkp (List.map Ex.ce (m ++ x :: rest)) (↑m.length : Int)) = some (x.ce) by simp)
    let t4 : Tp pr := .m (show (decide ((0 : Int) ≤ (↑m.length : Int) ∧ (↑m.length : Int).toNat < m.length + (x :: rest).length)) = true by simp)
    let t5 : Tp pr := .c (show ((0 : Nat) + (↑m.length : Int).toNat : Nat) = m.length by omega)
    let t6 : Tp pr := .m (show (decide ((bcc (exb m ++ Bc.mk (0 : Int) (0 : Int) e0 :: List.replicate rest.length (Bc.mk (0 : Int) (0 : Int) e0))).length = m.length + (x :: rest).length)) = true by simp)
    let t7 : Tp pr := .g .crow (show ((bcc (exb m ++ Bc.mk (0 : Int) (0 : Int) e0 :: List.replicate rest.length (Bc.mk (0 : Int) (0 : Int) e0)))[m.length]?) = some ([C.t (T.int IntKind.i64 (0 : Int)), C.t (T.int IntKind.i64 (0 : Int)), C.t (T.str (ByteArray.mk #[]))]) from hg)
    let t8 : Tp pr := .n .crows (show ((bcc (exb m ++ Bc.mk (0 : Int) (0 : Int) e0 :: List.replicate rest.length (Bc.mk (0 : Int) (0 : Int) e0))).set m.length [C.t (T.int IntKind.i64 x.kind), C.t (T.int IntKind.i64 x.num), C.t (T.str x.text)]) = bcc (exb m ++ Bc.mk x.kind x.num x.text :: List.replicate rest.length (Bc.mk (0 : Int) (0 : Int) (ByteArray.mk #[]))) by simp)
    let t9 : Tp pr := .i (wrap_i64 (a := (↑m.length : Int) + (1 : Int)) (by omega) (by omega))
    let t10 : Tp pr := .a (Ev.castq ((((congrArg (fun x_1 => Q.loop (lq pr (16 : FuncId) (0 : Nat)) (at_ [((0 : Nat), V.t (T.seq (3 : Nat) x_1)), ((3 : Nat), V.vec (0 : Nat) ((m ++ [x]).length + rest.length) (3 : Nat) (0 : Nat) ((m ++ [x]).length + rest.length)), ((4 : Nat), V.t (T.int IntKind.i64 (↑(m ++ [x]).length : Int)))] [Ob.vec true (3 : Nat) (bcc (exb (m ++ [x]) ++ List.replicate rest.length (Bc.mk (0 : Int) (0 : Int) e0)))] (0 : Nat))) (show (List.map Ex.ce (m ++ [x] ++ rest)) = (List.map Ex.ce (m ++ x :: rest)) by (simp [exb] <;> omega))).trans (congrArg (fun x_1 => Q.loop (lq pr (16 : FuncId) (0 : Nat)) (at_ [((0 : Nat), V.t (T.seq (3 : Nat) (List.map Ex.ce (m ++ x :: rest)))), ((3 : Nat), V.vec (0 : Nat) x_1 (3 : Nat) (0 : Nat) x_1), ((4 : Nat), V.t (T.int IntKind.i64 (↑(m ++ [x]).length : Int)))] [Ob.vec true (3 : Nat) (bcc (exb (m ++ [x]) ++ List.replicate rest.length (Bc.mk (0 : Int) (0 : Int) e0)))] (0 : Nat))) (show ((m ++ [x]).length + rest.length) = (m.length + (x :: rest).length) by (simp [exb] <;> omega)))).trans (congrArg (fun x_1 => Q.loop (lq pr (16 : FuncId) (0 : Nat)) (at_ [((0 : Nat), V.t (T.seq (3 : Nat) (List.map Ex.ce (m ++ x :: rest)))), ((3 : Nat), V.vec (0 : Nat) (m.length + (x :: rest).length) (3 : Nat) (0 : Nat) (m.length + (x :: rest).length)), ((4 : Nat), V.t (T.int IntKind.i64 x_1))] [Ob.vec true (3 : Nat) (bcc (exb (m ++ [x]) ++ List.replicate rest.length (Bc.mk (0 : Int) (0 : Int) e0)))] (0 : Nat))) (show ((↑(m ++ [x]).length : Int)) = ((↑m.length : Int) + (1 : Int)) by (simp [exb] <;> omega)))).trans (congrArg (fun x_1 => Q.loop (lq pr (16 : FuncId) (0 : Nat)) (at_ [((0 : Nat), V.t (T.seq (3 : Nat) (List.map Ex.ce (m ++ x :: rest)))), ((3 : Nat), V.vec (0 : Nat) (m.length + (x :: rest).length) (3 : Nat) (0 : Nat) (m.length + (x :: rest).length)), ((4 : Nat), V.t (T.int IntKind.i64 ((↑m.length : Int) + (1 : Int))))] [Ob.vec true (3 : Nat) x_1] (0 : Nat))) (show (bcc (exb (m ++ [x]) ++ List.replicate rest.length (Bc.mk (0 : Int) (0 : Int) e0))) = (bcc (exb m ++ Bc.mk x.kind x.num x.text :: List.replicate rest.length (Bc.mk (0 : Int) (0 : Int) (ByteArray.mk #[])))) by (simp [exb] <;> omega)))) (ih))
    exact .tpe [t0, t1, t2, .a (hx), t4, t5, t6, t7, t8, t9, t10] (Out.exit (0 : Nat) (at_ [((3 : Nat), V.vec (0 : Nat) ((m ++ [x]).length + rest.length) (3 : Nat) (0 : Nat) ((m ++ [x]).length + rest.length))] [Ob.vec true (3 : Nat) (bcc (exb (m ++ [x] ++ rest)))] (0 : Nat))) (by kernel_rfl) (((congrArg (fun x_1 => Out.exit (0 : Nat) (at_ [((3 : Nat), V.vec (0 : Nat) x_1 (3 : Nat) (0 : Nat) ((m ++ [x]).length + rest.length))] [Ob.vec true (3 : Nat) (bcc (exb (m ++ [x] ++ rest)))] (0 : Nat))) (show ((m ++ [x]).length + rest.length) = (m.length + (x :: rest).length) by (simp [exb] <;> omega))).trans (congrArg (fun x_1 => Out.exit (0 : Nat) (at_ [((3 : Nat), V.vec (0 : Nat) (m.length + (x :: rest).length) (3 : Nat) (0 : Nat) x_1)] [Ob.vec true (3 : Nat) (bcc (exb (m ++ [x] ++ rest)))] (0 : Nat))) (show ((m ++ [x]).length + rest.length) = (m.length + (x :: rest).length) by (simp [exb] <;> omega)))).trans (congrArg (fun x_1 => Out.exit (0 : Nat) (at_ [((3 : Nat), V.vec (0 : Nat) (m.length + (x :: rest).length) (3 : Nat) (0 : Nat) (m.length + (x :: rest).length))] [Ob.vec true (3 : Nat) x_1] (0 : Nat))) (show (bcc (exb (m ++ [x] ++ rest))) = (bcc (exb (m ++ x :: rest))) by (simp [exb] <;> omega))))
theorem toExS2_ev (l : List Ex) (hl : l.length ≤ 1048576) : Ev pr (.call 16 [exs l] []) (.val (.vec 0 l.length 3 0 l.length) [.vec true 3 (bcc (exb l))]) := by
  have := toExL2_ev l [] (by simpa using hl)
  let t0 : Tp pr := .i (show ((↑(List.map Ex.ce l).length : Int) : Int) = (↑l.length : Int) by simp)
  let t1 : Tp pr := .m (show (decide ((0 : Int) ≤ (↑l.length : Int) ∧ (↑l.length : Int) ≤ (↑l.length : Int) ∧ (↑l.length : Int) ≤ (4294967296 : Int))) = true by (simp; omega))
  let t2 : Tp pr := .c (show ((↑l.length : Int).toNat : Nat) = l.length by omega)
  let t3 : Tp pr := .n .crows (rfl : (List.replicate l.length [C.t (T.int IntKind.i64 (0 : Int)), C.t (T.int IntKind.i64 (0 : Int)), C.t (T.str (ByteArray.mk #[]))]) = _)
  let t4 : Tp pr := .a (Ev.castq ((congrArg (fun x => Q.loop (lq pr (16 : FuncId) (0 : Nat)) (at_ [((0 : Nat), exs ([] ++ l)), ((3 : Nat), V.vec (0 : Nat) x (3 : Nat) (0 : Nat) x), ((4 : Nat), i64 (↑(0 : Nat) : Int))] [Ob.vec true (3 : Nat) (bcc (exb [] ++ List.replicate l.length (Bc.mk (0 : Int) (0 : Int) e0)))] (0 : Nat))) (show ((0 : Nat) + l.length) = (l.length) by simp [exb, bcc, Bc.cc])).trans (congrArg (fun x => Q.loop (lq pr (16 : FuncId) (0 : Nat)) (at_ [((0 : Nat), exs ([] ++ l)), ((3 : Nat), V.vec (0 : Nat) l.length (3 : Nat) (0 : Nat) l.length), ((4 : Nat), i64 (↑(0 : Nat) : Int))] [Ob.vec true (3 : Nat) x] (0 : Nat))) (show (bcc (exb [] ++ List.replicate l.length (Bc.mk (0 : Int) (0 : Int) e0))) = (List.replicate l.length [C.t (T.int IntKind.i64 (0 : Int)), C.t (T.int IntKind.i64 (0 : Int)), C.t (T.str (ByteArray.mk #[]))]) by simp [exb, bcc, Bc.cc]))) (this))
  exact .tpe [t0, t1, t2, t3, t4] (Out.val (V.vec (0 : Nat) ((0 : Nat) + l.length) (3 : Nat) (0 : Nat) ((0 : Nat) + l.length)) [Ob.vec true (3 : Nat) (bcc (exb ([] ++ l)))]) (by kernel_rfl) (((congrArg (fun x => Out.val (V.vec (0 : Nat) x (3 : Nat) (0 : Nat) ((0 : Nat) + l.length)) [Ob.vec true (3 : Nat) (bcc (exb ([] ++ l)))]) (show ((0 : Nat) + l.length) = (l.length) by simp [exb, bcc, Bc.cc])).trans (congrArg (fun x => Out.val (V.vec (0 : Nat) l.length (3 : Nat) (0 : Nat) x) [Ob.vec true (3 : Nat) (bcc (exb ([] ++ l)))]) (show ((0 : Nat) + l.length) = (l.length) by simp [exb, bcc, Bc.cc]))).trans (congrArg (fun x => Out.val (V.vec (0 : Nat) l.length (3 : Nat) (0 : Nat) l.length) [Ob.vec true (3 : Nat) x]) (show (bcc (exb ([] ++ l))) = (bcc (exb l)) by simp [exb, bcc, Bc.cc])))
theorem eqEx2_ev (x : Ex) : Ev pr (.call 53 [vs x.ce, vs x.ce] []) (.val (bl true) []) := by
  let t0 : Tp pr := .b (show (x.kind != x.kind) = false by simp)
  let t1 : Tp pr := .b (show (x.num != x.num) = false by simp)
  let t2 : Tp pr := .b (show (!x.text.toList == x.text.toList) = false by simp)
  exact .tp [t0, t1, t2] (by kernel_rfl)
theorem eqExL2_ev : ∀ (rest m : List Ex), m.length + rest.length ≤ 1048576 → Ev pr (.loop (lq pr 19 0) (at_ [(0, exs (m ++ rest)), (1, exs (m ++ rest)), (5, i64 m.length)] [] 0)) (.exit 0 (at_ [] [] 0))
  | [], m, h => by
    let t0 : Tp pr := .i (show ((↑(List.map Ex.ce (m ++ [])).length : Int) : Int) = (↑m.length : Int) by simp)
    let t1 : Tp pr := .b (show (decide ((↑m.length : Int) < (↑m.length : Int))) = false by simp)
    exact .tp [t0, t1] (by kernel_rfl)
  | x :: rest, m, h => by
    simp at h
    have ih := eqExL2_ev rest (m ++ [x]) (by simp; omega)
    have hx := eqEx2_ev x
    let t0 : Tp pr := .i (show ((↑(List.map Ex.ce (m ++ x :: rest)).length : Int) : Int) = (↑m.length : Int) + ((↑rest.length : Int) + (1 : Int)) by simp)
    let t1 : Tp pr := .b (show (decide ((↑m.length : Int) < (↑m.length : Int) + ((↑rest.length : Int) + (1 : Int)))) = true by (simp; omega))
    let t4 : Tp pr := .g .row (show (lkp (List.map Ex.ce (m ++ x :: rest)) (↑m.length : Int)) = some (x.ce) by simp)
    let t9 : Tp pr := .g .row (show (lkp (List.map Ex.ce (m ++ x :: rest)) (↑m.length : Int)) = some (x.ce) by simp)
    let t16 : Tp pr := .i (wrap_i64 (a := (↑m.length : Int) + (1 : Int)) (by omega) (by omega))
    let t17 : Tp pr := .a (Ev.castq ((congrArg (fun x_1 => Q.loop (lq pr (19 : FuncId) (0 : Nat)) (at_ [((0 : Nat), V.t (T.seq (3 : Nat) x_1)), ((1 : Nat), V.t (T.seq (3 : Nat) x_1)), ((5 : Nat), V.t (T.int IntKind.i64 (↑(m ++ [x]).length : Int)))] [] (0 : Nat))) (show (List.map Ex.ce (m ++ [x] ++ rest)) = (List.map Ex.ce (m ++ x :: rest)) by simp)).trans (congrArg (fun x_1 => Q.loop (lq pr (19 : FuncId) (0 : Nat)) (at_ [((0 : Nat), V.t (T.seq (3 : Nat) (List.map Ex.ce (m ++ x :: rest)))), ((1 : Nat), V.t (T.seq (3 : Nat) (List.map Ex.ce (m ++ x :: rest)))), ((5 : Nat), V.t (T.int IntKind.i64 x_1))] [] (0 : Nat))) (show ((↑(m ++ [x]).length : Int)) = ((↑m.length : Int) + (1 : Int)) by simp))) (ih))
    exact .tp [t0, t1, .m (rfl : true = true), .m (rfl : true = true), t4, .m (rfl : true = true), .m (rfl : true = true), .m (rfl : true = true), .m (rfl : true = true), t9, .m (rfl : true = true), .m (rfl : true = true), .a (hx), .m (rfl : true = true), .m (rfl : true = true), .b (rfl : false = false), t16, t17] (by kernel_rfl)
theorem eqExS2_ev (l : List Ex) (h : l.length ≤ 1048576) : Ev pr (.call 19 [exs l, exs l] []) (.val (bl true) []) := by
  have := eqExL2_ev l [] (by simpa using h)
  let t0 : Tp pr := .i (show ((↑(List.map Ex.ce l).length : Int) : Int) = (↑l.length : Int) by simp)
  let t1 : Tp pr := .i (show ((↑(List.map Ex.ce l).length : Int) : Int) = (↑l.length : Int) by simp)
  let t2 : Tp pr := .b (show ((↑l.length : Int) != (↑l.length : Int)) = false by simp)
  exact .tp [t0, t1, t2, .a (this)] (by kernel_rfl)
end Go.Ev

/- Sizes of expressions. -/
namespace Go.Ev
set_option linter.unusedVariables false
set_option linter.unusedSimpArgs false
open Go.Proofs
set_option maxRecDepth 100000
set_option linter.unusedVariables false
set_option maxHeartbeats 1000000
/-! Sizes. -/
def szEx (x : Ex) (n : Int) : Int := if n - x.text.size < 0 then -1 else n - x.text.size
theorem szEx_ev (x : Ex) (n : Int) (h0 : 0 ≤ n) (h1 : n ≤ 1048576) (hs : x.text.size ≤ 9223372036854775807) : Ev pr (.call 47 [vs x.ce, i64 n] []) (.val (i64 (szEx x n)) []) := by
  have hw := wrap_i64 (a := n - x.text.size) (by omega) (by omega)
  unfold szEx
  by_cases h : n - x.text.size < 0
  · rw [if_pos h]; exact .tp [.l x.text.size, .i hw, .b (decide_eq_true h)] (by kernel_rfl)
  · rw [if_neg h]; exact .tp [.l x.text.size, .i hw, .b (decide_eq_false h)] (by kernel_rfl)
def szExL : List Ex → Int → Option Int
  | [], n => some n
  | x :: r, n => if szEx x n < 0 then none else szExL r (szEx x n)
theorem szEx_le (x : Ex) (n : Int) (h0 : ¬ szEx x n < 0) : 0 ≤ szEx x n ∧ szEx x n ≤ n := by
  unfold szEx at *
  split at h0 <;> split <;> omega
theorem szExL_ev (l : List Ex) (hl : l.length ≤ 9223372036854775807) (hs : ∀ x ∈ l, x.text.size ≤ 9223372036854775807) : ∀ (rest done : List Ex) (n : Int), l = done ++ rest → 0 ≤ n → n ≤ 1048576 →
    Ev pr (.loop (lq pr 14 0) (at_ [(0, exs l), (1, i64 n), (5, i64 done.length)] [] 0)) (match szExL rest n with
      | some m => .exit 0 (at_ [(1, i64 m)] [] 0)
      | none => .ret (at_ [(4, i64 (-1))] [] 0))
  | [], done, n, he, h0, h1 => by
    have h : ¬ (done.length : Int) < l.length := by subst he; simp
    exact .tp [.ll Ex.ce l, .b (decide_eq_false h)] (by kernel_rfl)
  | x :: rest, done, n, he, h0, h1 => by
    have h : (done.length : Int) < l.length := by subst he; simp; omega
    have hx : x.text.size ≤ 9223372036854775807 := hs x (by subst he; simp)
    have hw := wrap_i64 (a := done.length + 1) (by omega) (by omega)
    unfold szExL
    by_cases h2 : szEx x n < 0
    · rw [if_pos h2]
      exact .tp [.ll Ex.ce l, .b (decide_eq_true h), .e (lkp_at Ex.ce he), .a (szEx_ev x n h0 h1 hx), .b (decide_eq_true h2)] (by kernel_rfl)
    · rw [if_neg h2]
      have hle := szEx_le x n h2
      have ih := szExL_ev l hl hs rest (done ++ [x]) (szEx x n) (by simp [he]) hle.1 (by omega)
      rw [show ((done ++ [x]).length : Int) = done.length + 1 by simp] at ih
      exact .tp [.ll Ex.ce l, .b (decide_eq_true h), .e (lkp_at Ex.ce he), .a (szEx_ev x n h0 h1 hx), .b (decide_eq_false h2), .i hw, .a ih] (by kernel_rfl)
def szExS (l : List Ex) (n : Int) : Int := if n - l.length < 0 then -1 else (szExL l (n - l.length)).getD (-1)
theorem szExS_ev (l : List Ex) (n : Int) (h0 : 0 ≤ n) (h1 : n ≤ 1048576) (hl : l.length ≤ 9223372036854775807) (hs : ∀ x ∈ l, x.text.size ≤ 9223372036854775807) : Ev pr (.call 14 [exs l, i64 n] []) (.val (i64 (szExS l n)) []) := by
  have hw := wrap_i64 (a := n - l.length) (by omega) (by omega)
  unfold szExS
  by_cases h : n - l.length < 0
  · rw [if_pos h]; exact .tp [.ll Ex.ce l, .i hw, .b (decide_eq_true h)] (by kernel_rfl)
  · rw [if_neg h]
    have hL := szExL_ev l hl hs l [] (n - l.length) rfl (by omega) (by omega)
    cases hr : szExL l (n - l.length) with
    | none => rw [hr] at hL; exact .tp [.ll Ex.ce l, .i hw, .b (decide_eq_false h), .a hL] (by kernel_rfl)
    | some m => rw [hr] at hL; exact .tp [.ll Ex.ce l, .i hw, .b (decide_eq_false h), .a hL] (by kernel_rfl)
theorem szExL_le : ∀ (l : List Ex) (n m : Int), 0 ≤ n → szExL l n = some m → 0 ≤ m ∧ m ≤ n
  | [], n, m, h0, h => by obtain rfl := Option.some.inj h; exact ⟨h0, Int.le_refl _⟩
  | x :: l, n, m, h0, h => by
    unfold szExL at h
    split at h
    · cases h
    · rename_i h2
      have h3 := szEx_le x n h2
      have := szExL_le l _ m h3.1 h
      omega
theorem szExS_le (l : List Ex) (n : Int) (h0 : ¬ szExS l n < 0) : 0 ≤ szExS l n ∧ szExS l n ≤ n - l.length := by
  unfold szExS at *
  split at h0
  · omega
  · rename_i h
    rw [if_neg h]
    cases hr : szExL l (n - l.length) with
    | none => rw [hr] at h0; simp at h0
    | some m => have := szExL_le l _ m (by omega) hr; simpa using this
theorem markBcNL_ev (k : Int) : Ev pr (.loop (lq pr 21 0) (at_ [(0, .t .nils), (1, i64 k), (5, i64 0)] [] 0)) (.exit 0 (at_ [(1, i64 k)] [] 0)) := by
  let t0 : Tp pr := .i (rfl : ((0 : Int) : Int) = (0 : Int))
  exact .tp [t0, .b (rfl : false = false)] (by kernel_rfl)
theorem markBcN_ev (k : Int) : Ev pr (.call 21 [.t .nils, i64 k] []) (.val (i64 k) []) := by
  have := markBcNL_ev k
  exact .tp [.a (this)] (by kernel_rfl)
theorem heldBcNL_ev (k : Int) : Ev pr (.loop (lq pr 22 0) (at_ [(0, .t .nils), (1, i64 k), (5, i64 0)] [] 0)) (.exit 0 (at_ [(1, i64 k)] [] 0)) := by
  let t0 : Tp pr := .i (rfl : ((0 : Int) : Int) = (0 : Int))
  exact .tp [t0, .b (rfl : false = false)] (by kernel_rfl)
theorem heldBcN_ev (k : Int) : Ev pr (.call 22 [.t .nils, i64 k] []) (.val (i64 k) []) := by
  have := heldBcNL_ev k
  exact .tp [.a (this)] (by kernel_rfl)
end Go.Ev

/- Sizes of lines. -/
namespace Go.Ev
set_option linter.unusedVariables false
set_option linter.unusedSimpArgs false
open Go.Proofs
set_option maxRecDepth 100000
set_option linter.unusedVariables false
set_option maxHeartbeats 1000000
theorem szLine_ev (x : Line) (n : Int) (h0 : 0 ≤ n) (h1 : n ≤ 1048576) (hl : x.expr.length ≤ 9223372036854775807) (hs : ∀ y ∈ x.expr, y.text.size ≤ 9223372036854775807) : Ev pr (.call 37 [vs x.ce, i64 n] []) (.val (i64 (if szExS x.expr n < 0 then -1 else szExS x.expr n)) []) := by
  have hE := szExS_ev x.expr n h0 h1 hl hs
  by_cases h : szExS x.expr n < 0
  · rw [if_pos h]; exact .tp [.a hE, .b (decide_eq_true h)] (by kernel_rfl)
  · rw [if_neg h]; exact .tp [.a hE, .b (decide_eq_false h)] (by kernel_rfl)
def szLine (x : Line) (n : Int) : Int := if szExS x.expr n < 0 then -1 else szExS x.expr n
def szLineL : List Line → Int → Option Int
  | [], n => some n
  | x :: r, n => if szLine x n < 0 then none else szLineL r (szLine x n)
theorem szLine_le (x : Line) (n : Int) (h0 : ¬ szLine x n < 0) : 0 ≤ szLine x n ∧ szLine x n ≤ n - x.expr.length := by
  unfold szLine at *
  split at h0
  · omega
  · rename_i h; rw [if_neg h]; exact szExS_le _ _ h
structure Line.ok (x : Line) : Prop where
  len : x.expr.length ≤ 9223372036854775807
  text : ∀ y ∈ x.expr, y.text.size ≤ 9223372036854775807
theorem szLineL_ev (l : List Line) (hl : l.length ≤ 9223372036854775807) (hs : ∀ x ∈ l, x.ok) : ∀ (rest done : List Line) (n : Int), l = done ++ rest → 0 ≤ n → n ≤ 1048576 →
    Ev pr (.loop (lq pr 9 0) (at_ [(0, lines l), (1, i64 n), (5, i64 done.length)] [] 0)) (match szLineL rest n with
      | some m => .exit 0 (at_ [(1, i64 m)] [] 0)
      | none => .ret (at_ [(4, i64 (-1))] [] 0))
  | [], done, n, he, h0, h1 => by
    have h : ¬ (done.length : Int) < l.length := by subst he; simp
    exact .tp [.ll Line.ce l, .b (decide_eq_false h)] (by kernel_rfl)
  | x :: rest, done, n, he, h0, h1 => by
    have h : (done.length : Int) < l.length := by subst he; simp; omega
    have hx : x.ok := hs x (by subst he; simp)
    have hw := wrap_i64 (a := done.length + 1) (by omega) (by omega)
    have hE : Ev pr (.call 37 [vs x.ce, i64 n] []) (.val (i64 (szLine x n)) []) := szLine_ev x n h0 h1 hx.len hx.text
    unfold szLineL
    by_cases h2 : szLine x n < 0
    · rw [if_pos h2]
      exact .tp [.ll Line.ce l, .b (decide_eq_true h), .e (lkp_at Line.ce he), .a hE, .b (decide_eq_true h2)] (by kernel_rfl)
    · rw [if_neg h2]
      have hle := szLine_le x n h2
      have ih := szLineL_ev l hl hs rest (done ++ [x]) (szLine x n) (by simp [he]) hle.1 (by omega)
      rw [show ((done ++ [x]).length : Int) = done.length + 1 by simp] at ih
      exact .tp [.ll Line.ce l, .b (decide_eq_true h), .e (lkp_at Line.ce he), .a hE, .b (decide_eq_false h2), .i hw, .a ih] (by kernel_rfl)
def szLineS (l : List Line) (n : Int) : Int := if n - l.length < 0 then -1 else (szLineL l (n - l.length)).getD (-1)
theorem szLineS_ev (l : List Line) (n : Int) (h0 : 0 ≤ n) (h1 : n ≤ 1048576) (hl : l.length ≤ 9223372036854775807) (hs : ∀ x ∈ l, x.ok) : Ev pr (.call 9 [lines l, i64 n] []) (.val (i64 (szLineS l n)) []) := by
  have hw := wrap_i64 (a := n - l.length) (by omega) (by omega)
  unfold szLineS
  by_cases h : n - l.length < 0
  · rw [if_pos h]; exact .tp [.ll Line.ce l, .i hw, .b (decide_eq_true h)] (by kernel_rfl)
  · rw [if_neg h]
    have hL := szLineL_ev l hl hs l [] (n - l.length) rfl (by omega) (by omega)
    cases hr : szLineL l (n - l.length) with
    | none => rw [hr] at hL; exact .tp [.ll Line.ce l, .i hw, .b (decide_eq_false h), .a hL] (by kernel_rfl)
    | some m => rw [hr] at hL; exact .tp [.ll Line.ce l, .i hw, .b (decide_eq_false h), .a hL] (by kernel_rfl)
theorem szLineL_sum : ∀ (l : List Line) (n m : Int), szLineL l n = some m → 0 ≤ n → 0 ≤ m ∧ 3 * m + marksN (lnb l) ≤ 3 * n + 2 * l.length
  | [], n, m, h, h0 => by obtain rfl := Option.some.inj h; simp [lnb, marksN]; omega
  | y :: l, n, m, h, h0 => by
    unfold szLineL at h
    split at h
    · cases h
    · rename_i h2
      have h3 := szLine_le y n h2
      have h4 := szLineL_sum l _ m h h3.1
      have e : marksN (lnb (y :: l)) = 2 + 3 * y.expr.length + marksN (lnb l) := by simp [lnb, marksN]
      rw [e]
      simp only [List.length_cons]
      omega
theorem szLineL_all : ∀ (l : List Line) (n m : Int), 0 ≤ n → n ≤ 1048576 → szLineL l n = some m → ∀ x ∈ l, x.expr.length ≤ 1048576
  | [], n, m, h0, h1, h, x, hx => by cases hx
  | y :: l, n, m, h0, h1, h, x, hx => by
    unfold szLineL at h
    split at h
    · cases h
    · rename_i h2
      have h3 := szLine_le y n h2
      rcases List.mem_cons.1 hx with rfl | hx
      · omega
      · exact szLineL_all l _ m h3.1 (by omega) h x hx
theorem szLineS_all (l : List Line) (h : ¬ szLineS l 1048576 < 0) : l.length ≤ 1048576 ∧ (∀ x ∈ l, x.expr.length ≤ 1048576) ∧ marksN (lnb l) ≤ 3145728 := by
  unfold szLineS at h
  split at h
  · omega
  · rename_i h1
    cases hr : szLineL l (1048576 - l.length) with
    | none => rw [hr] at h; simp at h
    | some m =>
      have h2 := szLineL_sum l _ m hr (by omega)
      exact ⟨by omega, szLineL_all l _ m (by omega) (by omega) hr, by omega⟩
def Ex.wf (x : Ex) : Prop := (Lit.int .i64 x.kind).wf = true ∧ (Lit.int .i64 x.num).wf = true ∧ x.text.size ≤ 9223372036854775807
def Line.wf (x : Line) : Prop := (Lit.int .i64 x.kind).wf = true ∧ (Lit.int .i64 x.name).wf = true ∧ x.expr.length ≤ 9223372036854775807 ∧ ∀ y ∈ x.expr, y.wf
theorem Line.wf.ok {x : Line} (h : x.wf) : x.ok := ⟨h.2.2.1, fun y hy => (h.2.2.2 y hy).2.2⟩
end Go.Ev

/- Lines with rows of their own. -/
namespace Go.Ev
set_option linter.unusedVariables false
set_option linter.unusedSimpArgs false
open Go.Proofs
set_option maxRecDepth 100000
set_option linter.unusedVariables false
set_option maxHeartbeats 2000000
attribute [local simp] e0
theorem toLine_ev (x : Line) (hl : x.expr.length ≤ 1048576) : Ev pr (.call 40 [vs x.ce] []) (.val (.agg [i64 x.kind, i64 x.name, .vec 0 x.expr.length 3 0 x.expr.length]) [.vec true 3 (bcc (exb x.expr))]) := by
  have h := toExS2_ev x.expr hl
  exact .tp [.a (h)] (by kernel_rfl)
theorem toLineL_ev (l : List Line) (hl : l.length ≤ 1048576) (hs : ∀ x ∈ l, x.expr.length ≤ 1048576) : ∀ (rest m : List Line) (fl : Bool), l = m ++ rest →
    Ev pr (.loop (lq pr 11 0) (at_ [(0, lines l), (3, .vec 0 l.length 3 0 l.length), (4, i64 m.length)] [.vec fl 3 ((lnb m).map Ln.cc ++ List.replicate rest.length lnz)] 0))
      (.exit 0 (at_ [(3, .vec 0 l.length 3 0 l.length)] [.vec (fl && rest.isEmpty) 3 ((lnb l).map Ln.cc)] 0))
  | [], m, fl, he => by
    have hll : (l.length : Int) = m.length := by simp [he]
    have he2 : l = m := by simpa using he
    subst he2
    let t0 : Tp pr := .i (show ((↑(List.map Line.ce l).length : Int) : Int) = (↑l.length : Int) by simp)
    let t1 : Tp pr := .b (show (decide ((↑l.length : Int) < (↑l.length : Int))) = false by simp)
    exact .tpe [t0, t1] (Out.exit (0 : Nat) (at_ [((3 : Nat), V.vec (0 : Nat) l.length (3 : Nat) (0 : Nat) l.length)] [Ob.vec fl (3 : Nat) ((List.map Ln.cc (lnb l)).append [])] (0 : Nat))) (by kernel_rfl) ((congrArg (fun x => Out.exit (0 : Nat) (at_ [((3 : Nat), V.vec (0 : Nat) l.length (3 : Nat) (0 : Nat) l.length)] [Ob.vec x (3 : Nat) ((List.map Ln.cc (lnb l)).append [])] (0 : Nat))) (show (fl) = (fl && true) by simp)).trans (congrArg (fun x => Out.exit (0 : Nat) (at_ [((3 : Nat), V.vec (0 : Nat) l.length (3 : Nat) (0 : Nat) l.length)] [Ob.vec (fl && true) (3 : Nat) x] (0 : Nat))) (show ((List.map Ln.cc (lnb l)).append []) = (List.map Ln.cc (lnb l)) by simp)))
  | x :: rest, m, fl, he => by
    have hll : (l.length : Int) = m.length + 1 + rest.length := by simp [he]; omega
    have hll2 : l.length = m.length + 1 + rest.length := by omega
    have hg : lkp (l.map Line.ce) (m.length : Int) = some x.ce := by subst he; simp
    have ht := toLine_ev x (hs x (by simp [he]))
    have ih := toLineL_ev l hl hs rest (m ++ [x]) false (by simp [he])
    rw [show (lnb (m ++ [x])).map Ln.cc ++ List.replicate rest.length lnz = (lnb m).map Ln.cc ++ [C.t (.int .i64 x.kind), C.t (.int .i64 x.name), C.row 3 (x.expr.map Ex.ce)] :: List.replicate rest.length lnz by simp [lnb, Ln.cc]] at ih
    rw [show List.replicate (x :: rest).length lnz = [C.t (.int .i64 0), C.t (.int .i64 0), C.t .nils] :: List.replicate rest.length lnz from rfl]
    have hg2 : ((lnb m).map Ln.cc ++ [C.t (.int .i64 0), C.t (.int .i64 0), C.t .nils] :: List.replicate rest.length lnz)[m.length]? = some [C.t (.int .i64 0), C.t (.int .i64 0), C.t .nils] := by
      simp
    let t0 : Tp pr := .i (show ((↑(List.map Line.ce l).length : Int) : Int) = (↑l.length : Int) by simp)
    let t1 : Tp pr := .b (show (decide ((↑m.length : Int) < (↑l.length : Int))) = true by (simp; omega))
    let t2 : Tp pr := .g .row (show (lkp (List.map Line.ce l) (↑m.length : Int)) = some (x.ce) from hg)
    let t4 : Tp pr := .m (show (decide ((0 : Int) ≤ (↑m.length : Int) ∧ (↑m.length : Int).toNat < l.length)) = true by simp [*])
    let t5 : Tp pr := .c (show ((0 : Nat) + (↑m.length : Int).toNat : Nat) = m.length by omega)
    let t6 : Tp pr := .m (show (decide (((List.map Ln.cc (lnb m)).append ([C.t (T.int IntKind.i64 (0 : Int)), C.t (T.int IntKind.i64 (0 : Int)), C.t T.nils] :: List.replicate rest.length [C.t (T.int IntKind.i64 (0 : Int)), C.t (T.int IntKind.i64 (0 : Int)), C.t T.nils])).length = l.length)) = true by simp [*])
    let t7 : Tp pr := .g .crow (show (((List.map Ln.cc (lnb m)).append ([C.t (T.int IntKind.i64 (0 : Int)), C.t (T.int IntKind.i64 (0 : Int)), C.t T.nils] :: List.replicate rest.length [C.t (T.int IntKind.i64 (0 : Int)), C.t (T.int IntKind.i64 (0 : Int)), C.t T.nils]))[m.length]?) = some ([C.t (T.int IntKind.i64 (0 : Int)), C.t (T.int IntKind.i64 (0 : Int)), C.t T.nils]) from hg2)
    let t8 : Tp pr := .n .crows (show (((List.map Ln.cc (lnb m)).append ([C.t (T.int IntKind.i64 (0 : Int)), C.t (T.int IntKind.i64 (0 : Int)), C.t T.nils] :: List.replicate rest.length [C.t (T.int IntKind.i64 (0 : Int)), C.t (T.int IntKind.i64 (0 : Int)), C.t T.nils])).set m.length [C.t (T.int IntKind.i64 x.kind), C.t (T.int IntKind.i64 (0 : Int)), C.t T.nils]) = List.map Ln.cc (lnb m) ++ [C.t (T.int IntKind.i64 x.kind), C.t (T.int IntKind.i64 (0 : Int)), C.t T.nils] :: List.replicate rest.length [C.t (T.int IntKind.i64 (0 : Int)), C.t (T.int IntKind.i64 (0 : Int)), C.t T.nils] by simp)
    let t9 : Tp pr := .m (show (decide (((List.map Ln.cc (lnb m)).append ([C.t (T.int IntKind.i64 x.kind), C.t (T.int IntKind.i64 (0 : Int)), C.t T.nils] :: List.replicate rest.length [C.t (T.int IntKind.i64 (0 : Int)), C.t (T.int IntKind.i64 (0 : Int)), C.t T.nils])).length = l.length)) = true by simp [*])
    let t10 : Tp pr := .g .crow (show (((List.map Ln.cc (lnb m)).append ([C.t (T.int IntKind.i64 x.kind), C.t (T.int IntKind.i64 (0 : Int)), C.t T.nils] :: List.replicate rest.length [C.t (T.int IntKind.i64 (0 : Int)), C.t (T.int IntKind.i64 (0 : Int)), C.t T.nils]))[m.length]?) = some ([C.t (T.int IntKind.i64 x.kind), C.t (T.int IntKind.i64 (0 : Int)), C.t T.nils]) by simp)
    let t11 : Tp pr := .n .crows (show (((List.map Ln.cc (lnb m)).append ([C.t (T.int IntKind.i64 x.kind), C.t (T.int IntKind.i64 (0 : Int)), C.t T.nils] :: List.replicate rest.length [C.t (T.int IntKind.i64 (0 : Int)), C.t (T.int IntKind.i64 (0 : Int)), C.t T.nils])).set m.length [C.t (T.int IntKind.i64 x.kind), C.t (T.int IntKind.i64 x.name), C.t T.nils]) = List.map Ln.cc (lnb m) ++ [C.t (T.int IntKind.i64 x.kind), C.t (T.int IntKind.i64 x.name), C.t T.nils] :: List.replicate rest.length [C.t (T.int IntKind.i64 (0 : Int)), C.t (T.int IntKind.i64 (0 : Int)), C.t T.nils] by simp)
    let t12 : Tp pr := .m (show (decide ((bcc (exb x.expr)).length = x.expr.length ∧ x.expr.length ≤ x.expr.length)) = true by simp)
    let t13 : Tp pr := .m (show (decide (((List.map Ln.cc (lnb m)).append ([C.t (T.int IntKind.i64 x.kind), C.t (T.int IntKind.i64 x.name), C.t T.nils] :: List.replicate rest.length [C.t (T.int IntKind.i64 (0 : Int)), C.t (T.int IntKind.i64 (0 : Int)), C.t T.nils])).length = l.length)) = true by simp [*])
    let t14 : Tp pr := .g .crow (show (((List.map Ln.cc (lnb m)).append ([C.t (T.int IntKind.i64 x.kind), C.t (T.int IntKind.i64 x.name), C.t T.nils] :: List.replicate rest.length [C.t (T.int IntKind.i64 (0 : Int)), C.t (T.int IntKind.i64 (0 : Int)), C.t T.nils]))[m.length]?) = some ([C.t (T.int IntKind.i64 x.kind), C.t (T.int IntKind.i64 x.name), C.t T.nils]) by simp)
    let t15 : Tp pr := .n .rows (show (List.map (fun x => List.map C.fz x) (List.take x.expr.length (bcc (exb x.expr)))) = List.map Ex.ce x.expr by simp)
    let t16 : Tp pr := .n .crows (show (((List.map Ln.cc (lnb m)).append ([C.t (T.int IntKind.i64 x.kind), C.t (T.int IntKind.i64 x.name), C.t T.nils] :: List.replicate rest.length [C.t (T.int IntKind.i64 (0 : Int)), C.t (T.int IntKind.i64 (0 : Int)), C.t T.nils])).set m.length [C.t (T.int IntKind.i64 x.kind), C.t (T.int IntKind.i64 x.name), C.row (3 : Nat) (List.map Ex.ce x.expr)]) = List.map Ln.cc (lnb m) ++ [C.t (T.int IntKind.i64 x.kind), C.t (T.int IntKind.i64 x.name), C.row (3 : Nat) (List.map Ex.ce x.expr)] :: List.replicate rest.length [C.t (T.int IntKind.i64 (0 : Int)), C.t (T.int IntKind.i64 (0 : Int)), C.t T.nils] by simp)
    let t17 : Tp pr := .i (wrap_i64 (a := (↑m.length : Int) + (1 : Int)) (by omega) (by omega))
    let t18 : Tp pr := .a (Ev.castq (congrArg (fun x_1 => Q.loop (lq pr (11 : FuncId) (0 : Nat)) (at_ [((0 : Nat), lines l), ((3 : Nat), V.vec (0 : Nat) l.length (3 : Nat) (0 : Nat) l.length), ((4 : Nat), i64 x_1)] [Ob.vec false (3 : Nat) (List.map Ln.cc (lnb m) ++ [C.t (T.int IntKind.i64 x.kind), C.t (T.int IntKind.i64 x.name), C.row (3 : Nat) (List.map Ex.ce x.expr)] :: List.replicate rest.length lnz)] (0 : Nat))) (show ((↑(m ++ [x]).length : Int)) = ((↑m.length : Int) + (1 : Int)) by simp [lnb])) (ih))
    exact .tpe [t0, t1, t2, .a (ht), t4, t5, t6, t7, t8, t9, t10, t11, t12, t13, t14, t15, t16, t17, t18] (Out.exit (0 : Nat) (at_ [((3 : Nat), V.vec (0 : Nat) l.length (3 : Nat) (0 : Nat) l.length)] [Ob.vec false (3 : Nat) (List.map Ln.cc (lnb l))] (0 : Nat))) (by kernel_rfl) (congrArg (fun x => Out.exit (0 : Nat) (at_ [((3 : Nat), V.vec (0 : Nat) l.length (3 : Nat) (0 : Nat) l.length)] [Ob.vec x (3 : Nat) (List.map Ln.cc (lnb l))] (0 : Nat))) (show (false) = (fl && false) by simp [lnb]))
theorem toLineS_ev (l : List Line) (hl : l.length ≤ 1048576) (hs : ∀ x ∈ l, x.expr.length ≤ 1048576) : Ev pr (.call 11 [lines l] []) (.val (.vec 0 l.length 3 0 l.length) [.vec l.isEmpty 3 ((lnb l).map Ln.cc)]) := by
  have := toLineL_ev l hl hs l [] true rfl
  rw [Bool.true_and] at this
  let t0 : Tp pr := .i (show ((↑(List.map Line.ce l).length : Int) : Int) = (↑l.length : Int) by simp)
  let t1 : Tp pr := .m (show (decide ((0 : Int) ≤ (↑l.length : Int) ∧ (↑l.length : Int) ≤ (↑l.length : Int) ∧ (↑l.length : Int) ≤ (4294967296 : Int))) = true by (simp; omega))
  let t2 : Tp pr := .c (show ((↑l.length : Int).toNat : Nat) = l.length by omega)
  let t3 : Tp pr := .n .crows (rfl : (List.replicate l.length [C.t (T.int IntKind.i64 (0 : Int)), C.t (T.int IntKind.i64 (0 : Int)), C.t T.nils]) = _)
  exact .tp [t0, t1, t2, t3, .a (this)] (by kernel_rfl)
theorem eqLine_ev (x : Line) (hl : x.expr.length ≤ 1048576) : Ev pr (.call 46 [vs x.ce, vs x.ce] []) (.val (bl true) []) := by
  have h := eqExS2_ev x.expr hl
  let t0 : Tp pr := .b (show (x.kind != x.kind) = false by simp)
  let t1 : Tp pr := .b (show (x.name != x.name) = false by simp)
  exact .tp [t0, t1, .a (h), .b (rfl : false = false)] (by kernel_rfl)
theorem eqLineL_ev : ∀ (rest m : List Line), m.length + rest.length ≤ 1048576 → (∀ x ∈ rest, x.expr.length ≤ 1048576) → Ev pr (.loop (lq pr 13 0) (at_ [(0, lines (m ++ rest)), (1, lines (m ++ rest)), (5, i64 m.length)] [] 0)) (.exit 0 (at_ [] [] 0))
  | [], m, h, hs => by
    let t0 : Tp pr := .i (show ((↑(List.map Line.ce (m ++ [])).length : Int) : Int) = (↑m.length : Int) by simp)
    let t1 : Tp pr := .b (show (decide ((↑m.length : Int) < (↑m.length : Int))) = false by simp)
    exact .tp [t0, t1] (by kernel_rfl)
  | x :: rest, m, h, hs => by
    simp at h
    have ih := eqLineL_ev rest (m ++ [x]) (by simp; omega) (fun y hy => hs y (by simp [hy]))
    have hx := eqLine_ev x (hs x (by simp))
    have hg : lkp ((m ++ x :: rest).map Line.ce) (m.length : Int) = some x.ce := by simp
    let t0 : Tp pr := .i (show ((↑(List.map Line.ce (m ++ x :: rest)).length : Int) : Int) = (↑m.length : Int) + ((↑rest.length : Int) + (1 : Int)) by simp)
    let t1 : Tp pr := .b (show (decide ((↑m.length : Int) < (↑m.length : Int) + ((↑rest.length : Int) + (1 : Int)))) = true by (simp; omega))
    let t4 : Tp pr := .g .row (show (lkp (List.map Line.ce (m ++ x :: rest)) (↑m.length : Int)) = some (x.ce) from hg)
    let t9 : Tp pr := .g .row (show (lkp (List.map Line.ce (m ++ x :: rest)) (↑m.length : Int)) = some (x.ce) from hg)
    let t16 : Tp pr := .i (wrap_i64 (a := (↑m.length : Int) + (1 : Int)) (by omega) (by omega))
    let t17 : Tp pr := .a (Ev.castq ((congrArg (fun x_1 => Q.loop (lq pr (13 : FuncId) (0 : Nat)) (at_ [((0 : Nat), V.t (T.seq (3 : Nat) x_1)), ((1 : Nat), V.t (T.seq (3 : Nat) x_1)), ((5 : Nat), V.t (T.int IntKind.i64 (↑(m ++ [x]).length : Int)))] [] (0 : Nat))) (show (List.map Line.ce (m ++ [x] ++ rest)) = (List.map Line.ce (m ++ x :: rest)) by simp)).trans (congrArg (fun x_1 => Q.loop (lq pr (13 : FuncId) (0 : Nat)) (at_ [((0 : Nat), V.t (T.seq (3 : Nat) (List.map Line.ce (m ++ x :: rest)))), ((1 : Nat), V.t (T.seq (3 : Nat) (List.map Line.ce (m ++ x :: rest)))), ((5 : Nat), V.t (T.int IntKind.i64 x_1))] [] (0 : Nat))) (show ((↑(m ++ [x]).length : Int)) = ((↑m.length : Int) + (1 : Int)) by simp))) (ih))
    exact .tp [t0, t1, .m (rfl : true = true), .m (rfl : true = true), t4, .m (rfl : true = true), .m (rfl : true = true), .m (rfl : true = true), .m (rfl : true = true), t9, .m (rfl : true = true), .m (rfl : true = true), .a (hx), .m (rfl : true = true), .m (rfl : true = true), .b (rfl : false = false), t16, t17] (by kernel_rfl)
theorem eqLineS_ev (l : List Line) (h : l.length ≤ 1048576) (hs : ∀ x ∈ l, x.expr.length ≤ 1048576) : Ev pr (.call 13 [lines l, lines l] []) (.val (bl true) []) := by
  have := eqLineL_ev l [] (by simpa using h) hs
  let t0 : Tp pr := .i (show ((↑(List.map Line.ce l).length : Int) : Int) = (↑l.length : Int) by simp)
  let t1 : Tp pr := .i (show ((↑(List.map Line.ce l).length : Int) : Int) = (↑l.length : Int) by simp)
  let t2 : Tp pr := .b (show ((↑l.length : Int) != (↑l.length : Int)) = false by simp)
  exact .tp [t0, t1, t2, .a (this)] (by kernel_rfl)
theorem markRowL_ev (mt : Int → ByteArray) (hmt : ∀ k, 0 ≤ k → k ≤ 10000000000 → Ev pr (.call 54 [i64 k] []) (.val (.t (.str (mt k))) [])) (fl : Bool) (P Q : List Ln) (a b : Int) (N len : Nat) (hN : N = P.length + 1 + Q.length) (hlen : len ≤ 1048576) :
    ∀ (rest m : List Bc) (k : Int), 0 ≤ k → k + 3 * rest.length ≤ 9000000 → len = m.length + rest.length →
    Ev pr (.loop (lq pr 20 0) (at_ [(0, .row 0 N P.length 2 3 len), (1, i64 k), (5, i64 m.length)] [.vec fl 3 ((P ++ ⟨a, b, m ++ rest⟩ :: Q).map Ln.cc)] 1))
      (.exit 0 (at_ [(1, i64 (k + 3 * rest.length))] [.vec fl 3 ((P ++ ⟨a, b, m ++ mark3 mt k rest.length⟩ :: Q).map Ln.cc)] 1))
  | [], m, k, h0, h1, h2 => by
    let t1 : Tp pr := .b (show (decide ((↑m.length : Int) < (↑len : Int))) = false by simp [*])
    exact .tpe [.i (rfl : ((↑len : Int)) = _), t1] (Out.exit (0 : Nat) (at_ [((1 : Nat), V.t (T.int IntKind.i64 k))] [Ob.vec fl (3 : Nat) (List.map Ln.cc (P ++ Ln.mk a b (m ++ []) :: Q))] (1 : Nat))) (by kernel_rfl) ((congrArg (fun x => Out.exit (0 : Nat) (at_ [((1 : Nat), V.t (T.int IntKind.i64 x))] [Ob.vec fl (3 : Nat) (List.map Ln.cc (P ++ Ln.mk a b (m ++ []) :: Q))] (1 : Nat))) (show (k) = (k + (0 : Int)) by simp [mark3])).trans (congrArg (fun x => Out.exit (0 : Nat) (at_ [((1 : Nat), V.t (T.int IntKind.i64 (k + (0 : Int))))] [Ob.vec fl (3 : Nat) x] (1 : Nat))) (show (List.map Ln.cc (P ++ Ln.mk a b (m ++ []) :: Q)) = (List.map Ln.cc (P ++ Ln.mk a b (m ++ mark3 mt k (0 : Nat)) :: Q)) by simp [mark3])))
  | x :: rest, m, k, h0, h1, h2 => by
    simp at h1 h2
    have ht := hmt (k + 1 + 1) (by omega) (by omega)
    have ih := markRowL_ev mt hmt fl P Q a b N len hN hlen rest (m ++ [⟨k, k + 1, mt (k + 1 + 1)⟩]) (k + 1 + 1 + 1) (by omega) (by omega) (by simp; omega)
    rw [show ((P ++ ⟨a, b, (m ++ [(⟨k, k + 1, mt (k + 1 + 1)⟩ : Bc)]) ++ rest⟩ :: Q).map Ln.cc) = P.map Ln.cc ++ [C.t (.int .i64 a), C.t (.int .i64 b), C.row 3 (m.map Bc.ce ++ [T.int .i64 k, T.int .i64 (k + 1), T.str (mt (k + 1 + 1))] :: rest.map Bc.ce)] :: Q.map Ln.cc by simp [Ln.cc, Bc.ce]] at ih
    let t1 : Tp pr := .b (show (decide ((↑m.length : Int) < (↑len : Int))) = true by (simp; omega))
    let t2 : Tp pr := .m (show (decide ((0 : Int) ≤ (↑m.length : Int) ∧ (↑m.length : Int).toNat < len)) = true by simp [*])
    let t3 : Tp pr := .c (show ((↑m.length : Int).toNat : Nat) = m.length by omega)
    let t4 : Tp pr := .m (show (decide ((List.map Ln.cc (P ++ Ln.mk a b (m ++ x :: rest) :: Q)).length = N)) = true by (simp; omega))
    let t5 : Tp pr := .g .crow (show ((List.map Ln.cc (P ++ Ln.mk a b (m ++ x :: rest) :: Q))[P.length]?) = some ((Ln.mk a b (m ++ x :: rest)).cc) by simp)
    let t6 : Tp pr := .g .row (show ((List.map Bc.ce (Ln.mk a b (m ++ x :: rest)).ex)[m.length]?) = some (x.ce) by simp)
    let t8 : Tp pr := .n .crows (show ((List.map Ln.cc (P ++ Ln.mk a b (m ++ x :: rest) :: Q)).set P.length [C.t (T.int IntKind.i64 a), C.t (T.int IntKind.i64 b), C.row (3 : Nat) ((List.map Bc.ce (Ln.mk a b (m ++ x :: rest)).ex).set m.length [T.int IntKind.i64 k, T.int IntKind.i64 x.n, T.str x.text])]) = List.map Ln.cc P ++ [C.t (T.int IntKind.i64 a), C.t (T.int IntKind.i64 b), C.row (3 : Nat) (List.map Bc.ce m ++ [T.int IntKind.i64 k, T.int IntKind.i64 x.n, T.str x.text] :: List.map Bc.ce rest)] :: List.map Ln.cc Q by simp)
    let t9 : Tp pr := .i (wrap_i64 (a := k + (1 : Int)) (by omega) (by omega))
    let t10 : Tp pr := .m (show (decide ((0 : Int) ≤ (↑m.length : Int) ∧ (↑m.length : Int).toNat < len)) = true by simp [*])
    let t11 : Tp pr := .c (show ((↑m.length : Int).toNat : Nat) = m.length by omega)
    let t12 : Tp pr := .m (show (decide (((List.map Ln.cc P).append ([C.t (T.int IntKind.i64 a), C.t (T.int IntKind.i64 b), C.row (3 : Nat) ((List.map Bc.ce m).append ([T.int IntKind.i64 k, T.int IntKind.i64 x.n, T.str x.text] :: List.map Bc.ce rest))] :: List.map Ln.cc Q)).length = N)) = true by (simp; omega))
    let t13 : Tp pr := .g .crow (show (((List.map Ln.cc P).append ([C.t (T.int IntKind.i64 a), C.t (T.int IntKind.i64 b), C.row (3 : Nat) ((List.map Bc.ce m).append ([T.int IntKind.i64 k, T.int IntKind.i64 x.n, T.str x.text] :: List.map Bc.ce rest))] :: List.map Ln.cc Q))[P.length]?) = some ([C.t (T.int IntKind.i64 a), C.t (T.int IntKind.i64 b), C.row (3 : Nat) (List.map Bc.ce m ++ [T.int IntKind.i64 k, T.int IntKind.i64 x.n, T.str x.text] :: List.map Bc.ce rest)]) by simp)
    let t14 : Tp pr := .g .row (show (((List.map Bc.ce m).append ([T.int IntKind.i64 k, T.int IntKind.i64 x.n, T.str x.text] :: List.map Bc.ce rest))[m.length]?) = some ([T.int IntKind.i64 k, T.int IntKind.i64 x.n, T.str x.text]) by simp)
    let t16 : Tp pr := .n .crows (show (((List.map Ln.cc P).append ([C.t (T.int IntKind.i64 a), C.t (T.int IntKind.i64 b), C.row (3 : Nat) ((List.map Bc.ce m).append ([T.int IntKind.i64 k, T.int IntKind.i64 x.n, T.str x.text] :: List.map Bc.ce rest))] :: List.map Ln.cc Q)).set P.length [C.t (T.int IntKind.i64 a), C.t (T.int IntKind.i64 b), C.row (3 : Nat) (((List.map Bc.ce m).append ([T.int IntKind.i64 k, T.int IntKind.i64 x.n, T.str x.text] :: List.map Bc.ce rest)).set m.length [T.int IntKind.i64 k, T.int IntKind.i64 (k + (1 : Int)), T.str x.text])]) = List.map Ln.cc P ++ [C.t (T.int IntKind.i64 a), C.t (T.int IntKind.i64 b), C.row (3 : Nat) (List.map Bc.ce m ++ [T.int IntKind.i64 k, T.int IntKind.i64 (k + (1 : Int)), T.str x.text] :: List.map Bc.ce rest)] :: List.map Ln.cc Q by simp)
    let t17 : Tp pr := .i (wrap_i64 (a := k + (1 : Int) + (1 : Int)) (by omega) (by omega))
    let t18 : Tp pr := .a (hmt (k + (1 : Int) + (1 : Int)) (by omega) (by omega))
    let t19 : Tp pr := .m (show (decide ((0 : Int) ≤ (↑m.length : Int) ∧ (↑m.length : Int).toNat < len)) = true by simp [*])
    let t20 : Tp pr := .c (show ((↑m.length : Int).toNat : Nat) = m.length by omega)
    let t21 : Tp pr := .m (show (decide (((List.map Ln.cc P).append ([C.t (T.int IntKind.i64 a), C.t (T.int IntKind.i64 b), C.row (3 : Nat) ((List.map Bc.ce m).append ([T.int IntKind.i64 k, T.int IntKind.i64 (k + (1 : Int)), T.str x.text] :: List.map Bc.ce rest))] :: List.map Ln.cc Q)).length = N)) = true by (simp; omega))
    let t22 : Tp pr := .g .crow (show (((List.map Ln.cc P).append ([C.t (T.int IntKind.i64 a), C.t (T.int IntKind.i64 b), C.row (3 : Nat) ((List.map Bc.ce m).append ([T.int IntKind.i64 k, T.int IntKind.i64 (k + (1 : Int)), T.str x.text] :: List.map Bc.ce rest))] :: List.map Ln.cc Q))[P.length]?) = some ([C.t (T.int IntKind.i64 a), C.t (T.int IntKind.i64 b), C.row (3 : Nat) (List.map Bc.ce m ++ [T.int IntKind.i64 k, T.int IntKind.i64 (k + (1 : Int)), T.str x.text] :: List.map Bc.ce rest)]) by simp)
    let t23 : Tp pr := .g .row (show (((List.map Bc.ce m).append ([T.int IntKind.i64 k, T.int IntKind.i64 (k + (1 : Int)), T.str x.text] :: List.map Bc.ce rest))[m.length]?) = some ([T.int IntKind.i64 k, T.int IntKind.i64 (k + (1 : Int)), T.str x.text]) by simp)
    let t25 : Tp pr := .n .crows (show (((List.map Ln.cc P).append ([C.t (T.int IntKind.i64 a), C.t (T.int IntKind.i64 b), C.row (3 : Nat) ((List.map Bc.ce m).append ([T.int IntKind.i64 k, T.int IntKind.i64 (k + (1 : Int)), T.str x.text] :: List.map Bc.ce rest))] :: List.map Ln.cc Q)).set P.length [C.t (T.int IntKind.i64 a), C.t (T.int IntKind.i64 b), C.row (3 : Nat) (((List.map Bc.ce m).append ([T.int IntKind.i64 k, T.int IntKind.i64 (k + (1 : Int)), T.str x.text] :: List.map Bc.ce rest)).set m.length [T.int IntKind.i64 k, T.int IntKind.i64 (k + (1 : Int)), T.str (mt (k + (1 : Int) + (1 : Int)))])]) = List.map Ln.cc P ++ [C.t (T.int IntKind.i64 a), C.t (T.int IntKind.i64 b), C.row (3 : Nat) (List.map Bc.ce m ++ [T.int IntKind.i64 k, T.int IntKind.i64 (k + (1 : Int)), T.str (mt (k + (1 : Int) + (1 : Int)))] :: List.map Bc.ce rest)] :: List.map Ln.cc Q by simp)
    let t26 : Tp pr := .i (wrap_i64 (a := k + (1 : Int) + (1 : Int) + (1 : Int)) (by omega) (by omega))
    let t27 : Tp pr := .i (wrap_i64 (a := (↑m.length : Int) + (1 : Int)) (by omega) (by omega))
    let t28 : Tp pr := .a (Ev.castq (congrArg (fun x => Ev.Q.loop (lq pr (20 : FuncId) (0 : Nat)) (at_ [((0 : Nat), V.row (0 : Nat) N P.length (2 : Nat) (3 : Nat) len), ((1 : Nat), i64 (k + (1 : Int) + (1 : Int) + (1 : Int))), ((5 : Nat), i64 x)] [Ob.vec fl (3 : Nat) (List.map Ln.cc P ++ [C.t (T.int IntKind.i64 a), C.t (T.int IntKind.i64 b), C.row (3 : Nat) (List.map Bc.ce m ++ [T.int IntKind.i64 k, T.int IntKind.i64 (k + (1 : Int)), T.str (mt (k + (1 : Int) + (1 : Int)))] :: List.map Bc.ce rest)] :: List.map Ln.cc Q)] (1 : Nat))) (show ((↑(m ++ [Bc.mk k (k + (1 : Int)) (mt (k + (1 : Int) + (1 : Int)))]).length : Int)) = ((↑m.length : Int) + (1 : Int)) by (simp [mark3] <;> omega))) (ih))
    exact .tpe [.i (rfl : ((↑len : Int)) = _), t1, t2, t3, t4, t5, t6, .m (rfl : true = true), t8, t9, t10, t11, t12, t13, t14, .m (rfl : true = true), t16, t17, t18, t19, t20, t21, t22, t23, .m (rfl : true = true), t25, t26, t27, t28] (Out.exit (0 : Nat) (at_ [((1 : Nat), V.t (T.int IntKind.i64 (k + (1 : Int) + (1 : Int) + (1 : Int) + (3 : Int) * (↑rest.length : Int))))] [Ob.vec fl (3 : Nat) (List.map Ln.cc (P ++ Ln.mk a b (m ++ [Bc.mk k (k + (1 : Int)) (mt (k + (1 : Int) + (1 : Int)))] ++ mark3 mt (k + (1 : Int) + (1 : Int) + (1 : Int)) rest.length) :: Q))] (1 : Nat))) (by kernel_rfl) ((congrArg (fun x => Out.exit (0 : Nat) (at_ [((1 : Nat), V.t (T.int IntKind.i64 x))] [Ob.vec fl (3 : Nat) (List.map Ln.cc (P ++ Ln.mk a b (m ++ [Bc.mk k (k + (1 : Int)) (mt (k + (1 : Int) + (1 : Int)))] ++ mark3 mt (k + (1 : Int) + (1 : Int) + (1 : Int)) rest.length) :: Q))] (1 : Nat))) (show (k + (1 : Int) + (1 : Int) + (1 : Int) + (3 : Int) * (↑rest.length : Int)) = (k + (3 : Int) * (↑(x :: rest).length : Int)) by (simp [mark3] <;> omega))).trans (congrArg (fun x_1 => Out.exit (0 : Nat) (at_ [((1 : Nat), V.t (T.int IntKind.i64 (k + (3 : Int) * (↑(x :: rest).length : Int))))] [Ob.vec fl (3 : Nat) x_1] (1 : Nat))) (show (List.map Ln.cc (P ++ Ln.mk a b (m ++ [Bc.mk k (k + (1 : Int)) (mt (k + (1 : Int) + (1 : Int)))] ++ mark3 mt (k + (1 : Int) + (1 : Int) + (1 : Int)) rest.length) :: Q)) = (List.map Ln.cc (P ++ Ln.mk a b (m ++ mark3 mt k (x :: rest).length) :: Q)) by (simp [mark3] <;> omega))))
theorem markRow_ev (mt : Int → ByteArray) (hmt : ∀ k, 0 ≤ k → k ≤ 10000000000 → Ev pr (.call 54 [i64 k] []) (.val (.t (.str (mt k))) [])) (fl : Bool) (P Q : List Ln) (x : Ln) (N : Nat) (hN : N = P.length + 1 + Q.length) (k : Int) (h0 : 0 ≤ k) (h1 : k + 3 * x.ex.length ≤ 9000000) (h2 : x.ex.length ≤ 1048576) :
    Ev pr (.call 20 [.row 0 N P.length 2 3 x.ex.length, i64 k] [.vec fl 3 ((P ++ x :: Q).map Ln.cc)]) (.val (i64 (k + 3 * x.ex.length)) [.vec fl 3 ((P ++ ⟨x.kind, x.name, mark3 mt k x.ex.length⟩ :: Q).map Ln.cc)]) := by
  have := markRowL_ev mt hmt fl P Q x.kind x.name N x.ex.length hN h2 x.ex [] k h0 h1 (by simp)
  exact .tp [.a (this)] (by kernel_rfl)
theorem markLineL_ev (mt : Int → ByteArray) (hmt : ∀ k, 0 ≤ k → k ≤ 10000000000 → Ev pr (.call 54 [i64 k] []) (.val (.t (.str (mt k))) [])) (N : Nat) (hNs : N ≤ 1048576) :
    ∀ (rest P : List Ln) (fl : Bool) (k : Int), N = P.length + rest.length → (∀ x ∈ rest, x.ex.length ≤ 1048576) → 0 ≤ k → k + marksN rest ≤ 9000000 →
    Ev pr (.loop (lq pr 28 0) (at_ [(0, .vec 0 N 3 0 N), (1, i64 k), (5, i64 P.length)] [.vec fl 3 ((P ++ rest).map Ln.cc)] 1))
      (.exit 0 (at_ [(1, i64 (k + marksN rest))] [.vec fl 3 ((P ++ marked mt k rest).map Ln.cc)] 1))
  | [], P, fl, k, hN, hx, h0, h1 => by
    let t1 : Tp pr := .b (show (decide ((↑P.length : Int) < (↑N : Int))) = false by simp [*])
    exact .tpe [.i (rfl : ((↑N : Int)) = _), t1] (Out.exit (0 : Nat) (at_ [((1 : Nat), V.t (T.int IntKind.i64 k))] [Ob.vec fl (3 : Nat) (List.map Ln.cc (P ++ []))] (1 : Nat))) (by kernel_rfl) ((congrArg (fun x => Out.exit (0 : Nat) (at_ [((1 : Nat), V.t (T.int IntKind.i64 x))] [Ob.vec fl (3 : Nat) (List.map Ln.cc (P ++ []))] (1 : Nat))) (show (k) = (k + (0 : Int)) by simp [marked, marksN])).trans (congrArg (fun x => Out.exit (0 : Nat) (at_ [((1 : Nat), V.t (T.int IntKind.i64 (k + (0 : Int))))] [Ob.vec fl (3 : Nat) x] (1 : Nat))) (show (List.map Ln.cc (P ++ [])) = (List.map Ln.cc (P ++ marked mt k [])) by simp [marked, marksN])))
  | x :: rest, P, fl, k, hN, hx, h0, h1 => by
    have hm := marksN_nonneg rest
    simp [marksN] at h1 hN
    have hr := markRow_ev mt hmt fl P rest ⟨k, k + 1, x.ex⟩ N (by omega) (k + 1 + 1) (by omega) (by simp; omega) (hx x (by simp))
    have ih := markLineL_ev mt hmt N hNs rest (P ++ [⟨k, k + 1, mark3 mt (k + 1 + 1) x.ex.length⟩]) fl (k + 2 + 3 * x.ex.length) (by simp; omega) (fun y hy => hx y (by simp [hy])) (by omega) (by omega)
    let t1 : Tp pr := .b (show (decide ((↑P.length : Int) < (↑N : Int))) = true by (simp; omega))
    let t2 : Tp pr := .m (show (decide ((0 : Int) ≤ (↑P.length : Int) ∧ (↑P.length : Int).toNat < N)) = true by simp [*])
    let t3 : Tp pr := .c (show ((0 : Nat) + (↑P.length : Int).toNat : Nat) = P.length by omega)
    let t4 : Tp pr := .m (show (decide ((List.map Ln.cc (P ++ x :: rest)).length = N)) = true by simp [*])
    let t5 : Tp pr := .g .crow (show ((List.map Ln.cc (P ++ x :: rest))[P.length]?) = some (x.cc) by simp)
    let t6 : Tp pr := .m (show (decide ((List.map Ln.cc (P ++ x :: rest)).length = N)) = true by simp [*])
    let t7 : Tp pr := .g .crow (show ((List.map Ln.cc (P ++ x :: rest))[P.length]?) = some (x.cc) by simp)
    let t8 : Tp pr := .n .crows (show ((List.map Ln.cc (P ++ x :: rest)).set P.length [C.t (T.int IntKind.i64 k), C.t (T.int IntKind.i64 x.name), C.row (3 : Nat) (List.map Bc.ce x.ex)]) = List.map Ln.cc P ++ [C.t (T.int IntKind.i64 k), C.t (T.int IntKind.i64 x.name), C.row (3 : Nat) (List.map Bc.ce x.ex)] :: List.map Ln.cc rest by simp)
    let t9 : Tp pr := .i (wrap_i64 (a := k + (1 : Int)) (by omega) (by omega))
    let t10 : Tp pr := .m (show (decide ((0 : Int) ≤ (↑P.length : Int) ∧ (↑P.length : Int).toNat < N)) = true by simp [*])
    let t11 : Tp pr := .c (show ((0 : Nat) + (↑P.length : Int).toNat : Nat) = P.length by omega)
    let t12 : Tp pr := .m (show (decide (((List.map Ln.cc P).append ([C.t (T.int IntKind.i64 k), C.t (T.int IntKind.i64 x.name), C.row (3 : Nat) (List.map Bc.ce x.ex)] :: List.map Ln.cc rest)).length = N)) = true by simp [*])
    let t13 : Tp pr := .g .crow (show (((List.map Ln.cc P).append ([C.t (T.int IntKind.i64 k), C.t (T.int IntKind.i64 x.name), C.row (3 : Nat) (List.map Bc.ce x.ex)] :: List.map Ln.cc rest))[P.length]?) = some ([C.t (T.int IntKind.i64 k), C.t (T.int IntKind.i64 x.name), C.row (3 : Nat) (List.map Bc.ce x.ex)]) by simp)
    let t14 : Tp pr := .n .crows (show (((List.map Ln.cc P).append ([C.t (T.int IntKind.i64 k), C.t (T.int IntKind.i64 x.name), C.row (3 : Nat) (List.map Bc.ce x.ex)] :: List.map Ln.cc rest)).set P.length [C.t (T.int IntKind.i64 k), C.t (T.int IntKind.i64 (k + (1 : Int))), C.row (3 : Nat) (List.map Bc.ce x.ex)]) = List.map Ln.cc P ++ [C.t (T.int IntKind.i64 k), C.t (T.int IntKind.i64 (k + (1 : Int))), C.row (3 : Nat) (List.map Bc.ce x.ex)] :: List.map Ln.cc rest by simp)
    let t15 : Tp pr := .i (wrap_i64 (a := k + (1 : Int) + (1 : Int)) (by omega) (by omega))
    let t16 : Tp pr := .m (show (decide ((0 : Int) ≤ (↑P.length : Int) ∧ (↑P.length : Int).toNat < N)) = true by simp [*])
    let t17 : Tp pr := .c (show ((0 : Nat) + (↑P.length : Int).toNat : Nat) = P.length by omega)
    let t18 : Tp pr := .m (show (decide (((List.map Ln.cc P).append ([C.t (T.int IntKind.i64 k), C.t (T.int IntKind.i64 (k + (1 : Int))), C.row (3 : Nat) (List.map Bc.ce x.ex)] :: List.map Ln.cc rest)).length = N)) = true by simp [*])
    let t19 : Tp pr := .g .crow (show (((List.map Ln.cc P).append ([C.t (T.int IntKind.i64 k), C.t (T.int IntKind.i64 (k + (1 : Int))), C.row (3 : Nat) (List.map Bc.ce x.ex)] :: List.map Ln.cc rest))[P.length]?) = some ([C.t (T.int IntKind.i64 k), C.t (T.int IntKind.i64 (k + (1 : Int))), C.row (3 : Nat) (List.map Bc.ce x.ex)]) by simp)
    let t20 : Tp pr := .a (Ev.castq (((congrArg (fun x_1 => Q.call (20 : FuncId) [V.row (0 : Nat) N P.length (2 : Nat) (3 : Nat) x_1, i64 (k + (1 : Int) + (1 : Int))] [Ob.vec fl (3 : Nat) (List.map Ln.cc (P ++ Ln.mk k (k + (1 : Int)) x.ex :: rest))]) (show ((Ln.mk k (k + (1 : Int)) x.ex).ex.length) = ((List.map Bc.ce x.ex).length) by (simp [marked, marksN, Ln.cc] <;> omega))).trans (congrArg (fun x_1 => Q.call (20 : FuncId) [V.row (0 : Nat) N P.length (2 : Nat) (3 : Nat) (List.map Bc.ce x.ex).length, i64 (k + (1 : Int) + (1 : Int))] [Ob.vec x_1 (3 : Nat) (List.map Ln.cc (P ++ Ln.mk k (k + (1 : Int)) x.ex :: rest))]) (show (fl) = (fl && true && true) by (simp [marked, marksN, Ln.cc] <;> omega)))).trans (congrArg (fun x_1 => Q.call (20 : FuncId) [V.row (0 : Nat) N P.length (2 : Nat) (3 : Nat) (List.map Bc.ce x.ex).length, i64 (k + (1 : Int) + (1 : Int))] [Ob.vec (fl && true && true) (3 : Nat) x_1]) (show (List.map Ln.cc (P ++ Ln.mk k (k + (1 : Int)) x.ex :: rest)) = ((List.map Ln.cc P).append ([C.t (T.int IntKind.i64 k), C.t (T.int IntKind.i64 (k + (1 : Int))), C.row (3 : Nat) (List.map Bc.ce x.ex)] :: List.map Ln.cc rest)) by (simp [marked, marksN, Ln.cc] <;> omega)))) (hr))
    let t21 : Tp pr := .i (wrap_i64 (a := (↑P.length : Int) + (1 : Int)) (by omega) (by omega))
    let t22 : Tp pr := .a (Ev.castq (((congrArg (fun x_1 => Q.loop (lq pr (28 : FuncId) (0 : Nat)) (at_ [((0 : Nat), V.vec (0 : Nat) N (3 : Nat) (0 : Nat) N), ((1 : Nat), i64 x_1), ((5 : Nat), i64 (↑(P ++ [Ln.mk k (k + (1 : Int)) (mark3 mt (k + (1 : Int) + (1 : Int)) x.ex.length)]).length : Int))] [Ob.vec fl (3 : Nat) (List.map Ln.cc (P ++ [Ln.mk k (k + (1 : Int)) (mark3 mt (k + (1 : Int) + (1 : Int)) x.ex.length)] ++ rest))] (1 : Nat))) (show (k + (2 : Int) + (3 : Int) * (↑x.ex.length : Int)) = (k + (1 : Int) + (1 : Int) + (3 : Int) * (↑(Ln.mk k (k + (1 : Int)) x.ex).ex.length : Int)) by (simp [marked, marksN, Ln.cc] <;> omega))).trans (congrArg (fun x_1 => Q.loop (lq pr (28 : FuncId) (0 : Nat)) (at_ [((0 : Nat), V.vec (0 : Nat) N (3 : Nat) (0 : Nat) N), ((1 : Nat), i64 (k + (1 : Int) + (1 : Int) + (3 : Int) * (↑(Ln.mk k (k + (1 : Int)) x.ex).ex.length : Int))), ((5 : Nat), i64 x_1)] [Ob.vec fl (3 : Nat) (List.map Ln.cc (P ++ [Ln.mk k (k + (1 : Int)) (mark3 mt (k + (1 : Int) + (1 : Int)) x.ex.length)] ++ rest))] (1 : Nat))) (show ((↑(P ++ [Ln.mk k (k + (1 : Int)) (mark3 mt (k + (1 : Int) + (1 : Int)) x.ex.length)]).length : Int)) = ((↑P.length : Int) + (1 : Int)) by (simp [marked, marksN, Ln.cc] <;> omega)))).trans (congrArg (fun x_1 => Q.loop (lq pr (28 : FuncId) (0 : Nat)) (at_ [((0 : Nat), V.vec (0 : Nat) N (3 : Nat) (0 : Nat) N), ((1 : Nat), i64 (k + (1 : Int) + (1 : Int) + (3 : Int) * (↑(Ln.mk k (k + (1 : Int)) x.ex).ex.length : Int))), ((5 : Nat), i64 ((↑P.length : Int) + (1 : Int)))] [Ob.vec fl (3 : Nat) x_1] (1 : Nat))) (show (List.map Ln.cc (P ++ [Ln.mk k (k + (1 : Int)) (mark3 mt (k + (1 : Int) + (1 : Int)) x.ex.length)] ++ rest)) = (List.map Ln.cc (P ++ Ln.mk (Ln.mk k (k + (1 : Int)) x.ex).kind (Ln.mk k (k + (1 : Int)) x.ex).name (mark3 mt (k + (1 : Int) + (1 : Int)) (Ln.mk k (k + (1 : Int)) x.ex).ex.length) :: rest)) by (simp [marked, marksN, Ln.cc] <;> omega)))) (ih))
    exact .tpe [.i (rfl : ((↑N : Int)) = _), t1, t2, t3, t4, t5, t6, t7, t8, t9, t10, t11, t12, t13, t14, t15, t16, t17, t18, t19, t20, t21, t22] (Out.exit (0 : Nat) (at_ [((1 : Nat), V.t (T.int IntKind.i64 (k + (2 : Int) + (3 : Int) * (↑x.ex.length : Int) + marksN rest)))] [Ob.vec fl (3 : Nat) (List.map Ln.cc (P ++ [Ln.mk k (k + (1 : Int)) (mark3 mt (k + (1 : Int) + (1 : Int)) x.ex.length)] ++ marked mt (k + (2 : Int) + (3 : Int) * (↑x.ex.length : Int)) rest))] (1 : Nat))) (by kernel_rfl) ((congrArg (fun x_1 => Out.exit (0 : Nat) (at_ [((1 : Nat), V.t (T.int IntKind.i64 x_1))] [Ob.vec fl (3 : Nat) (List.map Ln.cc (P ++ [Ln.mk k (k + (1 : Int)) (mark3 mt (k + (1 : Int) + (1 : Int)) x.ex.length)] ++ marked mt (k + (2 : Int) + (3 : Int) * (↑x.ex.length : Int)) rest))] (1 : Nat))) (show (k + (2 : Int) + (3 : Int) * (↑x.ex.length : Int) + marksN rest) = (k + marksN (x :: rest)) by (simp [marked, marksN, Ln.cc] <;> omega))).trans (congrArg (fun x_1 => Out.exit (0 : Nat) (at_ [((1 : Nat), V.t (T.int IntKind.i64 (k + marksN (x :: rest))))] [Ob.vec fl (3 : Nat) x_1] (1 : Nat))) (show (List.map Ln.cc (P ++ [Ln.mk k (k + (1 : Int)) (mark3 mt (k + (1 : Int) + (1 : Int)) x.ex.length)] ++ marked mt (k + (2 : Int) + (3 : Int) * (↑x.ex.length : Int)) rest)) = (List.map Ln.cc (P ++ marked mt k (x :: rest))) by (simp [marked, marksN, Ln.cc] <;> omega))))
end Go.Ev

/- Integers: what the laws' own functions do with them. -/
namespace Go.Ev
set_option linter.unusedVariables false
set_option linter.unusedSimpArgs false
open Go.Proofs
set_option maxRecDepth 100000
set_option linter.unusedVariables false
set_option maxHeartbeats 1000000
theorem toIntL_ev (l : List Int) : ∀ (rest m : List Int), l = m ++ rest → l.length ≤ 1048576 → Ev pr (.loop (lq pr 30 0) (at_ [(0, .t (.seq 1 (l.map intt))), (3, .vec 0 l.length 1 0 l.length), (4, i64 m.length)] [.vec true 1 (ints (m ++ List.replicate rest.length 0))] 0))
    (.exit 0 (at_ [(3, .vec 0 l.length 1 0 l.length)] [.vec true 1 (ints l)] 0))
  | [], m, he, h => by
    have hll : (l.length : Int) = m.length := by simp [he]
    have he2 : l = m := by simpa using he
    subst he2
    let t0 : Tp pr := .i (show ((↑(List.map intt l).length : Int) : Int) = (↑l.length : Int) by simp)
    let t1 : Tp pr := .b (show (decide ((↑l.length : Int) < (↑l.length : Int))) = false by simp)
    exact .tpe [t0, t1] (Out.exit (0 : Nat) (at_ [((3 : Nat), V.vec (0 : Nat) l.length (1 : Nat) (0 : Nat) l.length)] [Ob.vec true (1 : Nat) (ints (l ++ List.replicate (0 : Nat) (0 : Int)))] (0 : Nat))) (by kernel_rfl) (congrArg (fun x => Out.exit (0 : Nat) (at_ [((3 : Nat), V.vec (0 : Nat) l.length (1 : Nat) (0 : Nat) l.length)] [Ob.vec true (1 : Nat) x] (0 : Nat))) (show (ints (l ++ List.replicate (0 : Nat) (0 : Int))) = (ints l) by simp))
  | x :: rest, m, he, h => by
    have hll : (l.length : Int) = m.length + 1 + rest.length := by simp [he]; omega
    have hg : lkp (l.map intt) (m.length : Int) = some [T.int .i64 x] := by subst he; simp [intt]
    have ih := toIntL_ev l rest (m ++ [x]) (by simp [he]) h
    have hg2 : (ints (m ++ 0 :: List.replicate rest.length 0))[m.length]? = some (intc 0) := by simp [ints]
    rw [show List.replicate (x :: rest).length (0 : Int) = 0 :: List.replicate rest.length 0 from rfl]
    let t0 : Tp pr := .i (show ((↑(List.map intt l).length : Int) : Int) = (↑l.length : Int) by simp)
    let t1 : Tp pr := .b (show (decide ((↑m.length : Int) < (↑l.length : Int))) = true by (simp; omega))
    let t2 : Tp pr := .g .row (show (lkp (List.map intt l) (↑m.length : Int)) = some ([T.int IntKind.i64 x]) from hg)
    let t3 : Tp pr := .m (show (decide ((0 : Int) ≤ (↑m.length : Int) ∧ (↑m.length : Int).toNat < l.length)) = true by simp [*])
    let t4 : Tp pr := .c (show ((0 : Nat) + (↑m.length : Int).toNat : Nat) = m.length by omega)
    let t5 : Tp pr := .m (show (decide ((ints (m ++ (0 : Int) :: List.replicate rest.length (0 : Int))).length = l.length)) = true by simp [*])
    let t6 : Tp pr := .g .crow (show ((ints (m ++ (0 : Int) :: List.replicate rest.length (0 : Int)))[m.length]?) = some (intc (0 : Int)) from hg2)
    let t7 : Tp pr := .n .crows (show ((ints (m ++ (0 : Int) :: List.replicate rest.length (0 : Int))).set m.length [C.t (T.int IntKind.i64 x)]) = ints (m ++ x :: List.replicate rest.length (0 : Int)) by simp)
    let t8 : Tp pr := .i (wrap_i64 (a := (↑m.length : Int) + (1 : Int)) (by omega) (by omega))
    let t9 : Tp pr := .a (Ev.castq ((congrArg (fun x_1 => Q.loop (lq pr (30 : FuncId) (0 : Nat)) (at_ [((0 : Nat), V.t (T.seq (1 : Nat) (List.map intt l))), ((3 : Nat), V.vec (0 : Nat) l.length (1 : Nat) (0 : Nat) l.length), ((4 : Nat), i64 x_1)] [Ob.vec true (1 : Nat) (ints (m ++ [x] ++ List.replicate rest.length (0 : Int)))] (0 : Nat))) (show ((↑(m ++ [x]).length : Int)) = ((↑m.length : Int) + (1 : Int)) by simp [ints, intc])).trans (congrArg (fun x => Q.loop (lq pr (30 : FuncId) (0 : Nat)) (at_ [((0 : Nat), V.t (T.seq (1 : Nat) (List.map intt l))), ((3 : Nat), V.vec (0 : Nat) l.length (1 : Nat) (0 : Nat) l.length), ((4 : Nat), i64 ((↑m.length : Int) + (1 : Int)))] [Ob.vec true (1 : Nat) x] (0 : Nat))) (show (ints (m ++ [x] ++ List.replicate rest.length (0 : Int))) = (ints (m ++ x :: List.replicate rest.length (0 : Int))) by simp [ints, intc]))) (ih))
    exact .tp [t0, t1, t2, t3, t4, t5, t6, t7, t8, t9] (by kernel_rfl)
theorem toIntS_ev (l : List Int) (hl : l.length ≤ 1048576) : Ev pr (.call 30 [.t (.seq 1 (l.map intt))] []) (.val (.vec 0 l.length 1 0 l.length) [.vec true 1 (ints l)]) := by
  have := toIntL_ev l l [] rfl hl
  let t0 : Tp pr := .i (show ((↑(List.map intt l).length : Int) : Int) = (↑l.length : Int) by simp)
  let t1 : Tp pr := .m (show (decide ((0 : Int) ≤ (↑l.length : Int) ∧ (↑l.length : Int) ≤ (↑l.length : Int) ∧ (↑l.length : Int) ≤ (4294967296 : Int))) = true by (simp; omega))
  let t2 : Tp pr := .c (show ((↑l.length : Int).toNat : Nat) = l.length by omega)
  let t3 : Tp pr := .n .crows (rfl : (List.replicate l.length [C.t (T.int IntKind.i64 (0 : Int))]) = _)
  let t4 : Tp pr := .a (Ev.castq (congrArg (fun x => Q.loop (lq pr (30 : FuncId) (0 : Nat)) (at_ [((0 : Nat), V.t (T.seq (1 : Nat) (List.map intt l))), ((3 : Nat), V.vec (0 : Nat) l.length (1 : Nat) (0 : Nat) l.length), ((4 : Nat), i64 (↑(0 : Nat) : Int))] [Ob.vec true (1 : Nat) x] (0 : Nat))) (show (ints ([] ++ List.replicate l.length (0 : Int))) = (List.replicate l.length [C.t (T.int IntKind.i64 (0 : Int))]) by simp [ints, intc])) (this))
  exact .tp [t0, t1, t2, t3, t4] (by kernel_rfl)
theorem eqIntL_ev : ∀ (rest m : List Int), m.length + rest.length ≤ 1048576 → Ev pr (.loop (lq pr 32 0) (at_ [(0, .t (.seq 1 ((m ++ rest).map intt))), (1, .t (.seq 1 ((m ++ rest).map intt))), (5, i64 m.length)] [] 0)) (.exit 0 (at_ [] [] 0))
  | [], m, h => by
    let t0 : Tp pr := .i (show ((↑(List.map intt (m ++ [])).length : Int) : Int) = (↑m.length : Int) by simp)
    let t1 : Tp pr := .b (show (decide ((↑m.length : Int) < (↑m.length : Int))) = false by simp)
    exact .tp [t0, t1] (by kernel_rfl)
  | x :: rest, m, h => by
    simp at h
    have ih := eqIntL_ev rest (m ++ [x]) (by simp; omega)
    have hg : lkp ((m ++ x :: rest).map intt) (m.length : Int) = some [T.int .i64 x] := by simp [intt]
    let t0 : Tp pr := .i (show ((↑(List.map intt (m ++ x :: rest)).length : Int) : Int) = (↑m.length : Int) + ((↑rest.length : Int) + (1 : Int)) by simp)
    let t1 : Tp pr := .b (show (decide ((↑m.length : Int) < (↑m.length : Int) + ((↑rest.length : Int) + (1 : Int)))) = true by (simp; omega))
    let t4 : Tp pr := .g .row (show (lkp (List.map intt (m ++ x :: rest)) (↑m.length : Int)) = some ([T.int IntKind.i64 x]) from hg)
    let t9 : Tp pr := .g .row (show (lkp (List.map intt (m ++ x :: rest)) (↑m.length : Int)) = some ([T.int IntKind.i64 x]) from hg)
    let t14 : Tp pr := .i (wrap_i64 (a := (↑m.length : Int) + (1 : Int)) (by omega) (by omega))
    let t15 : Tp pr := .a (Ev.castq ((congrArg (fun x_1 => Q.loop (lq pr (32 : FuncId) (0 : Nat)) (at_ [((0 : Nat), V.t (T.seq (1 : Nat) x_1)), ((1 : Nat), V.t (T.seq (1 : Nat) x_1)), ((5 : Nat), i64 (↑(m ++ [x]).length : Int))] [] (0 : Nat))) (show (List.map intt (m ++ [x] ++ rest)) = (List.map intt (m ++ x :: rest)) by simp)).trans (congrArg (fun x_1 => Q.loop (lq pr (32 : FuncId) (0 : Nat)) (at_ [((0 : Nat), V.t (T.seq (1 : Nat) (List.map intt (m ++ x :: rest)))), ((1 : Nat), V.t (T.seq (1 : Nat) (List.map intt (m ++ x :: rest)))), ((5 : Nat), i64 x_1)] [] (0 : Nat))) (show ((↑(m ++ [x]).length : Int)) = ((↑m.length : Int) + (1 : Int)) by simp))) (ih))
    exact .tp [t0, t1, .m (rfl : true = true), .m (rfl : true = true), t4, .m (rfl : true = true), .m (rfl : true = true), .m (rfl : true = true), .m (rfl : true = true), t9, .m (rfl : true = true), .m (rfl : true = true), .m (rfl : true = true), .b (show (x != x) = false by simp), t14, t15] (by kernel_rfl)
theorem eqIntS_ev (l : List Int) (h : l.length ≤ 1048576) : Ev pr (.call 32 [.t (.seq 1 (l.map intt)), .t (.seq 1 (l.map intt))] []) (.val (bl true) []) := by
  have := eqIntL_ev l [] (by simpa using h)
  let t0 : Tp pr := .i (show ((↑(List.map intt l).length : Int) : Int) = (↑l.length : Int) by simp)
  let t1 : Tp pr := .i (show ((↑(List.map intt l).length : Int) : Int) = (↑l.length : Int) by simp)
  let t2 : Tp pr := .b (show ((↑l.length : Int) != (↑l.length : Int)) = false by simp)
  exact .tp [t0, t1, t2, .a (this)] (by kernel_rfl)
def markI (k : Int) : Nat → List Int
  | 0 => []
  | n + 1 => k :: markI (k + 1) n
theorem markI_len (k : Int) (n : Nat) : (markI k n).length = n := by induction n generalizing k with
  | zero => rfl
  | succ n ih => simp [markI, ih]
@[simp high] theorem ints_get_mid (m : List Int) (x : Int) (r : List Int) : (ints (m ++ x :: r))[m.length]? = some [C.t (.int .i64 x)] := by simp [ints, intc]
@[simp high] theorem ints_set_mid (m : List Int) (x y : Int) (r : List Int) : (ints (m ++ x :: r)).set m.length [C.t (.int .i64 y)] = ints (m ++ y :: r) := by simp [ints, intc]
theorem markIntL_ev : ∀ (rest m : List Int) (k : Int), 0 ≤ k → k + rest.length ≤ 9000000 → m.length + rest.length ≤ 1048576 →
    Ev pr (.loop (lq pr 33 0) (at_ [(0, .vec 0 (m.length + rest.length) 1 0 (m.length + rest.length)), (1, i64 k), (5, i64 m.length)] [.vec true 1 (ints (m ++ rest))] 1))
      (.exit 0 (at_ [(1, i64 (k + rest.length))] [.vec true 1 (ints (m ++ markI k rest.length))] 1))
  | [], m, k, h0, h1, h2 => by
    let t0 : Tp pr := .i (show ((↑(m.length + (0 : Nat)) : Int) : Int) = (↑m.length : Int) by omega)
    let t1 : Tp pr := .b (show (decide ((↑m.length : Int) < (↑m.length : Int))) = false by simp)
    exact .tpe [t0, t1] (Out.exit (0 : Nat) (at_ [((1 : Nat), V.t (T.int IntKind.i64 k))] [Ob.vec true (1 : Nat) (ints (m ++ []))] (1 : Nat))) (by kernel_rfl) ((congrArg (fun x => Out.exit (0 : Nat) (at_ [((1 : Nat), V.t (T.int IntKind.i64 x))] [Ob.vec true (1 : Nat) (ints (m ++ []))] (1 : Nat))) (show (k) = (k + (0 : Int)) by simp [markI])).trans (congrArg (fun x => Out.exit (0 : Nat) (at_ [((1 : Nat), V.t (T.int IntKind.i64 (k + (0 : Int))))] [Ob.vec true (1 : Nat) x] (1 : Nat))) (show (ints (m ++ [])) = (ints (m ++ markI k (0 : Nat))) by simp [markI])))
  | x :: rest, m, k, h0, h1, h2 => by
    simp at h1 h2
    have ih := markIntL_ev rest (m ++ [k]) (k + 1) (by omega) (by omega) (by simp; omega)
    let t0 : Tp pr := .i (show ((↑(m.length + (x :: rest).length) : Int) : Int) = (↑m.length : Int) + ((↑rest.length : Int) + (1 : Int)) by simp)
    let t1 : Tp pr := .b (show (decide ((↑m.length : Int) < (↑m.length : Int) + ((↑rest.length : Int) + (1 : Int)))) = true by (simp; omega))
    let t2 : Tp pr := .m (show (decide ((0 : Int) ≤ (↑m.length : Int) ∧ (↑m.length : Int).toNat < m.length + (x :: rest).length)) = true by simp)
    let t3 : Tp pr := .c (show ((0 : Nat) + (↑m.length : Int).toNat : Nat) = m.length by omega)
    let t4 : Tp pr := .m (show (decide ((ints (m ++ x :: rest)).length = m.length + (x :: rest).length)) = true by simp)
    let t5 : Tp pr := .g .crow (show ((ints (m ++ x :: rest))[m.length]?) = some ([C.t (T.int IntKind.i64 x)]) by simp)
    let t6 : Tp pr := .n .crows (show ((ints (m ++ x :: rest)).set m.length [C.t (T.int IntKind.i64 k)]) = ints (m ++ k :: rest) by simp)
    let t7 : Tp pr := .i (wrap_i64 (a := k + (1 : Int)) (by omega) (by omega))
    let t8 : Tp pr := .i (wrap_i64 (a := (↑m.length : Int) + (1 : Int)) (by omega) (by omega))
    let t9 : Tp pr := .a (Ev.castq (((congrArg (fun x => Q.loop (lq pr (33 : FuncId) (0 : Nat)) (at_ [((0 : Nat), V.vec (0 : Nat) x (1 : Nat) (0 : Nat) x), ((1 : Nat), i64 (k + (1 : Int))), ((5 : Nat), i64 (↑(m ++ [k]).length : Int))] [Ob.vec true (1 : Nat) (ints (m ++ [k] ++ rest))] (1 : Nat))) (show ((m ++ [k]).length + rest.length) = (m.length + (x :: rest).length) by (simp [markI] <;> omega))).trans (congrArg (fun x_1 => Q.loop (lq pr (33 : FuncId) (0 : Nat)) (at_ [((0 : Nat), V.vec (0 : Nat) (m.length + (x :: rest).length) (1 : Nat) (0 : Nat) (m.length + (x :: rest).length)), ((1 : Nat), i64 (k + (1 : Int))), ((5 : Nat), i64 x_1)] [Ob.vec true (1 : Nat) (ints (m ++ [k] ++ rest))] (1 : Nat))) (show ((↑(m ++ [k]).length : Int)) = ((↑m.length : Int) + (1 : Int)) by (simp [markI] <;> omega)))).trans (congrArg (fun x_1 => Q.loop (lq pr (33 : FuncId) (0 : Nat)) (at_ [((0 : Nat), V.vec (0 : Nat) (m.length + (x :: rest).length) (1 : Nat) (0 : Nat) (m.length + (x :: rest).length)), ((1 : Nat), i64 (k + (1 : Int))), ((5 : Nat), i64 ((↑m.length : Int) + (1 : Int)))] [Ob.vec true (1 : Nat) x_1] (1 : Nat))) (show (ints (m ++ [k] ++ rest)) = (ints (m ++ k :: rest)) by (simp [markI] <;> omega)))) (ih))
    exact .tpe [t0, t1, t2, t3, t4, t5, t6, t7, t8, t9] (Out.exit (0 : Nat) (at_ [((1 : Nat), V.t (T.int IntKind.i64 (k + (1 : Int) + (↑rest.length : Int))))] [Ob.vec true (1 : Nat) (ints (m ++ [k] ++ markI (k + (1 : Int)) rest.length))] (1 : Nat))) (by kernel_rfl) ((congrArg (fun x => Out.exit (0 : Nat) (at_ [((1 : Nat), V.t (T.int IntKind.i64 x))] [Ob.vec true (1 : Nat) (ints (m ++ [k] ++ markI (k + (1 : Int)) rest.length))] (1 : Nat))) (show (k + (1 : Int) + (↑rest.length : Int)) = (k + (↑(x :: rest).length : Int)) by (simp [markI] <;> omega))).trans (congrArg (fun x_1 => Out.exit (0 : Nat) (at_ [((1 : Nat), V.t (T.int IntKind.i64 (k + (↑(x :: rest).length : Int))))] [Ob.vec true (1 : Nat) x_1] (1 : Nat))) (show (ints (m ++ [k] ++ markI (k + (1 : Int)) rest.length)) = (ints (m ++ markI k (x :: rest).length)) by (simp [markI] <;> omega))))
theorem markIntS_ev (l : List Int) (k : Int) (h0 : 0 ≤ k) (h : k + l.length ≤ 9000000) (h2 : l.length ≤ 1048576) : Ev pr (.call 33 [.vec 0 l.length 1 0 l.length, i64 k] [.vec true 1 (ints l)]) (.val (i64 (k + l.length)) [.vec true 1 (ints (markI k l.length))]) := by
  have := markIntL_ev l [] k h0 h (by simpa using h2)
  let t0 : Tp pr := .a (Ev.castq (congrArg (fun x => Q.loop (lq pr (33 : FuncId) (0 : Nat)) (at_ [((0 : Nat), V.vec (0 : Nat) x (1 : Nat) (0 : Nat) x), ((1 : Nat), i64 k), ((5 : Nat), i64 (↑(0 : Nat) : Int))] [Ob.vec true (1 : Nat) (ints ([] ++ l))] (1 : Nat))) (show ((0 : Nat) + l.length) = (l.length) by simp)) (this))
  exact .tp [t0] (by kernel_rfl)
theorem heldIntL_ev : ∀ (n : Nat) (m : List Int) (k : Int), 0 ≤ k → k + n ≤ 9000000 → m.length + n ≤ 1048576 →
    Ev pr (.loop (lq pr 34 0) (at_ [(0, .t (.seq 1 ((m ++ markI k n).map intt))), (1, i64 k), (5, i64 m.length)] [] 0)) (.exit 0 (at_ [(1, i64 (k + n))] [] 0))
  | 0, m, k, h0, h1, h2 => by
    let t0 : Tp pr := .i (show ((↑(List.map intt (m ++ markI k (0 : Nat))).length : Int) : Int) = (↑m.length : Int) + (↑(markI k (0 : Nat)).length : Int) by simp)
    let t1 : Tp pr := .b (show (decide ((↑m.length : Int) < (↑m.length : Int) + (0 : Int))) = false by simp)
    exact .tpe [t0, t1] (Out.exit (0 : Nat) (at_ [((1 : Nat), V.t (T.int IntKind.i64 k))] [] (0 : Nat))) (by kernel_rfl) (congrArg (fun x => Out.exit (0 : Nat) (at_ [((1 : Nat), V.t (T.int IntKind.i64 x))] [] (0 : Nat))) (show (k) = (k + (0 : Int)) by simp [markI]))
  | n + 1, m, k, h0, h1, h2 => by
    have ih := heldIntL_ev n (m ++ [k]) (k + 1) (by omega) (by omega) (by simp; omega)
    have hm := markI_len (k + 1) n
    rw [show markI k (n + 1) = k :: markI (k + 1) n from rfl]
    have hg : lkp ((m ++ k :: markI (k + 1) n).map intt) (m.length : Int) = some [T.int .i64 k] := by simp [intt]
    let t0 : Tp pr := .i (show ((↑(List.map intt (m ++ k :: markI (k + (1 : Int)) n)).length : Int) : Int) = (↑m.length : Int) + ((↑(markI (k + (1 : Int)) n).length : Int) + (1 : Int)) by simp)
    let t1 : Tp pr := .b (show (decide ((↑m.length : Int) < (↑m.length : Int) + ((↑(markI (k + (1 : Int)) n).length : Int) + (1 : Int)))) = true by (simp; omega))
    let t2 : Tp pr := .g .row (show (lkp (List.map intt (m ++ k :: markI (k + (1 : Int)) n)) (↑m.length : Int)) = some ([T.int IntKind.i64 k]) from hg)
    let t4 : Tp pr := .i (wrap_i64 (a := k + (1 : Int)) (by omega) (by omega))
    let t5 : Tp pr := .i (wrap_i64 (a := (↑m.length : Int) + (1 : Int)) (by omega) (by omega))
    let t6 : Tp pr := .a (Ev.castq ((congrArg (fun x => Q.loop (lq pr (34 : FuncId) (0 : Nat)) (at_ [((0 : Nat), V.t (T.seq (1 : Nat) x)), ((1 : Nat), i64 (k + (1 : Int))), ((5 : Nat), i64 (↑(m ++ [k]).length : Int))] [] (0 : Nat))) (show (List.map intt (m ++ [k] ++ markI (k + (1 : Int)) n)) = (List.map intt (m ++ k :: markI (k + (1 : Int)) n)) by (simp <;> omega))).trans (congrArg (fun x => Q.loop (lq pr (34 : FuncId) (0 : Nat)) (at_ [((0 : Nat), V.t (T.seq (1 : Nat) (List.map intt (m ++ k :: markI (k + (1 : Int)) n)))), ((1 : Nat), i64 (k + (1 : Int))), ((5 : Nat), i64 x)] [] (0 : Nat))) (show ((↑(m ++ [k]).length : Int)) = ((↑m.length : Int) + (1 : Int)) by (simp <;> omega)))) (ih))
    exact .tpe [t0, t1, t2, .b (show (k != k) = false by simp), t4, t5, t6] (Out.exit (0 : Nat) (at_ [((1 : Nat), V.t (T.int IntKind.i64 (k + (1 : Int) + (↑n : Int))))] [] (0 : Nat))) (by kernel_rfl) (congrArg (fun x => Out.exit (0 : Nat) (at_ [((1 : Nat), V.t (T.int IntKind.i64 x))] [] (0 : Nat))) (show (k + (1 : Int) + (↑n : Int)) = (k + (↑(n + (1 : Nat)) : Int)) by (simp <;> omega)))
theorem heldIntS_ev (n : Nat) (k : Int) (h0 : 0 ≤ k) (h : k + n ≤ 9000000) (h2 : n ≤ 1048576) : Ev pr (.call 34 [.t (.seq 1 ((markI k n).map intt)), i64 k] []) (.val (i64 (k + n)) []) := by
  have := heldIntL_ev n [] k h0 h (by simpa using h2)
  exact .tp [.a (this)] (by kernel_rfl)
theorem eqIntNL_ev : Ev pr (.loop (lq pr 32 0) (at_ [(0, .t .nils), (1, .t (.seq 1 [])), (5, i64 0)] [] 0)) (.exit 0 (at_ [] [] 0)) := by
  let t0 : Tp pr := .i (rfl : ((0 : Int) : Int) = (0 : Int))
  exact .tp [t0, .b (rfl : false = false)] (by kernel_rfl)
theorem eqIntN_ev : Ev pr (.call 32 [.t .nils, .t (.seq 1 [])] []) (.val (bl true) []) := by
  let t0 : Tp pr := .i (rfl : ((0 : Int) : Int) = (0 : Int))
  let t1 : Tp pr := .i (rfl : ((0 : Int) : Int) = (0 : Int))
  exact .tp [t0, t1, .b (rfl : false = false), .a (eqIntNL_ev)] (by kernel_rfl)
theorem markIntNL_ev (k : Int) : Ev pr (.loop (lq pr 33 0) (at_ [(0, .t .nils), (1, i64 k), (5, i64 0)] [] 0)) (.exit 0 (at_ [(1, i64 k)] [] 0)) := by
  let t0 : Tp pr := .i (rfl : ((0 : Int) : Int) = (0 : Int))
  exact .tp [t0, .b (rfl : false = false)] (by kernel_rfl)
theorem markIntN_ev (k : Int) : Ev pr (.call 33 [.t .nils, i64 k] []) (.val (i64 k) []) := by
  have := markIntNL_ev k
  exact .tp [.a (this)] (by kernel_rfl)
theorem heldIntNL_ev (k : Int) : Ev pr (.loop (lq pr 34 0) (at_ [(0, .t .nils), (1, i64 k), (5, i64 0)] [] 0)) (.exit 0 (at_ [(1, i64 k)] [] 0)) := by
  let t0 : Tp pr := .i (rfl : ((0 : Int) : Int) = (0 : Int))
  exact .tp [t0, .b (rfl : false = false)] (by kernel_rfl)
theorem heldIntN_ev (k : Int) : Ev pr (.call 34 [.t .nils, i64 k] []) (.val (i64 k) []) := by
  have := heldIntNL_ev k
  exact .tp [.a (this)] (by kernel_rfl)
end Go.Ev

/- The law: the program's RunProgram returns what the reference's returns. -/
namespace Go.Ev
set_option linter.unusedVariables false
set_option linter.unusedSimpArgs false
open Go.Proofs
set_option maxRecDepth 100000
set_option linter.unusedVariables false
set_option maxHeartbeats 1000000
@[simp] theorem ints_flat (fl : Bool) (n : Nat) (l : List Int) : Ob.flat (.vec fl n (ints l)) = true := by simp [Ob.flat, ints, intc, C.flat, T.flat]
@[simp] theorem markI_take (k : Int) (n : Nat) : List.take n (List.map intt (markI k n)) = List.map intt (markI k n) := List.take_of_length_le (by simp [markI_len])
@[simp] theorem ints_take2 (l : List Int) : List.take l.length (l.map intt) = l.map intt := List.take_of_length_le (by simp)
@[simp] theorem ln_flat (fl : Bool) (l : List Ln) : Ob.flat (.vec fl 3 (l.map Ln.cc)) = true := by simp [Ob.flat, Ln.cc, C.flat, T.flat, Bc.ce]
@[simp] theorem lnb_fz2 (l : List Line) : List.map ((fun x => List.map C.fz x) ∘ Ln.cc) (lnb l) = l.map Line.ce := by rw [← List.map_map]; exact lnb_fz l
@[simp] theorem lnb_take (l : List Line) : List.take l.length ((lnb l).map Ln.cc) = (lnb l).map Ln.cc := List.take_of_length_le (by simp)
theorem prim_none : PrimOk pr := fun f p h => by cases h
theorem markLineS_ev (mt : Int → ByteArray) (hmt : ∀ k, 0 ≤ k → k ≤ 10000000000 → Ev pr (.call 54 [i64 k] []) (.val (.t (.str (mt k))) [])) (l : List Ln) (fl : Bool) (h : l.length ≤ 1048576) (hx : ∀ x ∈ l, x.ex.length ≤ 1048576) (k : Int) (h0 : 0 ≤ k) (h1 : k + marksN l ≤ 9000000) :
    Ev pr (.call 28 [.vec 0 l.length 3 0 l.length, i64 k] [.vec fl 3 (l.map Ln.cc)]) (.val (i64 (k + marksN l)) [.vec fl 3 ((marked mt k l).map Ln.cc)]) := by
  have := markLineL_ev mt hmt l.length h l [] fl k (by simp) hx h0 h1
  exact .tp [.a (this)] (by kernel_rfl)
theorem runProg_len {p : List Line} {lo r : List Int} {fuel c : Int} (h : runProg p lo fuel = some (some r, c)) : r.length = lo.length := by
  unfold runProg at h
  split at h
  · split at h
    · have h2 := Option.some.inj h
      exact runP_len _ _ _ _ _ _ (by rw [h2])
    · cases h
  · cases h
theorem law0_ev (l : List Line) (lo : List Int) (fuel : Int) (hl : l.length ≤ 9223372036854775807) (hs : ∀ x ∈ l, x.ok) (hlo : lo.length ≤ 9223372036854775807) : Ev pr (.call 7 [lines l, .t (.seq 1 (lo.map intt)), i64 fuel] []) (.val (bl true) []) := by
  by_cases hz0 : (lo.length : Int) > 1048576
  · let t0 : Tp pr := .i (show ((↑(List.map intt lo).length : Int) : Int) = (↑lo.length : Int) by simp)
    let t1 : Tp pr := .b (show (decide ((↑lo.length : Int) > (1048576 : Int))) = true by (simp; omega))
    exact .tp [t0, t1] (by kernel_rfl)
  · have hz1 : lo.length ≤ 1048576 := by omega
    have h0 := szLineS_ev l 1048576 (by omega) (by omega) hl hs
    by_cases hz : szLineS l 1048576 < 0
    · let t0 : Tp pr := .i (show ((↑(List.map intt lo).length : Int) : Int) = (↑lo.length : Int) by simp)
      let t1 : Tp pr := .b (show (decide ((↑lo.length : Int) > (1048576 : Int))) = false by (simp; omega))
      let t3 : Tp pr := .b (show (decide (szLineS l (1048576 : Int) < (0 : Int))) = true by (simp; omega))
      exact .tp [t0, t1, .a (h0), t3] (by kernel_rfl)
    · obtain ⟨k1, k2, k5⟩ := szLineS_all l hz
      have k3 : ∀ x ∈ l, x.expr.length ≤ 1048576 ∧ ∀ y ∈ x.expr, y.text.size ≤ 9223372036854775807 := fun x hx => ⟨k2 x hx, (hs x hx).text⟩
      have k6 := marksN_nonneg (lnb l)
      have h1 := toLineS_ev l k1 k2
      have g2 := toIntS_ev lo hz1
      have g6 := eqIntS_ev lo hz1
      have h2 := RunProgramS_ev l lo fuel k1 k3 hz1
      have h3 := RunProgramI_ev l lo fuel k1 k3 hz1
      have h4 := eqLineS_ev l k1 k2
      have h5 := markLineS_ev mText markText_ev (lnb l) l.isEmpty (by simpa using k1) (fun x hx => by
        simp only [lnb, List.mem_map] at hx
        obtain ⟨y, hy, rfl⟩ := hx
        simpa using k2 y hy) 1 (by omega) (by omega)
      rw [lnb_len] at h5
      have g7 := markIntS_ev lo (1 + marksN (lnb l)) (by omega) (by omega) hz1
      have e1 := eqIntN_ev
      have e2 := markIntN_ev 1
      have e3 := heldIntN_ev 1
      cases hm : runProg l lo fuel with
      | none =>
        rw [hm] at h2 h3
        let t0 : Tp pr := .i (show ((↑(List.map intt lo).length : Int) : Int) = (↑lo.length : Int) by simp)
        let t1 : Tp pr := .b (show (decide ((↑lo.length : Int) > (1048576 : Int))) = false by (simp; omega))
        let t3 : Tp pr := .b (show (decide (szLineS l (1048576 : Int) < (0 : Int))) = false by (simp; omega))
        let t6 : Tp pr := .m (show (decide ((List.map Ln.cc (lnb l)).length = l.length ∧ (0 : Nat) + l.length ≤ l.length)) = true by simp)
        let t7 : Tp pr := .n .rows (show (List.map (fun x => List.map C.fz x) (List.take l.length (List.drop (0 : Nat) (List.map Ln.cc (lnb l))))) = List.map Line.ce l by simp)
        let t8 : Tp pr := .m (show (decide ((ints lo).length = lo.length ∧ (0 : Nat) + lo.length ≤ lo.length)) = true by simp)
        let t9 : Tp pr := .n .rows (show (List.map (fun x => List.map C.fz x) (List.take lo.length (List.drop (0 : Nat) (ints lo)))) = List.map intt lo by simp)
        let t13 : Tp pr := .m (show (decide ((List.map Ln.cc (lnb l)).length = l.length ∧ (0 : Nat) + l.length ≤ l.length)) = true by simp)
        let t14 : Tp pr := .n .rows (show (List.map (fun x => List.map C.fz x) (List.take l.length (List.drop (0 : Nat) (List.map Ln.cc (lnb l))))) = List.map Line.ce l by simp)
        let t15 : Tp pr := .m (show (decide ((ints lo).length = lo.length ∧ (0 : Nat) + lo.length ≤ lo.length)) = true by simp)
        let t16 : Tp pr := .n .rows (show (List.map (fun x => List.map C.fz x) (List.take lo.length (List.drop (0 : Nat) (ints lo)))) = List.map intt lo by simp)
        let t24 : Tp pr := .m (show (decide ((List.map Ln.cc (lnb l)).length = l.length ∧ (0 : Nat) + l.length ≤ l.length)) = true by simp)
        let t25 : Tp pr := .n .rows (show (List.map (fun x => List.map C.fz x) (List.take l.length (List.drop (0 : Nat) (List.map Ln.cc (lnb l))))) = List.map Line.ce l by simp)
        let t26 : Tp pr := .m (show (decide ((List.map Ln.cc (lnb l)).length = l.length ∧ (0 : Nat) + l.length ≤ l.length)) = true by simp)
        let t27 : Tp pr := .n .rows (show (List.map (fun x => List.map C.fz x) (List.take l.length (List.drop (0 : Nat) (List.map Ln.cc (lnb l))))) = List.map Line.ce l by simp)
        let t32 : Tp pr := .m (show (decide ((ints lo).length = lo.length ∧ (0 : Nat) + lo.length ≤ lo.length)) = true by simp)
        let t33 : Tp pr := .n .rows (show (List.map (fun x => List.map C.fz x) (List.take lo.length (List.drop (0 : Nat) (ints lo)))) = List.map intt lo by simp)
        let t34 : Tp pr := .m (show (decide ((ints lo).length = lo.length ∧ (0 : Nat) + lo.length ≤ lo.length)) = true by simp)
        let t35 : Tp pr := .n .rows (show (List.map (fun x => List.map C.fz x) (List.take lo.length (List.drop (0 : Nat) (ints lo)))) = List.map intt lo by simp)
        let t41 : Tp pr := .b (show (decide ((1 : Int) + marksN (lnb l) + (↑lo.length : Int) < (0 : Int))) = false by (simp; omega))
        let t52 : Tp pr := .m (show (decide ((List.map Ln.cc (lnb l)).length = l.length ∧ (0 : Nat) + l.length ≤ l.length)) = true by simp)
        let t53 : Tp pr := .n .rows (show (List.map (fun x => List.map C.fz x) (List.take l.length (List.drop (0 : Nat) (List.map Ln.cc (lnb l))))) = List.map Line.ce l by simp)
        let t54 : Tp pr := .m (show (decide ((ints lo).length = lo.length ∧ (0 : Nat) + lo.length ≤ lo.length)) = true by simp)
        let t55 : Tp pr := .n .rows (show (List.map (fun x => List.map C.fz x) (List.take lo.length (List.drop (0 : Nat) (ints lo)))) = List.map intt lo by simp)
        exact .tp [t0, t1, .a (h0), t3, .a (h1), .a (g2), t6, t7, t8, t9, .a (h2), .a (h1), .a (g2), t13, t14, t15, t16, .a (h3), .m (rfl : true = true), .a (e1), .b (rfl : false = false), .b (rfl : false = false), .b (rfl : false = false), .a (h1), t24, t25, t26, t27, .a (h4), .m (rfl : true = true), .b (rfl : false = false), .a (g2), t32, t33, t34, t35, .a (g6), .m (rfl : true = true), .b (rfl : false = false), .a (h5), .a (g7), t41, .a (e1), .b (rfl : false = false), .b (rfl : false = false), .b (rfl : false = false), .a (e2), .a (e3), .b (rfl : false = false), .b (rfl : false = false), .a (h1), .a (g2), t52, t53, t54, t55, .a (h3), .m (rfl : true = true), .a (e1), .b (rfl : false = false), .b (rfl : false = false), .b (rfl : false = false), .a (e3), .b (rfl : false = false), .b (rfl : false = false)] (by kernel_rfl)
      | some q =>
        obtain ⟨r, c⟩ := q
        rw [hm] at h2 h3
        cases r with
        | none => (
          let t0 : Tp pr := .i (show ((↑(List.map intt lo).length : Int) : Int) = (↑lo.length : Int) by simp)
          let t1 : Tp pr := .b (show (decide ((↑lo.length : Int) > (1048576 : Int))) = false by (simp; omega))
          let t3 : Tp pr := .b (show (decide (szLineS l (1048576 : Int) < (0 : Int))) = false by (simp; omega))
          let t6 : Tp pr := .m (show (decide ((List.map Ln.cc (lnb l)).length = l.length ∧ (0 : Nat) + l.length ≤ l.length)) = true by simp)
          let t7 : Tp pr := .n .rows (show (List.map (fun x => List.map C.fz x) (List.take l.length (List.drop (0 : Nat) (List.map Ln.cc (lnb l))))) = List.map Line.ce l by simp)
          let t8 : Tp pr := .m (show (decide ((ints lo).length = lo.length ∧ (0 : Nat) + lo.length ≤ lo.length)) = true by simp)
          let t9 : Tp pr := .n .rows (show (List.map (fun x => List.map C.fz x) (List.take lo.length (List.drop (0 : Nat) (ints lo)))) = List.map intt lo by simp)
          let t13 : Tp pr := .m (show (decide ((List.map Ln.cc (lnb l)).length = l.length ∧ (0 : Nat) + l.length ≤ l.length)) = true by simp)
          let t14 : Tp pr := .n .rows (show (List.map (fun x => List.map C.fz x) (List.take l.length (List.drop (0 : Nat) (List.map Ln.cc (lnb l))))) = List.map Line.ce l by simp)
          let t15 : Tp pr := .m (show (decide ((ints lo).length = lo.length ∧ (0 : Nat) + lo.length ≤ lo.length)) = true by simp)
          let t16 : Tp pr := .n .rows (show (List.map (fun x => List.map C.fz x) (List.take lo.length (List.drop (0 : Nat) (ints lo)))) = List.map intt lo by simp)
          let t24 : Tp pr := .m (show (decide ((List.map Ln.cc (lnb l)).length = l.length ∧ (0 : Nat) + l.length ≤ l.length)) = true by simp)
          let t25 : Tp pr := .n .rows (show (List.map (fun x => List.map C.fz x) (List.take l.length (List.drop (0 : Nat) (List.map Ln.cc (lnb l))))) = List.map Line.ce l by simp)
          let t26 : Tp pr := .m (show (decide ((List.map Ln.cc (lnb l)).length = l.length ∧ (0 : Nat) + l.length ≤ l.length)) = true by simp)
          let t27 : Tp pr := .n .rows (show (List.map (fun x => List.map C.fz x) (List.take l.length (List.drop (0 : Nat) (List.map Ln.cc (lnb l))))) = List.map Line.ce l by simp)
          let t32 : Tp pr := .m (show (decide ((ints lo).length = lo.length ∧ (0 : Nat) + lo.length ≤ lo.length)) = true by simp)
          let t33 : Tp pr := .n .rows (show (List.map (fun x => List.map C.fz x) (List.take lo.length (List.drop (0 : Nat) (ints lo)))) = List.map intt lo by simp)
          let t34 : Tp pr := .m (show (decide ((ints lo).length = lo.length ∧ (0 : Nat) + lo.length ≤ lo.length)) = true by simp)
          let t35 : Tp pr := .n .rows (show (List.map (fun x => List.map C.fz x) (List.take lo.length (List.drop (0 : Nat) (ints lo)))) = List.map intt lo by simp)
          let t41 : Tp pr := .b (show (decide ((1 : Int) + marksN (lnb l) + (↑lo.length : Int) < (0 : Int))) = false by (simp; omega))
          let t52 : Tp pr := .m (show (decide ((List.map Ln.cc (lnb l)).length = l.length ∧ (0 : Nat) + l.length ≤ l.length)) = true by simp)
          let t53 : Tp pr := .n .rows (show (List.map (fun x => List.map C.fz x) (List.take l.length (List.drop (0 : Nat) (List.map Ln.cc (lnb l))))) = List.map Line.ce l by simp)
          let t54 : Tp pr := .m (show (decide ((ints lo).length = lo.length ∧ (0 : Nat) + lo.length ≤ lo.length)) = true by simp)
          let t55 : Tp pr := .n .rows (show (List.map (fun x => List.map C.fz x) (List.take lo.length (List.drop (0 : Nat) (ints lo)))) = List.map intt lo by simp)
          exact .tp [t0, t1, .a (h0), t3, .a (h1), .a (g2), t6, t7, t8, t9, .a (h2), .a (h1), .a (g2), t13, t14, t15, t16, .a (h3), .m (rfl : true = true), .a (e1), .b (rfl : false = false), .b (show (c != c) = false by simp), .b (rfl : false = false), .a (h1), t24, t25, t26, t27, .a (h4), .m (rfl : true = true), .b (rfl : false = false), .a (g2), t32, t33, t34, t35, .a (g6), .m (rfl : true = true), .b (rfl : false = false), .a (h5), .a (g7), t41, .a (e1), .b (rfl : false = false), .b (show (c != c) = false by simp), .b (rfl : false = false), .a (e2), .a (e3), .b (rfl : false = false), .b (rfl : false = false), .a (h1), .a (g2), t52, t53, t54, t55, .a (h3), .m (rfl : true = true), .a (e1), .b (rfl : false = false), .b (show (c != c) = false by simp), .b (rfl : false = false), .a (e3), .b (rfl : false = false), .b (rfl : false = false)] (by kernel_rfl))
        | some r =>
          have hr := runProg_len hm
          have f1 := eqIntS_ev r (by omega)
          have f2 := markIntS_ev r 1 (by omega) (by omega) (by omega)
          have f3 := heldIntS_ev r.length 1 (by omega) (by omega) (by omega)
          have f4 := markI_len 1 r.length
          let t0 : Tp pr := .i (show ((↑(List.map intt lo).length : Int) : Int) = (↑lo.length : Int) by simp)
          let t1 : Tp pr := .b (show (decide ((↑lo.length : Int) > (1048576 : Int))) = false by (simp; omega))
          let t3 : Tp pr := .b (show (decide (szLineS l (1048576 : Int) < (0 : Int))) = false by (simp; omega))
          let t6 : Tp pr := .m (show (decide ((List.map Ln.cc (lnb l)).length = l.length ∧ (0 : Nat) + l.length ≤ l.length)) = true by simp)
          let t7 : Tp pr := .n .rows (show (List.map (fun x => List.map C.fz x) (List.take l.length (List.drop (0 : Nat) (List.map Ln.cc (lnb l))))) = List.map Line.ce l by simp)
          let t8 : Tp pr := .m (show (decide ((ints lo).length = lo.length ∧ (0 : Nat) + lo.length ≤ lo.length)) = true by simp)
          let t9 : Tp pr := .n .rows (show (List.map (fun x => List.map C.fz x) (List.take lo.length (List.drop (0 : Nat) (ints lo)))) = List.map intt lo by simp)
          let t13 : Tp pr := .m (show (decide ((List.map Ln.cc (lnb l)).length = l.length ∧ (0 : Nat) + l.length ≤ l.length)) = true by simp)
          let t14 : Tp pr := .n .rows (show (List.map (fun x => List.map C.fz x) (List.take l.length (List.drop (0 : Nat) (List.map Ln.cc (lnb l))))) = List.map Line.ce l by simp)
          let t15 : Tp pr := .m (show (decide ((ints lo).length = lo.length ∧ (0 : Nat) + lo.length ≤ lo.length)) = true by simp)
          let t16 : Tp pr := .n .rows (show (List.map (fun x => List.map C.fz x) (List.take lo.length (List.drop (0 : Nat) (ints lo)))) = List.map intt lo by simp)
          let t18 : Tp pr := .m (show (true && [Ob.vec true (1 : Nat) (ints r)].all Ob.flat) = true by simp)
          let t19 : Tp pr := .m (show (decide ((ints r).length = r.length ∧ (0 : Nat) + r.length ≤ r.length)) = true by simp)
          let t20 : Tp pr := .n .rows (show (List.map (fun x => List.map C.fz x) (List.take r.length (List.drop (0 : Nat) (ints r)))) = List.map intt r by simp)
          let t27 : Tp pr := .m (show (decide ((List.map Ln.cc (lnb l)).length = l.length ∧ (0 : Nat) + l.length ≤ l.length)) = true by simp)
          let t28 : Tp pr := .n .rows (show (List.map (fun x => List.map C.fz x) (List.take l.length (List.drop (0 : Nat) (List.map Ln.cc (lnb l))))) = List.map Line.ce l by simp)
          let t29 : Tp pr := .m (show (decide ((List.map Ln.cc (lnb l)).length = l.length ∧ (0 : Nat) + l.length ≤ l.length)) = true by simp)
          let t30 : Tp pr := .n .rows (show (List.map (fun x => List.map C.fz x) (List.take l.length (List.drop (0 : Nat) (List.map Ln.cc (lnb l))))) = List.map Line.ce l by simp)
          let t35 : Tp pr := .m (show (decide ((ints lo).length = lo.length ∧ (0 : Nat) + lo.length ≤ lo.length)) = true by simp)
          let t36 : Tp pr := .n .rows (show (List.map (fun x => List.map C.fz x) (List.take lo.length (List.drop (0 : Nat) (ints lo)))) = List.map intt lo by simp)
          let t37 : Tp pr := .m (show (decide ((ints lo).length = lo.length ∧ (0 : Nat) + lo.length ≤ lo.length)) = true by simp)
          let t38 : Tp pr := .n .rows (show (List.map (fun x => List.map C.fz x) (List.take lo.length (List.drop (0 : Nat) (ints lo)))) = List.map intt lo by simp)
          let t44 : Tp pr := .b (show (decide ((1 : Int) + marksN (lnb l) + (↑lo.length : Int) < (0 : Int))) = false by (simp; omega))
          let t45 : Tp pr := .m (show (decide ((ints r).length = r.length ∧ (0 : Nat) + r.length ≤ r.length)) = true by simp)
          let t46 : Tp pr := .n .rows (show (List.map (fun x => List.map C.fz x) (List.take r.length (List.drop (0 : Nat) (ints r)))) = List.map intt r by simp)
          let t53 : Tp pr := .m (show (decide ((ints (markI (1 : Int) r.length)).length = r.length ∧ (0 : Nat) + r.length ≤ r.length)) = true by (simp; omega))
          let t54 : Tp pr := .n .rows (show (List.map (fun x => List.map C.fz x) (List.take r.length (List.drop (0 : Nat) (ints (markI (1 : Int) r.length))))) = List.map intt (markI (1 : Int) r.length) by simp)
          let t58 : Tp pr := .b (show ((1 : Int) + (↑r.length : Int) != (1 : Int) + (↑r.length : Int)) = false by simp)
          let t61 : Tp pr := .m (show (decide ((List.map Ln.cc (lnb l)).length = l.length ∧ (0 : Nat) + l.length ≤ l.length)) = true by simp)
          let t62 : Tp pr := .n .rows (show (List.map (fun x => List.map C.fz x) (List.take l.length (List.drop (0 : Nat) (List.map Ln.cc (lnb l))))) = List.map Line.ce l by simp)
          let t63 : Tp pr := .m (show (decide ((ints lo).length = lo.length ∧ (0 : Nat) + lo.length ≤ lo.length)) = true by simp)
          let t64 : Tp pr := .n .rows (show (List.map (fun x => List.map C.fz x) (List.take lo.length (List.drop (0 : Nat) (ints lo)))) = List.map intt lo by simp)
          let t66 : Tp pr := .m (show (true && [Ob.vec true (1 : Nat) (ints r)].all Ob.flat) = true by simp)
          let t67 : Tp pr := .m (show (decide ((ints r).length = r.length ∧ (0 : Nat) + r.length ≤ r.length)) = true by simp)
          let t68 : Tp pr := .n .rows (show (List.map (fun x => List.map C.fz x) (List.take r.length (List.drop (0 : Nat) (ints r)))) = List.map intt r by simp)
          let t74 : Tp pr := .m (show (decide ((ints (markI (1 : Int) r.length)).length = r.length ∧ (0 : Nat) + r.length ≤ r.length)) = true by (simp; omega))
          let t75 : Tp pr := .n .rows (show (List.map (fun x => List.map C.fz x) (List.take r.length (List.drop (0 : Nat) (ints (markI (1 : Int) r.length))))) = List.map intt (markI (1 : Int) r.length) by simp)
          let t79 : Tp pr := .b (show ((1 : Int) + (↑r.length : Int) != (1 : Int) + (↑r.length : Int)) = false by simp)
          exact .tp [t0, t1, .a (h0), t3, .a (h1), .a (g2), t6, t7, t8, t9, .a (h2), .a (h1), .a (g2), t13, t14, t15, t16, .a (h3), t18, t19, t20, .a (f1), .m (rfl : true = true), .b (rfl : false = false), .b (rfl : false = false), .b (rfl : false = false), .a (h1), t27, t28, t29, t30, .a (h4), .m (rfl : true = true), .b (rfl : false = false), .a (g2), t35, t36, t37, t38, .a (g6), .m (rfl : true = true), .b (rfl : false = false), .a (h5), .a (g7), t44, t45, t46, .a (f1), .m (rfl : true = true), .b (rfl : false = false), .b (rfl : false = false), .b (rfl : false = false), .a (f2), t53, t54, .a (f3), .m (rfl : true = true), .b (rfl : false = false), t58, .a (h1), .a (g2), t61, t62, t63, t64, .a (h3), t66, t67, t68, .a (f1), .m (rfl : true = true), .b (rfl : false = false), .b (rfl : false = false), .b (rfl : false = false), t74, t75, .a (f3), .m (rfl : true = true), .b (rfl : false = false), t79] (by kernel_rfl)
theorem law_ev (l : List Line) (h : l.length ≤ 9223372036854775807 ∧ ∀ x ∈ l, x.wf) (lo : List Int) (h2 : lo.length ≤ 9223372036854775807 ∧ ∀ x ∈ lo, (Lit.int .i64 x).wf = true) (fuel : Int) (h3 : (Lit.int .i64 fuel).wf = true) :
    Ev pr (.call 7 [lines l, .t (.seq 1 (lo.map intt)), i64 fuel] []) (.val (.t (.bool true)) []) := law0_ev l lo fuel h.1 (fun x hx => (h.2 x hx).ok) h2.1
end Go.Ev
