import Derived.Test.YtipolnpffmfmmaaKFnHeapSteps5
/- Heaps that are drawn. -/
namespace Go.Ev
set_option linter.unusedVariables false
set_option linter.unusedSimpArgs false
open Go.Proofs
set_option maxRecDepth 100000
set_option linter.unusedVariables false
set_option maxHeartbeats 4000000
attribute [local simp] rowD_len rowD_fz rowD_take ints_takeD
@[local simp] theorem take_snocD {α β : Type} (f : α → β) (l : List α) (e : β) : List.take (l.length + 1) (l.map f ++ [e]) = l.map f ++ [e] := List.take_of_length_le (by simp)
@[local simp] theorem take_snocD2 {α β : Type} (f : α → β) (l : List α) (e : β) : List.take (l.length + 1) ((l.map f).append [e]) = (l.map f).append [e] := List.take_of_length_le (by simp)
theorem heap_ex (bs : List Int) (hb : okB bs) (a s : Int) (h0 : 0 ≤ a) (h1 : a ≤ 10000000) :
    ∃ (h : Hp) (a' s' : Int), h.objects.length ≤ 41 ∧ (∀ x ∈ h.objects, x.links.length ≤ 5) ∧ h.roots.length ≤ 5 ∧ (a ≤ a' ∧ a' ≤ a + 1000) ∧
      Ev pr (.call 65 [.ptr 0 1 0 0] [cuB bs a s]) (.val (vs h.ce) [cuB bs a' s']) := by
  obtain ⟨n, a1, s1, hn, ha1, e1⟩ := pick_ex bs hb a s h0 (by omega) 10 (by omega)
  obtain ⟨v, a2, s2, ha2, e2⟩ := one_ex bs hb a1 s1 (by omega) (by omega) 20 (by omega)
  obtain ⟨n, rfl⟩ : ∃ m : Nat, n = m := ⟨n.toNat, by omega⟩
  cases v with
  | false =>
    obtain ⟨os', a3, s3, ho, hx', ha3, l1⟩ := hL1_ex bs hb n (by omega) n [] a2 s2 (by omega) (by omega) (by simp) (by simp)
    obtain ⟨m, a4, s4, hm, ha4, e4⟩ := pick_ex bs hb a3 s3 (by omega) (by omega) 4 (by omega)
    obtain ⟨m, rfl⟩ : ∃ k : Nat, m = k := ⟨m.toNat, by omega⟩
    obtain ⟨l', a5, s5, hl, ha5, l3⟩ := hL3_ex bs hb n (by omega) (by omega) os'.length (rowD os') m [] a4 s4 (by omega) (by omega) (by simp; omega)
    simp at hl ho
    by_cases hn0 : 0 < (n : Int)
    · obtain ⟨w, b1, t1', hb1, g1⟩ := one_ex bs hb a5 s5 (by omega) (by omega) 20 (by omega)
      cases w with
      | false =>
        refine ⟨⟨os', l'⟩, b1, t1', ?_, ?_, ?_, ?_, ?_⟩
        · dsimp only; omega
        · exact fun x hx => by have := hx' x hx; omega
        · dsimp only; omega
        · omega
        · unfold cuB at *
          let t6 : Tp pr := .b (show (decide ((↑n : Int) > (0 : Int))) = true by (simp; omega))
          let t9 : Tp pr := .m (show (decide ((rowD os').length = os'.length ∧ (0 : Nat) + os'.length ≤ os'.length)) = true by simp)
          let t10 : Tp pr := .n .rows (show (List.map (fun x => List.map C.fz x) (List.take os'.length (List.drop (0 : Nat) (rowD os')))) = List.map Obj.ce os' by simp)
          let t11 : Tp pr := .m (show (decide ((ints l').length = l'.length ∧ (0 : Nat) + l'.length ≤ l'.length)) = true by simp)
          let t12 : Tp pr := .n .rows (show (List.map (fun x => List.map C.fz x) (List.take l'.length (List.drop (0 : Nat) (ints l')))) = List.map intt l' by simp)
          exact .tp [.a (e1), .a (e2), .b (rfl : false = false), .a (l1), .a (e4), .a (l3), t6, .a (g1), .b (rfl : false = false), t9, t10, t11, t12] (by kernel_rfl)
      | true =>
        obtain ⟨v3, b2, t2', hv3, hb2, g2⟩ := pick_ex bs hb b1 t1' (by omega) (by omega) 3 (by omega)
        obtain ⟨o0, os2, ho2⟩ : ∃ o0 os2, os' = o0 :: os2 := by
          cases os' with
          | nil => simp at ho; omega
          | cons x l => exact ⟨x, l, rfl⟩
        subst ho2
        by_cases hz : v3 = 0
        · obtain ⟨mk, b3, t3', hmk, hb3, g3⟩ := among_ex bs hb b2 t2' (by omega) (by omega) [-1, 1000, 1001] (by simp) (by simp)
          subst hz
          refine ⟨⟨⟨mk, o0.links⟩ :: os2, l'⟩, b3, t3', ?_, ?_, ?_, ?_, ?_⟩
          · simp at ho ⊢; omega
          · intro x hx
            rcases List.mem_cons.1 hx with rfl | hx
            · have := hx' o0 (by simp); show o0.links.length ≤ 5; omega
            · have := hx' x (by simp [hx]); omega
          · dsimp only; omega
          · omega
          · unfold cuB at *
            rw [show rowD (o0 :: os2) = [C.t (.int .i64 o0.mark), C.t (.seq 1 (o0.links.map intt))] :: rowD os2 from rfl] at *
            let t6 : Tp pr := .b (show (decide ((↑n : Int) > (0 : Int))) = true by (simp; omega))
            let t16 : Tp pr := .n .rows (show (List.map (fun x => List.map C.fz x) (List.take (3 : Nat) (List.drop (0 : Nat) [[C.t (T.int IntKind.i64 (-1 : Int))], [C.t (T.int IntKind.i64 (1000 : Int))], [C.t (T.int IntKind.i64 (1001 : Int))]]))) = [[(C.t (T.int IntKind.i64 (-1 : Int))).fz], [(C.t (T.int IntKind.i64 (1000 : Int))).fz], [(C.t (T.int IntKind.i64 (1001 : Int))).fz]] by simp)
            let t23 : Tp pr := .m (show (decide (([C.t (T.int IntKind.i64 o0.mark), C.t (T.seq (1 : Nat) (List.map intt o0.links))] :: rowD os2).length = (o0 :: os2).length)) = true by simp)
            let t24 : Tp pr := .g .crow (show (some [C.t (T.int IntKind.i64 o0.mark), C.t (T.seq (1 : Nat) (List.map intt o0.links))]) = some ([C.t (T.int IntKind.i64 o0.mark), C.t (T.seq (1 : Nat) (List.map intt o0.links))]) by simp)
            let t25 : Tp pr := .m (show (decide (([C.t (T.int IntKind.i64 o0.mark), C.t (T.seq (1 : Nat) (List.map intt o0.links))] :: rowD os2).length = (o0 :: os2).length)) = true by simp)
            let t26 : Tp pr := .g .crow (show (some [C.t (T.int IntKind.i64 o0.mark), C.t (T.seq (1 : Nat) (List.map intt o0.links))]) = some ([C.t (T.int IntKind.i64 o0.mark), C.t (T.seq (1 : Nat) (List.map intt o0.links))]) by simp)
            let t27 : Tp pr := .n .crows (show (([C.t (T.int IntKind.i64 o0.mark), C.t (T.seq (1 : Nat) (List.map intt o0.links))] :: rowD os2).set (0 : Nat) [C.t (T.int IntKind.i64 mk), C.t (T.seq (1 : Nat) (List.map intt o0.links))]) = [C.t (T.int IntKind.i64 mk), C.t (T.seq (1 : Nat) (List.map intt o0.links))] :: rowD os2 by simp)
            let t29 : Tp pr := .m (show (decide (([C.t (T.int IntKind.i64 mk), C.t (T.seq (1 : Nat) (List.map intt o0.links))] :: rowD os2).length = (o0 :: os2).length ∧ (0 : Nat) + (o0 :: os2).length ≤ (o0 :: os2).length)) = true by simp)
            let t30 : Tp pr := .n .rows (show (List.map (fun x => List.map C.fz x) (List.take (o0 :: os2).length (List.drop (0 : Nat) ([C.t (T.int IntKind.i64 mk), C.t (T.seq (1 : Nat) (List.map intt o0.links))] :: rowD os2)))) = [(C.t (T.int IntKind.i64 mk)).fz, (C.t (T.seq (1 : Nat) (List.map intt o0.links))).fz] :: List.map Obj.ce os2 by simp)
            let t31 : Tp pr := .m (show (decide ((ints l').length = l'.length ∧ (0 : Nat) + l'.length ≤ l'.length)) = true by simp)
            let t32 : Tp pr := .n .rows (show (List.map (fun x => List.map C.fz x) (List.take l'.length (List.drop (0 : Nat) (ints l')))) = List.map intt l' by simp)
            exact .tp [.a (e1), .a (e2), .b (rfl : false = false), .a (l1), .a (e4), .a (l3), t6, .a (g1), .b (rfl : true = true), .a (g2), .b (rfl : true = true), .m (rfl : true = true), .m (rfl : true = true), .m (rfl : true = true), .m (rfl : true = true), .m (rfl : true = true), t16, .a (g3), .m (rfl : true = true), .m (rfl : true = true), .c (rfl : ((0 : Nat)) = _), .m (rfl : true = true), .m (rfl : true = true), t23, t24, t25, t26, t27, .m (rfl : true = true), t29, t30, t31, t32] (by kernel_rfl)
        · by_cases hz1 : v3 = 1
          · obtain ⟨rt, b3, t3', hrt, hb3, g3⟩ := among_ex bs hb b2 t2' (by omega) (by omega) [-2, (n : Int)] (by simp) (by simp)
            subst hz1
            refine ⟨⟨o0 :: os2, l' ++ [rt]⟩, b3, t3', ?_, ?_, ?_, ?_, ?_⟩
            · dsimp only; omega
            · exact fun x hx => by have := hx' x hx; omega
            · simp at hl ⊢; omega
            · omega
            · unfold cuB at *
              let t6 : Tp pr := .b (show (decide ((↑n : Int) > (0 : Int))) = true by (simp; omega))
              let t18 : Tp pr := .n .rows (show (List.map (fun x => List.map C.fz x) (List.take (2 : Nat) (List.drop (0 : Nat) [[C.t (T.int IntKind.i64 (-2 : Int))], [C.t (T.int IntKind.i64 (↑n : Int))]]))) = [[(C.t (T.int IntKind.i64 (-2 : Int))).fz], [(C.t (T.int IntKind.i64 (↑n : Int))).fz]] by simp)
              let t23 : Tp pr := .m (show (decide ((ints l').length = l'.length ∧ (0 : Nat) + l'.length ≤ l'.length ∧ l'.length + (1 : Nat) ≤ (4294967296 : Nat))) = true by (simp; omega))
              let t24 : Tp pr := .b (show (decide (l'.length + (1 : Nat) ≤ l'.length)) = false by simp)
              let t26 : Tp pr := .n .crows (show ((List.take l'.length (ints l')).append (List.take (1 : Nat) (List.drop (0 : Nat) [[C.t (T.int IntKind.i64 rt)]]))) = ints l' ++ [[C.t (T.int IntKind.i64 rt)]] by simp)
              let t30 : Tp pr := .m (show (decide ((rowD (o0 :: os2)).length = (o0 :: os2).length ∧ (0 : Nat) + (o0 :: os2).length ≤ (o0 :: os2).length)) = true by simp)
              let t31 : Tp pr := .n .rows (show (List.map (fun x => List.map C.fz x) (List.take (o0 :: os2).length (List.drop (0 : Nat) (rowD (o0 :: os2))))) = o0.ce :: List.map Obj.ce os2 by simp)
              let t32 : Tp pr := .m (show (decide (((ints l').append [[C.t (T.int IntKind.i64 rt)]]).length = l'.length + (1 : Nat) ∧ (0 : Nat) + (l'.length + (1 : Nat)) ≤ l'.length + (1 : Nat))) = true by simp)
              let t33 : Tp pr := .n .rows (show (List.map (fun x => List.map C.fz x) (List.take (l'.length + (1 : Nat)) (List.drop (0 : Nat) ((ints l').append [[C.t (T.int IntKind.i64 rt)]])))) = List.map intt l' ++ [[(C.t (T.int IntKind.i64 rt)).fz]] by simp)
              exact .tpe [.a (e1), .a (e2), .b (rfl : false = false), .a (l1), .a (e4), .a (l3), t6, .a (g1), .b (rfl : true = true), .a (g2), .b (rfl : false = false), .b (rfl : true = true), .m (rfl : true = true), .m (rfl : true = true), .m (rfl : true = true), .m (rfl : true = true), .m (rfl : true = true), .m (rfl : true = true), t18, .a (g3), .m (rfl : true = true), .m (rfl : true = true), .m (rfl : true = true), t23, t24, .c (rfl : (l'.length + (1 : Nat)) = _), t26, .m (rfl : true = true), .m (rfl : true = true), .m (rfl : true = true), t30, t31, t32, t33] (Out.val (V.agg [V.t (T.seq (2 : Nat) ([T.int IntKind.i64 o0.mark, T.seq (1 : Nat) (List.map intt o0.links)] :: List.map Obj.ce os2)), V.t (T.seq (1 : Nat) ((List.map intt l').append [[T.int IntKind.i64 rt]]))]) [Ob.box [V.t (T.seq (1 : Nat) (List.map u8t bs)), V.t (T.int IntKind.i64 b3), V.t (T.int IntKind.u64 t3')]]) (by kernel_rfl) ((congrArg (fun x => Out.val (V.agg [V.t (T.seq (2 : Nat) x), V.t (T.seq (1 : Nat) ((List.map intt l').append [[T.int IntKind.i64 rt]]))]) [Ob.box [V.t (T.seq (1 : Nat) (List.map u8t bs)), V.t (T.int IntKind.i64 b3), V.t (T.int IntKind.u64 t3')]]) (show ([T.int IntKind.i64 o0.mark, T.seq (1 : Nat) (List.map intt o0.links)] :: List.map Obj.ce os2) = (List.map Obj.ce (Hp.mk (o0 :: os2) (l' ++ [rt])).objects) by simp [intt, Obj.ce])).trans (congrArg (fun x => Out.val (V.agg [V.t (T.seq (2 : Nat) (List.map Obj.ce (Hp.mk (o0 :: os2) (l' ++ [rt])).objects)), V.t (T.seq (1 : Nat) x)]) [Ob.box [V.t (T.seq (1 : Nat) (List.map u8t bs)), V.t (T.int IntKind.i64 b3), V.t (T.int IntKind.u64 t3')]]) (show ((List.map intt l').append [[T.int IntKind.i64 rt]]) = (List.map intt (Hp.mk (o0 :: os2) (l' ++ [rt])).roots) by simp [intt, Obj.ce])))
          · refine ⟨⟨⟨o0.mark, [0, 0, 0, 0, 0]⟩ :: os2, l'⟩, b2, t2', ?_, ?_, ?_, ?_, ?_⟩
            · simp at ho ⊢; omega
            · intro x hx
              rcases List.mem_cons.1 hx with rfl | hx
              · simp
              · have := hx' x (by simp [hx]); omega
            · dsimp only; omega
            · omega
            · unfold cuB at *
              rw [show rowD (o0 :: os2) = [C.t (.int .i64 o0.mark), C.t (.seq 1 (o0.links.map intt))] :: rowD os2 from rfl] at *
              let t6 : Tp pr := .b (show (decide ((↑n : Int) > (0 : Int))) = true by (simp; omega))
              let t10 : Tp pr := .b (show (decide (v3 = (0 : Int))) = false by (simp; omega))
              let t11 : Tp pr := .b (show (decide (v3 = (1 : Int))) = false by (simp; omega))
              let t15 : Tp pr := .n .rows (show (List.map (fun x => List.map C.fz x) (List.take (5 : Nat) (List.drop (0 : Nat) [[C.t (T.int IntKind.i64 (0 : Int))], [C.t (T.int IntKind.i64 (0 : Int))], [C.t (T.int IntKind.i64 (0 : Int))], [C.t (T.int IntKind.i64 (0 : Int))], [C.t (T.int IntKind.i64 (0 : Int))]]))) = [[(C.t (T.int IntKind.i64 (0 : Int))).fz], [(C.t (T.int IntKind.i64 (0 : Int))).fz], [(C.t (T.int IntKind.i64 (0 : Int))).fz], [(C.t (T.int IntKind.i64 (0 : Int))).fz], [(C.t (T.int IntKind.i64 (0 : Int))).fz]] by simp)
              let t16 : Tp pr := .m (show (decide (([C.t (T.int IntKind.i64 o0.mark), C.t (T.seq (1 : Nat) (List.map intt o0.links))] :: rowD os2).length = (o0 :: os2).length)) = true by simp)
              let t17 : Tp pr := .g .crow (show (some [C.t (T.int IntKind.i64 o0.mark), C.t (T.seq (1 : Nat) (List.map intt o0.links))]) = some ([C.t (T.int IntKind.i64 o0.mark), C.t (T.seq (1 : Nat) (List.map intt o0.links))]) by simp)
              let t18 : Tp pr := .n .crows (show (([C.t (T.int IntKind.i64 o0.mark), C.t (T.seq (1 : Nat) (List.map intt o0.links))] :: rowD os2).set (0 : Nat) [C.t (T.int IntKind.i64 o0.mark), C.t (T.seq (1 : Nat) [[T.int IntKind.i64 (0 : Int)], [T.int IntKind.i64 (0 : Int)], [T.int IntKind.i64 (0 : Int)], [T.int IntKind.i64 (0 : Int)], [T.int IntKind.i64 (0 : Int)]])]) = [C.t (T.int IntKind.i64 o0.mark), C.t (T.seq (1 : Nat) [[T.int IntKind.i64 (0 : Int)], [T.int IntKind.i64 (0 : Int)], [T.int IntKind.i64 (0 : Int)], [T.int IntKind.i64 (0 : Int)], [T.int IntKind.i64 (0 : Int)]])] :: rowD os2 by simp)
              let t19 : Tp pr := .m (show (decide (([C.t (T.int IntKind.i64 o0.mark), C.t (T.seq (1 : Nat) [[T.int IntKind.i64 (0 : Int)], [T.int IntKind.i64 (0 : Int)], [T.int IntKind.i64 (0 : Int)], [T.int IntKind.i64 (0 : Int)], [T.int IntKind.i64 (0 : Int)]])] :: rowD os2).length = (o0 :: os2).length ∧ (0 : Nat) + (o0 :: os2).length ≤ (o0 :: os2).length)) = true by simp)
              let t20 : Tp pr := .n .rows (show (List.map (fun x => List.map C.fz x) (List.take (o0 :: os2).length (List.drop (0 : Nat) ([C.t (T.int IntKind.i64 o0.mark), C.t (T.seq (1 : Nat) [[T.int IntKind.i64 (0 : Int)], [T.int IntKind.i64 (0 : Int)], [T.int IntKind.i64 (0 : Int)], [T.int IntKind.i64 (0 : Int)], [T.int IntKind.i64 (0 : Int)]])] :: rowD os2)))) = [(C.t (T.int IntKind.i64 o0.mark)).fz, (C.t (T.seq (1 : Nat) [[T.int IntKind.i64 (0 : Int)], [T.int IntKind.i64 (0 : Int)], [T.int IntKind.i64 (0 : Int)], [T.int IntKind.i64 (0 : Int)], [T.int IntKind.i64 (0 : Int)]])).fz] :: List.map Obj.ce os2 by simp)
              let t21 : Tp pr := .m (show (decide ((ints l').length = l'.length ∧ (0 : Nat) + l'.length ≤ l'.length)) = true by simp)
              let t22 : Tp pr := .n .rows (show (List.map (fun x => List.map C.fz x) (List.take l'.length (List.drop (0 : Nat) (ints l')))) = List.map intt l' by simp)
              exact .tp [.a (e1), .a (e2), .b (rfl : false = false), .a (l1), .a (e4), .a (l3), t6, .a (g1), .b (rfl : true = true), .a (g2), t10, t11, .m (rfl : true = true), .c (rfl : ((0 : Nat)) = _), .m (rfl : true = true), t15, t16, t17, t18, t19, t20, t21, t22] (by kernel_rfl)
    · refine ⟨⟨os', l'⟩, a5, s5, ?_, ?_, ?_, ?_, ?_⟩
      · dsimp only; omega
      · exact fun x hx => by have := hx' x hx; omega
      · dsimp only; omega
      · omega
      · unfold cuB at *
        let t6 : Tp pr := .b (show (decide ((↑n : Int) > (0 : Int))) = false by (simp; omega))
        let t8 : Tp pr := .m (show (decide ((rowD os').length = os'.length ∧ (0 : Nat) + os'.length ≤ os'.length)) = true by simp)
        let t9 : Tp pr := .n .rows (show (List.map (fun x => List.map C.fz x) (List.take os'.length (List.drop (0 : Nat) (rowD os')))) = List.map Obj.ce os' by simp)
        let t10 : Tp pr := .m (show (decide ((ints l').length = l'.length ∧ (0 : Nat) + l'.length ≤ l'.length)) = true by simp)
        let t11 : Tp pr := .n .rows (show (List.map (fun x => List.map C.fz x) (List.take l'.length (List.drop (0 : Nat) (ints l')))) = List.map intt l' by simp)
        exact .tp [.a (e1), .a (e2), .b (rfl : false = false), .a (l1), .a (e4), .a (l3), t6, .b (rfl : false = false), t8, t9, t10, t11] (by kernel_rfl)
  | true =>
    obtain ⟨v2, b0, t0', hv2, hb0, g0⟩ := pick_ex bs hb a2 s2 (by omega) (by omega) 2 (by omega)
    obtain ⟨n2, hn2⟩ : ∃ m : Nat, 40 + v2 = m := ⟨(40 + v2).toNat, by omega⟩
    obtain ⟨os', a3, s3, ho, hx', ha3, l1⟩ := hL1_ex bs hb n2 (by omega) n2 [] b0 t0' (by omega) (by omega) (by simp) (by simp)
    obtain ⟨m, a4, s4, hm, ha4, e4⟩ := pick_ex bs hb a3 s3 (by omega) (by omega) 4 (by omega)
    obtain ⟨m, rfl⟩ : ∃ k : Nat, m = k := ⟨m.toNat, by omega⟩
    obtain ⟨l', a5, s5, hl, ha5, l3⟩ := hL3_ex bs hb n2 (by omega) (by omega) os'.length (rowD os') m [] a4 s4 (by omega) (by omega) (by simp; omega)
    simp at hl ho
    rw [← hn2] at l1 l3
    by_cases hn0 : 0 < (40 + v2)
    · obtain ⟨w, b1, t1', hb1, g1⟩ := one_ex bs hb a5 s5 (by omega) (by omega) 20 (by omega)
      cases w with
      | false =>
        refine ⟨⟨os', l'⟩, b1, t1', ?_, ?_, ?_, ?_, ?_⟩
        · dsimp only; omega
        · exact fun x hx => by have := hx' x hx; omega
        · dsimp only; omega
        · omega
        · unfold cuB at *
          let t4 : Tp pr := .i (wrap_i64 (a := (40 : Int) + v2) (by omega) (by omega))
          let t8 : Tp pr := .b (show (decide ((40 : Int) + v2 > (0 : Int))) = true by (simp; omega))
          let t11 : Tp pr := .m (show (decide ((rowD os').length = os'.length ∧ (0 : Nat) + os'.length ≤ os'.length)) = true by simp)
          let t12 : Tp pr := .n .rows (show (List.map (fun x => List.map C.fz x) (List.take os'.length (List.drop (0 : Nat) (rowD os')))) = List.map Obj.ce os' by simp)
          let t13 : Tp pr := .m (show (decide ((ints l').length = l'.length ∧ (0 : Nat) + l'.length ≤ l'.length)) = true by simp)
          let t14 : Tp pr := .n .rows (show (List.map (fun x => List.map C.fz x) (List.take l'.length (List.drop (0 : Nat) (ints l')))) = List.map intt l' by simp)
          exact .tp [.a (e1), .a (e2), .b (rfl : true = true), .a (g0), t4, .a (l1), .a (e4), .a (l3), t8, .a (g1), .b (rfl : false = false), t11, t12, t13, t14] (by kernel_rfl)
      | true =>
        obtain ⟨v3, b2, t2', hv3, hb2, g2⟩ := pick_ex bs hb b1 t1' (by omega) (by omega) 3 (by omega)
        obtain ⟨o0, os2, ho2⟩ : ∃ o0 os2, os' = o0 :: os2 := by
          cases os' with
          | nil => simp at ho; omega
          | cons x l => exact ⟨x, l, rfl⟩
        subst ho2
        by_cases hz : v3 = 0
        · obtain ⟨mk, b3, t3', hmk, hb3, g3⟩ := among_ex bs hb b2 t2' (by omega) (by omega) [-1, 1000, 1001] (by simp) (by simp)
          subst hz
          refine ⟨⟨⟨mk, o0.links⟩ :: os2, l'⟩, b3, t3', ?_, ?_, ?_, ?_, ?_⟩
          · simp at ho ⊢; omega
          · intro x hx
            rcases List.mem_cons.1 hx with rfl | hx
            · have := hx' o0 (by simp); show o0.links.length ≤ 5; omega
            · have := hx' x (by simp [hx]); omega
          · dsimp only; omega
          · omega
          · unfold cuB at *
            rw [show rowD (o0 :: os2) = [C.t (.int .i64 o0.mark), C.t (.seq 1 (o0.links.map intt))] :: rowD os2 from rfl] at *
            let t4 : Tp pr := .i (wrap_i64 (a := (40 : Int) + v2) (by omega) (by omega))
            let t8 : Tp pr := .b (show (decide ((40 : Int) + v2 > (0 : Int))) = true by (simp; omega))
            let t18 : Tp pr := .n .rows (show (List.map (fun x => List.map C.fz x) (List.take (3 : Nat) (List.drop (0 : Nat) [[C.t (T.int IntKind.i64 (-1 : Int))], [C.t (T.int IntKind.i64 (1000 : Int))], [C.t (T.int IntKind.i64 (1001 : Int))]]))) = [[(C.t (T.int IntKind.i64 (-1 : Int))).fz], [(C.t (T.int IntKind.i64 (1000 : Int))).fz], [(C.t (T.int IntKind.i64 (1001 : Int))).fz]] by simp)
            let t25 : Tp pr := .m (show (decide (([C.t (T.int IntKind.i64 o0.mark), C.t (T.seq (1 : Nat) (List.map intt o0.links))] :: rowD os2).length = (o0 :: os2).length)) = true by simp)
            let t26 : Tp pr := .g .crow (show (some [C.t (T.int IntKind.i64 o0.mark), C.t (T.seq (1 : Nat) (List.map intt o0.links))]) = some ([C.t (T.int IntKind.i64 o0.mark), C.t (T.seq (1 : Nat) (List.map intt o0.links))]) by simp)
            let t27 : Tp pr := .m (show (decide (([C.t (T.int IntKind.i64 o0.mark), C.t (T.seq (1 : Nat) (List.map intt o0.links))] :: rowD os2).length = (o0 :: os2).length)) = true by simp)
            let t28 : Tp pr := .g .crow (show (some [C.t (T.int IntKind.i64 o0.mark), C.t (T.seq (1 : Nat) (List.map intt o0.links))]) = some ([C.t (T.int IntKind.i64 o0.mark), C.t (T.seq (1 : Nat) (List.map intt o0.links))]) by simp)
            let t29 : Tp pr := .n .crows (show (([C.t (T.int IntKind.i64 o0.mark), C.t (T.seq (1 : Nat) (List.map intt o0.links))] :: rowD os2).set (0 : Nat) [C.t (T.int IntKind.i64 mk), C.t (T.seq (1 : Nat) (List.map intt o0.links))]) = [C.t (T.int IntKind.i64 mk), C.t (T.seq (1 : Nat) (List.map intt o0.links))] :: rowD os2 by simp)
            let t31 : Tp pr := .m (show (decide (([C.t (T.int IntKind.i64 mk), C.t (T.seq (1 : Nat) (List.map intt o0.links))] :: rowD os2).length = (o0 :: os2).length ∧ (0 : Nat) + (o0 :: os2).length ≤ (o0 :: os2).length)) = true by simp)
            let t32 : Tp pr := .n .rows (show (List.map (fun x => List.map C.fz x) (List.take (o0 :: os2).length (List.drop (0 : Nat) ([C.t (T.int IntKind.i64 mk), C.t (T.seq (1 : Nat) (List.map intt o0.links))] :: rowD os2)))) = [(C.t (T.int IntKind.i64 mk)).fz, (C.t (T.seq (1 : Nat) (List.map intt o0.links))).fz] :: List.map Obj.ce os2 by simp)
            let t33 : Tp pr := .m (show (decide ((ints l').length = l'.length ∧ (0 : Nat) + l'.length ≤ l'.length)) = true by simp)
            let t34 : Tp pr := .n .rows (show (List.map (fun x => List.map C.fz x) (List.take l'.length (List.drop (0 : Nat) (ints l')))) = List.map intt l' by simp)
            exact .tp [.a (e1), .a (e2), .b (rfl : true = true), .a (g0), t4, .a (l1), .a (e4), .a (l3), t8, .a (g1), .b (rfl : true = true), .a (g2), .b (rfl : true = true), .m (rfl : true = true), .m (rfl : true = true), .m (rfl : true = true), .m (rfl : true = true), .m (rfl : true = true), t18, .a (g3), .m (rfl : true = true), .m (rfl : true = true), .c (rfl : ((0 : Nat)) = _), .m (rfl : true = true), .m (rfl : true = true), t25, t26, t27, t28, t29, .m (rfl : true = true), t31, t32, t33, t34] (by kernel_rfl)
        · by_cases hz1 : v3 = 1
          · obtain ⟨rt, b3, t3', hrt, hb3, g3⟩ := among_ex bs hb b2 t2' (by omega) (by omega) [-2, (40 + v2)] (by simp) (by simp)
            subst hz1
            refine ⟨⟨o0 :: os2, l' ++ [rt]⟩, b3, t3', ?_, ?_, ?_, ?_, ?_⟩
            · dsimp only; omega
            · exact fun x hx => by have := hx' x hx; omega
            · simp at hl ⊢; omega
            · omega
            · unfold cuB at *
              let t4 : Tp pr := .i (wrap_i64 (a := (40 : Int) + v2) (by omega) (by omega))
              let t8 : Tp pr := .b (show (decide ((40 : Int) + v2 > (0 : Int))) = true by (simp; omega))
              let t20 : Tp pr := .n .rows (show (List.map (fun x => List.map C.fz x) (List.take (2 : Nat) (List.drop (0 : Nat) [[C.t (T.int IntKind.i64 (-2 : Int))], [C.t (T.int IntKind.i64 ((40 : Int) + v2))]]))) = [[(C.t (T.int IntKind.i64 (-2 : Int))).fz], [(C.t (T.int IntKind.i64 ((40 : Int) + v2))).fz]] by simp)
              let t25 : Tp pr := .m (show (decide ((ints l').length = l'.length ∧ (0 : Nat) + l'.length ≤ l'.length ∧ l'.length + (1 : Nat) ≤ (4294967296 : Nat))) = true by (simp; omega))
              let t26 : Tp pr := .b (show (decide (l'.length + (1 : Nat) ≤ l'.length)) = false by simp)
              let t28 : Tp pr := .n .crows (show ((List.take l'.length (ints l')).append (List.take (1 : Nat) (List.drop (0 : Nat) [[C.t (T.int IntKind.i64 rt)]]))) = ints l' ++ [[C.t (T.int IntKind.i64 rt)]] by simp)
              let t32 : Tp pr := .m (show (decide ((rowD (o0 :: os2)).length = (o0 :: os2).length ∧ (0 : Nat) + (o0 :: os2).length ≤ (o0 :: os2).length)) = true by simp)
              let t33 : Tp pr := .n .rows (show (List.map (fun x => List.map C.fz x) (List.take (o0 :: os2).length (List.drop (0 : Nat) (rowD (o0 :: os2))))) = o0.ce :: List.map Obj.ce os2 by simp)
              let t34 : Tp pr := .m (show (decide (((ints l').append [[C.t (T.int IntKind.i64 rt)]]).length = l'.length + (1 : Nat) ∧ (0 : Nat) + (l'.length + (1 : Nat)) ≤ l'.length + (1 : Nat))) = true by simp)
              let t35 : Tp pr := .n .rows (show (List.map (fun x => List.map C.fz x) (List.take (l'.length + (1 : Nat)) (List.drop (0 : Nat) ((ints l').append [[C.t (T.int IntKind.i64 rt)]])))) = List.map intt l' ++ [[(C.t (T.int IntKind.i64 rt)).fz]] by simp)
              exact .tpe [.a (e1), .a (e2), .b (rfl : true = true), .a (g0), t4, .a (l1), .a (e4), .a (l3), t8, .a (g1), .b (rfl : true = true), .a (g2), .b (rfl : false = false), .b (rfl : true = true), .m (rfl : true = true), .m (rfl : true = true), .m (rfl : true = true), .m (rfl : true = true), .m (rfl : true = true), .m (rfl : true = true), t20, .a (g3), .m (rfl : true = true), .m (rfl : true = true), .m (rfl : true = true), t25, t26, .c (rfl : (l'.length + (1 : Nat)) = _), t28, .m (rfl : true = true), .m (rfl : true = true), .m (rfl : true = true), t32, t33, t34, t35] (Out.val (V.agg [V.t (T.seq (2 : Nat) ([T.int IntKind.i64 o0.mark, T.seq (1 : Nat) (List.map intt o0.links)] :: List.map Obj.ce os2)), V.t (T.seq (1 : Nat) ((List.map intt l').append [[T.int IntKind.i64 rt]]))]) [Ob.box [V.t (T.seq (1 : Nat) (List.map u8t bs)), V.t (T.int IntKind.i64 b3), V.t (T.int IntKind.u64 t3')]]) (by kernel_rfl) ((congrArg (fun x => Out.val (V.agg [V.t (T.seq (2 : Nat) x), V.t (T.seq (1 : Nat) ((List.map intt l').append [[T.int IntKind.i64 rt]]))]) [Ob.box [V.t (T.seq (1 : Nat) (List.map u8t bs)), V.t (T.int IntKind.i64 b3), V.t (T.int IntKind.u64 t3')]]) (show ([T.int IntKind.i64 o0.mark, T.seq (1 : Nat) (List.map intt o0.links)] :: List.map Obj.ce os2) = (List.map Obj.ce (Hp.mk (o0 :: os2) (l' ++ [rt])).objects) by simp [intt, Obj.ce])).trans (congrArg (fun x => Out.val (V.agg [V.t (T.seq (2 : Nat) (List.map Obj.ce (Hp.mk (o0 :: os2) (l' ++ [rt])).objects)), V.t (T.seq (1 : Nat) x)]) [Ob.box [V.t (T.seq (1 : Nat) (List.map u8t bs)), V.t (T.int IntKind.i64 b3), V.t (T.int IntKind.u64 t3')]]) (show ((List.map intt l').append [[T.int IntKind.i64 rt]]) = (List.map intt (Hp.mk (o0 :: os2) (l' ++ [rt])).roots) by simp [intt, Obj.ce])))
          · refine ⟨⟨⟨o0.mark, [0, 0, 0, 0, 0]⟩ :: os2, l'⟩, b2, t2', ?_, ?_, ?_, ?_, ?_⟩
            · simp at ho ⊢; omega
            · intro x hx
              rcases List.mem_cons.1 hx with rfl | hx
              · simp
              · have := hx' x (by simp [hx]); omega
            · dsimp only; omega
            · omega
            · unfold cuB at *
              rw [show rowD (o0 :: os2) = [C.t (.int .i64 o0.mark), C.t (.seq 1 (o0.links.map intt))] :: rowD os2 from rfl] at *
              let t4 : Tp pr := .i (wrap_i64 (a := (40 : Int) + v2) (by omega) (by omega))
              let t8 : Tp pr := .b (show (decide ((40 : Int) + v2 > (0 : Int))) = true by (simp; omega))
              let t12 : Tp pr := .b (show (decide (v3 = (0 : Int))) = false by (simp; omega))
              let t13 : Tp pr := .b (show (decide (v3 = (1 : Int))) = false by (simp; omega))
              let t17 : Tp pr := .n .rows (show (List.map (fun x => List.map C.fz x) (List.take (5 : Nat) (List.drop (0 : Nat) [[C.t (T.int IntKind.i64 (0 : Int))], [C.t (T.int IntKind.i64 (0 : Int))], [C.t (T.int IntKind.i64 (0 : Int))], [C.t (T.int IntKind.i64 (0 : Int))], [C.t (T.int IntKind.i64 (0 : Int))]]))) = [[(C.t (T.int IntKind.i64 (0 : Int))).fz], [(C.t (T.int IntKind.i64 (0 : Int))).fz], [(C.t (T.int IntKind.i64 (0 : Int))).fz], [(C.t (T.int IntKind.i64 (0 : Int))).fz], [(C.t (T.int IntKind.i64 (0 : Int))).fz]] by simp)
              let t18 : Tp pr := .m (show (decide (([C.t (T.int IntKind.i64 o0.mark), C.t (T.seq (1 : Nat) (List.map intt o0.links))] :: rowD os2).length = (o0 :: os2).length)) = true by simp)
              let t19 : Tp pr := .g .crow (show (some [C.t (T.int IntKind.i64 o0.mark), C.t (T.seq (1 : Nat) (List.map intt o0.links))]) = some ([C.t (T.int IntKind.i64 o0.mark), C.t (T.seq (1 : Nat) (List.map intt o0.links))]) by simp)
              let t20 : Tp pr := .n .crows (show (([C.t (T.int IntKind.i64 o0.mark), C.t (T.seq (1 : Nat) (List.map intt o0.links))] :: rowD os2).set (0 : Nat) [C.t (T.int IntKind.i64 o0.mark), C.t (T.seq (1 : Nat) [[T.int IntKind.i64 (0 : Int)], [T.int IntKind.i64 (0 : Int)], [T.int IntKind.i64 (0 : Int)], [T.int IntKind.i64 (0 : Int)], [T.int IntKind.i64 (0 : Int)]])]) = [C.t (T.int IntKind.i64 o0.mark), C.t (T.seq (1 : Nat) [[T.int IntKind.i64 (0 : Int)], [T.int IntKind.i64 (0 : Int)], [T.int IntKind.i64 (0 : Int)], [T.int IntKind.i64 (0 : Int)], [T.int IntKind.i64 (0 : Int)]])] :: rowD os2 by simp)
              let t21 : Tp pr := .m (show (decide (([C.t (T.int IntKind.i64 o0.mark), C.t (T.seq (1 : Nat) [[T.int IntKind.i64 (0 : Int)], [T.int IntKind.i64 (0 : Int)], [T.int IntKind.i64 (0 : Int)], [T.int IntKind.i64 (0 : Int)], [T.int IntKind.i64 (0 : Int)]])] :: rowD os2).length = (o0 :: os2).length ∧ (0 : Nat) + (o0 :: os2).length ≤ (o0 :: os2).length)) = true by simp)
              let t22 : Tp pr := .n .rows (show (List.map (fun x => List.map C.fz x) (List.take (o0 :: os2).length (List.drop (0 : Nat) ([C.t (T.int IntKind.i64 o0.mark), C.t (T.seq (1 : Nat) [[T.int IntKind.i64 (0 : Int)], [T.int IntKind.i64 (0 : Int)], [T.int IntKind.i64 (0 : Int)], [T.int IntKind.i64 (0 : Int)], [T.int IntKind.i64 (0 : Int)]])] :: rowD os2)))) = [(C.t (T.int IntKind.i64 o0.mark)).fz, (C.t (T.seq (1 : Nat) [[T.int IntKind.i64 (0 : Int)], [T.int IntKind.i64 (0 : Int)], [T.int IntKind.i64 (0 : Int)], [T.int IntKind.i64 (0 : Int)], [T.int IntKind.i64 (0 : Int)]])).fz] :: List.map Obj.ce os2 by simp)
              let t23 : Tp pr := .m (show (decide ((ints l').length = l'.length ∧ (0 : Nat) + l'.length ≤ l'.length)) = true by simp)
              let t24 : Tp pr := .n .rows (show (List.map (fun x => List.map C.fz x) (List.take l'.length (List.drop (0 : Nat) (ints l')))) = List.map intt l' by simp)
              exact .tp [.a (e1), .a (e2), .b (rfl : true = true), .a (g0), t4, .a (l1), .a (e4), .a (l3), t8, .a (g1), .b (rfl : true = true), .a (g2), t12, t13, .m (rfl : true = true), .c (rfl : ((0 : Nat)) = _), .m (rfl : true = true), t17, t18, t19, t20, t21, t22, t23, t24] (by kernel_rfl)
    · exact absurd (by omega) hn0
end Go.Ev

/- Heaps that are the same, az the laws ask it. -/
namespace Go.Ev
set_option linter.unusedVariables false
set_option linter.unusedSimpArgs false
open Go.Proofs
set_option maxRecDepth 100000
set_option linter.unusedVariables false
set_option maxHeartbeats 2000000
theorem sameIL_ev (l : List Int) (hl : l.length ≤ 1048576) : ∀ (r m : List Int), l = m ++ r →
    Ev pr (.loop (lq pr 38 0) (at_ [(0, isq l), (1, isq l), (12, i64 l.length), (13, i64 m.length)] [] 0)) (.exit 0 (at_ [] [] 0))
  | [], m, he => by
    have hll : (l.length : Int) = m.length := by simp [he]
    let t0 : Tp pr := .b (show (decide ((↑m.length : Int) < (↑l.length : Int))) = false by (simp; omega))
    exact .tp [t0] (by kernel_rfl)
  | x :: r, m, he => by
    have hll : (l.length : Int) = m.length + 1 + r.length := by simp [he]; omega
    have hg : lkp (l.map intt) (m.length : Int) = some [T.int .i64 x] := by rw [he]; simp [intt]
    have ih := sameIL_ev l hl r (m ++ [x]) (by simp [he])
    let t0 : Tp pr := .b (show (decide ((↑m.length : Int) < (↑l.length : Int))) = true by (simp; omega))
    let t3 : Tp pr := .g .row (show (lkp (List.map intt l) (↑m.length : Int)) = some ([T.int IntKind.i64 x]) from hg)
    let t8 : Tp pr := .g .row (show (lkp (List.map intt l) (↑m.length : Int)) = some ([T.int IntKind.i64 x]) from hg)
    let t13 : Tp pr := .i (wrap_i64 (a := (↑m.length : Int) + (1 : Int)) (by omega) (by omega))
    let t14 : Tp pr := .a (Ev.castq (congrArg (fun x => Q.loop (lq pr (38 : FuncId) (0 : Nat)) (at_ [((0 : Nat), isq l), ((1 : Nat), isq l), ((12 : Nat), i64 (↑l.length : Int)), ((13 : Nat), i64 x)] [] (0 : Nat))) (show ((↑(m ++ [x]).length : Int)) = ((↑m.length : Int) + (1 : Int)) by simp)) (ih))
    exact .tp [t0, .m (rfl : true = true), .m (rfl : true = true), t3, .m (rfl : true = true), .m (rfl : true = true), .m (rfl : true = true), .m (rfl : true = true), t8, .m (rfl : true = true), .m (rfl : true = true), .m (rfl : true = true), .b (show (x != x) = false by simp), t13, t14] (by kernel_rfl)
theorem sameInts_ev (l : List Int) (hl : l.length ≤ 1048576) : Ev pr (.call 38 [isq l, isq l] []) (.val (bl true) []) := by
  have g := sameIL_ev l hl l [] rfl
  let t0 : Tp pr := .i (show ((↑(List.map intt l).length : Int) : Int) = (↑l.length : Int) by simp)
  let t1 : Tp pr := .i (show ((↑(List.map intt l).length : Int) : Int) = (↑l.length : Int) by simp)
  let t2 : Tp pr := .b (show ((↑l.length : Int) != (↑l.length : Int)) = false by simp)
  let t3 : Tp pr := .i (show ((↑(List.map intt l).length : Int) : Int) = (↑l.length : Int) by simp)
  exact .tp [t0, t1, t2, t3, .a (g)] (by kernel_rfl)
theorem sameHpL_ev (os : List Obj) (rs rs2 : List Int) (hl : os.length ≤ 1048576) (hx : ∀ x ∈ os, x.links.length ≤ 1048576) : ∀ (r m : List Obj), os = m ++ r →
    Ev pr (.loop (lq pr 24 0) (at_ [(2, .ptr 0 1 0 0), (3, .ptr 1 1 0 0), (23, i64 os.length), (24, i64 m.length)] [.box [osq os, isq rs], .box [osq os, isq rs2]] 0)) (.exit 0 (at_ [] [] 0))
  | [], m, he => by
    have hll : (os.length : Int) = m.length := by simp [he]
    let t0 : Tp pr := .b (show (decide ((↑m.length : Int) < (↑os.length : Int))) = false by (simp; omega))
    exact .tp [t0] (by kernel_rfl)
  | x :: r, m, he => by
    have hll : (os.length : Int) = m.length + 1 + r.length := by simp [he]; omega
    have hg : lkp (os.map Obj.ce) (m.length : Int) = some x.ce := by rw [he]; simp
    have ih := sameHpL_ev os rs rs2 hl hx r (m ++ [x]) (by simp [he])
    have hs := sameInts_ev x.links (hx x (by simp [he]))
    let t0 : Tp pr := .b (show (decide ((↑m.length : Int) < (↑os.length : Int))) = true by (simp; omega))
    let t4 : Tp pr := .g .row (show (lkp (List.map Obj.ce os) (↑m.length : Int)) = some (x.ce) from hg)
    let t11 : Tp pr := .g .row (show (lkp (List.map Obj.ce os) (↑m.length : Int)) = some (x.ce) from hg)
    let t17 : Tp pr := .b (show (x.mark != x.mark) = false by simp)
    let t21 : Tp pr := .g .row (show (lkp (List.map Obj.ce os) (↑m.length : Int)) = some (x.ce) from hg)
    let t28 : Tp pr := .g .row (show (lkp (List.map Obj.ce os) (↑m.length : Int)) = some (x.ce) from hg)
    let t37 : Tp pr := .i (wrap_i64 (a := (↑m.length : Int) + (1 : Int)) (by omega) (by omega))
    let t38 : Tp pr := .a (Ev.castq (congrArg (fun x => Q.loop (lq pr (24 : FuncId) (0 : Nat)) (at_ [((2 : Nat), V.ptr (0 : Nat) (1 : Nat) (0 : Nat) (0 : Nat)), ((3 : Nat), V.ptr (1 : Nat) (1 : Nat) (0 : Nat) (0 : Nat)), ((23 : Nat), i64 (↑os.length : Int)), ((24 : Nat), i64 x)] [Ob.box [osq os, isq rs], Ob.box [osq os, isq rs2]] (0 : Nat))) (show ((↑(m ++ [x]).length : Int)) = ((↑m.length : Int) + (1 : Int)) by simp)) (ih))
    exact .tp [t0, .m (rfl : true = true), .m (rfl : true = true), .m (rfl : true = true), t4, .m (rfl : true = true), .m (rfl : true = true), .m (rfl : true = true), .m (rfl : true = true), .m (rfl : true = true), .m (rfl : true = true), t11, .m (rfl : true = true), .m (rfl : true = true), .m (rfl : true = true), .m (rfl : true = true), .m (rfl : true = true), t17, .m (rfl : true = true), .m (rfl : true = true), .m (rfl : true = true), t21, .m (rfl : true = true), .m (rfl : true = true), .m (rfl : true = true), .m (rfl : true = true), .m (rfl : true = true), .m (rfl : true = true), t28, .m (rfl : true = true), .m (rfl : true = true), .m (rfl : true = true), .a (hs), .m (rfl : true = true), .m (rfl : true = true), .m (rfl : true = true), .b (rfl : false = false), t37, t38] (by kernel_rfl)
theorem sameHp_ev (h : Hp) (h1 : h.objects.length ≤ 1048576) (h2 : ∀ x ∈ h.objects, x.links.length ≤ 1048576) (h3 : h.roots.length ≤ 1048576) : Ev pr (.call 24 [vs h.ce, vs h.ce] []) (.val (bl true) []) := by
  have g := sameInts_ev h.roots h3
  have g2 := sameHpL_ev h.objects h.roots h.roots h1 h2 h.objects [] rfl
  let t2 : Tp pr := .i (show ((↑(List.map Obj.ce h.objects).length : Int) : Int) = (↑h.objects.length : Int) by simp)
  let t3 : Tp pr := .i (show ((↑(List.map Obj.ce h.objects).length : Int) : Int) = (↑h.objects.length : Int) by simp)
  let t4 : Tp pr := .b (show ((↑h.objects.length : Int) != (↑h.objects.length : Int)) = false by simp)
  let t5 : Tp pr := .i (show ((↑(List.map Obj.ce h.objects).length : Int) : Int) = (↑h.objects.length : Int) by simp)
  exact .tp [.a (g), .b (rfl : false = false), t2, t3, t4, t5, .a (g2)] (by kernel_rfl)
end Go.Ev

/- FollowPath: the program's and the reference's. -/
namespace Go.Ev
set_option linter.unusedVariables false
set_option linter.unusedSimpArgs false
open Go.Proofs
set_option maxRecDepth 100000
set_option linter.unusedVariables false
set_option maxHeartbeats 2000000
def fpOut (o : Option Int) : Out := match o with
  | some b => .exit 0 (at_ [(3, .ptr 0 1 0 0), (8, i64 b)] [] 0)
  | none => .ret (at_ [(6, i64 0), (7, bl false)] [] 0)
def fpM (h : Hp) : List Ob := [.box [osq h.objects, isq h.roots]]
def fpX (h : Hp) (o : Option Int) : Out := match o with
  | some b => .exit 0 (at_ [(3, .ptr 0 1 0 0), (8, i64 b)] [.box [osq h.objects, isq h.roots]] 0)
  | none => .ret (at_ [(6, i64 0), (7, bl false)] [] 0)
theorem walkI_ev (h : Hp) (hg : GoodH h) (p : List Int) (hp : p.length ≤ 40) : ∀ (r m : List Int) (a : Int), p = m ++ r → a < h.objects.length →
    Ev pr (.loop (lq pr 33 0) (at_ [(3, .ptr 0 1 0 0), (8, i64 a), (33, isq p), (34, i64 p.length), (35, i64 m.length)] [.box [osq h.objects, isq h.roots]] 0)) (fpX h (walkP h a r))
  | [], m, a, he, ha => by
    have hll : (p.length : Int) = m.length := by simp [he]
    rw [show fpX h (walkP h a []) = .exit 0 (at_ [(3, .ptr 0 1 0 0), (8, i64 a)] [.box [osq h.objects, isq h.roots]] 0) from rfl]
    let t0 : Tp pr := .b (show (decide ((↑m.length : Int) < (↑p.length : Int))) = false by (simp; omega))
    exact .tp [t0] (by kernel_rfl)
  | k :: r, m, a, he, ha => by
    have hll : (p.length : Int) = m.length + 1 + r.length := by simp [he]; omega
    have hgk : lkp (p.map intt) (m.length : Int) = some [T.int .i64 k] := by rw [he]; simp [intt]
    by_cases h0 : a < 0
    · rw [show walkP h a (k :: r) = none by rw [walkP, if_pos h0], show fpX h none = .ret (at_ [(6, i64 0), (7, bl false)] [] 0) from rfl]
      let t0 : Tp pr := .b (show (decide ((↑m.length : Int) < (↑p.length : Int))) = true by (simp; omega))
      let t1 : Tp pr := .g .row (show (lkp (List.map intt p) (↑m.length : Int)) = some ([T.int IntKind.i64 k]) from hgk)
      let t2 : Tp pr := .b (show (decide (a < (0 : Int))) = true by (simp; omega))
      exact .tp [t0, t1, t2, .b (rfl : true = true)] (by kernel_rfl)
    · have hlk := objAt_lkp (h := h) (k := a) (by omega) ha
      have hm := hg.llen _ (objAt_mem (by omega) ha)
      have w := within_ev k 0 ((objAt h a).links.length - 1)
      by_cases hk : 0 ≤ k ∧ k < (objAt h a).links.length
      · rw [show (decide (k ≥ 0) && decide (k ≤ ((objAt h a).links.length : Int) - 1)) = true by
          rw [Bool.and_eq_true]; exact ⟨by simpa using hk.1, by simp; omega⟩] at w
        have hlt : k.toNat < (objAt h a).links.length := by omega
        have hx : (objAt h a).links.getD k.toNat 0 = (objAt h a).links[k.toNat] := by rw [List.getD_eq_getElem?_getD, List.getElem?_eq_getElem hlt]; rfl
        have hmm := (hg.links _ (objAt_mem (by omega) ha) _ (List.getElem_mem hlt)).2
        have hlx : lkp ((objAt h a).links.map intt) k = some [T.int .i64 (objAt h a).links[k.toNat]] := by simp [lkp, intt, hk.1, hlt]
        rw [show walkP h a (k :: r) = walkP h ((objAt h a).links.getD k.toNat 0) r by rw [walkP, if_neg h0, if_pos hk], hx]
        generalize (objAt h a).links[k.toNat] = b at *
        have ih := walkI_ev h hg p hp r (m ++ [k]) b (by simp [he]) hmm
        unfold fpX at ih ⊢
        cases hw : walkP h b r with
        | some c => rw [hw] at ih; (
          let t0 : Tp pr := .b (show (decide ((↑m.length : Int) < (↑p.length : Int))) = true by (simp; omega))
          let t1 : Tp pr := .g .row (show (lkp (List.map intt p) (↑m.length : Int)) = some ([T.int IntKind.i64 k]) from hgk)
          let t2 : Tp pr := .b (show (decide (a < (0 : Int))) = false by (simp; omega))
          let t3 : Tp pr := .g .row (show (lkp (List.map Obj.ce h.objects) a) = some ((objAt h a).ce) from hlk)
          let t4 : Tp pr := .i (show ((↑(List.map intt (objAt h a).links).length : Int) : Int) = (↑(objAt h a).links.length : Int) by simp)
          let t5 : Tp pr := .i (wrap_i64 (a := (↑(objAt h a).links.length : Int) - (1 : Int)) (by omega) (by omega))
          let t8 : Tp pr := .g .row (show (lkp (List.map Obj.ce h.objects) a) = some ((objAt h a).ce) from hlk)
          let t9 : Tp pr := .g .row (show (lkp (List.map intt (objAt h a).links) k) = some ([T.int IntKind.i64 b]) from hlx)
          let t10 : Tp pr := .i (wrap_i64 (a := (↑m.length : Int) + (1 : Int)) (by omega) (by omega))
          let t11 : Tp pr := .a (Ev.castq (congrArg (fun x => Q.loop (lq pr (33 : FuncId) (0 : Nat)) (at_ [((3 : Nat), V.ptr (0 : Nat) (1 : Nat) (0 : Nat) (0 : Nat)), ((8 : Nat), i64 b), ((33 : Nat), isq p), ((34 : Nat), i64 (↑p.length : Int)), ((35 : Nat), i64 x)] [Ob.box [osq h.objects, isq h.roots]] (0 : Nat))) (show ((↑(m ++ [k]).length : Int)) = ((↑m.length : Int) + (1 : Int)) by simp)) (ih))
          exact .tp [t0, t1, t2, t3, t4, t5, .a (w), .b (rfl : false = false), t8, t9, t10, t11] (by kernel_rfl))
        | none => rw [hw] at ih; (
          let t0 : Tp pr := .b (show (decide ((↑m.length : Int) < (↑p.length : Int))) = true by (simp; omega))
          let t1 : Tp pr := .g .row (show (lkp (List.map intt p) (↑m.length : Int)) = some ([T.int IntKind.i64 k]) from hgk)
          let t2 : Tp pr := .b (show (decide (a < (0 : Int))) = false by (simp; omega))
          let t3 : Tp pr := .g .row (show (lkp (List.map Obj.ce h.objects) a) = some ((objAt h a).ce) from hlk)
          let t4 : Tp pr := .i (show ((↑(List.map intt (objAt h a).links).length : Int) : Int) = (↑(objAt h a).links.length : Int) by simp)
          let t5 : Tp pr := .i (wrap_i64 (a := (↑(objAt h a).links.length : Int) - (1 : Int)) (by omega) (by omega))
          let t8 : Tp pr := .g .row (show (lkp (List.map Obj.ce h.objects) a) = some ((objAt h a).ce) from hlk)
          let t9 : Tp pr := .g .row (show (lkp (List.map intt (objAt h a).links) k) = some ([T.int IntKind.i64 b]) from hlx)
          let t10 : Tp pr := .i (wrap_i64 (a := (↑m.length : Int) + (1 : Int)) (by omega) (by omega))
          let t11 : Tp pr := .a (Ev.castq (congrArg (fun x => Q.loop (lq pr (33 : FuncId) (0 : Nat)) (at_ [((3 : Nat), V.ptr (0 : Nat) (1 : Nat) (0 : Nat) (0 : Nat)), ((8 : Nat), i64 b), ((33 : Nat), isq p), ((34 : Nat), i64 (↑p.length : Int)), ((35 : Nat), i64 x)] [Ob.box [osq h.objects, isq h.roots]] (0 : Nat))) (show ((↑(m ++ [k]).length : Int)) = ((↑m.length : Int) + (1 : Int)) by simp)) (ih))
          exact .tp [t0, t1, t2, t3, t4, t5, .a (w), .b (rfl : false = false), t8, t9, t10, t11] (by kernel_rfl))
      · rw [show (decide (k ≥ 0) && decide (k ≤ ((objAt h a).links.length : Int) - 1)) = false by
          rw [Bool.and_eq_false_iff]; by_cases h1 : 0 ≤ k
          · right; simp; omega
          · left; simpa using h1] at w
        rw [show walkP h a (k :: r) = none by rw [walkP, if_neg h0, if_neg hk], show fpX h none = .ret (at_ [(6, i64 0), (7, bl false)] [] 0) from rfl]
        let t0 : Tp pr := .b (show (decide ((↑m.length : Int) < (↑p.length : Int))) = true by (simp; omega))
        let t1 : Tp pr := .g .row (show (lkp (List.map intt p) (↑m.length : Int)) = some ([T.int IntKind.i64 k]) from hgk)
        let t2 : Tp pr := .b (show (decide (a < (0 : Int))) = false by (simp; omega))
        let t3 : Tp pr := .g .row (show (lkp (List.map Obj.ce h.objects) a) = some ((objAt h a).ce) from hlk)
        let t4 : Tp pr := .i (show ((↑(List.map intt (objAt h a).links).length : Int) : Int) = (↑(objAt h a).links.length : Int) by simp)
        let t5 : Tp pr := .i (wrap_i64 (a := (↑(objAt h a).links.length : Int) - (1 : Int)) (by omega) (by omega))
        exact .tp [t0, t1, t2, t3, t4, t5, .a (w), .b (rfl : true = true)] (by kernel_rfl)
theorem walkS_ev (h : Hp) (hg : GoodH h) (p : List Int) (hp : p.length ≤ 40) : ∀ (r m : List Int) (a : Int), p = m ++ r → a < h.objects.length →
    Ev pr (.loop (lq pr 34 0) (at_ [(3, .ptr 0 1 0 0), (8, i64 a), (35, isq p), (36, i64 p.length), (37, i64 m.length)] [.box [osq h.objects, isq h.roots]] 0)) (fpX h (walkP h a r))
  | [], m, a, he, ha => by
    have hll : (p.length : Int) = m.length := by simp [he]
    rw [show fpX h (walkP h a []) = .exit 0 (at_ [(3, .ptr 0 1 0 0), (8, i64 a)] [.box [osq h.objects, isq h.roots]] 0) from rfl]
    let t0 : Tp pr := .b (show (decide ((↑m.length : Int) < (↑p.length : Int))) = false by (simp; omega))
    exact .tp [t0] (by kernel_rfl)
  | k :: r, m, a, he, ha => by
    have hll : (p.length : Int) = m.length + 1 + r.length := by simp [he]; omega
    have hgk : lkp (p.map intt) (m.length : Int) = some [T.int .i64 k] := by rw [he]; simp [intt]
    by_cases h0 : a < 0
    · rw [show walkP h a (k :: r) = none by rw [walkP, if_pos h0], show fpX h none = .ret (at_ [(6, i64 0), (7, bl false)] [] 0) from rfl]
      let t0 : Tp pr := .b (show (decide ((↑m.length : Int) < (↑p.length : Int))) = true by (simp; omega))
      let t1 : Tp pr := .g .row (show (lkp (List.map intt p) (↑m.length : Int)) = some ([T.int IntKind.i64 k]) from hgk)
      let t2 : Tp pr := .b (show (decide (a < (0 : Int))) = true by (simp; omega))
      exact .tp [t0, t1, t2, .b (rfl : true = true), .b (rfl : true = true)] (by kernel_rfl)
    · have hlk := objAt_lkp (h := h) (k := a) (by omega) ha
      have hm := hg.llen _ (objAt_mem (by omega) ha)
      by_cases hk : 0 ≤ k ∧ k < (objAt h a).links.length
      · have hlt : k.toNat < (objAt h a).links.length := by omega
        have hx : (objAt h a).links.getD k.toNat 0 = (objAt h a).links[k.toNat] := by rw [List.getD_eq_getElem?_getD, List.getElem?_eq_getElem hlt]; rfl
        have hmm := (hg.links _ (objAt_mem (by omega) ha) _ (List.getElem_mem hlt)).2
        have hlx : lkp ((objAt h a).links.map intt) k = some [T.int .i64 (objAt h a).links[k.toNat]] := by simp [lkp, intt, hk.1, hlt]
        rw [show walkP h a (k :: r) = walkP h ((objAt h a).links.getD k.toNat 0) r by rw [walkP, if_neg h0, if_pos hk], hx]
        generalize (objAt h a).links[k.toNat] = b at *
        have ih := walkS_ev h hg p hp r (m ++ [k]) b (by simp [he]) hmm
        unfold fpX at ih ⊢
        cases hw : walkP h b r with
        | some c => rw [hw] at ih; (
          let t0 : Tp pr := .b (show (decide ((↑m.length : Int) < (↑p.length : Int))) = true by (simp; omega))
          let t1 : Tp pr := .g .row (show (lkp (List.map intt p) (↑m.length : Int)) = some ([T.int IntKind.i64 k]) from hgk)
          let t2 : Tp pr := .b (show (decide (a < (0 : Int))) = false by (simp; omega))
          let t3 : Tp pr := .b (show (decide (k < (0 : Int))) = false by (simp; omega))
          let t4 : Tp pr := .g .row (show (lkp (List.map Obj.ce h.objects) a) = some ((objAt h a).ce) from hlk)
          let t5 : Tp pr := .i (show ((↑(List.map intt (objAt h a).links).length : Int) : Int) = (↑(objAt h a).links.length : Int) by simp)
          let t6 : Tp pr := .b (show (decide (k ≥ (↑(objAt h a).links.length : Int))) = false by (simp; omega))
          let t7 : Tp pr := .g .row (show (lkp (List.map Obj.ce h.objects) a) = some ((objAt h a).ce) from hlk)
          let t8 : Tp pr := .g .row (show (lkp (List.map intt (objAt h a).links) k) = some ([T.int IntKind.i64 b]) from hlx)
          let t9 : Tp pr := .i (wrap_i64 (a := (↑m.length : Int) + (1 : Int)) (by omega) (by omega))
          let t10 : Tp pr := .a (Ev.castq (congrArg (fun x => Q.loop (lq pr (34 : FuncId) (0 : Nat)) (at_ [((3 : Nat), V.ptr (0 : Nat) (1 : Nat) (0 : Nat) (0 : Nat)), ((8 : Nat), i64 b), ((35 : Nat), isq p), ((36 : Nat), i64 (↑p.length : Int)), ((37 : Nat), i64 x)] [Ob.box [osq h.objects, isq h.roots]] (0 : Nat))) (show ((↑(m ++ [k]).length : Int)) = ((↑m.length : Int) + (1 : Int)) by simp)) (ih))
          exact .tp [t0, t1, t2, t3, t4, t5, t6, t7, t8, t9, t10] (by kernel_rfl))
        | none => rw [hw] at ih; (
          let t0 : Tp pr := .b (show (decide ((↑m.length : Int) < (↑p.length : Int))) = true by (simp; omega))
          let t1 : Tp pr := .g .row (show (lkp (List.map intt p) (↑m.length : Int)) = some ([T.int IntKind.i64 k]) from hgk)
          let t2 : Tp pr := .b (show (decide (a < (0 : Int))) = false by (simp; omega))
          let t3 : Tp pr := .b (show (decide (k < (0 : Int))) = false by (simp; omega))
          let t4 : Tp pr := .g .row (show (lkp (List.map Obj.ce h.objects) a) = some ((objAt h a).ce) from hlk)
          let t5 : Tp pr := .i (show ((↑(List.map intt (objAt h a).links).length : Int) : Int) = (↑(objAt h a).links.length : Int) by simp)
          let t6 : Tp pr := .b (show (decide (k ≥ (↑(objAt h a).links.length : Int))) = false by (simp; omega))
          let t7 : Tp pr := .g .row (show (lkp (List.map Obj.ce h.objects) a) = some ((objAt h a).ce) from hlk)
          let t8 : Tp pr := .g .row (show (lkp (List.map intt (objAt h a).links) k) = some ([T.int IntKind.i64 b]) from hlx)
          let t9 : Tp pr := .i (wrap_i64 (a := (↑m.length : Int) + (1 : Int)) (by omega) (by omega))
          let t10 : Tp pr := .a (Ev.castq (congrArg (fun x => Q.loop (lq pr (34 : FuncId) (0 : Nat)) (at_ [((3 : Nat), V.ptr (0 : Nat) (1 : Nat) (0 : Nat) (0 : Nat)), ((8 : Nat), i64 b), ((35 : Nat), isq p), ((36 : Nat), i64 (↑p.length : Int)), ((37 : Nat), i64 x)] [Ob.box [osq h.objects, isq h.roots]] (0 : Nat))) (show ((↑(m ++ [k]).length : Int)) = ((↑m.length : Int) + (1 : Int)) by simp)) (ih))
          exact .tp [t0, t1, t2, t3, t4, t5, t6, t7, t8, t9, t10] (by kernel_rfl))
      · rw [show walkP h a (k :: r) = none by rw [walkP, if_neg h0, if_neg hk], show fpX h none = .ret (at_ [(6, i64 0), (7, bl false)] [] 0) from rfl]
        by_cases h1 : 0 ≤ k
        · have h2 : ¬ (k < (objAt h a).links.length) := fun hh => hk ⟨h1, hh⟩
          let t0 : Tp pr := .b (show (decide ((↑m.length : Int) < (↑p.length : Int))) = true by (simp; omega))
          let t1 : Tp pr := .g .row (show (lkp (List.map intt p) (↑m.length : Int)) = some ([T.int IntKind.i64 k]) from hgk)
          let t2 : Tp pr := .b (show (decide (a < (0 : Int))) = false by (simp; omega))
          let t3 : Tp pr := .b (show (decide (k < (0 : Int))) = false by (simp; omega))
          let t4 : Tp pr := .g .row (show (lkp (List.map Obj.ce h.objects) a) = some ((objAt h a).ce) from hlk)
          let t5 : Tp pr := .i (show ((↑(List.map intt (objAt h a).links).length : Int) : Int) = (↑(objAt h a).links.length : Int) by simp)
          let t6 : Tp pr := .b (show (decide (k ≥ (↑(objAt h a).links.length : Int))) = true by (simp; omega))
          exact .tp [t0, t1, t2, t3, t4, t5, t6] (by kernel_rfl)
        · let t0 : Tp pr := .b (show (decide ((↑m.length : Int) < (↑p.length : Int))) = true by (simp; omega))
          let t1 : Tp pr := .g .row (show (lkp (List.map intt p) (↑m.length : Int)) = some ([T.int IntKind.i64 k]) from hgk)
          let t2 : Tp pr := .b (show (decide (a < (0 : Int))) = false by (simp; omega))
          let t3 : Tp pr := .b (show (decide (k < (0 : Int))) = true by (simp; omega))
          exact .tp [t0, t1, t2, t3, .b (rfl : true = true)] (by kernel_rfl)
end Go.Ev

/- FollowPath: what it tells. -/
namespace Go.Ev
set_option linter.unusedVariables false
set_option linter.unusedSimpArgs false
open Go.Proofs
set_option maxRecDepth 100000
set_option linter.unusedVariables false
set_option maxHeartbeats 2000000
theorem FpIA_ev (h : Hp) (root : Int) (p : List Int) (h1 : h.objects.length ≤ 1048576) (h2 : ∀ x ∈ h.objects, x.links.length ≤ 1048576) (h3 : h.roots.length ≤ 1048576) (hp : p.length ≤ 1048576) (hg : goodHeap h = false) :
    Ev pr (.call 33 [vs h.ce, i64 root, isq p] []) (.val (.tup [i64 0, bl false]) []) := by
  have e := GoodHeapI_ev h h1 h2 h3
  rw [hg] at e
  exact .tp [.a (e), .b (rfl : true = true), .b (rfl : true = true), .b (rfl : true = true)] (by kernel_rfl)
theorem FpIB_ev (h : Hp) (root : Int) (p : List Int) (h1 : h.objects.length ≤ 1048576) (h2 : ∀ x ∈ h.objects, x.links.length ≤ 1048576) (h3 : h.roots.length ≤ 1048576) (hp : p.length ≤ 1048576) (hg : goodHeap h = true) (hr : ¬ (0 ≤ root ∧ root < h.roots.length)) :
    Ev pr (.call 33 [vs h.ce, i64 root, isq p] []) (.val (.tup [i64 0, bl false]) []) := by
  have e := GoodHeapI_ev h h1 h2 h3
  rw [hg] at e
  have w := within_ev root 0 (h.roots.length - 1)
  rw [show (decide (root ≥ 0) && decide (root ≤ (h.roots.length : Int) - 1)) = false by
    rw [Bool.and_eq_false_iff]; by_cases h0 : 0 ≤ root
    · right; simp; omega
    · left; simpa using h0] at w
  let t2 : Tp pr := .i (show ((↑(List.map intt h.roots).length : Int) : Int) = (↑h.roots.length : Int) by simp)
  let t3 : Tp pr := .i (wrap_i64 (a := (↑h.roots.length : Int) - (1 : Int)) (by omega) (by omega))
  exact .tp [.a (e), .b (rfl : false = false), t2, t3, .a (w), .b (rfl : true = true), .b (rfl : true = true)] (by kernel_rfl)
theorem FpIC_ev (h : Hp) (root : Int) (p : List Int) (h1 : h.objects.length ≤ 1048576) (h2 : ∀ x ∈ h.objects, x.links.length ≤ 1048576) (h3 : h.roots.length ≤ 1048576) (hp : p.length ≤ 1048576) (hg : goodHeap h = true) (hr : 0 ≤ root ∧ root < h.roots.length) (hp2 : ¬ p.length ≤ 40) :
    Ev pr (.call 33 [vs h.ce, i64 root, isq p] []) (.val (.tup [i64 0, bl false]) []) := by
  have e := GoodHeapI_ev h h1 h2 h3
  rw [hg] at e
  have w := within_ev root 0 (h.roots.length - 1)
  rw [show (decide (root ≥ 0) && decide (root ≤ (h.roots.length : Int) - 1)) = true by
    rw [Bool.and_eq_true]; exact ⟨by simpa using hr.1, by simp; omega⟩] at w
  let t2 : Tp pr := .i (show ((↑(List.map intt h.roots).length : Int) : Int) = (↑h.roots.length : Int) by simp)
  let t3 : Tp pr := .i (wrap_i64 (a := (↑h.roots.length : Int) - (1 : Int)) (by omega) (by omega))
  let t6 : Tp pr := .i (show ((↑(List.map intt p).length : Int) : Int) = (↑p.length : Int) by simp)
  let t7 : Tp pr := .b (show (decide ((↑p.length : Int) > (40 : Int))) = true by (simp; omega))
  exact .tp [.a (e), .b (rfl : false = false), t2, t3, .a (w), .b (rfl : false = false), t6, t7] (by kernel_rfl)
theorem FpIT_ev (h : Hp) (root a : Int) (p : List Int) (h1 : h.objects.length ≤ 1048576) (h2 : ∀ x ∈ h.objects, x.links.length ≤ 1048576) (h3 : h.roots.length ≤ 1048576) (hp : p.length ≤ 1048576) (hg : goodHeap h = true) (hr : 0 ≤ root ∧ root < h.roots.length) (hp2 : p.length ≤ 40)
    (ha : lkp (h.roots.map intt) root = some [T.int .i64 a]) (ham : a < h.objects.length) :
    Ev pr (.call 33 [vs h.ce, i64 root, isq p] []) (.val (.tup [i64 ((follow h a p).getD 0), bl (follow h a p).isSome]) []) := by
  have e := GoodHeapI_ev h h1 h2 h3
  rw [hg] at e
  have gd := goodHeap_ok hg
  have w := within_ev root 0 (h.roots.length - 1)
  rw [show (decide (root ≥ 0) && decide (root ≤ (h.roots.length : Int) - 1)) = true by
    rw [Bool.and_eq_true]; exact ⟨by simpa using hr.1, by simp; omega⟩] at w
  have l := walkI_ev h gd p hp2 p [] a rfl ham
  rw [follow_walk]
  unfold fpX at l
  cases hw : walkP h a p with
  | none =>
    rw [hw] at l
    rw [show ((none : Option Int).bind fun b => if b < 0 then none else some (objAt h b).mark) = none from rfl]
    let t2 : Tp pr := .i (show ((↑(List.map intt h.roots).length : Int) : Int) = (↑h.roots.length : Int) by simp)
    let t3 : Tp pr := .i (wrap_i64 (a := (↑h.roots.length : Int) - (1 : Int)) (by omega) (by omega))
    let t6 : Tp pr := .i (show ((↑(List.map intt p).length : Int) : Int) = (↑p.length : Int) by simp)
    let t7 : Tp pr := .b (show (decide ((↑p.length : Int) > (40 : Int))) = false by (simp; omega))
    let t8 : Tp pr := .g .row (show (lkp (List.map intt h.roots) root) = some ([T.int IntKind.i64 a]) from ha)
    let t9 : Tp pr := .i (show ((↑(List.map intt p).length : Int) : Int) = (↑p.length : Int) by simp)
    exact .tp [.a (e), .b (rfl : false = false), t2, t3, .a (w), .b (rfl : false = false), t6, t7, t8, t9, .a (l)] (by kernel_rfl)
  | some b =>
    rw [hw] at l
    rw [show ((some b).bind fun b => if b < 0 then none else some (objAt h b).mark) = if b < 0 then none else some (objAt h b).mark from rfl]
    by_cases h0 : b < 0
    · rw [if_pos h0]
      let t2 : Tp pr := .i (show ((↑(List.map intt h.roots).length : Int) : Int) = (↑h.roots.length : Int) by simp)
      let t3 : Tp pr := .i (wrap_i64 (a := (↑h.roots.length : Int) - (1 : Int)) (by omega) (by omega))
      let t6 : Tp pr := .i (show ((↑(List.map intt p).length : Int) : Int) = (↑p.length : Int) by simp)
      let t7 : Tp pr := .b (show (decide ((↑p.length : Int) > (40 : Int))) = false by (simp; omega))
      let t8 : Tp pr := .g .row (show (lkp (List.map intt h.roots) root) = some ([T.int IntKind.i64 a]) from ha)
      let t9 : Tp pr := .i (show ((↑(List.map intt p).length : Int) : Int) = (↑p.length : Int) by simp)
      let t11 : Tp pr := .b (show (decide (b < (0 : Int))) = true by (simp; omega))
      exact .tp [.a (e), .b (rfl : false = false), t2, t3, .a (w), .b (rfl : false = false), t6, t7, t8, t9, .a (l), t11] (by kernel_rfl)
    · rw [if_neg h0]
      have hb := walkP_bd gd p a b ham hw
      have hlk := objAt_lkp (h := h) (k := b) (by omega) hb
      let t2 : Tp pr := .i (show ((↑(List.map intt h.roots).length : Int) : Int) = (↑h.roots.length : Int) by simp)
      let t3 : Tp pr := .i (wrap_i64 (a := (↑h.roots.length : Int) - (1 : Int)) (by omega) (by omega))
      let t6 : Tp pr := .i (show ((↑(List.map intt p).length : Int) : Int) = (↑p.length : Int) by simp)
      let t7 : Tp pr := .b (show (decide ((↑p.length : Int) > (40 : Int))) = false by (simp; omega))
      let t8 : Tp pr := .g .row (show (lkp (List.map intt h.roots) root) = some ([T.int IntKind.i64 a]) from ha)
      let t9 : Tp pr := .i (show ((↑(List.map intt p).length : Int) : Int) = (↑p.length : Int) by simp)
      let t11 : Tp pr := .b (show (decide (b < (0 : Int))) = false by (simp; omega))
      let t12 : Tp pr := .g .row (show (lkp (List.map Obj.ce h.objects) b) = some ((objAt h b).ce) from hlk)
      exact .tp [.a (e), .b (rfl : false = false), t2, t3, .a (w), .b (rfl : false = false), t6, t7, t8, t9, .a (l), t11, t12] (by kernel_rfl)
theorem FpSA_ev (h : Hp) (root : Int) (p : List Int) (h1 : h.objects.length ≤ 1048576) (h2 : ∀ x ∈ h.objects, x.links.length ≤ 1048576) (h3 : h.roots.length ≤ 1048576) (hp : p.length ≤ 1048576) (hg : goodHeap h = false) :
    Ev pr (.call 34 [vs h.ce, i64 root, isq p] []) (.val (.tup [i64 0, bl false]) []) := by
  have e := GoodHeapS_ev h h1 h2 h3
  rw [hg] at e
  exact .tp [.a (e), .b (rfl : true = true), .b (rfl : true = true), .b (rfl : true = true), .b (rfl : true = true)] (by kernel_rfl)
theorem FpSB_ev (h : Hp) (root : Int) (p : List Int) (h1 : h.objects.length ≤ 1048576) (h2 : ∀ x ∈ h.objects, x.links.length ≤ 1048576) (h3 : h.roots.length ≤ 1048576) (hp : p.length ≤ 1048576) (hg : goodHeap h = true) (hr : ¬ (0 ≤ root ∧ root < h.roots.length)) :
    Ev pr (.call 34 [vs h.ce, i64 root, isq p] []) (.val (.tup [i64 0, bl false]) []) := by
  have e := GoodHeapS_ev h h1 h2 h3
  rw [hg] at e
  by_cases h0 : 0 ≤ root
  · have h4 : ¬ root < h.roots.length := fun hh => hr ⟨h0, hh⟩
    let t2 : Tp pr := .b (show (decide (root < (0 : Int))) = false by (simp; omega))
    let t3 : Tp pr := .i (show ((↑(List.map intt h.roots).length : Int) : Int) = (↑h.roots.length : Int) by simp)
    let t4 : Tp pr := .b (show (decide (root ≥ (↑h.roots.length : Int))) = true by (simp; omega))
    exact .tp [.a (e), .b (rfl : false = false), t2, t3, t4, .b (rfl : true = true)] (by kernel_rfl)
  · let t2 : Tp pr := .b (show (decide (root < (0 : Int))) = true by (simp; omega))
    exact .tp [.a (e), .b (rfl : false = false), t2, .b (rfl : true = true), .b (rfl : true = true)] (by kernel_rfl)
theorem FpSC_ev (h : Hp) (root : Int) (p : List Int) (h1 : h.objects.length ≤ 1048576) (h2 : ∀ x ∈ h.objects, x.links.length ≤ 1048576) (h3 : h.roots.length ≤ 1048576) (hp : p.length ≤ 1048576) (hg : goodHeap h = true) (hr : 0 ≤ root ∧ root < h.roots.length) (hp2 : ¬ p.length ≤ 40) :
    Ev pr (.call 34 [vs h.ce, i64 root, isq p] []) (.val (.tup [i64 0, bl false]) []) := by
  have e := GoodHeapS_ev h h1 h2 h3
  rw [hg] at e
  let t2 : Tp pr := .b (show (decide (root < (0 : Int))) = false by (simp; omega))
  let t3 : Tp pr := .i (show ((↑(List.map intt h.roots).length : Int) : Int) = (↑h.roots.length : Int) by simp)
  let t4 : Tp pr := .b (show (decide (root ≥ (↑h.roots.length : Int))) = false by (simp; omega))
  let t5 : Tp pr := .i (show ((↑(List.map intt p).length : Int) : Int) = (↑p.length : Int) by simp)
  let t6 : Tp pr := .b (show (decide ((↑p.length : Int) > (40 : Int))) = true by (simp; omega))
  exact .tp [.a (e), .b (rfl : false = false), t2, t3, t4, t5, t6] (by kernel_rfl)
theorem FpST_ev (h : Hp) (root a : Int) (p : List Int) (h1 : h.objects.length ≤ 1048576) (h2 : ∀ x ∈ h.objects, x.links.length ≤ 1048576) (h3 : h.roots.length ≤ 1048576) (hp : p.length ≤ 1048576) (hg : goodHeap h = true) (hr : 0 ≤ root ∧ root < h.roots.length) (hp2 : p.length ≤ 40)
    (ha : lkp (h.roots.map intt) root = some [T.int .i64 a]) (ham : a < h.objects.length) :
    Ev pr (.call 34 [vs h.ce, i64 root, isq p] []) (.val (.tup [i64 ((follow h a p).getD 0), bl (follow h a p).isSome]) []) := by
  have e := GoodHeapS_ev h h1 h2 h3
  rw [hg] at e
  have gd := goodHeap_ok hg
  have l := walkS_ev h gd p hp2 p [] a rfl ham
  rw [follow_walk]
  unfold fpX at l
  cases hw : walkP h a p with
  | none =>
    rw [hw] at l
    rw [show ((none : Option Int).bind fun b => if b < 0 then none else some (objAt h b).mark) = none from rfl]
    let t2 : Tp pr := .b (show (decide (root < (0 : Int))) = false by (simp; omega))
    let t3 : Tp pr := .i (show ((↑(List.map intt h.roots).length : Int) : Int) = (↑h.roots.length : Int) by simp)
    let t4 : Tp pr := .b (show (decide (root ≥ (↑h.roots.length : Int))) = false by (simp; omega))
    let t5 : Tp pr := .i (show ((↑(List.map intt p).length : Int) : Int) = (↑p.length : Int) by simp)
    let t6 : Tp pr := .b (show (decide ((↑p.length : Int) > (40 : Int))) = false by (simp; omega))
    let t7 : Tp pr := .g .row (show (lkp (List.map intt h.roots) root) = some ([T.int IntKind.i64 a]) from ha)
    let t8 : Tp pr := .i (show ((↑(List.map intt p).length : Int) : Int) = (↑p.length : Int) by simp)
    exact .tp [.a (e), .b (rfl : false = false), t2, t3, t4, t5, t6, t7, t8, .a (l)] (by kernel_rfl)
  | some b =>
    rw [hw] at l
    rw [show ((some b).bind fun b => if b < 0 then none else some (objAt h b).mark) = if b < 0 then none else some (objAt h b).mark from rfl]
    by_cases h0 : b < 0
    · rw [if_pos h0]
      let t2 : Tp pr := .b (show (decide (root < (0 : Int))) = false by (simp; omega))
      let t3 : Tp pr := .i (show ((↑(List.map intt h.roots).length : Int) : Int) = (↑h.roots.length : Int) by simp)
      let t4 : Tp pr := .b (show (decide (root ≥ (↑h.roots.length : Int))) = false by (simp; omega))
      let t5 : Tp pr := .i (show ((↑(List.map intt p).length : Int) : Int) = (↑p.length : Int) by simp)
      let t6 : Tp pr := .b (show (decide ((↑p.length : Int) > (40 : Int))) = false by (simp; omega))
      let t7 : Tp pr := .g .row (show (lkp (List.map intt h.roots) root) = some ([T.int IntKind.i64 a]) from ha)
      let t8 : Tp pr := .i (show ((↑(List.map intt p).length : Int) : Int) = (↑p.length : Int) by simp)
      let t10 : Tp pr := .b (show (decide (b < (0 : Int))) = true by (simp; omega))
      exact .tp [.a (e), .b (rfl : false = false), t2, t3, t4, t5, t6, t7, t8, .a (l), t10] (by kernel_rfl)
    · rw [if_neg h0]
      have hb := walkP_bd gd p a b ham hw
      have hlk := objAt_lkp (h := h) (k := b) (by omega) hb
      let t2 : Tp pr := .b (show (decide (root < (0 : Int))) = false by (simp; omega))
      let t3 : Tp pr := .i (show ((↑(List.map intt h.roots).length : Int) : Int) = (↑h.roots.length : Int) by simp)
      let t4 : Tp pr := .b (show (decide (root ≥ (↑h.roots.length : Int))) = false by (simp; omega))
      let t5 : Tp pr := .i (show ((↑(List.map intt p).length : Int) : Int) = (↑p.length : Int) by simp)
      let t6 : Tp pr := .b (show (decide ((↑p.length : Int) > (40 : Int))) = false by (simp; omega))
      let t7 : Tp pr := .g .row (show (lkp (List.map intt h.roots) root) = some ([T.int IntKind.i64 a]) from ha)
      let t8 : Tp pr := .i (show ((↑(List.map intt p).length : Int) : Int) = (↑p.length : Int) by simp)
      let t10 : Tp pr := .b (show (decide (b < (0 : Int))) = false by (simp; omega))
      let t11 : Tp pr := .g .row (show (lkp (List.map Obj.ce h.objects) b) = some ((objAt h b).ce) from hlk)
      exact .tp [.a (e), .b (rfl : false = false), t2, t3, t4, t5, t6, t7, t8, .a (l), t10, t11] (by kernel_rfl)
theorem root_lkp {h : Hp} {root : Int} (hg : GoodH h) (hr : 0 ≤ root ∧ root < h.roots.length) : ∃ a, a ∈ h.roots ∧ a < h.objects.length ∧ lkp (h.roots.map intt) root = some [T.int .i64 a] := by
  have hlt : root.toNat < h.roots.length := by omega
  refine ⟨h.roots[root.toNat], List.getElem_mem hlt, (hg.roots _ (List.getElem_mem hlt)).2, ?_⟩
  simp [lkp, intt, hr.1, hlt]
theorem fp_cases (h : Hp) (root : Int) (p : List Int) (h1 : h.objects.length ≤ 1048576) (h2 : ∀ x ∈ h.objects, x.links.length ≤ 1048576) (h3 : h.roots.length ≤ 1048576) (hp : p.length ≤ 1048576) :
    ∃ (v : Int) (b : Bool), Ev pr (.call 33 [vs h.ce, i64 root, isq p] []) (.val (.tup [i64 v, bl b]) []) ∧ Ev pr (.call 34 [vs h.ce, i64 root, isq p] []) (.val (.tup [i64 v, bl b]) []) := by
  by_cases hg : goodHeap h = true
  · by_cases hr : 0 ≤ root ∧ root < h.roots.length
    · by_cases hp2 : p.length ≤ 40
      · obtain ⟨a, _, ham, ha⟩ := root_lkp (goodHeap_ok hg) hr
        exact ⟨_, _, FpIT_ev h root a p h1 h2 h3 hp hg hr hp2 ha ham, FpST_ev h root a p h1 h2 h3 hp hg hr hp2 ha ham⟩
      · exact ⟨_, _, FpIC_ev h root p h1 h2 h3 hp hg hr hp2, FpSC_ev h root p h1 h2 h3 hp hg hr hp2⟩
    · exact ⟨_, _, FpIB_ev h root p h1 h2 h3 hp hg hr, FpSB_ev h root p h1 h2 h3 hp hg hr⟩
  · have hg : goodHeap h = false := by simpa using hg
    exact ⟨_, _, FpIA_ev h root p h1 h2 h3 hp hg, FpSA_ev h root p h1 h2 h3 hp hg⟩
end Go.Ev

/- What the laws of heaps draw. -/
namespace Go.Ev
set_option linter.unusedVariables false
set_option linter.unusedSimpArgs false
open Go.Proofs
set_option maxRecDepth 100000
set_option linter.unusedVariables false
set_option maxHeartbeats 4000000
attribute [local simp] ints_takeD
abbrev bsq (bs : List Int) : V := .t (.seq 1 (bs.map u8t))
def smallH (h : Hp) : Prop := h.objects.length ≤ 41 ∧ (∀ x ∈ h.objects, x.links.length ≤ 5) ∧ h.roots.length ≤ 5
theorem drawSL_ex (bs : List Int) (hb : okB bs) : ∃ (h : Hp) (o k to : Int), smallH h ∧ Ev pr (.call 21 [bsq bs] []) (.val (.tup [vs h.ce, i64 o, i64 k, i64 to]) []) := by
  obtain ⟨h, a1, s1, b1, b2, b3, ha1, e1⟩ := heap_ex bs hb 0 0 (by omega) (by omega)
  obtain ⟨o, a2, s2, hv2, ha2, e2⟩ := pick_ex bs hb a1 s1 (by omega) (by omega) (h.objects.length + 1) (by omega)
  obtain ⟨k, a3, s3, hv3, ha3, e3⟩ := pick_ex bs hb a2 s2 (by omega) (by omega) 3 (by omega)
  obtain ⟨to, a4, s4, hv4, ha4, e4⟩ := pick_ex bs hb a3 s3 (by omega) (by omega) (h.objects.length + 2) (by omega)
  refine ⟨h, o, k, to - 1, ⟨b1, b2, b3⟩, ?_⟩
  unfold cuB at *
  let t1 : Tp pr := .i (show ((↑(List.map Obj.ce h.objects).length : Int) : Int) = (↑h.objects.length : Int) by simp)
  let t5 : Tp pr := .i (wrap_i64 (a := (↑h.objects.length : Int) + (1 : Int)) (by omega) (by omega))
  let t14 : Tp pr := .i (wrap_i64 (a := (↑h.objects.length : Int) + (2 : Int)) (by omega) (by omega))
  let t18 : Tp pr := .i (wrap_i64 (a := to - (1 : Int)) (by omega) (by omega))
  exact .tp [.a (e1), t1, .m (rfl : true = true), .m (rfl : true = true), .m (rfl : true = true), t5, .m (rfl : true = true), .a (e2), .m (rfl : true = true), .m (rfl : true = true), .a (e3), .m (rfl : true = true), .m (rfl : true = true), .m (rfl : true = true), t14, .m (rfl : true = true), .a (e4), .m (rfl : true = true), t18, .m (rfl : true = true), .m (rfl : true = true), .m (rfl : true = true), .m (rfl : true = true), .m (rfl : true = true)] (by kernel_rfl)
theorem drawDR_ex (bs : List Int) (hb : okB bs) : ∃ (h : Hp) (k : Int), smallH h ∧ Ev pr (.call 29 [bsq bs] []) (.val (.tup [vs h.ce, i64 k]) []) := by
  obtain ⟨h, a1, s1, b1, b2, b3, ha1, e1⟩ := heap_ex bs hb 0 0 (by omega) (by omega)
  obtain ⟨o, a2, s2, hv2, ha2, e2⟩ := pick_ex bs hb a1 s1 (by omega) (by omega) (h.roots.length + 2) (by omega)
  refine ⟨h, o - 1, ⟨b1, b2, b3⟩, ?_⟩
  unfold cuB at *
  let t5 : Tp pr := .i (show ((↑(List.map intt h.roots).length : Int) : Int) = (↑h.roots.length : Int) by simp)
  let t7 : Tp pr := .i (wrap_i64 (a := (↑h.roots.length : Int) + (2 : Int)) (by omega) (by omega))
  let t11 : Tp pr := .i (wrap_i64 (a := o - (1 : Int)) (by omega) (by omega))
  exact .tp [.a (e1), .m (rfl : true = true), .m (rfl : true = true), .m (rfl : true = true), .m (rfl : true = true), t5, .m (rfl : true = true), t7, .m (rfl : true = true), .a (e2), .m (rfl : true = true), t11, .m (rfl : true = true), .m (rfl : true = true), .m (rfl : true = true)] (by kernel_rfl)
theorem noL_ex (bs : List Int) (hb : okB bs) (h : Hp) (hN : h.objects.length ≤ 41) : ∀ (k : Nat) (l : List Int) (a s : Int), 0 ≤ a → a + k ≤ 40000000 → l.length + k ≤ 100 →
    ∃ (l' : List Int) (a' s' : Int), l'.length ≤ l.length + k ∧ (a ≤ a' ∧ a' ≤ a + k) ∧
    Ev pr (.loop (lq pr 26 0) (at_ [(2, .ptr 0 1 0 0), (5, .ptr 1 1 0 0), (6, .ptr 2 1 0 0), (7, .vec 3 l.length 1 0 l.length), (8, i64 k)]
        [.box [.t .nils, .t .nils], cuB bs a s, .box [osq h.objects, isq h.roots], .vec true 1 (ints l)] 0))
      (.exit 0 (at_ [(2, .ptr 0 1 0 0), (5, .ptr 1 1 0 0), (6, .ptr 2 1 0 0), (7, .vec 3 l'.length 1 0 l'.length)]
        [.box [.t .nils, .t .nils], cuB bs a' s', .box [osq h.objects, isq h.roots], .vec true 1 (ints l')] 0))
  | 0, l, a, s, h0, h1, h2 => by
    refine ⟨l, a, s, by omega, by omega, ?_⟩
    unfold cuB
    exact .tp [.b (rfl : false = false)] (by kernel_rfl)
  | k + 1, l, a, s, h0, h1, h2 => by
    obtain ⟨v, a1, s1, hv, ha1, e⟩ := pick_ex bs hb a s h0 (by omega) (h.objects.length + 2) (by omega)
    obtain ⟨l', a', s', hl, ha, ih⟩ := noL_ex bs hb h hN k (l ++ [v - 1]) a1 s1 (by omega) (by omega) (by simp; omega)
    refine ⟨l', a', s', by simp at hl; omega, by omega, ?_⟩
    rw [ints_snocD, List.length_append, List.length_singleton] at ih
    unfold cuB at *
    let t0 : Tp pr := .b (show (decide ((↑(k + (1 : Nat)) : Int) > (0 : Int))) = true by simp)
    let t1 : Tp pr := .i (show ((↑(List.map Obj.ce h.objects).length : Int) : Int) = (↑h.objects.length : Int) by simp)
    let t2 : Tp pr := .i (wrap_i64 (a := (↑h.objects.length : Int) + (2 : Int)) (by omega) (by omega))
    let t4 : Tp pr := .i (wrap_i64 (a := v - (1 : Int)) (by omega) (by omega))
    let t6 : Tp pr := .m (show (decide ((ints l).length = l.length ∧ (0 : Nat) + l.length ≤ l.length ∧ l.length + (1 : Nat) ≤ (4294967296 : Nat))) = true by (simp; omega))
    let t7 : Tp pr := .b (show (decide (l.length + (1 : Nat) ≤ l.length)) = false by simp)
    let t9 : Tp pr := .n .crows (show ((List.take l.length (ints l)).append (List.take (1 : Nat) (List.drop (0 : Nat) [[C.t (T.int IntKind.i64 (v - (1 : Int)))]]))) = ints l ++ [[C.t (T.int IntKind.i64 (v - (1 : Int)))]] by simp)
    let t10 : Tp pr := .i (wrap_i64 (a := (↑(k + (1 : Nat)) : Int) - (1 : Int)) (by omega) (by omega))
    let t11 : Tp pr := .a (Ev.castq (congrArg (fun x => Q.loop (lq pr (26 : FuncId) (0 : Nat)) (at_ [((2 : Nat), V.ptr (0 : Nat) (1 : Nat) (0 : Nat) (0 : Nat)), ((5 : Nat), V.ptr (1 : Nat) (1 : Nat) (0 : Nat) (0 : Nat)), ((6 : Nat), V.ptr (2 : Nat) (1 : Nat) (0 : Nat) (0 : Nat)), ((7 : Nat), V.vec (3 : Nat) (l.length + (1 : Nat)) (1 : Nat) (0 : Nat) (l.length + (1 : Nat))), ((8 : Nat), i64 x)] [Ob.box [V.t T.nils, V.t T.nils], Ob.box [V.t (T.seq (1 : Nat) (List.map u8t bs)), V.t (T.int IntKind.i64 a1), V.t (T.int IntKind.u64 s1)], Ob.box [osq h.objects, isq h.roots], Ob.vec true (1 : Nat) ((ints l).append [[C.t (T.int IntKind.i64 (v - (1 : Int)))]])] (0 : Nat))) (show ((↑k : Int)) = ((↑(k + (1 : Nat)) : Int) - (1 : Int)) by simp)) (ih))
    exact .tp [t0, t1, t2, .a (e), t4, .m (rfl : true = true), t6, t7, .c (rfl : (l.length + (1 : Nat)) = _), t9, t10, t11] (by kernel_rfl)
theorem fpL_ex (bs : List Int) (hb : okB bs) (h : Hp) (hN : h.objects.length ≤ 41) : ∀ (k : Nat) (l : List Int) (a s : Int), 0 ≤ a → a + k ≤ 40000000 → l.length + k ≤ 100 →
    ∃ (l' : List Int) (a' s' : Int), l'.length ≤ l.length + k ∧ (a ≤ a' ∧ a' ≤ a + k) ∧
    Ev pr (.loop (lq pr 32 0) (at_ [(2, .ptr 0 1 0 0), (5, .ptr 1 1 0 0), (6, .ptr 2 1 0 0), (7, .vec 3 l.length 1 0 l.length), (8, i64 k)]
        [.box [.t .nils, .t .nils], cuB bs a s, .box [osq h.objects, isq h.roots], .vec true 1 (ints l)] 0))
      (.exit 0 (at_ [(2, .ptr 0 1 0 0), (5, .ptr 1 1 0 0), (6, .ptr 2 1 0 0), (7, .vec 3 l'.length 1 0 l'.length)]
        [.box [.t .nils, .t .nils], cuB bs a' s', .box [osq h.objects, isq h.roots], .vec true 1 (ints l')] 0))
  | 0, l, a, s, h0, h1, h2 => by
    refine ⟨l, a, s, by omega, by omega, ?_⟩
    unfold cuB
    exact .tp [.b (rfl : false = false)] (by kernel_rfl)
  | k + 1, l, a, s, h0, h1, h2 => by
    obtain ⟨v, a1, s1, hv, ha1, e⟩ := pick_ex bs hb a s h0 (by omega) 3 (by omega)
    obtain ⟨l', a', s', hl, ha, ih⟩ := fpL_ex bs hb h hN k (l ++ [v]) a1 s1 (by omega) (by omega) (by simp; omega)
    refine ⟨l', a', s', by simp at hl; omega, by omega, ?_⟩
    rw [ints_snocD, List.length_append, List.length_singleton] at ih
    unfold cuB at *
    let t0 : Tp pr := .b (show (decide ((↑(k + (1 : Nat)) : Int) > (0 : Int))) = true by simp)
    let t3 : Tp pr := .m (show (decide ((ints l).length = l.length ∧ (0 : Nat) + l.length ≤ l.length ∧ l.length + (1 : Nat) ≤ (4294967296 : Nat))) = true by (simp; omega))
    let t4 : Tp pr := .b (show (decide (l.length + (1 : Nat) ≤ l.length)) = false by simp)
    let t6 : Tp pr := .n .crows (show ((List.take l.length (ints l)).append (List.take (1 : Nat) (List.drop (0 : Nat) [[C.t (T.int IntKind.i64 v)]]))) = ints l ++ [[C.t (T.int IntKind.i64 v)]] by simp)
    let t7 : Tp pr := .i (wrap_i64 (a := (↑(k + (1 : Nat)) : Int) - (1 : Int)) (by omega) (by omega))
    let t8 : Tp pr := .a (Ev.castq (congrArg (fun x => Q.loop (lq pr (32 : FuncId) (0 : Nat)) (at_ [((2 : Nat), V.ptr (0 : Nat) (1 : Nat) (0 : Nat) (0 : Nat)), ((5 : Nat), V.ptr (1 : Nat) (1 : Nat) (0 : Nat) (0 : Nat)), ((6 : Nat), V.ptr (2 : Nat) (1 : Nat) (0 : Nat) (0 : Nat)), ((7 : Nat), V.vec (3 : Nat) (l.length + (1 : Nat)) (1 : Nat) (0 : Nat) (l.length + (1 : Nat))), ((8 : Nat), i64 x)] [Ob.box [V.t T.nils, V.t T.nils], Ob.box [V.t (T.seq (1 : Nat) (List.map u8t bs)), V.t (T.int IntKind.i64 a1), V.t (T.int IntKind.u64 s1)], Ob.box [osq h.objects, isq h.roots], Ob.vec true (1 : Nat) ((ints l).append [[C.t (T.int IntKind.i64 v)]])] (0 : Nat))) (show ((↑k : Int)) = ((↑(k + (1 : Nat)) : Int) - (1 : Int)) by simp)) (ih))
    exact .tp [t0, .a (e), .m (rfl : true = true), t3, t4, .c (rfl : (l.length + (1 : Nat)) = _), t6, t7, t8] (by kernel_rfl)
theorem drawNO_ex (bs : List Int) (hb : okB bs) : ∃ (h : Hp) (m : Int) (l : List Int), smallH h ∧ l.length ≤ 4 ∧ Ev pr (.call 26 [bsq bs] []) (.val (.tup [vs h.ce, i64 m, isq l]) []) := by
  obtain ⟨h, a1, s1, b1, b2, b3, ha1, e1⟩ := heap_ex bs hb 0 0 (by omega) (by omega)
  obtain ⟨o, a2, s2, hv2, ha2, e2⟩ := pick_ex bs hb a1 s1 (by omega) (by omega) 4 (by omega)
  obtain ⟨o, rfl⟩ : ∃ k : Nat, o = k := ⟨o.toNat, by omega⟩
  obtain ⟨l, a3, s3, hl, ha3, e3⟩ := noL_ex bs hb h b1 o [] a2 s2 (by omega) (by omega) (by simp; omega)
  obtain ⟨m, a4, s4, hm, ha4, e4⟩ := among_ex bs hb a3 s3 (by omega) (by omega) [0, 5, 1000, 1001] (by simp) (by simp)
  refine ⟨h, m, l, ⟨b1, b2, b3⟩, by simp at hl; omega, ?_⟩
  unfold cuB at *
  let t7 : Tp pr := .n .rows (show (List.map (fun x => List.map C.fz x) (List.take (4 : Nat) (List.drop (0 : Nat) [[C.t (T.int IntKind.i64 (0 : Int))], [C.t (T.int IntKind.i64 (5 : Int))], [C.t (T.int IntKind.i64 (1000 : Int))], [C.t (T.int IntKind.i64 (1001 : Int))]]))) = [[(C.t (T.int IntKind.i64 (0 : Int))).fz], [(C.t (T.int IntKind.i64 (5 : Int))).fz], [(C.t (T.int IntKind.i64 (1000 : Int))).fz], [(C.t (T.int IntKind.i64 (1001 : Int))).fz]] by simp)
  let t14 : Tp pr := .m (show (decide ((ints l).length = l.length ∧ (0 : Nat) + l.length ≤ l.length)) = true by simp)
  let t15 : Tp pr := .n .rows (show (List.map (fun x => List.map C.fz x) (List.take l.length (List.drop (0 : Nat) (ints l)))) = List.map intt l by simp)
  exact .tp [.a (e1), .a (e2), .a (e3), .m (rfl : true = true), .m (rfl : true = true), .m (rfl : true = true), .m (rfl : true = true), t7, .a (e4), .m (rfl : true = true), .m (rfl : true = true), .m (rfl : true = true), .m (rfl : true = true), .m (rfl : true = true), t14, t15] (by kernel_rfl)
theorem drawFP_ex (bs : List Int) (hb : okB bs) : ∃ (h : Hp) (m : Int) (l : List Int), smallH h ∧ l.length ≤ 5 ∧ Ev pr (.call 32 [bsq bs] []) (.val (.tup [vs h.ce, i64 m, isq l]) []) := by
  obtain ⟨h, a1, s1, b1, b2, b3, ha1, e1⟩ := heap_ex bs hb 0 0 (by omega) (by omega)
  obtain ⟨o, a2, s2, hv2, ha2, e2⟩ := pick_ex bs hb a1 s1 (by omega) (by omega) 5 (by omega)
  obtain ⟨o, rfl⟩ : ∃ k : Nat, o = k := ⟨o.toNat, by omega⟩
  obtain ⟨l, a3, s3, hl, ha3, e3⟩ := fpL_ex bs hb h b1 o [] a2 s2 (by omega) (by omega) (by simp; omega)
  obtain ⟨m, a4, s4, hm, ha4, e4⟩ := pick_ex bs hb a3 s3 (by omega) (by omega) (h.roots.length + 1) (by omega)
  refine ⟨h, m, l, ⟨b1, b2, b3⟩, by simp at hl; omega, ?_⟩
  unfold cuB at *
  let t7 : Tp pr := .i (show ((↑(List.map intt h.roots).length : Int) : Int) = (↑h.roots.length : Int) by simp)
  let t9 : Tp pr := .i (wrap_i64 (a := (↑h.roots.length : Int) + (1 : Int)) (by omega) (by omega))
  let t17 : Tp pr := .m (show (decide ((ints l).length = l.length ∧ (0 : Nat) + l.length ≤ l.length)) = true by simp)
  let t18 : Tp pr := .n .rows (show (List.map (fun x => List.map C.fz x) (List.take l.length (List.drop (0 : Nat) (ints l)))) = List.map intt l by simp)
  exact .tp [.a (e1), .a (e2), .a (e3), .m (rfl : true = true), .m (rfl : true = true), .m (rfl : true = true), .m (rfl : true = true), t7, .m (rfl : true = true), t9, .m (rfl : true = true), .a (e4), .m (rfl : true = true), .m (rfl : true = true), .m (rfl : true = true), .m (rfl : true = true), .m (rfl : true = true), t17, t18] (by kernel_rfl)
end Go.Ev

/- What is done to a heap: the program's answer and the reference's, in all cases. -/
namespace Go.Ev
set_option linter.unusedVariables false
set_option linter.unusedSimpArgs false
open Go.Proofs
set_option maxRecDepth 100000
set_option linter.unusedVariables false
set_option maxHeartbeats 2000000
theorem split_at {α : Type} (l : List α) (o : Int) (h0 : 0 ≤ o) (h1 : o < l.length) : ∃ P x Q, l = P ++ x :: Q ∧ o = P.length := by
  have hn : o.toNat < l.length := by omega
  refine ⟨l.take o.toNat, l[o.toNat], l.drop (o.toNat + 1), ?_, by simp; omega⟩
  rw [← List.drop_eq_getElem_cons hn, List.take_append_drop]
def midH (h : Hp) : Prop := h.objects.length ≤ 1048576 ∧ (∀ x ∈ h.objects, x.links.length ≤ 1048576) ∧ h.roots.length ≤ 1048576
theorem good_mid {h : Hp} (hg : goodHeap h = true) : midH h := by
  have gd := goodHeap_ok hg
  exact ⟨by have := gd.objs; omega, fun x hx => by have := gd.llen x hx; omega, by have := gd.rlen; omega⟩
theorem nil_mid : midH ⟨[], []⟩ := ⟨by simp, by simp, by simp⟩
theorem new_cases (h : Hp) (mark : Int) (links : List Int) (hm : midH h) (hl : links.length ≤ 1048576) : ∃ (g : Hp) (b : Bool), (b = true → goodHeap g = true ∧ g.objects.length = h.objects.length + 1) ∧ midH g ∧
    Ev pr (.call 27 [vs h.ce, i64 mark, isq links] []) (.val (.tup [vs g.ce, bl b]) []) ∧ Ev pr (.call 28 [vs h.ce, i64 mark, isq links] []) (.val (.tup [vs g.ce, bl b]) []) := by
  obtain ⟨h1, h2, h3⟩ := hm
  by_cases hg : goodHeap h = true
  · by_cases hg2 : goodHeap (newH h mark links) = true
    · exact ⟨newH h mark links, true, fun _ => ⟨hg2, by simp [newH]⟩, good_mid hg2, NewIT_ev h mark links h1 h2 h3 hl hg hg2, NewST_ev h mark links h1 h2 h3 hl hg hg2⟩
    · have hg2 : goodHeap (newH h mark links) = false := by simpa using hg2
      exact ⟨⟨[], []⟩, false, fun h => (by cases h), nil_mid, NewIF2_ev h mark links h1 h2 h3 hl hg hg2, NewSF2_ev h mark links h1 h2 h3 hl hg hg2⟩
  · have hg : goodHeap h = false := by simpa using hg
    exact ⟨⟨[], []⟩, false, fun h => (by cases h), nil_mid, NewIF_ev h mark links h1 h2 h3 hg, NewSF_ev h mark links h1 h2 h3 hg⟩
theorem drop_cases (h : Hp) (k : Int) (hm : midH h) : ∃ (g : Hp) (b : Bool), midH g ∧
    Ev pr (.call 30 [vs h.ce, i64 k] []) (.val (.tup [vs g.ce, bl b]) []) ∧ Ev pr (.call 31 [vs h.ce, i64 k] []) (.val (.tup [vs g.ce, bl b]) []) := by
  have hm' := hm
  obtain ⟨h1, h2, h3⟩ := hm
  by_cases hg : goodHeap h = true
  · by_cases ho : 0 ≤ k ∧ k < h.roots.length
    · obtain ⟨A, y, B, he, rfl⟩ := split_at h.roots k ho.1 ho.2
      have n3 := (goodHeap_ok hg).rlen
      obtain ⟨os, rs⟩ := h
      dsimp only at he h1 h2 h3 n3
      subst he
      have hlen : (A ++ y :: B).length = (A ++ B).length + 1 := by simp; omega
      exact ⟨⟨os, A ++ B⟩, true, ⟨h1, h2, by dsimp only; omega⟩, DropIT_ev os A B y h1 h2 (by omega) hg, DropST_ev os A B y h1 h2 (by omega) hg⟩
    · exact ⟨⟨[], []⟩, false, nil_mid, DropIB_ev h k h1 h2 h3 hg ho, DropSB_ev h k h1 h2 h3 hg ho⟩
  · have hg : goodHeap h = false := by simpa using hg
    exact ⟨⟨[], []⟩, false, nil_mid, DropIA_ev h k h1 h2 h3 hg, DropSA_ev h k h1 h2 h3 hg⟩
theorem setO_split (P Q : List Obj) (mk : Int) (A B rs : List Int) (y to : Int) : setO (setH P Q mk A B rs y) P.length A.length to = setH P Q mk A B rs to := by
  simp [setO, setH, objAt, List.getD_eq_getElem?_getD]
theorem set_cases (h : Hp) (o k to : Int) (hm : midH h) :
    (goodHeap h = true ∧ (0 ≤ o ∧ o < h.objects.length) ∧ (0 ≤ k ∧ k < (objAt h o).links.length) ∧ goodHeap (setO h o k to) = true ∧
      Ev pr (.call 22 [vs h.ce, i64 o, i64 k, i64 to] []) (.val (.tup [vs (setO h o k to).ce, bl true]) []) ∧ Ev pr (.call 23 [vs h.ce, i64 o, i64 k, i64 to] []) (.val (.tup [vs (setO h o k to).ce, bl true]) [])) ∨
    (¬ (goodHeap h = true ∧ (0 ≤ o ∧ o < h.objects.length) ∧ (0 ≤ k ∧ k < (objAt h o).links.length) ∧ goodHeap (setO h o k to) = true) ∧
      Ev pr (.call 22 [vs h.ce, i64 o, i64 k, i64 to] []) (.val (.tup [vs (Hp.mk [] []).ce, bl false]) []) ∧ Ev pr (.call 23 [vs h.ce, i64 o, i64 k, i64 to] []) (.val (.tup [vs (Hp.mk [] []).ce, bl false]) [])) := by
  obtain ⟨h1, h2, h3⟩ := hm
  by_cases hg : goodHeap h = true
  · by_cases ho : 0 ≤ o ∧ o < h.objects.length
    · obtain ⟨P, x, Q, he, rfl⟩ := split_at h.objects o ho.1 ho.2
      obtain ⟨os, rs⟩ := h
      dsimp only at he h1 h2 h3
      subst he
      have hx : objAt ⟨P ++ x :: Q, rs⟩ (P.length : Int) = x := by simp [objAt, List.getD_eq_getElem?_getD]
      by_cases hk : 0 ≤ k ∧ k < x.links.length
      · obtain ⟨A, y, B, hb, rfl⟩ := split_at x.links k hk.1 hk.2
        obtain ⟨mk, ls⟩ := x
        dsimp only at hb
        subst hb
        have e := setO_split P Q mk A B rs y to
        unfold setH at e
        by_cases hg2 : goodHeap (setH P Q mk A B rs to) = true
        · refine .inl ⟨hg, ho, by rw [hx]; exact hk, ?_, ?_, ?_⟩
          · rw [e]; exact hg2
          · rw [e]; exact SetIT_ev P Q mk A B rs y to h1 h2 h3 hg hg2
          · rw [e]; exact SetST_ev P Q mk A B rs y to h1 h2 h3 hg hg2
        · have hg3 : goodHeap (setH P Q mk A B rs to) = false := by simpa using hg2
          exact .inr ⟨fun hh => hg2 (by have := hh.2.2.2; rw [e] at this; exact this), SetIF_ev P Q mk A B rs y to h1 h2 h3 hg hg3, SetSF_ev P Q mk A B rs y to h1 h2 h3 hg hg3⟩
      · exact .inr ⟨fun hh => hk (by have := hh.2.2.1; rwa [hx] at this), SetIC_ev P Q x rs k to h1 h2 h3 hg hk, SetSC_ev P Q x rs k to h1 h2 h3 hg hk⟩
    · exact .inr ⟨fun hh => ho hh.2.1, SetIB_ev h o k to h1 h2 h3 hg ho, SetSB_ev h o k to h1 h2 h3 hg ho⟩
  · have hgf : goodHeap h = false := by simpa using hg
    exact .inr ⟨fun hh => hg hh.1, SetIA_ev h o k to h1 h2 h3 hgf, SetSA_ev h o k to h1 h2 h3 hgf⟩
end Go.Ev

/- The law: what is done to a heap does the same to its copy. -/
namespace Go.Ev
set_option linter.unusedVariables false
set_option linter.unusedSimpArgs false
open Go.Proofs
set_option maxRecDepth 100000
set_option linter.unusedVariables false
set_option maxHeartbeats 8000000
theorem small_mid {h : Hp} (hs : smallH h) : midH h := ⟨by have := hs.1; omega, fun x hx => by have := hs.2.1 x hx; omega, by have := hs.2.2; omega⟩
theorem names_lkp {N : Nat} {l : List Int} {k : Int} (h0 : 0 ≤ k) (h1 : k < N) : lkp ((namesOf N l).map intt) k = some [T.int .i64 (newOf l k)] := by
  have hk : k.toNat < N := by omega
  have e := namesOf_getD (l := l) hk
  rw [List.getD_eq_getElem?_getD, List.getElem?_eq_getElem (by simpa using hk)] at e
  simp only [Option.getD_some] at e
  have hlt : k.toNat < (namesOf N l).length := by simpa using hk
  simp only [lkp, if_pos h0, List.getElem?_map, List.getElem?_eq_getElem hlt, Option.map_some, intt, e]
  rw [show ((k.toNat : Nat) : Int) = k by omega]
theorem law0_ev (bs cs : List Int) (hb : ∀ b ∈ bs, 0 ≤ b ∧ b ≤ 255) (hc : ∀ b ∈ cs, 0 ≤ b ∧ b ≤ 255) (h1 : bs.length ≤ 9223372036854775807) (h2 : cs.length ≤ 9223372036854775807) :
    Ev pr (.call 5 [bsq bs, bsq cs] []) (.val (bl true) []) := by
  obtain ⟨sm, hw⟩ : ∃ m, m = IntKind.i64.wrap ((bs.length : Int) + cs.length) := ⟨_, rfl⟩
  have hw := hw.symm
  by_cases hlen : sm ≤ 1048576
  · obtain ⟨h, o, k, to, hs, e1⟩ := drawSL_ex bs ⟨h1, hb⟩
    obtain ⟨g, mark, links, gs, gl, e2⟩ := drawNO_ex cs ⟨h2, hc⟩
    obtain ⟨d, n, ds, e3⟩ := drawDR_ex cs ⟨h2, hc⟩
    obtain ⟨fh, root, path, fs, fl, e4⟩ := drawFP_ex cs ⟨h2, hc⟩
    obtain ⟨na, nb, nh, nm, n1, n2⟩ := new_cases g mark links (small_mid gs) (by omega)
    obtain ⟨da, db, dm, d1, d2⟩ := drop_cases d n (small_mid ds)
    obtain ⟨fv, fb, f1, f2⟩ := fp_cases fh root path (small_mid fs).1 (small_mid fs).2.1 (small_mid fs).2.2 (by omega)
    have sn := sameHp_ev na nm.1 nm.2.1 nm.2.2
    have sd := sameHp_ev da dm.1 dm.2.1 dm.2.2
    have hgN := gs.1
    rcases set_cases h o k to (small_mid hs) with ⟨hg, ho, hk, hg2, s1, s2⟩ | ⟨_, s1, s2⟩
    · have gd := goodHeap_ok hg
      have hN := gd.objs
      have hm := small_mid hs
      have cI := CopyIT_ev h hm.1 hm.2.1 hm.2.2 hg
      have gx := goodHeap_ok hg2
      have xm := good_mid hg2
      have q2 := GoodHeapI_ev (setO h o k to) xm.1 xm.2.1 xm.2.2
      rw [hg2] at q2
      have sx := sameHp_ev (setO h o k to) xm.1 xm.2.1 xm.2.2
      have hto : -1 ≤ to ∧ to < h.objects.length := by
        have h3 : (⟨(objAt h o).mark, (objAt h o).links.set k.toNat to⟩ : Obj) ∈ (setO h o k to).objects := List.mem_of_getElem? (i := o.toNat) (by
          unfold setO
          dsimp only
          rw [List.getElem?_set, if_pos rfl, if_pos (by omega)])
        have h4 : to ∈ (objAt h o).links.set k.toNat to := List.mem_of_getElem? (i := k.toNat) (by rw [List.getElem?_set, if_pos rfl, if_pos (by omega)])
        have h5 := gx.links _ h3 to h4
        rwa [show (setO h o k to).objects.length = h.objects.length by simp [setO]] at h5
      have lo := names_lkp (l := order h) ho.1 ho.2
      by_cases t0 : to < 0
      · by_cases om : o ∈ order h
        · obtain ⟨gz, ez⟩ := set_copy gd om hto.1 (k := k) (.inl t0)
          have hcg := goodHeap_of (copyH_good gd)
          have hclen : (copyH h).objects.length = (order h).length := by simp [copyH]
          have no0 := newOf_in om
          have no1 := newOf_lt om
          rcases set_cases (copyH h) (newOf (order h) o) k (newOf (order h) to) (good_mid hcg) with ⟨_, _, _, gz2, z1, _⟩ | ⟨hno, _, _⟩
          · have zm := good_mid gz2
            have ss := SameI3_ev (setO h o k to) (setO (copyH h) (newOf (order h) o) k (newOf (order h) to)) xm.1 xm.2.1 xm.2.2 hg2 zm.1 zm.2.1 zm.2.2 gz2
            rw [show sameH (setO h o k to) (setO (copyH h) (newOf (order h) o) k (newOf (order h) to)) = true by unfold sameH; rw [ez]; simp [objsEq_iff.2 rfl]] at ss
            clear ez gz gz2 zm
            have ht : newOf (order h) to = to := by rw [newOf_neg gd t0]; omega
            rw [ht] at z1 ss
            generalize setO (copyH h) (newOf (order h) o) k to = z at *
            generalize setO h o k to = x at *
            generalize copyH h = c at *
            cases nb with
            | false => (
              let t0 : Tp pr := .i (show ((↑(List.map u8t bs).length : Int) : Int) = (↑bs.length : Int) by simp)
              let t1 : Tp pr := .i (show ((↑(List.map u8t cs).length : Int) : Int) = (↑cs.length : Int) by simp)
              let t2 : Tp pr := .i (show (IntKind.i64.wrap ((↑bs.length : Int) + (↑cs.length : Int)) : Int) = (sm : Int) from hw)
              let t3 : Tp pr := .b (show (decide (sm > (1048576 : Int))) = false by (simp; omega))
              let t15 : Tp pr := .b (show (decide (to ≥ (0 : Int))) = false by (simp; omega))
              let t16 : Tp pr := .g .row (show (lkp (List.map intt (namesOf h.objects.length (order h))) o) = some ([T.int IntKind.i64 (newOf (order h) o)]) from lo)
              let t17 : Tp pr := .b (show (decide (newOf (order h) o ≥ (0 : Int))) = true by (simp; omega))
              let t18 : Tp pr := .b (show (decide (to < (0 : Int))) = true by (simp; omega))
              let t23 : Tp pr := .g .row (show (lkp (List.map intt (namesOf h.objects.length (order h))) o) = some ([T.int IntKind.i64 (newOf (order h) o)]) from lo)
              let t52 : Tp pr := .b (show (!decide (db = db)) = false by simp)
              let t55 : Tp pr := .b (show (!decide (fb = fb)) = false by simp)
              exact .tp [t0, t1, t2, t3, .a (e1), .a (s1), .a (s2), .b (rfl : false = false), .a (sx), .b (rfl : false = false), .b (rfl : true = true), .a (cI), .b (rfl : false = false), .a (q2), .b (rfl : false = false), t15, t16, t17, t18, .b (rfl : true = true), .m (rfl : true = true), .m (rfl : true = true), .m (rfl : true = true), t23, .m (rfl : true = true), .m (rfl : true = true), .m (rfl : true = true), .m (rfl : true = true), .a (z1), .m (rfl : true = true), .m (rfl : true = true), .m (rfl : true = true), .m (rfl : true = true), .m (rfl : true = true), .m (rfl : true = true), .m (rfl : true = true), .a (ss), .b (rfl : false = false), .b (rfl : false = false), .b (rfl : false = false), .a (e2), .a (n1), .a (n2), .a (e3), .a (d1), .a (d2), .a (e4), .a (f1), .a (f2), .b (rfl : false = false), .a (sn), .b (rfl : false = false), t52, .a (sd), .b (rfl : false = false), t55, .b (show (fv != fv) = false by simp), .b (rfl : true = true)] (by kernel_rfl))
            | true =>
              obtain ⟨ng, nl⟩ := nh rfl
              have q1 := GoodHeapI_ev na nm.1 nm.2.1 nm.2.2
              rw [ng] at q1
              let t0 : Tp pr := .i (show ((↑(List.map u8t bs).length : Int) : Int) = (↑bs.length : Int) by simp)
              let t1 : Tp pr := .i (show ((↑(List.map u8t cs).length : Int) : Int) = (↑cs.length : Int) by simp)
              let t2 : Tp pr := .i (show (IntKind.i64.wrap ((↑bs.length : Int) + (↑cs.length : Int)) : Int) = (sm : Int) from hw)
              let t3 : Tp pr := .b (show (decide (sm > (1048576 : Int))) = false by (simp; omega))
              let t15 : Tp pr := .b (show (decide (to ≥ (0 : Int))) = false by (simp; omega))
              let t16 : Tp pr := .g .row (show (lkp (List.map intt (namesOf h.objects.length (order h))) o) = some ([T.int IntKind.i64 (newOf (order h) o)]) from lo)
              let t17 : Tp pr := .b (show (decide (newOf (order h) o ≥ (0 : Int))) = true by (simp; omega))
              let t18 : Tp pr := .b (show (decide (to < (0 : Int))) = true by (simp; omega))
              let t23 : Tp pr := .g .row (show (lkp (List.map intt (namesOf h.objects.length (order h))) o) = some ([T.int IntKind.i64 (newOf (order h) o)]) from lo)
              let t52 : Tp pr := .b (show (!decide (db = db)) = false by simp)
              let t55 : Tp pr := .b (show (!decide (fb = fb)) = false by simp)
              let t58 : Tp pr := .i (show ((↑(List.map Obj.ce na.objects).length : Int) : Int) = (↑na.objects.length : Int) by simp)
              let t59 : Tp pr := .i (show ((↑(List.map Obj.ce g.objects).length : Int) : Int) = (↑g.objects.length : Int) by simp)
              let t60 : Tp pr := .i (wrap_i64 (a := (↑g.objects.length : Int) + (1 : Int)) (by omega) (by omega))
              let t61 : Tp pr := .b (show (decide ((↑na.objects.length : Int) = (↑g.objects.length : Int) + (1 : Int))) = true by (simp; omega))
              exact .tp [t0, t1, t2, t3, .a (e1), .a (s1), .a (s2), .b (rfl : false = false), .a (sx), .b (rfl : false = false), .b (rfl : true = true), .a (cI), .b (rfl : false = false), .a (q2), .b (rfl : false = false), t15, t16, t17, t18, .b (rfl : true = true), .m (rfl : true = true), .m (rfl : true = true), .m (rfl : true = true), t23, .m (rfl : true = true), .m (rfl : true = true), .m (rfl : true = true), .m (rfl : true = true), .a (z1), .m (rfl : true = true), .m (rfl : true = true), .m (rfl : true = true), .m (rfl : true = true), .m (rfl : true = true), .m (rfl : true = true), .m (rfl : true = true), .a (ss), .b (rfl : false = false), .b (rfl : false = false), .b (rfl : false = false), .a (e2), .a (n1), .a (n2), .a (e3), .a (d1), .a (d2), .a (e4), .a (f1), .a (f2), .b (rfl : false = false), .a (sn), .b (rfl : false = false), t52, .a (sd), .b (rfl : false = false), t55, .b (show (fv != fv) = false by simp), .b (rfl : false = false), t58, t59, t60, t61, .a (q1)] (by kernel_rfl)
          · refine absurd ⟨hcg, ⟨no0, by rw [hclen]; exact no1⟩, ?_, goodHeap_of gz⟩ hno
            rw [copy_obj om]
            simpa [copyObj] using hk
        · rw [newOf_out om] at lo
          generalize setO h o k to = x at *
          generalize copyH h = c at *
          cases nb with
          | false => (
            let t0 : Tp pr := .i (show ((↑(List.map u8t bs).length : Int) : Int) = (↑bs.length : Int) by simp)
            let t1 : Tp pr := .i (show ((↑(List.map u8t cs).length : Int) : Int) = (↑cs.length : Int) by simp)
            let t2 : Tp pr := .i (show (IntKind.i64.wrap ((↑bs.length : Int) + (↑cs.length : Int)) : Int) = (sm : Int) from hw)
            let t3 : Tp pr := .b (show (decide (sm > (1048576 : Int))) = false by (simp; omega))
            let t15 : Tp pr := .b (show (decide (to ≥ (0 : Int))) = false by (simp; omega))
            let t16 : Tp pr := .g .row (show (lkp (List.map intt (namesOf h.objects.length (order h))) o) = some ([T.int IntKind.i64 (-1 : Int)]) from lo)
            let t31 : Tp pr := .b (show (!decide (db = db)) = false by simp)
            let t34 : Tp pr := .b (show (!decide (fb = fb)) = false by simp)
            exact .tp [t0, t1, t2, t3, .a (e1), .a (s1), .a (s2), .b (rfl : false = false), .a (sx), .b (rfl : false = false), .b (rfl : true = true), .a (cI), .b (rfl : false = false), .a (q2), .b (rfl : false = false), t15, t16, .b (rfl : false = false), .b (rfl : false = false), .a (e2), .a (n1), .a (n2), .a (e3), .a (d1), .a (d2), .a (e4), .a (f1), .a (f2), .b (rfl : false = false), .a (sn), .b (rfl : false = false), t31, .a (sd), .b (rfl : false = false), t34, .b (show (fv != fv) = false by simp), .b (rfl : true = true)] (by kernel_rfl))
          | true =>
            obtain ⟨ng, nl⟩ := nh rfl
            have q1 := GoodHeapI_ev na nm.1 nm.2.1 nm.2.2
            rw [ng] at q1
            let t0 : Tp pr := .i (show ((↑(List.map u8t bs).length : Int) : Int) = (↑bs.length : Int) by simp)
            let t1 : Tp pr := .i (show ((↑(List.map u8t cs).length : Int) : Int) = (↑cs.length : Int) by simp)
            let t2 : Tp pr := .i (show (IntKind.i64.wrap ((↑bs.length : Int) + (↑cs.length : Int)) : Int) = (sm : Int) from hw)
            let t3 : Tp pr := .b (show (decide (sm > (1048576 : Int))) = false by (simp; omega))
            let t15 : Tp pr := .b (show (decide (to ≥ (0 : Int))) = false by (simp; omega))
            let t16 : Tp pr := .g .row (show (lkp (List.map intt (namesOf h.objects.length (order h))) o) = some ([T.int IntKind.i64 (-1 : Int)]) from lo)
            let t31 : Tp pr := .b (show (!decide (db = db)) = false by simp)
            let t34 : Tp pr := .b (show (!decide (fb = fb)) = false by simp)
            let t37 : Tp pr := .i (show ((↑(List.map Obj.ce na.objects).length : Int) : Int) = (↑na.objects.length : Int) by simp)
            let t38 : Tp pr := .i (show ((↑(List.map Obj.ce g.objects).length : Int) : Int) = (↑g.objects.length : Int) by simp)
            let t39 : Tp pr := .i (wrap_i64 (a := (↑g.objects.length : Int) + (1 : Int)) (by omega) (by omega))
            let t40 : Tp pr := .b (show (decide ((↑na.objects.length : Int) = (↑g.objects.length : Int) + (1 : Int))) = true by (simp; omega))
            exact .tp [t0, t1, t2, t3, .a (e1), .a (s1), .a (s2), .b (rfl : false = false), .a (sx), .b (rfl : false = false), .b (rfl : true = true), .a (cI), .b (rfl : false = false), .a (q2), .b (rfl : false = false), t15, t16, .b (rfl : false = false), .b (rfl : false = false), .a (e2), .a (n1), .a (n2), .a (e3), .a (d1), .a (d2), .a (e4), .a (f1), .a (f2), .b (rfl : false = false), .a (sn), .b (rfl : false = false), t31, .a (sd), .b (rfl : false = false), t34, .b (show (fv != fv) = false by simp), .b (rfl : false = false), t37, t38, t39, t40, .a (q1)] (by kernel_rfl)
      · have lt := names_lkp (l := order h) (k := to) (by omega) hto.2
        by_cases om : o ∈ order h
        · by_cases tm : to ∈ order h
          · obtain ⟨gz, ez⟩ := set_copy gd om hto.1 (k := k) (.inr tm)
            have hcg := goodHeap_of (copyH_good gd)
            have hclen : (copyH h).objects.length = (order h).length := by simp [copyH]
            have no0 := newOf_in om
            have no1 := newOf_lt om
            rcases set_cases (copyH h) (newOf (order h) o) k (newOf (order h) to) (good_mid hcg) with ⟨_, _, _, gz2, z1, _⟩ | ⟨hno, _, _⟩
            · have zm := good_mid gz2
              have ss := SameI3_ev (setO h o k to) (setO (copyH h) (newOf (order h) o) k (newOf (order h) to)) xm.1 xm.2.1 xm.2.2 hg2 zm.1 zm.2.1 zm.2.2 gz2
              rw [show sameH (setO h o k to) (setO (copyH h) (newOf (order h) o) k (newOf (order h) to)) = true by unfold sameH; rw [ez]; simp [objsEq_iff.2 rfl]] at ss
              clear ez gz gz2 zm
              have nt0 := newOf_in tm
              generalize setO (copyH h) (newOf (order h) o) k (newOf (order h) to) = z at *
              generalize setO h o k to = x at *
              generalize copyH h = c at *
              cases nb with
              | false => (
                let t0 : Tp pr := .i (show ((↑(List.map u8t bs).length : Int) : Int) = (↑bs.length : Int) by simp)
                let t1 : Tp pr := .i (show ((↑(List.map u8t cs).length : Int) : Int) = (↑cs.length : Int) by simp)
                let t2 : Tp pr := .i (show (IntKind.i64.wrap ((↑bs.length : Int) + (↑cs.length : Int)) : Int) = (sm : Int) from hw)
                let t3 : Tp pr := .b (show (decide (sm > (1048576 : Int))) = false by (simp; omega))
                let t15 : Tp pr := .b (show (decide (to ≥ (0 : Int))) = true by (simp; omega))
                let t16 : Tp pr := .g .row (show (lkp (List.map intt (namesOf h.objects.length (order h))) to) = some ([T.int IntKind.i64 (newOf (order h) to)]) from lt)
                let t17 : Tp pr := .g .row (show (lkp (List.map intt (namesOf h.objects.length (order h))) o) = some ([T.int IntKind.i64 (newOf (order h) o)]) from lo)
                let t18 : Tp pr := .b (show (decide (newOf (order h) o ≥ (0 : Int))) = true by (simp; omega))
                let t19 : Tp pr := .b (show (decide (to < (0 : Int))) = false by (simp; omega))
                let t20 : Tp pr := .b (show (decide (newOf (order h) to ≥ (0 : Int))) = true by (simp; omega))
                let t24 : Tp pr := .g .row (show (lkp (List.map intt (namesOf h.objects.length (order h))) o) = some ([T.int IntKind.i64 (newOf (order h) o)]) from lo)
                let t53 : Tp pr := .b (show (!decide (db = db)) = false by simp)
                let t56 : Tp pr := .b (show (!decide (fb = fb)) = false by simp)
                exact .tp [t0, t1, t2, t3, .a (e1), .a (s1), .a (s2), .b (rfl : false = false), .a (sx), .b (rfl : false = false), .b (rfl : true = true), .a (cI), .b (rfl : false = false), .a (q2), .b (rfl : false = false), t15, t16, t17, t18, t19, t20, .m (rfl : true = true), .m (rfl : true = true), .m (rfl : true = true), t24, .m (rfl : true = true), .m (rfl : true = true), .m (rfl : true = true), .m (rfl : true = true), .a (z1), .m (rfl : true = true), .m (rfl : true = true), .m (rfl : true = true), .m (rfl : true = true), .m (rfl : true = true), .m (rfl : true = true), .m (rfl : true = true), .a (ss), .b (rfl : false = false), .b (rfl : false = false), .b (rfl : false = false), .a (e2), .a (n1), .a (n2), .a (e3), .a (d1), .a (d2), .a (e4), .a (f1), .a (f2), .b (rfl : false = false), .a (sn), .b (rfl : false = false), t53, .a (sd), .b (rfl : false = false), t56, .b (show (fv != fv) = false by simp), .b (rfl : true = true)] (by kernel_rfl))
              | true =>
                obtain ⟨ng, nl⟩ := nh rfl
                have q1 := GoodHeapI_ev na nm.1 nm.2.1 nm.2.2
                rw [ng] at q1
                let t0 : Tp pr := .i (show ((↑(List.map u8t bs).length : Int) : Int) = (↑bs.length : Int) by simp)
                let t1 : Tp pr := .i (show ((↑(List.map u8t cs).length : Int) : Int) = (↑cs.length : Int) by simp)
                let t2 : Tp pr := .i (show (IntKind.i64.wrap ((↑bs.length : Int) + (↑cs.length : Int)) : Int) = (sm : Int) from hw)
                let t3 : Tp pr := .b (show (decide (sm > (1048576 : Int))) = false by (simp; omega))
                let t15 : Tp pr := .b (show (decide (to ≥ (0 : Int))) = true by (simp; omega))
                let t16 : Tp pr := .g .row (show (lkp (List.map intt (namesOf h.objects.length (order h))) to) = some ([T.int IntKind.i64 (newOf (order h) to)]) from lt)
                let t17 : Tp pr := .g .row (show (lkp (List.map intt (namesOf h.objects.length (order h))) o) = some ([T.int IntKind.i64 (newOf (order h) o)]) from lo)
                let t18 : Tp pr := .b (show (decide (newOf (order h) o ≥ (0 : Int))) = true by (simp; omega))
                let t19 : Tp pr := .b (show (decide (to < (0 : Int))) = false by (simp; omega))
                let t20 : Tp pr := .b (show (decide (newOf (order h) to ≥ (0 : Int))) = true by (simp; omega))
                let t24 : Tp pr := .g .row (show (lkp (List.map intt (namesOf h.objects.length (order h))) o) = some ([T.int IntKind.i64 (newOf (order h) o)]) from lo)
                let t53 : Tp pr := .b (show (!decide (db = db)) = false by simp)
                let t56 : Tp pr := .b (show (!decide (fb = fb)) = false by simp)
                let t59 : Tp pr := .i (show ((↑(List.map Obj.ce na.objects).length : Int) : Int) = (↑na.objects.length : Int) by simp)
                let t60 : Tp pr := .i (show ((↑(List.map Obj.ce g.objects).length : Int) : Int) = (↑g.objects.length : Int) by simp)
                let t61 : Tp pr := .i (wrap_i64 (a := (↑g.objects.length : Int) + (1 : Int)) (by omega) (by omega))
                let t62 : Tp pr := .b (show (decide ((↑na.objects.length : Int) = (↑g.objects.length : Int) + (1 : Int))) = true by (simp; omega))
                exact .tp [t0, t1, t2, t3, .a (e1), .a (s1), .a (s2), .b (rfl : false = false), .a (sx), .b (rfl : false = false), .b (rfl : true = true), .a (cI), .b (rfl : false = false), .a (q2), .b (rfl : false = false), t15, t16, t17, t18, t19, t20, .m (rfl : true = true), .m (rfl : true = true), .m (rfl : true = true), t24, .m (rfl : true = true), .m (rfl : true = true), .m (rfl : true = true), .m (rfl : true = true), .a (z1), .m (rfl : true = true), .m (rfl : true = true), .m (rfl : true = true), .m (rfl : true = true), .m (rfl : true = true), .m (rfl : true = true), .m (rfl : true = true), .a (ss), .b (rfl : false = false), .b (rfl : false = false), .b (rfl : false = false), .a (e2), .a (n1), .a (n2), .a (e3), .a (d1), .a (d2), .a (e4), .a (f1), .a (f2), .b (rfl : false = false), .a (sn), .b (rfl : false = false), t53, .a (sd), .b (rfl : false = false), t56, .b (show (fv != fv) = false by simp), .b (rfl : false = false), t59, t60, t61, t62, .a (q1)] (by kernel_rfl)
            · refine absurd ⟨hcg, ⟨no0, by rw [hclen]; exact no1⟩, ?_, goodHeap_of gz⟩ hno
              rw [copy_obj om]
              simpa [copyObj] using hk
          · have no0 := newOf_in om
            rw [newOf_out tm] at lt
            generalize setO h o k to = x at *
            generalize copyH h = c at *
            cases nb with
            | false => (
              let t0 : Tp pr := .i (show ((↑(List.map u8t bs).length : Int) : Int) = (↑bs.length : Int) by simp)
              let t1 : Tp pr := .i (show ((↑(List.map u8t cs).length : Int) : Int) = (↑cs.length : Int) by simp)
              let t2 : Tp pr := .i (show (IntKind.i64.wrap ((↑bs.length : Int) + (↑cs.length : Int)) : Int) = (sm : Int) from hw)
              let t3 : Tp pr := .b (show (decide (sm > (1048576 : Int))) = false by (simp; omega))
              let t15 : Tp pr := .b (show (decide (to ≥ (0 : Int))) = true by (simp; omega))
              let t16 : Tp pr := .g .row (show (lkp (List.map intt (namesOf h.objects.length (order h))) to) = some ([T.int IntKind.i64 (-1 : Int)]) from lt)
              let t17 : Tp pr := .g .row (show (lkp (List.map intt (namesOf h.objects.length (order h))) o) = some ([T.int IntKind.i64 (newOf (order h) o)]) from lo)
              let t18 : Tp pr := .b (show (decide (newOf (order h) o ≥ (0 : Int))) = true by (simp; omega))
              let t19 : Tp pr := .b (show (decide (to < (0 : Int))) = false by (simp; omega))
              let t33 : Tp pr := .b (show (!decide (db = db)) = false by simp)
              let t36 : Tp pr := .b (show (!decide (fb = fb)) = false by simp)
              exact .tp [t0, t1, t2, t3, .a (e1), .a (s1), .a (s2), .b (rfl : false = false), .a (sx), .b (rfl : false = false), .b (rfl : true = true), .a (cI), .b (rfl : false = false), .a (q2), .b (rfl : false = false), t15, t16, t17, t18, t19, .b (rfl : false = false), .a (e2), .a (n1), .a (n2), .a (e3), .a (d1), .a (d2), .a (e4), .a (f1), .a (f2), .b (rfl : false = false), .a (sn), .b (rfl : false = false), t33, .a (sd), .b (rfl : false = false), t36, .b (show (fv != fv) = false by simp), .b (rfl : true = true)] (by kernel_rfl))
            | true =>
              obtain ⟨ng, nl⟩ := nh rfl
              have q1 := GoodHeapI_ev na nm.1 nm.2.1 nm.2.2
              rw [ng] at q1
              let t0 : Tp pr := .i (show ((↑(List.map u8t bs).length : Int) : Int) = (↑bs.length : Int) by simp)
              let t1 : Tp pr := .i (show ((↑(List.map u8t cs).length : Int) : Int) = (↑cs.length : Int) by simp)
              let t2 : Tp pr := .i (show (IntKind.i64.wrap ((↑bs.length : Int) + (↑cs.length : Int)) : Int) = (sm : Int) from hw)
              let t3 : Tp pr := .b (show (decide (sm > (1048576 : Int))) = false by (simp; omega))
              let t15 : Tp pr := .b (show (decide (to ≥ (0 : Int))) = true by (simp; omega))
              let t16 : Tp pr := .g .row (show (lkp (List.map intt (namesOf h.objects.length (order h))) to) = some ([T.int IntKind.i64 (-1 : Int)]) from lt)
              let t17 : Tp pr := .g .row (show (lkp (List.map intt (namesOf h.objects.length (order h))) o) = some ([T.int IntKind.i64 (newOf (order h) o)]) from lo)
              let t18 : Tp pr := .b (show (decide (newOf (order h) o ≥ (0 : Int))) = true by (simp; omega))
              let t19 : Tp pr := .b (show (decide (to < (0 : Int))) = false by (simp; omega))
              let t33 : Tp pr := .b (show (!decide (db = db)) = false by simp)
              let t36 : Tp pr := .b (show (!decide (fb = fb)) = false by simp)
              let t39 : Tp pr := .i (show ((↑(List.map Obj.ce na.objects).length : Int) : Int) = (↑na.objects.length : Int) by simp)
              let t40 : Tp pr := .i (show ((↑(List.map Obj.ce g.objects).length : Int) : Int) = (↑g.objects.length : Int) by simp)
              let t41 : Tp pr := .i (wrap_i64 (a := (↑g.objects.length : Int) + (1 : Int)) (by omega) (by omega))
              let t42 : Tp pr := .b (show (decide ((↑na.objects.length : Int) = (↑g.objects.length : Int) + (1 : Int))) = true by (simp; omega))
              exact .tp [t0, t1, t2, t3, .a (e1), .a (s1), .a (s2), .b (rfl : false = false), .a (sx), .b (rfl : false = false), .b (rfl : true = true), .a (cI), .b (rfl : false = false), .a (q2), .b (rfl : false = false), t15, t16, t17, t18, t19, .b (rfl : false = false), .a (e2), .a (n1), .a (n2), .a (e3), .a (d1), .a (d2), .a (e4), .a (f1), .a (f2), .b (rfl : false = false), .a (sn), .b (rfl : false = false), t33, .a (sd), .b (rfl : false = false), t36, .b (show (fv != fv) = false by simp), .b (rfl : false = false), t39, t40, t41, t42, .a (q1)] (by kernel_rfl)
        · rw [newOf_out om] at lo
          generalize setO h o k to = x at *
          generalize copyH h = c at *
          cases nb with
          | false => (
            let t0 : Tp pr := .i (show ((↑(List.map u8t bs).length : Int) : Int) = (↑bs.length : Int) by simp)
            let t1 : Tp pr := .i (show ((↑(List.map u8t cs).length : Int) : Int) = (↑cs.length : Int) by simp)
            let t2 : Tp pr := .i (show (IntKind.i64.wrap ((↑bs.length : Int) + (↑cs.length : Int)) : Int) = (sm : Int) from hw)
            let t3 : Tp pr := .b (show (decide (sm > (1048576 : Int))) = false by (simp; omega))
            let t15 : Tp pr := .b (show (decide (to ≥ (0 : Int))) = true by (simp; omega))
            let t16 : Tp pr := .g .row (show (lkp (List.map intt (namesOf h.objects.length (order h))) to) = some ([T.int IntKind.i64 (newOf (order h) to)]) from lt)
            let t17 : Tp pr := .g .row (show (lkp (List.map intt (namesOf h.objects.length (order h))) o) = some ([T.int IntKind.i64 (-1 : Int)]) from lo)
            let t32 : Tp pr := .b (show (!decide (db = db)) = false by simp)
            let t35 : Tp pr := .b (show (!decide (fb = fb)) = false by simp)
            exact .tp [t0, t1, t2, t3, .a (e1), .a (s1), .a (s2), .b (rfl : false = false), .a (sx), .b (rfl : false = false), .b (rfl : true = true), .a (cI), .b (rfl : false = false), .a (q2), .b (rfl : false = false), t15, t16, t17, .b (rfl : false = false), .b (rfl : false = false), .a (e2), .a (n1), .a (n2), .a (e3), .a (d1), .a (d2), .a (e4), .a (f1), .a (f2), .b (rfl : false = false), .a (sn), .b (rfl : false = false), t32, .a (sd), .b (rfl : false = false), t35, .b (show (fv != fv) = false by simp), .b (rfl : true = true)] (by kernel_rfl))
          | true =>
            obtain ⟨ng, nl⟩ := nh rfl
            have q1 := GoodHeapI_ev na nm.1 nm.2.1 nm.2.2
            rw [ng] at q1
            let t0 : Tp pr := .i (show ((↑(List.map u8t bs).length : Int) : Int) = (↑bs.length : Int) by simp)
            let t1 : Tp pr := .i (show ((↑(List.map u8t cs).length : Int) : Int) = (↑cs.length : Int) by simp)
            let t2 : Tp pr := .i (show (IntKind.i64.wrap ((↑bs.length : Int) + (↑cs.length : Int)) : Int) = (sm : Int) from hw)
            let t3 : Tp pr := .b (show (decide (sm > (1048576 : Int))) = false by (simp; omega))
            let t15 : Tp pr := .b (show (decide (to ≥ (0 : Int))) = true by (simp; omega))
            let t16 : Tp pr := .g .row (show (lkp (List.map intt (namesOf h.objects.length (order h))) to) = some ([T.int IntKind.i64 (newOf (order h) to)]) from lt)
            let t17 : Tp pr := .g .row (show (lkp (List.map intt (namesOf h.objects.length (order h))) o) = some ([T.int IntKind.i64 (-1 : Int)]) from lo)
            let t32 : Tp pr := .b (show (!decide (db = db)) = false by simp)
            let t35 : Tp pr := .b (show (!decide (fb = fb)) = false by simp)
            let t38 : Tp pr := .i (show ((↑(List.map Obj.ce na.objects).length : Int) : Int) = (↑na.objects.length : Int) by simp)
            let t39 : Tp pr := .i (show ((↑(List.map Obj.ce g.objects).length : Int) : Int) = (↑g.objects.length : Int) by simp)
            let t40 : Tp pr := .i (wrap_i64 (a := (↑g.objects.length : Int) + (1 : Int)) (by omega) (by omega))
            let t41 : Tp pr := .b (show (decide ((↑na.objects.length : Int) = (↑g.objects.length : Int) + (1 : Int))) = true by (simp; omega))
            exact .tp [t0, t1, t2, t3, .a (e1), .a (s1), .a (s2), .b (rfl : false = false), .a (sx), .b (rfl : false = false), .b (rfl : true = true), .a (cI), .b (rfl : false = false), .a (q2), .b (rfl : false = false), t15, t16, t17, .b (rfl : false = false), .b (rfl : false = false), .a (e2), .a (n1), .a (n2), .a (e3), .a (d1), .a (d2), .a (e4), .a (f1), .a (f2), .b (rfl : false = false), .a (sn), .b (rfl : false = false), t32, .a (sd), .b (rfl : false = false), t35, .b (show (fv != fv) = false by simp), .b (rfl : false = false), t38, t39, t40, t41, .a (q1)] (by kernel_rfl)
    · have sx := sameHp_ev ⟨[], []⟩ nil_mid.1 nil_mid.2.1 nil_mid.2.2
      cases nb with
      | false => (
        let t0 : Tp pr := .i (show ((↑(List.map u8t bs).length : Int) : Int) = (↑bs.length : Int) by simp)
        let t1 : Tp pr := .i (show ((↑(List.map u8t cs).length : Int) : Int) = (↑cs.length : Int) by simp)
        let t2 : Tp pr := .i (show (IntKind.i64.wrap ((↑bs.length : Int) + (↑cs.length : Int)) : Int) = (sm : Int) from hw)
        let t3 : Tp pr := .b (show (decide (sm > (1048576 : Int))) = false by (simp; omega))
        let t23 : Tp pr := .b (show (!decide (db = db)) = false by simp)
        let t26 : Tp pr := .b (show (!decide (fb = fb)) = false by simp)
        exact .tp [t0, t1, t2, t3, .a (e1), .a (s1), .a (s2), .b (rfl : false = false), .a (sx), .b (rfl : false = false), .b (rfl : false = false), .a (e2), .a (n1), .a (n2), .a (e3), .a (d1), .a (d2), .a (e4), .a (f1), .a (f2), .b (rfl : false = false), .a (sn), .b (rfl : false = false), t23, .a (sd), .b (rfl : false = false), t26, .b (show (fv != fv) = false by simp), .b (rfl : true = true)] (by kernel_rfl))
      | true =>
        obtain ⟨ng, nl⟩ := nh rfl
        have q1 := GoodHeapI_ev na nm.1 nm.2.1 nm.2.2
        rw [ng] at q1
        let t0 : Tp pr := .i (show ((↑(List.map u8t bs).length : Int) : Int) = (↑bs.length : Int) by simp)
        let t1 : Tp pr := .i (show ((↑(List.map u8t cs).length : Int) : Int) = (↑cs.length : Int) by simp)
        let t2 : Tp pr := .i (show (IntKind.i64.wrap ((↑bs.length : Int) + (↑cs.length : Int)) : Int) = (sm : Int) from hw)
        let t3 : Tp pr := .b (show (decide (sm > (1048576 : Int))) = false by (simp; omega))
        let t23 : Tp pr := .b (show (!decide (db = db)) = false by simp)
        let t26 : Tp pr := .b (show (!decide (fb = fb)) = false by simp)
        let t29 : Tp pr := .i (show ((↑(List.map Obj.ce na.objects).length : Int) : Int) = (↑na.objects.length : Int) by simp)
        let t30 : Tp pr := .i (show ((↑(List.map Obj.ce g.objects).length : Int) : Int) = (↑g.objects.length : Int) by simp)
        let t31 : Tp pr := .i (wrap_i64 (a := (↑g.objects.length : Int) + (1 : Int)) (by omega) (by omega))
        let t32 : Tp pr := .b (show (decide ((↑na.objects.length : Int) = (↑g.objects.length : Int) + (1 : Int))) = true by (simp; omega))
        exact .tp [t0, t1, t2, t3, .a (e1), .a (s1), .a (s2), .b (rfl : false = false), .a (sx), .b (rfl : false = false), .b (rfl : false = false), .a (e2), .a (n1), .a (n2), .a (e3), .a (d1), .a (d2), .a (e4), .a (f1), .a (f2), .b (rfl : false = false), .a (sn), .b (rfl : false = false), t23, .a (sd), .b (rfl : false = false), t26, .b (show (fv != fv) = false by simp), .b (rfl : false = false), t29, t30, t31, t32, .a (q1)] (by kernel_rfl)
  · let t0 : Tp pr := .i (show ((↑(List.map u8t bs).length : Int) : Int) = (↑bs.length : Int) by simp)
    let t1 : Tp pr := .i (show ((↑(List.map u8t cs).length : Int) : Int) = (↑cs.length : Int) by simp)
    let t2 : Tp pr := .i (show (IntKind.i64.wrap ((↑bs.length : Int) + (↑cs.length : Int)) : Int) = (sm : Int) from hw)
    let t3 : Tp pr := .b (show (decide (sm > (1048576 : Int))) = true by (simp; omega))
    exact .tp [t0, t1, t2, t3] (by kernel_rfl)
end Go.Ev

/- The law of heaps' steps, for what is drawn. -/
namespace Go.Ev
set_option linter.unusedVariables false
set_option linter.unusedSimpArgs false
open Go.Proofs
set_option maxRecDepth 100000
set_option linter.unusedVariables false
theorem u8_bd {x : Int} (h : (Lit.int .u8 x).wf = true) : 0 ≤ x ∧ x ≤ 255 := by
  have e1 : IntKind.u8.min = 0 := by decide
  have e2 : IntKind.u8.max = 255 := by decide
  simp only [Lit.wf] at h
  rw [e1, e2] at h
  simpa using h
theorem law_ev (bs : List Int) (h1 : bs.length ≤ 9223372036854775807 ∧ ∀ x ∈ bs, (Lit.int .u8 x).wf = true) (cs : List Int) (h2 : cs.length ≤ 9223372036854775807 ∧ ∀ x ∈ cs, (Lit.int .u8 x).wf = true) :
    Ev pr (.call 5 [bsq bs, bsq cs] []) (.val (.t (.bool true)) []) :=
  law0_ev bs cs (fun b hb => u8_bd (h1.2 b hb)) (fun b hb => u8_bd (h2.2 b hb)) h1.1 h2.1
end Go.Ev
