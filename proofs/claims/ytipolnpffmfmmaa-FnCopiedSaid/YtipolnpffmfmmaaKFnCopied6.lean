import Derived.Test.YtipolnpffmfmmaaKFnCopied5
/- The law of copies. -/
namespace Go.Ev
set_option linter.unusedVariables false
set_option linter.unusedSimpArgs false
open Go.Proofs
set_option maxRecDepth 100000
set_option linter.unusedVariables false
set_option maxHeartbeats 8000000
attribute [local simp] rowO_len rowO_fz ints_takeV take_mapV rowO_takeW5 names_take2
theorem same3 (a b : Hp) (a1 : a.objects.length ≤ 1048576) (a2 : ∀ x ∈ a.objects, x.links.length ≤ 1048576) (a3 : a.roots.length ≤ 1048576)
    (b1 : b.objects.length ≤ 1048576) (b2 : ∀ x ∈ b.objects, x.links.length ≤ 1048576) (b3 : b.roots.length ≤ 1048576) :
    ∃ p q : Bool, Ev pr (.call 12 [vs a.ce, vs b.ce] []) (.val (.tup [bl p, bl q]) []) ∧ Ev pr (.call 10 [vs a.ce, vs b.ce] []) (.val (.tup [bl p, bl q]) []) ∧ Ev pr (.call 12 [vs b.ce, vs a.ce] []) (.val (.tup [bl p, bl q]) []) := by
  by_cases ga : goodHeap a = true
  · by_cases gb : goodHeap b = true
    · exact ⟨_, _, SameI3_ev a b a1 a2 a3 ga b1 b2 b3 gb, SameS3_ev a b a1 a2 a3 ga b1 b2 b3 gb, by rw [sameH_symm a b]; exact SameI3_ev b a b1 b2 b3 gb a1 a2 a3 ga⟩
    · have gb : goodHeap b = false := by simpa using gb
      exact ⟨_, _, SameI2_ev a b a1 a2 a3 ga b1 b2 b3 gb, SameS2_ev a b a1 a2 a3 ga b1 b2 b3 gb, SameI1_ev b a b1 b2 b3 gb⟩
  · have ga : goodHeap a = false := by simpa using ga
    by_cases gb : goodHeap b = true
    · exact ⟨_, _, SameI1_ev a b a1 a2 a3 ga, SameS1_ev a b a1 a2 a3 ga, SameI2_ev b a b1 b2 b3 gb a1 a2 a3 ga⟩
    · have gb : goodHeap b = false := by simpa using gb
      exact ⟨_, _, SameI1_ev a b a1 a2 a3 ga, SameS1_ev a b a1 a2 a3 ga, SameI1_ev b a b1 b2 b3 gb⟩
theorem law0_ev (bs cs : List Int) (hb : ∀ b ∈ bs, 0 ≤ b ∧ b ≤ 255) (hc : ∀ b ∈ cs, 0 ≤ b ∧ b ≤ 255) (h1 : bs.length ≤ 9223372036854775807) (h2 : cs.length ≤ 9223372036854775807) :
    Ev pr (.call 6 [bsq bs, bsq cs] []) (.val (bl true) []) := by
  obtain ⟨sm, hw⟩ : ∃ m, m = IntKind.i64.wrap ((bs.length : Int) + cs.length) := ⟨_, rfl⟩
  have hw := hw.symm
  by_cases hlen : sm ≤ 1048576
  · obtain ⟨h, hs, e1⟩ := drawCopy_ex bs ⟨h1, hb⟩
    obtain ⟨a, b, az', bs', e2⟩ := drawSame_ex cs ⟨h2, hc⟩
    have m1 : h.objects.length ≤ 1048576 := by have := hs.1; omega
    have m2 : ∀ x ∈ h.objects, x.links.length ≤ 1048576 := fun x hx => by have := hs.2.1 x hx; omega
    have m3 : h.roots.length ≤ 1048576 := by have := hs.2.2; omega
    obtain ⟨p, q, x1, x2, x3⟩ := same3 a b (by have := az'.1; omega) (fun x hx => by have := az'.2.1 x hx; omega) (by have := az'.2.2; omega) (by have := bs'.1; omega) (fun x hx => by have := bs'.2.1 x hx; omega) (by have := bs'.2.2; omega)
    by_cases hg : goodHeap h = true
    · have gd := goodHeap_ok hg
      have gq := GoodHeapI_ev h m1 m2 m3
      rw [hg] at gq
      have c1 := CopyIT_ev h m1 m2 m3 hg
      have c2 := CopyST_ev h m1 m2 m3 hg
      have r1 := ReachIT_ev h m1 m2 m3 hg
      have r2 := ReachOfS_ev h m1 m2 m3
      rw [if_pos hg, hg] at r2
      obtain ⟨n1, n2, n3⟩ := copyH_bds gd
      have hN := gd.objs
      have cg := goodHeap_of (copyH_good gd)
      have k1 : (copyH h).objects.length ≤ 1048576 := by omega
      have k2 : ∀ x ∈ (copyH h).objects, x.links.length ≤ 1048576 := fun x hx => by have := n2 x hx; omega
      have k3 : (copyH h).roots.length ≤ 1048576 := by omega
      have sh := sameHp_ev (copyH h) k1 k2 k3
      have nl := namesOf_len h.objects.length (order h)
      have si := sameInts_ev (namesOf h.objects.length (order h)) (by omega)
      have rl := reach_len gd
      have ol := ordlen gd
      have sr := sameInts_ev (reach h) (by omega)
      have cgq := GoodHeapI_ev (copyH h) k1 k2 k3
      rw [cg] at cgq
      have cc := CopyIT_ev (copyH h) k1 k2 k3 cg
      rw [copy_copy gd] at cc
      have cr := ReachIT_ev (copyH h) k1 k2 k3 cg
      have crl := reach_copy gd
      have ss := SameI3_ev h (copyH h) m1 m2 m3 hg k1 k2 k3 cg
      rw [sameH_copy gd] at ss
      have ccl : (copyH h).objects.length = (order h).length := by simp [copyH]
      have l0 := cpL0_ev h (copyH h) cs (reach h) (order h) h.objects.length hN rfl (fun x => by
        have := mem_reach gd x
        rw [Bool.eq_iff_iff]
        simpa using this) (by omega) (order_bd gd) (fun k hk => ⟨by rw [ccl]; exact newOf_lt hk, by rw [copy_obj hk]; rfl⟩) h.objects.length 0 (by omega)
      obtain ⟨path, hpl, l1⟩ := cpL1_ex h (copyH h) cs hc h2 cs [] [] rfl (by simp) (by simp)
      have l2 := cpL2_ev h (copyH h) cs path h.roots.length rfl gd.rlen (fun k hk => fp_both hg cg path hpl k hk) h.roots.length 0 (by omega)
      generalize copyH h = c at *
      cases p
      · let t0 : Tp pr := .i (show ((↑(List.map u8t bs).length : Int) : Int) = (↑bs.length : Int) by simp)
        let t1 : Tp pr := .i (show ((↑(List.map u8t cs).length : Int) : Int) = (↑cs.length : Int) by simp)
        let t2 : Tp pr := .i (show (IntKind.i64.wrap ((↑bs.length : Int) + (↑cs.length : Int)) : Int) = (sm : Int) from hw)
        let t3 : Tp pr := .b (show (decide (sm > (1048576 : Int))) = false by (simp; omega))
        let t10 : Tp pr := .m (show (decide ((rowO c.objects).length = c.objects.length ∧ (0 : Nat) + c.objects.length ≤ c.objects.length)) = true by simp)
        let t11 : Tp pr := .n .rows (show (List.map (fun x => List.map C.fz x) (List.take c.objects.length (List.drop (0 : Nat) (rowO c.objects)))) = List.map Obj.ce c.objects by simp)
        let t12 : Tp pr := .m (show (decide ((ints c.roots).length = c.roots.length ∧ (0 : Nat) + c.roots.length ≤ c.roots.length)) = true by simp)
        let t13 : Tp pr := .n .rows (show (List.map (fun x => List.map C.fz x) (List.take c.roots.length (List.drop (0 : Nat) (ints c.roots)))) = List.map intt c.roots by simp)
        let t17 : Tp pr := .m (show (decide ((ints (namesOf h.objects.length (order h))).length = h.objects.length ∧ (0 : Nat) + h.objects.length ≤ h.objects.length)) = true by simp)
        let t18 : Tp pr := .n .rows (show (List.map (fun x => List.map C.fz x) (List.take h.objects.length (List.drop (0 : Nat) (ints (namesOf h.objects.length (order h)))))) = List.map intt (namesOf h.objects.length (order h)) by simp)
        let t34 : Tp pr := .i (show ((↑(List.map intt (reach c)).length : Int) : Int) = (↑(reach c).length : Int) by simp)
        let t35 : Tp pr := .i (show ((↑(List.map Obj.ce c.objects).length : Int) : Int) = (↑c.objects.length : Int) by simp)
        let t36 : Tp pr := .b (show ((↑(reach c).length : Int) != (↑c.objects.length : Int)) = false by (simp; omega))
        let t37 : Tp pr := .i (show ((↑(List.map intt (reach h)).length : Int) : Int) = (↑(reach h).length : Int) by simp)
        let t38 : Tp pr := .i (show ((↑(List.map Obj.ce c.objects).length : Int) : Int) = (↑c.objects.length : Int) by simp)
        let t39 : Tp pr := .b (show ((↑(reach h).length : Int) != (↑c.objects.length : Int)) = false by (simp; omega))
        let t45 : Tp pr := .i (show ((↑(List.map intt (namesOf h.objects.length (order h))).length : Int) : Int) = (↑h.objects.length : Int) by simp)
        let t47 : Tp pr := .i (show ((↑(List.map u8t cs).length : Int) : Int) = (↑cs.length : Int) by simp)
        let t49 : Tp pr := .i (show ((↑(List.map intt h.roots).length : Int) : Int) = (↑h.roots.length : Int) by simp)
        let t55 : Tp pr := .b (show (decide (q = q)) = true by simp)
        let t57 : Tp pr := .b (show (decide (q = q)) = true by simp)
        exact .tp [t0, t1, t2, t3, .a (e1), .a (c1), .a (c2), .a (r1), .a (r2), .b (rfl : false = false), t10, t11, t12, t13, .a (sh), .m (rfl : true = true), .b (rfl : false = false), t17, t18, .a (si), .m (rfl : true = true), .b (rfl : false = false), .b (rfl : false = false), .a (sr), .b (rfl : false = false), .a (gq), .b (rfl : false = false), .b (rfl : true = true), .a (ss), .a (cr), .a (cc), .b (rfl : false = false), .b (rfl : false = false), .b (rfl : false = false), t34, t35, t36, t37, t38, t39, .b (rfl : false = false), .a (sh), .b (rfl : false = false), .a (cgq), .b (rfl : false = false), t45, .a (l0), t47, .a (l1), t49, .a (l2), .a (e2), .a (x1), .a (x2), .a (x3), t55, .b (rfl : true = true), t57] (by kernel_rfl)
      · let t0 : Tp pr := .i (show ((↑(List.map u8t bs).length : Int) : Int) = (↑bs.length : Int) by simp)
        let t1 : Tp pr := .i (show ((↑(List.map u8t cs).length : Int) : Int) = (↑cs.length : Int) by simp)
        let t2 : Tp pr := .i (show (IntKind.i64.wrap ((↑bs.length : Int) + (↑cs.length : Int)) : Int) = (sm : Int) from hw)
        let t3 : Tp pr := .b (show (decide (sm > (1048576 : Int))) = false by (simp; omega))
        let t10 : Tp pr := .m (show (decide ((rowO c.objects).length = c.objects.length ∧ (0 : Nat) + c.objects.length ≤ c.objects.length)) = true by simp)
        let t11 : Tp pr := .n .rows (show (List.map (fun x => List.map C.fz x) (List.take c.objects.length (List.drop (0 : Nat) (rowO c.objects)))) = List.map Obj.ce c.objects by simp)
        let t12 : Tp pr := .m (show (decide ((ints c.roots).length = c.roots.length ∧ (0 : Nat) + c.roots.length ≤ c.roots.length)) = true by simp)
        let t13 : Tp pr := .n .rows (show (List.map (fun x => List.map C.fz x) (List.take c.roots.length (List.drop (0 : Nat) (ints c.roots)))) = List.map intt c.roots by simp)
        let t17 : Tp pr := .m (show (decide ((ints (namesOf h.objects.length (order h))).length = h.objects.length ∧ (0 : Nat) + h.objects.length ≤ h.objects.length)) = true by simp)
        let t18 : Tp pr := .n .rows (show (List.map (fun x => List.map C.fz x) (List.take h.objects.length (List.drop (0 : Nat) (ints (namesOf h.objects.length (order h)))))) = List.map intt (namesOf h.objects.length (order h)) by simp)
        let t34 : Tp pr := .i (show ((↑(List.map intt (reach c)).length : Int) : Int) = (↑(reach c).length : Int) by simp)
        let t35 : Tp pr := .i (show ((↑(List.map Obj.ce c.objects).length : Int) : Int) = (↑c.objects.length : Int) by simp)
        let t36 : Tp pr := .b (show ((↑(reach c).length : Int) != (↑c.objects.length : Int)) = false by (simp; omega))
        let t37 : Tp pr := .i (show ((↑(List.map intt (reach h)).length : Int) : Int) = (↑(reach h).length : Int) by simp)
        let t38 : Tp pr := .i (show ((↑(List.map Obj.ce c.objects).length : Int) : Int) = (↑c.objects.length : Int) by simp)
        let t39 : Tp pr := .b (show ((↑(reach h).length : Int) != (↑c.objects.length : Int)) = false by (simp; omega))
        let t45 : Tp pr := .i (show ((↑(List.map intt (namesOf h.objects.length (order h))).length : Int) : Int) = (↑h.objects.length : Int) by simp)
        let t47 : Tp pr := .i (show ((↑(List.map u8t cs).length : Int) : Int) = (↑cs.length : Int) by simp)
        let t49 : Tp pr := .i (show ((↑(List.map intt h.roots).length : Int) : Int) = (↑h.roots.length : Int) by simp)
        let t55 : Tp pr := .b (show (decide (q = q)) = true by simp)
        let t57 : Tp pr := .b (show (decide (q = q)) = true by simp)
        exact .tp [t0, t1, t2, t3, .a (e1), .a (c1), .a (c2), .a (r1), .a (r2), .b (rfl : false = false), t10, t11, t12, t13, .a (sh), .m (rfl : true = true), .b (rfl : false = false), t17, t18, .a (si), .m (rfl : true = true), .b (rfl : false = false), .b (rfl : false = false), .a (sr), .b (rfl : false = false), .a (gq), .b (rfl : false = false), .b (rfl : true = true), .a (ss), .a (cr), .a (cc), .b (rfl : false = false), .b (rfl : false = false), .b (rfl : false = false), t34, t35, t36, t37, t38, t39, .b (rfl : false = false), .a (sh), .b (rfl : false = false), .a (cgq), .b (rfl : false = false), t45, .a (l0), t47, .a (l1), t49, .a (l2), .a (e2), .a (x1), .a (x2), .a (x3), t55, .b (rfl : true = true), t57] (by kernel_rfl)
    · have hg : goodHeap h = false := by simpa using hg
      have gq := GoodHeapI_ev h m1 m2 m3
      rw [hg] at gq
      have c1 := CopyIF_ev h m1 m2 m3 hg
      have c2 := CopySF_ev h m1 m2 m3 hg
      have r1 := ReachIF_ev h m1 m2 m3 hg
      have r2 := ReachOfS_ev h m1 m2 m3
      rw [if_neg (by simp [hg]), hg] at r2
      have sh := sameHp_ev ⟨[], []⟩ (by simp) (by simp) (by simp)
      have si := sameInts_ev [] (by simp)
      cases p
      · let t0 : Tp pr := .i (show ((↑(List.map u8t bs).length : Int) : Int) = (↑bs.length : Int) by simp)
        let t1 : Tp pr := .i (show ((↑(List.map u8t cs).length : Int) : Int) = (↑cs.length : Int) by simp)
        let t2 : Tp pr := .i (show (IntKind.i64.wrap ((↑bs.length : Int) + (↑cs.length : Int)) : Int) = (sm : Int) from hw)
        let t3 : Tp pr := .b (show (decide (sm > (1048576 : Int))) = false by (simp; omega))
        let t24 : Tp pr := .b (show (decide (q = q)) = true by simp)
        let t26 : Tp pr := .b (show (decide (q = q)) = true by simp)
        exact .tp [t0, t1, t2, t3, .a (e1), .a (c1), .a (c2), .a (r1), .a (r2), .b (rfl : false = false), .a (sh), .b (rfl : false = false), .a (si), .b (rfl : false = false), .b (rfl : false = false), .a (si), .b (rfl : false = false), .a (gq), .b (rfl : false = false), .b (rfl : false = false), .a (e2), .a (x1), .a (x2), .a (x3), t24, .b (rfl : true = true), t26] (by kernel_rfl)
      · let t0 : Tp pr := .i (show ((↑(List.map u8t bs).length : Int) : Int) = (↑bs.length : Int) by simp)
        let t1 : Tp pr := .i (show ((↑(List.map u8t cs).length : Int) : Int) = (↑cs.length : Int) by simp)
        let t2 : Tp pr := .i (show (IntKind.i64.wrap ((↑bs.length : Int) + (↑cs.length : Int)) : Int) = (sm : Int) from hw)
        let t3 : Tp pr := .b (show (decide (sm > (1048576 : Int))) = false by (simp; omega))
        let t24 : Tp pr := .b (show (decide (q = q)) = true by simp)
        let t26 : Tp pr := .b (show (decide (q = q)) = true by simp)
        exact .tp [t0, t1, t2, t3, .a (e1), .a (c1), .a (c2), .a (r1), .a (r2), .b (rfl : false = false), .a (sh), .b (rfl : false = false), .a (si), .b (rfl : false = false), .b (rfl : false = false), .a (si), .b (rfl : false = false), .a (gq), .b (rfl : false = false), .b (rfl : false = false), .a (e2), .a (x1), .a (x2), .a (x3), t24, .b (rfl : true = true), t26] (by kernel_rfl)
  · let t0 : Tp pr := .i (show ((↑(List.map u8t bs).length : Int) : Int) = (↑bs.length : Int) by simp)
    let t1 : Tp pr := .i (show ((↑(List.map u8t cs).length : Int) : Int) = (↑cs.length : Int) by simp)
    let t2 : Tp pr := .i (show (IntKind.i64.wrap ((↑bs.length : Int) + (↑cs.length : Int)) : Int) = (sm : Int) from hw)
    let t3 : Tp pr := .b (show (decide (sm > (1048576 : Int))) = true by (simp; omega))
    exact .tp [t0, t1, t2, t3] (by kernel_rfl)
theorem u8_bd {x : Int} (h : (Lit.int .u8 x).wf = true) : 0 ≤ x ∧ x ≤ 255 := by
  have e1 : IntKind.u8.min = 0 := by decide
  have e2 : IntKind.u8.max = 255 := by decide
  simp only [Lit.wf] at h
  rw [e1, e2] at h
  simpa using h
theorem law_ev (bs : List Int) (h1 : bs.length ≤ 9223372036854775807 ∧ ∀ x ∈ bs, (Lit.int .u8 x).wf = true) (cs : List Int) (h2 : cs.length ≤ 9223372036854775807 ∧ ∀ x ∈ cs, (Lit.int .u8 x).wf = true) :
    Ev pr (.call 6 [bsq bs, bsq cs] []) (.val (.t (.bool true)) []) :=
  law0_ev bs cs (fun b hb => u8_bd (h1.2 b hb)) (fun b hb => u8_bd (h2.2 b hb)) h1.1 h2.1
end Go.Ev
