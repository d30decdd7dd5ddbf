-- WRITTEN BY mp.py, a program of this session, out of the translation's print. Not trusted: Lean checks it.
import Derived.Test.YtipolnpffmfmmabKPFnCodeBytesx0
import Derived.Test.YtipolnpffmfmmabKPFnCodeBytesx5
namespace Go.Proofs.Ytipolnpffmfmmab.PFnCodeBytes
open Go.RowKit Go.Proofs.YtipolnpffmfmmabW.PrintWords Go.Proofs.YtipolnpffmfmmabW.PrintLast Go.Proofs.YtipolnpffmfmmabW.PrintMore
attribute [local go_sem] max2_int min2_int max_two min_two max_three min_three max_four min_four   -- for this text's walks alone
set_option linter.unusedVariables false
set_option linter.unusedSimpArgs false

/-! ### impl_takeBc: function 77 -/
theorem takeBc_wrap {a : Int} (h0 : -9223372036854775808 ≤ a) (h1 : a ≤ 9223372036854775807) : wrap64 a = a := by unfold wrap64; omega
theorem bt_extract (s : ByteArray) (a b : Nat) (i : Int) (h0 : 0 ≤ i) (h1 : i.toNat < (s.extract a b).size) : bt (s.extract a b) i = bt s (a + i) := by
  have h2 : a + i.toNat < s.size := by rw [ByteArray.size_extract] at h1; omega
  have e : ((a : Int) + i).toNat = a + i.toNat := by omega
  unfold bt
  rw [dif_pos h1, dif_pos (by rw [e]; exact h2)]
  congr 2
  rw [ByteArray.getElem_extract]
  congr 1
  exact e.symm
theorem blk_kpt {W1 w' : World} {g : Nat} {o : Obj} (h : W1.heap[g]? = some o) (hb : Below W1.heap.size W1 w') : w'.heap[g]? = some o := (hb.block g (blk_lt h)).trans h
theorem two_boxes (w : World) (o1 o2 : Obj) (s : ByteArray) (hs : s.size ≤ 9223372036854775807) : ∃ W1, W1 = Lib.bytesWorld ((w.alloc o1).alloc o2) 5 s ∧ W1.heap.size = w.heap.size + 3 ∧ W1.heap[w.heap.size]? = some o1 ∧ W1.heap[w.heap.size + 1]? = some o2 ∧ ReadsInt W1 .u8 (some ⟨w.heap.size + 1 + 1, 0, none⟩) s.size (bytesOf s) ∧ Below w.heap.size w W1 := by
  have e1 : (w.alloc o1).heap.size = w.heap.size + 1 := by simp
  have e2 : ((w.alloc o1).alloc o2).heap.size = w.heap.size + 1 + 1 := by simp
  have h1 := blk_new (w.alloc o1) o2
  rw [e1] at h1
  have h2 := bytes_reads ((w.alloc o1).alloc o2) 5 s hs
  rw [e2] at h2
  refine ⟨_, rfl, by rw [Lib.bytesWorld_size]; omega, ?_, ?_, h2, bytes_below (below_alloc (below_alloc (Below.refl _ _) _) _) (by omega) _ _⟩
  · rw [Lib.bytesWorld_at_old _ _ _ _ (by omega)]; exact blk_alloc (blk_new _ _) _
  · rw [Lib.bytesWorld_at_old _ _ _ _ (by omega)]; exact h1
def foldB (s : ByteArray) : Nat → Int → Int → Int
  | 0, _, n => n
  | d + 1, i, n => foldB s d (i + 1) (Go.bits .or .i64 (wrap64 (n * 256)) (wrap64 (bt s i)))
def takeSize (op : Int) : Int := if op = 1 then 6 else if op = 2 ∨ op = 3 ∨ op = 4 ∨ op = 5 ∨ op = 6 ∨ op = 7 then 2 else 1
def signsL : List ByteArray := (impl_SignsOf.f).getD []
theorem signsL_len : signsL.length = 19 := by simp [signsL, impl_SignsOf.f]
theorem signsL_f : impl_SignsOf.f = some signsL := by simp [signsL, impl_SignsOf.f]
def takeBcIn (a0 : ByteArray) (op : Int) : Option (Int × Int × ByteArray × Int) :=
  if (a0.size : Int) < takeSize op then some (0, 0, ⟨#[]⟩, 0)
  else if op = 1 then some (op, wrap64 (foldB a0 5 1 0 - 1000000000), ⟨#[]⟩, 6)
  else if op = 4 ∨ op = 5 then
    (if 0 ≤ foldB a0 1 1 0 then (if foldB a0 1 1 0 ≥ 19 then some (0, 0, ⟨#[]⟩, 0) else some (op, 0, rdOf ByteArray.empty signsL (foldB a0 1 1 0), 2)) else none)
  else if op = 2 ∨ op = 3 ∨ op = 6 ∨ op = 7 then some (op, foldB a0 1 1 0, ⟨#[]⟩, 2)
  else some (op, 0, ⟨#[]⟩, 1)
def impl_takeBc.f (a0 : ByteArray) : Option (Int × Int × ByteArray × Int) :=
  if 0 < (a0.size : Int) then (if (a0.size : Int) ≤ 9223372036854775807 then takeBcIn a0 (wrap64 (bt a0 0)) else none) else none
set_option maxHeartbeats 8000000 in
set_option maxRecDepth 100000 in
theorem impl_takeBc.case1 (a0 : ByteArray) (r1 : Int) (r2 : Int) (r3 : ByteArray) (r4 : Int) (w : World) (c0 : 0 < (a0.size : Int)) (cl : (a0.size : Int) ≤ 9223372036854775807) (p0 : 0 < a0.size) (hop : wrap64 (a0[0].toNat : Int) = 1) (h : takeBcIn a0 (wrap64 (a0[0].toNat : Int)) = some (r1, r2, r3, r4)) :
    Calls Try.prog 77 #[.string a0] w fun e w' => e = .returned (.tuple #[.agg #[.int .i64 r1, .int .i64 r2, .string r3], .int .i64 r4]) ∧ Below w.heap.size w w' := by
  have hu90 := Try.underlying90
  have c0b : decide (0 < (a0.size : Int)) = true := decide_eq_true c0
  unfold takeBcIn at h
  have e1 : (wrap64 (a0[0].toNat : Int) == 1) = true := by simp [hop]
  have e2 : (wrap64 (a0[0].toNat : Int) == 2) = false := by simp [hop]
  have e3 : (wrap64 (a0[0].toNat : Int) == 3) = false := by simp [hop]
  have e4 : (wrap64 (a0[0].toNat : Int) == 4) = false := by simp [hop]
  have e5 : (wrap64 (a0[0].toNat : Int) == 5) = false := by simp [hop]
  have e6 : (wrap64 (a0[0].toNat : Int) == 6) = false := by simp [hop]
  have e7 : (wrap64 (a0[0].toNat : Int) == 7) = false := by simp [hop]
  have hts : takeSize (wrap64 (a0[0].toNat : Int)) = 6 := by unfold takeSize; rw [hop]; rfl
  rw [hts] at h
  by_cases c1 : (a0.size : Int) < 6
  · rw [if_pos c1] at h
    have c1b : decide ((a0.size : Int) < 6) = true := decide_eq_true c1
    cases h
    clear hop c1 hts
    go_enter Try.func77, Try.ntmps77
    go_wp2
    refine bodyPost_ret (results_ct rfl _ _ w.heap.size 90 #[.int .i64 0, .int .i64 0, .string ⟨#[]⟩] (0, 0) _ rfl ?hg Try.underlying90 rfl (by kernel_rfl)) rfl ?_
    case hg => first | exact blk_alloc (blk_new _ _) _ | (refine blk_put (cs := #[.int .i64 0, .int .i64 0, .string ⟨#[]⟩]) ?_ 2 _ rfl; refine blk_put (cs := #[.int .i64 0, .int .i64 0, .string ⟨#[]⟩]) ?_ 1 _ rfl; refine blk_put (cs := #[.int .i64 0, .int .i64 0, .string ⟨#[]⟩]) ?_ 0 _ rfl; exact blk_alloc (blk_new _ _) _)
    exact ⟨rfl, by repeat (first | exact Below.refl _ _ | apply below_alloc | apply pw_below_drewN | refine below_set ?_ (by first | (simp; done) | (simp; omega)))⟩
  · rw [if_neg c1, if_pos hop] at h
    have c1b : decide ((a0.size : Int) < 6) = false := decide_eq_false c1
    have hsz : (a0.extract 1 6).size = 5 := by rw [ByteArray.size_extract]; omega
    have ks := fun W => run_slice_string (P := Try.prog) W 9 a0 .i64 .i64 1 6 Try.underlying9 (by omega) (by omega) (by omega)
    have kb : ∀ W, (convert 9 22 (.string (a0.extract 1 6))).run Try.prog W = .ok (.slice (some ⟨W.heap.size, 0, none⟩) 5 (grownCap W 5 0 5)) (Lib.bytesWorld W 5 (a0.extract 1 6)) := fun W => by
      rw [print_bytes (P := Try.prog) 9 22 5 Try.underlying9 Try.underlying22 Try.underlying5 (a0.extract 1 6) W, hsz]
    have HSZ := Aside0.mk hsz
    obtain ⟨F, hF⟩ : ∃ F, F = foldB a0 5 1 0 := ⟨_, rfl⟩
    have HF := Aside0.mk hF
    rw [← hF] at h
    clear hsz hop c1 hts hF
    have HH := Aside0.mk h
    clear h
    go_enter Try.func77, Try.ntmps77
    go_wp2
    obtain ⟨W1, hW1, hs1, hb2, hb4, hrd, hbw⟩ := two_boxes w (.cells #[.int .i64 0, .int .i64 0, .string ⟨#[]⟩] 90) (.cells #[.int .i64 (wrap64 (a0[0].toNat : Int)), .int .i64 0, .string ⟨#[]⟩] 90) (a0.extract 1 6) (by rw [HSZ.out]; omega)
    rw [HSZ.out] at hrd
    rw [← hW1]
    clear hW1
    have HB2 := Aside0.mk hb2
    have HB4 := Aside0.mk hb4
    have HRD1 := Aside0.mk hrd
    have HBW := Aside0.mk hbw
    have HS1 := Aside0.mk hs1
    clear hb2 hb4 hrd hbw hs1
    go_loopg [6, 34] 6 (fun kq v6 v34 w' => ∃ (n i : Int), v6 = .int .i64 n ∧ v34 = .int .i64 i ∧ Aside0 (0 ≤ i) ∧ Aside0 (i ≤ 5) ∧ Aside0 (foldB a0 (5 - i.toNat) (i + 1) n = F) ∧ Aside0 (kq + i.toNat = 6) ∧ Aside0 (Below W1.heap.size W1 w'))
    case atStart => exact ⟨0, 0, rfl, rfl, ⟨by omega⟩, ⟨by omega⟩, ⟨HF.out.symm⟩, ⟨by simp⟩, ⟨Below.refl _ _⟩⟩
    case round =>
      obtain ⟨n, i, rfl, rfl, H0, H1, HA, HK, HBB⟩ := hrel
      have b2 := blk_kpt HB2.out HBB.out
      have b4 := blk_kpt HB4.out HBB.out
      have HBW' := Aside0.mk (below_then HBW.out (by have := HS1.out; omega) HBB.out)
      by_cases c2 : i < 5
      · have hd : decide (i < (5 : Int)) = true := decide_eq_true c2
        have p101 : 0 ≤ i := H0.out
        obtain ⟨ad, e0, hx⟩ := (HRD1.out.below HBB.out).at_ i p101 c2
        cases e0
        rw [add_plain, rd_bytesOf, bt_extract a0 1 6 i p101 (by have := HSZ.out; omega), show (((1 : Nat) : Int) + i) = i + 1 by omega] at hx
        have HA2 := HA.out
        have e5 : 5 - i.toNat = (5 - (i + 1).toNat) + 1 := by omega
        rw [e5, foldB] at HA2
        have HA3 := Aside0.mk HA2
        have hw : wrap64 (i + 1) = i + 1 := takeBc_wrap (by omega) (by omega)
        have HW := Aside0.mk hw
        have HC := Aside0.mk c2
        clear b2 b4 HA2 e5 hw
        replace p101 := eq_true p101
        replace c2 := eq_true c2
        go_wp2
        rw [HW.out]
        go_roundg (5 - i.toNat)
        case measure => have := HK.out; have := H0.out; have := HC.out; omega
        case rel => exact ⟨_, i + 1, rfl, rfl, ⟨by have := H0.out; omega⟩, ⟨by have := HC.out; omega⟩, HA3, ⟨by have := HC.out; have := H0.out; omega⟩, HBB⟩
      · have hd : decide (i < (5 : Int)) = false := decide_eq_false c2
        have HA2 := HA.out
        have hi5 : i = 5 := by have := H1.out; have := H0.out; omega
        subst hi5
        have hn : n = F := HA2
        subst hn
        have B2_a := Aside0.mk b2
        have B4_a := Aside0.mk b4
        have hc0 : wr.cell? ⟨w.heap.size + 1, 0, none⟩ = some (.int .i64 (wrap64 (a0[0].toNat : Int))) := (blk_cell b4 0).trans rfl
        have hc1 : wr.cell? ⟨w.heap.size + 1, 1, none⟩ = some (.int .i64 0) := (blk_cell b4 1).trans rfl
        have hc2 : wr.cell? ⟨w.heap.size + 1, 2, none⟩ = some (.string ⟨#[]⟩) := (blk_cell b4 2).trans rfl
        have hf0 := blk_frozen b4 0
        have hf1 := blk_frozen b4 1
        have hf2 := blk_frozen b4 2
        have gc0 : wr.cell? ⟨w.heap.size, 0, none⟩ = some (.int .i64 0) := (blk_cell b2 0).trans rfl
        have gc1 : wr.cell? ⟨w.heap.size, 1, none⟩ = some (.int .i64 0) := (blk_cell b2 1).trans rfl
        have gc2 : wr.cell? ⟨w.heap.size, 2, none⟩ = some (.string ⟨#[]⟩) := (blk_cell b2 2).trans rfl
        have gf0 := blk_frozen b2 0
        have gf1 := blk_frozen b2 1
        have gf2 := blk_frozen b2 2
        clear b2 b4
        go_wp2
        refine bodyPost_ret (results_ct rfl _ _ w.heap.size 90 #[.int .i64 (wrap64 (a0[0].toNat : Int)), .int .i64 (wrap64 (n - 1000000000)), .string (⟨#[]⟩)] (0, 0) _ rfl ?hg Try.underlying90 rfl (by kernel_rfl)) rfl ?_
        case hg => refine blk_put (cs := #[.int .i64 (wrap64 (a0[0].toNat : Int)), .int .i64 (wrap64 (n - 1000000000)), .string ⟨#[]⟩]) ?_ 2 _ rfl; refine blk_put (cs := #[.int .i64 (wrap64 (a0[0].toNat : Int)), .int .i64 0, .string ⟨#[]⟩]) ?_ 1 _ rfl; refine blk_put (cs := #[.int .i64 0, .int .i64 0, .string ⟨#[]⟩]) ?_ 0 _ rfl; (repeat (first | exact B2_a.out | refine blk_far ?_ (by simp) _))
        have H9 := HH.out
        simp only [Option.some.injEq, Prod.mk.injEq] at H9
        obtain ⟨rfl, rfl, rfl, rfl⟩ := H9
        exact ⟨by first | rfl | (simp; done), by repeat (first | exact HBW'.out | apply below_alloc | apply pw_below_drewN | refine below_set ?_ (by first | (simp; done) | (simp; omega)))⟩
set_option maxHeartbeats 8000000 in
set_option maxRecDepth 100000 in
theorem impl_takeBc.case2 (a0 : ByteArray) (r1 : Int) (r2 : Int) (r3 : ByteArray) (r4 : Int) (w : World) (c0 : 0 < (a0.size : Int)) (cl : (a0.size : Int) ≤ 9223372036854775807) (p0 : 0 < a0.size) (hop : wrap64 (a0[0].toNat : Int) = 2) (h : takeBcIn a0 (wrap64 (a0[0].toNat : Int)) = some (r1, r2, r3, r4)) :
    Calls Try.prog 77 #[.string a0] w fun e w' => e = .returned (.tuple #[.agg #[.int .i64 r1, .int .i64 r2, .string r3], .int .i64 r4]) ∧ Below w.heap.size w w' := by
  have hu90 := Try.underlying90
  have c0b : decide (0 < (a0.size : Int)) = true := decide_eq_true c0
  unfold takeBcIn at h
  have e1 : (wrap64 (a0[0].toNat : Int) == 1) = false := by simp [hop]
  have e2 : (wrap64 (a0[0].toNat : Int) == 2) = true := by simp [hop]
  have e3 : (wrap64 (a0[0].toNat : Int) == 3) = false := by simp [hop]
  have e4 : (wrap64 (a0[0].toNat : Int) == 4) = false := by simp [hop]
  have e5 : (wrap64 (a0[0].toNat : Int) == 5) = false := by simp [hop]
  have e6 : (wrap64 (a0[0].toNat : Int) == 6) = false := by simp [hop]
  have e7 : (wrap64 (a0[0].toNat : Int) == 7) = false := by simp [hop]
  have hts : takeSize (wrap64 (a0[0].toNat : Int)) = 2 := by unfold takeSize; rw [hop]; rfl
  rw [hts] at h
  by_cases c1 : (a0.size : Int) < 2
  · rw [if_pos c1] at h
    have c1b : decide ((a0.size : Int) < 2) = true := decide_eq_true c1
    cases h
    clear hop c1 hts
    go_enter Try.func77, Try.ntmps77
    go_wp2
    refine bodyPost_ret (results_ct rfl _ _ w.heap.size 90 #[.int .i64 0, .int .i64 0, .string ⟨#[]⟩] (0, 0) _ rfl ?hg Try.underlying90 rfl (by kernel_rfl)) rfl ?_
    case hg => first | exact blk_alloc (blk_new _ _) _ | (refine blk_put (cs := #[.int .i64 0, .int .i64 0, .string ⟨#[]⟩]) ?_ 2 _ rfl; refine blk_put (cs := #[.int .i64 0, .int .i64 0, .string ⟨#[]⟩]) ?_ 1 _ rfl; refine blk_put (cs := #[.int .i64 0, .int .i64 0, .string ⟨#[]⟩]) ?_ 0 _ rfl; exact blk_alloc (blk_new _ _) _)
    exact ⟨rfl, by repeat (first | exact Below.refl _ _ | apply below_alloc | apply pw_below_drewN | refine below_set ?_ (by first | (simp; done) | (simp; omega)))⟩
  · rw [if_neg c1, if_neg (by omega), if_neg (by omega), if_pos (by omega)] at h
    have c1b : decide ((a0.size : Int) < 2) = false := decide_eq_false c1
    have hsz : (a0.extract 1 2).size = 1 := by rw [ByteArray.size_extract]; omega
    have ks := fun W => run_slice_string (P := Try.prog) W 9 a0 .i64 .i64 1 2 Try.underlying9 (by omega) (by omega) (by omega)
    have kb : ∀ W, (convert 9 22 (.string (a0.extract 1 2))).run Try.prog W = .ok (.slice (some ⟨W.heap.size, 0, none⟩) 1 (grownCap W 1 0 5)) (Lib.bytesWorld W 5 (a0.extract 1 2)) := fun W => by
      rw [print_bytes (P := Try.prog) 9 22 5 Try.underlying9 Try.underlying22 Try.underlying5 (a0.extract 1 2) W, hsz]
    have HSZ := Aside0.mk hsz
    obtain ⟨F, hF⟩ : ∃ F, F = foldB a0 1 1 0 := ⟨_, rfl⟩
    have HF := Aside0.mk hF
    rw [← hF] at h
    clear hsz hop c1 hts hF
    have HH := Aside0.mk h
    clear h
    go_enter Try.func77, Try.ntmps77
    go_wp2
    obtain ⟨W1, hW1, hs1, hb2, hb4, hrd, hbw⟩ := two_boxes w (.cells #[.int .i64 0, .int .i64 0, .string ⟨#[]⟩] 90) (.cells #[.int .i64 (wrap64 (a0[0].toNat : Int)), .int .i64 0, .string ⟨#[]⟩] 90) (a0.extract 1 2) (by rw [HSZ.out]; omega)
    rw [HSZ.out] at hrd
    rw [← hW1]
    clear hW1
    have HB2 := Aside0.mk hb2
    have HB4 := Aside0.mk hb4
    have HRD1 := Aside0.mk hrd
    have HBW := Aside0.mk hbw
    have HS1 := Aside0.mk hs1
    clear hb2 hb4 hrd hbw hs1
    go_loopg [6, 34] 2 (fun kq v6 v34 w' => ∃ (n i : Int), v6 = .int .i64 n ∧ v34 = .int .i64 i ∧ Aside0 (0 ≤ i) ∧ Aside0 (i ≤ 1) ∧ Aside0 (foldB a0 (1 - i.toNat) (i + 1) n = F) ∧ Aside0 (kq + i.toNat = 2) ∧ Aside0 (Below W1.heap.size W1 w'))
    case atStart => exact ⟨0, 0, rfl, rfl, ⟨by omega⟩, ⟨by omega⟩, ⟨HF.out.symm⟩, ⟨by simp⟩, ⟨Below.refl _ _⟩⟩
    case round =>
      obtain ⟨n, i, rfl, rfl, H0, H1, HA, HK, HBB⟩ := hrel
      have b2 := blk_kpt HB2.out HBB.out
      have b4 := blk_kpt HB4.out HBB.out
      have HBW' := Aside0.mk (below_then HBW.out (by have := HS1.out; omega) HBB.out)
      by_cases c2 : i < 1
      · have hd : decide (i < (1 : Int)) = true := decide_eq_true c2
        have p101 : 0 ≤ i := H0.out
        obtain ⟨ad, e0, hx⟩ := (HRD1.out.below HBB.out).at_ i p101 c2
        cases e0
        rw [add_plain, rd_bytesOf, bt_extract a0 1 2 i p101 (by have := HSZ.out; omega), show (((1 : Nat) : Int) + i) = i + 1 by omega] at hx
        have HA2 := HA.out
        have e5 : 1 - i.toNat = (1 - (i + 1).toNat) + 1 := by omega
        rw [e5, foldB] at HA2
        have HA3 := Aside0.mk HA2
        have hw : wrap64 (i + 1) = i + 1 := takeBc_wrap (by omega) (by omega)
        have HW := Aside0.mk hw
        have HC := Aside0.mk c2
        clear b2 b4 HA2 e5 hw
        replace p101 := eq_true p101
        replace c2 := eq_true c2
        go_wp2
        rw [HW.out]
        go_roundg (1 - i.toNat)
        case measure => have := HK.out; have := H0.out; have := HC.out; omega
        case rel => exact ⟨_, i + 1, rfl, rfl, ⟨by have := H0.out; omega⟩, ⟨by have := HC.out; omega⟩, HA3, ⟨by have := HC.out; have := H0.out; omega⟩, HBB⟩
      · have hd : decide (i < (1 : Int)) = false := decide_eq_false c2
        have HA2 := HA.out
        have hi5 : i = 1 := by have := H1.out; have := H0.out; omega
        subst hi5
        have hn : n = F := HA2
        subst hn
        have B2_a := Aside0.mk b2
        have B4_a := Aside0.mk b4
        have hc0 : wr.cell? ⟨w.heap.size + 1, 0, none⟩ = some (.int .i64 (wrap64 (a0[0].toNat : Int))) := (blk_cell b4 0).trans rfl
        have hc1 : wr.cell? ⟨w.heap.size + 1, 1, none⟩ = some (.int .i64 0) := (blk_cell b4 1).trans rfl
        have hc2 : wr.cell? ⟨w.heap.size + 1, 2, none⟩ = some (.string ⟨#[]⟩) := (blk_cell b4 2).trans rfl
        have hf0 := blk_frozen b4 0
        have hf1 := blk_frozen b4 1
        have hf2 := blk_frozen b4 2
        have gc0 : wr.cell? ⟨w.heap.size, 0, none⟩ = some (.int .i64 0) := (blk_cell b2 0).trans rfl
        have gc1 : wr.cell? ⟨w.heap.size, 1, none⟩ = some (.int .i64 0) := (blk_cell b2 1).trans rfl
        have gc2 : wr.cell? ⟨w.heap.size, 2, none⟩ = some (.string ⟨#[]⟩) := (blk_cell b2 2).trans rfl
        have gf0 := blk_frozen b2 0
        have gf1 := blk_frozen b2 1
        have gf2 := blk_frozen b2 2
        clear b2 b4
        go_wp2
        refine bodyPost_ret (results_ct rfl _ _ w.heap.size 90 #[.int .i64 (wrap64 (a0[0].toNat : Int)), .int .i64 (n), .string (⟨#[]⟩)] (0, 0) _ rfl ?hg Try.underlying90 rfl (by kernel_rfl)) rfl ?_
        case hg => refine blk_put (cs := #[.int .i64 (wrap64 (a0[0].toNat : Int)), .int .i64 (n), .string ⟨#[]⟩]) ?_ 2 _ rfl; refine blk_put (cs := #[.int .i64 (wrap64 (a0[0].toNat : Int)), .int .i64 0, .string ⟨#[]⟩]) ?_ 1 _ rfl; refine blk_put (cs := #[.int .i64 0, .int .i64 0, .string ⟨#[]⟩]) ?_ 0 _ rfl; (repeat (first | exact B2_a.out | refine blk_far ?_ (by simp) _))
        have H9 := HH.out
        simp only [Option.some.injEq, Prod.mk.injEq] at H9
        obtain ⟨rfl, rfl, rfl, rfl⟩ := H9
        exact ⟨by first | rfl | (simp; done), by repeat (first | exact HBW'.out | apply below_alloc | apply pw_below_drewN | refine below_set ?_ (by first | (simp; done) | (simp; omega)))⟩
set_option maxHeartbeats 8000000 in
set_option maxRecDepth 100000 in
theorem impl_takeBc.case3 (a0 : ByteArray) (r1 : Int) (r2 : Int) (r3 : ByteArray) (r4 : Int) (w : World) (c0 : 0 < (a0.size : Int)) (cl : (a0.size : Int) ≤ 9223372036854775807) (p0 : 0 < a0.size) (hop : wrap64 (a0[0].toNat : Int) = 3) (h : takeBcIn a0 (wrap64 (a0[0].toNat : Int)) = some (r1, r2, r3, r4)) :
    Calls Try.prog 77 #[.string a0] w fun e w' => e = .returned (.tuple #[.agg #[.int .i64 r1, .int .i64 r2, .string r3], .int .i64 r4]) ∧ Below w.heap.size w w' := by
  have hu90 := Try.underlying90
  have c0b : decide (0 < (a0.size : Int)) = true := decide_eq_true c0
  unfold takeBcIn at h
  have e1 : (wrap64 (a0[0].toNat : Int) == 1) = false := by simp [hop]
  have e2 : (wrap64 (a0[0].toNat : Int) == 2) = false := by simp [hop]
  have e3 : (wrap64 (a0[0].toNat : Int) == 3) = true := by simp [hop]
  have e4 : (wrap64 (a0[0].toNat : Int) == 4) = false := by simp [hop]
  have e5 : (wrap64 (a0[0].toNat : Int) == 5) = false := by simp [hop]
  have e6 : (wrap64 (a0[0].toNat : Int) == 6) = false := by simp [hop]
  have e7 : (wrap64 (a0[0].toNat : Int) == 7) = false := by simp [hop]
  have hts : takeSize (wrap64 (a0[0].toNat : Int)) = 2 := by unfold takeSize; rw [hop]; rfl
  rw [hts] at h
  by_cases c1 : (a0.size : Int) < 2
  · rw [if_pos c1] at h
    have c1b : decide ((a0.size : Int) < 2) = true := decide_eq_true c1
    cases h
    clear hop c1 hts
    go_enter Try.func77, Try.ntmps77
    go_wp2
    refine bodyPost_ret (results_ct rfl _ _ w.heap.size 90 #[.int .i64 0, .int .i64 0, .string ⟨#[]⟩] (0, 0) _ rfl ?hg Try.underlying90 rfl (by kernel_rfl)) rfl ?_
    case hg => first | exact blk_alloc (blk_new _ _) _ | (refine blk_put (cs := #[.int .i64 0, .int .i64 0, .string ⟨#[]⟩]) ?_ 2 _ rfl; refine blk_put (cs := #[.int .i64 0, .int .i64 0, .string ⟨#[]⟩]) ?_ 1 _ rfl; refine blk_put (cs := #[.int .i64 0, .int .i64 0, .string ⟨#[]⟩]) ?_ 0 _ rfl; exact blk_alloc (blk_new _ _) _)
    exact ⟨rfl, by repeat (first | exact Below.refl _ _ | apply below_alloc | apply pw_below_drewN | refine below_set ?_ (by first | (simp; done) | (simp; omega)))⟩
  · rw [if_neg c1, if_neg (by omega), if_neg (by omega), if_pos (by omega)] at h
    have c1b : decide ((a0.size : Int) < 2) = false := decide_eq_false c1
    have hsz : (a0.extract 1 2).size = 1 := by rw [ByteArray.size_extract]; omega
    have ks := fun W => run_slice_string (P := Try.prog) W 9 a0 .i64 .i64 1 2 Try.underlying9 (by omega) (by omega) (by omega)
    have kb : ∀ W, (convert 9 22 (.string (a0.extract 1 2))).run Try.prog W = .ok (.slice (some ⟨W.heap.size, 0, none⟩) 1 (grownCap W 1 0 5)) (Lib.bytesWorld W 5 (a0.extract 1 2)) := fun W => by
      rw [print_bytes (P := Try.prog) 9 22 5 Try.underlying9 Try.underlying22 Try.underlying5 (a0.extract 1 2) W, hsz]
    have HSZ := Aside0.mk hsz
    obtain ⟨F, hF⟩ : ∃ F, F = foldB a0 1 1 0 := ⟨_, rfl⟩
    have HF := Aside0.mk hF
    rw [← hF] at h
    clear hsz hop c1 hts hF
    have HH := Aside0.mk h
    clear h
    go_enter Try.func77, Try.ntmps77
    go_wp2
    obtain ⟨W1, hW1, hs1, hb2, hb4, hrd, hbw⟩ := two_boxes w (.cells #[.int .i64 0, .int .i64 0, .string ⟨#[]⟩] 90) (.cells #[.int .i64 (wrap64 (a0[0].toNat : Int)), .int .i64 0, .string ⟨#[]⟩] 90) (a0.extract 1 2) (by rw [HSZ.out]; omega)
    rw [HSZ.out] at hrd
    rw [← hW1]
    clear hW1
    have HB2 := Aside0.mk hb2
    have HB4 := Aside0.mk hb4
    have HRD1 := Aside0.mk hrd
    have HBW := Aside0.mk hbw
    have HS1 := Aside0.mk hs1
    clear hb2 hb4 hrd hbw hs1
    go_loopg [6, 34] 2 (fun kq v6 v34 w' => ∃ (n i : Int), v6 = .int .i64 n ∧ v34 = .int .i64 i ∧ Aside0 (0 ≤ i) ∧ Aside0 (i ≤ 1) ∧ Aside0 (foldB a0 (1 - i.toNat) (i + 1) n = F) ∧ Aside0 (kq + i.toNat = 2) ∧ Aside0 (Below W1.heap.size W1 w'))
    case atStart => exact ⟨0, 0, rfl, rfl, ⟨by omega⟩, ⟨by omega⟩, ⟨HF.out.symm⟩, ⟨by simp⟩, ⟨Below.refl _ _⟩⟩
    case round =>
      obtain ⟨n, i, rfl, rfl, H0, H1, HA, HK, HBB⟩ := hrel
      have b2 := blk_kpt HB2.out HBB.out
      have b4 := blk_kpt HB4.out HBB.out
      have HBW' := Aside0.mk (below_then HBW.out (by have := HS1.out; omega) HBB.out)
      by_cases c2 : i < 1
      · have hd : decide (i < (1 : Int)) = true := decide_eq_true c2
        have p101 : 0 ≤ i := H0.out
        obtain ⟨ad, e0, hx⟩ := (HRD1.out.below HBB.out).at_ i p101 c2
        cases e0
        rw [add_plain, rd_bytesOf, bt_extract a0 1 2 i p101 (by have := HSZ.out; omega), show (((1 : Nat) : Int) + i) = i + 1 by omega] at hx
        have HA2 := HA.out
        have e5 : 1 - i.toNat = (1 - (i + 1).toNat) + 1 := by omega
        rw [e5, foldB] at HA2
        have HA3 := Aside0.mk HA2
        have hw : wrap64 (i + 1) = i + 1 := takeBc_wrap (by omega) (by omega)
        have HW := Aside0.mk hw
        have HC := Aside0.mk c2
        clear b2 b4 HA2 e5 hw
        replace p101 := eq_true p101
        replace c2 := eq_true c2
        go_wp2
        rw [HW.out]
        go_roundg (1 - i.toNat)
        case measure => have := HK.out; have := H0.out; have := HC.out; omega
        case rel => exact ⟨_, i + 1, rfl, rfl, ⟨by have := H0.out; omega⟩, ⟨by have := HC.out; omega⟩, HA3, ⟨by have := HC.out; have := H0.out; omega⟩, HBB⟩
      · have hd : decide (i < (1 : Int)) = false := decide_eq_false c2
        have HA2 := HA.out
        have hi5 : i = 1 := by have := H1.out; have := H0.out; omega
        subst hi5
        have hn : n = F := HA2
        subst hn
        have B2_a := Aside0.mk b2
        have B4_a := Aside0.mk b4
        have hc0 : wr.cell? ⟨w.heap.size + 1, 0, none⟩ = some (.int .i64 (wrap64 (a0[0].toNat : Int))) := (blk_cell b4 0).trans rfl
        have hc1 : wr.cell? ⟨w.heap.size + 1, 1, none⟩ = some (.int .i64 0) := (blk_cell b4 1).trans rfl
        have hc2 : wr.cell? ⟨w.heap.size + 1, 2, none⟩ = some (.string ⟨#[]⟩) := (blk_cell b4 2).trans rfl
        have hf0 := blk_frozen b4 0
        have hf1 := blk_frozen b4 1
        have hf2 := blk_frozen b4 2
        have gc0 : wr.cell? ⟨w.heap.size, 0, none⟩ = some (.int .i64 0) := (blk_cell b2 0).trans rfl
        have gc1 : wr.cell? ⟨w.heap.size, 1, none⟩ = some (.int .i64 0) := (blk_cell b2 1).trans rfl
        have gc2 : wr.cell? ⟨w.heap.size, 2, none⟩ = some (.string ⟨#[]⟩) := (blk_cell b2 2).trans rfl
        have gf0 := blk_frozen b2 0
        have gf1 := blk_frozen b2 1
        have gf2 := blk_frozen b2 2
        clear b2 b4
        go_wp2
        refine bodyPost_ret (results_ct rfl _ _ w.heap.size 90 #[.int .i64 (wrap64 (a0[0].toNat : Int)), .int .i64 (n), .string (⟨#[]⟩)] (0, 0) _ rfl ?hg Try.underlying90 rfl (by kernel_rfl)) rfl ?_
        case hg => refine blk_put (cs := #[.int .i64 (wrap64 (a0[0].toNat : Int)), .int .i64 (n), .string ⟨#[]⟩]) ?_ 2 _ rfl; refine blk_put (cs := #[.int .i64 (wrap64 (a0[0].toNat : Int)), .int .i64 0, .string ⟨#[]⟩]) ?_ 1 _ rfl; refine blk_put (cs := #[.int .i64 0, .int .i64 0, .string ⟨#[]⟩]) ?_ 0 _ rfl; (repeat (first | exact B2_a.out | refine blk_far ?_ (by simp) _))
        have H9 := HH.out
        simp only [Option.some.injEq, Prod.mk.injEq] at H9
        obtain ⟨rfl, rfl, rfl, rfl⟩ := H9
        exact ⟨by first | rfl | (simp; done), by repeat (first | exact HBW'.out | apply below_alloc | apply pw_below_drewN | refine below_set ?_ (by first | (simp; done) | (simp; omega)))⟩
set_option maxHeartbeats 8000000 in
set_option maxRecDepth 100000 in
theorem impl_takeBc.case6 (a0 : ByteArray) (r1 : Int) (r2 : Int) (r3 : ByteArray) (r4 : Int) (w : World) (c0 : 0 < (a0.size : Int)) (cl : (a0.size : Int) ≤ 9223372036854775807) (p0 : 0 < a0.size) (hop : wrap64 (a0[0].toNat : Int) = 6) (h : takeBcIn a0 (wrap64 (a0[0].toNat : Int)) = some (r1, r2, r3, r4)) :
    Calls Try.prog 77 #[.string a0] w fun e w' => e = .returned (.tuple #[.agg #[.int .i64 r1, .int .i64 r2, .string r3], .int .i64 r4]) ∧ Below w.heap.size w w' := by
  have hu90 := Try.underlying90
  have c0b : decide (0 < (a0.size : Int)) = true := decide_eq_true c0
  unfold takeBcIn at h
  have e1 : (wrap64 (a0[0].toNat : Int) == 1) = false := by simp [hop]
  have e2 : (wrap64 (a0[0].toNat : Int) == 2) = false := by simp [hop]
  have e3 : (wrap64 (a0[0].toNat : Int) == 3) = false := by simp [hop]
  have e4 : (wrap64 (a0[0].toNat : Int) == 4) = false := by simp [hop]
  have e5 : (wrap64 (a0[0].toNat : Int) == 5) = false := by simp [hop]
  have e6 : (wrap64 (a0[0].toNat : Int) == 6) = true := by simp [hop]
  have e7 : (wrap64 (a0[0].toNat : Int) == 7) = false := by simp [hop]
  have hts : takeSize (wrap64 (a0[0].toNat : Int)) = 2 := by unfold takeSize; rw [hop]; rfl
  rw [hts] at h
  by_cases c1 : (a0.size : Int) < 2
  · rw [if_pos c1] at h
    have c1b : decide ((a0.size : Int) < 2) = true := decide_eq_true c1
    cases h
    clear hop c1 hts
    go_enter Try.func77, Try.ntmps77
    go_wp2
    refine bodyPost_ret (results_ct rfl _ _ w.heap.size 90 #[.int .i64 0, .int .i64 0, .string ⟨#[]⟩] (0, 0) _ rfl ?hg Try.underlying90 rfl (by kernel_rfl)) rfl ?_
    case hg => first | exact blk_alloc (blk_new _ _) _ | (refine blk_put (cs := #[.int .i64 0, .int .i64 0, .string ⟨#[]⟩]) ?_ 2 _ rfl; refine blk_put (cs := #[.int .i64 0, .int .i64 0, .string ⟨#[]⟩]) ?_ 1 _ rfl; refine blk_put (cs := #[.int .i64 0, .int .i64 0, .string ⟨#[]⟩]) ?_ 0 _ rfl; exact blk_alloc (blk_new _ _) _)
    exact ⟨rfl, by repeat (first | exact Below.refl _ _ | apply below_alloc | apply pw_below_drewN | refine below_set ?_ (by first | (simp; done) | (simp; omega)))⟩
  · rw [if_neg c1, if_neg (by omega), if_neg (by omega), if_pos (by omega)] at h
    have c1b : decide ((a0.size : Int) < 2) = false := decide_eq_false c1
    have hsz : (a0.extract 1 2).size = 1 := by rw [ByteArray.size_extract]; omega
    have ks := fun W => run_slice_string (P := Try.prog) W 9 a0 .i64 .i64 1 2 Try.underlying9 (by omega) (by omega) (by omega)
    have kb : ∀ W, (convert 9 22 (.string (a0.extract 1 2))).run Try.prog W = .ok (.slice (some ⟨W.heap.size, 0, none⟩) 1 (grownCap W 1 0 5)) (Lib.bytesWorld W 5 (a0.extract 1 2)) := fun W => by
      rw [print_bytes (P := Try.prog) 9 22 5 Try.underlying9 Try.underlying22 Try.underlying5 (a0.extract 1 2) W, hsz]
    have HSZ := Aside0.mk hsz
    obtain ⟨F, hF⟩ : ∃ F, F = foldB a0 1 1 0 := ⟨_, rfl⟩
    have HF := Aside0.mk hF
    rw [← hF] at h
    clear hsz hop c1 hts hF
    have HH := Aside0.mk h
    clear h
    go_enter Try.func77, Try.ntmps77
    go_wp2
    obtain ⟨W1, hW1, hs1, hb2, hb4, hrd, hbw⟩ := two_boxes w (.cells #[.int .i64 0, .int .i64 0, .string ⟨#[]⟩] 90) (.cells #[.int .i64 (wrap64 (a0[0].toNat : Int)), .int .i64 0, .string ⟨#[]⟩] 90) (a0.extract 1 2) (by rw [HSZ.out]; omega)
    rw [HSZ.out] at hrd
    rw [← hW1]
    clear hW1
    have HB2 := Aside0.mk hb2
    have HB4 := Aside0.mk hb4
    have HRD1 := Aside0.mk hrd
    have HBW := Aside0.mk hbw
    have HS1 := Aside0.mk hs1
    clear hb2 hb4 hrd hbw hs1
    go_loopg [6, 34] 2 (fun kq v6 v34 w' => ∃ (n i : Int), v6 = .int .i64 n ∧ v34 = .int .i64 i ∧ Aside0 (0 ≤ i) ∧ Aside0 (i ≤ 1) ∧ Aside0 (foldB a0 (1 - i.toNat) (i + 1) n = F) ∧ Aside0 (kq + i.toNat = 2) ∧ Aside0 (Below W1.heap.size W1 w'))
    case atStart => exact ⟨0, 0, rfl, rfl, ⟨by omega⟩, ⟨by omega⟩, ⟨HF.out.symm⟩, ⟨by simp⟩, ⟨Below.refl _ _⟩⟩
    case round =>
      obtain ⟨n, i, rfl, rfl, H0, H1, HA, HK, HBB⟩ := hrel
      have b2 := blk_kpt HB2.out HBB.out
      have b4 := blk_kpt HB4.out HBB.out
      have HBW' := Aside0.mk (below_then HBW.out (by have := HS1.out; omega) HBB.out)
      by_cases c2 : i < 1
      · have hd : decide (i < (1 : Int)) = true := decide_eq_true c2
        have p101 : 0 ≤ i := H0.out
        obtain ⟨ad, e0, hx⟩ := (HRD1.out.below HBB.out).at_ i p101 c2
        cases e0
        rw [add_plain, rd_bytesOf, bt_extract a0 1 2 i p101 (by have := HSZ.out; omega), show (((1 : Nat) : Int) + i) = i + 1 by omega] at hx
        have HA2 := HA.out
        have e5 : 1 - i.toNat = (1 - (i + 1).toNat) + 1 := by omega
        rw [e5, foldB] at HA2
        have HA3 := Aside0.mk HA2
        have hw : wrap64 (i + 1) = i + 1 := takeBc_wrap (by omega) (by omega)
        have HW := Aside0.mk hw
        have HC := Aside0.mk c2
        clear b2 b4 HA2 e5 hw
        replace p101 := eq_true p101
        replace c2 := eq_true c2
        go_wp2
        rw [HW.out]
        go_roundg (1 - i.toNat)
        case measure => have := HK.out; have := H0.out; have := HC.out; omega
        case rel => exact ⟨_, i + 1, rfl, rfl, ⟨by have := H0.out; omega⟩, ⟨by have := HC.out; omega⟩, HA3, ⟨by have := HC.out; have := H0.out; omega⟩, HBB⟩
      · have hd : decide (i < (1 : Int)) = false := decide_eq_false c2
        have HA2 := HA.out
        have hi5 : i = 1 := by have := H1.out; have := H0.out; omega
        subst hi5
        have hn : n = F := HA2
        subst hn
        have B2_a := Aside0.mk b2
        have B4_a := Aside0.mk b4
        have hc0 : wr.cell? ⟨w.heap.size + 1, 0, none⟩ = some (.int .i64 (wrap64 (a0[0].toNat : Int))) := (blk_cell b4 0).trans rfl
        have hc1 : wr.cell? ⟨w.heap.size + 1, 1, none⟩ = some (.int .i64 0) := (blk_cell b4 1).trans rfl
        have hc2 : wr.cell? ⟨w.heap.size + 1, 2, none⟩ = some (.string ⟨#[]⟩) := (blk_cell b4 2).trans rfl
        have hf0 := blk_frozen b4 0
        have hf1 := blk_frozen b4 1
        have hf2 := blk_frozen b4 2
        have gc0 : wr.cell? ⟨w.heap.size, 0, none⟩ = some (.int .i64 0) := (blk_cell b2 0).trans rfl
        have gc1 : wr.cell? ⟨w.heap.size, 1, none⟩ = some (.int .i64 0) := (blk_cell b2 1).trans rfl
        have gc2 : wr.cell? ⟨w.heap.size, 2, none⟩ = some (.string ⟨#[]⟩) := (blk_cell b2 2).trans rfl
        have gf0 := blk_frozen b2 0
        have gf1 := blk_frozen b2 1
        have gf2 := blk_frozen b2 2
        clear b2 b4
        go_wp2
        refine bodyPost_ret (results_ct rfl _ _ w.heap.size 90 #[.int .i64 (wrap64 (a0[0].toNat : Int)), .int .i64 (n), .string (⟨#[]⟩)] (0, 0) _ rfl ?hg Try.underlying90 rfl (by kernel_rfl)) rfl ?_
        case hg => refine blk_put (cs := #[.int .i64 (wrap64 (a0[0].toNat : Int)), .int .i64 (n), .string ⟨#[]⟩]) ?_ 2 _ rfl; refine blk_put (cs := #[.int .i64 (wrap64 (a0[0].toNat : Int)), .int .i64 0, .string ⟨#[]⟩]) ?_ 1 _ rfl; refine blk_put (cs := #[.int .i64 0, .int .i64 0, .string ⟨#[]⟩]) ?_ 0 _ rfl; (repeat (first | exact B2_a.out | refine blk_far ?_ (by simp) _))
        have H9 := HH.out
        simp only [Option.some.injEq, Prod.mk.injEq] at H9
        obtain ⟨rfl, rfl, rfl, rfl⟩ := H9
        exact ⟨by first | rfl | (simp; done), by repeat (first | exact HBW'.out | apply below_alloc | apply pw_below_drewN | refine below_set ?_ (by first | (simp; done) | (simp; omega)))⟩
set_option maxHeartbeats 8000000 in
set_option maxRecDepth 100000 in
theorem impl_takeBc.case7 (a0 : ByteArray) (r1 : Int) (r2 : Int) (r3 : ByteArray) (r4 : Int) (w : World) (c0 : 0 < (a0.size : Int)) (cl : (a0.size : Int) ≤ 9223372036854775807) (p0 : 0 < a0.size) (hop : wrap64 (a0[0].toNat : Int) = 7) (h : takeBcIn a0 (wrap64 (a0[0].toNat : Int)) = some (r1, r2, r3, r4)) :
    Calls Try.prog 77 #[.string a0] w fun e w' => e = .returned (.tuple #[.agg #[.int .i64 r1, .int .i64 r2, .string r3], .int .i64 r4]) ∧ Below w.heap.size w w' := by
  have hu90 := Try.underlying90
  have c0b : decide (0 < (a0.size : Int)) = true := decide_eq_true c0
  unfold takeBcIn at h
  have e1 : (wrap64 (a0[0].toNat : Int) == 1) = false := by simp [hop]
  have e2 : (wrap64 (a0[0].toNat : Int) == 2) = false := by simp [hop]
  have e3 : (wrap64 (a0[0].toNat : Int) == 3) = false := by simp [hop]
  have e4 : (wrap64 (a0[0].toNat : Int) == 4) = false := by simp [hop]
  have e5 : (wrap64 (a0[0].toNat : Int) == 5) = false := by simp [hop]
  have e6 : (wrap64 (a0[0].toNat : Int) == 6) = false := by simp [hop]
  have e7 : (wrap64 (a0[0].toNat : Int) == 7) = true := by simp [hop]
  have hts : takeSize (wrap64 (a0[0].toNat : Int)) = 2 := by unfold takeSize; rw [hop]; rfl
  rw [hts] at h
  by_cases c1 : (a0.size : Int) < 2
  · rw [if_pos c1] at h
    have c1b : decide ((a0.size : Int) < 2) = true := decide_eq_true c1
    cases h
    clear hop c1 hts
    go_enter Try.func77, Try.ntmps77
    go_wp2
    refine bodyPost_ret (results_ct rfl _ _ w.heap.size 90 #[.int .i64 0, .int .i64 0, .string ⟨#[]⟩] (0, 0) _ rfl ?hg Try.underlying90 rfl (by kernel_rfl)) rfl ?_
    case hg => first | exact blk_alloc (blk_new _ _) _ | (refine blk_put (cs := #[.int .i64 0, .int .i64 0, .string ⟨#[]⟩]) ?_ 2 _ rfl; refine blk_put (cs := #[.int .i64 0, .int .i64 0, .string ⟨#[]⟩]) ?_ 1 _ rfl; refine blk_put (cs := #[.int .i64 0, .int .i64 0, .string ⟨#[]⟩]) ?_ 0 _ rfl; exact blk_alloc (blk_new _ _) _)
    exact ⟨rfl, by repeat (first | exact Below.refl _ _ | apply below_alloc | apply pw_below_drewN | refine below_set ?_ (by first | (simp; done) | (simp; omega)))⟩
  · rw [if_neg c1, if_neg (by omega), if_neg (by omega), if_pos (by omega)] at h
    have c1b : decide ((a0.size : Int) < 2) = false := decide_eq_false c1
    have hsz : (a0.extract 1 2).size = 1 := by rw [ByteArray.size_extract]; omega
    have ks := fun W => run_slice_string (P := Try.prog) W 9 a0 .i64 .i64 1 2 Try.underlying9 (by omega) (by omega) (by omega)
    have kb : ∀ W, (convert 9 22 (.string (a0.extract 1 2))).run Try.prog W = .ok (.slice (some ⟨W.heap.size, 0, none⟩) 1 (grownCap W 1 0 5)) (Lib.bytesWorld W 5 (a0.extract 1 2)) := fun W => by
      rw [print_bytes (P := Try.prog) 9 22 5 Try.underlying9 Try.underlying22 Try.underlying5 (a0.extract 1 2) W, hsz]
    have HSZ := Aside0.mk hsz
    obtain ⟨F, hF⟩ : ∃ F, F = foldB a0 1 1 0 := ⟨_, rfl⟩
    have HF := Aside0.mk hF
    rw [← hF] at h
    clear hsz hop c1 hts hF
    have HH := Aside0.mk h
    clear h
    go_enter Try.func77, Try.ntmps77
    go_wp2
    obtain ⟨W1, hW1, hs1, hb2, hb4, hrd, hbw⟩ := two_boxes w (.cells #[.int .i64 0, .int .i64 0, .string ⟨#[]⟩] 90) (.cells #[.int .i64 (wrap64 (a0[0].toNat : Int)), .int .i64 0, .string ⟨#[]⟩] 90) (a0.extract 1 2) (by rw [HSZ.out]; omega)
    rw [HSZ.out] at hrd
    rw [← hW1]
    clear hW1
    have HB2 := Aside0.mk hb2
    have HB4 := Aside0.mk hb4
    have HRD1 := Aside0.mk hrd
    have HBW := Aside0.mk hbw
    have HS1 := Aside0.mk hs1
    clear hb2 hb4 hrd hbw hs1
    go_loopg [6, 34] 2 (fun kq v6 v34 w' => ∃ (n i : Int), v6 = .int .i64 n ∧ v34 = .int .i64 i ∧ Aside0 (0 ≤ i) ∧ Aside0 (i ≤ 1) ∧ Aside0 (foldB a0 (1 - i.toNat) (i + 1) n = F) ∧ Aside0 (kq + i.toNat = 2) ∧ Aside0 (Below W1.heap.size W1 w'))
    case atStart => exact ⟨0, 0, rfl, rfl, ⟨by omega⟩, ⟨by omega⟩, ⟨HF.out.symm⟩, ⟨by simp⟩, ⟨Below.refl _ _⟩⟩
    case round =>
      obtain ⟨n, i, rfl, rfl, H0, H1, HA, HK, HBB⟩ := hrel
      have b2 := blk_kpt HB2.out HBB.out
      have b4 := blk_kpt HB4.out HBB.out
      have HBW' := Aside0.mk (below_then HBW.out (by have := HS1.out; omega) HBB.out)
      by_cases c2 : i < 1
      · have hd : decide (i < (1 : Int)) = true := decide_eq_true c2
        have p101 : 0 ≤ i := H0.out
        obtain ⟨ad, e0, hx⟩ := (HRD1.out.below HBB.out).at_ i p101 c2
        cases e0
        rw [add_plain, rd_bytesOf, bt_extract a0 1 2 i p101 (by have := HSZ.out; omega), show (((1 : Nat) : Int) + i) = i + 1 by omega] at hx
        have HA2 := HA.out
        have e5 : 1 - i.toNat = (1 - (i + 1).toNat) + 1 := by omega
        rw [e5, foldB] at HA2
        have HA3 := Aside0.mk HA2
        have hw : wrap64 (i + 1) = i + 1 := takeBc_wrap (by omega) (by omega)
        have HW := Aside0.mk hw
        have HC := Aside0.mk c2
        clear b2 b4 HA2 e5 hw
        replace p101 := eq_true p101
        replace c2 := eq_true c2
        go_wp2
        rw [HW.out]
        go_roundg (1 - i.toNat)
        case measure => have := HK.out; have := H0.out; have := HC.out; omega
        case rel => exact ⟨_, i + 1, rfl, rfl, ⟨by have := H0.out; omega⟩, ⟨by have := HC.out; omega⟩, HA3, ⟨by have := HC.out; have := H0.out; omega⟩, HBB⟩
      · have hd : decide (i < (1 : Int)) = false := decide_eq_false c2
        have HA2 := HA.out
        have hi5 : i = 1 := by have := H1.out; have := H0.out; omega
        subst hi5
        have hn : n = F := HA2
        subst hn
        have B2_a := Aside0.mk b2
        have B4_a := Aside0.mk b4
        have hc0 : wr.cell? ⟨w.heap.size + 1, 0, none⟩ = some (.int .i64 (wrap64 (a0[0].toNat : Int))) := (blk_cell b4 0).trans rfl
        have hc1 : wr.cell? ⟨w.heap.size + 1, 1, none⟩ = some (.int .i64 0) := (blk_cell b4 1).trans rfl
        have hc2 : wr.cell? ⟨w.heap.size + 1, 2, none⟩ = some (.string ⟨#[]⟩) := (blk_cell b4 2).trans rfl
        have hf0 := blk_frozen b4 0
        have hf1 := blk_frozen b4 1
        have hf2 := blk_frozen b4 2
        have gc0 : wr.cell? ⟨w.heap.size, 0, none⟩ = some (.int .i64 0) := (blk_cell b2 0).trans rfl
        have gc1 : wr.cell? ⟨w.heap.size, 1, none⟩ = some (.int .i64 0) := (blk_cell b2 1).trans rfl
        have gc2 : wr.cell? ⟨w.heap.size, 2, none⟩ = some (.string ⟨#[]⟩) := (blk_cell b2 2).trans rfl
        have gf0 := blk_frozen b2 0
        have gf1 := blk_frozen b2 1
        have gf2 := blk_frozen b2 2
        clear b2 b4
        go_wp2
        refine bodyPost_ret (results_ct rfl _ _ w.heap.size 90 #[.int .i64 (wrap64 (a0[0].toNat : Int)), .int .i64 (n), .string (⟨#[]⟩)] (0, 0) _ rfl ?hg Try.underlying90 rfl (by kernel_rfl)) rfl ?_
        case hg => refine blk_put (cs := #[.int .i64 (wrap64 (a0[0].toNat : Int)), .int .i64 (n), .string ⟨#[]⟩]) ?_ 2 _ rfl; refine blk_put (cs := #[.int .i64 (wrap64 (a0[0].toNat : Int)), .int .i64 0, .string ⟨#[]⟩]) ?_ 1 _ rfl; refine blk_put (cs := #[.int .i64 0, .int .i64 0, .string ⟨#[]⟩]) ?_ 0 _ rfl; (repeat (first | exact B2_a.out | refine blk_far ?_ (by simp) _))
        have H9 := HH.out
        simp only [Option.some.injEq, Prod.mk.injEq] at H9
        obtain ⟨rfl, rfl, rfl, rfl⟩ := H9
        exact ⟨by first | rfl | (simp; done), by repeat (first | exact HBW'.out | apply below_alloc | apply pw_below_drewN | refine below_set ?_ (by first | (simp; done) | (simp; omega)))⟩
set_option maxHeartbeats 8000000 in
set_option maxRecDepth 100000 in
theorem impl_takeBc.case4 (a0 : ByteArray) (r1 : Int) (r2 : Int) (r3 : ByteArray) (r4 : Int) (w : World) (c0 : 0 < (a0.size : Int)) (cl : (a0.size : Int) ≤ 9223372036854775807) (p0 : 0 < a0.size) (hop : wrap64 (a0[0].toNat : Int) = 4) (h : takeBcIn a0 (wrap64 (a0[0].toNat : Int)) = some (r1, r2, r3, r4)) :
    Calls Try.prog 77 #[.string a0] w fun e w' => e = .returned (.tuple #[.agg #[.int .i64 r1, .int .i64 r2, .string r3], .int .i64 r4]) ∧ Below w.heap.size w w' := by
  have hu90 := Try.underlying90
  have c0b : decide (0 < (a0.size : Int)) = true := decide_eq_true c0
  unfold takeBcIn at h
  have e1 : (wrap64 (a0[0].toNat : Int) == 1) = false := by simp [hop]
  have e2 : (wrap64 (a0[0].toNat : Int) == 2) = false := by simp [hop]
  have e3 : (wrap64 (a0[0].toNat : Int) == 3) = false := by simp [hop]
  have e4 : (wrap64 (a0[0].toNat : Int) == 4) = true := by simp [hop]
  have e5 : (wrap64 (a0[0].toNat : Int) == 5) = false := by simp [hop]
  have e6 : (wrap64 (a0[0].toNat : Int) == 6) = false := by simp [hop]
  have e7 : (wrap64 (a0[0].toNat : Int) == 7) = false := by simp [hop]
  have hts : takeSize (wrap64 (a0[0].toNat : Int)) = 2 := by unfold takeSize; rw [hop]; rfl
  rw [hts] at h
  by_cases c1 : (a0.size : Int) < 2
  · rw [if_pos c1] at h
    have c1b : decide ((a0.size : Int) < 2) = true := decide_eq_true c1
    cases h
    clear hop c1 hts
    go_enter Try.func77, Try.ntmps77
    go_wp2
    refine bodyPost_ret (results_ct rfl _ _ w.heap.size 90 #[.int .i64 0, .int .i64 0, .string ⟨#[]⟩] (0, 0) _ rfl ?hg Try.underlying90 rfl (by kernel_rfl)) rfl ?_
    case hg => first | exact blk_alloc (blk_new _ _) _ | (refine blk_put (cs := #[.int .i64 0, .int .i64 0, .string ⟨#[]⟩]) ?_ 2 _ rfl; refine blk_put (cs := #[.int .i64 0, .int .i64 0, .string ⟨#[]⟩]) ?_ 1 _ rfl; refine blk_put (cs := #[.int .i64 0, .int .i64 0, .string ⟨#[]⟩]) ?_ 0 _ rfl; exact blk_alloc (blk_new _ _) _)
    exact ⟨rfl, by repeat (first | exact Below.refl _ _ | apply below_alloc | apply pw_below_drewN | refine below_set ?_ (by first | (simp; done) | (simp; omega)))⟩
  · rw [if_neg c1, if_neg (by omega), if_pos (by omega)] at h
    have c1b : decide ((a0.size : Int) < 2) = false := decide_eq_false c1
    have hsz : (a0.extract 1 2).size = 1 := by rw [ByteArray.size_extract]; omega
    have ks := fun W => run_slice_string (P := Try.prog) W 9 a0 .i64 .i64 1 2 Try.underlying9 (by omega) (by omega) (by omega)
    have kb : ∀ W, (convert 9 22 (.string (a0.extract 1 2))).run Try.prog W = .ok (.slice (some ⟨W.heap.size, 0, none⟩) 1 (grownCap W 1 0 5)) (Lib.bytesWorld W 5 (a0.extract 1 2)) := fun W => by
      rw [print_bytes (P := Try.prog) 9 22 5 Try.underlying9 Try.underlying22 Try.underlying5 (a0.extract 1 2) W, hsz]
    have HSZ := Aside0.mk hsz
    obtain ⟨F, hF⟩ : ∃ F, F = foldB a0 1 1 0 := ⟨_, rfl⟩
    have HF := Aside0.mk hF
    rw [← hF] at h
    clear hsz hop c1 hts hF
    by_cases q0 : 0 ≤ F
    · rw [if_pos q0] at h
      by_cases q1 : F ≥ 19
      · rw [if_pos q1] at h
        have HS0 : Aside0 (impl_SignsOf.f = some signsL) := ⟨signsL_f⟩
        have hsl : (signsL.length : Int) = 19 := by rw [signsL_len]; rfl
        generalize signsL = S at *
        have q1b : decide ((S.length : Int) ≤ F) = true := decide_eq_true (by omega)
        have HQ0 := Aside0.mk q0
        have HQ1 : Aside0 (19 ≤ F) := ⟨by omega⟩
        clear q0 q1 hsl
        have HH := Aside0.mk h
        clear h
        go_enter Try.func77, Try.ntmps77
        go_wp2
        obtain ⟨W1, hW1, hs1, hb2, hb4, hrd, hbw⟩ := two_boxes w (.cells #[.int .i64 0, .int .i64 0, .string ⟨#[]⟩] 90) (.cells #[.int .i64 (wrap64 (a0[0].toNat : Int)), .int .i64 0, .string ⟨#[]⟩] 90) (a0.extract 1 2) (by rw [HSZ.out]; omega)
        rw [HSZ.out] at hrd
        rw [← hW1]
        clear hW1
        have HB2 := Aside0.mk hb2
        have HB4 := Aside0.mk hb4
        have HRD1 := Aside0.mk hrd
        have HBW := Aside0.mk hbw
        have HS1 := Aside0.mk hs1
        clear hb2 hb4 hrd hbw hs1
        go_loopg [6, 34] 2 (fun kq v6 v34 w' => ∃ (n i : Int), v6 = .int .i64 n ∧ v34 = .int .i64 i ∧ Aside0 (0 ≤ i) ∧ Aside0 (i ≤ 1) ∧ Aside0 (foldB a0 (1 - i.toNat) (i + 1) n = F) ∧ Aside0 (kq + i.toNat = 2) ∧ Aside0 (Below W1.heap.size W1 w'))
        case atStart => exact ⟨0, 0, rfl, rfl, ⟨by omega⟩, ⟨by omega⟩, ⟨HF.out.symm⟩, ⟨by simp⟩, ⟨Below.refl _ _⟩⟩
        case round =>
          obtain ⟨n, i, rfl, rfl, H0, H1, HA, HK, HBB⟩ := hrel
          have b2 := blk_kpt HB2.out HBB.out
          have b4 := blk_kpt HB4.out HBB.out
          have HBW' := Aside0.mk (below_then HBW.out (by have := HS1.out; omega) HBB.out)
          by_cases c2 : i < 1
          · have hd : decide (i < (1 : Int)) = true := decide_eq_true c2
            have p101 : 0 ≤ i := H0.out
            obtain ⟨ad, e0, hx⟩ := (HRD1.out.below HBB.out).at_ i p101 c2
            cases e0
            rw [add_plain, rd_bytesOf, bt_extract a0 1 2 i p101 (by have := HSZ.out; omega), show (((1 : Nat) : Int) + i) = i + 1 by omega] at hx
            have HA2 := HA.out
            have e5 : 1 - i.toNat = (1 - (i + 1).toNat) + 1 := by omega
            rw [e5, foldB] at HA2
            have HA3 := Aside0.mk HA2
            have hw : wrap64 (i + 1) = i + 1 := takeBc_wrap (by omega) (by omega)
            have HW := Aside0.mk hw
            have HC := Aside0.mk c2
            clear b2 b4 HA2 e5 hw
            replace p101 := eq_true p101
            replace c2 := eq_true c2
            go_wp2
            rw [HW.out]
            go_roundg (1 - i.toNat)
            case measure => have := HK.out; have := H0.out; have := HC.out; omega
            case rel => exact ⟨_, i + 1, rfl, rfl, ⟨by have := H0.out; omega⟩, ⟨by have := HC.out; omega⟩, HA3, ⟨by have := HC.out; have := H0.out; omega⟩, HBB⟩
          · have hd : decide (i < (1 : Int)) = false := decide_eq_false c2
            have HA2 := HA.out
            have hi5 : i = 1 := by have := H1.out; have := H0.out; omega
            subst hi5
            have hn : n = F := HA2
            subst hn
            have B2_a := Aside0.mk b2
            have B4_a := Aside0.mk b4
            have hc0 : wr.cell? ⟨w.heap.size + 1, 0, none⟩ = some (.int .i64 (wrap64 (a0[0].toNat : Int))) := (blk_cell b4 0).trans rfl
            have hc1 : wr.cell? ⟨w.heap.size + 1, 1, none⟩ = some (.int .i64 0) := (blk_cell b4 1).trans rfl
            have hc2 : wr.cell? ⟨w.heap.size + 1, 2, none⟩ = some (.string ⟨#[]⟩) := (blk_cell b4 2).trans rfl
            have hf0 := blk_frozen b4 0
            have hf1 := blk_frozen b4 1
            have hf2 := blk_frozen b4 2
            have gc0 : wr.cell? ⟨w.heap.size, 0, none⟩ = some (.int .i64 0) := (blk_cell b2 0).trans rfl
            have gc1 : wr.cell? ⟨w.heap.size, 1, none⟩ = some (.int .i64 0) := (blk_cell b2 1).trans rfl
            have gc2 : wr.cell? ⟨w.heap.size, 2, none⟩ = some (.string ⟨#[]⟩) := (blk_cell b2 2).trans rfl
            have gf0 := blk_frozen b2 0
            have gf1 := blk_frozen b2 1
            have gf2 := blk_frozen b2 2
            clear b2 b4
            go_wp2_with (fail)
            ((with_reducible refine (impl_SignsOf.calls S _ HS0.out).mono ?_); rintro e w1 ⟨v1, rfl, ho1, hb1⟩; obtain ⟨A1, c1_, e1_⟩ := Kd.R_slice ho1; subst e1_; have B2_b := Aside0.mk (blk_kpt B2_a.out hb1); have B4_b := Aside0.mk (blk_kpt B4_a.out hb1); have HBX := Aside0.mk (below_then HBW'.out HBW'.out.size hb1); have hc0b : w1.cell? ⟨w.heap.size + 1, 0, none⟩ = some (.int .i64 (wrap64 (a0[0].toNat : Int))) := (blk_cell B4_b.out 0).trans rfl; have hc1b : w1.cell? ⟨w.heap.size + 1, 1, none⟩ = some (.int .i64 0) := (blk_cell B4_b.out 1).trans rfl; have hc2b : w1.cell? ⟨w.heap.size + 1, 2, none⟩ = some (.string ⟨#[]⟩) := (blk_cell B4_b.out 2).trans rfl; have hf0b := blk_frozen B4_b.out 0; have hf1b := blk_frozen B4_b.out 1; have hf2b := blk_frozen B4_b.out 2; have gc0b : w1.cell? ⟨w.heap.size, 0, none⟩ = some (.int .i64 0) := (blk_cell B2_b.out 0).trans rfl; have gc1b : w1.cell? ⟨w.heap.size, 1, none⟩ = some (.int .i64 0) := (blk_cell B2_b.out 1).trans rfl; have gc2b : w1.cell? ⟨w.heap.size, 2, none⟩ = some (.string ⟨#[]⟩) := (blk_cell B2_b.out 2).trans rfl; have gf0b := blk_frozen B2_b.out 0; have gf1b := blk_frozen B2_b.out 1; have gf2b := blk_frozen B2_b.out 2; clear hb1 ho1)
            go_wp2
            refine bodyPost_ret (results_ct rfl _ _ w.heap.size 90 #[.int .i64 (0), .int .i64 (0), .string (⟨#[]⟩)] (0, 0) _ rfl ?hg Try.underlying90 rfl (by kernel_rfl)) rfl ?_
            case hg => refine blk_put (cs := #[.int .i64 (0), .int .i64 (0), .string ⟨#[]⟩]) ?_ 2 _ rfl; refine blk_put (cs := #[.int .i64 (0), .int .i64 0, .string ⟨#[]⟩]) ?_ 1 _ rfl; refine blk_put (cs := #[.int .i64 0, .int .i64 0, .string ⟨#[]⟩]) ?_ 0 _ rfl; (repeat (first | exact B2_b.out | refine blk_far ?_ (by simp) _))
            have H9 := HH.out
            simp only [Option.some.injEq, Prod.mk.injEq] at H9
            obtain ⟨rfl, rfl, rfl, rfl⟩ := H9
            exact ⟨by first | rfl | (simp; done), by repeat (first | exact HBX.out | apply below_alloc | apply pw_below_drewN | refine below_set ?_ (by first | (simp; done) | (simp; omega)))⟩
      · rw [if_neg q1] at h
        have HS0 : Aside0 (impl_SignsOf.f = some signsL) := ⟨signsL_f⟩
        have hsl : (signsL.length : Int) = 19 := by rw [signsL_len]; rfl
        generalize signsL = S at *
        have q1b : decide ((S.length : Int) ≤ F) = false := decide_eq_false (by omega)
        have HQ0 := Aside0.mk q0
        have HQ1 : Aside0 (F < (S.length : Int)) := ⟨by omega⟩
        clear q0 q1 hsl
        have HH := Aside0.mk h
        clear h
        go_enter Try.func77, Try.ntmps77
        go_wp2
        obtain ⟨W1, hW1, hs1, hb2, hb4, hrd, hbw⟩ := two_boxes w (.cells #[.int .i64 0, .int .i64 0, .string ⟨#[]⟩] 90) (.cells #[.int .i64 (wrap64 (a0[0].toNat : Int)), .int .i64 0, .string ⟨#[]⟩] 90) (a0.extract 1 2) (by rw [HSZ.out]; omega)
        rw [HSZ.out] at hrd
        rw [← hW1]
        clear hW1
        have HB2 := Aside0.mk hb2
        have HB4 := Aside0.mk hb4
        have HRD1 := Aside0.mk hrd
        have HBW := Aside0.mk hbw
        have HS1 := Aside0.mk hs1
        clear hb2 hb4 hrd hbw hs1
        go_loopg [6, 34] 2 (fun kq v6 v34 w' => ∃ (n i : Int), v6 = .int .i64 n ∧ v34 = .int .i64 i ∧ Aside0 (0 ≤ i) ∧ Aside0 (i ≤ 1) ∧ Aside0 (foldB a0 (1 - i.toNat) (i + 1) n = F) ∧ Aside0 (kq + i.toNat = 2) ∧ Aside0 (Below W1.heap.size W1 w'))
        case atStart => exact ⟨0, 0, rfl, rfl, ⟨by omega⟩, ⟨by omega⟩, ⟨HF.out.symm⟩, ⟨by simp⟩, ⟨Below.refl _ _⟩⟩
        case round =>
          obtain ⟨n, i, rfl, rfl, H0, H1, HA, HK, HBB⟩ := hrel
          have b2 := blk_kpt HB2.out HBB.out
          have b4 := blk_kpt HB4.out HBB.out
          have HBW' := Aside0.mk (below_then HBW.out (by have := HS1.out; omega) HBB.out)
          by_cases c2 : i < 1
          · have hd : decide (i < (1 : Int)) = true := decide_eq_true c2
            have p101 : 0 ≤ i := H0.out
            obtain ⟨ad, e0, hx⟩ := (HRD1.out.below HBB.out).at_ i p101 c2
            cases e0
            rw [add_plain, rd_bytesOf, bt_extract a0 1 2 i p101 (by have := HSZ.out; omega), show (((1 : Nat) : Int) + i) = i + 1 by omega] at hx
            have HA2 := HA.out
            have e5 : 1 - i.toNat = (1 - (i + 1).toNat) + 1 := by omega
            rw [e5, foldB] at HA2
            have HA3 := Aside0.mk HA2
            have hw : wrap64 (i + 1) = i + 1 := takeBc_wrap (by omega) (by omega)
            have HW := Aside0.mk hw
            have HC := Aside0.mk c2
            clear b2 b4 HA2 e5 hw
            replace p101 := eq_true p101
            replace c2 := eq_true c2
            go_wp2
            rw [HW.out]
            go_roundg (1 - i.toNat)
            case measure => have := HK.out; have := H0.out; have := HC.out; omega
            case rel => exact ⟨_, i + 1, rfl, rfl, ⟨by have := H0.out; omega⟩, ⟨by have := HC.out; omega⟩, HA3, ⟨by have := HC.out; have := H0.out; omega⟩, HBB⟩
          · have hd : decide (i < (1 : Int)) = false := decide_eq_false c2
            have HA2 := HA.out
            have hi5 : i = 1 := by have := H1.out; have := H0.out; omega
            subst hi5
            have hn : n = F := HA2
            subst hn
            have B2_a := Aside0.mk b2
            have B4_a := Aside0.mk b4
            have hc0 : wr.cell? ⟨w.heap.size + 1, 0, none⟩ = some (.int .i64 (wrap64 (a0[0].toNat : Int))) := (blk_cell b4 0).trans rfl
            have hc1 : wr.cell? ⟨w.heap.size + 1, 1, none⟩ = some (.int .i64 0) := (blk_cell b4 1).trans rfl
            have hc2 : wr.cell? ⟨w.heap.size + 1, 2, none⟩ = some (.string ⟨#[]⟩) := (blk_cell b4 2).trans rfl
            have hf0 := blk_frozen b4 0
            have hf1 := blk_frozen b4 1
            have hf2 := blk_frozen b4 2
            have gc0 : wr.cell? ⟨w.heap.size, 0, none⟩ = some (.int .i64 0) := (blk_cell b2 0).trans rfl
            have gc1 : wr.cell? ⟨w.heap.size, 1, none⟩ = some (.int .i64 0) := (blk_cell b2 1).trans rfl
            have gc2 : wr.cell? ⟨w.heap.size, 2, none⟩ = some (.string ⟨#[]⟩) := (blk_cell b2 2).trans rfl
            have gf0 := blk_frozen b2 0
            have gf1 := blk_frozen b2 1
            have gf2 := blk_frozen b2 2
            clear b2 b4
            go_wp2_with (fail)
            ((with_reducible refine (impl_SignsOf.calls S _ HS0.out).mono ?_); rintro e w1 ⟨v1, rfl, ho1, hb1⟩; obtain ⟨A1, c1_, e1_⟩ := Kd.R_slice ho1; subst e1_; have B2_b := Aside0.mk (blk_kpt B2_a.out hb1); have B4_b := Aside0.mk (blk_kpt B4_a.out hb1); have HBX := Aside0.mk (below_then HBW'.out HBW'.out.size hb1); have hc0b : w1.cell? ⟨w.heap.size + 1, 0, none⟩ = some (.int .i64 (wrap64 (a0[0].toNat : Int))) := (blk_cell B4_b.out 0).trans rfl; have hc1b : w1.cell? ⟨w.heap.size + 1, 1, none⟩ = some (.int .i64 0) := (blk_cell B4_b.out 1).trans rfl; have hc2b : w1.cell? ⟨w.heap.size + 1, 2, none⟩ = some (.string ⟨#[]⟩) := (blk_cell B4_b.out 2).trans rfl; have hf0b := blk_frozen B4_b.out 0; have hf1b := blk_frozen B4_b.out 1; have hf2b := blk_frozen B4_b.out 2; have gc0b : w1.cell? ⟨w.heap.size, 0, none⟩ = some (.int .i64 0) := (blk_cell B2_b.out 0).trans rfl; have gc1b : w1.cell? ⟨w.heap.size, 1, none⟩ = some (.int .i64 0) := (blk_cell B2_b.out 1).trans rfl; have gc2b : w1.cell? ⟨w.heap.size, 2, none⟩ = some (.string ⟨#[]⟩) := (blk_cell B2_b.out 2).trans rfl; have gf0b := blk_frozen B2_b.out 0; have gf1b := blk_frozen B2_b.out 1; have gf2b := blk_frozen B2_b.out 2; clear hb1 ho1)
            go_wp2_with (fail)
            ((with_reducible refine (impl_SignsOf.calls S _ HS0.out).mono ?_); rintro e w2 ⟨v2, rfl, ho2, hb2⟩; obtain ⟨A2, c2_, e2_⟩ := Kd.R_slice ho2; subst e2_; have B2_c := Aside0.mk (blk_kpt B2_b.out hb2); have B4_c := Aside0.mk (blk_kpt B4_b.out hb2); have HBY := Aside0.mk (below_then HBX.out HBX.out.size hb2); have p155 : 0 ≤ n := HQ0.out; have q155 : n < (S.length : Int) := HQ1.out; obtain ⟨ad155, e155, hx155⟩ := Kd.at_string (Kd.R_reads' ho2).2.2 n p155 q155; cases e155; replace p155 := eq_true p155; replace q155 := eq_true q155; have hc0c : w2.cell? ⟨w.heap.size + 1, 0, none⟩ = some (.int .i64 (wrap64 (a0[0].toNat : Int))) := (blk_cell B4_c.out 0).trans rfl; have hc1c : w2.cell? ⟨w.heap.size + 1, 1, none⟩ = some (.int .i64 0) := (blk_cell B4_c.out 1).trans rfl; have hc2c : w2.cell? ⟨w.heap.size + 1, 2, none⟩ = some (.string ⟨#[]⟩) := (blk_cell B4_c.out 2).trans rfl; have hf0c := blk_frozen B4_c.out 0; have hf1c := blk_frozen B4_c.out 1; have hf2c := blk_frozen B4_c.out 2; have gc0c : w2.cell? ⟨w.heap.size, 0, none⟩ = some (.int .i64 0) := (blk_cell B2_c.out 0).trans rfl; have gc1c : w2.cell? ⟨w.heap.size, 1, none⟩ = some (.int .i64 0) := (blk_cell B2_c.out 1).trans rfl; have gc2c : w2.cell? ⟨w.heap.size, 2, none⟩ = some (.string ⟨#[]⟩) := (blk_cell B2_c.out 2).trans rfl; have gf0c := blk_frozen B2_c.out 0; have gf1c := blk_frozen B2_c.out 1; have gf2c := blk_frozen B2_c.out 2; clear hb2 ho2)
            go_wp2
            refine bodyPost_ret (results_ct rfl _ _ w.heap.size 90 #[.int .i64 (wrap64 (a0[0].toNat : Int)), .int .i64 (0), .string (rdOf ByteArray.empty S n)] (0, 0) _ rfl ?hg Try.underlying90 rfl (by kernel_rfl)) rfl ?_
            case hg => refine blk_put (cs := #[.int .i64 (wrap64 (a0[0].toNat : Int)), .int .i64 (0), .string ⟨#[]⟩]) ?_ 2 _ rfl; refine blk_put (cs := #[.int .i64 (wrap64 (a0[0].toNat : Int)), .int .i64 0, .string ⟨#[]⟩]) ?_ 1 _ rfl; refine blk_put (cs := #[.int .i64 0, .int .i64 0, .string ⟨#[]⟩]) ?_ 0 _ rfl; (repeat (first | exact B2_c.out | refine blk_far ?_ (by simp) _))
            have H9 := HH.out
            simp only [Option.some.injEq, Prod.mk.injEq] at H9
            obtain ⟨rfl, rfl, rfl, rfl⟩ := H9
            exact ⟨by first | rfl | (simp; done), by repeat (first | exact HBY.out | apply below_alloc | apply pw_below_drewN | refine below_set ?_ (by first | (simp; done) | (simp; omega)))⟩
    · rw [if_neg q0] at h; simp at h
set_option maxHeartbeats 8000000 in
set_option maxRecDepth 100000 in
theorem impl_takeBc.case5 (a0 : ByteArray) (r1 : Int) (r2 : Int) (r3 : ByteArray) (r4 : Int) (w : World) (c0 : 0 < (a0.size : Int)) (cl : (a0.size : Int) ≤ 9223372036854775807) (p0 : 0 < a0.size) (hop : wrap64 (a0[0].toNat : Int) = 5) (h : takeBcIn a0 (wrap64 (a0[0].toNat : Int)) = some (r1, r2, r3, r4)) :
    Calls Try.prog 77 #[.string a0] w fun e w' => e = .returned (.tuple #[.agg #[.int .i64 r1, .int .i64 r2, .string r3], .int .i64 r4]) ∧ Below w.heap.size w w' := by
  have hu90 := Try.underlying90
  have c0b : decide (0 < (a0.size : Int)) = true := decide_eq_true c0
  unfold takeBcIn at h
  have e1 : (wrap64 (a0[0].toNat : Int) == 1) = false := by simp [hop]
  have e2 : (wrap64 (a0[0].toNat : Int) == 2) = false := by simp [hop]
  have e3 : (wrap64 (a0[0].toNat : Int) == 3) = false := by simp [hop]
  have e4 : (wrap64 (a0[0].toNat : Int) == 4) = false := by simp [hop]
  have e5 : (wrap64 (a0[0].toNat : Int) == 5) = true := by simp [hop]
  have e6 : (wrap64 (a0[0].toNat : Int) == 6) = false := by simp [hop]
  have e7 : (wrap64 (a0[0].toNat : Int) == 7) = false := by simp [hop]
  have hts : takeSize (wrap64 (a0[0].toNat : Int)) = 2 := by unfold takeSize; rw [hop]; rfl
  rw [hts] at h
  by_cases c1 : (a0.size : Int) < 2
  · rw [if_pos c1] at h
    have c1b : decide ((a0.size : Int) < 2) = true := decide_eq_true c1
    cases h
    clear hop c1 hts
    go_enter Try.func77, Try.ntmps77
    go_wp2
    refine bodyPost_ret (results_ct rfl _ _ w.heap.size 90 #[.int .i64 0, .int .i64 0, .string ⟨#[]⟩] (0, 0) _ rfl ?hg Try.underlying90 rfl (by kernel_rfl)) rfl ?_
    case hg => first | exact blk_alloc (blk_new _ _) _ | (refine blk_put (cs := #[.int .i64 0, .int .i64 0, .string ⟨#[]⟩]) ?_ 2 _ rfl; refine blk_put (cs := #[.int .i64 0, .int .i64 0, .string ⟨#[]⟩]) ?_ 1 _ rfl; refine blk_put (cs := #[.int .i64 0, .int .i64 0, .string ⟨#[]⟩]) ?_ 0 _ rfl; exact blk_alloc (blk_new _ _) _)
    exact ⟨rfl, by repeat (first | exact Below.refl _ _ | apply below_alloc | apply pw_below_drewN | refine below_set ?_ (by first | (simp; done) | (simp; omega)))⟩
  · rw [if_neg c1, if_neg (by omega), if_pos (by omega)] at h
    have c1b : decide ((a0.size : Int) < 2) = false := decide_eq_false c1
    have hsz : (a0.extract 1 2).size = 1 := by rw [ByteArray.size_extract]; omega
    have ks := fun W => run_slice_string (P := Try.prog) W 9 a0 .i64 .i64 1 2 Try.underlying9 (by omega) (by omega) (by omega)
    have kb : ∀ W, (convert 9 22 (.string (a0.extract 1 2))).run Try.prog W = .ok (.slice (some ⟨W.heap.size, 0, none⟩) 1 (grownCap W 1 0 5)) (Lib.bytesWorld W 5 (a0.extract 1 2)) := fun W => by
      rw [print_bytes (P := Try.prog) 9 22 5 Try.underlying9 Try.underlying22 Try.underlying5 (a0.extract 1 2) W, hsz]
    have HSZ := Aside0.mk hsz
    obtain ⟨F, hF⟩ : ∃ F, F = foldB a0 1 1 0 := ⟨_, rfl⟩
    have HF := Aside0.mk hF
    rw [← hF] at h
    clear hsz hop c1 hts hF
    by_cases q0 : 0 ≤ F
    · rw [if_pos q0] at h
      by_cases q1 : F ≥ 19
      · rw [if_pos q1] at h
        have HS0 : Aside0 (impl_SignsOf.f = some signsL) := ⟨signsL_f⟩
        have hsl : (signsL.length : Int) = 19 := by rw [signsL_len]; rfl
        generalize signsL = S at *
        have q1b : decide ((S.length : Int) ≤ F) = true := decide_eq_true (by omega)
        have HQ0 := Aside0.mk q0
        have HQ1 : Aside0 (19 ≤ F) := ⟨by omega⟩
        clear q0 q1 hsl
        have HH := Aside0.mk h
        clear h
        go_enter Try.func77, Try.ntmps77
        go_wp2
        obtain ⟨W1, hW1, hs1, hb2, hb4, hrd, hbw⟩ := two_boxes w (.cells #[.int .i64 0, .int .i64 0, .string ⟨#[]⟩] 90) (.cells #[.int .i64 (wrap64 (a0[0].toNat : Int)), .int .i64 0, .string ⟨#[]⟩] 90) (a0.extract 1 2) (by rw [HSZ.out]; omega)
        rw [HSZ.out] at hrd
        rw [← hW1]
        clear hW1
        have HB2 := Aside0.mk hb2
        have HB4 := Aside0.mk hb4
        have HRD1 := Aside0.mk hrd
        have HBW := Aside0.mk hbw
        have HS1 := Aside0.mk hs1
        clear hb2 hb4 hrd hbw hs1
        go_loopg [6, 34] 2 (fun kq v6 v34 w' => ∃ (n i : Int), v6 = .int .i64 n ∧ v34 = .int .i64 i ∧ Aside0 (0 ≤ i) ∧ Aside0 (i ≤ 1) ∧ Aside0 (foldB a0 (1 - i.toNat) (i + 1) n = F) ∧ Aside0 (kq + i.toNat = 2) ∧ Aside0 (Below W1.heap.size W1 w'))
        case atStart => exact ⟨0, 0, rfl, rfl, ⟨by omega⟩, ⟨by omega⟩, ⟨HF.out.symm⟩, ⟨by simp⟩, ⟨Below.refl _ _⟩⟩
        case round =>
          obtain ⟨n, i, rfl, rfl, H0, H1, HA, HK, HBB⟩ := hrel
          have b2 := blk_kpt HB2.out HBB.out
          have b4 := blk_kpt HB4.out HBB.out
          have HBW' := Aside0.mk (below_then HBW.out (by have := HS1.out; omega) HBB.out)
          by_cases c2 : i < 1
          · have hd : decide (i < (1 : Int)) = true := decide_eq_true c2
            have p101 : 0 ≤ i := H0.out
            obtain ⟨ad, e0, hx⟩ := (HRD1.out.below HBB.out).at_ i p101 c2
            cases e0
            rw [add_plain, rd_bytesOf, bt_extract a0 1 2 i p101 (by have := HSZ.out; omega), show (((1 : Nat) : Int) + i) = i + 1 by omega] at hx
            have HA2 := HA.out
            have e5 : 1 - i.toNat = (1 - (i + 1).toNat) + 1 := by omega
            rw [e5, foldB] at HA2
            have HA3 := Aside0.mk HA2
            have hw : wrap64 (i + 1) = i + 1 := takeBc_wrap (by omega) (by omega)
            have HW := Aside0.mk hw
            have HC := Aside0.mk c2
            clear b2 b4 HA2 e5 hw
            replace p101 := eq_true p101
            replace c2 := eq_true c2
            go_wp2
            rw [HW.out]
            go_roundg (1 - i.toNat)
            case measure => have := HK.out; have := H0.out; have := HC.out; omega
            case rel => exact ⟨_, i + 1, rfl, rfl, ⟨by have := H0.out; omega⟩, ⟨by have := HC.out; omega⟩, HA3, ⟨by have := HC.out; have := H0.out; omega⟩, HBB⟩
          · have hd : decide (i < (1 : Int)) = false := decide_eq_false c2
            have HA2 := HA.out
            have hi5 : i = 1 := by have := H1.out; have := H0.out; omega
            subst hi5
            have hn : n = F := HA2
            subst hn
            have B2_a := Aside0.mk b2
            have B4_a := Aside0.mk b4
            have hc0 : wr.cell? ⟨w.heap.size + 1, 0, none⟩ = some (.int .i64 (wrap64 (a0[0].toNat : Int))) := (blk_cell b4 0).trans rfl
            have hc1 : wr.cell? ⟨w.heap.size + 1, 1, none⟩ = some (.int .i64 0) := (blk_cell b4 1).trans rfl
            have hc2 : wr.cell? ⟨w.heap.size + 1, 2, none⟩ = some (.string ⟨#[]⟩) := (blk_cell b4 2).trans rfl
            have hf0 := blk_frozen b4 0
            have hf1 := blk_frozen b4 1
            have hf2 := blk_frozen b4 2
            have gc0 : wr.cell? ⟨w.heap.size, 0, none⟩ = some (.int .i64 0) := (blk_cell b2 0).trans rfl
            have gc1 : wr.cell? ⟨w.heap.size, 1, none⟩ = some (.int .i64 0) := (blk_cell b2 1).trans rfl
            have gc2 : wr.cell? ⟨w.heap.size, 2, none⟩ = some (.string ⟨#[]⟩) := (blk_cell b2 2).trans rfl
            have gf0 := blk_frozen b2 0
            have gf1 := blk_frozen b2 1
            have gf2 := blk_frozen b2 2
            clear b2 b4
            go_wp2_with (fail)
            ((with_reducible refine (impl_SignsOf.calls S _ HS0.out).mono ?_); rintro e w1 ⟨v1, rfl, ho1, hb1⟩; obtain ⟨A1, c1_, e1_⟩ := Kd.R_slice ho1; subst e1_; have B2_b := Aside0.mk (blk_kpt B2_a.out hb1); have B4_b := Aside0.mk (blk_kpt B4_a.out hb1); have HBX := Aside0.mk (below_then HBW'.out HBW'.out.size hb1); have hc0b : w1.cell? ⟨w.heap.size + 1, 0, none⟩ = some (.int .i64 (wrap64 (a0[0].toNat : Int))) := (blk_cell B4_b.out 0).trans rfl; have hc1b : w1.cell? ⟨w.heap.size + 1, 1, none⟩ = some (.int .i64 0) := (blk_cell B4_b.out 1).trans rfl; have hc2b : w1.cell? ⟨w.heap.size + 1, 2, none⟩ = some (.string ⟨#[]⟩) := (blk_cell B4_b.out 2).trans rfl; have hf0b := blk_frozen B4_b.out 0; have hf1b := blk_frozen B4_b.out 1; have hf2b := blk_frozen B4_b.out 2; have gc0b : w1.cell? ⟨w.heap.size, 0, none⟩ = some (.int .i64 0) := (blk_cell B2_b.out 0).trans rfl; have gc1b : w1.cell? ⟨w.heap.size, 1, none⟩ = some (.int .i64 0) := (blk_cell B2_b.out 1).trans rfl; have gc2b : w1.cell? ⟨w.heap.size, 2, none⟩ = some (.string ⟨#[]⟩) := (blk_cell B2_b.out 2).trans rfl; have gf0b := blk_frozen B2_b.out 0; have gf1b := blk_frozen B2_b.out 1; have gf2b := blk_frozen B2_b.out 2; clear hb1 ho1)
            go_wp2
            refine bodyPost_ret (results_ct rfl _ _ w.heap.size 90 #[.int .i64 (0), .int .i64 (0), .string (⟨#[]⟩)] (0, 0) _ rfl ?hg Try.underlying90 rfl (by kernel_rfl)) rfl ?_
            case hg => refine blk_put (cs := #[.int .i64 (0), .int .i64 (0), .string ⟨#[]⟩]) ?_ 2 _ rfl; refine blk_put (cs := #[.int .i64 (0), .int .i64 0, .string ⟨#[]⟩]) ?_ 1 _ rfl; refine blk_put (cs := #[.int .i64 0, .int .i64 0, .string ⟨#[]⟩]) ?_ 0 _ rfl; (repeat (first | exact B2_b.out | refine blk_far ?_ (by simp) _))
            have H9 := HH.out
            simp only [Option.some.injEq, Prod.mk.injEq] at H9
            obtain ⟨rfl, rfl, rfl, rfl⟩ := H9
            exact ⟨by first | rfl | (simp; done), by repeat (first | exact HBX.out | apply below_alloc | apply pw_below_drewN | refine below_set ?_ (by first | (simp; done) | (simp; omega)))⟩
      · rw [if_neg q1] at h
        have HS0 : Aside0 (impl_SignsOf.f = some signsL) := ⟨signsL_f⟩
        have hsl : (signsL.length : Int) = 19 := by rw [signsL_len]; rfl
        generalize signsL = S at *
        have q1b : decide ((S.length : Int) ≤ F) = false := decide_eq_false (by omega)
        have HQ0 := Aside0.mk q0
        have HQ1 : Aside0 (F < (S.length : Int)) := ⟨by omega⟩
        clear q0 q1 hsl
        have HH := Aside0.mk h
        clear h
        go_enter Try.func77, Try.ntmps77
        go_wp2
        obtain ⟨W1, hW1, hs1, hb2, hb4, hrd, hbw⟩ := two_boxes w (.cells #[.int .i64 0, .int .i64 0, .string ⟨#[]⟩] 90) (.cells #[.int .i64 (wrap64 (a0[0].toNat : Int)), .int .i64 0, .string ⟨#[]⟩] 90) (a0.extract 1 2) (by rw [HSZ.out]; omega)
        rw [HSZ.out] at hrd
        rw [← hW1]
        clear hW1
        have HB2 := Aside0.mk hb2
        have HB4 := Aside0.mk hb4
        have HRD1 := Aside0.mk hrd
        have HBW := Aside0.mk hbw
        have HS1 := Aside0.mk hs1
        clear hb2 hb4 hrd hbw hs1
        go_loopg [6, 34] 2 (fun kq v6 v34 w' => ∃ (n i : Int), v6 = .int .i64 n ∧ v34 = .int .i64 i ∧ Aside0 (0 ≤ i) ∧ Aside0 (i ≤ 1) ∧ Aside0 (foldB a0 (1 - i.toNat) (i + 1) n = F) ∧ Aside0 (kq + i.toNat = 2) ∧ Aside0 (Below W1.heap.size W1 w'))
        case atStart => exact ⟨0, 0, rfl, rfl, ⟨by omega⟩, ⟨by omega⟩, ⟨HF.out.symm⟩, ⟨by simp⟩, ⟨Below.refl _ _⟩⟩
        case round =>
          obtain ⟨n, i, rfl, rfl, H0, H1, HA, HK, HBB⟩ := hrel
          have b2 := blk_kpt HB2.out HBB.out
          have b4 := blk_kpt HB4.out HBB.out
          have HBW' := Aside0.mk (below_then HBW.out (by have := HS1.out; omega) HBB.out)
          by_cases c2 : i < 1
          · have hd : decide (i < (1 : Int)) = true := decide_eq_true c2
            have p101 : 0 ≤ i := H0.out
            obtain ⟨ad, e0, hx⟩ := (HRD1.out.below HBB.out).at_ i p101 c2
            cases e0
            rw [add_plain, rd_bytesOf, bt_extract a0 1 2 i p101 (by have := HSZ.out; omega), show (((1 : Nat) : Int) + i) = i + 1 by omega] at hx
            have HA2 := HA.out
            have e5 : 1 - i.toNat = (1 - (i + 1).toNat) + 1 := by omega
            rw [e5, foldB] at HA2
            have HA3 := Aside0.mk HA2
            have hw : wrap64 (i + 1) = i + 1 := takeBc_wrap (by omega) (by omega)
            have HW := Aside0.mk hw
            have HC := Aside0.mk c2
            clear b2 b4 HA2 e5 hw
            replace p101 := eq_true p101
            replace c2 := eq_true c2
            go_wp2
            rw [HW.out]
            go_roundg (1 - i.toNat)
            case measure => have := HK.out; have := H0.out; have := HC.out; omega
            case rel => exact ⟨_, i + 1, rfl, rfl, ⟨by have := H0.out; omega⟩, ⟨by have := HC.out; omega⟩, HA3, ⟨by have := HC.out; have := H0.out; omega⟩, HBB⟩
          · have hd : decide (i < (1 : Int)) = false := decide_eq_false c2
            have HA2 := HA.out
            have hi5 : i = 1 := by have := H1.out; have := H0.out; omega
            subst hi5
            have hn : n = F := HA2
            subst hn
            have B2_a := Aside0.mk b2
            have B4_a := Aside0.mk b4
            have hc0 : wr.cell? ⟨w.heap.size + 1, 0, none⟩ = some (.int .i64 (wrap64 (a0[0].toNat : Int))) := (blk_cell b4 0).trans rfl
            have hc1 : wr.cell? ⟨w.heap.size + 1, 1, none⟩ = some (.int .i64 0) := (blk_cell b4 1).trans rfl
            have hc2 : wr.cell? ⟨w.heap.size + 1, 2, none⟩ = some (.string ⟨#[]⟩) := (blk_cell b4 2).trans rfl
            have hf0 := blk_frozen b4 0
            have hf1 := blk_frozen b4 1
            have hf2 := blk_frozen b4 2
            have gc0 : wr.cell? ⟨w.heap.size, 0, none⟩ = some (.int .i64 0) := (blk_cell b2 0).trans rfl
            have gc1 : wr.cell? ⟨w.heap.size, 1, none⟩ = some (.int .i64 0) := (blk_cell b2 1).trans rfl
            have gc2 : wr.cell? ⟨w.heap.size, 2, none⟩ = some (.string ⟨#[]⟩) := (blk_cell b2 2).trans rfl
            have gf0 := blk_frozen b2 0
            have gf1 := blk_frozen b2 1
            have gf2 := blk_frozen b2 2
            clear b2 b4
            go_wp2_with (fail)
            ((with_reducible refine (impl_SignsOf.calls S _ HS0.out).mono ?_); rintro e w1 ⟨v1, rfl, ho1, hb1⟩; obtain ⟨A1, c1_, e1_⟩ := Kd.R_slice ho1; subst e1_; have B2_b := Aside0.mk (blk_kpt B2_a.out hb1); have B4_b := Aside0.mk (blk_kpt B4_a.out hb1); have HBX := Aside0.mk (below_then HBW'.out HBW'.out.size hb1); have hc0b : w1.cell? ⟨w.heap.size + 1, 0, none⟩ = some (.int .i64 (wrap64 (a0[0].toNat : Int))) := (blk_cell B4_b.out 0).trans rfl; have hc1b : w1.cell? ⟨w.heap.size + 1, 1, none⟩ = some (.int .i64 0) := (blk_cell B4_b.out 1).trans rfl; have hc2b : w1.cell? ⟨w.heap.size + 1, 2, none⟩ = some (.string ⟨#[]⟩) := (blk_cell B4_b.out 2).trans rfl; have hf0b := blk_frozen B4_b.out 0; have hf1b := blk_frozen B4_b.out 1; have hf2b := blk_frozen B4_b.out 2; have gc0b : w1.cell? ⟨w.heap.size, 0, none⟩ = some (.int .i64 0) := (blk_cell B2_b.out 0).trans rfl; have gc1b : w1.cell? ⟨w.heap.size, 1, none⟩ = some (.int .i64 0) := (blk_cell B2_b.out 1).trans rfl; have gc2b : w1.cell? ⟨w.heap.size, 2, none⟩ = some (.string ⟨#[]⟩) := (blk_cell B2_b.out 2).trans rfl; have gf0b := blk_frozen B2_b.out 0; have gf1b := blk_frozen B2_b.out 1; have gf2b := blk_frozen B2_b.out 2; clear hb1 ho1)
            go_wp2_with (fail)
            ((with_reducible refine (impl_SignsOf.calls S _ HS0.out).mono ?_); rintro e w2 ⟨v2, rfl, ho2, hb2⟩; obtain ⟨A2, c2_, e2_⟩ := Kd.R_slice ho2; subst e2_; have B2_c := Aside0.mk (blk_kpt B2_b.out hb2); have B4_c := Aside0.mk (blk_kpt B4_b.out hb2); have HBY := Aside0.mk (below_then HBX.out HBX.out.size hb2); have p155 : 0 ≤ n := HQ0.out; have q155 : n < (S.length : Int) := HQ1.out; obtain ⟨ad155, e155, hx155⟩ := Kd.at_string (Kd.R_reads' ho2).2.2 n p155 q155; cases e155; replace p155 := eq_true p155; replace q155 := eq_true q155; have hc0c : w2.cell? ⟨w.heap.size + 1, 0, none⟩ = some (.int .i64 (wrap64 (a0[0].toNat : Int))) := (blk_cell B4_c.out 0).trans rfl; have hc1c : w2.cell? ⟨w.heap.size + 1, 1, none⟩ = some (.int .i64 0) := (blk_cell B4_c.out 1).trans rfl; have hc2c : w2.cell? ⟨w.heap.size + 1, 2, none⟩ = some (.string ⟨#[]⟩) := (blk_cell B4_c.out 2).trans rfl; have hf0c := blk_frozen B4_c.out 0; have hf1c := blk_frozen B4_c.out 1; have hf2c := blk_frozen B4_c.out 2; have gc0c : w2.cell? ⟨w.heap.size, 0, none⟩ = some (.int .i64 0) := (blk_cell B2_c.out 0).trans rfl; have gc1c : w2.cell? ⟨w.heap.size, 1, none⟩ = some (.int .i64 0) := (blk_cell B2_c.out 1).trans rfl; have gc2c : w2.cell? ⟨w.heap.size, 2, none⟩ = some (.string ⟨#[]⟩) := (blk_cell B2_c.out 2).trans rfl; have gf0c := blk_frozen B2_c.out 0; have gf1c := blk_frozen B2_c.out 1; have gf2c := blk_frozen B2_c.out 2; clear hb2 ho2)
            go_wp2
            refine bodyPost_ret (results_ct rfl _ _ w.heap.size 90 #[.int .i64 (wrap64 (a0[0].toNat : Int)), .int .i64 (0), .string (rdOf ByteArray.empty S n)] (0, 0) _ rfl ?hg Try.underlying90 rfl (by kernel_rfl)) rfl ?_
            case hg => refine blk_put (cs := #[.int .i64 (wrap64 (a0[0].toNat : Int)), .int .i64 (0), .string ⟨#[]⟩]) ?_ 2 _ rfl; refine blk_put (cs := #[.int .i64 (wrap64 (a0[0].toNat : Int)), .int .i64 0, .string ⟨#[]⟩]) ?_ 1 _ rfl; refine blk_put (cs := #[.int .i64 0, .int .i64 0, .string ⟨#[]⟩]) ?_ 0 _ rfl; (repeat (first | exact B2_c.out | refine blk_far ?_ (by simp) _))
            have H9 := HH.out
            simp only [Option.some.injEq, Prod.mk.injEq] at H9
            obtain ⟨rfl, rfl, rfl, rfl⟩ := H9
            exact ⟨by first | rfl | (simp; done), by repeat (first | exact HBY.out | apply below_alloc | apply pw_below_drewN | refine below_set ?_ (by first | (simp; done) | (simp; omega)))⟩
    · rw [if_neg q0] at h; simp at h
set_option maxHeartbeats 8000000 in
set_option maxRecDepth 100000 in
theorem impl_takeBc.case0 (a0 : ByteArray) (r1 : Int) (r2 : Int) (r3 : ByteArray) (r4 : Int) (w : World) (c0 : 0 < (a0.size : Int)) (cl : (a0.size : Int) ≤ 9223372036854775807) (p0 : 0 < a0.size) (hop : ¬ (wrap64 (a0[0].toNat : Int) = 1 ∨ wrap64 (a0[0].toNat : Int) = 2 ∨ wrap64 (a0[0].toNat : Int) = 3 ∨ wrap64 (a0[0].toNat : Int) = 4 ∨ wrap64 (a0[0].toNat : Int) = 5 ∨ wrap64 (a0[0].toNat : Int) = 6 ∨ wrap64 (a0[0].toNat : Int) = 7)) (h : takeBcIn a0 (wrap64 (a0[0].toNat : Int)) = some (r1, r2, r3, r4)) :
    Calls Try.prog 77 #[.string a0] w fun e w' => e = .returned (.tuple #[.agg #[.int .i64 r1, .int .i64 r2, .string r3], .int .i64 r4]) ∧ Below w.heap.size w w' := by
  have hu90 := Try.underlying90
  have c0b : decide (0 < (a0.size : Int)) = true := decide_eq_true c0
  unfold takeBcIn at h
  have e1 : (wrap64 (a0[0].toNat : Int) == 1) = false := by simp; omega
  have e2 : (wrap64 (a0[0].toNat : Int) == 2) = false := by simp; omega
  have e3 : (wrap64 (a0[0].toNat : Int) == 3) = false := by simp; omega
  have e4 : (wrap64 (a0[0].toNat : Int) == 4) = false := by simp; omega
  have e5 : (wrap64 (a0[0].toNat : Int) == 5) = false := by simp; omega
  have e6 : (wrap64 (a0[0].toNat : Int) == 6) = false := by simp; omega
  have e7 : (wrap64 (a0[0].toNat : Int) == 7) = false := by simp; omega
  have hts : takeSize (wrap64 (a0[0].toNat : Int)) = 1 := by unfold takeSize; rw [if_neg (by omega), if_neg (by omega)]
  rw [hts] at h
  by_cases c1 : (a0.size : Int) < 1
  · exfalso; omega
  · rw [if_neg c1, if_neg (by omega), if_neg (by omega), if_neg (by omega)] at h
    have c1b : decide ((a0.size : Int) < 1) = false := decide_eq_false c1
    have hsz : (ByteArray.empty).size = 0 := by rfl
    have ks := fun W => run_slice_string (P := Try.prog) W 9 a0 .i64 .i64 1 1 Try.underlying9 (by omega) (by omega) (by omega)
    have kb : ∀ W, (convert 9 22 (.string (ByteArray.empty))).run Try.prog W = .ok (.slice (some ⟨W.heap.size, 0, none⟩) 0 (grownCap W 0 0 5)) (Lib.bytesWorld W 5 (ByteArray.empty)) := fun W => by
      rw [print_bytes (P := Try.prog) 9 22 5 Try.underlying9 Try.underlying22 Try.underlying5 (ByteArray.empty) W, hsz]
    have HSZ := Aside0.mk hsz
    obtain ⟨F, hF⟩ : ∃ F, F = foldB a0 0 1 0 := ⟨_, rfl⟩
    have HF := Aside0.mk hF
    have HF0 : Aside0 (F = 0) := ⟨hF⟩
    clear hsz hop c1 hts hF
    have HH := Aside0.mk h
    clear h
    go_enter Try.func77, Try.ntmps77
    go_wp2
    obtain ⟨W1, hW1, hs1, hb2, hb4, hrd, hbw⟩ := two_boxes w (.cells #[.int .i64 0, .int .i64 0, .string ⟨#[]⟩] 90) (.cells #[.int .i64 (wrap64 (a0[0].toNat : Int)), .int .i64 0, .string ⟨#[]⟩] 90) (ByteArray.empty) (by rw [HSZ.out]; omega)
    rw [HSZ.out] at hrd
    rw [← hW1]
    clear hW1
    have HB2 := Aside0.mk hb2
    have HB4 := Aside0.mk hb4
    have HRD1 := Aside0.mk hrd
    have HBW := Aside0.mk hbw
    have HS1 := Aside0.mk hs1
    clear hb2 hb4 hrd hbw hs1
    go_loopg [6, 34] 1 (fun kq v6 v34 w' => ∃ (n i : Int), v6 = .int .i64 n ∧ v34 = .int .i64 i ∧ Aside0 (0 ≤ i) ∧ Aside0 (i ≤ 0) ∧ Aside0 (foldB a0 (0 - i.toNat) (i + 1) n = F) ∧ Aside0 (kq + i.toNat = 1) ∧ Aside0 (Below W1.heap.size W1 w'))
    case atStart => exact ⟨0, 0, rfl, rfl, ⟨by omega⟩, ⟨by omega⟩, ⟨HF.out.symm⟩, ⟨by simp⟩, ⟨Below.refl _ _⟩⟩
    case round =>
      obtain ⟨n, i, rfl, rfl, H0, H1, HA, HK, HBB⟩ := hrel
      have b2 := blk_kpt HB2.out HBB.out
      have b4 := blk_kpt HB4.out HBB.out
      have HBW' := Aside0.mk (below_then HBW.out (by have := HS1.out; omega) HBB.out)
      by_cases c2 : i < 0
      · exfalso; have := H0.out; omega
      · have hd : decide (i < (0 : Int)) = false := decide_eq_false c2
        have HA2 := HA.out
        have hi5 : i = 0 := by have := H1.out; have := H0.out; omega
        subst hi5
        have hn : n = F := HA2
        subst hn
        have B2_a := Aside0.mk b2
        have B4_a := Aside0.mk b4
        have hc0 : wr.cell? ⟨w.heap.size + 1, 0, none⟩ = some (.int .i64 (wrap64 (a0[0].toNat : Int))) := (blk_cell b4 0).trans rfl
        have hc1 : wr.cell? ⟨w.heap.size + 1, 1, none⟩ = some (.int .i64 0) := (blk_cell b4 1).trans rfl
        have hc2 : wr.cell? ⟨w.heap.size + 1, 2, none⟩ = some (.string ⟨#[]⟩) := (blk_cell b4 2).trans rfl
        have hf0 := blk_frozen b4 0
        have hf1 := blk_frozen b4 1
        have hf2 := blk_frozen b4 2
        have gc0 : wr.cell? ⟨w.heap.size, 0, none⟩ = some (.int .i64 0) := (blk_cell b2 0).trans rfl
        have gc1 : wr.cell? ⟨w.heap.size, 1, none⟩ = some (.int .i64 0) := (blk_cell b2 1).trans rfl
        have gc2 : wr.cell? ⟨w.heap.size, 2, none⟩ = some (.string ⟨#[]⟩) := (blk_cell b2 2).trans rfl
        have gf0 := blk_frozen b2 0
        have gf1 := blk_frozen b2 1
        have gf2 := blk_frozen b2 2
        clear b2 b4
        go_wp2
        refine bodyPost_ret (results_ct rfl _ _ w.heap.size 90 #[.int .i64 (wrap64 (a0[0].toNat : Int)), .int .i64 (n), .string (⟨#[]⟩)] (0, 0) _ rfl ?hg Try.underlying90 rfl (by kernel_rfl)) rfl ?_
        case hg => refine blk_put (cs := #[.int .i64 (wrap64 (a0[0].toNat : Int)), .int .i64 (n), .string ⟨#[]⟩]) ?_ 2 _ rfl; refine blk_put (cs := #[.int .i64 (wrap64 (a0[0].toNat : Int)), .int .i64 0, .string ⟨#[]⟩]) ?_ 1 _ rfl; refine blk_put (cs := #[.int .i64 0, .int .i64 0, .string ⟨#[]⟩]) ?_ 0 _ rfl; (repeat (first | exact B2_a.out | refine blk_far ?_ (by simp) _))
        have H9 := HH.out
        simp only [Option.some.injEq, Prod.mk.injEq] at H9
        obtain ⟨rfl, rfl, rfl, rfl⟩ := H9
        rw [HF0.out]
        exact ⟨by first | rfl | (simp; done), by repeat (first | exact HBW'.out | apply below_alloc | apply pw_below_drewN | refine below_set ?_ (by first | (simp; done) | (simp; omega)))⟩
theorem impl_takeBc.calls (a0 : ByteArray) (r1 : Int) (r2 : Int) (r3 : ByteArray) (r4 : Int) (w : World) (h : impl_takeBc.f a0 = some (r1, r2, r3, r4)) :
    Calls Try.prog 77 #[.string a0] w fun e w' => e = .returned (.tuple #[.agg #[.int .i64 r1, .int .i64 r2, .string r3], .int .i64 r4]) ∧ Below w.heap.size w w' := by
  unfold impl_takeBc.f at h
  by_cases c0 : 0 < (a0.size : Int)
  · rw [if_pos c0] at h
    by_cases cl : (a0.size : Int) ≤ 9223372036854775807
    · rw [if_pos cl] at h
      have p0 : 0 < a0.size := by omega
      have hbt : bt a0 0 = (a0[0].toNat : Int) := by unfold bt; rw [dif_pos (by simpa using p0)]; rfl
      rw [hbt] at h
      by_cases h1 : wrap64 (a0[0].toNat : Int) = 1
      · exact impl_takeBc.case1 a0 r1 r2 r3 r4 w c0 cl p0 h1 h
      by_cases h2 : wrap64 (a0[0].toNat : Int) = 2
      · exact impl_takeBc.case2 a0 r1 r2 r3 r4 w c0 cl p0 h2 h
      by_cases h3 : wrap64 (a0[0].toNat : Int) = 3
      · exact impl_takeBc.case3 a0 r1 r2 r3 r4 w c0 cl p0 h3 h
      by_cases h6 : wrap64 (a0[0].toNat : Int) = 6
      · exact impl_takeBc.case6 a0 r1 r2 r3 r4 w c0 cl p0 h6 h
      by_cases h7 : wrap64 (a0[0].toNat : Int) = 7
      · exact impl_takeBc.case7 a0 r1 r2 r3 r4 w c0 cl p0 h7 h
      by_cases h4 : wrap64 (a0[0].toNat : Int) = 4
      · exact impl_takeBc.case4 a0 r1 r2 r3 r4 w c0 cl p0 h4 h
      by_cases h5 : wrap64 (a0[0].toNat : Int) = 5
      · exact impl_takeBc.case5 a0 r1 r2 r3 r4 w c0 cl p0 h5 h
      exact impl_takeBc.case0 a0 r1 r2 r3 r4 w c0 cl p0 (by omega) h
    · rw [if_neg cl] at h; simp at h
  · rw [if_neg c0] at h; simp at h

end Go.Proofs.Ytipolnpffmfmmab.PFnCodeBytes
