/- FnExactReadCode: at all bytes ReadCode of the program answers as ReadCode of the reference, and its answer owns its memory; no condition. -/
import Derived.Test.YtcbgiccgiegdbabDFnExactReadCode
namespace Go.Proofs.Ytcbgiccgiegdbab.Pure
open Go.RowKit Go.Proofs.Ytcbgiccgiegdbab.PFnExactReadCode Go.Proofs.YtcbgiccgiegdbabW.PrintWords Go.Proofs.YtcbgiccgiegdbabW.PrintLast Go.Proofs.YtcbgiccgiegdbabO
set_option linter.unusedVariables false
set_option linter.unusedSimpArgs false
theorem wrap_id {n : Int} (h0 : -9223372036854775808 ≤ n) (h1 : n ≤ 9223372036854775807) : wrap64 n = n := by
  unfold wrap64
  omega
theorem take_set_succ {α : Type} (l : List α) (i : Nat) (y : α) (h : i < l.length) : (l.set i y).take (i + 1) = l.take i ++ [y] := by
  rw [List.take_succ_eq_append_getElem (by simpa using h), List.take_set_of_le (Nat.le_refl i)]
  simp
theorem nat_set {α : Type} (l : List α) (i : Int) (y : α) (h0 : 0 ≤ i) (h : i < (l.length : Int)) : (l.set i.toNat y).take (i + 1).toNat = l.take i.toNat ++ [y] := by
  rw [show (i + 1).toNat = i.toNat + 1 by omega]
  exact take_set_succ l i.toNat y (by omega)
theorem drop_getD {α : Type} (l : List α) (d : α) (i : Int) (h0 : 0 ≤ i) (h : i < (l.length : Int)) : l.drop i.toNat = l.getD i.toNat d :: l.drop (i + 1).toNat := by
  rw [show (i + 1).toNat = i.toNat + 1 by omega]
  have h1 : i.toNat < l.length := by omega
  rw [List.drop_eq_getElem_cons h1, List.getD_eq_getElem?_getD, List.getElem?_eq_getElem h1]
  rfl
theorem getD_mem {α : Type} (l : List α) (d : α) (i : Int) (h0 : 0 ≤ i) (h : i < (l.length : Int)) : l.getD i.toNat d ∈ l := by
  have h1 : i.toNat < l.length := by omega
  rw [List.getD_eq_getElem?_getD, List.getElem?_eq_getElem h1]
  exact List.getElem_mem h1
theorem ev_if_pos {α : Type} {c : Prop} [Decidable c] {f g : Nat → Option α} {r : α} (h : c) (e : Ev f r) : Ev (fun k => if c then f k else g k) r := by
  simp only [if_pos h]
  exact e
theorem ev_if_neg {α : Type} {c : Prop} [Decidable c] {f g : Nat → Option α} {r : α} (h : ¬ c) (e : Ev g r) : Ev (fun k => if c then f k else g k) r := by
  simp only [if_neg h]
  exact e
theorem Ev.eq {α : Type} {g : Nat → Option α} {r s : α} (h : Ev g r) (e : r = s) : Ev g s := e ▸ h

def Bdx_Bc (n : Int) (x : S63) : Prop := ((x.f2.size : Int) ≤ n)

theorem Bdx_Bc_mono {n m : Int} (h : n ≤ m) {x : S63} (b : Bdx_Bc n x) : Bdx_Bc m x := by
  unfold Bdx_Bc at *
  exact (Int.le_trans b h)

theorem eqBc_ev (x : S63) (hb : Bdx_Bc 1048576 x) : Ev (fun k => laws_eqBc.f x.f0 x.f1 x.f2 x.f0 x.f1 x.f2) true := by
  unfold laws_eqBc.f
  unfold Bdx_Bc at hb
  refine ev_if_pos (by first | rfl | simp) ?_
  refine ev_if_pos (by first | rfl | simp) ?_
  refine ev_if_pos (by first | rfl | simp) ?_
  exact Ev.now _

theorem eqBcS_l0 (l : (List (S63))) (hl : (l.length : Int) ≤ 1048576) (hb : ∀ y_ ∈ l, Bdx_Bc 1048576 y_) : ∀ (d : Nat) (i : Int), 0 ≤ i → i + d = l.length → Ev (fun k => laws_eqBcS.l0 k l l i) true
  | 0, i, h0, h1 => by
    have c : ¬ i < (l.length : Int) := by omega
    exact Ev.step (f := fun _ => some true) (fun k => by rw [laws_eqBcS.l0, if_neg c]) (Ev.now _)
  | d + 1, i, h0, h1 => by
    have c : i < (l.length : Int) := by omega
    have hm : rd_T63 l i ∈ l := getD_mem l _ i h0 c
    have hw : wrap64 (i + 1) = i + 1 := wrap_id (by omega) (by omega)
    have ih := eqBcS_l0 l hl hb d (i + 1) (by omega) (by omega)
    refine Ev.step (fun k => by rw [laws_eqBcS.l0, if_pos c, if_pos h0, if_pos c]) (Ev.bind (eqBc_ev (rd_T63 l i) (hb _ hm)) (ev_if_pos rfl ?_))
    rw [hw]
    exact ih
theorem eqBcS_ev (l : (List (S63))) (hl : (l.length : Int) ≤ 1048576) (hb : ∀ y_ ∈ l, Bdx_Bc 1048576 y_) : Ev (fun k => laws_eqBcS.f k l l) true := by
  unfold laws_eqBcS.f
  exact ev_if_pos rfl (eqBcS_l0 l hl hb l.length 0 (by omega) (by omega))

theorem markText_l0 : ∀ (d : Nat) (n : Int) (t : ByteArray), 0 ≤ n → n ≤ d → t.size + d ≤ 4611686018427387904 → ∃ r, Ev (fun k => laws_markText.l0 k n t) r
  | 0, n, t, h0, h1, h2 => ⟨_, Ev.step (f := fun _ => some ((⟨#[109]⟩ : ByteArray) ++ t)) (fun k => by rw [laws_markText.l0, if_neg (by omega), if_pos (by omega)]) (Ev.now _)⟩
  | d + 1, n, t, h0, h1, h2 => by
    by_cases c : n > 0
    · have hq : Int.tdiv n 10 = n / 10 := Int.tdiv_eq_ediv_of_nonneg (by omega)
      have hw : wrap64 (Int.tdiv n 10) = n / 10 := by rw [hq]; exact wrap_id (by omega) (by omega)
      have hs : ∀ y : Int, (strOfNums [y]).size = 1 := fun y => rfl
      obtain ⟨r, e⟩ := markText_l0 d (n / 10) (strOfNums [(wrap64 (48 + Int.tmod n 10)) % 256] ++ t) (by omega) (by omega) (by rw [ByteArray.size_append, hs]; omega)
      refine ⟨r, Ev.step (fun k => ?_) e⟩
      rw [laws_markText.l0, if_pos c, hw]
      simp only [Option.bind_some]
      rw [if_pos (by rw [hs]; omega)]
    · exact ⟨_, Ev.step (f := fun _ => some ((⟨#[109]⟩ : ByteArray) ++ t)) (fun k => by rw [laws_markText.l0, if_neg c, if_pos (by omega)]) (Ev.now _)⟩
theorem markText_some (n : Int) (h0 : 0 ≤ n) (h1 : n ≤ 1099511627776) : ∃ r, Ev (fun k => laws_markText.f k n) r := by
  unfold laws_markText.f
  by_cases c : n ≤ 0
  · exact ⟨_, ev_if_pos c (Ev.now _)⟩
  · obtain ⟨r, e⟩ := markText_l0 n.toNat n ⟨#[]⟩ h0 (by omega) (by have : (⟨#[]⟩ : ByteArray).size = 0 := rfl; omega)
    exact ⟨r, ev_if_neg c e⟩
open Classical in
noncomputable def mtext (n : Int) : ByteArray := if h : ∃ r, Ev (fun k => laws_markText.f k n) r then Classical.choose h else ByteArray.empty
theorem mtext_ev (n : Int) (h0 : 0 ≤ n) (h1 : n ≤ 1099511627776) : Ev (fun k => laws_markText.f k n) (mtext n) := by
  have h := markText_some n h0 h1
  unfold mtext
  rw [dif_pos h]
  exact Classical.choose_spec h

noncomputable def mk_Bc (kk : Int) : S63 := ⟨kk, (kk + 1), mtext (kk + 2)⟩
noncomputable def iota_Bc (kk : Int) : Nat → List (S63)
  | 0 => []
  | n + 1 => mk_Bc kk :: iota_Bc (kk + 3) n
theorem iota_Bc_len (kk : Int) (n : Nat) : (iota_Bc kk n).length = n := by
  induction n generalizing kk with
  | zero => rfl
  | succ n ih => simp [iota_Bc, ih]
theorem rdset_Bc (l : (List (S63))) (i : Int) (v : S63) (h0 : 0 ≤ i) (h : i < (l.length : Int)) : rd_T63 (l.set i.toNat v) i = v := by
  unfold rd_T63
  rw [List.getD_eq_getElem?_getD, List.getElem?_set_self (by omega)]
  rfl

theorem markBcS_l0 : ∀ (d : Nat) (l : (List (S63))) (i kk : Int), (l.length : Int) ≤ 1048576 → 0 ≤ i → i + d = l.length → 0 ≤ kk → kk + 3 * d ≤ 1099511627776 →
    Ev (fun k => laws_markBcS.l0 k l kk i) (kk + 3 * d, l.take i.toNat ++ iota_Bc kk d)
  | 0, l, i, kk, hl, h0, h1, k0, k1 => by
    have c : ¬ i < (l.length : Int) := by omega
    refine Ev.eq (Ev.step (f := fun _ => some (kk, l)) (fun k => by rw [laws_markBcS.l0, if_neg c]) (Ev.now _)) ?_
    rw [List.take_of_length_le (by omega)]
    simp [iota_Bc]
  | d + 1, l, i, kk, hl, h0, h1, k0, k1 => by
    have c : i < (l.length : Int) := by omega
    have c1 : ∀ a : S63, i < ((l.set i.toNat a).length : Int) := fun a => by rw [List.length_set]; exact c
    have c2 : ∀ a b : S63, i < (((l.set i.toNat a).set i.toNat b).length : Int) := fun a b => by rw [List.length_set, List.length_set]; exact c
    have hw : wrap64 (i + 1) = i + 1 := wrap_id (by omega) (by omega)
    have w0 : wrap64 (kk + 1) = kk + 1 := by rw [wrap_id (by omega) (by omega)]
    have w1 : wrap64 ((kk + 1) + 1) = kk + 2 := by rw [wrap_id (by omega) (by omega)] <;> omega
    have w2 : wrap64 ((kk + 2) + 1) = kk + 3 := by rw [wrap_id (by omega) (by omega)] <;> omega
    have ih := markBcS_l0 d (l.set i.toNat (mk_Bc kk)) (i + 1) (kk + 3) (by rw [List.length_set]; exact hl) (by omega) (by rw [List.length_set]; omega) (by omega) (by omega)
    rw [nat_set l i _ h0 c, List.append_assoc] at ih
    have e1 : kk + 3 + 3 * (d : Int) = kk + 3 * ((d + 1 : Nat) : Int) := by omega
    rw [e1] at ih
    refine Ev.eq ?_ (show (kk + 3 * ((d + 1 : Nat) : Int), l.take i.toNat ++ ([mk_Bc kk] ++ iota_Bc (kk + 3) d)) = _ from rfl)
    refine Ev.step (fun k => by rw [laws_markBcS.l0, if_pos c, if_pos h0]) ?_
    try simp only [Option.bind_some, rdset_Bc _ _ _ h0 c, rdset_Bc _ _ _ h0 (c1 _), rdset_Bc _ _ _ h0 (c2 _ _), List.set_set, w0, w1, w2]
    refine Ev.bind (mtext_ev (kk + 2) (by omega) (by omega)) ?_
    try simp only [Option.bind_some, rdset_Bc _ _ _ h0 c, rdset_Bc _ _ _ h0 (c1 _), rdset_Bc _ _ _ h0 (c2 _ _), List.set_set, w0, w1, w2]
    rw [hw]
    exact ih
theorem markBcS_ev (l : (List (S63))) (kk : Int) (hl : (l.length : Int) ≤ 1048576) (k0 : 0 ≤ kk) (k1 : kk ≤ 1000000000) : Ev (fun k => laws_markBcS.f k l kk) (kk + 3 * l.length, iota_Bc kk l.length) := by
  have h := markBcS_l0 l.length l 0 kk hl (by omega) (by omega) k0 (by omega)
  exact h

theorem heldBcS_l0 (l : (List (S63))) (hl : (l.length : Int) ≤ 1048576) : ∀ (d : Nat) (i kk : Int), 0 ≤ i → i + d = l.length → 0 ≤ kk → kk + 3 * d ≤ 1099511627776 → l.drop i.toNat = iota_Bc kk d →
    Ev (fun k => laws_heldBcS.l0 k l kk i) (kk + 3 * d)
  | 0, i, kk, h0, h1, k0, k1, hd => by
    have c : ¬ i < (l.length : Int) := by omega
    refine Ev.eq (Ev.step (f := fun _ => some kk) (fun k => by rw [laws_heldBcS.l0, if_neg c]) (Ev.now _)) (by omega)
  | d + 1, i, kk, h0, h1, k0, k1, hd => by
    have c : i < (l.length : Int) := by omega
    have hw : wrap64 (i + 1) = i + 1 := wrap_id (by omega) (by omega)
    have w0 : wrap64 (kk + 1) = kk + 1 := by rw [wrap_id (by omega) (by omega)]
    have w1 : wrap64 ((kk + 1) + 1) = kk + 2 := by rw [wrap_id (by omega) (by omega)] <;> omega
    have w2 : wrap64 ((kk + 2) + 1) = kk + 3 := by rw [wrap_id (by omega) (by omega)] <;> omega
    have hg := drop_getD l z63 i h0 c
    rw [hg, iota_Bc] at hd
    have hx : rd_T63 l i = mk_Bc kk := (List.cons.inj hd).1
    have ih := heldBcS_l0 l hl d (i + 1) (kk + 3) (by omega) (by omega) (by omega) (by omega) (List.cons.inj hd).2
    refine Ev.eq ?_ (show kk + 3 + 3 * (d : Int) = _ by omega)
    refine Ev.step (fun k => by rw [laws_heldBcS.l0, if_pos c, if_pos h0, hx]) ?_
    unfold mk_Bc
    refine ev_if_pos (by first | rfl | simp only [w0, w1, w2]) ?_
    refine ev_if_pos (by first | rfl | simp only [w0, w1, w2]) ?_
    try simp only [w0, w1, w2]
    refine Ev.bind (mtext_ev (kk + 2) (by omega) (by omega)) (ev_if_pos rfl ?_)
    try simp only [w0, w1, w2, hw]
    exact ih
theorem heldBcS_ev (n : Nat) (kk : Int) (hn : (n : Int) ≤ 1048576) (k0 : 0 ≤ kk) (k1 : kk ≤ 1000000000) : Ev (fun k => laws_heldBcS.f k (iota_Bc kk n) kk) (kk + 3 * n) := by
  have hl := iota_Bc_len kk n
  exact heldBcS_l0 (iota_Bc kk n) (by omega) n 0 kk (by omega) (by omega) k0 (by omega) rfl

theorem spec_l2Strength_f (k : Nat) (a0 : ByteArray) : spec_l2Strength.f (k + 4) a0 = some (strengthL a0.toList).1 := by
  unfold strengthL
  by_cases h0 : a0.toList = [124, 124]
  · simp [spec_l2Strength.f, spec_l2Strength.j0, spec_l2Strength.j1, spec_l2Strength.j2, spec_l2Strength.j3, h0]
  by_cases h1 : a0.toList = [38, 38]
  · simp [spec_l2Strength.f, spec_l2Strength.j0, spec_l2Strength.j1, spec_l2Strength.j2, spec_l2Strength.j3, h1]
  by_cases h2 : a0.toList = [61, 61]
  · simp [spec_l2Strength.f, spec_l2Strength.j0, spec_l2Strength.j1, spec_l2Strength.j2, spec_l2Strength.j3, h2]
  by_cases h3 : a0.toList = [33, 61]
  · simp [spec_l2Strength.f, spec_l2Strength.j0, spec_l2Strength.j1, spec_l2Strength.j2, spec_l2Strength.j3, h3]
  by_cases h4 : a0.toList = [60]
  · simp [spec_l2Strength.f, spec_l2Strength.j0, spec_l2Strength.j1, spec_l2Strength.j2, spec_l2Strength.j3, h4]
  by_cases h5 : a0.toList = [60, 61]
  · simp [spec_l2Strength.f, spec_l2Strength.j0, spec_l2Strength.j1, spec_l2Strength.j2, spec_l2Strength.j3, h5]
  by_cases h6 : a0.toList = [43]
  · simp [spec_l2Strength.f, spec_l2Strength.j0, spec_l2Strength.j1, spec_l2Strength.j2, spec_l2Strength.j3, h6]
  by_cases h7 : a0.toList = [45]
  · simp [spec_l2Strength.f, spec_l2Strength.j0, spec_l2Strength.j1, spec_l2Strength.j2, spec_l2Strength.j3, h7]
  by_cases h8 : a0.toList = [42]
  · simp [spec_l2Strength.f, spec_l2Strength.j0, spec_l2Strength.j1, spec_l2Strength.j2, spec_l2Strength.j3, h8]
  by_cases h9 : a0.toList = [47]
  · simp [spec_l2Strength.f, spec_l2Strength.j0, spec_l2Strength.j1, spec_l2Strength.j2, spec_l2Strength.j3, h9]
  by_cases h10 : a0.toList = [37]
  · simp [spec_l2Strength.f, spec_l2Strength.j0, spec_l2Strength.j1, spec_l2Strength.j2, spec_l2Strength.j3, h10]
  by_cases h11 : a0.toList = [60, 60]
  · simp [spec_l2Strength.f, spec_l2Strength.j0, spec_l2Strength.j1, spec_l2Strength.j2, spec_l2Strength.j3, h11]
  simp [spec_l2Strength.f, spec_l2Strength.j0, spec_l2Strength.j1, spec_l2Strength.j2, spec_l2Strength.j3, h0, h1, h2, h3, h4, h5, h6, h7, h8, h9, h10, h11]
theorem isTwoB_lt (t : List UInt8) : decide ((strengthL t).1 > 2) = isTwoB t := by
  unfold isTwoB strengthL
  by_cases h0 : t = [124, 124]
  · simp [h0]
  by_cases h1 : t = [38, 38]
  · simp [h1]
  by_cases h2 : t = [61, 61]
  · simp [h2]
  by_cases h3 : t = [33, 61]
  · simp [h3]
  by_cases h4 : t = [60]
  · simp [h4]
  by_cases h5 : t = [60, 61]
  · simp [h5]
  by_cases h6 : t = [43]
  · simp [h6]
  by_cases h7 : t = [45]
  · simp [h7]
  by_cases h8 : t = [42]
  · simp [h8]
  by_cases h9 : t = [47]
  · simp [h9]
  by_cases h10 : t = [37]
  · simp [h10]
  by_cases h11 : t = [60, 60]
  · simp [h11]
  simp [h0, h1, h2, h3, h4, h5, h6, h7, h8, h9, h10, h11]
theorem l1In_f (a b c : Int) : spec_l1In.f a b c = some (inB a b c) := by
  unfold spec_l1In.f inB
  by_cases h : a ≥ b <;> simp [h] <;> omega
theorem spec_l16One_ev (n : Int) (h0 : 0 ≤ n) (h1 : n ≤ 1048576) (x : S63) : Ev (fun k => spec_l16One.f k x.f0 x.f1 x.f2 n) (bcGood n x) := by
  refine ⟨9, fun k hk => ?_⟩
  obtain ⟨m, rfl⟩ : ∃ m, k = m + 9 := ⟨k - 9, by omega⟩
  have hw : wrap64 (n - 1) = n - 1 := wrap_id (by omega) (by omega)
  unfold spec_l16One.f bcGood spec_l2Bound.f
  rw [hw, l1In_f, Option.bind_some, Option.bind_some]
  by_cases h4 : x.f0 = 4
  · by_cases h : x.f1 = 0 <;> simp [h4, h, spec_l16One.j0, spec_l16Two.f, spec_l2Strength_f (m + 4), ← isTwoB_lt]
  by_cases h5 : x.f0 = 5
  · by_cases h : x.f1 = 0
    · by_cases g : x.f2.toList = [45] <;> simp [h5, h, g, spec_l16One.j0]
    · simp [h5, h, spec_l16One.j0]
  by_cases hn : x.f2.toList = []
  · by_cases g1 : x.f0 = 1
    · cases hi : inB x.f1 (-1000000000) 1000000000 <;> simp [g1, hn]
    by_cases g2 : x.f0 = 2
    · cases hi : inB x.f1 0 9 <;> simp [g2, hn, spec_l16One.j0, l1In_f, hi]
    by_cases g3 : x.f0 = 3
    · cases hi : inB x.f1 0 9 <;> simp [g3, hn, spec_l16One.j0, l1In_f, hi]
    by_cases g6 : x.f0 = 6
    · by_cases c1 : x.f1 ≥ 0
      · by_cases c2 : x.f1 < n
        · have e : inB x.f1 0 (n - 1) = true := by simp [inB]; omega
          simp [g6, hn, spec_l16One.j0, spec_l16One.j1, c1, c2, e]
        · have e : inB x.f1 0 (n - 1) = false := by simp [inB]; omega
          simp [g6, hn, spec_l16One.j0, spec_l16One.j1, c1, c2, e]
      · have e : inB x.f1 0 (n - 1) = false := by simp [inB]; omega
        simp [g6, hn, spec_l16One.j0, spec_l16One.j1, c1, e]
    by_cases g7 : x.f0 = 7
    · by_cases c1 : x.f1 ≥ 0
      · by_cases c2 : x.f1 < n
        · have e : inB x.f1 0 (n - 1) = true := by simp [inB]; omega
          simp [g7, hn, spec_l16One.j0, spec_l16One.j1, c1, c2, e]
        · have e : inB x.f1 0 (n - 1) = false := by simp [inB]; omega
          simp [g7, hn, spec_l16One.j0, spec_l16One.j1, c1, c2, e]
      · have e : inB x.f1 0 (n - 1) = false := by simp [inB]; omega
        simp [g7, hn, spec_l16One.j0, spec_l16One.j1, c1, e]
    by_cases g8 : x.f0 = 8
    · by_cases h : x.f1 = 0 <;> simp [g8, hn, h, spec_l16One.j0, spec_l16One.j1]
    by_cases g9 : x.f0 = 9
    · by_cases h : x.f1 = 0 <;> simp [g9, hn, h, spec_l16One.j0, spec_l16One.j1]
    simp [g1, g2, g3, h4, h5, g6, g7, g8, g9, hn, spec_l16One.j0, spec_l16One.j1]
  · by_cases g1 : x.f0 = 1
    · cases hi : inB x.f1 (-1000000000) 1000000000 <;> simp [g1, hn]
    by_cases g2 : x.f0 = 2
    · cases hi : inB x.f1 0 9 <;> simp [g2, hn, spec_l16One.j0, l1In_f, hi]
    by_cases g3 : x.f0 = 3
    · cases hi : inB x.f1 0 9 <;> simp [g3, hn, spec_l16One.j0, l1In_f, hi]
    by_cases g6 : x.f0 = 6
    · by_cases c1 : x.f1 ≥ 0 <;> by_cases c2 : x.f1 < n <;> simp [g6, hn, spec_l16One.j0, spec_l16One.j1, c1, c2]
    by_cases g7 : x.f0 = 7
    · by_cases c1 : x.f1 ≥ 0 <;> by_cases c2 : x.f1 < n <;> simp [g7, hn, spec_l16One.j0, spec_l16One.j1, c1, c2]
    by_cases g8 : x.f0 = 8
    · by_cases h : x.f1 = 0 <;> simp [g8, hn, h, spec_l16One.j0, spec_l16One.j1]
    by_cases g9 : x.f0 = 9
    · by_cases h : x.f1 = 0 <;> simp [g9, hn, h, spec_l16One.j0, spec_l16One.j1]
    simp [g1, g2, g3, h4, h5, g6, g7, g8, g9, hn, spec_l16One.j0, spec_l16One.j1]
theorem spec_GoodCode_l0 (l : List S63) (hl : (l.length : Int) ≤ 1048576) : ∀ (d : Nat) (i : Int), 0 ≤ i → i + d = l.length →
    Ev (fun k => spec_GoodCode.l0 k l l l.length i) (!(l.drop i.toNat).any (bcBad l.length) && inB l.length 1 120)
  | 0, i, h0, h1 => by
    have c : ¬ i < (l.length : Int) := by omega
    refine Ev.eq (Ev.step (f := fun _ => some (inB l.length 1 120)) (fun k => by rw [spec_GoodCode.l0, if_neg c, l1In_f] <;> rfl) (Ev.now _)) ?_
    rw [List.drop_eq_nil_of_le (by omega)]
    rfl
  | d + 1, i, h0, h1 => by
    have c : i < (l.length : Int) := by omega
    have hw : wrap64 (i + 1) = i + 1 := wrap_id (by omega) (by omega)
    have hd : l.drop i.toNat = rd_T63 l i :: l.drop (i + 1).toNat := drop_getD l _ i h0 c
    have ih := spec_GoodCode_l0 l hl d (i + 1) (by omega) (by omega)
    have e := spec_l16One_ev l.length (by omega) hl (rd_T63 l i)
    rw [hd, List.any_cons]
    cases hb : bcGood l.length (rd_T63 l i)
    · rw [hb] at e
      refine Ev.eq (r := false) (Ev.step (fun k => by rw [spec_GoodCode.l0, if_pos c, if_pos h0, if_pos c]) ?_) (by simp [bcBad, hb])
      exact Ev.bind e (ev_if_neg Bool.false_ne_true (Ev.now _))
    · rw [hb] at e
      refine Ev.eq (r := !(l.drop (i + 1).toNat).any (bcBad l.length) && inB l.length 1 120) (Ev.step (fun k => by rw [spec_GoodCode.l0, if_pos c, if_pos h0, if_pos c, hw]) ?_) (by simp [bcBad, hb])
      exact Ev.bind e (ev_if_pos rfl ih)
def goodCode (l : List S63) : Bool := inB l.length 1 120 && !l.any (bcBad l.length)
theorem spec_GoodCode_ev (l : List S63) (hl : (l.length : Int) ≤ 1048576) : Ev (fun k => spec_GoodCode.f k l) (goodCode l) := by
  refine Ev.eq (spec_GoodCode_l0 l hl l.length 0 (by omega) (by omega)) ?_
  unfold goodCode
  rw [Bool.and_comm]
  rfl
theorem impl_GoodCode_f (l : List S63) : impl_GoodCode.f l = some (goodCode l) := rfl
def signs : List ByteArray := [⟨#[43]⟩, ⟨#[45]⟩, ⟨#[42]⟩, ⟨#[47]⟩, ⟨#[37]⟩, ⟨#[60]⟩, ⟨#[60, 61]⟩, ⟨#[61, 61]⟩, ⟨#[33, 61]⟩, ⟨#[61]⟩, ⟨#[38, 38]⟩, ⟨#[124, 124]⟩, ⟨#[33]⟩, ⟨#[40]⟩, ⟨#[41]⟩, ⟨#[44]⟩, ⟨#[59]⟩, ⟨#[45, 62]⟩, ⟨#[60, 60]⟩]
theorem spec_signs : spec_l1Signs.f = some signs := rfl

def signIdx (t : List UInt8) : Int := idxB (fun z : ByteArray => z.toList == t) signs 0
theorem spec_sign_l0 (s : ByteArray) (l : List ByteArray) (hl : (l.length : Int) ≤ 1048576) : ∀ (d : Nat) (i : Int), 0 ≤ i → i + d = l.length →
    Ev (fun k => spec_l16Sign.l0 k s l l.length i) (idxB (fun z : ByteArray => z.toList == s.toList) (l.drop i.toNat) i)
  | 0, i, h0, h1 => by
    have c : ¬ i < (l.length : Int) := by omega
    rw [List.drop_eq_nil_of_le (by omega)]
    exact Ev.step (f := fun _ => some (-1)) (fun k => by rw [spec_l16Sign.l0, if_neg c]) (Ev.now _)
  | d + 1, i, h0, h1 => by
    have c : i < (l.length : Int) := by omega
    have hw : wrap64 (i + 1) = i + 1 := wrap_id (by omega) (by omega)
    have hd : l.drop i.toNat = rdOf ByteArray.empty l i :: l.drop (i + 1).toNat := drop_getD l _ i h0 c
    have ih := spec_sign_l0 s l hl d (i + 1) (by omega) (by omega)
    rw [hd, idxB]
    by_cases e : (rdOf ByteArray.empty l i).toList = s.toList
    · rw [if_pos (by simp [e])]
      exact Ev.step (f := fun _ => some i) (fun k => by rw [spec_l16Sign.l0, if_pos c, if_pos h0, if_pos c, if_pos e]) (Ev.now _)
    · rw [if_neg (by simp [e])]
      exact Ev.step (fun k => by rw [spec_l16Sign.l0, if_pos c, if_pos h0, if_pos c, if_neg e, hw]) ih
theorem spec_sign_ev (s : ByteArray) : Ev (fun k => spec_l16Sign.f k s) (signIdx s.toList) := by
  unfold spec_l16Sign.f
  rw [spec_signs]
  exact spec_sign_l0 s signs (by decide) signs.length 0 (by omega) (by omega)
/-- The bytes of a step. -/
def encBc (x : S63) : List Int := [x.f0 % 256] ++
  (if x.f0 = 1 then [(wrap64 (x.f1 + 1000000000) / 4294967296) % 256, (wrap64 (x.f1 + 1000000000) / 16777216) % 256, (wrap64 (x.f1 + 1000000000) / 65536) % 256, (wrap64 (x.f1 + 1000000000) / 256) % 256, wrap64 (x.f1 + 1000000000) % 256]
  else if x.f0 = 2 ∨ x.f0 = 3 ∨ x.f0 = 6 ∨ x.f0 = 7 then [x.f1 % 256] else if x.f0 = 4 ∨ x.f0 = 5 then [signIdx x.f2.toList % 256] else [])
theorem encBc_le (x : S63) : (encBc x).length ≤ 6 := by
  unfold encBc
  split
  · simp
  · split
    · simp
    · split <;> simp
theorem spec_bytes_step (l : List S63) (hl : (l.length : Int) ≤ 1048576) (i : Int) (h0 : 0 ≤ i) (c : i < (l.length : Int)) (acc : List Int) (ha : acc.length ≤ 6 * l.length) (r : ByteArray)
    (H : Ev (fun k => spec_l16Bytes.l0 k (acc ++ encBc (rd_T63 l i)) l l.length (i + 1)) r) : Ev (fun k => spec_l16Bytes.l0 k acc l l.length i) r := by
  have hw : wrap64 (i + 1) = i + 1 := wrap_id (by omega) (by omega)
  have c1 : acc.length < 140737488355328 := by omega
  generalize hx : rd_T63 l i = x at H
  have c2 : (acc ++ [x.f0 % 256]).length < 140737488355328 := by rw [List.length_append, List.length_singleton]; omega
  by_cases g1 : x.f0 = 1
  · have he : acc ++ encBc x = acc ++ [x.f0 % 256] ++ [(wrap64 (x.f1 + 1000000000) / 4294967296) % 256, (wrap64 (x.f1 + 1000000000) / 16777216) % 256, (wrap64 (x.f1 + 1000000000) / 65536) % 256, (wrap64 (x.f1 + 1000000000) / 256) % 256, wrap64 (x.f1 + 1000000000) % 256] := by unfold encBc; rw [if_pos g1, List.append_assoc]
    rw [he] at H
    refine Ev.step (fun k => ?_) H
    rw [spec_l16Bytes.l0, if_pos c, if_pos h0, if_pos c, if_pos c1, hx]
    simp only [Option.bind_some]
    rw [if_pos g1, if_pos (by simp; omega), hw]
  · have tail : ∀ b : Bool, (b = true ↔ (x.f0 = 2 ∨ x.f0 = 3 ∨ x.f0 = 6 ∨ x.f0 = 7)) → Ev (fun k => spec_l16Bytes.j1 k (acc ++ [x.f0 % 256]) l l.length i x.f0 b x.f0 x.f1 x.f2) r := by
      intro b hb
      cases b
      · have hno : ¬ (x.f0 = 2 ∨ x.f0 = 3 ∨ x.f0 = 6 ∨ x.f0 = 7) := fun h => by simpa using hb.2 h
        by_cases g4 : x.f0 = 4
        · have he : acc ++ encBc x = acc ++ [x.f0 % 256] ++ [signIdx x.f2.toList % 256] := by unfold encBc; rw [if_neg g1, if_neg hno, if_pos (.inl g4), List.append_assoc]
          rw [he] at H
          refine Ev.step (fun k => by rw [spec_l16Bytes.j1, if_neg (by simp), if_pos g4]) ?_
          refine Ev.bind (spec_sign_ev x.f2) (ev_if_pos c2 ?_)
          rw [hw]
          exact H
        · by_cases g5 : x.f0 = 5
          · have he : acc ++ encBc x = acc ++ [x.f0 % 256] ++ [signIdx x.f2.toList % 256] := by unfold encBc; rw [if_neg g1, if_neg hno, if_pos (.inr g5), List.append_assoc]
            rw [he] at H
            refine Ev.step (fun k => by rw [spec_l16Bytes.j1, if_neg (by simp), if_neg g4, if_pos g5]) ?_
            refine Ev.bind (spec_sign_ev x.f2) (ev_if_pos c2 ?_)
            rw [hw]
            exact H
          · have he : acc ++ encBc x = acc ++ [x.f0 % 256] := by unfold encBc; rw [if_neg g1, if_neg hno, if_neg (by omega), List.append_nil]
            rw [he] at H
            exact Ev.step (fun k => by rw [spec_l16Bytes.j1, if_neg (by simp), if_neg g4, if_neg g5, hw]) H
      · have hy := hb.1 rfl
        have he : acc ++ encBc x = acc ++ [x.f0 % 256] ++ [x.f1 % 256] := by unfold encBc; rw [if_neg g1, if_pos hy, List.append_assoc]
        rw [he] at H
        exact Ev.step (fun k => by rw [spec_l16Bytes.j1, if_pos rfl, if_pos c2, hw]) H
    have go : ∀ b : Bool, (∀ k, spec_l16Bytes.l0 (k + 1) acc l l.length i = spec_l16Bytes.j1 k (acc ++ [x.f0 % 256]) l l.length i x.f0 b x.f0 x.f1 x.f2) → (b = true ↔ (x.f0 = 2 ∨ x.f0 = 3 ∨ x.f0 = 6 ∨ x.f0 = 7)) → Ev (fun k => spec_l16Bytes.l0 k acc l l.length i) r :=
      fun b e hb => Ev.step e (tail b hb)
    by_cases g2 : x.f0 = 2
    · refine go (x.f0 == 2) (fun k => ?_) (by simp [g2])
      rw [spec_l16Bytes.l0, if_pos c, if_pos h0, if_pos c, if_pos c1, hx]
      simp only [Option.bind_some]
      rw [if_neg g1, if_pos g2]
    by_cases g3 : x.f0 = 3
    · refine go (x.f0 == 3) (fun k => ?_) (by simp [g3])
      rw [spec_l16Bytes.l0, if_pos c, if_pos h0, if_pos c, if_pos c1, hx]
      simp only [Option.bind_some]
      rw [if_neg g1, if_neg g2, if_pos g3]
    by_cases g6 : x.f0 = 6
    · refine go (x.f0 == 6) (fun k => ?_) (by simp [g6])
      rw [spec_l16Bytes.l0, if_pos c, if_pos h0, if_pos c, if_pos c1, hx]
      simp only [Option.bind_some]
      rw [if_neg g1, if_neg g2, if_neg g3, if_pos g6]
    · refine go (x.f0 == 7) (fun k => ?_) (by simp [g2, g3, g6])
      rw [spec_l16Bytes.l0, if_pos c, if_pos h0, if_pos c, if_pos c1, hx]
      simp only [Option.bind_some]
      rw [if_neg g1, if_neg g2, if_neg g3, if_neg g6]
theorem spec_bytes_l0 (l : List S63) (hl : (l.length : Int) ≤ 1048576) : ∀ (d : Nat) (i : Int) (acc : List Int), 0 ≤ i → i + d = l.length → acc.length ≤ 6 * i.toNat →
    Ev (fun k => spec_l16Bytes.l0 k acc l l.length i) (strOfNums (acc ++ (l.drop i.toNat).flatMap encBc))
  | 0, i, acc, h0, h1, ha => by
    have c : ¬ i < (l.length : Int) := by omega
    rw [List.drop_eq_nil_of_le (by omega), List.flatMap_nil, List.append_nil]
    exact Ev.step (f := fun _ => some (strOfNums acc)) (fun k => by rw [spec_l16Bytes.l0, if_neg c]) (Ev.now _)
  | d + 1, i, acc, h0, h1, ha => by
    have c : i < (l.length : Int) := by omega
    have hd : l.drop i.toNat = rd_T63 l i :: l.drop (i + 1).toNat := drop_getD l _ i h0 c
    have hle := encBc_le (rd_T63 l i)
    have ih := spec_bytes_l0 l hl d (i + 1) (acc ++ encBc (rd_T63 l i)) (by omega) (by omega) (by rw [List.length_append]; omega)
    rw [hd, List.flatMap_cons, ← List.append_assoc]
    exact spec_bytes_step l hl i h0 c acc (by omega) _ ih
def codeBytes (l : List S63) : ByteArray := strOfNums (l.flatMap encBc)
theorem spec_bytes_ev (l : List S63) (hl : (l.length : Int) ≤ 1048576) : Ev (fun k => spec_l16Bytes.f k l) (codeBytes l) := spec_bytes_l0 l hl l.length 0 [] (by omega) (by omega) (by simp)
theorem or_byte (n b : Int) (h0 : 0 ≤ n) (h1 : n < 1099511627776) (b0 : 0 ≤ b) (b1 : b < 256) : Go.bits .or .i64 (wrap64 (n * 256)) b = n * 256 + b := by
  rw [wrap_id (by omega) (by omega)]
  exact bits_join .i64 62 (by decide) (fun x hx hy => by rw [IntKind.wrap_i64]; omega) 8 (n * 256) b (by omega) (by omega) (by omega) b0 (by omega) (by omega)
theorem bt_wrap (s : ByteArray) (i : Int) : wrap64 (bt s i) = bt s i := by
  have := bt_range s i
  exact wrap_id (by omega) (by omega)
theorem foldB_one (s : ByteArray) (i : Int) : foldB s 1 i 0 = bt s i := by
  have := bt_range s i
  rw [foldB, foldB, bt_wrap, or_byte 0 _ (by omega) (by omega) (by omega) (by omega)]
  omega
theorem foldB_five (s : ByteArray) (i : Int) : foldB s 5 i 0 = bt s i * 4294967296 + bt s (i + 1) * 16777216 + bt s (i + 1 + 1) * 65536 + bt s (i + 1 + 1 + 1) * 256 + bt s (i + 1 + 1 + 1 + 1) := by
  have h0 := bt_range s i
  have h1 := bt_range s (i + 1)
  have h2 := bt_range s (i + 1 + 1)
  have h3 := bt_range s (i + 1 + 1 + 1)
  have h4 := bt_range s (i + 1 + 1 + 1 + 1)
  simp only [foldB, bt_wrap]
  rw [or_byte 0 _ (by omega) (by omega) (by omega) (by omega), or_byte _ (bt s (i + 1)) (by omega) (by omega) (by omega) (by omega), or_byte _ (bt s (i + 1 + 1)) (by omega) (by omega) (by omega) (by omega),
    or_byte _ (bt s (i + 1 + 1 + 1)) (by omega) (by omega) (by omega) (by omega), or_byte _ (bt s (i + 1 + 1 + 1 + 1)) (by omega) (by omega) (by omega) (by omega)]
  omega
/-- The step at a place: what it is and how many bytes it has; none where they lack. -/
def tk (s : ByteArray) (p : Int) : Option (S63 × Int) :=
  if (s.size : Int) - p < takeSize (bt s p) then none
  else if bt s p = 1 then some (⟨bt s p, wrap64 (foldB s 5 (p + 1) 0 - 1000000000), ⟨#[]⟩⟩, 6)
  else if bt s p = 4 ∨ bt s p = 5 then (if foldB s 1 (p + 1) 0 ≥ 19 then none else some (⟨bt s p, 0, rdOf ByteArray.empty signsL (foldB s 1 (p + 1) 0)⟩, 2))
  else if bt s p = 2 ∨ bt s p = 3 ∨ bt s p = 6 ∨ bt s p = 7 then some (⟨bt s p, foldB s 1 (p + 1) 0, ⟨#[]⟩⟩, 2)
  else some (⟨bt s p, 0, ⟨#[]⟩⟩, 1)
theorem bt_ext (s : ByteArray) (p i : Int) (h0 : 0 ≤ p) (h1 : 0 ≤ i) (h2 : p + i < (s.size : Int)) : bt (s.extract p.toNat s.size) i = bt s (p + i) := by
  rw [bt_extract s p.toNat s.size i h1 (by rw [ByteArray.size_extract]; omega)]
  congr 1
  omega
theorem foldB_ext (s : ByteArray) (p : Int) (h0 : 0 ≤ p) : ∀ (d : Nat) (i n : Int), 0 ≤ i → p + i + d ≤ (s.size : Int) → foldB (s.extract p.toNat s.size) d i n = foldB s d (p + i) n
  | 0, i, n, h1, h2 => rfl
  | d + 1, i, n, h1, h2 => by
    rw [foldB, foldB, bt_ext s p i h0 h1 (by omega), foldB_ext s p h0 d (i + 1) _ (by omega) (by omega)]
    congr 1
    omega
def tkOut : Option (S63 × Int) → Int × Int × ByteArray × Int
  | none => (0, 0, ⟨#[]⟩, 0)
  | some (x, m) => (x.f0, x.f1, x.f2, m)
theorem takeBc_tk (s : ByteArray) (hs : (s.size : Int) ≤ 1048576) (p : Int) (h0 : 0 ≤ p) (h1 : p < (s.size : Int)) : impl_takeBc.f (s.extract p.toNat s.size) = some (tkOut (tk s p)) := by
  have e : (((s.extract p.toNat s.size).size : Nat) : Int) = (s.size : Int) - p := by rw [ByteArray.size_extract]; omega
  have eb := bt_ext s p 0 h0 (by omega) (by omega)
  rw [show p + 0 = p by omega] at eb
  have rb := bt_range s p
  unfold impl_takeBc.f
  rw [e, if_pos (by omega), if_pos (by omega), eb, bt_wrap]
  unfold takeBcIn tk
  rw [e]
  by_cases c : (s.size : Int) - p < takeSize (bt s p)
  · rw [if_pos c, if_pos c]; rfl
  rw [if_neg c, if_neg c]
  by_cases g1 : bt s p = 1
  · rw [if_pos g1, if_pos g1, foldB_ext s p h0 5 1 0 (by omega) (by rw [g1] at c; have : takeSize 1 = 6 := rfl; omega)]; rfl
  rw [if_neg g1, if_neg g1]
  by_cases g4 : bt s p = 4 ∨ bt s p = 5
  · have ts : takeSize (bt s p) = 2 := by unfold takeSize; rw [if_neg g1, if_pos (by omega)]
    rw [if_pos g4, if_pos g4, foldB_ext s p h0 1 1 0 (by omega) (by omega), foldB_one]
    have := bt_range s (p + 1)
    rw [if_pos (by omega)]
    by_cases g : bt s (p + 1) ≥ 19
    · rw [if_pos g, if_pos g]; rfl
    · rw [if_neg g, if_neg g]; rfl
  rw [if_neg g4, if_neg g4]
  by_cases g2 : bt s p = 2 ∨ bt s p = 3 ∨ bt s p = 6 ∨ bt s p = 7
  · have ts : takeSize (bt s p) = 2 := by unfold takeSize; rw [if_neg g1, if_pos (by omega)]
    rw [if_pos g2, if_pos g2, foldB_ext s p h0 1 1 0 (by omega) (by omega)]; rfl
  rw [if_neg g2, if_neg g2]; rfl
theorem signs_eq : signsL = signs := rfl
theorem signIdx_at : ∀ i : Fin 19, signIdx (rdOf ByteArray.empty signs (i.val : Int)).toList = (i.val : Int) := by
  simp only [signIdx, ByteArray.toList_eq]
  decide
theorem take_next (s : ByteArray) (p : Int) (h0 : 0 ≤ p) (h1 : p < (s.size : Int)) : (bytesOf s).drop p.toNat = bt s p :: (bytesOf s).drop (p + 1).toNat := by
  rw [← rd_bytesOf]
  exact drop_getD _ _ p h0 (by rw [bytesOf_length]; exact h1)
/-- A step's bytes are those it was read from. -/
theorem tk_bytes (s : ByteArray) (p : Int) (h0 : 0 ≤ p) (h1 : p < (s.size : Int)) (x : S63) (m : Int) (h : tk s p = some (x, m)) : 1 ≤ m ∧ m ≤ 6 ∧ p + m ≤ s.size ∧ (bytesOf s).drop p.toNat = encBc x ++ (bytesOf s).drop (p + m).toNat := by
  have rb := bt_range s p
  unfold tk at h
  by_cases c : (s.size : Int) - p < takeSize (bt s p)
  · rw [if_pos c] at h; cases h
  rw [if_neg c] at h
  by_cases g1 : bt s p = 1
  · rw [if_pos g1] at h
    have ts : takeSize (bt s p) = 6 := by rw [g1]; rfl
    obtain ⟨rfl, rfl⟩ := Prod.mk.inj (Option.some.inj h)
    refine ⟨by omega, by omega, by omega, ?_⟩
    have r1 := bt_range s (p + 1)
    have r2 := bt_range s (p + 1 + 1)
    have r3 := bt_range s (p + 1 + 1 + 1)
    have r4 := bt_range s (p + 1 + 1 + 1 + 1)
    have r5 := bt_range s (p + 1 + 1 + 1 + 1 + 1)
    rw [take_next s p h0 h1, take_next s (p + 1) (by omega) (by omega), take_next s (p + 1 + 1) (by omega) (by omega), take_next s (p + 1 + 1 + 1) (by omega) (by omega), take_next s (p + 1 + 1 + 1 + 1) (by omega) (by omega), take_next s (p + 1 + 1 + 1 + 1 + 1) (by omega) (by omega)]
    unfold encBc
    rw [foldB_five]
    simp only []
    rw [if_pos g1, wrap_id (n := _ - 1000000000) (by omega) (by omega), wrap_id (by omega) (by omega), show p + 1 + 1 + 1 + 1 + 1 + 1 = p + 6 by omega]
    simp only [List.cons_append, List.nil_append, List.cons.injEq, and_true]
    refine ⟨by omega, by omega, by omega, by omega, by omega, by omega⟩
  rw [if_neg g1] at h
  by_cases g4 : bt s p = 4 ∨ bt s p = 5
  · rw [if_pos g4, foldB_one] at h
    have ts : takeSize (bt s p) = 2 := by unfold takeSize; rw [if_neg g1, if_pos (by omega)]
    have r1 := bt_range s (p + 1)
    by_cases g : bt s (p + 1) ≥ 19
    · rw [if_pos g] at h; cases h
    rw [if_neg g] at h
    obtain ⟨rfl, rfl⟩ := Prod.mk.inj (Option.some.inj h)
    refine ⟨by omega, by omega, by omega, ?_⟩
    rw [take_next s p h0 h1, take_next s (p + 1) (by omega) (by omega)]
    unfold encBc
    simp only []
    have hi := signIdx_at ⟨(bt s (p + 1)).toNat, by omega⟩
    simp only [] at hi
    rw [show ((((bt s (p + 1)).toNat : Nat)) : Int) = bt s (p + 1) by omega] at hi
    rw [if_neg g1, if_neg (by omega), if_pos g4, signs_eq, hi, show p + 1 + 1 = p + 2 by omega]
    simp only [List.cons_append, List.nil_append, List.cons.injEq, and_true]
    exact ⟨by omega, by omega⟩
  rw [if_neg g4] at h
  by_cases g2 : bt s p = 2 ∨ bt s p = 3 ∨ bt s p = 6 ∨ bt s p = 7
  · rw [if_pos g2, foldB_one] at h
    have ts : takeSize (bt s p) = 2 := by unfold takeSize; rw [if_neg g1, if_pos (by omega)]
    have r1 := bt_range s (p + 1)
    obtain ⟨rfl, rfl⟩ := Prod.mk.inj (Option.some.inj h)
    refine ⟨by omega, by omega, by omega, ?_⟩
    rw [take_next s p h0 h1, take_next s (p + 1) (by omega) (by omega)]
    unfold encBc
    simp only []
    rw [if_neg g1, if_pos g2, show p + 1 + 1 = p + 2 by omega]
    simp only [List.cons_append, List.nil_append, List.cons.injEq, and_true]
    exact ⟨by omega, by omega⟩
  rw [if_neg g2] at h
  obtain ⟨rfl, rfl⟩ := Prod.mk.inj (Option.some.inj h)
  refine ⟨by omega, by omega, by omega, ?_⟩
  rw [take_next s p h0 h1]
  unfold encBc
  simp only []
  rw [if_neg g1, if_neg g2, if_neg g4]
  simp only [List.cons_append, List.nil_append, List.cons.injEq, and_true]
  omega
theorem signs_small : ∀ i : Fin 19, ((rdOf ByteArray.empty signs (i.val : Int)).size : Int) ≤ 2 := by decide
theorem tk_text (s : ByteArray) (p : Int) (x : S63) (m : Int) (h : tk s p = some (x, m)) : (x.f2.size : Int) ≤ 1048576 := by
  have z : (((⟨#[]⟩ : ByteArray).size : Nat) : Int) = 0 := rfl
  unfold tk at h
  split at h
  · cases h
  split at h
  · obtain ⟨rfl, rfl⟩ := Prod.mk.inj (Option.some.inj h)
    simp only [z]; omega
  split at h
  · rw [foldB_one] at h
    split at h
    · cases h
    · obtain ⟨rfl, rfl⟩ := Prod.mk.inj (Option.some.inj h)
      have r1 := bt_range s (p + 1)
      have hi := signs_small ⟨(bt s (p + 1)).toNat, by omega⟩
      simp only [] at hi
      rw [show ((((bt s (p + 1)).toNat : Nat)) : Int) = bt s (p + 1) by omega] at hi
      simp only [signs_eq]
      omega
  split at h
  · obtain ⟨rfl, rfl⟩ := Prod.mk.inj (Option.some.inj h)
    simp only [z]; omega
  · obtain ⟨rfl, rfl⟩ := Prod.mk.inj (Option.some.inj h)
    simp only [z]; omega
/-- How the reading ends: both the same, at what was read so far. -/
theorem strOf_bytes (s : ByteArray) : (strOfNums (bytesOf s)).toList = s.toList := by
  rw [ByteArray.toList_eq, ByteArray.toList_eq, strOfNums_data]
  unfold bytesOf
  rw [List.map_map]
  have e : ((fun n : Int => UInt8.ofNat n.toNat) ∘ fun b : UInt8 => (b.toNat : Int)) = id := by
    funext b
    simp
  rw [e, List.map_id]
def outOf (out : List S63) : List S63 × Bool := if goodCode out = true then (out, true) else ([], false)
theorem spec_end (s : ByteArray) (p : Int) (out : List S63) (hl : (out.length : Int) ≤ 1048576) (hb : goodCode out = true → out.flatMap encBc = bytesOf s) : Ev (fun k => spec_ReadCode.j1 k s out p false) (outOf out) := by
  refine Ev.step (fun k => by rw [spec_ReadCode.j1, if_neg (by simp)]) ?_
  have hs := spec_GoodCode_ev out hl
  unfold outOf
  by_cases c : goodCode out = true
  · rw [if_pos c]
    rw [c] at hs
    have e : (codeBytes out).toList = s.toList := by unfold codeBytes; rw [hb c, strOf_bytes]
    exact Ev.bind hs (ev_if_pos rfl (Ev.bind (spec_bytes_ev out hl) (ev_if_pos e (Ev.now _))))
  · rw [if_neg c]
    rw [Bool.eq_false_iff.2 c] at hs
    exact Ev.bind hs (ev_if_neg (by simp) (Ev.now _))
theorem impl_end (s : ByteArray) (out : List S63) (hs : s.toList = []) : Ev (fun k => impl_ReadCode.l0 k s out) (outOf out) := by
  unfold outOf
  by_cases c : goodCode out = true
  · rw [if_pos c]
    exact Ev.step (f := fun _ => some (out, true)) (fun k => by rw [impl_ReadCode.l0, if_pos hs, impl_GoodCode_f, Option.bind_some, if_pos c]) (Ev.now _)
  · rw [if_neg c]
    exact Ev.step (f := fun _ => some ([], false)) (fun k => by rw [impl_ReadCode.l0, if_pos hs, impl_GoodCode_f, Option.bind_some, if_neg c]) (Ev.now _)
theorem spec_read (s : ByteArray) (hs : (s.size : Int) ≤ 1048576) (out : List S63) (op t1 : Int) (t2 : ByteArray) (r : List S63 × Bool) : ∀ (m : Nat) (p n : Int), 0 ≤ p → p + m ≤ s.size →
    Ev (fun k => spec_ReadCode.l1 k s out (p + m) 0 (foldB s m p n) op t1 t2) r → Ev (fun k => spec_ReadCode.l1 k s out p m n op t1 t2) r
  | 0, p, n, h0, h1, H => by
    rw [show p + ((0 : Nat) : Int) = p by omega] at H
    exact H
  | m + 1, p, n, h0, h1, H => by
    have hw : wrap64 (p + 1) = p + 1 := wrap_id (by omega) (by omega)
    have hw2 : wrap64 (((m + 1 : Nat) : Int) - 1) = (m : Int) := by rw [wrap_id (by omega) (by omega)]; omega
    rw [foldB, show p + ((m + 1 : Nat) : Int) = p + 1 + (m : Int) by omega] at H
    have ih := spec_read s hs out op t1 t2 r m (p + 1) _ (by omega) (by omega) H
    exact Ev.step (fun k => by rw [spec_ReadCode.l1, if_pos (by omega), if_pos h0, if_pos (by omega), hw, hw2]) ih
theorem spec_after (s : ByteArray) (out : List S63) (hl : (out.length : Int) ≤ 1048576) (p n op : Int) (r : List S63 × Bool) (b : Bool) (hb : b = true ↔ (op = 4 ∨ op = 5)) (h0 : 0 ≤ n)
    (H : if op = 4 ∨ op = 5 then (if n ≥ 19 then r = ([], false) else Ev (fun k => spec_ReadCode.l0 k s (out ++ [⟨op, 0, rdOf ByteArray.empty signsL n⟩]) p) r) else Ev (fun k => spec_ReadCode.l0 k s (out ++ [⟨op, n, ⟨#[]⟩⟩]) p) r) :
    Ev (fun k => spec_ReadCode.j4 k s out p n b op 0 ⟨#[]⟩) r := by
  have hlen : (signs.length : Int) = 19 := rfl
  cases b
  · rw [if_neg (fun h => by simpa using hb.2 h)] at H
    exact Ev.step (fun k => by rw [spec_ReadCode.j4, if_neg (by simp), if_pos (by omega)]) H
  · rw [if_pos (hb.1 rfl)] at H
    by_cases g : n ≥ 19
    · rw [if_pos g] at H
      subst H
      exact Ev.step (f := fun _ => some ([], false)) (fun k => by rw [spec_ReadCode.j4, if_pos rfl, spec_signs, Option.bind_some, if_pos (by omega)]) (Ev.now _)
    · rw [if_neg g, signs_eq] at H
      exact Ev.step (fun k => by rw [spec_ReadCode.j4, if_pos rfl, spec_signs, Option.bind_some, if_neg (by omega), Option.bind_some, if_pos h0, if_pos (by omega), if_pos (by omega)]) H
theorem spec_one (s : ByteArray) (hs : (s.size : Int) ≤ 1048576) (out : List S63) (hl : (out.length : Int) ≤ 120) (p : Int) (h0 : 0 ≤ p) (h1 : p < (s.size : Int)) (r : List S63 × Bool)
    (H : match tk s p with | none => r = ([], false) | some (x, m) => Ev (fun k => spec_ReadCode.l0 k s (out ++ [x]) (p + m)) r) : Ev (fun k => spec_ReadCode.l0 k s out p) r := by
  have rb := bt_range s p
  have hw : wrap64 (p + 1) = p + 1 := wrap_id (by omega) (by omega)
  have hw2 : wrap64 ((s.size : Int) - (p + 1)) = (s.size : Int) - (p + 1) := wrap_id (by omega) (by omega)
  refine Ev.step (f := fun k => spec_ReadCode.j1 k s out p true) (fun k => by rw [spec_ReadCode.l0, if_pos h1, decide_eq_true (by omega)]) ?_
  -- behind the choice of how many bytes follow
  have go : ∀ m : Nat, (m : Int) = takeSize (bt s p) - 1 → Ev (fun k => spec_ReadCode.j2 k s out (p + 1) m (bt s p) 0 ⟨#[]⟩) r := by
    intro m hm
    unfold tk at H
    by_cases c : (s.size : Int) - p < takeSize (bt s p)
    · rw [if_pos c] at H
      subst H
      exact Ev.step (f := fun _ => some ([], false)) (fun k => by rw [spec_ReadCode.j2, hw2, if_pos (by omega)]) (Ev.now _)
    rw [if_neg c] at H
    refine Ev.step (fun k => by rw [spec_ReadCode.j2, hw2, if_neg (by omega)]) (spec_read s hs out _ _ _ r m (p + 1) 0 (by omega) (by omega) ?_)
    by_cases g1 : bt s p = 1
    · have ts : takeSize (bt s p) = 6 := by rw [g1]; rfl
      obtain rfl : m = 5 := by omega
      rw [if_pos g1] at H
      simp only [] at H
      rw [show p + 6 = p + 1 + ((5 : Nat) : Int) by omega] at H
      exact Ev.step (fun k => by rw [spec_ReadCode.l1, if_neg (by omega), if_pos g1, if_pos (by omega)]) H
    rw [if_neg g1] at H
    have tail : ∀ b : Bool, (b = true ↔ (bt s p = 4 ∨ bt s p = 5)) → Ev (fun k => spec_ReadCode.j4 k s out (p + 1 + m) (foldB s m (p + 1) 0) b (bt s p) 0 ⟨#[]⟩) r := by
      intro b hb
      have r1 := bt_range s (p + 1)
      by_cases g4 : bt s p = 4 ∨ bt s p = 5
      · have ts : takeSize (bt s p) = 2 := by unfold takeSize; rw [if_neg g1, if_pos (by omega)]
        obtain rfl : m = 1 := by omega
        rw [if_pos g4] at H
        refine spec_after s out (by omega) _ _ _ r b hb (by rw [foldB_one]; omega) ?_
        rw [if_pos g4]
        by_cases g : foldB s 1 (p + 1) 0 ≥ 19
        · rw [if_pos g] at H
          rw [if_pos g]
          exact H
        · rw [if_neg g] at H
          rw [if_neg g]
          simp only [] at H
          rw [show p + 2 = p + 1 + ((1 : Nat) : Int) by omega] at H
          exact H
      rw [if_neg g4] at H
      by_cases g2 : bt s p = 2 ∨ bt s p = 3 ∨ bt s p = 6 ∨ bt s p = 7
      · have ts : takeSize (bt s p) = 2 := by unfold takeSize; rw [if_neg g1, if_pos (by omega)]
        obtain rfl : m = 1 := by omega
        rw [if_pos g2] at H
        refine spec_after s out (by omega) _ _ _ r b hb (by rw [foldB_one]; omega) ?_
        rw [if_neg g4]
        simp only [] at H
        rw [show p + 2 = p + 1 + ((1 : Nat) : Int) by omega] at H
        exact H
      · have ts : takeSize (bt s p) = 1 := by unfold takeSize; rw [if_neg g1, if_neg (by omega)]
        obtain rfl : m = 0 := by omega
        rw [if_neg g2] at H
        refine spec_after s out (by omega) _ _ _ r b hb (by simp only [foldB]; omega) ?_
        rw [if_neg g4]
        simp only [] at H
        rw [show p + 1 = p + 1 + ((0 : Nat) : Int) by omega] at H
        exact H
    by_cases g4 : bt s p = 4
    · exact Ev.step (fun k => by rw [spec_ReadCode.l1, if_neg (by omega), if_neg g1, if_pos g4]) (tail (bt s p == 4) (by simp [g4]))
    · exact Ev.step (fun k => by rw [spec_ReadCode.l1, if_neg (by omega), if_neg g1, if_neg g4]) (tail (bt s p == 5) (by simp [g4]))
  by_cases g1 : bt s p = 1
  · exact Ev.step (fun k => by rw [spec_ReadCode.j1, if_pos rfl, if_pos h0, if_pos h1, bt_wrap, if_pos g1, hw] <;> rfl) (go 5 (by rw [g1]; rfl))
  by_cases g2 : bt s p = 2
  · exact Ev.step (fun k => by rw [spec_ReadCode.j1, if_pos rfl, if_pos h0, if_pos h1, bt_wrap, if_neg g1, if_pos g2, hw] <;> rfl) (go 1 (by rw [g2]; rfl))
  by_cases g3 : bt s p = 3
  · exact Ev.step (fun k => by rw [spec_ReadCode.j1, if_pos rfl, if_pos h0, if_pos h1, bt_wrap, if_neg g1, if_neg g2, if_pos g3, hw] <;> rfl) (go 1 (by rw [g3]; rfl))
  by_cases g4 : bt s p = 4
  · exact Ev.step (fun k => by rw [spec_ReadCode.j1, if_pos rfl, if_pos h0, if_pos h1, bt_wrap, if_neg g1, if_neg g2, if_neg g3, if_pos g4, hw] <;> rfl) (go 1 (by rw [g4]; rfl))
  by_cases g5 : bt s p = 5
  · exact Ev.step (fun k => by rw [spec_ReadCode.j1, if_pos rfl, if_pos h0, if_pos h1, bt_wrap, if_neg g1, if_neg g2, if_neg g3, if_neg g4, if_pos g5, hw] <;> rfl) (go 1 (by rw [g5]; rfl))
  by_cases g6 : bt s p = 6
  · exact Ev.step (fun k => by rw [spec_ReadCode.j1, if_pos rfl, if_pos h0, if_pos h1, bt_wrap, if_neg g1, if_neg g2, if_neg g3, if_neg g4, if_neg g5, if_pos g6, hw] <;> rfl) (go 1 (by rw [g6]; rfl))
  by_cases g7 : bt s p = 7
  · exact Ev.step (fun k => by rw [spec_ReadCode.j1, if_pos rfl, if_pos h0, if_pos h1, bt_wrap, if_neg g1, if_neg g2, if_neg g3, if_neg g4, if_neg g5, if_neg g6, if_pos g7, hw] <;> rfl) (go 1 (by rw [g7]; rfl))
  · exact Ev.step (fun k => by rw [spec_ReadCode.j1, if_pos rfl, if_pos h0, if_pos h1, bt_wrap, if_neg g1, if_neg g2, if_neg g3, if_neg g4, if_neg g5, if_neg g6, if_neg g7, hw] <;> rfl) (go 0 (by unfold takeSize; rw [if_neg g1, if_neg (by omega)]; rfl))
theorem long_bad (out : List S63) (h : (out.length : Int) = 121) : outOf out = ([], false) := by
  unfold outOf goodCode inB
  rw [if_neg (by simp; omega)]
theorem out_text (out : List S63) (h : ∀ y ∈ out, (y.f2.size : Int) ≤ 1048576) : ∀ y ∈ (outOf out).1, (y.f2.size : Int) ≤ 1048576 := by
  unfold outOf
  split
  · exact h
  · simp
theorem ReadCode_l0 (s : ByteArray) (hs : (s.size : Int) ≤ 1048576) : ∀ (d : Nat) (p : Int) (out : List S63), 0 ≤ p → p ≤ s.size → (s.size : Int) - p ≤ d → (out.length : Int) ≤ 120 → bytesOf s = out.flatMap encBc ++ (bytesOf s).drop p.toNat → (∀ y ∈ out, (y.f2.size : Int) ≤ 1048576) →
    ∃ r : List S63 × Bool, (r.1.length : Int) ≤ 120 ∧ (∀ y ∈ r.1, (y.f2.size : Int) ≤ 1048576) ∧ Ev (fun k => impl_ReadCode.l0 k (s.extract p.toNat s.size) out) r ∧ Ev (fun k => spec_ReadCode.l0 k s out p) r := by
  intro d
  induction d with
  | zero =>
    intro p out h0 h1 h2 h3 h4 h5
    have e : p = s.size := by omega
    subst e
    refine ⟨outOf out, ?_, out_text out h5, impl_end _ out ?_, ?_⟩
    · unfold outOf; split <;> simp; omega
    · rw [ByteArray.toList_eq]
      have : (s.extract (s.size : Int).toNat s.size).size = 0 := by rw [ByteArray.size_extract]; omega
      exact List.eq_nil_of_length_eq_zero (by rw [data_length]; exact this)
    · refine Ev.step (f := fun k => spec_ReadCode.j1 k s out s.size false) (fun k => by rw [spec_ReadCode.l0, if_neg (by omega)]) (spec_end s _ out (by omega) fun _ => ?_)
      rw [List.drop_eq_nil_of_le (by rw [bytesOf_length]; omega), List.append_nil] at h4
      exact h4.symm
  | succ d ih =>
    intro p out h0 h1 h2 h3 h4 h5
    by_cases c : p = s.size
    · subst c
      refine ⟨outOf out, ?_, out_text out h5, impl_end _ out ?_, ?_⟩
      · unfold outOf; split <;> simp; omega
      · rw [ByteArray.toList_eq]
        have : (s.extract (s.size : Int).toNat s.size).size = 0 := by rw [ByteArray.size_extract]; omega
        exact List.eq_nil_of_length_eq_zero (by rw [data_length]; exact this)
      · refine Ev.step (f := fun k => spec_ReadCode.j1 k s out s.size false) (fun k => by rw [spec_ReadCode.l0, if_neg (by omega)]) (spec_end s _ out (by omega) fun _ => ?_)
        rw [List.drop_eq_nil_of_le (by rw [bytesOf_length]; omega), List.append_nil] at h4
        exact h4.symm
    have h1' : p < (s.size : Int) := by omega
    have hne : ¬ (s.extract p.toNat s.size).toList = [] := by
      intro h
      rw [ByteArray.toList_eq] at h
      have := data_length (s.extract p.toNat s.size)
      rw [h, ByteArray.size_extract] at this
      simp at this
      omega
    have ht := takeBc_tk s hs p h0 h1'
    cases htk : tk s p with
    | none =>
      refine ⟨([], false), by simp, by simp, ?_, spec_one s hs out h3 p h0 h1' _ (by rw [htk])⟩
      exact Ev.step (f := fun _ => some ([], false)) (fun k => by rw [impl_ReadCode.l0, if_neg hne, ht, htk, Option.bind_some]; rfl) (Ev.now _)
    | some q =>
      obtain ⟨x, m⟩ := q
      obtain ⟨m1, m6, hm, hx⟩ := tk_bytes s p h0 h1' x m htk
      have h4' : bytesOf s = (out ++ [x]).flatMap encBc ++ (bytesOf s).drop (p + m).toNat := by
        rw [List.flatMap_append, List.flatMap_cons, List.flatMap_nil, List.append_nil, List.append_assoc, ← hx]
        exact h4
      by_cases c120 : (out.length : Int) = 120
      · refine ⟨([], false), by simp, by simp, ?_, spec_one s hs out h3 p h0 h1' _ ?_⟩
        · exact Ev.step (f := fun _ => some ([], false)) (fun k => by rw [impl_ReadCode.l0, if_neg hne, ht, htk, Option.bind_some, if_neg (by simp only [tkOut]; omega), if_pos c120]) (Ev.now _)
        · rw [htk]
          have hl : ((out ++ [x]).length : Int) = 121 := by rw [List.length_append, List.length_singleton]; omega
          have hb := long_bad (out ++ [x]) hl
          have e := spec_end s (p + m) (out ++ [x]) (by omega) (fun h => by
            unfold outOf at hb
            rw [if_pos h] at hb
            simp at hb)
          rw [hb] at e
          refine Ev.step (f := fun k => spec_ReadCode.j1 k s (out ++ [x]) (p + m) false) (fun k => ?_) e
          rw [spec_ReadCode.l0]
          split
          · rw [decide_eq_false (by omega)]
          · rfl
      · obtain ⟨r, hr, hr2, e1, e2⟩ := ih (p + m) (out ++ [x]) (by omega) hm (by omega) (by rw [List.length_append, List.length_singleton]; omega) h4' (by
          intro y hy
          rcases List.mem_append.1 hy with hy | hy
          · exact h5 y hy
          · rw [List.mem_singleton.1 hy]; exact tk_text s p x m htk)
        refine ⟨r, hr, hr2, ?_, spec_one s hs out h3 p h0 h1' r (by rw [htk]; exact e2)⟩
        have ee : (s.extract p.toNat s.size).extract m.toNat (s.extract p.toNat s.size).size = s.extract (p + m).toNat s.size := by
          rw [ByteArray.extract_extract, ByteArray.size_extract]
          congr 1 <;> omega
        rw [← ee] at e1
        refine Ev.step (fun k => ?_) e1
        rw [impl_ReadCode.l0, if_neg hne, ht, htk, Option.bind_some]
        rw [if_neg (show ¬ (tkOut (some (x, m))).2.2.2 = 0 from (by show ¬ m = 0; omega)), if_neg c120, if_pos (by omega), if_pos (show 0 ≤ (tkOut (some (x, m))).2.2.2 from (by show 0 ≤ m; omega)),
          if_pos (show (tkOut (some (x, m))).2.2.2 ≤ _ from (by show m ≤ _; rw [ByteArray.size_extract]; omega))]
        rfl
theorem ReadCode_both (s : ByteArray) (hs : (s.size : Int) ≤ 1048576) : ∃ r : List S63 × Bool, (r.1.length : Int) ≤ 120 ∧ (∀ y ∈ r.1, (y.f2.size : Int) ≤ 1048576) ∧ Ev (fun k => impl_ReadCode.f k s) r ∧ Ev (fun k => spec_ReadCode.f k s) r := by
  obtain ⟨r, hr, hr2, e1, e2⟩ := ReadCode_l0 s hs s.size 0 [] (by omega) (by omega) (by omega) (by simp) (by simp) (by simp)
  have e : s.extract (0 : Int).toNat s.size = s := by simp
  rw [e] at e1
  exact ⟨r, hr, hr2, e1, e2⟩
theorem FnExactReadCode : laws_FnExactReadCode.Pure0 := by
  intro s h0
  apply Ev.rounds
  unfold laws_FnExactReadCode.f
  by_cases c : (s.size : Int) > 1048576
  · exact ev_if_pos c (Ev.now _)
  refine ev_if_neg c ?_
  obtain ⟨⟨q1, q2⟩, hr, hr2, e1, e2⟩ := ReadCode_both s (by omega)
  have hl : (q1.length : Int) ≤ 1048576 := by
    have h9 : (q1.length : Int) ≤ 120 := hr
    omega
  have hqe := eqBcS_ev q1 hl hr2
  have hm := markBcS_ev q1 1 hl (by omega) (by omega)
  have hh := heldBcS_ev q1.length 1 hl (by omega) (by omega)
  refine Ev.bind e2 (Ev.bind e1 (Ev.bind hqe (ev_if_pos rfl ?_)))
  rw [bne_self_eq_false]
  refine Ev.step (fun k => by rw [laws_FnExactReadCode.j0, if_neg (by simp)]) ?_
  refine Ev.bind hm (Ev.bind hh (ev_if_neg (by omega) (ev_if_pos rfl (Ev.bind e1 (Ev.bind hqe (ev_if_pos rfl ?_))))))
  rw [bne_self_eq_false]
  refine Ev.step (fun k => by rw [laws_FnExactReadCode.j1, if_neg (by simp)]) ?_
  exact Ev.bind hh (ev_if_neg (by omega) (ev_if_pos rfl (Ev.now _)))
end Go.Proofs.Ytcbgiccgiegdbab.Pure
