/- FnCodeBytes: code comes back from its bytes, and these from it, for drawn code and bytes; no condition. -/
import Derived.Test.YtipolnpffmfmmabKDFnCodeBytes
namespace Go.Proofs.Ytipolnpffmfmmab.Pure
open Go.RowKit Go.Proofs.Ytipolnpffmfmmab.PFnCodeBytes Go.Proofs.YtipolnpffmfmmabW.PrintWords Go.Proofs.YtipolnpffmfmmabW.PrintLast Go.Proofs.YtipolnpffmfmmabO
set_option linter.unusedVariables false
set_option linter.unusedSimpArgs false
theorem wrap_id {n : Int} (h0 : -9223372036854775808 ≤ n) (h1 : n ≤ 9223372036854775807) : wrap64 n = n := by
  unfold wrap64
  omega
theorem take_set_succ {α : Type} (l : List α) (i : Nat) (y : α) (h : i < l.length) : (l.set i y).take (i + 1) = l.take i ++ [y] := by
  rw [List.take_succ_eq_append_getElem (by simpa using h), List.take_set_of_le (Nat.le_refl i)]
  simp
theorem nat_set {α : Type} (l : List α) (i : Int) (y : α) (h0 : 0 ≤ i) (h : i < (l.length : Int)) : (l.set i.toNat y).take (i + 1).toNat = l.take i.toNat ++ [y] := by
  rw [show (i + 1).toNat = i.toNat + 1 by omega]
  exact take_set_succ l i.toNat y (by omega)
theorem drop_getD {α : Type} (l : List α) (d : α) (i : Int) (h0 : 0 ≤ i) (h : i < (l.length : Int)) : l.drop i.toNat = l.getD i.toNat d :: l.drop (i + 1).toNat := by
  rw [show (i + 1).toNat = i.toNat + 1 by omega]
  have h1 : i.toNat < l.length := by omega
  rw [List.drop_eq_getElem_cons h1, List.getD_eq_getElem?_getD, List.getElem?_eq_getElem h1]
  rfl
theorem getD_mem {α : Type} (l : List α) (d : α) (i : Int) (h0 : 0 ≤ i) (h : i < (l.length : Int)) : l.getD i.toNat d ∈ l := by
  have h1 : i.toNat < l.length := by omega
  rw [List.getD_eq_getElem?_getD, List.getElem?_eq_getElem h1]
  exact List.getElem_mem h1
theorem ev_if_pos {α : Type} {c : Prop} [Decidable c] {f g : Nat → Option α} {r : α} (h : c) (e : Ev f r) : Ev (fun k => if c then f k else g k) r := by
  simp only [if_pos h]
  exact e
theorem ev_if_neg {α : Type} {c : Prop} [Decidable c] {f g : Nat → Option α} {r : α} (h : ¬ c) (e : Ev g r) : Ev (fun k => if c then f k else g k) r := by
  simp only [if_neg h]
  exact e
theorem Ev.eq {α : Type} {g : Nat → Option α} {r s : α} (h : Ev g r) (e : r = s) : Ev g s := e ▸ h


theorem spec_l2Strength_f (k : Nat) (a0 : ByteArray) : spec_l2Strength.f (k + 4) a0 = some (strengthL a0.toList).1 := by
  unfold strengthL
  by_cases h0 : a0.toList = [124, 124]
  · simp [spec_l2Strength.f, spec_l2Strength.j0, spec_l2Strength.j1, spec_l2Strength.j2, spec_l2Strength.j3, h0]
  by_cases h1 : a0.toList = [38, 38]
  · simp [spec_l2Strength.f, spec_l2Strength.j0, spec_l2Strength.j1, spec_l2Strength.j2, spec_l2Strength.j3, h1]
  by_cases h2 : a0.toList = [61, 61]
  · simp [spec_l2Strength.f, spec_l2Strength.j0, spec_l2Strength.j1, spec_l2Strength.j2, spec_l2Strength.j3, h2]
  by_cases h3 : a0.toList = [33, 61]
  · simp [spec_l2Strength.f, spec_l2Strength.j0, spec_l2Strength.j1, spec_l2Strength.j2, spec_l2Strength.j3, h3]
  by_cases h4 : a0.toList = [60]
  · simp [spec_l2Strength.f, spec_l2Strength.j0, spec_l2Strength.j1, spec_l2Strength.j2, spec_l2Strength.j3, h4]
  by_cases h5 : a0.toList = [60, 61]
  · simp [spec_l2Strength.f, spec_l2Strength.j0, spec_l2Strength.j1, spec_l2Strength.j2, spec_l2Strength.j3, h5]
  by_cases h6 : a0.toList = [43]
  · simp [spec_l2Strength.f, spec_l2Strength.j0, spec_l2Strength.j1, spec_l2Strength.j2, spec_l2Strength.j3, h6]
  by_cases h7 : a0.toList = [45]
  · simp [spec_l2Strength.f, spec_l2Strength.j0, spec_l2Strength.j1, spec_l2Strength.j2, spec_l2Strength.j3, h7]
  by_cases h8 : a0.toList = [42]
  · simp [spec_l2Strength.f, spec_l2Strength.j0, spec_l2Strength.j1, spec_l2Strength.j2, spec_l2Strength.j3, h8]
  by_cases h9 : a0.toList = [47]
  · simp [spec_l2Strength.f, spec_l2Strength.j0, spec_l2Strength.j1, spec_l2Strength.j2, spec_l2Strength.j3, h9]
  by_cases h10 : a0.toList = [37]
  · simp [spec_l2Strength.f, spec_l2Strength.j0, spec_l2Strength.j1, spec_l2Strength.j2, spec_l2Strength.j3, h10]
  by_cases h11 : a0.toList = [60, 60]
  · simp [spec_l2Strength.f, spec_l2Strength.j0, spec_l2Strength.j1, spec_l2Strength.j2, spec_l2Strength.j3, h11]
  simp [spec_l2Strength.f, spec_l2Strength.j0, spec_l2Strength.j1, spec_l2Strength.j2, spec_l2Strength.j3, h0, h1, h2, h3, h4, h5, h6, h7, h8, h9, h10, h11]
theorem isTwoB_lt (t : List UInt8) : decide ((strengthL t).1 > 2) = isTwoB t := by
  unfold isTwoB strengthL
  by_cases h0 : t = [124, 124]
  · simp [h0]
  by_cases h1 : t = [38, 38]
  · simp [h1]
  by_cases h2 : t = [61, 61]
  · simp [h2]
  by_cases h3 : t = [33, 61]
  · simp [h3]
  by_cases h4 : t = [60]
  · simp [h4]
  by_cases h5 : t = [60, 61]
  · simp [h5]
  by_cases h6 : t = [43]
  · simp [h6]
  by_cases h7 : t = [45]
  · simp [h7]
  by_cases h8 : t = [42]
  · simp [h8]
  by_cases h9 : t = [47]
  · simp [h9]
  by_cases h10 : t = [37]
  · simp [h10]
  by_cases h11 : t = [60, 60]
  · simp [h11]
  simp [h0, h1, h2, h3, h4, h5, h6, h7, h8, h9, h10, h11]
theorem l1In_f (a b c : Int) : spec_l1In.f a b c = some (inB a b c) := by
  unfold spec_l1In.f inB
  by_cases h : a ≥ b <;> simp [h] <;> omega
theorem spec_l16One_ev (n : Int) (h0 : 0 ≤ n) (h1 : n ≤ 1048576) (x : S90) : Ev (fun k => spec_l16One.f k x.f0 x.f1 x.f2 n) (bcGood n x) := by
  refine ⟨9, fun k hk => ?_⟩
  obtain ⟨m, rfl⟩ : ∃ m, k = m + 9 := ⟨k - 9, by omega⟩
  have hw : wrap64 (n - 1) = n - 1 := wrap_id (by omega) (by omega)
  unfold spec_l16One.f bcGood spec_l2Bound.f
  rw [hw, l1In_f, Option.bind_some, Option.bind_some]
  by_cases h4 : x.f0 = 4
  · by_cases h : x.f1 = 0 <;> simp [h4, h, spec_l16One.j0, spec_l16Two.f, spec_l2Strength_f (m + 4), ← isTwoB_lt]
  by_cases h5 : x.f0 = 5
  · by_cases h : x.f1 = 0
    · by_cases g : x.f2.toList = [45] <;> simp [h5, h, g, spec_l16One.j0]
    · simp [h5, h, spec_l16One.j0]
  by_cases hn : x.f2.toList = []
  · by_cases g1 : x.f0 = 1
    · cases hi : inB x.f1 (-1000000000) 1000000000 <;> simp [g1, hn]
    by_cases g2 : x.f0 = 2
    · cases hi : inB x.f1 0 9 <;> simp [g2, hn, spec_l16One.j0, l1In_f, hi]
    by_cases g3 : x.f0 = 3
    · cases hi : inB x.f1 0 9 <;> simp [g3, hn, spec_l16One.j0, l1In_f, hi]
    by_cases g6 : x.f0 = 6
    · by_cases c1 : x.f1 ≥ 0
      · by_cases c2 : x.f1 < n
        · have e : inB x.f1 0 (n - 1) = true := by simp [inB]; omega
          simp [g6, hn, spec_l16One.j0, spec_l16One.j1, c1, c2, e]
        · have e : inB x.f1 0 (n - 1) = false := by simp [inB]; omega
          simp [g6, hn, spec_l16One.j0, spec_l16One.j1, c1, c2, e]
      · have e : inB x.f1 0 (n - 1) = false := by simp [inB]; omega
        simp [g6, hn, spec_l16One.j0, spec_l16One.j1, c1, e]
    by_cases g7 : x.f0 = 7
    · by_cases c1 : x.f1 ≥ 0
      · by_cases c2 : x.f1 < n
        · have e : inB x.f1 0 (n - 1) = true := by simp [inB]; omega
          simp [g7, hn, spec_l16One.j0, spec_l16One.j1, c1, c2, e]
        · have e : inB x.f1 0 (n - 1) = false := by simp [inB]; omega
          simp [g7, hn, spec_l16One.j0, spec_l16One.j1, c1, c2, e]
      · have e : inB x.f1 0 (n - 1) = false := by simp [inB]; omega
        simp [g7, hn, spec_l16One.j0, spec_l16One.j1, c1, e]
    by_cases g8 : x.f0 = 8
    · by_cases h : x.f1 = 0 <;> simp [g8, hn, h, spec_l16One.j0, spec_l16One.j1]
    by_cases g9 : x.f0 = 9
    · by_cases h : x.f1 = 0 <;> simp [g9, hn, h, spec_l16One.j0, spec_l16One.j1]
    simp [g1, g2, g3, h4, h5, g6, g7, g8, g9, hn, spec_l16One.j0, spec_l16One.j1]
  · by_cases g1 : x.f0 = 1
    · cases hi : inB x.f1 (-1000000000) 1000000000 <;> simp [g1, hn]
    by_cases g2 : x.f0 = 2
    · cases hi : inB x.f1 0 9 <;> simp [g2, hn, spec_l16One.j0, l1In_f, hi]
    by_cases g3 : x.f0 = 3
    · cases hi : inB x.f1 0 9 <;> simp [g3, hn, spec_l16One.j0, l1In_f, hi]
    by_cases g6 : x.f0 = 6
    · by_cases c1 : x.f1 ≥ 0 <;> by_cases c2 : x.f1 < n <;> simp [g6, hn, spec_l16One.j0, spec_l16One.j1, c1, c2]
    by_cases g7 : x.f0 = 7
    · by_cases c1 : x.f1 ≥ 0 <;> by_cases c2 : x.f1 < n <;> simp [g7, hn, spec_l16One.j0, spec_l16One.j1, c1, c2]
    by_cases g8 : x.f0 = 8
    · by_cases h : x.f1 = 0 <;> simp [g8, hn, h, spec_l16One.j0, spec_l16One.j1]
    by_cases g9 : x.f0 = 9
    · by_cases h : x.f1 = 0 <;> simp [g9, hn, h, spec_l16One.j0, spec_l16One.j1]
    simp [g1, g2, g3, h4, h5, g6, g7, g8, g9, hn, spec_l16One.j0, spec_l16One.j1]
theorem spec_GoodCode_l0 (l : List S90) (hl : (l.length : Int) ≤ 1048576) : ∀ (d : Nat) (i : Int), 0 ≤ i → i + d = l.length →
    Ev (fun k => spec_GoodCode.l0 k l l l.length i) (!(l.drop i.toNat).any (bcBad l.length) && inB l.length 1 120)
  | 0, i, h0, h1 => by
    have c : ¬ i < (l.length : Int) := by omega
    refine Ev.eq (Ev.step (f := fun _ => some (inB l.length 1 120)) (fun k => by rw [spec_GoodCode.l0, if_neg c, l1In_f] <;> rfl) (Ev.now _)) ?_
    rw [List.drop_eq_nil_of_le (by omega)]
    rfl
  | d + 1, i, h0, h1 => by
    have c : i < (l.length : Int) := by omega
    have hw : wrap64 (i + 1) = i + 1 := wrap_id (by omega) (by omega)
    have hd : l.drop i.toNat = rd_T90 l i :: l.drop (i + 1).toNat := drop_getD l _ i h0 c
    have ih := spec_GoodCode_l0 l hl d (i + 1) (by omega) (by omega)
    have e := spec_l16One_ev l.length (by omega) hl (rd_T90 l i)
    rw [hd, List.any_cons]
    cases hb : bcGood l.length (rd_T90 l i)
    · rw [hb] at e
      refine Ev.eq (r := false) (Ev.step (fun k => by rw [spec_GoodCode.l0, if_pos c, if_pos h0, if_pos c]) ?_) (by simp [bcBad, hb])
      exact Ev.bind e (ev_if_neg Bool.false_ne_true (Ev.now _))
    · rw [hb] at e
      refine Ev.eq (r := !(l.drop (i + 1).toNat).any (bcBad l.length) && inB l.length 1 120) (Ev.step (fun k => by rw [spec_GoodCode.l0, if_pos c, if_pos h0, if_pos c, hw]) ?_) (by simp [bcBad, hb])
      exact Ev.bind e (ev_if_pos rfl ih)
def goodCode (l : List S90) : Bool := inB l.length 1 120 && !l.any (bcBad l.length)
theorem spec_GoodCode_ev (l : List S90) (hl : (l.length : Int) ≤ 1048576) : Ev (fun k => spec_GoodCode.f k l) (goodCode l) := by
  refine Ev.eq (spec_GoodCode_l0 l hl l.length 0 (by omega) (by omega)) ?_
  unfold goodCode
  rw [Bool.and_comm]
  rfl
theorem impl_GoodCode_f (l : List S90) : impl_GoodCode.f l = some (goodCode l) := rfl
def signs : List ByteArray := [⟨#[43]⟩, ⟨#[45]⟩, ⟨#[42]⟩, ⟨#[47]⟩, ⟨#[37]⟩, ⟨#[60]⟩, ⟨#[60, 61]⟩, ⟨#[61, 61]⟩, ⟨#[33, 61]⟩, ⟨#[61]⟩, ⟨#[38, 38]⟩, ⟨#[124, 124]⟩, ⟨#[33]⟩, ⟨#[40]⟩, ⟨#[41]⟩, ⟨#[44]⟩, ⟨#[59]⟩, ⟨#[45, 62]⟩, ⟨#[60, 60]⟩]
theorem spec_signs : spec_l1Signs.f = some signs := rfl

def signIdx (t : List UInt8) : Int := idxB (fun z : ByteArray => z.toList == t) signs 0
theorem spec_sign_l0 (s : ByteArray) (l : List ByteArray) (hl : (l.length : Int) ≤ 1048576) : ∀ (d : Nat) (i : Int), 0 ≤ i → i + d = l.length →
    Ev (fun k => spec_l16Sign.l0 k s l l.length i) (idxB (fun z : ByteArray => z.toList == s.toList) (l.drop i.toNat) i)
  | 0, i, h0, h1 => by
    have c : ¬ i < (l.length : Int) := by omega
    rw [List.drop_eq_nil_of_le (by omega)]
    exact Ev.step (f := fun _ => some (-1)) (fun k => by rw [spec_l16Sign.l0, if_neg c]) (Ev.now _)
  | d + 1, i, h0, h1 => by
    have c : i < (l.length : Int) := by omega
    have hw : wrap64 (i + 1) = i + 1 := wrap_id (by omega) (by omega)
    have hd : l.drop i.toNat = rdOf ByteArray.empty l i :: l.drop (i + 1).toNat := drop_getD l _ i h0 c
    have ih := spec_sign_l0 s l hl d (i + 1) (by omega) (by omega)
    rw [hd, idxB]
    by_cases e : (rdOf ByteArray.empty l i).toList = s.toList
    · rw [if_pos (by simp [e])]
      exact Ev.step (f := fun _ => some i) (fun k => by rw [spec_l16Sign.l0, if_pos c, if_pos h0, if_pos c, if_pos e]) (Ev.now _)
    · rw [if_neg (by simp [e])]
      exact Ev.step (fun k => by rw [spec_l16Sign.l0, if_pos c, if_pos h0, if_pos c, if_neg e, hw]) ih
theorem spec_sign_ev (s : ByteArray) : Ev (fun k => spec_l16Sign.f k s) (signIdx s.toList) := by
  unfold spec_l16Sign.f
  rw [spec_signs]
  exact spec_sign_l0 s signs (by decide) signs.length 0 (by omega) (by omega)
/-- The bytes of a step. -/
def encBc (x : S90) : List Int := [x.f0 % 256] ++
  (if x.f0 = 1 then [(wrap64 (x.f1 + 1000000000) / 4294967296) % 256, (wrap64 (x.f1 + 1000000000) / 16777216) % 256, (wrap64 (x.f1 + 1000000000) / 65536) % 256, (wrap64 (x.f1 + 1000000000) / 256) % 256, wrap64 (x.f1 + 1000000000) % 256]
  else if x.f0 = 2 ∨ x.f0 = 3 ∨ x.f0 = 6 ∨ x.f0 = 7 then [x.f1 % 256] else if x.f0 = 4 ∨ x.f0 = 5 then [signIdx x.f2.toList % 256] else [])
theorem encBc_le (x : S90) : (encBc x).length ≤ 6 := by
  unfold encBc
  split
  · simp
  · split
    · simp
    · split <;> simp
theorem spec_bytes_step (l : List S90) (hl : (l.length : Int) ≤ 1048576) (i : Int) (h0 : 0 ≤ i) (c : i < (l.length : Int)) (acc : List Int) (ha : acc.length ≤ 6 * l.length) (r : ByteArray)
    (H : Ev (fun k => spec_l16Bytes.l0 k (acc ++ encBc (rd_T90 l i)) l l.length (i + 1)) r) : Ev (fun k => spec_l16Bytes.l0 k acc l l.length i) r := by
  have hw : wrap64 (i + 1) = i + 1 := wrap_id (by omega) (by omega)
  have c1 : acc.length < 140737488355328 := by omega
  generalize hx : rd_T90 l i = x at H
  have c2 : (acc ++ [x.f0 % 256]).length < 140737488355328 := by rw [List.length_append, List.length_singleton]; omega
  by_cases g1 : x.f0 = 1
  · have he : acc ++ encBc x = acc ++ [x.f0 % 256] ++ [(wrap64 (x.f1 + 1000000000) / 4294967296) % 256, (wrap64 (x.f1 + 1000000000) / 16777216) % 256, (wrap64 (x.f1 + 1000000000) / 65536) % 256, (wrap64 (x.f1 + 1000000000) / 256) % 256, wrap64 (x.f1 + 1000000000) % 256] := by unfold encBc; rw [if_pos g1, List.append_assoc]
    rw [he] at H
    refine Ev.step (fun k => ?_) H
    rw [spec_l16Bytes.l0, if_pos c, if_pos h0, if_pos c, if_pos c1, hx]
    simp only [Option.bind_some]
    rw [if_pos g1, if_pos (by simp; omega), hw]
  · have tail : ∀ b : Bool, (b = true ↔ (x.f0 = 2 ∨ x.f0 = 3 ∨ x.f0 = 6 ∨ x.f0 = 7)) → Ev (fun k => spec_l16Bytes.j1 k (acc ++ [x.f0 % 256]) l l.length i x.f0 b x.f0 x.f1 x.f2) r := by
      intro b hb
      cases b
      · have hno : ¬ (x.f0 = 2 ∨ x.f0 = 3 ∨ x.f0 = 6 ∨ x.f0 = 7) := fun h => by simpa using hb.2 h
        by_cases g4 : x.f0 = 4
        · have he : acc ++ encBc x = acc ++ [x.f0 % 256] ++ [signIdx x.f2.toList % 256] := by unfold encBc; rw [if_neg g1, if_neg hno, if_pos (.inl g4), List.append_assoc]
          rw [he] at H
          refine Ev.step (fun k => by rw [spec_l16Bytes.j1, if_neg (by simp), if_pos g4]) ?_
          refine Ev.bind (spec_sign_ev x.f2) (ev_if_pos c2 ?_)
          rw [hw]
          exact H
        · by_cases g5 : x.f0 = 5
          · have he : acc ++ encBc x = acc ++ [x.f0 % 256] ++ [signIdx x.f2.toList % 256] := by unfold encBc; rw [if_neg g1, if_neg hno, if_pos (.inr g5), List.append_assoc]
            rw [he] at H
            refine Ev.step (fun k => by rw [spec_l16Bytes.j1, if_neg (by simp), if_neg g4, if_pos g5]) ?_
            refine Ev.bind (spec_sign_ev x.f2) (ev_if_pos c2 ?_)
            rw [hw]
            exact H
          · have he : acc ++ encBc x = acc ++ [x.f0 % 256] := by unfold encBc; rw [if_neg g1, if_neg hno, if_neg (by omega), List.append_nil]
            rw [he] at H
            exact Ev.step (fun k => by rw [spec_l16Bytes.j1, if_neg (by simp), if_neg g4, if_neg g5, hw]) H
      · have hy := hb.1 rfl
        have he : acc ++ encBc x = acc ++ [x.f0 % 256] ++ [x.f1 % 256] := by unfold encBc; rw [if_neg g1, if_pos hy, List.append_assoc]
        rw [he] at H
        exact Ev.step (fun k => by rw [spec_l16Bytes.j1, if_pos rfl, if_pos c2, hw]) H
    have go : ∀ b : Bool, (∀ k, spec_l16Bytes.l0 (k + 1) acc l l.length i = spec_l16Bytes.j1 k (acc ++ [x.f0 % 256]) l l.length i x.f0 b x.f0 x.f1 x.f2) → (b = true ↔ (x.f0 = 2 ∨ x.f0 = 3 ∨ x.f0 = 6 ∨ x.f0 = 7)) → Ev (fun k => spec_l16Bytes.l0 k acc l l.length i) r :=
      fun b e hb => Ev.step e (tail b hb)
    by_cases g2 : x.f0 = 2
    · refine go (x.f0 == 2) (fun k => ?_) (by simp [g2])
      rw [spec_l16Bytes.l0, if_pos c, if_pos h0, if_pos c, if_pos c1, hx]
      simp only [Option.bind_some]
      rw [if_neg g1, if_pos g2]
    by_cases g3 : x.f0 = 3
    · refine go (x.f0 == 3) (fun k => ?_) (by simp [g3])
      rw [spec_l16Bytes.l0, if_pos c, if_pos h0, if_pos c, if_pos c1, hx]
      simp only [Option.bind_some]
      rw [if_neg g1, if_neg g2, if_pos g3]
    by_cases g6 : x.f0 = 6
    · refine go (x.f0 == 6) (fun k => ?_) (by simp [g6])
      rw [spec_l16Bytes.l0, if_pos c, if_pos h0, if_pos c, if_pos c1, hx]
      simp only [Option.bind_some]
      rw [if_neg g1, if_neg g2, if_neg g3, if_pos g6]
    · refine go (x.f0 == 7) (fun k => ?_) (by simp [g2, g3, g6])
      rw [spec_l16Bytes.l0, if_pos c, if_pos h0, if_pos c, if_pos c1, hx]
      simp only [Option.bind_some]
      rw [if_neg g1, if_neg g2, if_neg g3, if_neg g6]
theorem spec_bytes_l0 (l : List S90) (hl : (l.length : Int) ≤ 1048576) : ∀ (d : Nat) (i : Int) (acc : List Int), 0 ≤ i → i + d = l.length → acc.length ≤ 6 * i.toNat →
    Ev (fun k => spec_l16Bytes.l0 k acc l l.length i) (strOfNums (acc ++ (l.drop i.toNat).flatMap encBc))
  | 0, i, acc, h0, h1, ha => by
    have c : ¬ i < (l.length : Int) := by omega
    rw [List.drop_eq_nil_of_le (by omega), List.flatMap_nil, List.append_nil]
    exact Ev.step (f := fun _ => some (strOfNums acc)) (fun k => by rw [spec_l16Bytes.l0, if_neg c]) (Ev.now _)
  | d + 1, i, acc, h0, h1, ha => by
    have c : i < (l.length : Int) := by omega
    have hd : l.drop i.toNat = rd_T90 l i :: l.drop (i + 1).toNat := drop_getD l _ i h0 c
    have hle := encBc_le (rd_T90 l i)
    have ih := spec_bytes_l0 l hl d (i + 1) (acc ++ encBc (rd_T90 l i)) (by omega) (by omega) (by rw [List.length_append]; omega)
    rw [hd, List.flatMap_cons, ← List.append_assoc]
    exact spec_bytes_step l hl i h0 c acc (by omega) _ ih
def codeBytes (l : List S90) : ByteArray := strOfNums (l.flatMap encBc)
theorem spec_bytes_ev (l : List S90) (hl : (l.length : Int) ≤ 1048576) : Ev (fun k => spec_l16Bytes.f k l) (codeBytes l) := spec_bytes_l0 l hl l.length 0 [] (by omega) (by omega) (by simp)
theorem impl_signs : impl_SignsOf.f = some signs := rfl
theorem index_l0 (s : ByteArray) (l : List ByteArray) (hl : (l.length : Int) ≤ 1048576) : ∀ (d : Nat) (i : Int), 0 ≤ i → i + d = l.length →
    Ev (fun k => slices_Index_string_string.l0 k l s l.length i) (idxB (fun z : ByteArray => z.toList == s.toList) (l.drop i.toNat) i)
  | 0, i, h0, h1 => by
    have c : ¬ i < (l.length : Int) := by omega
    rw [List.drop_eq_nil_of_le (by omega)]
    exact Ev.step (f := fun _ => some (-1)) (fun k => by rw [slices_Index_string_string.l0, if_neg c]) (Ev.now _)
  | d + 1, i, h0, h1 => by
    have c : i < (l.length : Int) := by omega
    have hw : wrap64 (i + 1) = i + 1 := wrap_id (by omega) (by omega)
    have hd : l.drop i.toNat = rdOf ByteArray.empty l i :: l.drop (i + 1).toNat := drop_getD l _ i h0 c
    have ih := index_l0 s l hl d (i + 1) (by omega) (by omega)
    rw [hd, idxB]
    by_cases e : s.toList = (rdOf ByteArray.empty l i).toList
    · rw [if_pos (by simp [e])]
      exact Ev.step (f := fun _ => some i) (fun k => by rw [slices_Index_string_string.l0, if_pos c, if_pos h0, if_pos c, if_pos e]) (Ev.now _)
    · rw [if_neg (by simp [Ne.symm e])]
      exact Ev.step (fun k => by rw [slices_Index_string_string.l0, if_pos c, if_pos h0, if_pos c, if_neg e, hw]) ih
theorem index_ev (s : ByteArray) : Ev (fun k => slices_Index_string_string.f k signs s) (signIdx s.toList) := index_l0 s signs (by decide) signs.length 0 (by omega) (by omega)
theorem impl_bytes_step (l : List S90) (hl : (l.length : Int) ≤ 1048576) (i : Int) (h0 : 0 ≤ i) (c : i < (l.length : Int)) (acc : List Int) (ha : acc.length ≤ 6 * l.length) (r : ByteArray × Bool)
    (H : Ev (fun k => impl_CodeBytes.l0 k (acc ++ encBc (rd_T90 l i)) l l.length (i + 1)) r) : Ev (fun k => impl_CodeBytes.l0 k acc l l.length i) r := by
  have hw : wrap64 (i + 1) = i + 1 := wrap_id (by omega) (by omega)
  have c1 : acc.length < 140737488355328 := by omega
  generalize hx : rd_T90 l i = x at H
  have c2 : (acc ++ [x.f0 % 256]).length < 140737488355328 := by rw [List.length_append, List.length_singleton]; omega
  by_cases g1 : x.f0 = 1
  · have he : acc ++ encBc x = acc ++ [x.f0 % 256] ++ [(wrap64 (x.f1 + 1000000000) / 4294967296) % 256, (wrap64 (x.f1 + 1000000000) / 16777216) % 256, (wrap64 (x.f1 + 1000000000) / 65536) % 256, (wrap64 (x.f1 + 1000000000) / 256) % 256, wrap64 (x.f1 + 1000000000) % 256] := by unfold encBc; rw [if_pos g1, List.append_assoc]
    rw [he] at H
    refine Ev.step (fun k => ?_) H
    rw [impl_CodeBytes.l0, if_pos c, if_pos h0, if_pos c, if_pos c1, hx]
    simp only [Option.bind_some]
    rw [if_pos g1, if_pos (by simp; omega), hw]
  · have tail2 : ∀ b : Bool, ¬ (x.f0 = 2 ∨ x.f0 = 3 ∨ x.f0 = 6 ∨ x.f0 = 7) → (b = true ↔ (x.f0 = 4 ∨ x.f0 = 5)) → Ev (fun k => impl_CodeBytes.j2 k (acc ++ [x.f0 % 256]) l l.length i b x.f0 x.f1 x.f2) r := by
      intro b hno hb
      cases b
      · have hn2 : ¬ (x.f0 = 4 ∨ x.f0 = 5) := fun h => by simpa using hb.2 h
        have he : acc ++ encBc x = acc ++ [x.f0 % 256] := by unfold encBc; rw [if_neg g1, if_neg hno, if_neg hn2, List.append_nil]
        rw [he] at H
        exact Ev.step (fun k => by rw [impl_CodeBytes.j2, if_neg (by simp), hw]) H
      · have he : acc ++ encBc x = acc ++ [x.f0 % 256] ++ [signIdx x.f2.toList % 256] := by unfold encBc; rw [if_neg g1, if_neg hno, if_pos (hb.1 rfl), List.append_assoc]
        rw [he] at H
        refine Ev.step (fun k => by rw [impl_CodeBytes.j2, if_pos rfl, impl_signs, Option.bind_some]) ?_
        refine Ev.bind (index_ev x.f2) (ev_if_pos c2 ?_)
        rw [hw]
        exact H
    have tail : ∀ b : Bool, (b = true ↔ (x.f0 = 2 ∨ x.f0 = 3 ∨ x.f0 = 6 ∨ x.f0 = 7)) → Ev (fun k => impl_CodeBytes.j1 k (acc ++ [x.f0 % 256]) l l.length i x.f0 b x.f0 x.f1 x.f2) r := by
      intro b hb
      cases b
      · have hno : ¬ (x.f0 = 2 ∨ x.f0 = 3 ∨ x.f0 = 6 ∨ x.f0 = 7) := fun h => by simpa using hb.2 h
        by_cases g4 : x.f0 = 4
        · exact Ev.step (fun k => by rw [impl_CodeBytes.j1, if_neg (by simp), if_pos g4]) (tail2 (x.f0 == 4) hno (by simp [g4]))
        · exact Ev.step (fun k => by rw [impl_CodeBytes.j1, if_neg (by simp), if_neg g4]) (tail2 (x.f0 == 5) hno (by simp [g4]))
      · have hy := hb.1 rfl
        have he : acc ++ encBc x = acc ++ [x.f0 % 256] ++ [x.f1 % 256] := by unfold encBc; rw [if_neg g1, if_pos hy, List.append_assoc]
        rw [he] at H
        exact Ev.step (fun k => by rw [impl_CodeBytes.j1, if_pos rfl, if_pos c2, hw]) H
    have go : ∀ b : Bool, (∀ k, impl_CodeBytes.l0 (k + 1) acc l l.length i = impl_CodeBytes.j1 k (acc ++ [x.f0 % 256]) l l.length i x.f0 b x.f0 x.f1 x.f2) → (b = true ↔ (x.f0 = 2 ∨ x.f0 = 3 ∨ x.f0 = 6 ∨ x.f0 = 7)) → Ev (fun k => impl_CodeBytes.l0 k acc l l.length i) r :=
      fun b e hb => Ev.step e (tail b hb)
    by_cases g2 : x.f0 = 2
    · refine go (x.f0 == 2) (fun k => ?_) (by simp [g2])
      rw [impl_CodeBytes.l0, if_pos c, if_pos h0, if_pos c, if_pos c1, hx]
      simp only [Option.bind_some]
      rw [if_neg g1, if_pos g2]
    by_cases g3 : x.f0 = 3
    · refine go (x.f0 == 3) (fun k => ?_) (by simp [g3])
      rw [impl_CodeBytes.l0, if_pos c, if_pos h0, if_pos c, if_pos c1, hx]
      simp only [Option.bind_some]
      rw [if_neg g1, if_neg g2, if_pos g3]
    by_cases g6 : x.f0 = 6
    · refine go (x.f0 == 6) (fun k => ?_) (by simp [g6])
      rw [impl_CodeBytes.l0, if_pos c, if_pos h0, if_pos c, if_pos c1, hx]
      simp only [Option.bind_some]
      rw [if_neg g1, if_neg g2, if_neg g3, if_pos g6]
    · refine go (x.f0 == 7) (fun k => ?_) (by simp [g2, g3, g6])
      rw [impl_CodeBytes.l0, if_pos c, if_pos h0, if_pos c, if_pos c1, hx]
      simp only [Option.bind_some]
      rw [if_neg g1, if_neg g2, if_neg g3, if_neg g6]
theorem impl_bytes_l0 (l : List S90) (hl : (l.length : Int) ≤ 1048576) : ∀ (d : Nat) (i : Int) (acc : List Int), 0 ≤ i → i + d = l.length → acc.length ≤ 6 * i.toNat →
    Ev (fun k => impl_CodeBytes.l0 k acc l l.length i) (strOfNums (acc ++ (l.drop i.toNat).flatMap encBc), true)
  | 0, i, acc, h0, h1, ha => by
    have c : ¬ i < (l.length : Int) := by omega
    rw [List.drop_eq_nil_of_le (by omega), List.flatMap_nil, List.append_nil]
    exact Ev.step (f := fun _ => some (strOfNums acc, true)) (fun k => by rw [impl_CodeBytes.l0, if_neg c]) (Ev.now _)
  | d + 1, i, acc, h0, h1, ha => by
    have c : i < (l.length : Int) := by omega
    have hd : l.drop i.toNat = rd_T90 l i :: l.drop (i + 1).toNat := drop_getD l _ i h0 c
    have hle := encBc_le (rd_T90 l i)
    have ih := impl_bytes_l0 l hl d (i + 1) (acc ++ encBc (rd_T90 l i)) (by omega) (by omega) (by rw [List.length_append]; omega)
    rw [hd, List.flatMap_cons, ← List.append_assoc]
    exact impl_bytes_step l hl i h0 c acc (by omega) _ ih
def codeBytesOf (l : List S90) : ByteArray × Bool := if goodCode l = true then (codeBytes l, true) else (⟨#[]⟩, false)
theorem spec_CodeBytes_ev (l : List S90) (hl : (l.length : Int) ≤ 1048576) : Ev (fun k => spec_CodeBytes.f k l) (codeBytesOf l) := by
  unfold spec_CodeBytes.f codeBytesOf
  have hs := spec_GoodCode_ev l hl
  by_cases c : goodCode l = true
  · rw [if_pos c]
    rw [c] at hs
    exact Ev.bind hs (ev_if_pos rfl (Ev.bind (spec_bytes_ev l hl) (Ev.now _)))
  · rw [if_neg c]
    rw [Bool.eq_false_iff.2 c] at hs
    exact Ev.bind hs (ev_if_neg (by simp) (Ev.now _))
theorem impl_CodeBytes_ev (l : List S90) (hl : (l.length : Int) ≤ 1048576) : Ev (fun k => impl_CodeBytes.f k l) (codeBytesOf l) := by
  unfold impl_CodeBytes.f codeBytesOf
  have hs : Ev (fun _ => impl_GoodCode.f l) (goodCode l) := Ev.now _
  by_cases c : goodCode l = true
  · rw [if_pos c]
    rw [c] at hs
    refine Ev.bind hs (ev_if_pos rfl ?_)
    exact impl_bytes_l0 l hl l.length 0 [] (by omega) (by omega) (by simp)
  · rw [if_neg c]
    rw [Bool.eq_false_iff.2 c] at hs
    exact Ev.bind hs (ev_if_neg (by simp) (Ev.now _))
theorem or_byte (n b : Int) (h0 : 0 ≤ n) (h1 : n < 1099511627776) (b0 : 0 ≤ b) (b1 : b < 256) : Go.bits .or .i64 (wrap64 (n * 256)) b = n * 256 + b := by
  rw [wrap_id (by omega) (by omega)]
  exact bits_join .i64 62 (by decide) (fun x hx hy => by rw [IntKind.wrap_i64]; omega) 8 (n * 256) b (by omega) (by omega) (by omega) b0 (by omega) (by omega)
theorem bt_wrap (s : ByteArray) (i : Int) : wrap64 (bt s i) = bt s i := by
  have := bt_range s i
  exact wrap_id (by omega) (by omega)
theorem foldB_one (s : ByteArray) (i : Int) : foldB s 1 i 0 = bt s i := by
  have := bt_range s i
  rw [foldB, foldB, bt_wrap, or_byte 0 _ (by omega) (by omega) (by omega) (by omega)]
  omega
theorem foldB_five (s : ByteArray) (i : Int) : foldB s 5 i 0 = bt s i * 4294967296 + bt s (i + 1) * 16777216 + bt s (i + 1 + 1) * 65536 + bt s (i + 1 + 1 + 1) * 256 + bt s (i + 1 + 1 + 1 + 1) := by
  have h0 := bt_range s i
  have h1 := bt_range s (i + 1)
  have h2 := bt_range s (i + 1 + 1)
  have h3 := bt_range s (i + 1 + 1 + 1)
  have h4 := bt_range s (i + 1 + 1 + 1 + 1)
  simp only [foldB, bt_wrap]
  rw [or_byte 0 _ (by omega) (by omega) (by omega) (by omega), or_byte _ (bt s (i + 1)) (by omega) (by omega) (by omega) (by omega), or_byte _ (bt s (i + 1 + 1)) (by omega) (by omega) (by omega) (by omega),
    or_byte _ (bt s (i + 1 + 1 + 1)) (by omega) (by omega) (by omega) (by omega), or_byte _ (bt s (i + 1 + 1 + 1 + 1)) (by omega) (by omega) (by omega) (by omega)]
  omega
/-- The step at a place: what it is and how many bytes it has; none where they lack. -/
def tk (s : ByteArray) (p : Int) : Option (S90 × Int) :=
  if (s.size : Int) - p < takeSize (bt s p) then none
  else if bt s p = 1 then some (⟨bt s p, wrap64 (foldB s 5 (p + 1) 0 - 1000000000), ⟨#[]⟩⟩, 6)
  else if bt s p = 4 ∨ bt s p = 5 then (if foldB s 1 (p + 1) 0 ≥ 19 then none else some (⟨bt s p, 0, rdOf ByteArray.empty signsL (foldB s 1 (p + 1) 0)⟩, 2))
  else if bt s p = 2 ∨ bt s p = 3 ∨ bt s p = 6 ∨ bt s p = 7 then some (⟨bt s p, foldB s 1 (p + 1) 0, ⟨#[]⟩⟩, 2)
  else some (⟨bt s p, 0, ⟨#[]⟩⟩, 1)
theorem bt_ext (s : ByteArray) (p i : Int) (h0 : 0 ≤ p) (h1 : 0 ≤ i) (h2 : p + i < (s.size : Int)) : bt (s.extract p.toNat s.size) i = bt s (p + i) := by
  rw [bt_extract s p.toNat s.size i h1 (by rw [ByteArray.size_extract]; omega)]
  congr 1
  omega
theorem foldB_ext (s : ByteArray) (p : Int) (h0 : 0 ≤ p) : ∀ (d : Nat) (i n : Int), 0 ≤ i → p + i + d ≤ (s.size : Int) → foldB (s.extract p.toNat s.size) d i n = foldB s d (p + i) n
  | 0, i, n, h1, h2 => rfl
  | d + 1, i, n, h1, h2 => by
    rw [foldB, foldB, bt_ext s p i h0 h1 (by omega), foldB_ext s p h0 d (i + 1) _ (by omega) (by omega)]
    congr 1
    omega
def tkOut : Option (S90 × Int) → Int × Int × ByteArray × Int
  | none => (0, 0, ⟨#[]⟩, 0)
  | some (x, m) => (x.f0, x.f1, x.f2, m)
theorem takeBc_tk (s : ByteArray) (hs : (s.size : Int) ≤ 1048576) (p : Int) (h0 : 0 ≤ p) (h1 : p < (s.size : Int)) : impl_takeBc.f (s.extract p.toNat s.size) = some (tkOut (tk s p)) := by
  have e : (((s.extract p.toNat s.size).size : Nat) : Int) = (s.size : Int) - p := by rw [ByteArray.size_extract]; omega
  have eb := bt_ext s p 0 h0 (by omega) (by omega)
  rw [show p + 0 = p by omega] at eb
  have rb := bt_range s p
  unfold impl_takeBc.f
  rw [e, if_pos (by omega), if_pos (by omega), eb, bt_wrap]
  unfold takeBcIn tk
  rw [e]
  by_cases c : (s.size : Int) - p < takeSize (bt s p)
  · rw [if_pos c, if_pos c]; rfl
  rw [if_neg c, if_neg c]
  by_cases g1 : bt s p = 1
  · rw [if_pos g1, if_pos g1, foldB_ext s p h0 5 1 0 (by omega) (by rw [g1] at c; have : takeSize 1 = 6 := rfl; omega)]; rfl
  rw [if_neg g1, if_neg g1]
  by_cases g4 : bt s p = 4 ∨ bt s p = 5
  · have ts : takeSize (bt s p) = 2 := by unfold takeSize; rw [if_neg g1, if_pos (by omega)]
    rw [if_pos g4, if_pos g4, foldB_ext s p h0 1 1 0 (by omega) (by omega), foldB_one]
    have := bt_range s (p + 1)
    rw [if_pos (by omega)]
    by_cases g : bt s (p + 1) ≥ 19
    · rw [if_pos g, if_pos g]; rfl
    · rw [if_neg g, if_neg g]; rfl
  rw [if_neg g4, if_neg g4]
  by_cases g2 : bt s p = 2 ∨ bt s p = 3 ∨ bt s p = 6 ∨ bt s p = 7
  · have ts : takeSize (bt s p) = 2 := by unfold takeSize; rw [if_neg g1, if_pos (by omega)]
    rw [if_pos g2, if_pos g2, foldB_ext s p h0 1 1 0 (by omega) (by omega)]; rfl
  rw [if_neg g2, if_neg g2]; rfl
theorem signs_eq : signsL = signs := rfl
theorem signIdx_at : ∀ i : Fin 19, signIdx (rdOf ByteArray.empty signs (i.val : Int)).toList = (i.val : Int) := by
  simp only [signIdx, ByteArray.toList_eq]
  decide
theorem take_next (s : ByteArray) (p : Int) (h0 : 0 ≤ p) (h1 : p < (s.size : Int)) : (bytesOf s).drop p.toNat = bt s p :: (bytesOf s).drop (p + 1).toNat := by
  rw [← rd_bytesOf]
  exact drop_getD _ _ p h0 (by rw [bytesOf_length]; exact h1)
/-- A step's bytes are those it was read from. -/
theorem tk_bytes (s : ByteArray) (p : Int) (h0 : 0 ≤ p) (h1 : p < (s.size : Int)) (x : S90) (m : Int) (h : tk s p = some (x, m)) : 1 ≤ m ∧ m ≤ 6 ∧ p + m ≤ s.size ∧ (bytesOf s).drop p.toNat = encBc x ++ (bytesOf s).drop (p + m).toNat := by
  have rb := bt_range s p
  unfold tk at h
  by_cases c : (s.size : Int) - p < takeSize (bt s p)
  · rw [if_pos c] at h; cases h
  rw [if_neg c] at h
  by_cases g1 : bt s p = 1
  · rw [if_pos g1] at h
    have ts : takeSize (bt s p) = 6 := by rw [g1]; rfl
    obtain ⟨rfl, rfl⟩ := Prod.mk.inj (Option.some.inj h)
    refine ⟨by omega, by omega, by omega, ?_⟩
    have r1 := bt_range s (p + 1)
    have r2 := bt_range s (p + 1 + 1)
    have r3 := bt_range s (p + 1 + 1 + 1)
    have r4 := bt_range s (p + 1 + 1 + 1 + 1)
    have r5 := bt_range s (p + 1 + 1 + 1 + 1 + 1)
    rw [take_next s p h0 h1, take_next s (p + 1) (by omega) (by omega), take_next s (p + 1 + 1) (by omega) (by omega), take_next s (p + 1 + 1 + 1) (by omega) (by omega), take_next s (p + 1 + 1 + 1 + 1) (by omega) (by omega), take_next s (p + 1 + 1 + 1 + 1 + 1) (by omega) (by omega)]
    unfold encBc
    rw [foldB_five]
    simp only []
    rw [if_pos g1, wrap_id (n := _ - 1000000000) (by omega) (by omega), wrap_id (by omega) (by omega), show p + 1 + 1 + 1 + 1 + 1 + 1 = p + 6 by omega]
    simp only [List.cons_append, List.nil_append, List.cons.injEq, and_true]
    refine ⟨by omega, by omega, by omega, by omega, by omega, by omega⟩
  rw [if_neg g1] at h
  by_cases g4 : bt s p = 4 ∨ bt s p = 5
  · rw [if_pos g4, foldB_one] at h
    have ts : takeSize (bt s p) = 2 := by unfold takeSize; rw [if_neg g1, if_pos (by omega)]
    have r1 := bt_range s (p + 1)
    by_cases g : bt s (p + 1) ≥ 19
    · rw [if_pos g] at h; cases h
    rw [if_neg g] at h
    obtain ⟨rfl, rfl⟩ := Prod.mk.inj (Option.some.inj h)
    refine ⟨by omega, by omega, by omega, ?_⟩
    rw [take_next s p h0 h1, take_next s (p + 1) (by omega) (by omega)]
    unfold encBc
    simp only []
    have hi := signIdx_at ⟨(bt s (p + 1)).toNat, by omega⟩
    simp only [] at hi
    rw [show ((((bt s (p + 1)).toNat : Nat)) : Int) = bt s (p + 1) by omega] at hi
    rw [if_neg g1, if_neg (by omega), if_pos g4, signs_eq, hi, show p + 1 + 1 = p + 2 by omega]
    simp only [List.cons_append, List.nil_append, List.cons.injEq, and_true]
    exact ⟨by omega, by omega⟩
  rw [if_neg g4] at h
  by_cases g2 : bt s p = 2 ∨ bt s p = 3 ∨ bt s p = 6 ∨ bt s p = 7
  · rw [if_pos g2, foldB_one] at h
    have ts : takeSize (bt s p) = 2 := by unfold takeSize; rw [if_neg g1, if_pos (by omega)]
    have r1 := bt_range s (p + 1)
    obtain ⟨rfl, rfl⟩ := Prod.mk.inj (Option.some.inj h)
    refine ⟨by omega, by omega, by omega, ?_⟩
    rw [take_next s p h0 h1, take_next s (p + 1) (by omega) (by omega)]
    unfold encBc
    simp only []
    rw [if_neg g1, if_pos g2, show p + 1 + 1 = p + 2 by omega]
    simp only [List.cons_append, List.nil_append, List.cons.injEq, and_true]
    exact ⟨by omega, by omega⟩
  rw [if_neg g2] at h
  obtain ⟨rfl, rfl⟩ := Prod.mk.inj (Option.some.inj h)
  refine ⟨by omega, by omega, by omega, ?_⟩
  rw [take_next s p h0 h1]
  unfold encBc
  simp only []
  rw [if_neg g1, if_neg g2, if_neg g4]
  simp only [List.cons_append, List.nil_append, List.cons.injEq, and_true]
  omega
theorem signs_small : ∀ i : Fin 19, ((rdOf ByteArray.empty signs (i.val : Int)).size : Int) ≤ 2 := by decide
theorem tk_text (s : ByteArray) (p : Int) (x : S90) (m : Int) (h : tk s p = some (x, m)) : (x.f2.size : Int) ≤ 1048576 := by
  have z : (((⟨#[]⟩ : ByteArray).size : Nat) : Int) = 0 := rfl
  unfold tk at h
  split at h
  · cases h
  split at h
  · obtain ⟨rfl, rfl⟩ := Prod.mk.inj (Option.some.inj h)
    simp only [z]; omega
  split at h
  · rw [foldB_one] at h
    split at h
    · cases h
    · obtain ⟨rfl, rfl⟩ := Prod.mk.inj (Option.some.inj h)
      have r1 := bt_range s (p + 1)
      have hi := signs_small ⟨(bt s (p + 1)).toNat, by omega⟩
      simp only [] at hi
      rw [show ((((bt s (p + 1)).toNat : Nat)) : Int) = bt s (p + 1) by omega] at hi
      simp only [signs_eq]
      omega
  split at h
  · obtain ⟨rfl, rfl⟩ := Prod.mk.inj (Option.some.inj h)
    simp only [z]; omega
  · obtain ⟨rfl, rfl⟩ := Prod.mk.inj (Option.some.inj h)
    simp only [z]; omega
/-- How the reading ends: both the same, at what was read so far. -/
theorem strOf_bytes (s : ByteArray) : (strOfNums (bytesOf s)).toList = s.toList := by
  rw [ByteArray.toList_eq, ByteArray.toList_eq, strOfNums_data]
  unfold bytesOf
  rw [List.map_map]
  have e : ((fun n : Int => UInt8.ofNat n.toNat) ∘ fun b : UInt8 => (b.toNat : Int)) = id := by
    funext b
    simp
  rw [e, List.map_id]
def outOf (out : List S90) : List S90 × Bool := if goodCode out = true then (out, true) else ([], false)
theorem spec_end (s : ByteArray) (p : Int) (out : List S90) (hl : (out.length : Int) ≤ 1048576) (hb : goodCode out = true → out.flatMap encBc = bytesOf s) : Ev (fun k => spec_ReadCode.j1 k s out p false) (outOf out) := by
  refine Ev.step (fun k => by rw [spec_ReadCode.j1, if_neg (by simp)]) ?_
  have hs := spec_GoodCode_ev out hl
  unfold outOf
  by_cases c : goodCode out = true
  · rw [if_pos c]
    rw [c] at hs
    have e : (codeBytes out).toList = s.toList := by unfold codeBytes; rw [hb c, strOf_bytes]
    exact Ev.bind hs (ev_if_pos rfl (Ev.bind (spec_bytes_ev out hl) (ev_if_pos e (Ev.now _))))
  · rw [if_neg c]
    rw [Bool.eq_false_iff.2 c] at hs
    exact Ev.bind hs (ev_if_neg (by simp) (Ev.now _))
theorem impl_end (s : ByteArray) (out : List S90) (hs : s.toList = []) : Ev (fun k => impl_ReadCode.l0 k s out) (outOf out) := by
  unfold outOf
  by_cases c : goodCode out = true
  · rw [if_pos c]
    exact Ev.step (f := fun _ => some (out, true)) (fun k => by rw [impl_ReadCode.l0, if_pos hs, impl_GoodCode_f, Option.bind_some, if_pos c]) (Ev.now _)
  · rw [if_neg c]
    exact Ev.step (f := fun _ => some ([], false)) (fun k => by rw [impl_ReadCode.l0, if_pos hs, impl_GoodCode_f, Option.bind_some, if_neg c]) (Ev.now _)
theorem spec_read (s : ByteArray) (hs : (s.size : Int) ≤ 1048576) (out : List S90) (op t1 : Int) (t2 : ByteArray) (r : List S90 × Bool) : ∀ (m : Nat) (p n : Int), 0 ≤ p → p + m ≤ s.size →
    Ev (fun k => spec_ReadCode.l1 k s out (p + m) 0 (foldB s m p n) op t1 t2) r → Ev (fun k => spec_ReadCode.l1 k s out p m n op t1 t2) r
  | 0, p, n, h0, h1, H => by
    rw [show p + ((0 : Nat) : Int) = p by omega] at H
    exact H
  | m + 1, p, n, h0, h1, H => by
    have hw : wrap64 (p + 1) = p + 1 := wrap_id (by omega) (by omega)
    have hw2 : wrap64 (((m + 1 : Nat) : Int) - 1) = (m : Int) := by rw [wrap_id (by omega) (by omega)]; omega
    rw [foldB, show p + ((m + 1 : Nat) : Int) = p + 1 + (m : Int) by omega] at H
    have ih := spec_read s hs out op t1 t2 r m (p + 1) _ (by omega) (by omega) H
    exact Ev.step (fun k => by rw [spec_ReadCode.l1, if_pos (by omega), if_pos h0, if_pos (by omega), hw, hw2]) ih
theorem spec_after (s : ByteArray) (out : List S90) (hl : (out.length : Int) ≤ 1048576) (p n op : Int) (r : List S90 × Bool) (b : Bool) (hb : b = true ↔ (op = 4 ∨ op = 5)) (h0 : 0 ≤ n)
    (H : if op = 4 ∨ op = 5 then (if n ≥ 19 then r = ([], false) else Ev (fun k => spec_ReadCode.l0 k s (out ++ [⟨op, 0, rdOf ByteArray.empty signsL n⟩]) p) r) else Ev (fun k => spec_ReadCode.l0 k s (out ++ [⟨op, n, ⟨#[]⟩⟩]) p) r) :
    Ev (fun k => spec_ReadCode.j4 k s out p n b op 0 ⟨#[]⟩) r := by
  have hlen : (signs.length : Int) = 19 := rfl
  cases b
  · rw [if_neg (fun h => by simpa using hb.2 h)] at H
    exact Ev.step (fun k => by rw [spec_ReadCode.j4, if_neg (by simp), if_pos (by omega)]) H
  · rw [if_pos (hb.1 rfl)] at H
    by_cases g : n ≥ 19
    · rw [if_pos g] at H
      subst H
      exact Ev.step (f := fun _ => some ([], false)) (fun k => by rw [spec_ReadCode.j4, if_pos rfl, spec_signs, Option.bind_some, if_pos (by omega)]) (Ev.now _)
    · rw [if_neg g, signs_eq] at H
      exact Ev.step (fun k => by rw [spec_ReadCode.j4, if_pos rfl, spec_signs, Option.bind_some, if_neg (by omega), Option.bind_some, if_pos h0, if_pos (by omega), if_pos (by omega)]) H
theorem spec_one (s : ByteArray) (hs : (s.size : Int) ≤ 1048576) (out : List S90) (hl : (out.length : Int) ≤ 120) (p : Int) (h0 : 0 ≤ p) (h1 : p < (s.size : Int)) (r : List S90 × Bool)
    (H : match tk s p with | none => r = ([], false) | some (x, m) => Ev (fun k => spec_ReadCode.l0 k s (out ++ [x]) (p + m)) r) : Ev (fun k => spec_ReadCode.l0 k s out p) r := by
  have rb := bt_range s p
  have hw : wrap64 (p + 1) = p + 1 := wrap_id (by omega) (by omega)
  have hw2 : wrap64 ((s.size : Int) - (p + 1)) = (s.size : Int) - (p + 1) := wrap_id (by omega) (by omega)
  refine Ev.step (f := fun k => spec_ReadCode.j1 k s out p true) (fun k => by rw [spec_ReadCode.l0, if_pos h1, decide_eq_true (by omega)]) ?_
  -- behind the choice of how many bytes follow
  have go : ∀ m : Nat, (m : Int) = takeSize (bt s p) - 1 → Ev (fun k => spec_ReadCode.j2 k s out (p + 1) m (bt s p) 0 ⟨#[]⟩) r := by
    intro m hm
    unfold tk at H
    by_cases c : (s.size : Int) - p < takeSize (bt s p)
    · rw [if_pos c] at H
      subst H
      exact Ev.step (f := fun _ => some ([], false)) (fun k => by rw [spec_ReadCode.j2, hw2, if_pos (by omega)]) (Ev.now _)
    rw [if_neg c] at H
    refine Ev.step (fun k => by rw [spec_ReadCode.j2, hw2, if_neg (by omega)]) (spec_read s hs out _ _ _ r m (p + 1) 0 (by omega) (by omega) ?_)
    by_cases g1 : bt s p = 1
    · have ts : takeSize (bt s p) = 6 := by rw [g1]; rfl
      obtain rfl : m = 5 := by omega
      rw [if_pos g1] at H
      simp only [] at H
      rw [show p + 6 = p + 1 + ((5 : Nat) : Int) by omega] at H
      exact Ev.step (fun k => by rw [spec_ReadCode.l1, if_neg (by omega), if_pos g1, if_pos (by omega)]) H
    rw [if_neg g1] at H
    have tail : ∀ b : Bool, (b = true ↔ (bt s p = 4 ∨ bt s p = 5)) → Ev (fun k => spec_ReadCode.j4 k s out (p + 1 + m) (foldB s m (p + 1) 0) b (bt s p) 0 ⟨#[]⟩) r := by
      intro b hb
      have r1 := bt_range s (p + 1)
      by_cases g4 : bt s p = 4 ∨ bt s p = 5
      · have ts : takeSize (bt s p) = 2 := by unfold takeSize; rw [if_neg g1, if_pos (by omega)]
        obtain rfl : m = 1 := by omega
        rw [if_pos g4] at H
        refine spec_after s out (by omega) _ _ _ r b hb (by rw [foldB_one]; omega) ?_
        rw [if_pos g4]
        by_cases g : foldB s 1 (p + 1) 0 ≥ 19
        · rw [if_pos g] at H
          rw [if_pos g]
          exact H
        · rw [if_neg g] at H
          rw [if_neg g]
          simp only [] at H
          rw [show p + 2 = p + 1 + ((1 : Nat) : Int) by omega] at H
          exact H
      rw [if_neg g4] at H
      by_cases g2 : bt s p = 2 ∨ bt s p = 3 ∨ bt s p = 6 ∨ bt s p = 7
      · have ts : takeSize (bt s p) = 2 := by unfold takeSize; rw [if_neg g1, if_pos (by omega)]
        obtain rfl : m = 1 := by omega
        rw [if_pos g2] at H
        refine spec_after s out (by omega) _ _ _ r b hb (by rw [foldB_one]; omega) ?_
        rw [if_neg g4]
        simp only [] at H
        rw [show p + 2 = p + 1 + ((1 : Nat) : Int) by omega] at H
        exact H
      · have ts : takeSize (bt s p) = 1 := by unfold takeSize; rw [if_neg g1, if_neg (by omega)]
        obtain rfl : m = 0 := by omega
        rw [if_neg g2] at H
        refine spec_after s out (by omega) _ _ _ r b hb (by simp only [foldB]; omega) ?_
        rw [if_neg g4]
        simp only [] at H
        rw [show p + 1 = p + 1 + ((0 : Nat) : Int) by omega] at H
        exact H
    by_cases g4 : bt s p = 4
    · exact Ev.step (fun k => by rw [spec_ReadCode.l1, if_neg (by omega), if_neg g1, if_pos g4]) (tail (bt s p == 4) (by simp [g4]))
    · exact Ev.step (fun k => by rw [spec_ReadCode.l1, if_neg (by omega), if_neg g1, if_neg g4]) (tail (bt s p == 5) (by simp [g4]))
  by_cases g1 : bt s p = 1
  · exact Ev.step (fun k => by rw [spec_ReadCode.j1, if_pos rfl, if_pos h0, if_pos h1, bt_wrap, if_pos g1, hw] <;> rfl) (go 5 (by rw [g1]; rfl))
  by_cases g2 : bt s p = 2
  · exact Ev.step (fun k => by rw [spec_ReadCode.j1, if_pos rfl, if_pos h0, if_pos h1, bt_wrap, if_neg g1, if_pos g2, hw] <;> rfl) (go 1 (by rw [g2]; rfl))
  by_cases g3 : bt s p = 3
  · exact Ev.step (fun k => by rw [spec_ReadCode.j1, if_pos rfl, if_pos h0, if_pos h1, bt_wrap, if_neg g1, if_neg g2, if_pos g3, hw] <;> rfl) (go 1 (by rw [g3]; rfl))
  by_cases g4 : bt s p = 4
  · exact Ev.step (fun k => by rw [spec_ReadCode.j1, if_pos rfl, if_pos h0, if_pos h1, bt_wrap, if_neg g1, if_neg g2, if_neg g3, if_pos g4, hw] <;> rfl) (go 1 (by rw [g4]; rfl))
  by_cases g5 : bt s p = 5
  · exact Ev.step (fun k => by rw [spec_ReadCode.j1, if_pos rfl, if_pos h0, if_pos h1, bt_wrap, if_neg g1, if_neg g2, if_neg g3, if_neg g4, if_pos g5, hw] <;> rfl) (go 1 (by rw [g5]; rfl))
  by_cases g6 : bt s p = 6
  · exact Ev.step (fun k => by rw [spec_ReadCode.j1, if_pos rfl, if_pos h0, if_pos h1, bt_wrap, if_neg g1, if_neg g2, if_neg g3, if_neg g4, if_neg g5, if_pos g6, hw] <;> rfl) (go 1 (by rw [g6]; rfl))
  by_cases g7 : bt s p = 7
  · exact Ev.step (fun k => by rw [spec_ReadCode.j1, if_pos rfl, if_pos h0, if_pos h1, bt_wrap, if_neg g1, if_neg g2, if_neg g3, if_neg g4, if_neg g5, if_neg g6, if_pos g7, hw] <;> rfl) (go 1 (by rw [g7]; rfl))
  · exact Ev.step (fun k => by rw [spec_ReadCode.j1, if_pos rfl, if_pos h0, if_pos h1, bt_wrap, if_neg g1, if_neg g2, if_neg g3, if_neg g4, if_neg g5, if_neg g6, if_neg g7, hw] <;> rfl) (go 0 (by unfold takeSize; rw [if_neg g1, if_neg (by omega)]; rfl))
theorem long_bad (out : List S90) (h : (out.length : Int) = 121) : outOf out = ([], false) := by
  unfold outOf goodCode inB
  rw [if_neg (by simp; omega)]
def RdOk (s : ByteArray) (r : List S90 × Bool) : Prop := (∀ y ∈ r.1, (y.f2.size : Int) ≤ 1048576) ∧ (r.2 = true → goodCode r.1 = true ∧ r.1.flatMap encBc = bytesOf s)
theorem out_text (s : ByteArray) (out : List S90) (h : ∀ y ∈ out, (y.f2.size : Int) ≤ 1048576) (hb : bytesOf s = out.flatMap encBc ++ (bytesOf s).drop (s.size : Int).toNat) : RdOk s (outOf out) := by
  rw [List.drop_eq_nil_of_le (by rw [bytesOf_length]; omega), List.append_nil] at hb
  unfold outOf
  split
  · rename_i hg
    exact ⟨h, fun _ => ⟨hg, hb.symm⟩⟩
  · exact ⟨by simp, fun h => by simp at h⟩
theorem rd_none (s : ByteArray) : RdOk s ([], false) := ⟨by simp, fun h => by simp at h⟩
theorem ReadCode_l0 (s : ByteArray) (hs : (s.size : Int) ≤ 1048576) : ∀ (d : Nat) (p : Int) (out : List S90), 0 ≤ p → p ≤ s.size → (s.size : Int) - p ≤ d → (out.length : Int) ≤ 120 → bytesOf s = out.flatMap encBc ++ (bytesOf s).drop p.toNat → (∀ y ∈ out, (y.f2.size : Int) ≤ 1048576) →
    ∃ r : List S90 × Bool, (r.1.length : Int) ≤ 120 ∧ RdOk s r ∧ Ev (fun k => impl_ReadCode.l0 k (s.extract p.toNat s.size) out) r ∧ Ev (fun k => spec_ReadCode.l0 k s out p) r := by
  intro d
  induction d with
  | zero =>
    intro p out h0 h1 h2 h3 h4 h5
    have e : p = s.size := by omega
    subst e
    refine ⟨outOf out, ?_, out_text s out h5 h4, impl_end _ out ?_, ?_⟩
    · unfold outOf; split <;> simp; omega
    · rw [ByteArray.toList_eq]
      have : (s.extract (s.size : Int).toNat s.size).size = 0 := by rw [ByteArray.size_extract]; omega
      exact List.eq_nil_of_length_eq_zero (by rw [data_length]; exact this)
    · refine Ev.step (f := fun k => spec_ReadCode.j1 k s out s.size false) (fun k => by rw [spec_ReadCode.l0, if_neg (by omega)]) (spec_end s _ out (by omega) fun _ => ?_)
      rw [List.drop_eq_nil_of_le (by rw [bytesOf_length]; omega), List.append_nil] at h4
      exact h4.symm
  | succ d ih =>
    intro p out h0 h1 h2 h3 h4 h5
    by_cases c : p = s.size
    · subst c
      refine ⟨outOf out, ?_, out_text s out h5 h4, impl_end _ out ?_, ?_⟩
      · unfold outOf; split <;> simp; omega
      · rw [ByteArray.toList_eq]
        have : (s.extract (s.size : Int).toNat s.size).size = 0 := by rw [ByteArray.size_extract]; omega
        exact List.eq_nil_of_length_eq_zero (by rw [data_length]; exact this)
      · refine Ev.step (f := fun k => spec_ReadCode.j1 k s out s.size false) (fun k => by rw [spec_ReadCode.l0, if_neg (by omega)]) (spec_end s _ out (by omega) fun _ => ?_)
        rw [List.drop_eq_nil_of_le (by rw [bytesOf_length]; omega), List.append_nil] at h4
        exact h4.symm
    have h1' : p < (s.size : Int) := by omega
    have hne : ¬ (s.extract p.toNat s.size).toList = [] := by
      intro h
      rw [ByteArray.toList_eq] at h
      have := data_length (s.extract p.toNat s.size)
      rw [h, ByteArray.size_extract] at this
      simp at this
      omega
    have ht := takeBc_tk s hs p h0 h1'
    cases htk : tk s p with
    | none =>
      refine ⟨([], false), by simp, rd_none s, ?_, spec_one s hs out h3 p h0 h1' _ (by rw [htk])⟩
      exact Ev.step (f := fun _ => some ([], false)) (fun k => by rw [impl_ReadCode.l0, if_neg hne, ht, htk, Option.bind_some]; rfl) (Ev.now _)
    | some q =>
      obtain ⟨x, m⟩ := q
      obtain ⟨m1, m6, hm, hx⟩ := tk_bytes s p h0 h1' x m htk
      have h4' : bytesOf s = (out ++ [x]).flatMap encBc ++ (bytesOf s).drop (p + m).toNat := by
        rw [List.flatMap_append, List.flatMap_cons, List.flatMap_nil, List.append_nil, List.append_assoc, ← hx]
        exact h4
      by_cases c120 : (out.length : Int) = 120
      · refine ⟨([], false), by simp, rd_none s, ?_, spec_one s hs out h3 p h0 h1' _ ?_⟩
        · exact Ev.step (f := fun _ => some ([], false)) (fun k => by rw [impl_ReadCode.l0, if_neg hne, ht, htk, Option.bind_some, if_neg (by simp only [tkOut]; omega), if_pos c120]) (Ev.now _)
        · rw [htk]
          have hl : ((out ++ [x]).length : Int) = 121 := by rw [List.length_append, List.length_singleton]; omega
          have hb := long_bad (out ++ [x]) hl
          have e := spec_end s (p + m) (out ++ [x]) (by omega) (fun h => by
            unfold outOf at hb
            rw [if_pos h] at hb
            simp at hb)
          rw [hb] at e
          refine Ev.step (f := fun k => spec_ReadCode.j1 k s (out ++ [x]) (p + m) false) (fun k => ?_) e
          rw [spec_ReadCode.l0]
          split
          · rw [decide_eq_false (by omega)]
          · rfl
      · obtain ⟨r, hr, hr2, e1, e2⟩ := ih (p + m) (out ++ [x]) (by omega) hm (by omega) (by rw [List.length_append, List.length_singleton]; omega) h4' (by
          intro y hy
          rcases List.mem_append.1 hy with hy | hy
          · exact h5 y hy
          · rw [List.mem_singleton.1 hy]; exact tk_text s p x m htk)
        refine ⟨r, hr, hr2, ?_, spec_one s hs out h3 p h0 h1' r (by rw [htk]; exact e2)⟩
        have ee : (s.extract p.toNat s.size).extract m.toNat (s.extract p.toNat s.size).size = s.extract (p + m).toNat s.size := by
          rw [ByteArray.extract_extract, ByteArray.size_extract]
          congr 1 <;> omega
        rw [← ee] at e1
        refine Ev.step (fun k => ?_) e1
        rw [impl_ReadCode.l0, if_neg hne, ht, htk, Option.bind_some]
        rw [if_neg (show ¬ (tkOut (some (x, m))).2.2.2 = 0 from (by show ¬ m = 0; omega)), if_neg c120, if_pos (by omega), if_pos (show 0 ≤ (tkOut (some (x, m))).2.2.2 from (by show 0 ≤ m; omega)),
          if_pos (show (tkOut (some (x, m))).2.2.2 ≤ _ from (by show m ≤ _; rw [ByteArray.size_extract]; omega))]
        rfl
theorem ReadCode_both (s : ByteArray) (hs : (s.size : Int) ≤ 1048576) : ∃ r : List S90 × Bool, (r.1.length : Int) ≤ 120 ∧ RdOk s r ∧ Ev (fun k => impl_ReadCode.f k s) r ∧ Ev (fun k => spec_ReadCode.f k s) r := by
  obtain ⟨r, hr, hr2, e1, e2⟩ := ReadCode_l0 s hs s.size 0 [] (by omega) (by omega) (by omega) (by simp) (by simp) (by simp)
  have e : s.extract (0 : Int).toNat s.size = s := by simp
  rw [e] at e1
  exact ⟨r, hr, hr2, e1, e2⟩
theorem drop_one (s : ByteArray) (p : Int) (h0 : 0 ≤ p) (a : Int) (r : List Int) (h : (bytesOf s).drop p.toNat = a :: r) : p < (s.size : Int) ∧ bt s p = a ∧ (bytesOf s).drop (p + 1).toNat = r := by
  have hl := congrArg List.length h
  rw [List.length_drop, bytesOf_length, List.length_cons] at hl
  have h1 : p < (s.size : Int) := by omega
  rw [take_next s p h0 h1] at h
  exact ⟨h1, (List.cons.inj h).1, (List.cons.inj h).2⟩
theorem ba_ext (a b : ByteArray) (h : a.toList = b.toList) : a = b := by
  rw [ByteArray.toList_eq, ByteArray.toList_eq] at h
  cases a
  cases b
  congr 1
  exact Array.toList_inj.1 h
theorem sign_two (t : List UInt8) (h : isTwoB t = true) : ∃ i : Fin 19, (rdOf ByteArray.empty signs (i.val : Int)).toList = t ∧ signIdx t = (i.val : Int) := by
  have key : ∀ i : Fin 19, (rdOf ByteArray.empty signs (i.val : Int)).toList = t → ∃ i : Fin 19, (rdOf ByteArray.empty signs (i.val : Int)).toList = t ∧ signIdx t = (i.val : Int) :=
    fun i e => ⟨i, e, by rw [← e]; exact signIdx_at i⟩
  by_cases h2 : t = [61, 61]
  · exact key ⟨7, by omega⟩ (by rw [h2, ByteArray.toList_eq]; rfl)
  by_cases h3 : t = [33, 61]
  · exact key ⟨8, by omega⟩ (by rw [h3, ByteArray.toList_eq]; rfl)
  by_cases h4 : t = [60]
  · exact key ⟨5, by omega⟩ (by rw [h4, ByteArray.toList_eq]; rfl)
  by_cases h5 : t = [60, 61]
  · exact key ⟨6, by omega⟩ (by rw [h5, ByteArray.toList_eq]; rfl)
  by_cases h6 : t = [43]
  · exact key ⟨0, by omega⟩ (by rw [h6, ByteArray.toList_eq]; rfl)
  by_cases h7 : t = [45]
  · exact key ⟨1, by omega⟩ (by rw [h7, ByteArray.toList_eq]; rfl)
  by_cases h8 : t = [42]
  · exact key ⟨2, by omega⟩ (by rw [h8, ByteArray.toList_eq]; rfl)
  by_cases h9 : t = [47]
  · exact key ⟨3, by omega⟩ (by rw [h9, ByteArray.toList_eq]; rfl)
  by_cases h10 : t = [37]
  · exact key ⟨4, by omega⟩ (by rw [h10, ByteArray.toList_eq]; rfl)
  by_cases h11 : t = [60, 60]
  · exact key ⟨18, by omega⟩ (by rw [h11, ByteArray.toList_eq]; rfl)
  by_cases h0 : t = [124, 124]
  · subst h0; simp [isTwoB] at h
  by_cases h1 : t = [38, 38]
  · subst h1; simp [isTwoB] at h
  simp [isTwoB, strengthL, h0, h1, h2, h3, h4, h5, h6, h7, h8, h9, h10, h11] at h
theorem sign_of (n : Int) (x : S90) (g : bcGood n x = true) (h : x.f0 = 4 ∨ x.f0 = 5) : x.f1 = 0 ∧ ∃ i : Fin 19, rdOf ByteArray.empty signs (i.val : Int) = x.f2 ∧ signIdx x.f2.toList = (i.val : Int) := by
  unfold bcGood at g
  by_cases h4 : x.f0 = 4
  · rw [if_pos h4] at g
    simp only [Bool.and_eq_true, decide_eq_true_eq] at g
    obtain ⟨i, e1, e2⟩ := sign_two _ g.2
    exact ⟨g.1, i, ba_ext _ _ e1, e2⟩
  · have h5 : x.f0 = 5 := by omega
    rw [if_neg h4, if_pos h5] at g
    simp only [Bool.and_eq_true, Bool.or_eq_true, decide_eq_true_eq, beq_iff_eq] at g
    refine ⟨g.1, ?_⟩
    rcases g.2 with g2 | g2
    · refine ⟨⟨1, by omega⟩, ba_ext _ _ (by rw [g2, ByteArray.toList_eq]; rfl), ?_⟩
      have := signIdx_at ⟨1, by omega⟩
      rw [show (rdOf ByteArray.empty signs ((⟨1, by omega⟩ : Fin 19).val : Int)).toList = x.f2.toList by rw [g2, ByteArray.toList_eq]; rfl] at this
      exact this
    · refine ⟨⟨12, by omega⟩, ba_ext _ _ (by rw [g2, ByteArray.toList_eq]; rfl), ?_⟩
      have := signIdx_at ⟨12, by omega⟩
      rw [show (rdOf ByteArray.empty signs ((⟨12, by omega⟩ : Fin 19).val : Int)).toList = x.f2.toList by rw [g2, ByteArray.toList_eq]; rfl] at this
      exact this
theorem good_rest (n : Int) (hn0 : 0 ≤ n) (hn : n ≤ 120) (x : S90) (g : bcGood n x = true) (h4 : ¬ (x.f0 = 4 ∨ x.f0 = 5)) : x.f2 = ⟨#[]⟩ ∧ (x.f0 = 1 ∧ -1000000000 ≤ x.f1 ∧ x.f1 ≤ 1000000000 ∨ (x.f0 = 2 ∨ x.f0 = 3 ∨ x.f0 = 6 ∨ x.f0 = 7) ∧ 0 ≤ x.f1 ∧ x.f1 < 256 ∨ (x.f0 = 8 ∨ x.f0 = 9) ∧ x.f1 = 0) := by
  unfold bcGood at g
  rw [if_neg (by omega), if_neg (by omega)] at g
  by_cases ht : x.f2.toList = []
  · rw [if_neg (by simp [ht])] at g
    refine ⟨ba_ext _ _ (by rw [ht, ByteArray.toList_eq]), ?_⟩
    by_cases g1 : x.f0 = 1
    · rw [if_pos g1] at g
      simp [inB] at g
      exact .inl ⟨g1, g.1, g.2⟩
    rw [if_neg g1] at g
    by_cases g2 : x.f0 = 2 ∨ x.f0 = 3
    · rw [if_pos g2] at g
      simp [inB] at g
      exact .inr (.inl ⟨by omega, g.1, by omega⟩)
    rw [if_neg g2] at g
    by_cases g6 : x.f0 = 6 ∨ x.f0 = 7
    · rw [if_pos g6] at g
      simp [inB] at g
      refine .inr (.inl ⟨by omega, g.1, ?_⟩)
      have h8 := g.2
      unfold wrap64 at h8
      omega
    rw [if_neg g6] at g
    simp at g
    exact .inr (.inr ⟨g.1, g.2⟩)
  · rw [if_pos ht] at g
    simp at g
/-- Good code is read from its bytes as it was. -/
theorem tk_enc (s : ByteArray) (p : Int) (h0 : 0 ≤ p) (n : Int) (hn0 : 0 ≤ n) (hn : n ≤ 120) (x : S90) (g : bcGood n x = true) (rest : List Int) (h : (bytesOf s).drop p.toNat = encBc x ++ rest) : tk s p = some (x, ((encBc x).length : Int)) := by
  unfold encBc at h ⊢
  by_cases g4 : x.f0 = 4 ∨ x.f0 = 5
  · obtain ⟨f1, i, e1, e2⟩ := sign_of n x g g4
    have hi := i.isLt
    rw [if_neg (by omega), if_neg (by omega), if_pos g4] at h ⊢
    rw [e2] at h
    simp only [List.cons_append, List.nil_append] at h
    obtain ⟨q0, v0, h⟩ := drop_one s p h0 _ _ h
    obtain ⟨q1, v1, h⟩ := drop_one s (p + 1) (by omega) _ _ h
    have f0e : x.f0 % 256 = x.f0 := by omega
    have ie : ((i.val : Nat) : Int) % 256 = (i.val : Int) := by omega
    rw [f0e] at v0
    rw [ie] at v1
    have ts : takeSize (bt s p) = 2 := by unfold takeSize; rw [if_neg (by omega), if_pos (by omega)]
    unfold tk
    rw [ts, if_neg (by omega), if_neg (by omega), if_pos (by omega), foldB_one, v1, if_neg (by omega), signs_eq, e1, v0, ← f1]
    rfl
  obtain ⟨ft, hc⟩ := good_rest n hn0 hn x g g4
  rcases hc with ⟨g1, r0, r1⟩ | ⟨g2, r0, r1⟩ | ⟨g8, r0⟩
  · rw [if_pos g1] at h ⊢
    have w1 : wrap64 (x.f1 + 1000000000) = x.f1 + 1000000000 := wrap_id (by omega) (by omega)
    rw [w1] at h ⊢
    simp only [List.cons_append, List.nil_append] at h
    obtain ⟨q0, v0, h⟩ := drop_one s p h0 _ _ h
    obtain ⟨q1, v1, h⟩ := drop_one s (p + 1) (by omega) _ _ h
    obtain ⟨q2, v2, h⟩ := drop_one s (p + 1 + 1) (by omega) _ _ h
    obtain ⟨q3, v3, h⟩ := drop_one s (p + 1 + 1 + 1) (by omega) _ _ h
    obtain ⟨q4, v4, h⟩ := drop_one s (p + 1 + 1 + 1 + 1) (by omega) _ _ h
    obtain ⟨q5, v5, h⟩ := drop_one s (p + 1 + 1 + 1 + 1 + 1) (by omega) _ _ h
    have v0' : bt s p = x.f0 := by omega
    have ts : takeSize (bt s p) = 6 := by rw [v0', g1]; rfl
    unfold tk
    rw [ts, if_neg (by omega), if_pos (by omega), foldB_five, v1, v2, v3, v4, v5, v0',
      show wrap64 ((x.f1 + 1000000000) / 4294967296 % 256 * 4294967296 + (x.f1 + 1000000000) / 16777216 % 256 * 16777216 + (x.f1 + 1000000000) / 65536 % 256 * 65536 + (x.f1 + 1000000000) / 256 % 256 * 256 + (x.f1 + 1000000000) % 256 - 1000000000) = x.f1 by rw [wrap_id (by omega) (by omega)]; omega, ← ft]
    rfl
  · rw [if_neg (by omega), if_pos g2] at h ⊢
    simp only [List.cons_append, List.nil_append] at h
    obtain ⟨q0, v0, h⟩ := drop_one s p h0 _ _ h
    obtain ⟨q1, v1, h⟩ := drop_one s (p + 1) (by omega) _ _ h
    have v0' : bt s p = x.f0 := by omega
    have v1' : bt s (p + 1) = x.f1 := by omega
    have ts : takeSize (bt s p) = 2 := by unfold takeSize; rw [if_neg (by omega), if_pos (by omega)]
    unfold tk
    rw [ts, if_neg (by omega), if_neg (by omega), if_neg (by omega), if_pos (by omega), foldB_one, v1', v0', ← ft]
    rfl
  · rw [if_neg (by omega), if_neg (by omega), if_neg (by omega)] at h ⊢
    simp only [List.cons_append, List.nil_append] at h
    obtain ⟨q0, v0, h⟩ := drop_one s p h0 _ _ h
    have v0' : bt s p = x.f0 := by omega
    have ts : takeSize (bt s p) = 1 := by unfold takeSize; rw [if_neg (by omega), if_neg (by omega)]
    unfold tk
    rw [ts, if_neg (by omega), if_neg (by omega), if_neg (by omega), if_neg (by omega), v0', ← ft]
    simp only [List.append_nil, List.length_singleton]
    rw [← r0]
    rfl
theorem encBc_range (x : S90) : ∀ y ∈ encBc x, 0 ≤ y ∧ y ≤ 255 := by
  intro y hy
  have key : ∀ a : Int, 0 ≤ a % 256 ∧ a % 256 ≤ 255 := fun a => by omega
  unfold encBc at hy
  rcases List.mem_append.1 hy with hy | hy
  · rw [List.mem_singleton.1 hy]; exact key _
  · split at hy
    · simp only [List.mem_cons, List.not_mem_nil, or_false] at hy
      rcases hy with rfl | rfl | rfl | rfl | rfl <;> exact key _
    · split at hy
      · rw [List.mem_singleton.1 hy]; exact key _
      · split at hy
        · rw [List.mem_singleton.1 hy]; exact key _
        · simp at hy
theorem bytes_strOf : ∀ (l : List Int), (∀ y ∈ l, 0 ≤ y ∧ y ≤ 255) → bytesOf (strOfNums l) = l
  | l, h => by
    unfold bytesOf
    rw [strOfNums_data, List.map_map]
    have e : ∀ y ∈ l, ((fun b : UInt8 => (b.toNat : Int)) ∘ fun n : Int => UInt8.ofNat n.toNat) y = y := by
      intro y hy
      have := h y hy
      simp only [Function.comp]
      rw [UInt8.toNat_ofNat']
      omega
    rw [List.map_congr_left e]
    simp
theorem bytes_code (l : List S90) : bytesOf (codeBytes l) = l.flatMap encBc := by
  refine bytes_strOf _ fun y hy => ?_
  obtain ⟨x, _, hx⟩ := List.mem_flatMap.1 hy
  exact encBc_range x y hx
theorem read_back (s : ByteArray) (hs : (s.size : Int) ≤ 1048576) (n : Int) (hn0 : 0 ≤ n) (hn : n ≤ 120) : ∀ (suf pre : List S90), bytesOf s = (pre ++ suf).flatMap encBc → (∀ x ∈ suf, bcGood n x = true) → ((pre ++ suf).length : Int) ≤ 120 →
    Ev (fun k => impl_ReadCode.l0 k (s.extract (pre.flatMap encBc).length s.size) pre) (outOf (pre ++ suf))
  | [], pre, h, hg, hl => by
    rw [List.append_nil] at h ⊢
    refine impl_end _ _ ?_
    rw [ByteArray.toList_eq]
    have e : (pre.flatMap encBc).length = s.size := by rw [← h, bytesOf_length]
    have : (s.extract (pre.flatMap encBc).length s.size).size = 0 := by rw [ByteArray.size_extract]; omega
    exact List.eq_nil_of_length_eq_zero (by rw [data_length]; exact this)
  | x :: suf, pre, h, hg, hl => by
    have hb : (bytesOf s).drop ((pre.flatMap encBc).length : Int).toNat = encBc x ++ suf.flatMap encBc := by
      rw [h, List.flatMap_append, List.flatMap_cons]
      simp
    have ht := tk_enc s ((pre.flatMap encBc).length : Int) (by omega) n hn0 hn x (hg x List.mem_cons_self) _ hb
    have hlen := congrArg List.length h
    rw [bytesOf_length, List.flatMap_append, List.length_append, List.flatMap_cons, List.length_append] at hlen
    have h1 : 1 ≤ (encBc x).length := by unfold encBc; simp
    have hp : ((pre.flatMap encBc).length : Int) < (s.size : Int) := by omega
    have htk := takeBc_tk s hs ((pre.flatMap encBc).length : Int) (by omega) hp
    rw [ht, show ((pre.flatMap encBc).length : Int).toNat = (pre.flatMap encBc).length by omega] at htk
    have ih := read_back s hs n hn0 hn suf (pre ++ [x]) (by rw [h]; simp) (fun y hy => hg y (List.mem_cons_of_mem _ hy)) (by rw [List.append_assoc]; exact hl)
    rw [List.append_assoc, List.singleton_append] at ih
    have hne : ¬ (s.extract (pre.flatMap encBc).length s.size).toList = [] := by
      intro h
      rw [ByteArray.toList_eq] at h
      have := data_length (s.extract (pre.flatMap encBc).length s.size)
      rw [h, ByteArray.size_extract, List.length_nil, Nat.min_self] at this
      omega
    have ee : (s.extract (pre.flatMap encBc).length s.size).extract (((encBc x).length : Int)).toNat (s.extract (pre.flatMap encBc).length s.size).size = s.extract ((pre ++ [x]).flatMap encBc).length s.size := by
      rw [ByteArray.extract_extract, ByteArray.size_extract, List.flatMap_append, List.length_append, List.flatMap_cons, List.flatMap_nil, List.append_nil]
      congr 1 <;> omega
    rw [← ee] at ih
    have hl2 : (pre.length : Int) + (1 + suf.length) ≤ 120 := by rw [List.length_append, List.length_cons] at hl; omega
    refine Ev.step (fun k => ?_) ih
    rw [impl_ReadCode.l0, if_neg hne, htk, Option.bind_some]
    rw [if_neg (show ¬ (tkOut (some (x, ((encBc x).length : Int)))).2.2.2 = 0 from (by show ¬ ((encBc x).length : Int) = 0; omega)), if_neg (by omega), if_pos (by omega), if_pos (show 0 ≤ (tkOut (some (x, ((encBc x).length : Int)))).2.2.2 from (by show 0 ≤ ((encBc x).length : Int); omega)),
      if_pos (show (tkOut (some (x, ((encBc x).length : Int)))).2.2.2 ≤ _ from (by show ((encBc x).length : Int) ≤ _; rw [ByteArray.size_extract]; omega))]
    rfl
theorem code_size (l : List S90) : ((codeBytes l).size : Int) ≤ 6 * l.length := by
  unfold codeBytes
  rw [strOfNums_size]
  induction l with
  | nil => simp
  | cons x l ih =>
    rw [List.flatMap_cons, List.length_append, List.length_cons]
    have := encBc_le x
    omega
theorem ReadCode_of_code (l : List S90) (g : goodCode l = true) : Ev (fun k => impl_ReadCode.f k (codeBytes l)) (l, true) := by
  have hg : inB l.length 1 120 = true ∧ l.any (bcBad l.length) = false := by
    unfold goodCode at g
    simpa using g
  have hlen : 1 ≤ (l.length : Int) ∧ (l.length : Int) ≤ 120 := by have := hg.1; simp [inB] at this; omega
  have hx : ∀ x ∈ l, bcGood l.length x = true := by
    intro x hx
    have := List.any_eq_false.1 hg.2 x hx
    simpa [bcBad] using this
  have hs : ((codeBytes l).size : Int) ≤ 1048576 := by
    have := code_size l
    omega
  have e := read_back (codeBytes l) hs l.length (by omega) hlen.2 l [] (bytes_code l) hx hlen.2
  rw [List.nil_append] at e
  have eo : outOf l = (l, true) := by unfold outOf; rw [if_pos g]
  rw [eo] at e
  have ez : (codeBytes l).extract (([] : List S90).flatMap encBc).length (codeBytes l).size = codeBytes l := by simp
  rw [ez] at e
  exact e
theorem ev_of {α : Type} {o : Option α} {a : α} (h : o = some a) : Ev (fun _ => o) a := h ▸ Ev.now _
theorem emod_le_self {a n : Int} (h0 : 0 ≤ a) (h1 : 0 ≤ n) : a % n ≤ a := by
  have h := Int.mul_ediv_add_emod a n
  have := Int.mul_nonneg h1 (Int.ediv_nonneg h0 h1)
  omega
theorem and255 (x : Int) (h0 : 0 ≤ x) (h1 : x < 18446744073709551616) : Go.bits .and .u64 x 255 = x % 256 :=
  bits_mask .u64 64 (by decide) (fun n hn hn' => by simp [IntKind.wrap, IntKind.bits, IntKind.signed]; omega) 8 (by decide) x h0 (by omega)
theorem u64_range (x : Int) : 0 ≤ IntKind.u64.wrap x ∧ IntKind.u64.wrap x < 18446744073709551616 := by
  have : IntKind.u64.wrap x = x % 18446744073709551616 := by simp [IntKind.wrap, IntKind.bits, IntKind.signed]
  rw [this]; omega
def Bytes (L : List Int) : Prop := ∀ y ∈ L, 0 ≤ y ∧ y ≤ 255
theorem bytes_wf {L : List Int} (h : ∀ y ∈ L, (Lit.int .u8 y).wf = true) : Bytes L := fun y hy => by
  have := h y hy
  simp [Lit.wf, IntKind.min, IntKind.max, IntKind.bits, IntKind.signed] at this
  omega
theorem bytes_rd {L : List Int} (h : Bytes L) (i : Int) : 0 ≤ rd L i ∧ rd L i ≤ 255 := by
  unfold rd
  by_cases c : i.toNat < L.length
  · rw [List.getD_eq_getElem?_getD, List.getElem?_eq_getElem c]
    exact h _ (List.getElem_mem c)
  · rw [List.getD_eq_getElem?_getD, List.getElem?_eq_none (by omega)]
    simp
theorem seed_byte (x : Int) (h0 : 0 ≤ x) (h1 : x < 18446744073709551616) : 0 ≤ wrap64 (Go.bits .and .u64 (x / 1099511627776) 255) ∧ wrap64 (Go.bits .and .u64 (x / 1099511627776) 255) ≤ 255 := by
  rw [and255 _ (by omega) (by omega), wrap_id (by omega) (by omega)]
  omega
theorem next_ok {L : List Int} (hL : Bytes L) (p s : Int) (h0 : 0 ≤ p) (h1 : p ≤ 1099511627776) : ∃ v s', spec_l1Cur_next.f L p s = some (v, p + 1, s') ∧ 0 ≤ v ∧ v ≤ 255 := by
  have hw : wrap64 (p + 1) = p + 1 := wrap_id (by omega) (by omega)
  have hb := bytes_rd hL p
  have hwr : wrap64 (rd L p) = rd L p := wrap_id (by omega) (by omega)
  unfold spec_l1Cur_next.f
  rw [hw]
  by_cases c : p < (L.length : Int)
  · rw [if_pos c, if_pos h0]
    by_cases c2 : p + 1 ≤ (L.length : Int)
    · rw [if_pos c2]
      exact ⟨_, _, rfl, by rw [hwr]; omega, by rw [hwr]; omega⟩
    · omega
  · rw [if_neg c]
    by_cases c2 : p + 1 ≤ (L.length : Int)
    · omega
    · rw [if_neg c2]
      exact ⟨_, _, rfl, (seed_byte _ (u64_range _).1 (u64_range _).2).1, (seed_byte _ (u64_range _).1 (u64_range _).2).2⟩
/-- A number that is drawn: from 0 to n - 1 (0 where n is none), the place is at most two further on. -/
theorem pick_ok {L : List Int} (hL : Bytes L) (p s n : Int) (h0 : 0 ≤ p) (h1 : p ≤ 1000000000) : ∃ v p' s', spec_l1Cur_pick.f L p s n = some (v, p', s') ∧ 0 ≤ v ∧ (v < n ∨ v = 0) ∧ v ≤ 65535 ∧ p ≤ p' ∧ p' ≤ p + 2 := by
  unfold spec_l1Cur_pick.f
  by_cases c : n ≤ 1
  · rw [if_pos c]
    exact ⟨0, p, s, rfl, by omega, .inr rfl, by omega, by omega, by omega⟩
  rw [if_neg c]
  obtain ⟨v, s', e, v0, v1⟩ := next_ok hL p s h0 (by omega)
  rw [e, Option.bind_some]
  by_cases c2 : n > 200
  · rw [if_pos c2]
    obtain ⟨u, s2, e2, u0, u1⟩ := next_ok hL (p + 1) s' (by omega) (by omega)
    simp only []
    rw [e2, Option.bind_some, if_neg (by omega)]
    simp only []
    rw [wrap_id (n := v * 256) (by omega) (by omega), wrap_id (by omega) (by omega)]
    rw [Int.tmod_eq_emod_of_nonneg (by omega)]
    have hm := Int.emod_lt_of_pos (v * 256 + u) (show 0 < n by omega)
    have hm0 := Int.emod_nonneg (v * 256 + u) (show n ≠ 0 by omega)
    have hle : (v * 256 + u) % n ≤ v * 256 + u := emod_le_self (by omega) (by omega)
    exact ⟨_, _, _, rfl, hm0, .inl hm, by omega, by omega, by omega⟩
  · rw [if_neg c2, if_neg (by omega)]
    simp only []
    rw [Int.tmod_eq_emod_of_nonneg (by omega)]
    have hm := Int.emod_lt_of_pos v (show 0 < n by omega)
    have hm0 := Int.emod_nonneg v (show n ≠ 0 by omega)
    have hle : v % n ≤ v := emod_le_self (by omega) (by omega)
    exact ⟨_, _, _, rfl, hm0, .inl hm, by omega, by omega, by omega⟩
theorem one_ok {L : List Int} (hL : Bytes L) (p s n : Int) (h0 : 0 ≤ p) (h1 : p ≤ 1000000000) : ∃ (b : Bool) (p' s' : Int), spec_l1Cur_one.f L p s n = some (b, p', s') ∧ p ≤ p' ∧ p' ≤ p + 2 := by
  obtain ⟨v, p', s', e, _, _, _, a, b⟩ := pick_ok hL p s n h0 h1
  unfold spec_l1Cur_one.f
  rw [e, Option.bind_some]
  exact ⟨_, _, _, rfl, a, b⟩
theorem of_ok {L : List Int} (hL : Bytes L) (p s : Int) (l : List ByteArray) (hl : 0 < l.length) (h0 : 0 ≤ p) (h1 : p ≤ 1000000000) : ∃ t p' s', spec_l1Cur_of.f L p s l = some (t, p', s') ∧ t ∈ l ∧ p ≤ p' ∧ p' ≤ p + 2 := by
  obtain ⟨v, p', s', e, v0, v1, _, a, b⟩ := pick_ok hL p s l.length h0 h1
  unfold spec_l1Cur_of.f
  rw [e, Option.bind_some, if_pos v0, if_pos (by omega)]
  refine ⟨_, _, _, rfl, ?_, a, b⟩
  exact getD_mem l _ v v0 (by omega)
/-- How many a step takes off, and puts on. -/
def takes (op : Int) : Int × Int := if op = 1 ∨ op = 2 then (0, 1) else if op = 3 ∨ op = 7 ∨ op = 8 then (1, 0) else if op = 4 then (2, 1) else if op = 5 ∨ op = 9 then (1, 1) else (0, 0)
theorem takes_bd (op : Int) : 0 ≤ (takes op).1 ∧ (takes op).1 ≤ 2 ∧ 0 ≤ (takes op).2 ∧ (takes op).2 ≤ 1 := by
  unfold takes
  repeat' split
  all_goals simp
theorem spec_takes_f (k : Nat) (a b : Int) (s : ByteArray) : spec_l16Takes.f (k + 2) a b s = some (takes a) := by
  unfold takes
  by_cases h1 : a = 1
  · simp [spec_l16Takes.f, spec_l16Takes.j0, h1]
  by_cases h2 : a = 2
  · simp [spec_l16Takes.f, spec_l16Takes.j0, h2]
  by_cases h3 : a = 3
  · simp [spec_l16Takes.f, spec_l16Takes.j0, spec_l16Takes.j1, h3]
  by_cases h7 : a = 7
  · simp [spec_l16Takes.f, spec_l16Takes.j0, spec_l16Takes.j1, h7]
  by_cases h8 : a = 8
  · simp [spec_l16Takes.f, spec_l16Takes.j0, spec_l16Takes.j1, h8]
  by_cases h4 : a = 4
  · simp [spec_l16Takes.f, spec_l16Takes.j0, spec_l16Takes.j1, h4]
  by_cases h5 : a = 5
  · simp [spec_l16Takes.f, spec_l16Takes.j0, spec_l16Takes.j1, h5]
  by_cases h9 : a = 9
  · simp [spec_l16Takes.f, spec_l16Takes.j0, spec_l16Takes.j1, h9]
  simp [spec_l16Takes.f, spec_l16Takes.j0, spec_l16Takes.j1, h1, h2, h3, h4, h5, h7, h8, h9]
theorem takes_ev (a b : Int) (t : ByteArray) : Ev (fun k => spec_l16Takes.f k a b t) (takes a) := ⟨2, fun k hk => by
  obtain ⟨m, rfl⟩ : ∃ m, k = m + 2 := ⟨k - 2, by omega⟩
  exact spec_takes_f m a b t⟩
section
variable {L : List Int} (hL : Bytes L) (l : List S90) (n : Int) (Q : List S90 × Int × Int → Prop) (P : Int) (hP : P ≤ 1000000)
  (IH : ∀ (x : S90) (deep p s : Int), 0 ≤ p → p ≤ P + 2 → ∃ r, Ev (fun k => spec_l1Cur_bytecode.l0 k (l ++ [x]) n deep L p s) r ∧ Q r) (hl : l.length < 4398046511104)
include hL hP IH hl
theorem bc_j5 (deep p s op t1 : Int) (t2 : ByteArray) (b : Bool) (h0 : 0 ≤ p) (h1 : p ≤ P) : ∃ r, Ev (fun k => spec_l1Cur_bytecode.j5 k l n deep b L p s op t1 t2) r ∧ Q r := by
  cases b
  · obtain ⟨r, e, q⟩ := IH ⟨op, t1, t2⟩ (wrap64 (deep + wrap64 ((takes op).2 - (takes op).1))) p s h0 (by omega)
    exact ⟨r, Ev.step (fun k => by rw [spec_l1Cur_bytecode.j5, if_neg (by simp)]) (Ev.bind (takes_ev op t1 t2) (ev_if_pos hl e)), q⟩
  · obtain ⟨v, p', s', e0, _, _, _, a, b⟩ := pick_ok hL p s n h0 (by omega)
    obtain ⟨r, e, q⟩ := IH ⟨op, v, t2⟩ (wrap64 (deep + wrap64 ((takes op).2 - (takes op).1))) p' s' (by omega) (by omega)
    exact ⟨r, Ev.step (fun k => by rw [spec_l1Cur_bytecode.j5, if_pos rfl, e0, Option.bind_some]) (Ev.bind (takes_ev op v t2) (ev_if_pos hl e)), q⟩
theorem bc_j4 (deep p s c op t1 : Int) (t2 : ByteArray) (b : Bool) (h0 : 0 ≤ p) (h1 : p ≤ P) : ∃ r, Ev (fun k => spec_l1Cur_bytecode.j4 k l n deep c b L p s op t1 t2) r ∧ Q r := by
  cases b
  · by_cases g4 : c = 4
    · obtain ⟨t, p', s', e0, _, a, b⟩ := of_ok hL p s [(⟨#[43]⟩ : ByteArray), ⟨#[45]⟩, ⟨#[42]⟩, ⟨#[47]⟩, ⟨#[37]⟩, ⟨#[60]⟩, ⟨#[61, 61]⟩, ⟨#[60, 60]⟩] (by simp) h0 (by omega)
      obtain ⟨r, e, q⟩ := IH ⟨op, t1, t⟩ (wrap64 (deep + wrap64 ((takes op).2 - (takes op).1))) p' s' (by omega) (by omega)
      exact ⟨r, Ev.step (fun k => by rw [spec_l1Cur_bytecode.j4, if_neg (by simp), if_pos g4, e0, Option.bind_some]) (Ev.bind (takes_ev op t1 t) (ev_if_pos hl e)), q⟩
    by_cases g5 : c = 5
    · obtain ⟨t, p', s', e0, _, a, b⟩ := of_ok hL p s [(⟨#[45]⟩ : ByteArray), ⟨#[33]⟩] (by simp) h0 (by omega)
      obtain ⟨r, e, q⟩ := IH ⟨op, t1, t⟩ (wrap64 (deep + wrap64 ((takes op).2 - (takes op).1))) p' s' (by omega) (by omega)
      exact ⟨r, Ev.step (fun k => by rw [spec_l1Cur_bytecode.j4, if_neg (by simp), if_neg g4, if_pos g5, e0, Option.bind_some]) (Ev.bind (takes_ev op t1 t) (ev_if_pos hl e)), q⟩
    by_cases g6 : c = 6
    · obtain ⟨r, e, q⟩ := bc_j5 hL l n Q P hP IH hl deep p s op t1 t2 (c == 6) h0 h1
      exact ⟨r, Ev.step (fun k => by rw [spec_l1Cur_bytecode.j4, if_neg (by simp), if_neg g4, if_neg g5, if_pos g6]) e, q⟩
    · obtain ⟨r, e, q⟩ := bc_j5 hL l n Q P hP IH hl deep p s op t1 t2 (c == 7) h0 h1
      exact ⟨r, Ev.step (fun k => by rw [spec_l1Cur_bytecode.j4, if_neg (by simp), if_neg g4, if_neg g5, if_neg g6]) e, q⟩
  · obtain ⟨v, p', s', e0, _, _, _, a, b⟩ := pick_ok hL p s 10 h0 (by omega)
    obtain ⟨r, e, q⟩ := IH ⟨op, v, t2⟩ (wrap64 (deep + wrap64 ((takes op).2 - (takes op).1))) p' s' (by omega) (by omega)
    exact ⟨r, Ev.step (fun k => by rw [spec_l1Cur_bytecode.j4, if_pos rfl, e0, Option.bind_some]) (Ev.bind (takes_ev op v t2) (ev_if_pos hl e)), q⟩
theorem bc_j3 (deep p s op t1 : Int) (t2 : ByteArray) (h0 : 0 ≤ p) (h1 : p ≤ P) : ∃ r, Ev (fun k => spec_l1Cur_bytecode.j3 k l n deep L p s op t1 t2) r ∧ Q r := by
  by_cases g1 : op = 1
  · obtain ⟨v, p', s', e0, _, _, _, a, b⟩ := pick_ok hL p s 9 h0 (by omega)
    obtain ⟨r, e, q⟩ := IH ⟨op, wrap64 (v - 2), t2⟩ (wrap64 (deep + wrap64 ((takes op).2 - (takes op).1))) p' s' (by omega) (by omega)
    exact ⟨r, Ev.step (fun k => by rw [spec_l1Cur_bytecode.j3, if_pos g1, e0, Option.bind_some]) (Ev.bind (takes_ev op (wrap64 (v - 2)) t2) (ev_if_pos hl e)), q⟩
  by_cases g2 : op = 2
  · obtain ⟨r, e, q⟩ := bc_j4 hL l n Q P hP IH hl deep p s op op t1 t2 (op == 2) h0 h1
    exact ⟨r, Ev.step (fun k => by rw [spec_l1Cur_bytecode.j3, if_neg g1, if_pos g2]) e, q⟩
  · obtain ⟨r, e, q⟩ := bc_j4 hL l n Q P hP IH hl deep p s op op t1 t2 (op == 3) h0 h1
    exact ⟨r, Ev.step (fun k => by rw [spec_l1Cur_bytecode.j3, if_neg g1, if_neg g2]) e, q⟩
theorem bc_j2 (deep p s op t1 : Int) (t2 : ByteArray) (b : Bool) (h0 : 0 ≤ p) (h1 : p ≤ P) : ∃ r, Ev (fun k => spec_l1Cur_bytecode.j2 k l n deep b L p s op t1 t2) r ∧ Q r := by
  cases b
  · obtain ⟨r, e, q⟩ := bc_j3 hL l n Q P hP IH hl deep p s op t1 t2 h0 h1
    exact ⟨r, Ev.step (fun k => by rw [spec_l1Cur_bytecode.j2, if_neg (by simp)]) e, q⟩
  · obtain ⟨r, e, q⟩ := bc_j3 hL l n Q P hP IH hl deep p s 1 t1 t2 h0 h1
    exact ⟨r, Ev.step (fun k => by rw [spec_l1Cur_bytecode.j2, if_pos rfl]) e, q⟩
end
def DrawnOk (r : List S90 × Int × Int) : Prop := (r.1.length : Int) ≤ 202 ∧ 0 ≤ r.2.1 ∧ r.2.1 ≤ 100000
theorem bytecode_end {L : List Int} (hL : Bytes L) (l : List S90) (n deep p s : Int) (hn : ¬ (l.length : Int) < n) (hl : (l.length : Int) ≤ 201) (h0 : 0 ≤ p) (h1 : p ≤ 50000) : ∃ r, Ev (fun k => spec_l1Cur_bytecode.l0 k l n deep L p s) r ∧ DrawnOk r := by
  obtain ⟨b, p1, s1, e1, a1, b1⟩ := one_ok hL p s 20 h0 (by omega)
  have hy : ((l ++ [(⟨9, 0, (⟨#[]⟩ : ByteArray)⟩ : S90)]).length : Int) = l.length + 1 := by rw [List.length_append, List.length_singleton]; omega
  cases b
  · exact ⟨(l ++ [⟨9, 0, ⟨#[]⟩⟩], p1, s1), Ev.step (f := fun _ => some (l ++ [⟨9, 0, ⟨#[]⟩⟩], p1, s1)) (fun k => by rw [spec_l1Cur_bytecode.l0, if_neg hn, if_pos (by omega), Option.bind_some, e1, Option.bind_some, if_neg (by simp)]) (Ev.now _), by rw [hy]; omega, by simp only []; omega, by simp only []; omega⟩
  · obtain ⟨v, p2, s2, e2, v0, v1, _, a2, b2⟩ := pick_ok hL p1 s1 ((l ++ [(⟨9, 0, (⟨#[]⟩ : ByteArray)⟩ : S90)]).length : Int) (by omega) (by omega)
    obtain ⟨v3, p3, s3, e3, _, _, _, a3, b3⟩ := pick_ok hL p2 s2 11 (by omega) (by omega)
    obtain ⟨v4, p4, s4, e4, _, _, _, a4, b4⟩ := pick_ok hL p3 s3 4 (by omega) (by omega)
    obtain ⟨t, p5, s5, e5, _, a5, b5⟩ := of_ok hL p4 s4 [(⟨#[]⟩ : ByteArray), ⟨#[43]⟩, ⟨#[38, 38]⟩] (by simp) (by omega) (by omega)
    refine ⟨((l ++ [(⟨9, 0, ⟨#[]⟩⟩ : S90)]).set v.toNat (⟨v3, v4, t⟩ : S90), p5, s5), Ev.step (f := fun _ => some ((l ++ [(⟨9, 0, ⟨#[]⟩⟩ : S90)]).set v.toNat (⟨v3, v4, t⟩ : S90), p5, s5)) (fun k => ?_) (Ev.now _), by rw [List.length_set, hy]; omega, by simp only []; omega, by simp only []; omega⟩
    rw [spec_l1Cur_bytecode.l0, if_neg hn, if_pos (by omega), Option.bind_some, e1, Option.bind_some, if_pos rfl]
    simp only []
    rw [e2, Option.bind_some]
    simp only []
    rw [e3, Option.bind_some]
    simp only []
    rw [e4, Option.bind_some]
    simp only []
    rw [e5, Option.bind_some, if_pos v0, if_pos (by omega)]
theorem bytecode_l0 {L : List Int} (hL : Bytes L) (n : Int) : ∀ (d : Nat) (l : List S90) (deep p s : Int), n - l.length ≤ d → (l.length : Int) + d ≤ 201 → 0 ≤ p → p + 20 * d ≤ 50000 → ∃ r, Ev (fun k => spec_l1Cur_bytecode.l0 k l n deep L p s) r ∧ DrawnOk r := by
  intro d
  induction d with
  | zero => intro l deep p s h0 h1 h2 h3; exact bytecode_end hL l n deep p s (by omega) (by omega) h2 (by omega)
  | succ d ih =>
    intro l deep p s h0 h1 h2 h3
    by_cases c : (l.length : Int) < n
    · have IH : ∀ (x : S90) (deep p' s : Int), 0 ≤ p' → p' ≤ (p + 4) + 2 → ∃ r, Ev (fun k => spec_l1Cur_bytecode.l0 k (l ++ [x]) n deep L p' s) r ∧ DrawnOk r := by
        intro x deep p' s' h4 h5
        exact ih (l ++ [x]) deep p' s' (by rw [List.length_append, List.length_singleton]; omega) (by rw [List.length_append, List.length_singleton]; omega) h4 (by omega)
      obtain ⟨v, p1, s1, e1, _, _, _, a1, b1⟩ := pick_ok hL p s 8 h2 (by omega)
      by_cases g : (takes (wrap64 (1 + v))).1 > deep
      · obtain ⟨b, p2, s2, e2, a2, b2⟩ := one_ok hL p1 s1 12 (by omega) (by omega)
        obtain ⟨r, e, q⟩ := bc_j2 hL l n DrawnOk (p + 4) (by omega) IH (by omega) deep p2 s2 (wrap64 (1 + v)) 0 ⟨#[]⟩ (!b) (by omega) (by omega)
        refine ⟨r, Ev.step (fun k => by rw [spec_l1Cur_bytecode.l0, if_pos c, e1, Option.bind_some]) (Ev.bind (takes_ev (wrap64 (1 + v)) 0 ⟨#[]⟩) (ev_if_pos g (Ev.bind (ev_of e2) e))), q⟩
      · obtain ⟨r, e, q⟩ := bc_j2 hL l n DrawnOk (p + 4) (by omega) IH (by omega) deep p1 s1 (wrap64 (1 + v)) 0 ⟨#[]⟩ false (by omega) (by omega)
        exact ⟨r, Ev.step (fun k => by rw [spec_l1Cur_bytecode.l0, if_pos c, e1, Option.bind_some]) (Ev.bind (takes_ev (wrap64 (1 + v)) 0 ⟨#[]⟩) (ev_if_neg g e)), q⟩
    · exact bytecode_end hL l n deep p s c (by omega) h2 (by omega)
/-- The drawn code: short, and the place is near. -/
theorem bytecode_ok {L : List Int} (hL : Bytes L) (s : Int) : ∃ r, Ev (fun k => spec_l1Cur_bytecode.f k L 0 s) r ∧ DrawnOk r := by
  unfold spec_l1Cur_bytecode.f
  obtain ⟨v, p1, s1, e1, v0, v1, _, a1, b1⟩ := pick_ok hL 0 s 14 (by omega) (by omega)
  obtain ⟨b, p2, s2, e2, a2, b2⟩ := one_ok hL p1 s1 20 (by omega) (by omega)
  cases b
  · obtain ⟨r, e, q⟩ := bytecode_l0 hL (wrap64 (1 + v)) 200 [] 0 p2 s2 (by rw [wrap_id (by omega) (by omega)]; simp; omega) (by simp) (by omega) (by omega)
    exact ⟨r, Ev.bind (ev_of e1) (Ev.bind (ev_of e2) (ev_if_neg (by simp) (Ev.step (fun k => by rw [spec_l1Cur_bytecode.j0]) e))), q⟩
  · obtain ⟨u, p3, s3, e3, u0, u1, _, a3, b3⟩ := pick_ok hL p2 s2 2 (by omega) (by omega)
    obtain ⟨r, e, q⟩ := bytecode_l0 hL (wrap64 (120 + u)) 200 [] 0 p3 s3 (by rw [wrap_id (by omega) (by omega)]; simp; omega) (by simp) (by omega) (by omega)
    exact ⟨r, Ev.bind (ev_of e1) (Ev.bind (ev_of e2) (ev_if_pos rfl (Ev.bind (ev_of e3) (Ev.step (fun k => by rw [spec_l1Cur_bytecode.j0]) e)))), q⟩
theorem spoilt_l0 {L : List Int} (hL : Bytes L) (x2 : ByteArray) (h2 : 0 < x2.size) (h2' : x2.size ≤ 1000) : ∀ (d : Nat) (x1 : ByteArray) (n p s : Int), n ≤ d → (x1.size : Int) + d ≤ 1000000 → 0 ≤ p → p + 10 * d ≤ 500000 →
    ∃ r, Ev (fun k => spec_l1Cur_spoilt.l0 k x1 x2 n L p s) r ∧ (r.1.size : Int) ≤ x1.size + d := by
  have hs1 : ∀ y : Int, (strOfNums [y]).size = 1 := fun y => rfl
  intro d
  induction d with
  | zero =>
    intro x1 n p s h0 h1 h3 h4
    exact ⟨(x1, p, s), Ev.step (f := fun k => spec_l1Cur_spoilt.j1 k x1 x2 n false L p s) (fun k => by rw [spec_l1Cur_spoilt.l0, if_neg (by omega)]) (Ev.step (f := fun _ => some (x1, p, s)) (fun k => by rw [spec_l1Cur_spoilt.j1, if_neg (by simp)]) (Ev.now _)), by simp⟩
  | succ d ih =>
    intro x1 n p s h0 h1 h3 h4
    have stop : ∃ r, Ev (fun k => spec_l1Cur_spoilt.j1 k x1 x2 n false L p s) r ∧ (r.1.size : Int) ≤ x1.size + (d + 1 : Nat) :=
      ⟨(x1, p, s), Ev.step (f := fun _ => some (x1, p, s)) (fun k => by rw [spec_l1Cur_spoilt.j1, if_neg (by simp)]) (Ev.now _), by simp only []; omega⟩
    by_cases c : n > 0
    · by_cases cz : (x1.size : Int) > 0
      · have e0 : decide ((x1.size : Int) > 0) = true := decide_eq_true cz
        obtain ⟨i, p1, s1, e1, i0, i1, _, a1, b1⟩ := pick_ok hL p s (x1.size : Int) h3 (by omega)
        obtain ⟨j, p2, s2, e2, j0, j1, _, a2, b2⟩ := pick_ok hL p1 s1 (x2.size : Int) (by omega) (by omega)
        obtain ⟨u, p3, s3, e3, u0, u1, _, a3, b3⟩ := pick_ok hL p2 s2 3 (by omega) (by omega)
        have hi : i < x1.size := by omega
        have hw : wrap64 (n - 1) = n - 1 ∨ n > 9223372036854775807 := by
          by_cases g : n ≤ 9223372036854775807
          · exact .inl (wrap_id (by omega) (by omega))
          · exact .inr (by omega)
        have hw : wrap64 (n - 1) = n - 1 := by rcases hw with h | h <;> omega
        have hwi : wrap64 (i + 1) = i + 1 := wrap_id (by omega) (by omega)
        have z1 : ((x1.extract 0 i.toNat).size : Int) = i := by rw [ByteArray.size_extract]; omega
        have z2 : ((x1.extract i.toNat x1.size).size : Int) = x1.size - i := by rw [ByteArray.size_extract]; omega
        have z3 : ((x1.extract (i + 1).toNat x1.size).size : Int) = x1.size - (i + 1) := by rw [ByteArray.size_extract]; omega
        have zy := hs1 (bt x2 j)
        have go : ∃ r, Ev (fun k => spec_l1Cur_spoilt.j1 k x1 x2 n true L p s) r ∧ (r.1.size : Int) ≤ x1.size + (d + 1 : Nat) := by
          by_cases g0 : u = 0
          · have zs : ((((x1.extract 0 i.toNat) ++ strOfNums [bt x2 j]) ++ x1.extract i.toNat x1.size).size : Int) = x1.size + 1 := by rw [ByteArray.size_append, ByteArray.size_append, zy]; omega
            obtain ⟨r, e, q⟩ := ih (((x1.extract 0 i.toNat) ++ strOfNums [bt x2 j]) ++ x1.extract i.toNat x1.size) (n - 1) p3 s3 (by omega) (by omega) (by omega) (by omega)
            refine ⟨r, ?_, by omega⟩
            refine Ev.step (fun k => by rw [spec_l1Cur_spoilt.j1, if_pos rfl]) ?_
            refine Ev.bind (ev_of e1) ?_
            refine Ev.bind (ev_of e2) ?_
            refine ev_if_pos j0 ?_
            refine ev_if_pos (show j < (x2.size : Int) by omega) ?_
            refine Ev.bind (Ev.now _) ?_
            refine Ev.bind (ev_of e3) ?_
            refine ev_if_pos g0 ?_
            refine ev_if_pos i0 ?_
            refine ev_if_pos (show i ≤ (x1.size : Int) by omega) ?_
            refine ev_if_pos (show (x1.extract 0 i.toNat).size + (strOfNums [bt x2 j]).size ≤ _ by rw [zy]; omega) ?_
            refine ev_if_pos (show ((x1.extract 0 i.toNat) ++ (strOfNums [bt x2 j])).size + (x1.extract i.toNat x1.size).size ≤ _ by rw [ByteArray.size_append, zy]; omega) ?_
            rw [hw]
            exact e
          by_cases g1 : u = 1
          · have zs : ((((x1.extract 0 i.toNat) ++ strOfNums [bt x2 j]) ++ x1.extract (i + 1).toNat x1.size).size : Int) = x1.size := by rw [ByteArray.size_append, ByteArray.size_append, zy]; omega
            obtain ⟨r, e, q⟩ := ih (((x1.extract 0 i.toNat) ++ strOfNums [bt x2 j]) ++ x1.extract (i + 1).toNat x1.size) (n - 1) p3 s3 (by omega) (by omega) (by omega) (by omega)
            refine ⟨r, ?_, by omega⟩
            refine Ev.step (fun k => by rw [spec_l1Cur_spoilt.j1, if_pos rfl]) ?_
            refine Ev.bind (ev_of e1) ?_
            refine Ev.bind (ev_of e2) ?_
            refine ev_if_pos j0 ?_
            refine ev_if_pos (show j < (x2.size : Int) by omega) ?_
            refine Ev.bind (Ev.now _) ?_
            refine Ev.bind (ev_of e3) ?_
            refine ev_if_neg g0 ?_
            refine ev_if_pos g1 ?_
            refine ev_if_pos i0 ?_
            refine ev_if_pos (show i ≤ (x1.size : Int) by omega) ?_
            refine ev_if_pos (show (x1.extract 0 i.toNat).size + (strOfNums [bt x2 j]).size ≤ _ by rw [zy]; omega) ?_
            simp only []
            rw [hwi]
            refine ev_if_pos (by omega) (ev_if_pos (by omega) (ev_if_pos (by rw [ByteArray.size_append, zy]; omega) ?_))
            rw [hw]
            exact e
          · have zs : (((x1.extract 0 i.toNat) ++ x1.extract (i + 1).toNat x1.size).size : Int) = x1.size - 1 := by rw [ByteArray.size_append]; omega
            obtain ⟨r, e, q⟩ := ih ((x1.extract 0 i.toNat) ++ x1.extract (i + 1).toNat x1.size) (n - 1) p3 s3 (by omega) (by omega) (by omega) (by omega)
            refine ⟨r, ?_, by omega⟩
            refine Ev.step (fun k => by rw [spec_l1Cur_spoilt.j1, if_pos rfl]) ?_
            refine Ev.bind (ev_of e1) ?_
            refine Ev.bind (ev_of e2) ?_
            refine ev_if_pos j0 ?_
            refine ev_if_pos (show j < (x2.size : Int) by omega) ?_
            refine Ev.bind (Ev.now _) ?_
            refine Ev.bind (ev_of e3) ?_
            refine ev_if_neg g0 ?_
            refine ev_if_neg g1 ?_
            refine ev_if_pos i0 ?_
            refine ev_if_pos (show i ≤ (x1.size : Int) by omega) ?_
            simp only []
            rw [hwi]
            refine ev_if_pos (by omega) (ev_if_pos (by omega) (ev_if_pos (by omega) ?_))
            rw [hw]
            exact e
        obtain ⟨r, e, q⟩ := go
        exact ⟨r, Ev.step (f := fun k => spec_l1Cur_spoilt.j1 k x1 x2 n true L p s) (fun k => by rw [spec_l1Cur_spoilt.l0, if_pos c, e0]) e, q⟩
      · obtain ⟨r, e, q⟩ := stop
        exact ⟨r, Ev.step (f := fun k => spec_l1Cur_spoilt.j1 k x1 x2 n false L p s) (fun k => by rw [spec_l1Cur_spoilt.l0, if_pos c, decide_eq_false cz]) e, q⟩
    · obtain ⟨r, e, q⟩ := stop
      exact ⟨r, Ev.step (f := fun k => spec_l1Cur_spoilt.j1 k x1 x2 n false L p s) (fun k => by rw [spec_l1Cur_spoilt.l0, if_neg c]) e, q⟩
theorem spoilt_ok {L : List Int} (hL : Bytes L) (p s : Int) (x1 x2 : ByteArray) (h2 : 0 < x2.size) (h2' : x2.size ≤ 1000) (h0 : 0 ≤ p) (h1 : p ≤ 400000) (hx : (x1.size : Int) ≤ 900000) : ∃ r, Ev (fun k => spec_l1Cur_spoilt.f k L p s x1 x2) r ∧ (r.1.size : Int) ≤ x1.size + 2 := by
  obtain ⟨v, p1, s1, e1, v0, v1, _, a1, b1⟩ := pick_ok hL p s 3 h0 (by omega)
  obtain ⟨r, e, q⟩ := spoilt_l0 hL x2 h2 h2' 2 x1 v p1 s1 (by omega) (by omega) (by omega) (by omega)
  unfold spec_l1Cur_spoilt.f
  exact ⟨r, Ev.bind (ev_of e1) e, by omega⟩
theorem sameBcs_l0 (l : List S90) (hl : (l.length : Int) ≤ 1048576) : ∀ (d : Nat) (i : Int), 0 ≤ i → i + d = l.length → Ev (fun k => laws_sameBcs.l0 k l l l.length i) true
  | 0, i, h0, h1 => Ev.step (f := fun _ => some true) (fun k => by rw [laws_sameBcs.l0, if_neg (by omega)]) (Ev.now _)
  | d + 1, i, h0, h1 => by
    have hw : wrap64 (i + 1) = i + 1 := wrap_id (by omega) (by omega)
    exact Ev.step (fun k => by rw [laws_sameBcs.l0, if_pos (by omega), if_pos h0, if_pos (by omega), if_pos (by omega), if_neg (by simp), hw]) (sameBcs_l0 l hl d (i + 1) (by omega) (by omega))
theorem sameBcs_ev (l : List S90) (hl : (l.length : Int) ≤ 1048576) : Ev (fun k => laws_sameBcs.f k l l) true := by
  unfold laws_sameBcs.f
  exact ev_if_pos rfl (sameBcs_l0 l hl l.length 0 (by omega) (by omega))
theorem DrawRead_ok {L : List Int} (hL : Bytes L) : ∃ t, Ev (fun k => spec_DrawReadCode.f k L) t ∧ (t.size : Int) ≤ 2000 := by
  obtain ⟨⟨q, p1, s1⟩, e1, h1, h2, h3⟩ := bytecode_ok hL 0
  simp only at h1 h2 h3
  obtain ⟨b, p2, s2, e2, a2, b2⟩ := one_ok hL p1 s1 3 h2 (by omega)
  have ec := spec_CodeBytes_ev q (by omega)
  have hz : ((codeBytesOf q).1.size : Int) ≤ 1300 := by
    unfold codeBytesOf
    split
    · have := code_size q
      simp only []
      omega
    · have z : (((⟨#[]⟩ : ByteArray).size : Nat) : Int) = 0 := rfl
      simp only [z]; omega
  unfold spec_DrawReadCode.f
  cases b
  · exact ⟨(codeBytesOf q).1, Ev.bind e1 (Ev.bind ec (Ev.bind (ev_of e2) (ev_if_neg (by simp) (Ev.now _)))), by omega⟩
  · obtain ⟨r, e3, h4⟩ := spoilt_ok hL p2 s2 (codeBytesOf q).1 (⟨#[0, 1, 4, 9, 255]⟩ : ByteArray) (by decide) (by decide) (by omega) (by omega) (by omega)
    exact ⟨r.1, Ev.bind e1 (Ev.bind ec (Ev.bind (ev_of e2) (ev_if_pos rfl (Ev.bind e3 (Ev.now _))))), by omega⟩
theorem second {L : List Int} (hL : Bytes L) : Ev (fun k => laws_FnCodeBytes.j1 k L) true := by
  obtain ⟨t, et, ht⟩ := DrawRead_ok hL
  obtain ⟨⟨q1, q2⟩, hr, hr2, e1, e2⟩ := ReadCode_both t (by omega)
  have hl : (q1.length : Int) ≤ 1048576 := by
    have h9 : (q1.length : Int) ≤ 120 := hr
    omega
  refine Ev.step (fun k => by rw [laws_FnCodeBytes.j1]) (Ev.bind et (Ev.bind e1 (Ev.bind e2 (ev_if_neg (show ¬ ((q2 != q2) = true) by simp) (Ev.bind (sameBcs_ev q1 hl) (ev_if_pos rfl (Ev.bind (impl_CodeBytes_ev q1 hl) ?_)))))))
  cases q2
  · exact ev_if_neg (by simp) (Ev.now _)
  · obtain ⟨hg, hb⟩ := hr2.2 rfl
    have e : codeBytesOf q1 = (codeBytes q1, true) := by unfold codeBytesOf; rw [if_pos hg]
    rw [e]
    refine ev_if_pos rfl (ev_if_pos rfl ?_)
    have et : (codeBytes q1).toList = t.toList := by unfold codeBytes; simp only at hb; rw [hb, strOf_bytes]
    refine Ev.eq (Ev.now _) ?_
    rw [et]
    simp
theorem FnCodeBytes : laws_FnCodeBytes.Pure0 := by
  intro l0 l1 h0 h1
  apply Ev.rounds
  unfold laws_FnCodeBytes.f
  by_cases c : wrap64 ((l0.length : Int) + (l1.length : Int)) > 1048576
  · exact ev_if_pos c (Ev.now _)
  refine ev_if_neg c ?_
  have hL0 := bytes_wf h0.2
  have hL1 := bytes_wf h1.2
  obtain ⟨⟨q, p1, s1⟩, e1, g1, g2, g3⟩ := bytecode_ok hL0 0
  simp only at g1 g2 g3
  have hq : (q.length : Int) ≤ 1048576 := by omega
  have ed : Ev (fun k => spec_DrawCodeBytes.f k l0) q := by
    unfold spec_DrawCodeBytes.f spec_DrawGoodCode.f
    exact Ev.bind (Ev.bind e1 (Ev.now _)) (Ev.now _)
  refine Ev.bind ed (Ev.bind (impl_CodeBytes_ev q hq) (Ev.bind (spec_CodeBytes_ev q hq) (ev_if_neg (by simp) ?_)))
  rw [bne_self_eq_false]
  refine Ev.step (fun k => by rw [laws_FnCodeBytes.j0, if_neg (by simp)]) ?_
  by_cases hg : goodCode q = true
  · have e : codeBytesOf q = (codeBytes q, true) := by unfold codeBytesOf; rw [if_pos hg]
    rw [e]
    exact ev_if_pos rfl (Ev.bind (ReadCode_of_code q hg) (ev_if_pos rfl (Ev.bind (sameBcs_ev q hq) (ev_if_pos rfl (second hL1)))))
  · have e : codeBytesOf q = (⟨#[]⟩, false) := by unfold codeBytesOf; rw [if_neg hg]
    rw [e]
    exact ev_if_neg (by simp) (second hL1)
end Go.Proofs.Ytipolnpffmfmmab.Pure
