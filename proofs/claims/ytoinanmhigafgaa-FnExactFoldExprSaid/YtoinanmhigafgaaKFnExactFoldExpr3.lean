import Derived.Test.YtoinanmhigafgaaKFnExactFoldExpr2
/- The evaluator, twenty-eighth text: the loops of a function by number; words for values. -/
namespace Go.Ev
set_option linter.unusedVariables false
set_option linter.unusedSimpArgs false
def loopsOf (f : FuncId) : Ann → Code → List LoopQ
  | .cut _ a, c => loopsOf f a c
  | .seq x y, .seq a b => loopsOf f x a ++ loopsOf f y b
  | .cond x y, .cond _ a b => loopsOf f x a ++ loopsOf f y b
  | .block x, .block _ c => loopsOf f x c
  | .loop live after rets thaw x, .loop c => ⟨f, live, after, rets, thaw, x, c⟩ :: loopsOf f x c
  | _, _ => []
/-- Loop i of function f, counted az they stand. -/
def lq (pr : Pr) (f : FuncId) (i : Nat) : LoopQ :=
  match (pr.P.funcs[f]?).bind (·.body) with
  | some c => ((loopsOf f (pr.ann f) c)[i]?).getD ⟨0, [], [], [], [], .n, .skip⟩
  | none => ⟨0, [], [], [], [], .n, .skip⟩
/-- A state at a loop: slots, objects, how many came in. -/
def at_ (l : List (Nat × V)) (H : List Ob) (k0 : Nat) : S := ⟨ofE l, ofL H, k0⟩
def i64 (n : Int) : V := .t (.int .i64 n)
def bl (b : Bool) : V := .t (.bool b)
def sl (sz : Nat) (es : List (List T)) : V := .t (.seq sz es)
theorem wrap_i64 {a : Int} (h1 : -9223372036854775808 ≤ a) (h2 : a ≤ 9223372036854775807) : IntKind.i64.wrap a = a := by
  have hb : IntKind.i64.bits = 64 := rfl
  have hs : IntKind.i64.signed = true := rfl
  unfold IntKind.wrap
  rw [hb, hs]
  simp only [Bool.true_and, decide_eq_true_eq]
  have e1 : (2 : Int) ^ 64 = 18446744073709551616 := by decide
  have e2 : (2 : Int) ^ (64 - 1) = 9223372036854775808 := by decide
  rw [e1, e2]
  split <;> omega
end Go.Ev
namespace Go.Ev
/-- A length, told az it is. -/
def Tp.l {pr : Pr} (n : Nat) : Tp pr := .i (rfl : (n : Int) = n)
/-- The length of a told list. -/
def Tp.ll {pr : Pr} {α : Type} (ce : α → List T) (l : List α) : Tp pr := .i (show ((l.map ce).length : Int) = l.length by rw [List.length_map])
/-- An element of a list that is told by parts. -/
theorem lkp_at {α : Type} (ce : α → List T) {l done rest : List α} {x : α} (h : l = done ++ x :: rest) : lkp (l.map ce) (done.length : Int) = some (ce x) := by
  subst h
  unfold lkp
  rw [if_pos (by omega)]
  simp
theorem lkp_get {α : Type} (ce : α → List T) {l : List α} {i : Int} {x : α} (h0 : 0 ≤ i) (h : l[i.toNat]? = some x) : lkp (l.map ce) i = some (ce x) := by
  unfold lkp
  rw [if_pos h0]
  simp [h]
/-- A row that is filled from the left. -/
def part {α : Type} (g : α → List C) (z : List C) (l done : List α) : List (List C) := done.map g ++ List.replicate (l.length - done.length) z
theorem part_len {α : Type} (g : α → List C) (z : List C) {l done rest : List α} (h : l = done ++ rest) : (part g z l done).length = l.length := by
  subst h; simp [part]
theorem part_nil {α : Type} (g : α → List C) (z : List C) (l : List α) : part g z l [] = List.replicate l.length z := by simp [part]
theorem part_all {α : Type} (g : α → List C) (z : List C) {l done : List α} (h : l = done ++ []) : part g z l done = l.map g := by subst h; simp [part]
theorem part_get {α : Type} (g : α → List C) (z : List C) {l done rest : List α} {x : α} (h : l = done ++ x :: rest) : (part g z l done)[done.length]? = some z := by
  subst h
  unfold part
  rw [List.getElem?_append_right (by simp)]
  simp
theorem part_set {α : Type} (g : α → List C) (z : List C) {l done rest : List α} {x : α} (h : l = done ++ x :: rest) : (part g z l done).set done.length (g x) = part g z l (done ++ [x]) := by
  subst h
  unfold part
  have e1 : (done ++ x :: rest).length - done.length = rest.length + 1 := by simp
  have e2 : (done ++ x :: rest).length - (done ++ [x]).length = rest.length := by simp; omega
  rw [e1, e2, List.replicate_succ, List.set_append_right _ _ (by simp)]
  simp
/-- Frozen, a row of data is itself. -/
theorem fz_all {α : Type} (ce : α → List T) (l : List α) : (((l.map fun x => (ce x).map C.t).drop 0).take l.length).map (·.map C.fz) = l.map ce := by
  rw [List.drop_zero, List.take_of_length_le (by simp), List.map_map]
  apply List.map_congr_left
  intro x _
  simp [C.fz, Function.comp_def]
theorem full_ok {α : Type} (g : α → List C) (l : List α) : decide ((l.map g).length = l.length ∧ 0 + l.length ≤ l.length) = true := decide_eq_true (by simp)
theorem ne_self (a : Int) : (a != a) = false := by simp
theorem str_self (s : ByteArray) : (!(s.toList == s.toList)) = false := by simp
end Go.Ev

/- The evaluator, twenty-ninth text: rules by which a question is told in a nicer form; an outcome that is told otherwise. -/
namespace Go.Ev
set_option linter.unusedVariables false
set_option linter.unusedSimpArgs false
set_option linter.unusedVariables false
set_option linter.unusedSimpArgs false
theorem Ev.tpe {pr : Pr} {q : Q} {o : Out} (l : List (Tp pr)) (o' : Out) (hc : good (trs l) o' = chk (tree pr q) (trs l) o') (e : o' = o) : Ev pr q o := e ▸ Ev.tp l hc
theorem Ev.castq {pr : Pr} {q q' : Q} {o : Out} (e : q = q') (h : Ev pr q o) : Ev pr q' o := e ▸ h
attribute [simp] i64 bl sl
theorem wrap_u8 {a : Int} (h1 : 0 ≤ a) (h2 : a ≤ 255) : IntKind.u8.wrap a = a := by
  have hb : IntKind.u8.bits = 8 := rfl
  have hs : IntKind.u8.signed = false := rfl
  unfold IntKind.wrap
  rw [hb, hs]
  have e1 : (2 : Int) ^ 8 = 256 := by decide
  simp only [Bool.false_and, e1]
  simp
  omega
theorem wrap_u64 {a : Int} (h1 : 0 ≤ a) (h2 : a ≤ 9223372036854775807) : IntKind.u64.wrap a = a := by
  have hb : IntKind.u64.bits = 64 := rfl
  have hs : IntKind.u64.signed = false := rfl
  unfold IntKind.wrap
  rw [hb, hs]
  have e1 : (2 : Int) ^ 64 = 18446744073709551616 := by decide
  simp only [Bool.false_and, e1]
  simp
  omega
/-- Cells of data. -/
def tc (l : List T) : List C := l.map C.t
@[simp] theorem tc_fz (l : List T) : (tc l).map C.fz = l := by simp [tc, C.fz, Function.comp_def]
@[simp] theorem tc_len (l : List T) : (tc l).length = l.length := by simp [tc]
@[simp] theorem map_t_fz (l : List T) : (l.map C.t).map C.fz = l := tc_fz l
@[simp] theorem map_tc_fz {α : Type} (ce : α → List T) (l : List α) : (l.map fun x => tc (ce x)).map (List.map C.fz) = l.map ce := by simp [Function.comp_def]
@[simp] theorem map_tc_fz1 (l : List (List T)) : (l.map tc).map (List.map C.fz) = l := by simp [Function.comp_def]
@[simp] theorem map_tc_fz2 (l : List (List T)) : (l.map (List.map C.t)).map (List.map C.fz) = l := by simp [Function.comp_def, C.fz]
@[simp] theorem lkp_app {α : Type} (az : List α) (y : α) (bs : List α) : lkp (az ++ y :: bs) (az.length : Int) = some y := by simp [lkp]
@[simp] theorem lkp_mapapp {α β : Type} (f : β → α) (az : List β) (y : α) (bs : List α) : lkp (az.map f ++ y :: bs) (az.length : Int) = some y := by
  have := lkp_app (az.map f) y bs
  simpa using this
@[simp] theorem lkp_zero {α : Type} (y : α) (l : List α) : lkp (y :: l) 0 = some y := by simp [lkp]
@[simp] theorem lkp_one {α : Type} (x y : α) (l : List α) : lkp (x :: y :: l) 1 = some y := by simp [lkp]
theorem lkp_some {α β : Type} (f : α → β) {l : List α} {i : Int} {x : α} (h0 : 0 ≤ i) (h : l[i.toNat]? = some x) : lkp (l.map f) i = some (f x) := by simp [lkp, h0, h]
@[simp] theorem set_mid {α : Type} (az : List α) (y z : α) (bs : List α) : (az ++ y :: bs).set az.length z = az ++ z :: bs := by simp
@[simp] theorem set_mapmid {α β : Type} (f : β → α) (az : List β) (y z : α) (bs : List α) : (az.map f ++ y :: bs).set az.length z = az.map f ++ z :: bs := by simp
@[simp high] theorem get_mid {α : Type} (az : List α) (y : α) (bs : List α) : (az ++ y :: bs)[az.length]? = some y := by simp
@[simp high] theorem get_mapmid {α β : Type} (f : β → α) (az : List β) (y : α) (bs : List α) : (az.map f ++ y :: bs)[az.length]? = some y := by simp
@[simp] theorem toNat_add1 (n : Nat) : ((n : Int) + 1).toNat = n + 1 := by omega
@[simp] theorem take_len_map {α β : Type} (f : α → β) (l : List α) : (l.map f).take l.length = l.map f := by rw [← List.length_map (f := f), List.take_length]
end Go.Ev

/- Plain words for what the program's functions compute: bytes, letters, strengths. -/
namespace Go.Ev
set_option linter.unusedVariables false
set_option linter.unusedSimpArgs false
set_option linter.unusedVariables false
set_option linter.unusedSimpArgs false
theorem bys_len (s : ByteArray) : s.toList.length = s.size := by simp only [ByteArray.toList_eq, ByteArray.size, Array.length_toList]
theorem lkpS_mid {s : ByteArray} {done rest : List UInt8} {b : UInt8} {i : Int} (h : s.toList = done ++ b :: rest) (hi : i = done.length) : lkpS s i = some b := by
  subst hi
  have hl : done.length < s.size := by rw [← bys_len, h]; simp
  have : s[done.length]? = some b := by
    rw [getElem?_pos s done.length hl]
    have : s[done.length] = (s.toList)[done.length]'(by rw [bys_len]; exact hl) := by
      simp [ByteArray.toList_eq, ByteArray.getElem_eq_getElem_data]
    rw [this]
    simp [h]
  simp [lkpS, this]
theorem bys_cut {s : ByteArray} {done rest : List UInt8} (h : s.toList = done ++ rest) : (s.size : Int) = done.length + rest.length := by
  have := congrArg List.length h
  rw [bys_len] at this
  simp at this
  omega
theorem size_zero (s : ByteArray) : s.toList = [] ↔ s.size = 0 := by
  have := bys_len s
  constructor
  · intro h; rw [h] at this; simpa using this.symm
  · intro h; exact List.length_eq_zero_iff.1 (by omega)
theorem bytes_ext {a b : ByteArray} (h : a.toList = b.toList) : a = b := by
  rw [ByteArray.toList_eq, ByteArray.toList_eq] at h
  cases a; cases b
  congr 1
  exact Array.toList_inj.1 h
def letter (b : UInt8) : Bool := decide (97 ≤ (b.toNat : Int)) && decide ((b.toNat : Int) ≤ 122)
theorem takeWhile_all (l : List UInt8) : (l.takeWhile letter).length = l.length ↔ l.all letter = true := by
  induction l with
  | nil => simp
  | cons b l ih => cases h : letter b <;> simp [List.takeWhile_cons, h, ih]
theorem takeWhile_size (s : ByteArray) : decide (((s.toList.takeWhile letter).length : Int) = (s.size : Int)) = s.toList.all letter := by
  have h := takeWhile_all s.toList
  rw [bys_len] at h
  cases hl : s.toList.all letter with
  | true => simp only [decide_eq_true_eq]; have := h.2 hl; omega
  | false => simp only [decide_eq_false_iff_not]; intro hh; have := h.1 (by omega); rw [hl] at this; cases this
def strength (l : List UInt8) : Int :=
  if l = [124, 124] then 1 else if l = [38, 38] then 2 else if l = [61, 61] ∨ l = [33, 61] then 3 else if l = [60] ∨ l = [60, 61] then 4
  else if l = [43] ∨ l = [45] then 5 else if l = [42] ∨ l = [47] ∨ l = [37] then 6 else if l = [60, 60] then 7 else 0
theorem strength_nonneg (l : List UInt8) : 0 ≤ strength l := by unfold strength; repeat' split <;> omega
def nameOk (s : ByteArray) : Bool := decide (1 ≤ s.size ∧ s.size ≤ 8) && s.toList.all letter
theorem nameOk_code (s : ByteArray) : nameOk s = (!(s.toList == []) && (decide ((s.size : Int) ≤ 8) && decide (((s.toList.takeWhile letter).length : Int) = (s.size : Int)))) := by
  rw [takeWhile_size]
  unfold nameOk
  have h0 := size_zero s
  by_cases h1 : s.size = 0
  · simp [h1, h0.2 h1]
  · have h2 : s.toList ≠ [] := fun h => h1 (h0.1 h)
    by_cases h3 : s.size ≤ 8
    · have h4 : (s.size : Int) ≤ 8 := by omega
      have h5 : 1 ≤ s.size := by omega
      simp [h2, h3, h4, h5]
    · have h4 : ¬ (s.size : Int) ≤ 8 := by omega
      simp [h3, h4]
theorem nameOk_true {s : ByteArray} (h : s.toList.all letter = true) : nameOk s = (decide ((s.size : Int) ≥ 1) && decide ((s.size : Int) ≤ 8)) := by
  unfold nameOk
  rw [h]
  have e1 : (1 ≤ s.size) ↔ ((s.size : Int) ≥ 1) := by omega
  have e2 : (s.size ≤ 8) ↔ ((s.size : Int) ≤ 8) := by omega
  simp [e1, e2]
theorem nameOk_false {s : ByteArray} (h : s.toList.all letter = false) : nameOk s = false := by unfold nameOk; rw [h]; simp
end Go.Ev

/- Expressions in plain words: parts, trees, how a tree is read. -/
namespace Go.Ev
set_option linter.unusedVariables false
set_option linter.unusedSimpArgs false
set_option linter.unusedVariables false
set_option linter.unusedSimpArgs false
abbrev e0 : ByteArray := ⟨#[]⟩
@[simp] theorem toList_nil (s : ByteArray) : s.toList = [] ↔ s = e0 := by
  constructor
  · intro h; exact bytes_ext (by rw [h]; simp [ByteArray.toList_eq])
  · intro h; rw [h]; simp [ByteArray.toList_eq]
def vs (l : List T) : V := .agg (l.map V.t)
attribute [simp] vs
structure Ex where
  kind : Int
  num : Int
  text : ByteArray
def Ex.ce (x : Ex) : List T := [.int .i64 x.kind, .int .i64 x.num, .str x.text]
def Ex.z : List C := [.t (.int .i64 0), .t (.int .i64 0), .t (.str e0)]
def exs (l : List Ex) : V := sl 3 (l.map Ex.ce)
attribute [simp] exs
structure Line where
  kind : Int
  name : Int
  expr : List Ex
def Line.ce (x : Line) : List T := [.int .i64 x.kind, .int .i64 x.name, .seq 3 (x.expr.map Ex.ce)]
def Line.z : List C := [.t (.int .i64 0), .t (.int .i64 0), .t .nils]
def lines (l : List Line) : V := sl 3 (l.map Line.ce)
inductive E where
  | num (n : Int)
  | name (s : ByteArray)
  | neg (a : E)
  | not (a : E)
  | two (s : ByteArray) (a b : E)
  deriving Inhabited
def E.kind : E → Int
  | .num _ => 1
  | .name _ => 2
  | .neg _ => 3
  | .not _ => 4
  | .two .. => 5
def E.nm : E → Int
  | .num n => n
  | _ => 0
def E.text : E → ByteArray
  | .name s => s
  | .two s _ _ => s
  | _ => e0
/-- The program's tree: its two parts. -/
def E.tab : E → T × T
  | .neg a | .not a => (.ptr [.int .i64 a.kind, .int .i64 a.nm, .str a.text, a.tab.1, a.tab.2] 0, .nilp)
  | .two _ a b => (.ptr [.int .i64 a.kind, .int .i64 a.nm, .str a.text, a.tab.1, a.tab.2] 0, .ptr [.int .i64 b.kind, .int .i64 b.nm, .str b.text, b.tab.1, b.tab.2] 0)
  | _ => (.nilp, .nilp)
def E.tp (e : E) : T := .ptr [.int .i64 e.kind, .int .i64 e.nm, .str e.text, e.tab.1, e.tab.2] 0
/-- The reference's tree: its parts. -/
def E.kids : E → List (List T)
  | .neg a | .not a => [[.int .i64 a.kind, .int .i64 a.nm, .str a.text, .seq 4 a.kids]]
  | .two _ a b => [[.int .i64 a.kind, .int .i64 a.nm, .str a.text, .seq 4 a.kids], [.int .i64 b.kind, .int .i64 b.nm, .str b.text, .seq 4 b.kids]]
  | _ => []
def E.ts (e : E) : List T := [.int .i64 e.kind, .int .i64 e.nm, .str e.text, .seq 4 e.kids]
@[simp] theorem E.kind_num (n : Int) : (E.num n).kind = 1 := rfl
@[simp] theorem E.kind_name (s : ByteArray) : (E.name s).kind = 2 := rfl
@[simp] theorem E.kind_neg (a : E) : (E.neg a).kind = 3 := rfl
@[simp] theorem E.kind_not (a : E) : (E.not a).kind = 4 := rfl
@[simp] theorem E.kind_two (s : ByteArray) (a b : E) : (E.two s a b).kind = 5 := rfl
@[simp] theorem E.nm_num (n : Int) : (E.num n).nm = n := rfl
@[simp] theorem E.nm_name (s : ByteArray) : (E.name s).nm = 0 := rfl
@[simp] theorem E.nm_neg (a : E) : (E.neg a).nm = 0 := rfl
@[simp] theorem E.nm_not (a : E) : (E.not a).nm = 0 := rfl
@[simp] theorem E.nm_two (s : ByteArray) (a b : E) : (E.two s a b).nm = 0 := rfl
@[simp] theorem E.text_num (n : Int) : (E.num n).text = e0 := rfl
@[simp] theorem E.text_name (s : ByteArray) : (E.name s).text = s := rfl
@[simp] theorem E.text_neg (a : E) : (E.neg a).text = e0 := rfl
@[simp] theorem E.text_not (a : E) : (E.not a).text = e0 := rfl
@[simp] theorem E.text_two (s : ByteArray) (a b : E) : (E.two s a b).text = s := rfl
def readE : Nat → List Ex → Option (E × List Ex)
  | 0, _ => none
  | _ + 1, [] => none
  | n + 1, x :: r =>
    if x.kind = 1 then (if 0 ≤ x.num ∧ x.num ≤ 999999999 then if x.text = e0 then some (.num x.num, r) else none else none)
    else if x.kind = 2 then (if x.num = 0 then if nameOk x.text = true then some (.name x.text, r) else none else none)
    else if x.kind = 3 then (if x.num = 0 then if x.text = e0 then match readE n r with
        | some (a, r) => some (.neg a, r)
        | none => none else none else none)
    else if x.kind = 4 then (if x.num = 0 then if x.text = e0 then match readE n r with
        | some (a, r) => some (.not a, r)
        | none => none else none else none)
    else if x.kind = 5 then (if x.num = 0 then if strength x.text.toList = 0 then none else match readE n r with
        | some (a, r1) => match readE n r1 with
          | some (b, r2) => some (.two x.text a b, r2)
          | none => none
        | none => none else none)
    else none
theorem readE_lt (n : Nat) (l : List Ex) : ∀ (e : E) (r : List Ex), readE n l = some (e, r) → r.length < l.length := by
  fun_induction readE n l <;> grind
theorem readE_suf (n : Nat) (l : List Ex) : ∀ (e : E) (r : List Ex), readE n l = some (e, r) → r <:+ l := by
  fun_induction readE n l <;> grind [List.suffix_cons, List.IsSuffix.trans]
theorem readE_mem {n : Nat} {l r : List Ex} {e : E} (h : readE n l = some (e, r)) : ∀ x ∈ r, x ∈ l := fun x hx => (readE_suf n l e r h).mem hx
def outP : Option (E × List Ex) → V
  | none => .tup [.t .nilp, exs []]
  | some (e, r) => .tup [.t e.tp, exs r]
def outS (n : Nat) : Option (E × List Ex) → V
  | none => .tup [vs [.int .i64 0, .int .i64 0, .str e0, .seq 4 []], i64 0]
  | some (e, r) => .tup [vs e.ts, i64 (n - r.length)]
/-- The number of a local's name, or -1. -/
def nameNo (s : ByteArray) : Int :=
  match s.toList with
  | [b] => if 97 ≤ (b.toNat : Int) ∧ (b.toNat : Int) ≤ 106 then (b.toNat : Int) - 97 else -1
  | _ => -1
theorem one_byte {s : ByteArray} (h : s.size = 1) : ∃ b, s.toList = [b] ∧ lkpS s 0 = some b := by
  have hl := bys_len s
  rw [h] at hl
  match hs : s.toList, hl with
  | [b], _ => exact ⟨b, rfl, lkpS_mid (done := []) (rest := []) (by simpa using hs) (by simp)⟩
theorem nameNo_size {s : ByteArray} (h : s.size ≠ 1) : nameNo s = -1 := by
  have hl := bys_len s
  unfold nameNo
  split
  · rename_i b hb; rw [hb] at hl; simp at hl; omega
  · rfl
def bad (x : Ex) : Bool := decide (x.kind = 2) && decide (nameNo x.text < 0)
def E.names : E → Bool
  | .num _ => true
  | .name s => decide (0 ≤ nameNo s)
  | .neg a | .not a => a.names
  | .two _ a b => a.names && b.names
def idxFrom {α : Type} (p : α → Bool) (i : Int) : List α → Int
  | [] => -1
  | x :: r => if p x = true then i else idxFrom p (i + 1) r
theorem idxFrom_any {α : Type} (p : α → Bool) : ∀ (l : List α) (i : Int), 0 ≤ i → decide (idxFrom p i l ≥ 0) = l.any p
  | [], i, hi => by simp [idxFrom]
  | x :: r, i, hi => by
    unfold idxFrom
    cases h : p x with
    | true => simp [h, hi]
    | false => simp only [Bool.false_eq_true, if_false, List.any_cons, h, Bool.false_or]; exact idxFrom_any p r (i + 1) (by omega)
theorem idxFrom_neg {α : Type} (p : α → Bool) (l : List α) (i : Int) : 0 ≤ i → ¬ 0 ≤ idxFrom p i l → idxFrom p i l = -1 := by
  fun_induction idxFrom p i l <;> grind
theorem readE_names (n : Nat) (l : List Ex) : ∀ (e : E) (r : List Ex), readE n l = some (e, r) → l.any bad = (!e.names || r.any bad) := by
  fun_induction readE n l <;> intro e r h
  all_goals (try cases h)
  all_goals grind [E.names, bad]
/-- A whole expression. -/
def parse (l : List Ex) : Option E :=
  if l.length ≤ 40 then match readE l.length l with
    | some (e, []) => some e
    | _ => none else none
def outE : Option E → V
  | none => .t .nilp
  | some e => .t e.tp
/-- A whole expression of locals. -/
def parseL (l : List Ex) : Option E := if l.any bad = true then none else parse l
theorem parse_names {l : List Ex} {e : E} (h : parse l = some e) : l.any bad = !e.names := by
  unfold parse at h
  split at h
  · split at h
    · rename_i e' h1
      obtain rfl := Option.some.inj h
      have := readE_names _ _ _ _ h1
      simpa using this
    · cases h
  · cases h
def lineOk (x : Line) : Bool :=
  if x.kind = 1 then (decide (x.name ≥ 0) && decide (x.name ≤ 9)) && (parseL x.expr).isSome
  else if x.kind = 2 then decide (x.name = 0) && (parseL x.expr).isSome
  else decide (x.kind = 3) && decide (x.name = 0) && decide (x.expr.length = 0)
/-- What the reference has read of a list of parts. -/
def tree? (l : List Ex) : Option E := if l.length ≤ 40 then (readE l.length l).map (·.1) else none
def oKind : Option E → Int
  | some e => e.kind
  | none => 0
def oNm : Option E → Int
  | some e => e.nm
  | none => 0
def oText : Option E → ByteArray
  | some e => e.text
  | none => e0
def oKids : Option E → List (List T)
  | some e => e.kids
  | none => []
def oe (o : Option E) : List T := [.int .i64 (oKind o), .int .i64 (oNm o), .str (oText o), .seq 4 (oKids o)]
@[simp] theorem oKind_some (e : E) : oKind (some e) = e.kind := rfl
@[simp] theorem oNm_some (e : E) : oNm (some e) = e.nm := rfl
@[simp] theorem oText_some (e : E) : oText (some e) = e.text := rfl
@[simp] theorem oKids_some (e : E) : oKids (some e) = e.kids := rfl
@[simp] theorem oKind_none : oKind none = 0 := rfl
@[simp] theorem oNm_none : oNm none = 0 := rfl
@[simp] theorem oText_none : oText none = e0 := rfl
@[simp] theorem oKids_none : oKids none = [] := rfl
theorem parse_tree {l : List Ex} {e : E} (h : parse l = some e) : tree? l = some e := by
  unfold parse at h
  unfold tree?
  split at h
  · rename_i h1
    rw [if_pos h1]
    split at h
    · rename_i h2; rw [h2]; simpa using h
    · cases h
  · cases h
theorem parseL_isSome (l : List Ex) : (parseL l).isSome = ((parse l).isSome && ((tree? l).map E.names).getD true) := by
  unfold parseL
  cases h : parse l with
  | none => simp
  | some e =>
    rw [parse_names h, parse_tree h]
    simp only [Option.map_some, Option.getD_some]
    cases e.names <;> simp
/-- Where loops begin and end: out, the open ones (the last first), what lies behind them in the row. -/
def endsGo : List Line → Int → List Int → List Int → List Int → Option (List Int × List Int × List Int)
  | [], _, out, st, junk => some (out, st, junk)
  | x :: r, i, out, st, junk =>
    if x.kind = 2 then endsGo r (i + 1) out (i :: st) junk.tail
    else if x.kind = 3 then match st with
      | [] => none
      | j :: st' => endsGo r (i + 1) ((out.set i.toNat j).set j.toNat i) st' (j :: junk)
    else endsGo r (i + 1) out st junk
def intc (n : Int) : List C := [.t (.int .i64 n)]
def intt (n : Int) : List T := [.int .i64 n]
def ints (l : List Int) : List (List C) := l.map intc
@[simp] theorem ints_len (l : List Int) : (ints l).length = l.length := by simp [ints]
@[simp] theorem ints_nil : ints [] = [] := rfl
theorem ints_app (a b : List Int) : ints (a ++ b) = ints a ++ ints b := by simp [ints]
theorem ints_cons (a : Int) (b : List Int) : ints (a :: b) = intc a :: ints b := rfl
theorem ints_set (l : List Int) (k : Nat) (n : Int) : (ints l).set k (intc n) = ints (l.set k n) := by simp [ints, List.map_set]
@[simp] theorem take_rev0 (l : List Int) : (ints l.reverse).take l.length = ints l.reverse := by simp [ints, List.take_of_length_le]
@[simp] theorem take_rev (l b : List Int) : (ints (l.reverse ++ b)).take l.length = ints l.reverse := by rw [ints_app, List.take_left' (by simp)]
@[simp] theorem drop_rev (l b : List Int) (j : Int) : (ints (l.reverse ++ j :: b)).drop (l.length + 1) = ints b := by
  rw [show l.reverse ++ j :: b = (l.reverse ++ [j]) ++ b by simp, ints_app, List.drop_left' (by simp)]
@[simp high] theorem get_rev (l b : List Int) (j : Int) : (ints (l.reverse ++ j :: b))[l.length]? = some (intc j) := by
  rw [ints_app, ints_cons, List.getElem?_append_right (by simp)]; simp
@[simp] theorem ints_setC (l : List Int) (k : Nat) (n : Int) : (ints l).set k [C.t (.int .i64 n)] = ints (l.set k n) := ints_set l k n
theorem ints_get {l : List Int} {k : Nat} (h : k < l.length) : (ints l)[k]? = some (intc (l.getD k 0)) := by simp [ints, h]
theorem endsGo_len : ∀ (l : List Line) (i : Int) (out st junk out' st' junk' : List Int), endsGo l i out st junk = some (out', st', junk') → out'.length = out.length
  | [], i, out, st, junk, out', st', junk', h => by simp [endsGo] at h; rw [h.1]
  | x :: r, i, out, st, junk, out', st', junk', h => by
    unfold endsGo at h
    split at h
    · exact endsGo_len r _ _ _ _ _ _ _ h
    · split at h
      · split at h
        · cases h
        · have := endsGo_len r _ _ _ _ _ _ _ h
          simpa using this
      · exact endsGo_len r _ _ _ _ _ _ _ h
def endsOk (l : List Line) : Bool :=
  match endsGo l 0 (List.replicate l.length 0) [] [] with
  | some (_, st, _) => decide (st.length = 0)
  | none => false
def goodProgram (l : List Line) : Bool :=
  (decide ((l.length : Int) ≥ 1) && decide ((l.length : Int) ≤ 12)) && !(l.any fun x => !lineOk x) && endsOk l
@[simp] theorem ints_fz (l : List Int) : (ints l).map (List.map C.fz) = l.map intt := by simp [ints, Function.comp_def, intc, intt, C.fz]
@[simp] theorem ints_fz' (l : List Int) : List.map (fun x => List.map C.fz x) (ints l) = l.map intt := ints_fz l
@[simp] theorem ints_rep (n : Nat) (a : Int) : ints (List.replicate n a) = List.replicate n [C.t (.int .i64 a)] := by simp [ints, intc]
def specGo : List Line → Int → Option Int
  | [], o => some o
  | x :: r, o =>
    if x.kind = 1 then (if (parseL x.expr).isSome = true then if 0 ≤ x.name ∧ x.name ≤ 9 then specGo r o else none else none)
    else if x.kind = 2 then (if (parseL x.expr).isSome = true then if x.name = 0 then specGo r (o + 1) else none else none)
    else if x.kind = 3 then (if x.name = 0 then if x.expr = [] then if o = 0 then none else specGo r (o - 1) else none else none)
    else none
theorem specGo_ends (l : List Line) : ∀ (i : Int) (out st junk : List Int), specGo l st.length = if l.all lineOk = true then (endsGo l i out st junk).map (fun p => (p.2.1.length : Int)) else none := by
  induction l with
  | nil => intro i out st junk; simp [specGo, endsGo]
  | cons x r ih =>
    intro i out st junk
    have h0 := ih (i + 1) out st junk
    have h1 := ih (i + 1) out (i :: st) junk.tail
    have h2 := fun j st' => ih (i + 1) ((out.set i.toNat j).set j.toNat i) st' (j :: junk)
    clear ih
    have e1 : (st.length : Int) + 1 = ((i :: st).length : Int) := by simp
    rw [List.all_cons]
    generalize r.all lineOk = b at *
    by_cases k1 : x.kind = 1
    · simp only [specGo, endsGo, k1, h0, lineOk]
      cases (parseL x.expr).isSome <;> by_cases k4 : 0 ≤ x.name ∧ x.name ≤ 9 <;> cases b <;> simp [k4]
      all_goals (intros; omega)
    · by_cases k2 : x.kind = 2
      · simp only [specGo, endsGo, k2, e1, h1, lineOk]
        cases (parseL x.expr).isSome <;> by_cases k4 : x.name = 0 <;> cases b <;> simp [k4]
      · by_cases k3 : x.kind = 3
        · cases st with
          | nil => simp [specGo, endsGo, k3, lineOk]
          | cons j st' =>
            have e : (((j :: st').length : Int) - 1) = (st'.length : Int) := by simp
            have e2 : ¬ (((j :: st').length : Int) = 0) := by simp; omega
            have h3 := h2 j st'
            simp only [specGo, endsGo, k3, e, h3, lineOk, e2]
            by_cases k4 : x.name = 0 <;> by_cases k5 : x.expr = [] <;> cases b <;> simp [k4, k5]
        · have : lineOk x = false := by simp [lineOk, k1, k2, k3]
          simp [specGo, k1, k2, k3, this]
theorem goodProgram_spec (l : List Line) : goodProgram l = match specGo l 0 with
    | some o => (decide ((l.length : Int) ≥ 1) && decide ((l.length : Int) ≤ 12)) && decide (o = 0)
    | none => false := by
  have h := specGo_ends l 0 (List.replicate l.length 0) [] []
  have h00 : ((([] : List Int).length : Nat) : Int) = 0 := rfl
  rw [h00] at h
  unfold goodProgram endsOk
  have e : (l.any fun x => !lineOk x) = !(l.all lineOk) := by simp [List.any_eq_not_all_not]
  rw [e, h]
  cases l.all lineOk with
  | false => simp
  | true =>
    simp only [if_true]
    cases endsGo l 0 (List.replicate l.length 0) [] [] with
    | none => simp
    | some p => obtain ⟨a, b, c⟩ := p; simp
end Go.Ev

/- Code that is made of an expression, in plain words. -/
namespace Go.Ev
set_option linter.unusedVariables false
set_option linter.unusedSimpArgs false
set_option linter.unusedVariables false
set_option linter.unusedSimpArgs false
@[simp] theorem toNat_add2 (n : Nat) : ((n : Int) + 2).toNat = n + 2 := by omega
structure Bc where
  op : Int
  n : Int
  text : ByteArray
def Bc.ce (x : Bc) : List T := [.int .i64 x.op, .int .i64 x.n, .str x.text]
def Bc.cc (x : Bc) : List C := [.t (.int .i64 x.op), .t (.int .i64 x.n), .t (.str x.text)]
def bcc (l : List Bc) : List (List C) := l.map Bc.cc
def bcs (l : List Bc) : V := sl 3 (l.map Bc.ce)
@[simp] theorem bcc_len (l : List Bc) : (bcc l).length = l.length := by simp [bcc]
@[simp] theorem bcc_nil : bcc [] = [] := rfl
theorem bcc_app (a b : List Bc) : bcc (a ++ b) = bcc a ++ bcc b := by simp [bcc]
theorem bcc_cons (a : Bc) (b : List Bc) : bcc (a :: b) = a.cc :: bcc b := rfl
@[simp] theorem bcc_take (l : List Bc) : (bcc l).take l.length = bcc l := by rw [← bcc_len l, List.take_length]
@[simp] theorem bcc_fz (l : List Bc) : (bcc l).map (List.map C.fz) = l.map Bc.ce := by simp [bcc, Function.comp_def, Bc.cc, Bc.ce, C.fz]
@[simp] theorem bcc_fz' (l : List Bc) : List.map (fun x => List.map C.fz x) (bcc l) = l.map Bc.ce := bcc_fz l
@[simp] theorem bcc_take' (l : List Bc) : List.take l.length (l.map Bc.ce) = l.map Bc.ce := by rw [List.take_of_length_le (by simp)]
theorem bcc_set (l : List Bc) (k : Nat) (o n : Int) (s : ByteArray) : (bcc l).set k [C.t (.int .i64 o), C.t (.int .i64 n), C.t (.str s)] = bcc (l.set k ⟨o, n, s⟩) := by simp [bcc, List.map_set, Bc.cc]
@[simp] theorem bcc_snoc (l : List Bc) (o n : Int) (s : ByteArray) (r : List (List C)) : bcc l ++ [C.t (.int .i64 o), C.t (.int .i64 n), C.t (.str s)] :: r = bcc (l ++ [⟨o, n, s⟩]) ++ r := by simp [bcc, Bc.cc]
@[simp] theorem bcc_one (o n : Int) (s : ByteArray) : [[C.t (.int .i64 o), C.t (.int .i64 n), C.t (.str s)]] = bcc [⟨o, n, s⟩] := rfl
@[simp] theorem bcc_join (a b : List Bc) : bcc a ++ bcc b = bcc (a ++ b) := (bcc_app a b).symm
@[simp] theorem bcc_setC (l : List Bc) (k : Nat) (o n : Int) (s : ByteArray) : (bcc l).set k [C.t (.int .i64 o), C.t (.int .i64 n), C.t (.str s)] = bcc (l.set k ⟨o, n, s⟩) := bcc_set l k o n s
@[simp] theorem bcc_take_le {l : List Bc} {k : Nat} (h : l.length ≤ k) : (bcc l).take k = bcc l := List.take_of_length_le (by simpa using h)
abbrev sNot : ByteArray := ⟨#[33]⟩
abbrev sMinus : ByteArray := ⟨#[45]⟩
def bNot : Bc := ⟨5, 0, sNot⟩
/-- The code of an expression behind others. -/
def codeE : E → List Bc → List Bc
  | .num n, l => l ++ [⟨1, n, e0⟩]
  | .name s, l => l ++ [⟨2, nameNo s, e0⟩]
  | .neg a, l => codeE a l ++ [⟨5, 0, sMinus⟩]
  | .not a, l => codeE a l ++ [bNot]
  | .two s a b, l =>
    if s.toList = [38, 38] then
      let o := codeE b (codeE a l ++ [⟨7, 0, e0⟩]) ++ [bNot, bNot]
      (o.set (codeE a l).length ⟨7, o.length + 1, e0⟩) ++ [⟨6, o.length + 2, e0⟩, ⟨1, 0, e0⟩]
    else if s.toList = [124, 124] then
      let o := codeE b (codeE a l ++ [⟨7, (codeE a l).length + 3, e0⟩, ⟨1, 1, e0⟩, ⟨6, 0, e0⟩]) ++ [bNot, bNot]
      o.set ((codeE a l).length + 2) ⟨6, o.length, e0⟩
    else codeE b (codeE a l) ++ [⟨4, 0, s⟩]
def E.size : E → Nat
  | .num _ | .name _ => 1
  | .neg a | .not a => a.size + 1
  | .two _ a b => a.size + b.size + 1
theorem codeE_len (e : E) (l : List Bc) : l.length < (codeE e l).length ∧ (codeE e l).length ≤ l.length + 6 * e.size := by
  induction e generalizing l with
  | num n => simp [codeE, E.size]
  | name s => simp [codeE, E.size]
  | neg a ih => have := ih l; simp [codeE, E.size]; omega
  | not a ih => have := ih l; simp [codeE, E.size]; omega
  | two s a b iha ihb =>
    have h1 := iha l
    have h2 := ihb (codeE a l ++ [⟨7, 0, e0⟩])
    have h3 := ihb (codeE a l ++ [⟨7, (codeE a l).length + 3, e0⟩, ⟨1, 1, e0⟩, ⟨6, 0, e0⟩])
    have h4 := ihb (codeE a l)
    unfold codeE
    simp only [List.length_append, List.length_cons, List.length_nil] at h2 h3
    split
    · simp [E.size]; omega
    · split
      · simp [E.size]; omega
      · simp [E.size]; omega
/-- What lies before stays. -/
theorem codeE_get (e : E) (l : List Bc) : ∀ k, k < l.length → (codeE e l)[k]? = l[k]? := by
  induction e generalizing l with
  | num n => intro k hk; simp [codeE, List.getElem?_append_left, hk]
  | name s => intro k hk; simp [codeE, List.getElem?_append_left, hk]
  | neg a ih => intro k hk; have := (codeE_len a l).1; simp only [codeE]; rw [List.getElem?_append_left (by omega)]; exact ih l k hk
  | not a ih => intro k hk; have := (codeE_len a l).1; simp only [codeE]; rw [List.getElem?_append_left (by omega)]; exact ih l k hk
  | two s a b iha ihb =>
    intro k hk
    have h1 := (codeE_len a l).1
    have h2 := (codeE_len b (codeE a l ++ [⟨7, 0, e0⟩])).1
    have h3 := (codeE_len b (codeE a l ++ [⟨7, (codeE a l).length + 3, e0⟩, ⟨1, 1, e0⟩, ⟨6, 0, e0⟩])).1
    have h4 := (codeE_len b (codeE a l)).1
    simp only [List.length_append, List.length_cons, List.length_nil] at h2 h3
    unfold codeE
    split
    · dsimp only
      rw [List.getElem?_append_left (by simp; omega), List.getElem?_set_ne (by omega), List.getElem?_append_left (by omega), ihb _ k (by simp; omega), List.getElem?_append_left (by omega), iha l k hk]
    · split
      · dsimp only
        rw [List.getElem?_set_ne (by omega), List.getElem?_append_left (by omega), ihb _ k (by simp; omega), List.getElem?_append_left (by omega), iha l k hk]
      · rw [List.getElem?_append_left (by omega), ihb _ k (by omega), iha l k hk]
theorem readE_size (n : Nat) (l : List Ex) : ∀ (e : E) (r : List Ex), readE n l = some (e, r) → e.size + r.length ≤ l.length := by
  fun_induction readE n l <;> grind [E.size]
theorem parse_size {l : List Ex} {e : E} (h : parse l = some e) : e.size ≤ 40 := by
  unfold parse at h
  split at h
  · split at h
    · rename_i h1
      obtain rfl := Option.some.inj h
      have := readE_size _ _ _ _ h1
      simp at this
      omega
    · cases h
  · cases h
theorem parseL_parse {l : List Ex} {e : E} (h : parseL l = some e) : parse l = some e := by
  unfold parseL at h
  split at h
  · cases h
  · exact h
theorem parseL_size {l : List Ex} {e : E} (h : parseL l = some e) : e.size ≤ 40 := parse_size (parseL_parse h)
theorem parseL_names {l : List Ex} {e : E} (h : parseL l = some e) : e.names = true := by
  have h1 := parseL_parse h
  unfold parseL at h
  split at h
  · cases h
  · rename_i hb
    rw [parse_names h1] at hb
    simpa using hb
/-- The code of an expression of locals, where it is not too long. -/
def makeExpr (l : List Ex) : Option (List Bc) :=
  match parseL l with
  | some e => if (codeE e []).length ≤ 120 then some (codeE e []) else none
  | none => none
end Go.Ev

/- Marks, in plain words. -/
namespace Go.Ev
set_option linter.unusedVariables false
set_option linter.unusedSimpArgs false
set_option linter.unusedVariables false
set_option linter.unusedSimpArgs false
def mtGo : Nat → Int → ByteArray → ByteArray
  | 0, _, o => o
  | n + 1, k, o => if k > 0 then mtGo n (k.tdiv 10) (strOf [48 + k.tmod 10] ++ o) else o
def mText (k : Int) : ByteArray := if k ≤ 0 then ⟨#[109, 48]⟩ else ⟨#[109]⟩ ++ mtGo 18 k ⟨#[]⟩
theorem strOf_size (xs : List Int) : (strOf xs).size = xs.length := by simp [strOf, ByteArray.size]
theorem mtGo_size : ∀ (n : Nat) (k : Int) (o : ByteArray), o.size + n ≤ 1000 → (mtGo n k o).size ≤ 1000
  | 0, k, o, h => by simp only [mtGo]; omega
  | n + 1, k, o, h => by
    unfold mtGo
    split
    · exact mtGo_size n _ _ (by rw [ByteArray.size_append, strOf_size]; simp; omega)
    · omega
/-- A list of three cells an element, marked from k on. -/
def mark3 (mt : Int → ByteArray) (k : Int) : Nat → List Bc
  | 0 => []
  | n + 1 => ⟨k, k + 1, mt (k + 1 + 1)⟩ :: mark3 mt (k + 1 + 1 + 1) n
@[simp high] theorem bcc_get_mid (m : List Bc) (x : Bc) (r : List Bc) : (bcc (m ++ x :: r))[m.length]? = some [C.t (.int .i64 x.op), C.t (.int .i64 x.n), C.t (.str x.text)] := by simp [bcc, Bc.cc]
@[simp high] theorem lkp_bc_mid (m : List Bc) (x : Bc) (r : List Bc) : lkp ((m ++ x :: r).map Bc.ce) (m.length : Int) = some [T.int .i64 x.op, T.int .i64 x.n, T.str x.text] := by simp [Bc.ce]
def exb (l : List Ex) : List Bc := l.map fun x => ⟨x.kind, x.num, x.text⟩
@[simp] theorem exb_len (l : List Ex) : (exb l).length = l.length := by simp [exb]
@[simp] theorem exb_ce (l : List Ex) : (exb l).map Bc.ce = l.map Ex.ce := by simp [exb, Function.comp_def, Bc.ce, Ex.ce]
@[simp high] theorem lkp_ex_mid (m : List Ex) (x : Ex) (r : List Ex) : lkp ((m ++ x :: r).map Ex.ce) (m.length : Int) = some [T.int .i64 x.kind, T.int .i64 x.num, T.str x.text] := by simp [Ex.ce]
theorem mark3_len (mt : Int → ByteArray) (k : Int) (n : Nat) : (mark3 mt k n).length = n := by induction n generalizing k with
  | zero => rfl
  | succ n ih => simp [mark3, ih]
end Go.Ev

/- Numbers of expressions, and expressions folded, in plain words. -/
namespace Go.Ev
set_option linter.unusedVariables false
set_option linter.unusedSimpArgs false
set_option linter.unusedVariables false
set_option linter.unusedSimpArgs false
/-- A number and code 0, or a code. -/
def inB (n : Int) : Int × Int := if -1000000000 ≤ n ∧ n ≤ 1000000000 then (n, 0) else (0, 3)
def tru (b : Bool) : Int := if b = true then 1 else 0
def two2 (l : List UInt8) (a b : Int) : Int × Int :=
  if l = [43] then inB (a + b) else if l = [45] then inB (a - b) else if l = [42] then inB (a * b)
  else if l = [47] then (if b = 0 then (0, 2) else (a.tdiv b, 0)) else if l = [37] then (if b = 0 then (0, 2) else (a.tmod b, 0))
  else if l = [60, 60] then (if 0 ≤ b ∧ b ≤ 20 then inB (a * 2 ^ b.toNat) else (0, 3))
  else if l = [60] then (tru (decide (a < b)), 0) else if l = [60, 61] then (tru (decide (a ≤ b)), 0) else if l = [61, 61] then (tru (decide (a = b)), 0)
  else (tru (!decide (a = b)), 0)
/-- The number of an expression where `f` tells that of a name (none: no such name). -/
def evalE (f : ByteArray → Option Int) : E → Int × Int
  | .num n => (n, 0)
  | .name s => match f s with
    | some n => (n, 0)
    | none => (0, 1)
  | .neg a => if (evalE f a).2 = 0 then (-(evalE f a).1, 0) else (0, (evalE f a).2)
  | .not a => if (evalE f a).2 = 0 then (tru (decide ((evalE f a).1 = 0)), 0) else (0, (evalE f a).2)
  | .two s a b =>
    if (evalE f a).2 = 0 then
      (if s.toList = [38, 38] then (if (evalE f a).1 = 0 then (0, 0) else if (evalE f b).2 = 0 then (tru (!decide ((evalE f b).1 = 0)), 0) else (0, (evalE f b).2))
       else if s.toList = [124, 124] then (if (evalE f a).1 = 0 then (if (evalE f b).2 = 0 then (tru (!decide ((evalE f b).1 = 0)), 0) else (0, (evalE f b).2)) else (1, 0))
       else if (evalE f b).2 = 0 then two2 s.toList (evalE f a).1 (evalE f b).1 else (0, (evalE f b).2))
    else (0, (evalE f a).2)
/-- Where all is known a number stands; and whether it does. -/
def foldNum (e : E) : E × Bool :=
  if (evalE (fun _ => none) e).2 = 0 ∧ 0 ≤ (evalE (fun _ => none) e).1 ∧ (evalE (fun _ => none) e).1 ≤ 999999999 then (.num (evalE (fun _ => none) e).1, true) else (e, false)
def foldE : E → E × Bool
  | .num n => foldNum (.num n)
  | .name s => (.name s, false)
  | .neg a => if (foldE a).2 = true then foldNum (.neg (foldE a).1) else (.neg (foldE a).1, false)
  | .not a => if (foldE a).2 = true then foldNum (.not (foldE a).1) else (.not (foldE a).1, false)
  | .two s a b => if (foldE a).2 = true ∧ (foldE b).2 = true then foldNum (.two s (foldE a).1 (foldE b).1) else (.two s (foldE a).1 (foldE b).1, false)
/-- The parts of an expression, in order. -/
def E.parts : E → List Ex
  | .num n => [⟨1, n, e0⟩]
  | .name s => [⟨2, 0, s⟩]
  | .neg a => ⟨3, 0, e0⟩ :: a.parts
  | .not a => ⟨4, 0, e0⟩ :: a.parts
  | .two s a b => ⟨5, 0, s⟩ :: (a.parts ++ b.parts)
theorem mul_bd {a b : Int} (ha : -1000000000 ≤ a) (ha2 : a ≤ 1000000000) (hb : -1000000000 ≤ b) (hb2 : b ≤ 1000000000) : -1000000000000000000 ≤ a * b ∧ a * b ≤ 1000000000000000000 := by
  have h1 : a.natAbs ≤ 1000000000 := by omega
  have h2 : b.natAbs ≤ 1000000000 := by omega
  have h3 : (a * b).natAbs ≤ 1000000000 * 1000000000 := by rw [Int.natAbs_mul]; exact Nat.mul_le_mul h1 h2
  omega
theorem tdiv_bd {a : Int} (b : Int) (ha : -1000000000 ≤ a) (ha2 : a ≤ 1000000000) : -1000000000 ≤ a.tdiv b ∧ a.tdiv b ≤ 1000000000 := by
  have h1 : (a.tdiv b).natAbs ≤ a.natAbs := by rw [Int.natAbs_tdiv]; exact Nat.div_le_self _ _
  omega
/-- A tree az it is read: numbers in bounds, signs known. -/
def E.ok : E → Prop
  | .num n => 0 ≤ n ∧ n ≤ 999999999
  | .name _ => True
  | .neg a | .not a => a.ok
  | .two s a b => strength s.toList ≠ 0 ∧ a.ok ∧ b.ok
theorem readE_ok (n : Nat) (l : List Ex) : ∀ (e : E) (r : List Ex), readE n l = some (e, r) → e.ok := by
  fun_induction readE n l <;> grind [E.ok]
theorem parse_ok {l : List Ex} {e : E} (h : parse l = some e) : e.ok := by
  unfold parse at h
  split at h
  · split at h
    · rename_i h1
      obtain rfl := Option.some.inj h
      exact readE_ok _ _ _ _ h1
    · cases h
  · cases h
theorem inB_bd (n : Int) : -1000000000 ≤ (inB n).1 ∧ (inB n).1 ≤ 1000000000 := by unfold inB; split <;> simp <;> omega
theorem tru_bd (b : Bool) : 0 ≤ tru b ∧ tru b ≤ 1 := by unfold tru; split <;> omega
theorem tmod_bd {a : Int} (b : Int) (ha : -1000000000 ≤ a) (ha2 : a ≤ 1000000000) : -1000000000 ≤ a.tmod b ∧ a.tmod b ≤ 1000000000 := by
  have h1 : (a.tmod b).natAbs ≤ a.natAbs := by rw [Int.natAbs_tmod]; exact Nat.mod_le _ _
  omega
theorem two2_bd (l : List UInt8) {a b : Int} (ha : -1000000000 ≤ a) (ha2 : a ≤ 1000000000) : -1000000000 ≤ (two2 l a b).1 ∧ (two2 l a b).1 ≤ 1000000000 := by
  have h1 := inB_bd (a + b)
  have h2 := inB_bd (a - b)
  have h3 := inB_bd (a * b)
  have h4 := tdiv_bd b ha ha2
  have h5 := tmod_bd b ha ha2
  have h6 := inB_bd (a * 2 ^ b.toNat)
  have h7 := tru_bd (decide (a < b))
  have h8 := tru_bd (decide (a ≤ b))
  have h9 := tru_bd (decide (a = b))
  have h10 := tru_bd (!decide (a = b))
  unfold two2
  repeat' split
  all_goals first | assumption | (simp; omega) | (dsimp only; omega)
theorem evalE_bd (f : ByteArray → Option Int) (hf : ∀ s n, f s = some n → -1000000000 ≤ n ∧ n ≤ 1000000000) : ∀ (e : E), e.ok → -1000000000 ≤ (evalE f e).1 ∧ (evalE f e).1 ≤ 1000000000
  | .num n, h => by simp only [E.ok] at h; simp only [evalE]; omega
  | .name s, h => by
    simp only [evalE]
    split
    · exact hf _ _ (by assumption)
    · simp
  | .neg a, h => by
    have := evalE_bd f hf a h
    simp only [evalE]
    split <;> dsimp only <;> omega
  | .not a, h => by
    have := tru_bd (decide ((evalE f a).1 = 0))
    simp only [evalE]
    split <;> dsimp only <;> omega
  | .two s a b, h => by
    have h1 := evalE_bd f hf a h.2.1
    have h2 := two2_bd s.toList (b := (evalE f b).1) h1.1 h1.2
    have h3 := tru_bd (!decide ((evalE f b).1 = 0))
    simp only [evalE]
    repeat' split
    all_goals first | assumption | (dsimp only; omega)
abbrev ev0 (e : E) : Int × Int := evalE (fun _ => none) e
theorem evalE0_bd {e : E} (h : e.ok) : -1000000000 ≤ (ev0 e).1 ∧ (ev0 e).1 ≤ 1000000000 := evalE_bd _ (fun s n h => by cases h) e h
/-- The same, not yet kept in bounds. -/
def do2 (l : List UInt8) (a b : Int) : Int × Int :=
  if l = [43] then (a + b, 0) else if l = [45] then (a - b, 0) else if l = [42] then (a * b, 0)
  else if l = [60] then (tru (decide (a < b)), 0) else if l = [60, 61] then (tru (decide (a ≤ b)), 0) else if l = [61, 61] then (tru (decide (a = b)), 0)
  else if l = [33, 61] then (tru (!decide (a = b)), 0)
  else if l = [60, 60] then (if 0 ≤ b ∧ b ≤ 20 then (a * 2 ^ b.toNat, 0) else (0, 3))
  else if b = 0 then (0, 2) else if l = [47] then (a.tdiv b, 0) else (a.tmod b, 0)
def outB (p : Int × Int) : Int × Int := if p.2 = 0 ∧ ¬ (-1000000000 ≤ p.1 ∧ p.1 ≤ 1000000000) then (0, 3) else p
theorem do2_two (l : List UInt8) (a b : Int) (h : strength l ≠ 0) (h1 : l ≠ [38, 38]) (h2 : l ≠ [124, 124]) (ha : -1000000000 ≤ a) (ha2 : a ≤ 1000000000) : two2 l a b = outB (do2 l a b) := by
  have h4 := tdiv_bd b ha ha2
  have h5 := tmod_bd b ha ha2
  have h7 := tru_bd (decide (a < b))
  have h8 := tru_bd (decide (a ≤ b))
  have h9 := tru_bd (decide (a = b))
  have h10 := tru_bd (!decide (a = b))
  unfold two2 do2
  generalize tru (decide (a < b)) = t7 at *
  generalize tru (decide (a ≤ b)) = t8 at *
  generalize tru (decide (a = b)) = t9 at *
  generalize tru (!decide (a = b)) = t10 at *
  generalize a.tdiv b = t4 at *
  generalize a.tmod b = t5 at *
  generalize a * 2 ^ b.toNat = t6 at *
  generalize a * b = t3 at *
  have hl : l = [61, 61] ∨ l = [33, 61] ∨ l = [60] ∨ l = [60, 61] ∨ l = [43] ∨ l = [45] ∨ l = [42] ∨ l = [47] ∨ l = [37] ∨ l = [60, 60] := by
    unfold strength at h
    grind
  rcases hl with rfl | rfl | rfl | rfl | rfl | rfl | rfl | rfl | rfl | rfl
  all_goals simp [outB, inB]
  all_goals grind
theorem pow2_eq {n : Nat} (h : n ≤ 20) : pow2 (n : Int) 64 = 2 ^ n := by
  unfold pow2
  rw [Int.toNat_natCast, Nat.min_eq_left (by omega)]
theorem pow_bd {n : Nat} (h : n ≤ 20) : 1 ≤ (2 : Int) ^ n ∧ (2 : Int) ^ n ≤ 1048576 := by
  have h1 : (2 : Nat) ^ n ≤ 2 ^ 20 := Nat.pow_le_pow_right (by omega) h
  have h2 : 1 ≤ (2 : Nat) ^ n := Nat.one_le_two_pow
  have h3 : (2 : Nat) ^ 20 = 1048576 := by decide
  have h4 : (2 : Int) ^ n = ((2 ^ n : Nat) : Int) := by simp
  rw [h4]
  omega
theorem mulp_bd {a p : Int} (ha : -1000000000 ≤ a) (ha2 : a ≤ 1000000000) (hp : 1 ≤ p ∧ p ≤ 1048576) : -1048576000000000 ≤ a * p ∧ a * p ≤ 1048576000000000 := by
  have h1 : a.natAbs ≤ 1000000000 := by omega
  have h2 : p.natAbs ≤ 1048576 := by omega
  have h3 : (a * p).natAbs ≤ 1000000000 * 1048576 := by rw [Int.natAbs_mul]; exact Nat.mul_le_mul h1 h2
  omega
theorem foldNum_ok {e : E} (h : e.ok) : (foldNum e).1.ok := by
  unfold foldNum
  split
  · rename_i h1; exact h1.2
  · exact h
theorem foldE_ok : ∀ (e : E), e.ok → (foldE e).1.ok
  | .num n, h => foldNum_ok h
  | .name s, h => h
  | .neg a, h => by
    have := foldE_ok a h
    simp only [foldE]
    split
    · exact foldNum_ok this
    · exact this
  | .not a, h => by
    have := foldE_ok a h
    simp only [foldE]
    split
    · exact foldNum_ok this
    · exact this
  | .two s a b, h => by
    have h1 := foldE_ok a h.2.1
    have h2 := foldE_ok b h.2.2
    simp only [foldE]
    split
    · exact foldNum_ok (e := .two s _ _) ⟨h.1, h1, h2⟩
    · exact ⟨h.1, h1, h2⟩
theorem foldNum_kind {e : E} (h : e.kind ≠ 1) : (foldNum e).2 = decide ((foldNum e).1.kind = 1) := by
  unfold foldNum
  split
  · simp
  · simp [h]
theorem foldE_kind : ∀ (e : E), e.ok → (foldE e).2 = decide ((foldE e).1.kind = 1)
  | .num n, h => by
    simp only [E.ok] at h
    simp [foldE, foldNum, evalE, h]
  | .name s, h => by simp [foldE]
  | .neg a, h => by
    simp only [foldE]
    split
    · exact foldNum_kind (by simp)
    · simp
  | .not a, h => by
    simp only [foldE]
    split
    · exact foldNum_kind (by simp)
    · simp
  | .two s a b, h => by
    simp only [foldE]
    split
    · exact foldNum_kind (by simp)
    · simp
theorem parts_len (e : E) : e.parts.length = e.size := by induction e <;> simp [E.parts, E.size, *] <;> omega
theorem foldNum_size (e : E) : (foldNum e).1.size ≤ e.size := by
  unfold foldNum
  split
  · cases e <;> simp [E.size]
  · exact Nat.le_refl _
theorem foldE_size (e : E) : (foldE e).1.size ≤ e.size := by
  induction e with
  | num n => exact foldNum_size _
  | name s => exact Nat.le_refl _
  | neg a ih =>
    have h := foldNum_size (.neg (foldE a).1)
    simp only [foldE]
    split <;> simp only [E.size] at * <;> omega
  | not a ih =>
    have h := foldNum_size (.not (foldE a).1)
    simp only [foldE]
    split <;> simp only [E.size] at * <;> omega
  | two s a b iha ihb =>
    have h := foldNum_size (.two s (foldE a).1 (foldE b).1)
    simp only [foldE]
    split <;> simp only [E.size] at * <;> omega
/-- An expression folded: its parts. -/
def foldX (l : List Ex) : Option (List Ex) := (parse l).map fun e => (foldE e).1.parts
theorem exb_app (a b : List Ex) : exb (a ++ b) = exb a ++ exb b := by simp [exb]
theorem exb_cons (a : Ex) (b : List Ex) : exb (a :: b) = ⟨a.kind, a.num, a.text⟩ :: exb b := rfl
end Go.Ev

/- The evaluator's policies and annotations of this program's functions: printed by a program of mine. -/
namespace Go.Ev
set_option linter.unusedVariables false
set_option linter.unusedSimpArgs false
open Go.Proofs
def prPrim : FuncId → Option (List V → List Ob → Option (V × List Ob)) := fun _ => none
def prPol : FuncId → Pol
  | 2 => { modes := [], own := false, nest := false, frz := [] }
  | 3 => { modes := [.borrow], own := false, nest := false, frz := [] }
  | 4 => { modes := [.borrow], own := false, nest := false, frz := [] }
  | 5 => { modes := [.borrow], own := false, nest := false, frz := [] }
  | 6 => { modes := [.borrow], own := false, nest := false, frz := [] }
  | 7 => { modes := [.borrow, .borrow, .borrow], own := false, nest := false, frz := [] }
  | 8 => { modes := [.borrow, .borrow, .borrow], own := false, nest := false, frz := [] }
  | 9 => { modes := [.borrow, .borrow], own := false, nest := false, frz := [] }
  | 10 => { modes := [.move], own := false, nest := false, frz := [] }
  | 11 => { modes := [.borrow], own := false, nest := false, frz := [], soft := [[3]] }
  | 12 => { modes := [.borrow], own := false, nest := false, frz := [] }
  | 13 => { modes := [.borrow, .borrow], own := false, nest := false, frz := [] }
  | 14 => { modes := [.borrow, .borrow], own := false, nest := false, frz := [] }
  | 15 => { modes := [.move], own := false, nest := false, frz := [], soft := [[3], [0]] }
  | 16 => { modes := [.borrow], own := true, nest := false, frz := [] }
  | 17 => { modes := [.borrow], own := true, nest := false, frz := [] }
  | 18 => { modes := [.borrow, .borrow], own := false, nest := false, frz := [] }
  | 19 => { modes := [.borrow, .borrow], own := false, nest := false, frz := [] }
  | 20 => { modes := [.pass, .pass], own := false, nest := false, frz := [] }
  | 21 => { modes := [.pass, .pass], own := false, nest := false, frz := [] }
  | 22 => { modes := [.borrow, .borrow], own := false, nest := false, frz := [] }
  | 23 => { modes := [.move], own := false, nest := false, frz := [], soft := [[3], [0]] }
  | 24 => { modes := [.borrow], own := true, nest := false, frz := [] }
  | 25 => { modes := [.borrow, .borrow], own := false, nest := false, frz := [] }
  | 26 => { modes := [.move], own := false, nest := false, frz := [], soft := [[3], [0]] }
  | 27 => { modes := [.borrow], own := true, nest := false, frz := [] }
  | 28 => { modes := [.pass, .pass], own := false, nest := false, frz := [] }
  | 29 => { modes := [.move, .move, .move], own := false, nest := false, frz := [], soft := [[1], [0], [0]] }
  | 30 => { modes := [.borrow], own := true, nest := false, frz := [] }
  | 31 => { modes := [.borrow, .borrow, .borrow], own := false, nest := false, frz := [], soft := [[1], [0], [0]] }
  | 32 => { modes := [.borrow, .borrow], own := false, nest := false, frz := [] }
  | 33 => { modes := [.pass, .pass], own := false, nest := false, frz := [] }
  | 34 => { modes := [.borrow, .borrow], own := false, nest := false, frz := [] }
  | 35 => { modes := [.move, .move, .move], own := false, nest := false, frz := [] }
  | 36 => { modes := [.borrow, .borrow, .borrow], own := false, nest := false, frz := [] }
  | 37 => { modes := [.borrow, .borrow], own := false, nest := false, frz := [] }
  | 38 => { modes := [.borrow], own := false, nest := false, frz := [], soft := [[0, 0, 0, 4], [0]] }
  | 39 => { modes := [.borrow, .borrow, .borrow], own := false, nest := false, frz := [] }
  | 40 => { modes := [.borrow], own := false, nest := false, frz := [], soft := [[0, 0, 3]] }
  | 41 => { modes := [.borrow, .borrow, .borrow], own := false, nest := false, frz := [] }
  | 42 => { modes := [.borrow, .borrow], own := false, nest := false, frz := [] }
  | 43 => { modes := [.borrow], own := false, nest := false, frz := [] }
  | 44 => { modes := [.borrow], own := false, nest := false, frz := [] }
  | 45 => { modes := [.borrow], own := false, nest := false, frz := [], soft := [[1], [0]] }
  | 46 => { modes := [.borrow, .borrow], own := false, nest := false, frz := [] }
  | 47 => { modes := [.borrow, .borrow], own := false, nest := false, frz := [] }
  | 48 => { modes := [.borrow, .pass], own := true, nest := false, frz := [] }
  | 49 => { modes := [.borrow], own := false, nest := false, frz := [] }
  | 50 => { modes := [.borrow], own := false, nest := false, frz := [] }
  | 51 => { modes := [.borrow, .pass], own := true, nest := false, frz := [] }
  | 52 => { modes := [.borrow, .borrow], own := false, nest := false, frz := [] }
  | 53 => { modes := [.borrow, .borrow], own := false, nest := false, frz := [] }
  | 54 => { modes := [.pass], own := false, nest := false, frz := [12] }
  | 55 => { modes := [.borrow], own := false, nest := false, frz := [], soft := [[0, 0, 0, 4], [0]] }
  | 56 => { modes := [.borrow, .pass], own := true, nest := false, frz := [] }
  | 57 => { modes := [.borrow], own := false, nest := false, frz := [], soft := [[0, 0, 0, 4]] }
  | 58 => { modes := [.borrow], own := false, nest := false, frz := [] }
  | 59 => { modes := [.borrow], own := false, nest := false, frz := [] }
  | 60 => { modes := [.borrow, .pass], own := true, nest := false, frz := [] }
  | 61 => { modes := [.borrow], own := false, nest := false, frz := [], soft := [[3]] }
  | 62 => { modes := [.borrow], own := false, nest := false, frz := [] }
  | 63 => { modes := [.borrow, .borrow, .borrow], own := false, nest := false, frz := [], soft := [[1], [0]] }
  | 64 => { modes := [.borrow], own := false, nest := false, frz := [] }
  | 65 => { modes := [.borrow], own := false, nest := false, frz := [], soft := [[1]] }
  | 66 => { modes := [.borrow, .borrow, .borrow], own := false, nest := false, frz := [] }
  | 67 => { modes := [], own := false, nest := false, frz := [14], soft := [[1]] }
  | 68 => { modes := [.borrow], own := false, nest := false, frz := [] }
  | 69 => { modes := [.move, .move, .move], own := false, nest := false, frz := [] }
  | 70 => { modes := [.borrow, .borrow, .borrow], own := false, nest := false, frz := [] }
  | 71 => { modes := [.borrow], own := false, nest := false, frz := [] }
  | 72 => { modes := [.borrow, .borrow], own := false, nest := false, frz := [] }
  | 73 => { modes := [.move], own := false, nest := false, frz := [] }
  | 74 => { modes := [], own := false, nest := false, frz := [] }
  | 75 => { modes := [.borrow, .borrow], own := false, nest := false, frz := [] }
  | 76 => { modes := [.borrow], own := false, nest := false, frz := [] }
  | 77 => { modes := [.borrow], own := false, nest := false, frz := [] }
  | 78 => { modes := [.borrow, .borrow], own := false, nest := false, frz := [], soft := [[0, 0, 0, 4], [0]] }
  | 79 => { modes := [.borrow, .borrow, .borrow], own := false, nest := false, frz := [] }
  | 80 => { modes := [.borrow], own := false, nest := false, frz := [], soft := [[0], [3]] }
  | 81 => { modes := [.borrow], own := false, nest := false, frz := [], soft := [[1]] }
  | 82 => { modes := [.borrow], own := false, nest := false, frz := [] }
  | 83 => { modes := [], own := false, nest := false, frz := [], soft := [[1]] }
  | 84 => { modes := [.borrow, .borrow], own := false, nest := false, frz := [] }
  | 85 => { modes := [.borrow], own := false, nest := false, frz := [] }
  | 86 => { modes := [.borrow, .borrow], own := false, nest := false, frz := [] }
  | 87 => { modes := [.borrow], own := false, nest := false, frz := [] }
  | 88 => { modes := [.borrow, .borrow, .borrow], own := false, nest := false, frz := [] }
  | 89 => { modes := [.move], own := false, nest := false, frz := [] }
  | 90 => { modes := [.borrow, .borrow, .borrow], own := false, nest := false, frz := [] }
  | 91 => { modes := [.borrow], own := false, nest := false, frz := [] }
  | 92 => { modes := [.borrow], own := false, nest := false, frz := [] }
  | 93 => { modes := [.borrow], own := false, nest := false, frz := [] }
  | 94 => { modes := [.borrow, .borrow], own := false, nest := false, frz := [] }
  | 95 => { modes := [.move], own := false, nest := false, frz := [] }
  | 96 => { modes := [.borrow], own := false, nest := false, frz := [] }
  | 97 => { modes := [.borrow], own := false, nest := false, frz := [] }
  | 98 => { modes := [.borrow, .borrow, .borrow], own := false, nest := false, frz := [] }
  | 99 => { modes := [.borrow], own := false, nest := false, frz := [] }
  | 100 => { modes := [.borrow], own := false, nest := false, frz := [] }
  | 101 => { modes := [.borrow, .borrow], own := false, nest := false, frz := [] }
  | 102 => { modes := [.borrow], own := false, nest := false, frz := [] }
  | 103 => { modes := [.borrow, .borrow], own := false, nest := false, frz := [] }
  | 104 => { modes := [.borrow, .borrow], own := false, nest := false, frz := [] }
  | 105 => { modes := [.borrow, .borrow], own := false, nest := false, frz := [] }
  | 106 => { modes := [.borrow], own := false, nest := false, frz := [] }
  | 107 => { modes := [.borrow, .borrow], own := false, nest := false, frz := [] }
  | 108 => { modes := [.borrow], own := false, nest := false, frz := [] }
  | 109 => { modes := [.borrow, .borrow], own := false, nest := false, frz := [] }
  | 110 => { modes := [.borrow], own := false, nest := false, frz := [] }
  | 111 => { modes := [.borrow, .borrow], own := false, nest := false, frz := [] }
  | 112 => { modes := [.borrow, .borrow], own := false, nest := false, frz := [] }
  | 113 => { modes := [.borrow], own := false, nest := false, frz := [] }
  | 114 => { modes := [.borrow], own := false, nest := false, frz := [] }
  | 115 => { modes := [.borrow], own := false, nest := false, frz := [] }
  | 116 => { modes := [.borrow, .borrow], own := false, nest := false, frz := [] }
  | 117 => { modes := [.borrow], own := false, nest := false, frz := [] }
  | 118 => { modes := [], own := false, nest := false, frz := [], soft := [[1]] }
  | _ => {}
def prAnn : FuncId → Ann
  | 2 => .n
  | 3 => (.seq .n (.seq .n (.seq .n (.seq (.seq .n (.cond (.seq .n .n) .n)) (.seq .n (.seq .n (.seq .n (.seq (.seq .n (.cond (.seq .n .n) .n)) (.seq (.seq .n (.cond (.seq .n .n) .n)) (.seq .n .n))))))))))
  | 4 => (.seq .n (.seq .n (.seq .n (.seq (.seq .n (.cond (.seq .n .n) .n)) (.seq .n (.seq .n (.seq .n (.seq (.seq .n (.cond (.seq .n .n) .n)) (.seq (.seq .n (.cond (.seq .n .n) .n)) (.seq .n (.seq .n (.seq (.seq .n (.cond (.seq .n .n) .n)) (.seq .n (.seq .n (.seq .n (.seq .n (.seq (.seq .n (.cond (.seq .n .n) .n)) (.seq (.seq .n (.cond (.seq .n .n) .n)) (.seq .n (.seq (.seq .n (.cond (.seq .n .n) .n)) (.seq .n (.seq .n (.seq (.seq .n (.cond (.seq .n .n) .n)) (.seq (.seq .n (.cond (.seq .n .n) .n)) (.seq .n .n)))))))))))))))))))))))))
  | 5 => (.seq .n (.seq .n (.seq .n (.seq (.seq .n (.cond (.seq .n .n) .n)) (.seq .n (.seq .n (.seq .n (.seq (.seq .n (.cond (.seq .n .n) .n)) (.seq (.seq .n (.cond (.seq .n .n) .n)) (.seq .n (.seq .n (.seq (.seq .n (.cond (.seq .n .n) .n)) (.seq .n (.seq .n (.seq .n (.seq .n (.seq (.seq .n (.cond (.seq .n .n) .n)) (.seq (.seq .n (.cond (.seq .n .n) .n)) (.seq .n (.seq (.seq .n (.cond (.seq .n .n) .n)) (.seq .n (.seq .n (.seq (.seq .n (.cond (.seq .n .n) .n)) (.seq (.seq .n (.cond (.seq .n .n) .n)) (.seq .n .n)))))))))))))))))))))))))
  | 6 => (.seq .n (.seq .n (.seq .n (.seq (.seq .n (.cond (.seq .n .n) .n)) (.seq .n (.seq .n (.seq .n (.seq (.seq .n (.cond (.seq .n .n) .n)) (.seq (.seq .n (.cond (.seq .n .n) .n)) (.seq .n (.seq .n (.seq (.seq .n (.cond (.seq .n .n) .n)) (.seq .n (.seq .n (.seq .n (.seq .n (.seq (.seq .n (.cond (.seq .n .n) .n)) (.seq (.seq .n (.cond (.seq .n .n) .n)) (.seq .n (.seq (.seq .n (.cond (.seq .n .n) .n)) (.seq .n (.seq .n (.seq (.seq .n (.cond (.seq .n .n) .n)) (.seq (.seq .n (.cond (.seq .n .n) .n)) (.seq .n .n)))))))))))))))))))))))))
  | 7 => (.seq .n (.seq (.seq .n (.cond (.seq .n .n) .n)) (.seq .n (.seq .n (.seq (.seq .n (.cond (.seq .n .n) .n)) (.seq .n (.seq .n (.seq .n (.seq .n (.seq (.seq .n (.cond (.seq .n .n) .n)) (.seq (.seq .n (.cond (.seq .n .n) .n)) (.seq (.seq .n (.cond (.seq .n .n) .n)) (.seq .n (.seq .n (.seq .n (.seq (.seq .n (.cond (.seq .n .n) .n)) (.seq .n (.seq .n (.seq .n (.seq .n (.seq (.seq .n (.cond (.seq .n .n) .n)) (.seq (.seq .n (.cond (.seq .n .n) .n)) (.seq .n (.seq (.seq .n (.cond (.seq .n .n) .n)) (.seq .n (.seq .n (.seq (.seq .n (.cond (.seq .n .n) .n)) (.seq (.seq .n (.cond (.seq .n .n) .n)) (.seq .n .n)))))))))))))))))))))))))))))
  | 8 => (.seq .n (.seq (.seq .n (.cond (.seq .n .n) .n)) (.seq .n (.seq .n (.seq (.seq .n (.cond (.seq .n .n) .n)) (.seq .n (.seq .n (.seq .n (.seq .n (.seq (.seq .n (.cond (.seq .n .n) .n)) (.seq (.seq .n (.cond (.seq .n .n) .n)) (.seq (.seq .n (.cond (.seq .n .n) .n)) (.seq .n .n)))))))))))))
  | 9 => (.seq .n (.seq .n (.seq (.seq .n (.cond (.seq .n .n) .n)) (.seq (.seq .n (.block (.loop [0, 1, 5] [1] [4] [] (.seq (.seq .n (.cond .n .n)) (.seq (.block (.seq .n (.seq .n (.cond (.seq .n .n) .n)))) .n))))) (.cut [1] (.seq .n .n))))))
  | 10 => (.seq .n (.seq .n (.seq (.seq .n (.block (.loop [0, 3, 8, 9, 10] [0, 3] [2] [] (.seq .n (.seq (.cond .n .n) (.seq (.block (.seq .n (.seq .n (.seq .n (.block (.seq .n (.cond (.seq .n (.cond (.seq .n .n) .n)) (.seq .n (.cond (.seq (.seq .n (.cond (.seq .n .n) .n)) .n) (.seq .n (.cond (.seq (.seq .n (.cond (.seq .n .n) .n)) .n) (.seq .n .n)))))))))))) (.cut [0, 3, 8, 9, 10] .n))))))) (.cut [0, 3] (.seq .n .n)))))
  | 11 => (.seq .n (.seq .n (.seq (.seq .n (.block (.loop [0, 3, 4] [3] [2] [] (.seq (.seq .n (.cond .n .n)) (.seq (.block .n) .n))))) (.cut [3] (.seq .n .n)))))
  | 12 => (.seq .n (.seq (.seq .n (.cond (.seq .n .n) .n)) (.seq .n (.seq .n .n))))
  | 13 => (.seq .n (.seq (.seq .n (.cond (.seq .n .n) .n)) (.seq (.seq .n (.block (.loop [0, 1, 5] [] [4] [] (.seq (.seq .n (.cond .n .n)) (.seq (.block (.seq .n (.cond (.seq .n .n) .n))) .n))))) (.cut [] (.seq .n .n)))))
  | 14 => (.seq .n (.seq .n (.seq (.seq .n (.cond (.seq .n .n) .n)) (.seq (.seq .n (.block (.loop [0, 1, 5] [1] [4] [] (.seq (.seq .n (.cond .n .n)) (.seq (.block (.seq .n (.seq .n (.cond (.seq .n .n) .n)))) .n))))) (.cut [1] (.seq .n .n))))))
  | 15 => (.seq .n (.seq .n (.seq (.seq .n (.cond (.seq .n .n) .n)) (.seq .n (.seq (.seq .n (.cond (.seq .n .n) .n)) (.seq .n .n))))))
  | 16 => (.seq .n (.seq .n (.seq (.seq .n (.block (.loop [0, 3, 4] [3] [2] [] (.seq (.seq .n (.cond .n .n)) (.seq (.block .n) .n))))) (.cut [3] (.seq .n .n)))))
  | 17 => (.seq .n (.seq .n (.seq (.seq .n (.cond (.seq .n .n) .n)) (.seq .n (.seq (.seq .n (.cond (.seq .n .n) .n)) (.seq .n .n))))))
  | 18 => (.seq .n (.seq (.seq .n (.cond (.seq .n .n) .n)) (.seq (.seq .n (.block (.loop [0, 1, 5] [] [4] [] (.seq (.seq .n (.cond .n .n)) (.seq (.block (.seq .n (.cond (.seq .n .n) .n))) .n))))) (.cut [] (.seq .n .n)))))
  | 19 => (.seq .n (.seq (.seq .n (.cond (.seq .n .n) .n)) (.seq (.seq .n (.block (.loop [0, 1, 5] [] [4] [] (.seq (.seq .n (.cond .n .n)) (.seq (.block (.seq .n (.cond (.seq .n .n) .n))) .n))))) (.cut [] (.seq .n .n)))))
  | 20 => (.seq .n (.seq (.seq .n (.block (.loop [0, 1, 5] [1] [4] [] (.seq (.seq .n (.cond .n .n)) (.seq (.block (.seq .n (.seq .n (.seq .n (.seq .n (.seq .n .n)))))) .n))))) (.cut [1] (.seq .n .n))))
  | 21 => (.seq .n (.seq (.seq .n (.block (.loop [0, 1, 5] [1] [4] [] (.seq (.seq .n (.cond .n .n)) (.seq (.block (.seq .n (.seq .n (.seq .n (.seq .n (.seq .n .n)))))) .n))))) (.cut [1] (.seq .n .n))))
  | 22 => (.seq .n (.seq (.seq .n (.block (.loop [0, 1, 5] [1] [4] [] (.seq (.seq .n (.cond .n .n)) (.seq (.block (.seq (.seq .n (.cond (.seq .n .n) .n)) (.seq .n (.seq (.seq .n (.cond (.seq .n .n) .n)) (.seq .n (.seq (.seq .n (.cond (.seq .n .n) .n)) .n)))))) .n))))) (.cut [1] (.seq .n .n))))
  | 23 => (.seq .n (.seq .n (.seq (.seq .n (.cond (.seq .n .n) .n)) (.seq .n .n))))
  | 24 => (.seq .n (.seq .n (.seq (.seq .n (.cond (.seq .n .n) .n)) (.seq .n (.seq .n .n)))))
  | 25 => (.seq .n (.seq (.seq .n (.block (.loop [0, 1, 5] [1] [4] [] (.seq (.seq .n (.cond .n .n)) (.seq (.block (.seq (.seq .n (.cond (.seq .n .n) .n)) (.seq .n (.seq (.seq .n (.cond (.seq .n .n) .n)) (.seq .n (.seq (.seq .n (.cond (.seq .n .n) .n)) .n)))))) .n))))) (.cut [1] (.seq .n .n))))
  | 26 => (.seq .n (.seq (.seq .n (.cond (.seq .n .n) .n)) (.seq .n (.seq (.seq .n (.cond (.seq .n .n) .n)) (.seq .n .n)))))
  | 27 => (.seq .n (.seq (.seq .n (.cond (.seq .n .n) .n)) (.seq .n (.seq .n (.seq .n (.seq (.seq .n (.block (.loop [4, 6, 7, 8, 26, 27, 28] [8] [2, 3] [(8, none, 3)] (.seq .n (.seq (.cond .n .n) (.seq (.block (.seq .n (.seq .n (.seq .n (.block (.seq .n (.cond (.seq .n .n) (.seq .n (.cond .n (.seq .n (.cond (.seq .n (.seq .n .n)) .n))))))))))) (.cut [4, 6, 7, 8, 26, 27, 28] .n))))))) (.cut [8] (.seq .n (.seq (.seq .n (.cond (.seq .n .n) .n)) (.seq .n .n))))))))))
  | 28 => (.seq .n (.seq (.seq .n (.block (.loop [0, 1, 5] [1] [4] [] (.seq (.seq .n (.cond .n .n)) (.seq (.block (.seq .n (.seq .n (.seq .n (.seq .n .n))))) .n))))) (.cut [1] (.seq .n .n))))
  | 29 => (.seq .n (.seq (.seq .n (.cond (.seq .n .n) .n)) (.seq .n (.seq .n .n))))
  | 30 => (.seq .n (.seq .n (.seq (.seq .n (.block (.loop [0, 3, 4] [3] [2] [] (.seq (.seq .n (.cond .n .n)) (.seq (.block .n) .n))))) (.cut [3] (.seq .n .n)))))
  | 31 => (.seq .n (.seq (.seq .n (.cond (.seq .n .n) .n)) (.seq .n (.seq .n (.seq (.seq .n (.block (.loop [0, 2, 9, 11, 12] [11] [6, 7, 8] [] (.seq (.seq .n (.cond .n .n)) (.seq (.block (.seq (.seq .n (.cond (.seq .n .n) .n)) (.seq .n (.seq (.seq .n (.cond (.seq .n .n) .n)) (.seq .n (.seq (.seq .n (.cond (.seq .n .n) .n)) (.seq (.block (.seq .n (.cond .n (.seq .n (.cond .n .n))))) (.cut [0, 2, 9, 11, 12] .n)))))))) (.cut [0, 2, 9, 11, 12] .n)))))) (.cut [11] (.seq .n .n)))))))
  | 32 => (.seq .n (.seq (.seq .n (.cond (.seq .n .n) .n)) (.seq (.seq .n (.block (.loop [0, 1, 5] [] [4] [] (.seq (.seq .n (.cond .n .n)) (.seq (.block (.seq .n (.cond (.seq .n .n) .n))) .n))))) (.cut [] (.seq .n .n)))))
  | 33 => (.seq .n (.seq (.seq .n (.block (.loop [0, 1, 5] [1] [4] [] (.seq (.seq .n (.cond .n .n)) (.seq (.block (.seq .n .n)) .n))))) (.cut [1] (.seq .n .n))))
  | 34 => (.seq .n (.seq (.seq .n (.block (.loop [0, 1, 5] [1] [4] [] (.seq (.seq .n (.cond .n .n)) (.seq (.block (.seq (.seq .n (.cond (.seq .n .n) .n)) .n)) .n))))) (.cut [1] (.seq .n .n))))
  | 35 => (.seq .n (.seq .n (.seq (.seq .n (.cond (.seq .n .n) .n)) (.seq .n (.seq (.seq .n (.cond (.seq .n .n) .n)) (.seq .n .n))))))
  | 36 => (.seq .n (.seq .n (.seq (.seq .n (.cond (.seq .n .n) .n)) (.seq .n (.seq .n .n)))))
  | 37 => (.seq .n (.seq .n (.seq (.seq .n (.cond (.seq .n .n) .n)) (.seq .n .n))))
  | 38 => (.seq .n (.seq .n (.seq .n .n)))
  | 39 => (.seq .n (.seq .n .n))
  | 40 => (.seq .n (.seq .n (.seq .n (.seq .n (.seq .n (.seq .n .n))))))
  | 41 => (.seq .n (.seq .n .n))
  | 42 => (.seq .n (.seq .n .n))
  | 43 => (.seq .n (.seq .n .n))
  | 44 => (.seq .n (.seq (.seq .n (.block (.seq .n (.cond (.seq .n .n) (.seq .n (.cond (.seq .n .n) .n)))))) (.seq .n .n)))
  | 45 => (.seq .n (.seq .n (.seq (.seq .n (.block (.loop [4, 5, 13, 14, 15] [4, 5] [2, 3] [(5, none, 1)] (.seq .n (.seq (.cond .n .n) (.seq (.block (.seq .n (.seq .n (.block (.seq .n (.cond .n (.seq .n (.cond (.seq .n (.seq (.seq .n (.cond (.seq .n .n) .n)) (.seq .n .n))) .n)))))))) (.cut [4, 5, 13, 14, 15] .n))))))) (.cut [4, 5] (.seq .n .n)))))
  | 46 => (.seq .n (.seq (.seq .n (.cond (.seq .n .n) .n)) (.seq (.seq .n (.cond (.seq .n .n) .n)) (.seq (.seq .n (.cond (.seq .n .n) .n)) (.seq .n .n)))))
  | 47 => (.seq .n (.seq .n (.seq (.seq .n (.cond (.seq .n .n) .n)) (.seq .n .n))))
  | 48 => (.seq .n (.seq (.block (.seq .n (.cond (.seq .n .n) (.seq .n (.cond (.seq .n (.seq .n .n)) .n))))) (.seq .n (.seq (.block (.seq .n (.cond (.seq .n .n) (.seq .n (.cond (.seq .n .n) (.seq .n (.cond (.seq .n (.seq .n (.seq .n (.seq .n (.seq .n (.seq .n (.seq .n .n))))))) (.seq .n (.cond (.seq .n (.seq .n (.seq .n (.seq .n (.seq .n .n))))) .n))))))))) (.seq .n .n)))))
  | 49 => (.seq .n (.seq .n (.seq .n (.seq .n (.seq .n (.seq .n .n))))))
  | 50 => (.seq .n (.seq (.seq .n (.cond (.seq .n .n) .n)) (.seq .n .n)))
  | 51 => (.seq .n (.seq .n (.seq (.block (.seq .n (.cond (.seq .n .n) (.seq .n (.cond (.seq .n .n) (.seq .n (.cond (.seq .n .n) (.seq .n (.cond (.seq .n .n) .n))))))))) (.seq .n (.seq .n (.seq (.seq .n (.block (.seq .n (.cond (.seq .n (.seq .n (.seq .n .n))) (.seq .n (.cond (.seq .n (.seq .n (.seq .n (.seq .n .n)))) .n)))))) (.seq .n .n)))))))
  | 52 => (.seq .n (.seq (.seq .n (.cond (.seq .n .n) .n)) (.seq (.seq .n (.cond (.seq .n .n) .n)) (.seq (.seq .n (.cond (.seq .n .n) .n)) (.seq .n .n)))))
  | 53 => (.seq .n (.seq (.seq .n (.cond (.seq .n .n) .n)) (.seq (.seq .n (.cond (.seq .n .n) .n)) (.seq (.seq .n (.cond (.seq .n .n) .n)) (.seq .n .n)))))
  | 54 => (.seq .n (.seq (.seq .n (.cond (.seq .n .n) .n)) (.seq .n (.seq (.block (.loop [0, 3] [3] [2] [] (.seq (.seq .n (.cond .n .n)) (.block (.seq .n .n))))) (.cut [3] (.seq .n .n))))))
  | 55 => (.seq .n (.seq (.seq .n (.cond (.seq .n .n) .n)) (.seq .n (.seq .n .n))))
  | 56 => (.seq .n (.seq .n (.seq (.seq .n (.block (.loop [1, 18, 19, 20] [1] [4] [(1, none, 3)] (.seq .n (.seq (.cond .n .n) (.seq (.block (.seq .n .n)) .n)))))) (.cut [1] (.seq .n .n)))))
  | 57 => (.seq .n (.seq .n (.seq .n (.seq (.seq .n (.block (.loop [2, 3, 4, 22, 23, 24] [2, 3, 4] [2] [(3, some 3, 4)] (.seq .n (.seq (.cond .n .n) (.seq (.block (.seq .n (.seq .n (.seq .n .n)))) .n)))))) (.cut [2, 3, 4] (.seq (.seq .n (.cond (.seq .n (.seq .n (.cond (.seq .n .n) .n))) .n)) (.cut [2, 3] (.seq .n .n))))))))
  | 58 => (.seq .n (.seq (.seq .n (.cond (.seq .n .n) .n)) (.seq .n (.seq (.seq .n (.cond (.seq .n .n) .n)) (.seq .n .n)))))
  | 59 => (.seq .n (.seq (.seq .n (.cond (.seq .n .n) .n)) (.seq .n (.seq .n (.seq .n (.seq (.seq .n (.cond (.seq .n .n) .n)) (.seq (.seq .n (.seq .n (.cond (.seq .n .n) .n))) (.seq .n .n))))))))
  | 60 => (.seq .n (.seq .n (.seq (.seq .n (.block (.loop [1, 31, 32, 33] [1] [4] [(1, none, 3)] (.seq .n (.seq (.cond .n .n) (.seq (.block (.seq .n (.seq .n (.cond .n .n)))) (.cut [1, 31, 32, 33] .n))))))) (.cut [1] (.seq .n .n)))))
  | 61 => (.seq .n (.seq .n (.seq .n (.seq .n (.seq .n (.seq (.seq .n (.block (.loop [3, 4, 5, 6, 19, 20, 21] [3] [2] [(3, none, 3)] (.seq .n (.seq (.cond .n .n) (.seq (.block (.seq .n (.seq .n (.seq (.seq .n (.cond (.seq .n (.seq .n .n)) .n)) (.seq .n (.seq .n (.seq .n (.seq .n (.cond .n .n))))))))) (.cut [3, 4, 5, 6, 19, 20, 21] .n))))))) (.cut [3] (.seq .n .n))))))))
  | 62 => (.seq .n (.seq (.seq .n (.block (.loop [0, 5, 6, 7] [0] [2] [] (.seq .n (.seq (.cond .n .n) (.seq (.block (.seq .n (.seq .n (.cond (.seq .n .n) .n)))) .n)))))) (.cut [0] (.seq .n .n))))
  | 63 => (.seq .n (.seq .n (.seq .n (.seq (.seq .n (.block (.loop [0, 2, 8, 9, 10] [9] [6, 7] [] (.seq (.seq .n (.cond .n .n)) (.seq (.block (.seq (.seq .n (.cond (.seq .n .n) .n)) (.seq .n (.seq (.seq .n (.cond (.seq .n .n) .n)) (.seq .n (.seq .n (.seq (.block (.seq .n (.cond (.seq .n .n) (.seq .n (.cond (.seq .n .n) (.seq .n (.cond .n (.seq .n (.cond .n .n))))))))) (.cut [0, 2, 8, 9, 10] .n)))))))) (.cut [0, 2, 8, 9, 10] .n)))))) (.cut [9] (.seq .n .n))))))
  | 64 => (.seq .n (.seq .n .n))
  | 65 => (.seq .n (.seq (.seq .n (.cond (.seq .n .n) .n)) (.seq .n .n)))
  | 66 => (.seq .n (.seq (.seq .n (.block (.seq .n (.cond (.seq .n .n) (.seq .n (.cond (.seq .n (.seq (.seq .n (.cond (.seq .n .n) .n)) (.seq .n .n))) .n)))))) (.seq .n (.seq (.block (.seq .n (.cond (.seq .n .n) (.seq .n (.cond (.seq .n .n) (.seq .n (.cond (.seq .n .n) (.seq .n (.cond (.seq .n .n) (.seq .n (.cond (.seq .n .n) .n))))))))))) (.seq .n (.seq (.block (.seq .n (.cond (.seq .n .n) (.seq .n (.cond (.seq .n .n) .n))))) (.seq .n .n)))))))
  | 67 => (.seq .n (.seq .n (.seq (.seq .n (.block (.loop [1, 5, 6] [1] [0] [] (.seq .n (.seq (.cond .n .n) (.seq (.block (.seq .n .n)) .n)))))) (.cut [1] (.seq .n .n)))))
  | 68 => (.seq .n (.seq (.seq .n (.block (.seq .n (.cond (.seq .n .n) (.seq .n (.cond (.seq .n .n) .n)))))) (.seq .n .n)))
  | 69 => (.seq .n (.seq (.seq .n (.cond (.seq .n .n) .n)) (.seq (.seq .n (.block (.loop [0, 1, 2, 28, 29, 30] [0, 1, 2] [6, 7, 8, 9] [] (.seq .n (.seq (.cond .n .n) (.seq (.block (.seq .n (.seq .n (.cond (.seq .n .n) .n)))) .n)))))) (.cut [0, 1, 2] (.seq .n (.seq .n .n))))))
  | 70 => (.seq .n (.seq (.seq .n (.cond (.seq .n .n) .n)) (.seq .n (.seq (.seq .n (.block (.loop [2, 10, 30, 31] [2] [6, 7, 8, 9] [] (.seq .n (.seq (.cond .n .n) (.seq (.block (.seq .n (.seq .n (.seq .n (.block (.seq .n (.cond .n (.seq .n (.cond (.seq .n .n) (.seq .n .n)))))))))) .n)))))) (.cut [2] (.seq .n .n))))))
  | 71 => (.seq .n (.seq (.seq .n (.cond (.seq .n (.seq .n .n)) .n)) (.seq (.seq .n (.block (.loop [18, 19, 20] [] [2] [] (.seq .n (.seq (.cond .n .n) (.seq (.block (.seq .n (.seq .n (.cond (.seq .n .n) .n)))) .n)))))) (.cut [] (.seq .n .n)))))
  | 72 => (.seq .n (.seq (.seq .n (.block (.loop [0, 1, 7, 8] [] [4] [] (.seq .n (.seq (.cond .n .n) (.seq (.block (.seq .n (.seq .n (.cond (.seq .n .n) .n)))) .n)))))) (.cut [] (.seq .n .n))))
  | 73 => (.seq .n (.seq (.seq .n (.cond (.seq .n .n) .n)) (.seq .n .n)))
  | 74 => (.seq .n (.seq .n .n))
  | 75 => (.seq .n (.seq .n .n))
  | 76 => (.seq .n (.seq .n .n))
  | 77 => (.seq .n (.seq (.seq .n (.cond (.seq .n .n) .n)) (.seq .n .n)))
  | 78 => (.seq .n (.seq (.seq .n (.cond (.seq .n .n) .n)) (.seq .n (.seq .n (.seq .n (.seq .n (.seq (.seq .n (.block (.seq .n (.cond .n (.seq .n (.cond .n (.seq (.seq .n (.cond .n .n)) (.cut [0, 1, 4, 6, 7, 8, 9, 29, 51] (.cond (.seq .n .n) (.seq .n (.cond (.seq .n .n) .n))))))))))) (.cut [0, 1, 4, 7, 8, 9] (.seq (.seq .n (.cond (.seq .n .n) .n)) (.seq .n (.seq (.block (.loop [0, 1, 4, 7, 8] [1, 4, 7] [4, 5] [(7, some 3, 4)] (.seq (.seq .n (.cond .n .n)) (.seq (.block (.seq .n (.seq (.seq .n (.cond (.seq .n .n) .n)) (.seq .n .n)))) .n)))) (.cut [1, 4, 7] (.seq .n .n)))))))))))))
  | 79 => (.seq .n (.seq (.seq .n (.block (.seq .n (.cond (.seq .n .n) (.seq .n (.cond (.seq (.seq .n (.block (.loop [2, 3, 24, 25, 26] [] [6, 7] [] (.seq .n (.seq (.cond .n .n) (.seq (.block (.seq .n (.seq .n (.cond (.seq .n .n) .n)))) .n)))))) (.cut [] (.seq .n .n))) .n)))))) (.cut [1, 2, 3] (.seq .n (.seq (.seq .n (.cond (.seq .n .n) .n)) (.seq (.block (.seq .n (.cond (.seq .n .n) (.seq .n (.cond (.seq .n .n) (.seq .n (.cond (.seq .n .n) (.seq .n (.cond (.seq .n .n) .n))))))))) (.seq .n (.seq (.seq .n (.cond (.seq .n .n) .n)) (.seq (.seq .n (.cond (.seq .n .n) .n)) (.seq .n (.seq (.seq .n (.cond (.seq .n .n) .n)) (.seq .n .n))))))))))))
  | 80 => (.seq .n (.seq (.seq .n (.cond (.seq .n .n) .n)) (.seq .n (.seq .n (.seq .n (.seq (.seq .n (.block (.seq .n (.cond .n (.seq .n (.cond .n (.seq (.seq .n (.cond .n .n)) (.cut [4, 5, 6, 7, 28, 49] (.cond (.seq .n .n) (.seq .n (.cond (.seq .n (.seq (.seq .n (.cond (.seq .n .n) .n)) (.seq .n (.seq .n .n)))) .n))))))))))) (.cut [5, 6, 7] (.seq (.seq .n (.cond (.seq .n .n) .n)) (.seq .n .n)))))))))
  | 81 => (.seq .n (.seq .n (.seq .n (.seq (.seq .n (.block (.loop [3, 4, 11, 12, 13] [3] [2] [(4, none, 1)] (.seq .n (.seq (.cond .n .n) (.seq (.block (.seq .n (.seq .n (.block (.seq .n (.cond .n (.seq .n (.cond (.seq .n (.seq .n (.seq .n .n))) .n)))))))) (.cut [3, 4, 11, 12, 13] .n))))))) (.cut [3] (.seq .n .n))))))
  | 82 => (.seq .n (.seq .n .n))
  | 83 => (.seq .n (.seq .n .n))
  | 84 => (.seq .n (.seq .n .n))
  | 85 => (.seq .n (.seq .n .n))
  | 86 => (.seq .n (.seq (.seq .n (.block (.loop [0, 1, 7, 8] [] [4] [] (.seq .n (.seq (.cond .n .n) (.seq (.block (.seq .n (.seq .n (.cond (.seq .n .n) .n)))) .n)))))) (.cut [] (.seq .n .n))))
  | 87 => (.seq .n (.seq (.seq .n (.cond (.seq .n .n) .n)) (.seq .n .n)))
  | 88 => (.seq .n (.seq (.seq .n (.block (.seq .n (.cond (.seq .n .n) (.seq .n (.cond (.seq .n .n) (.seq .n (.cond (.seq .n .n) (.seq (.seq .n (.cond .n .n)) (.cut [0, 1, 2, 8, 33] (.cond (.seq (.seq .n (.cond (.seq .n .n) .n)) (.seq (.seq .n (.cond (.seq .n .n) .n)) (.seq .n .n))) (.seq .n (.cond (.seq (.seq .n (.cond (.seq .n .n) .n)) (.seq .n .n)) (.seq .n (.cond (.seq .n .n) (.seq .n (.cond (.seq .n .n) (.seq .n (.cond (.seq .n .n) .n))))))))))))))))))) (.cut [1, 2] (.seq .n .n))))
  | 89 => (.seq .n (.seq (.seq .n (.block (.loop [0, 5, 6, 7] [0] [2] [] (.seq .n (.seq (.cond .n .n) (.seq (.block (.seq .n (.seq .n (.cond (.seq .n .n) .n)))) .n)))))) (.cut [0] (.seq .n .n))))
  | 90 => (.seq .n (.seq .n (.seq .n (.block (.loop [0, 2, 9, 10] [] [6, 7, 8] [] (.seq (.block (.seq (.seq .n (.cond (.seq .n .n) .n)) (.seq .n (.seq .n (.cond (.seq .n .n) .n))))) .n))))))
  | 91 => (.seq .n (.seq (.seq .n (.cond (.seq .n .n) .n)) (.seq .n .n)))
  | 92 => (.seq .n (.seq (.seq .n (.cond (.seq .n .n) .n)) (.seq .n (.seq .n (.seq (.seq .n (.cond (.seq .n .n) .n)) (.seq .n (.seq (.seq .n (.block (.seq .n (.cond .n (.seq .n (.cond .n (.seq .n (.cond .n (.seq .n (.cond (.seq .n .n) (.seq .n (.cond (.seq .n (.seq (.seq .n (.cond .n .n)) (.cut [0, 6] .n))) (.seq .n (.cond .n (.seq .n (.cond (.seq .n (.cond .n .n)) (.seq .n (.cond .n (.seq .n (.cond (.seq .n .n) .n)))))))))))))))))))) (.cut [] (.seq .n .n)))))))))
  | 93 => (.seq .n (.seq .n (.seq .n (.seq .n (.seq .n .n)))))
  | 94 => (.seq .n (.seq (.seq .n (.block (.loop [0, 1, 7, 8] [] [4] [] (.seq .n (.seq (.cond .n .n) (.seq (.block (.seq .n (.seq .n (.cond (.seq .n .n) .n)))) .n)))))) (.cut [] (.seq .n .n))))
  | 95 => (.seq .n (.seq (.seq .n (.cond (.seq .n .n) .n)) (.seq (.seq .n (.block (.seq .n (.cond (.seq .n .n) (.seq .n (.cond (.seq (.seq .n (.block (.loop [1, 3] [1] [2] [] (.seq (.seq .n (.cond .n .n)) (.seq (.block (.seq .n (.cond (.seq .n .n) .n))) .n))))) (.cut [1] (.seq .n .n))) (.seq .n (.cond (.seq .n .n) .n)))))))) (.cut [] (.seq .n .n)))))
  | 96 => (.seq .n (.seq (.seq .n (.block (.seq .n (.cond (.seq .n .n) (.seq .n (.cond (.seq .n .n) (.seq (.seq .n (.cond .n .n)) (.cut [3, 8] (.cond (.seq .n .n) (.seq (.seq .n (.cond .n .n)) (.cut [3, 11] (.cond (.seq .n .n) (.seq (.seq .n (.cond .n .n)) (.cut [3, 14] (.cond (.seq .n .n) (.seq (.seq .n (.cond .n (.seq .n (.cond .n .n)))) (.cut [3, 17] (.cond (.seq .n .n) (.seq .n (.cond (.seq .n .n) .n)))))))))))))))))))) (.cut [] (.seq .n .n))))
  | 97 => (.seq .n (.seq (.seq .n (.cond (.seq .n .n) .n)) (.seq .n .n)))
  | 98 => (.seq .n (.seq (.seq .n (.block (.seq .n (.cond (.seq .n .n) (.seq .n (.cond (.seq .n .n) (.seq .n (.cond (.seq .n .n) (.seq .n (.cond (.seq .n .n) (.seq .n (.cond (.seq .n .n) (.seq .n (.cond (.seq .n .n) (.seq .n (.cond (.seq .n .n) (.seq .n (.cond (.seq (.seq .n (.cond (.seq .n .n) .n)) (.seq .n .n)) .n)))))))))))))))))) (.seq (.seq .n (.cond (.seq .n .n) .n)) (.seq (.seq .n (.cond (.seq .n .n) .n)) (.seq .n .n)))))
  | 99 => (.seq .n (.seq .n .n))
  | 100 => (.seq .n (.seq (.seq .n (.block (.seq .n (.cond (.seq .n .n) (.seq .n (.cond (.seq .n .n) (.seq (.seq .n (.cond .n .n)) (.cut [5, 10] (.cond (.seq .n .n) (.seq (.seq .n (.cond .n .n)) (.cut [5, 13] (.cond (.seq .n .n) (.seq (.seq .n (.cond .n .n)) (.cut [5, 16] (.cond (.seq .n .n) (.seq (.seq .n (.cond .n (.seq .n (.cond .n .n)))) (.cut [5, 19] (.cond (.seq .n .n) (.seq .n (.cond (.seq .n .n) .n)))))))))))))))))))) (.cut [] (.seq .n .n))))
  | 101 => (.seq .n (.seq (.seq .n (.block (.loop [0, 1, 7, 8] [] [4] [] (.seq .n (.seq (.cond .n .n) (.seq (.block (.seq .n (.seq .n (.cond (.seq .n .n) .n)))) .n)))))) (.cut [] (.seq .n .n))))
  | 102 => (.seq .n (.seq (.seq .n (.cond (.seq .n .n) .n)) (.seq .n .n)))
  | 103 => (.seq .n (.seq (.seq .n (.block (.seq .n (.cond (.seq .n .n) (.seq (.seq .n (.cond .n .n)) (.cut [1, 2, 6, 17] (.cond (.seq .n .n) (.seq .n (.cond (.seq .n .n) (.seq .n (.cond (.seq .n .n) (.seq (.seq .n (.cond .n .n)) (.cut [1, 2, 6, 53] (.cond (.seq .n .n) (.seq (.seq .n (.cond .n .n)) (.cut [2, 70] (.cond (.seq .n .n) .n))))))))))))))))) (.cut [] (.seq .n .n))))
  | 104 => (.seq .n (.seq (.seq .n (.cond (.seq .n .n) .n)) (.seq .n (.seq .n (.seq .n (.seq (.seq .n (.cond (.seq .n .n) .n)) (.seq .n (.seq .n (.seq (.seq .n (.cond .n .n)) (.cut [0, 6, 7, 9, 10] (.seq .n (.seq (.seq .n (.block (.seq .n (.cond (.seq .n .n) (.seq .n (.cond .n (.seq .n (.cond .n (.seq .n (.cond .n (.seq .n (.cond .n (.seq .n (.cond (.seq .n (.cond .n .n)) (.seq .n (.cond (.seq .n (.cond .n .n)) (.seq .n (.cond (.seq .n (.seq (.block (.seq .n (.cond (.seq .n .n) (.seq .n (.cond (.seq .n .n) .n))))) .n)) .n)))))))))))))))))) (.cut [0, 11] (.seq .n (.seq .n .n)))))))))))))))
  | 105 => (.seq .n (.seq .n .n))
  | 106 => (.seq .n (.seq .n .n))
  | 107 => (.seq .n (.seq (.seq .n (.block (.seq .n (.cond (.seq .n .n) (.seq .n (.cond (.seq .n .n) .n)))))) (.seq (.seq .n (.cond (.seq .n .n) .n)) (.seq (.seq .n (.block (.seq .n (.cond (.seq .n .n) (.seq (.seq .n (.cond .n .n)) (.cut [1, 2, 36, 42] (.cond (.seq .n .n) (.seq (.seq .n (.cond .n .n)) (.cut [1, 2, 48] (.cond (.seq .n .n) .n)))))))))) (.cut [2] (.seq .n .n))))))
  | 108 => (.seq .n (.seq (.seq .n (.block (.seq (.seq .n (.cond .n .n)) (.cut [5, 6] (.cond (.seq .n .n) (.seq (.seq .n (.cond .n (.seq .n (.cond .n .n)))) (.cut [5, 9] (.cond (.seq .n .n) (.seq .n (.cond (.seq .n .n) (.seq (.seq .n (.cond .n .n)) (.cut [15] (.cond (.seq .n .n) .n))))))))))))) (.cut [] (.seq .n .n))))
  | 109 => (.seq .n (.seq .n (.seq .n (.seq .n (.seq .n (.seq .n .n))))))
  | 110 => (.seq .n (.seq .n .n))
  | 111 => (.seq .n (.seq .n (.seq (.seq .n (.block (.loop [0, 1, 5, 8, 9, 10] [5] [4] [] (.seq .n (.seq (.cond .n .n) (.seq (.block (.seq .n (.seq .n (.cond .n .n)))) (.cut [0, 1, 5, 8, 9, 10] .n))))))) (.cut [5] (.seq .n .n)))))
  | 112 => (.seq .n (.seq .n (.seq (.block (.loop [0, 1, 5] [5] [4] [] (.seq (.seq .n (.cond .n .n)) (.block .n)))) (.cut [5] (.seq .n .n)))))
  | 113 => (.seq .n (.seq .n .n))
  | 114 => (.seq .n (.seq .n .n))
  | 115 => (.seq .n (.seq (.seq .n (.block (.seq (.seq .n (.cond .n .n)) (.cut [5, 6] (.cond (.seq .n .n) (.seq (.seq .n (.cond .n (.seq .n (.cond .n .n)))) (.cut [5, 9] (.cond (.seq .n .n) (.seq .n (.cond (.seq .n .n) (.seq (.seq .n (.cond .n .n)) (.cut [15] (.cond (.seq .n .n) .n))))))))))))) (.cut [] (.seq .n .n))))
  | 116 => (.seq .n (.seq (.seq .n (.block (.loop [0, 1, 7, 8] [] [4] [] (.seq .n (.seq (.cond .n .n) (.seq (.block (.seq .n (.seq .n (.cond (.seq .n .n) .n)))) .n)))))) (.cut [] (.seq .n .n))))
  | 117 => (.seq .n (.seq .n (.seq .n .n)))
  | 118 => (.seq .n (.seq .n .n))
  | _ => .n
noncomputable def pr : Pr := ⟨Try.prog, prPol, prAnn, prPrim⟩
end Go.Ev

/- Small functions of bytes and numbers: what they compute. -/
namespace Go.Ev
set_option linter.unusedVariables false
set_option linter.unusedSimpArgs false
open Go.Proofs
set_option maxRecDepth 100000
set_option linter.unusedVariables false
theorem within_ev (x lo hi : Int) : Ev pr (.call 41 [i64 x, i64 lo, i64 hi] []) (.val (bl (decide (x ≥ lo) && decide (x ≤ hi))) []) := by
  by_cases hc0 : lo ≤ x
  · let t0 : Tp pr := .b (show (decide (x ≥ lo)) = true by simpa using hc0)
    exact .tpe [t0] (Out.val (V.t (T.bool (decide (x ≤ hi)))) []) (by kernel_rfl) (congrArg (fun x => Out.val (V.t (T.bool x)) []) (show (decide (x ≤ hi)) = (decide (x ≥ lo) && decide (x ≤ hi)) by simp [bl, *]))
  · let t0 : Tp pr := .b (show (decide (x ≥ lo)) = false by simpa using hc0)
    exact .tpe [t0] (Out.val (V.t (T.bool false)) []) (by kernel_rfl) (congrArg (fun x => Out.val (V.t (T.bool x)) []) (show (false) = (decide (x ≥ lo) && decide (x ≤ hi)) by simp [bl, *]))
theorem isLetter_ev (x : Int) : Ev pr (.call 113 [.t (.int .u8 x)] []) (.val (bl (decide (97 ≤ x) && decide (x ≤ 122))) []) := by
  by_cases hc0 : (97 : Int) ≤ x
  · let t0 : Tp pr := .b (show (decide (x ≥ (97 : Int))) = true by simpa using hc0)
    exact .tpe [t0] (Out.val (V.t (T.bool (decide (x ≤ (122 : Int))))) []) (by kernel_rfl) (congrArg (fun x => Out.val (V.t (T.bool x)) []) (show (decide (x ≤ (122 : Int))) = (decide ((97 : Int) ≤ x) && decide (x ≤ (122 : Int))) by simp [bl, *]))
  · let t0 : Tp pr := .b (show (decide (x ≥ (97 : Int))) = false by simpa using hc0)
    exact .tpe [t0] (Out.val (V.t (T.bool false)) []) (by kernel_rfl) (congrArg (fun x => Out.val (V.t (T.bool x)) []) (show (false) = (decide ((97 : Int) ≤ x) && decide (x ≤ (122 : Int))) by simp [bl, *]))
theorem isLetterB_ev (b : UInt8) : Ev pr (.call 113 [.t (.int .u8 b.toNat)] []) (.val (bl (letter b)) []) := isLetter_ev b.toNat
theorem runL_ev (s : ByteArray) (hs : s.size ≤ 9223372036854775807) : ∀ (rest done : List UInt8) (i : Int), s.toList = done ++ rest → i = done.length →
    Ev pr (.loop (lq pr 112 0) (at_ [((0 : Nat), V.t (T.str s)), ((1 : Nat), V.t (T.clo 113 [])), ((5 : Nat), i64 i)] [] 0)) (.exit 0 (at_ [(5, i64 (i + (rest.takeWhile letter).length))] [] 0))
  | [], done, i, h, hi => by
    have hl := bys_cut h
    let t1 : Tp pr := .b (show (decide (i < (↑s.size : Int))) = false by simp [*])
    exact .tpe [.i (rfl : ((↑s.size : Int)) = _), t1, .b (rfl : false = false)] (Out.exit (0 : Nat) (at_ [((5 : Nat), V.t (T.int IntKind.i64 i))] [] (0 : Nat))) (by kernel_rfl) (congrArg (fun x => Out.exit (0 : Nat) (at_ [((5 : Nat), V.t (T.int IntKind.i64 x))] [] (0 : Nat))) (show (i) = (i + (0 : Int)) by simp [i64]))
  | b :: rest, done, i, h, hi => by
    have hl := bys_cut h
    have hb := lkpS_mid h hi
    have ih := runL_ev s hs rest (done ++ [b]) (i + 1) (by simp [h]) (by simp [hi])
    simp at hl
    cases hL : letter b with
    | true => (
      let t1 : Tp pr := .b (show (decide (i < (↑s.size : Int))) = true by (simp; omega))
      let t2 : Tp pr := .g .u8 (show (lkpS s i) = some (b) from hb)
      let t4 : Tp pr := .b (show (letter b) = true by assumption)
      let t5 : Tp pr := .i (wrap_i64 (a := i + (1 : Int)) (by omega) (by omega))
      exact .tpe [.i (rfl : ((↑s.size : Int)) = _), t1, t2, .a (isLetterB_ev (b)), t4, t5, .a (ih)] (Out.exit (0 : Nat) (at_ [((5 : Nat), V.t (T.int IntKind.i64 (i + (1 : Int) + (↑(List.takeWhile letter rest).length : Int))))] [] (0 : Nat))) (by kernel_rfl) (congrArg (fun x => Out.exit (0 : Nat) (at_ [((5 : Nat), V.t (T.int IntKind.i64 x))] [] (0 : Nat))) (show (i + (1 : Int) + (↑(List.takeWhile letter rest).length : Int)) = (i + (↑(List.takeWhile letter (b :: rest)).length : Int)) by (simp [i64, hL, List.takeWhile_cons]; omega))))
    | false => (
      let t1 : Tp pr := .b (show (decide (i < (↑s.size : Int))) = true by (simp; omega))
      let t2 : Tp pr := .g .u8 (show (lkpS s i) = some (b) from hb)
      let t4 : Tp pr := .b (show (letter b) = false by assumption)
      exact .tpe [.i (rfl : ((↑s.size : Int)) = _), t1, t2, .a (isLetterB_ev (b)), t4] (Out.exit (0 : Nat) (at_ [((5 : Nat), V.t (T.int IntKind.i64 i))] [] (0 : Nat))) (by kernel_rfl) (congrArg (fun x => Out.exit (0 : Nat) (at_ [((5 : Nat), V.t (T.int IntKind.i64 x))] [] (0 : Nat))) (show (i) = (i + (↑(List.takeWhile letter (b :: rest)).length : Int)) by simp [i64, hL, List.takeWhile_cons])))
theorem run_ev (s : ByteArray) (hs : s.size ≤ 9223372036854775807) : Ev pr (.call 112 [.t (.str s), .t (.clo 113 [])] []) (.val (i64 ((s.toList.takeWhile letter).length)) []) := by
  have := runL_ev s hs s.toList [] 0 rfl rfl
  exact .tpe [.a (this)] (Out.val (V.t (T.int IntKind.i64 ((0 : Int) + (↑(List.takeWhile letter s.toList).length : Int)))) []) (by kernel_rfl) (congrArg (fun x => Out.val (V.t (T.int IntKind.i64 x)) []) (show ((0 : Int) + (↑(List.takeWhile letter s.toList).length : Int)) = ((↑(List.takeWhile letter s.toList).length : Int)) by simp [i64]))
theorem StrengthOf_ev (s : ByteArray) : Ev pr (.call 100 [.t (.str s)] []) (.val (.tup [i64 (strength s.toList), bl (strength s.toList == 7), bl (strength s.toList != 0)]) []) := by
  by_cases hc0 : s.toList = [(124 : UInt8), (124 : UInt8)]
  · let t0 : Tp pr := .b (show (s.toList == [(124 : UInt8), (124 : UInt8)]) = true by simpa using hc0)
    exact .tpe [t0] (Out.val (V.tup [V.t (T.int IntKind.i64 (1 : Int)), V.t (T.bool false), V.t (T.bool true)]) []) (by kernel_rfl) (((congrArg (fun x => Out.val (V.tup [V.t (T.int IntKind.i64 x), V.t (T.bool false), V.t (T.bool true)]) []) (show ((1 : Int)) = (strength s.toList) by simp [strength, *])).trans (congrArg (fun x => Out.val (V.tup [V.t (T.int IntKind.i64 (strength s.toList)), V.t (T.bool x), V.t (T.bool true)]) []) (show (false) = (decide (strength s.toList = (7 : Int))) by simp [strength, *]))).trans (congrArg (fun x => Out.val (V.tup [V.t (T.int IntKind.i64 (strength s.toList)), V.t (T.bool (decide (strength s.toList = (7 : Int)))), V.t (T.bool x)]) []) (show (true) = (strength s.toList != (0 : Int)) by simp [strength, *])))
  · let t0 : Tp pr := .b (show (s.toList == [(124 : UInt8), (124 : UInt8)]) = false by simpa using hc0)
    by_cases hc1 : s.toList = [(38 : UInt8), (38 : UInt8)]
    · let t1 : Tp pr := .b (show (s.toList == [(38 : UInt8), (38 : UInt8)]) = true by simpa using hc1)
      exact .tpe [t0, t1] (Out.val (V.tup [V.t (T.int IntKind.i64 (2 : Int)), V.t (T.bool false), V.t (T.bool true)]) []) (by kernel_rfl) (((congrArg (fun x => Out.val (V.tup [V.t (T.int IntKind.i64 x), V.t (T.bool false), V.t (T.bool true)]) []) (show ((2 : Int)) = (strength s.toList) by simp [strength, *])).trans (congrArg (fun x => Out.val (V.tup [V.t (T.int IntKind.i64 (strength s.toList)), V.t (T.bool x), V.t (T.bool true)]) []) (show (false) = (decide (strength s.toList = (7 : Int))) by simp [strength, *]))).trans (congrArg (fun x => Out.val (V.tup [V.t (T.int IntKind.i64 (strength s.toList)), V.t (T.bool (decide (strength s.toList = (7 : Int)))), V.t (T.bool x)]) []) (show (true) = (strength s.toList != (0 : Int)) by simp [strength, *])))
    · let t1 : Tp pr := .b (show (s.toList == [(38 : UInt8), (38 : UInt8)]) = false by simpa using hc1)
      by_cases hc2 : s.toList = [(61 : UInt8), (61 : UInt8)]
      · let t2 : Tp pr := .b (show (s.toList == [(61 : UInt8), (61 : UInt8)]) = true by simpa using hc2)
        let t3 : Tp pr := .b (show (s.toList == [(61 : UInt8), (61 : UInt8)]) = true by (simp; omega))
        exact .tpe [t0, t1, t2, t3] (Out.val (V.tup [V.t (T.int IntKind.i64 (3 : Int)), V.t (T.bool false), V.t (T.bool true)]) []) (by kernel_rfl) (((congrArg (fun x => Out.val (V.tup [V.t (T.int IntKind.i64 x), V.t (T.bool false), V.t (T.bool true)]) []) (show ((3 : Int)) = (strength s.toList) by simp [strength, *])).trans (congrArg (fun x => Out.val (V.tup [V.t (T.int IntKind.i64 (strength s.toList)), V.t (T.bool x), V.t (T.bool true)]) []) (show (false) = (decide (strength s.toList = (7 : Int))) by simp [strength, *]))).trans (congrArg (fun x => Out.val (V.tup [V.t (T.int IntKind.i64 (strength s.toList)), V.t (T.bool (decide (strength s.toList = (7 : Int)))), V.t (T.bool x)]) []) (show (true) = (strength s.toList != (0 : Int)) by simp [strength, *])))
      · let t2 : Tp pr := .b (show (s.toList == [(61 : UInt8), (61 : UInt8)]) = false by simpa using hc2)
        by_cases hc3 : s.toList = [(33 : UInt8), (61 : UInt8)]
        · let t3 : Tp pr := .b (show (s.toList == [(33 : UInt8), (61 : UInt8)]) = true by simpa using hc3)
          exact .tpe [t0, t1, t2, t3] (Out.val (V.tup [V.t (T.int IntKind.i64 (3 : Int)), V.t (T.bool false), V.t (T.bool true)]) []) (by kernel_rfl) (((congrArg (fun x => Out.val (V.tup [V.t (T.int IntKind.i64 x), V.t (T.bool false), V.t (T.bool true)]) []) (show ((3 : Int)) = (strength s.toList) by simp [strength, *])).trans (congrArg (fun x => Out.val (V.tup [V.t (T.int IntKind.i64 (strength s.toList)), V.t (T.bool x), V.t (T.bool true)]) []) (show (false) = (decide (strength s.toList = (7 : Int))) by simp [strength, *]))).trans (congrArg (fun x => Out.val (V.tup [V.t (T.int IntKind.i64 (strength s.toList)), V.t (T.bool (decide (strength s.toList = (7 : Int)))), V.t (T.bool x)]) []) (show (true) = (strength s.toList != (0 : Int)) by simp [strength, *])))
        · let t3 : Tp pr := .b (show (s.toList == [(33 : UInt8), (61 : UInt8)]) = false by simpa using hc3)
          by_cases hc4 : s.toList = [(60 : UInt8)]
          · let t4 : Tp pr := .b (show (s.toList == [(60 : UInt8)]) = true by simpa using hc4)
            let t5 : Tp pr := .b (show (s.toList == [(60 : UInt8)]) = true by (simp; omega))
            exact .tpe [t0, t1, t2, t3, t4, t5] (Out.val (V.tup [V.t (T.int IntKind.i64 (4 : Int)), V.t (T.bool false), V.t (T.bool true)]) []) (by kernel_rfl) (((congrArg (fun x => Out.val (V.tup [V.t (T.int IntKind.i64 x), V.t (T.bool false), V.t (T.bool true)]) []) (show ((4 : Int)) = (strength s.toList) by simp [strength, *])).trans (congrArg (fun x => Out.val (V.tup [V.t (T.int IntKind.i64 (strength s.toList)), V.t (T.bool x), V.t (T.bool true)]) []) (show (false) = (decide (strength s.toList = (7 : Int))) by simp [strength, *]))).trans (congrArg (fun x => Out.val (V.tup [V.t (T.int IntKind.i64 (strength s.toList)), V.t (T.bool (decide (strength s.toList = (7 : Int)))), V.t (T.bool x)]) []) (show (true) = (strength s.toList != (0 : Int)) by simp [strength, *])))
          · let t4 : Tp pr := .b (show (s.toList == [(60 : UInt8)]) = false by simpa using hc4)
            by_cases hc5 : s.toList = [(60 : UInt8), (61 : UInt8)]
            · let t5 : Tp pr := .b (show (s.toList == [(60 : UInt8), (61 : UInt8)]) = true by simpa using hc5)
              exact .tpe [t0, t1, t2, t3, t4, t5] (Out.val (V.tup [V.t (T.int IntKind.i64 (4 : Int)), V.t (T.bool false), V.t (T.bool true)]) []) (by kernel_rfl) (((congrArg (fun x => Out.val (V.tup [V.t (T.int IntKind.i64 x), V.t (T.bool false), V.t (T.bool true)]) []) (show ((4 : Int)) = (strength s.toList) by simp [strength, *])).trans (congrArg (fun x => Out.val (V.tup [V.t (T.int IntKind.i64 (strength s.toList)), V.t (T.bool x), V.t (T.bool true)]) []) (show (false) = (decide (strength s.toList = (7 : Int))) by simp [strength, *]))).trans (congrArg (fun x => Out.val (V.tup [V.t (T.int IntKind.i64 (strength s.toList)), V.t (T.bool (decide (strength s.toList = (7 : Int)))), V.t (T.bool x)]) []) (show (true) = (strength s.toList != (0 : Int)) by simp [strength, *])))
            · let t5 : Tp pr := .b (show (s.toList == [(60 : UInt8), (61 : UInt8)]) = false by simpa using hc5)
              by_cases hc6 : s.toList = [(43 : UInt8)]
              · let t6 : Tp pr := .b (show (s.toList == [(43 : UInt8)]) = true by simpa using hc6)
                let t7 : Tp pr := .b (show (s.toList == [(43 : UInt8)]) = true by (simp; omega))
                exact .tpe [t0, t1, t2, t3, t4, t5, t6, t7] (Out.val (V.tup [V.t (T.int IntKind.i64 (5 : Int)), V.t (T.bool false), V.t (T.bool true)]) []) (by kernel_rfl) (((congrArg (fun x => Out.val (V.tup [V.t (T.int IntKind.i64 x), V.t (T.bool false), V.t (T.bool true)]) []) (show ((5 : Int)) = (strength s.toList) by simp [strength, *])).trans (congrArg (fun x => Out.val (V.tup [V.t (T.int IntKind.i64 (strength s.toList)), V.t (T.bool x), V.t (T.bool true)]) []) (show (false) = (decide (strength s.toList = (7 : Int))) by simp [strength, *]))).trans (congrArg (fun x => Out.val (V.tup [V.t (T.int IntKind.i64 (strength s.toList)), V.t (T.bool (decide (strength s.toList = (7 : Int)))), V.t (T.bool x)]) []) (show (true) = (strength s.toList != (0 : Int)) by simp [strength, *])))
              · let t6 : Tp pr := .b (show (s.toList == [(43 : UInt8)]) = false by simpa using hc6)
                by_cases hc7 : s.toList = [(45 : UInt8)]
                · let t7 : Tp pr := .b (show (s.toList == [(45 : UInt8)]) = true by simpa using hc7)
                  exact .tpe [t0, t1, t2, t3, t4, t5, t6, t7] (Out.val (V.tup [V.t (T.int IntKind.i64 (5 : Int)), V.t (T.bool false), V.t (T.bool true)]) []) (by kernel_rfl) (((congrArg (fun x => Out.val (V.tup [V.t (T.int IntKind.i64 x), V.t (T.bool false), V.t (T.bool true)]) []) (show ((5 : Int)) = (strength s.toList) by simp [strength, *])).trans (congrArg (fun x => Out.val (V.tup [V.t (T.int IntKind.i64 (strength s.toList)), V.t (T.bool x), V.t (T.bool true)]) []) (show (false) = (decide (strength s.toList = (7 : Int))) by simp [strength, *]))).trans (congrArg (fun x => Out.val (V.tup [V.t (T.int IntKind.i64 (strength s.toList)), V.t (T.bool (decide (strength s.toList = (7 : Int)))), V.t (T.bool x)]) []) (show (true) = (strength s.toList != (0 : Int)) by simp [strength, *])))
                · let t7 : Tp pr := .b (show (s.toList == [(45 : UInt8)]) = false by simpa using hc7)
                  by_cases hc8 : s.toList = [(42 : UInt8)]
                  · let t8 : Tp pr := .b (show (s.toList == [(42 : UInt8)]) = true by simpa using hc8)
                    let t9 : Tp pr := .b (show (s.toList == [(42 : UInt8)]) = true by (simp; omega))
                    exact .tpe [t0, t1, t2, t3, t4, t5, t6, t7, t8, t9] (Out.val (V.tup [V.t (T.int IntKind.i64 (6 : Int)), V.t (T.bool false), V.t (T.bool true)]) []) (by kernel_rfl) (((congrArg (fun x => Out.val (V.tup [V.t (T.int IntKind.i64 x), V.t (T.bool false), V.t (T.bool true)]) []) (show ((6 : Int)) = (strength s.toList) by simp [strength, *])).trans (congrArg (fun x => Out.val (V.tup [V.t (T.int IntKind.i64 (strength s.toList)), V.t (T.bool x), V.t (T.bool true)]) []) (show (false) = (decide (strength s.toList = (7 : Int))) by simp [strength, *]))).trans (congrArg (fun x => Out.val (V.tup [V.t (T.int IntKind.i64 (strength s.toList)), V.t (T.bool (decide (strength s.toList = (7 : Int)))), V.t (T.bool x)]) []) (show (true) = (strength s.toList != (0 : Int)) by simp [strength, *])))
                  · let t8 : Tp pr := .b (show (s.toList == [(42 : UInt8)]) = false by simpa using hc8)
                    by_cases hc9 : s.toList = [(47 : UInt8)]
                    · let t9 : Tp pr := .b (show (s.toList == [(47 : UInt8)]) = true by simpa using hc9)
                      let t10 : Tp pr := .b (show (s.toList == [(47 : UInt8)]) = true by (simp; omega))
                      exact .tpe [t0, t1, t2, t3, t4, t5, t6, t7, t8, t9, t10] (Out.val (V.tup [V.t (T.int IntKind.i64 (6 : Int)), V.t (T.bool false), V.t (T.bool true)]) []) (by kernel_rfl) (((congrArg (fun x => Out.val (V.tup [V.t (T.int IntKind.i64 x), V.t (T.bool false), V.t (T.bool true)]) []) (show ((6 : Int)) = (strength s.toList) by simp [strength, *])).trans (congrArg (fun x => Out.val (V.tup [V.t (T.int IntKind.i64 (strength s.toList)), V.t (T.bool x), V.t (T.bool true)]) []) (show (false) = (decide (strength s.toList = (7 : Int))) by simp [strength, *]))).trans (congrArg (fun x => Out.val (V.tup [V.t (T.int IntKind.i64 (strength s.toList)), V.t (T.bool (decide (strength s.toList = (7 : Int)))), V.t (T.bool x)]) []) (show (true) = (strength s.toList != (0 : Int)) by simp [strength, *])))
                    · let t9 : Tp pr := .b (show (s.toList == [(47 : UInt8)]) = false by simpa using hc9)
                      by_cases hc10 : s.toList = [(37 : UInt8)]
                      · let t10 : Tp pr := .b (show (s.toList == [(37 : UInt8)]) = true by simpa using hc10)
                        exact .tpe [t0, t1, t2, t3, t4, t5, t6, t7, t8, t9, t10] (Out.val (V.tup [V.t (T.int IntKind.i64 (6 : Int)), V.t (T.bool false), V.t (T.bool true)]) []) (by kernel_rfl) (((congrArg (fun x => Out.val (V.tup [V.t (T.int IntKind.i64 x), V.t (T.bool false), V.t (T.bool true)]) []) (show ((6 : Int)) = (strength s.toList) by simp [strength, *])).trans (congrArg (fun x => Out.val (V.tup [V.t (T.int IntKind.i64 (strength s.toList)), V.t (T.bool x), V.t (T.bool true)]) []) (show (false) = (decide (strength s.toList = (7 : Int))) by simp [strength, *]))).trans (congrArg (fun x => Out.val (V.tup [V.t (T.int IntKind.i64 (strength s.toList)), V.t (T.bool (decide (strength s.toList = (7 : Int)))), V.t (T.bool x)]) []) (show (true) = (strength s.toList != (0 : Int)) by simp [strength, *])))
                      · let t10 : Tp pr := .b (show (s.toList == [(37 : UInt8)]) = false by simpa using hc10)
                        by_cases hc11 : s.toList = [(60 : UInt8), (60 : UInt8)]
                        · let t11 : Tp pr := .b (show (s.toList == [(60 : UInt8), (60 : UInt8)]) = true by simpa using hc11)
                          exact .tpe [t0, t1, t2, t3, t4, t5, t6, t7, t8, t9, t10, t11] (Out.val (V.tup [V.t (T.int IntKind.i64 (7 : Int)), V.t (T.bool true), V.t (T.bool true)]) []) (by kernel_rfl) (((congrArg (fun x => Out.val (V.tup [V.t (T.int IntKind.i64 x), V.t (T.bool true), V.t (T.bool true)]) []) (show ((7 : Int)) = (strength s.toList) by simp [strength, *])).trans (congrArg (fun x => Out.val (V.tup [V.t (T.int IntKind.i64 (strength s.toList)), V.t (T.bool x), V.t (T.bool true)]) []) (show (true) = (decide (strength s.toList = (7 : Int))) by simp [strength, *]))).trans (congrArg (fun x => Out.val (V.tup [V.t (T.int IntKind.i64 (strength s.toList)), V.t (T.bool (decide (strength s.toList = (7 : Int)))), V.t (T.bool x)]) []) (show (true) = (strength s.toList != (0 : Int)) by simp [strength, *])))
                        · let t11 : Tp pr := .b (show (s.toList == [(60 : UInt8), (60 : UInt8)]) = false by simpa using hc11)
                          exact .tpe [t0, t1, t2, t3, t4, t5, t6, t7, t8, t9, t10, t11] (Out.val (V.tup [V.t (T.int IntKind.i64 (0 : Int)), V.t (T.bool false), V.t (T.bool false)]) []) (by kernel_rfl) (((congrArg (fun x => Out.val (V.tup [V.t (T.int IntKind.i64 x), V.t (T.bool false), V.t (T.bool false)]) []) (show ((0 : Int)) = (strength s.toList) by simp [strength, *])).trans (congrArg (fun x => Out.val (V.tup [V.t (T.int IntKind.i64 (strength s.toList)), V.t (T.bool x), V.t (T.bool false)]) []) (show (false) = (decide (strength s.toList = (7 : Int))) by simp [strength, *]))).trans (congrArg (fun x => Out.val (V.tup [V.t (T.int IntKind.i64 (strength s.toList)), V.t (T.bool (decide (strength s.toList = (7 : Int)))), V.t (T.bool x)]) []) (show (false) = (strength s.toList != (0 : Int)) by simp [strength, *])))
theorem l2Strength_ev (s : ByteArray) : Ev pr (.call 96 [.t (.str s)] []) (.val (i64 (strength s.toList)) []) := by
  by_cases hc0 : s.toList = [(124 : UInt8), (124 : UInt8)]
  · let t0 : Tp pr := .b (show (s.toList == [(124 : UInt8), (124 : UInt8)]) = true by simpa using hc0)
    exact .tpe [t0] (Out.val (V.t (T.int IntKind.i64 (1 : Int))) []) (by kernel_rfl) (congrArg (fun x => Out.val (V.t (T.int IntKind.i64 x)) []) (show ((1 : Int)) = (strength s.toList) by simp [strength, *]))
  · let t0 : Tp pr := .b (show (s.toList == [(124 : UInt8), (124 : UInt8)]) = false by simpa using hc0)
    by_cases hc1 : s.toList = [(38 : UInt8), (38 : UInt8)]
    · let t1 : Tp pr := .b (show (s.toList == [(38 : UInt8), (38 : UInt8)]) = true by simpa using hc1)
      exact .tpe [t0, t1] (Out.val (V.t (T.int IntKind.i64 (2 : Int))) []) (by kernel_rfl) (congrArg (fun x => Out.val (V.t (T.int IntKind.i64 x)) []) (show ((2 : Int)) = (strength s.toList) by simp [strength, *]))
    · let t1 : Tp pr := .b (show (s.toList == [(38 : UInt8), (38 : UInt8)]) = false by simpa using hc1)
      by_cases hc2 : s.toList = [(61 : UInt8), (61 : UInt8)]
      · let t2 : Tp pr := .b (show (s.toList == [(61 : UInt8), (61 : UInt8)]) = true by simpa using hc2)
        let t3 : Tp pr := .b (show (s.toList == [(61 : UInt8), (61 : UInt8)]) = true by (simp; omega))
        exact .tpe [t0, t1, t2, t3] (Out.val (V.t (T.int IntKind.i64 (3 : Int))) []) (by kernel_rfl) (congrArg (fun x => Out.val (V.t (T.int IntKind.i64 x)) []) (show ((3 : Int)) = (strength s.toList) by simp [strength, *]))
      · let t2 : Tp pr := .b (show (s.toList == [(61 : UInt8), (61 : UInt8)]) = false by simpa using hc2)
        by_cases hc3 : s.toList = [(33 : UInt8), (61 : UInt8)]
        · let t3 : Tp pr := .b (show (s.toList == [(33 : UInt8), (61 : UInt8)]) = true by simpa using hc3)
          exact .tpe [t0, t1, t2, t3] (Out.val (V.t (T.int IntKind.i64 (3 : Int))) []) (by kernel_rfl) (congrArg (fun x => Out.val (V.t (T.int IntKind.i64 x)) []) (show ((3 : Int)) = (strength s.toList) by simp [strength, *]))
        · let t3 : Tp pr := .b (show (s.toList == [(33 : UInt8), (61 : UInt8)]) = false by simpa using hc3)
          by_cases hc4 : s.toList = [(60 : UInt8)]
          · let t4 : Tp pr := .b (show (s.toList == [(60 : UInt8)]) = true by simpa using hc4)
            let t5 : Tp pr := .b (show (s.toList == [(60 : UInt8)]) = true by (simp; omega))
            exact .tpe [t0, t1, t2, t3, t4, t5] (Out.val (V.t (T.int IntKind.i64 (4 : Int))) []) (by kernel_rfl) (congrArg (fun x => Out.val (V.t (T.int IntKind.i64 x)) []) (show ((4 : Int)) = (strength s.toList) by simp [strength, *]))
          · let t4 : Tp pr := .b (show (s.toList == [(60 : UInt8)]) = false by simpa using hc4)
            by_cases hc5 : s.toList = [(60 : UInt8), (61 : UInt8)]
            · let t5 : Tp pr := .b (show (s.toList == [(60 : UInt8), (61 : UInt8)]) = true by simpa using hc5)
              exact .tpe [t0, t1, t2, t3, t4, t5] (Out.val (V.t (T.int IntKind.i64 (4 : Int))) []) (by kernel_rfl) (congrArg (fun x => Out.val (V.t (T.int IntKind.i64 x)) []) (show ((4 : Int)) = (strength s.toList) by simp [strength, *]))
            · let t5 : Tp pr := .b (show (s.toList == [(60 : UInt8), (61 : UInt8)]) = false by simpa using hc5)
              by_cases hc6 : s.toList = [(43 : UInt8)]
              · let t6 : Tp pr := .b (show (s.toList == [(43 : UInt8)]) = true by simpa using hc6)
                let t7 : Tp pr := .b (show (s.toList == [(43 : UInt8)]) = true by (simp; omega))
                exact .tpe [t0, t1, t2, t3, t4, t5, t6, t7] (Out.val (V.t (T.int IntKind.i64 (5 : Int))) []) (by kernel_rfl) (congrArg (fun x => Out.val (V.t (T.int IntKind.i64 x)) []) (show ((5 : Int)) = (strength s.toList) by simp [strength, *]))
              · let t6 : Tp pr := .b (show (s.toList == [(43 : UInt8)]) = false by simpa using hc6)
                by_cases hc7 : s.toList = [(45 : UInt8)]
                · let t7 : Tp pr := .b (show (s.toList == [(45 : UInt8)]) = true by simpa using hc7)
                  exact .tpe [t0, t1, t2, t3, t4, t5, t6, t7] (Out.val (V.t (T.int IntKind.i64 (5 : Int))) []) (by kernel_rfl) (congrArg (fun x => Out.val (V.t (T.int IntKind.i64 x)) []) (show ((5 : Int)) = (strength s.toList) by simp [strength, *]))
                · let t7 : Tp pr := .b (show (s.toList == [(45 : UInt8)]) = false by simpa using hc7)
                  by_cases hc8 : s.toList = [(42 : UInt8)]
                  · let t8 : Tp pr := .b (show (s.toList == [(42 : UInt8)]) = true by simpa using hc8)
                    let t9 : Tp pr := .b (show (s.toList == [(42 : UInt8)]) = true by (simp; omega))
                    exact .tpe [t0, t1, t2, t3, t4, t5, t6, t7, t8, t9] (Out.val (V.t (T.int IntKind.i64 (6 : Int))) []) (by kernel_rfl) (congrArg (fun x => Out.val (V.t (T.int IntKind.i64 x)) []) (show ((6 : Int)) = (strength s.toList) by simp [strength, *]))
                  · let t8 : Tp pr := .b (show (s.toList == [(42 : UInt8)]) = false by simpa using hc8)
                    by_cases hc9 : s.toList = [(47 : UInt8)]
                    · let t9 : Tp pr := .b (show (s.toList == [(47 : UInt8)]) = true by simpa using hc9)
                      let t10 : Tp pr := .b (show (s.toList == [(47 : UInt8)]) = true by (simp; omega))
                      exact .tpe [t0, t1, t2, t3, t4, t5, t6, t7, t8, t9, t10] (Out.val (V.t (T.int IntKind.i64 (6 : Int))) []) (by kernel_rfl) (congrArg (fun x => Out.val (V.t (T.int IntKind.i64 x)) []) (show ((6 : Int)) = (strength s.toList) by simp [strength, *]))
                    · let t9 : Tp pr := .b (show (s.toList == [(47 : UInt8)]) = false by simpa using hc9)
                      by_cases hc10 : s.toList = [(37 : UInt8)]
                      · let t10 : Tp pr := .b (show (s.toList == [(37 : UInt8)]) = true by simpa using hc10)
                        exact .tpe [t0, t1, t2, t3, t4, t5, t6, t7, t8, t9, t10] (Out.val (V.t (T.int IntKind.i64 (6 : Int))) []) (by kernel_rfl) (congrArg (fun x => Out.val (V.t (T.int IntKind.i64 x)) []) (show ((6 : Int)) = (strength s.toList) by simp [strength, *]))
                      · let t10 : Tp pr := .b (show (s.toList == [(37 : UInt8)]) = false by simpa using hc10)
                        by_cases hc11 : s.toList = [(60 : UInt8), (60 : UInt8)]
                        · let t11 : Tp pr := .b (show (s.toList == [(60 : UInt8), (60 : UInt8)]) = true by simpa using hc11)
                          exact .tpe [t0, t1, t2, t3, t4, t5, t6, t7, t8, t9, t10, t11] (Out.val (V.t (T.int IntKind.i64 (7 : Int))) []) (by kernel_rfl) (congrArg (fun x => Out.val (V.t (T.int IntKind.i64 x)) []) (show ((7 : Int)) = (strength s.toList) by simp [strength, *]))
                        · let t11 : Tp pr := .b (show (s.toList == [(60 : UInt8), (60 : UInt8)]) = false by simpa using hc11)
                          exact .tpe [t0, t1, t2, t3, t4, t5, t6, t7, t8, t9, t10, t11] (Out.val (V.t (T.int IntKind.i64 (0 : Int))) []) (by kernel_rfl) (congrArg (fun x => Out.val (V.t (T.int IntKind.i64 x)) []) (show ((0 : Int)) = (strength s.toList) by simp [strength, *]))
theorem l1In_ev (x lo hi : Int) : Ev pr (.call 39 [i64 x, i64 lo, i64 hi] []) (.val (bl (decide (x ≥ lo) && decide (x ≤ hi))) []) := by
  by_cases hc0 : lo ≤ x
  · let t0 : Tp pr := .b (show (decide (x ≥ lo)) = true by simpa using hc0)
    exact .tpe [t0] (Out.val (V.t (T.bool (decide (x ≤ hi)))) []) (by kernel_rfl) (congrArg (fun x => Out.val (V.t (T.bool x)) []) (show (decide (x ≤ hi)) = (decide (x ≥ lo) && decide (x ≤ hi)) by simp [bl, *]))
  · let t0 : Tp pr := .b (show (decide (x ≥ lo)) = false by simpa using hc0)
    exact .tpe [t0] (Out.val (V.t (T.bool false)) []) (by kernel_rfl) (congrArg (fun x => Out.val (V.t (T.bool x)) []) (show (false) = (decide (x ≥ lo) && decide (x ≤ hi)) by simp [bl, *]))
theorem l1Letter_ev (x : Int) : Ev pr (.call 110 [.t (.int .u8 x)] []) (.val (bl (decide (97 ≤ x) && decide (x ≤ 122))) []) := by
  by_cases hc0 : (97 : Int) ≤ x
  · let t0 : Tp pr := .b (show (decide (x ≥ (97 : Int))) = true by simpa using hc0)
    exact .tpe [t0] (Out.val (V.t (T.bool (decide (x ≤ (122 : Int))))) []) (by kernel_rfl) (congrArg (fun x => Out.val (V.t (T.bool x)) []) (show (decide (x ≤ (122 : Int))) = (decide ((97 : Int) ≤ x) && decide (x ≤ (122 : Int))) by simp [bl, *]))
  · let t0 : Tp pr := .b (show (decide (x ≥ (97 : Int))) = false by simpa using hc0)
    exact .tpe [t0] (Out.val (V.t (T.bool false)) []) (by kernel_rfl) (congrArg (fun x => Out.val (V.t (T.bool x)) []) (show (false) = (decide ((97 : Int) ≤ x) && decide (x ≤ (122 : Int))) by simp [bl, *]))
theorem l1LetterB_ev (b : UInt8) : Ev pr (.call 110 [.t (.int .u8 b.toNat)] []) (.val (bl (letter b)) []) := l1Letter_ev b.toNat
theorem nameOk_ev (s : ByteArray) (hs : s.size ≤ 9223372036854775807) : Ev pr (.call 99 [.t (.str s)] []) (.val (bl (nameOk s)) []) := by
  rw [nameOk_code]
  by_cases hc0 : s.toList = []
  · let t0 : Tp pr := .b (show (!s.toList == []) = false by simpa using hc0)
    exact .tpe [t0, .b (rfl : false = false)] (Out.val (V.t (T.bool false)) []) (by kernel_rfl) (congrArg (fun x => Out.val (V.t (T.bool x)) []) (show (false) = (!s.toList == [] && (decide ((↑s.size : Int) ≤ (8 : Int)) && decide ((↑(List.takeWhile letter s.toList).length : Int) = (↑s.size : Int)))) by simp [*]))
  · let t0 : Tp pr := .b (show (!s.toList == []) = true by simpa using hc0)
    by_cases hc2 : (↑s.size : Int) ≤ (8 : Int)
    · let t2 : Tp pr := .b (show (decide ((↑s.size : Int) ≤ (8 : Int))) = true by simpa using hc2)
      exact .tpe [t0, .i (rfl : ((↑s.size : Int)) = _), t2, .a (run_ev (s) (by assumption)), .i (rfl : ((↑s.size : Int)) = _)] (Out.val (V.t (T.bool (decide ((↑(List.takeWhile letter s.toList).length : Int) = (↑s.size : Int))))) []) (by kernel_rfl) (congrArg (fun x => Out.val (V.t (T.bool x)) []) (show (decide ((↑(List.takeWhile letter s.toList).length : Int) = (↑s.size : Int))) = (!s.toList == [] && (decide ((↑s.size : Int) ≤ (8 : Int)) && decide ((↑(List.takeWhile letter s.toList).length : Int) = (↑s.size : Int)))) by simp [*]))
    · let t2 : Tp pr := .b (show (decide ((↑s.size : Int) ≤ (8 : Int))) = false by simpa using hc2)
      exact .tpe [t0, .i (rfl : ((↑s.size : Int)) = _), t2] (Out.val (V.t (T.bool false)) []) (by kernel_rfl) (congrArg (fun x => Out.val (V.t (T.bool x)) []) (show (false) = (!s.toList == [] && (decide ((↑s.size : Int) ≤ (8 : Int)) && decide ((↑(List.takeWhile letter s.toList).length : Int) = (↑s.size : Int)))) by simp [*]))
theorem GoodNameL_ev (s : ByteArray) (hs : s.size ≤ 9223372036854775807) : ∀ (rest done : List UInt8) (i : Int), s.toList = done ++ rest → i = done.length →
    Ev pr (.loop (lq pr 95 0) (at_ [(1, V.ptr 0 1 0 0), (3, i64 i)] [Ob.box [i64 2, i64 0, V.t (T.str s), i64 0]] 0))
      (bif rest.all letter then .exit 1 (at_ [(1, V.ptr 0 1 0 0)] [Ob.box [i64 2, i64 0, V.t (T.str s), i64 0]] 0) else .ret (at_ [(2, bl false)] [] 0))
  | [], done, i, h, hi => by
    have hl := bys_cut h
    let t1 : Tp pr := .b (show (decide (i < (↑s.size : Int))) = false by simp [*])
    exact .tp [.i (rfl : ((↑s.size : Int)) = _), t1] (by kernel_rfl)
  | b :: rest, done, i, h, hi => by
    have hl := bys_cut h
    have hb := lkpS_mid h hi
    have ih := GoodNameL_ev s hs rest (done ++ [b]) (i + 1) (by simp [h]) (by simp [hi])
    simp at hl
    cases hL : letter b with
    | true => 
      simp only [List.all_cons, hL, Bool.true_and]
      cases hr : rest.all letter with
      | true => rw [hr] at ih; (
        let t1 : Tp pr := .b (show (decide (i < (↑s.size : Int))) = true by (simp; omega))
        let t2 : Tp pr := .g .u8 (show (lkpS s i) = some (b) from hb)
        let t4 : Tp pr := .b (show (!letter b) = false by (simp; omega))
        let t5 : Tp pr := .i (wrap_i64 (a := i + (1 : Int)) (by omega) (by omega))
        exact .tp [.i (rfl : ((↑s.size : Int)) = _), t1, t2, .a (l1LetterB_ev (b)), t4, t5, .a (ih)] (by kernel_rfl))
      | false => rw [hr] at ih; (
        let t1 : Tp pr := .b (show (decide (i < (↑s.size : Int))) = true by (simp; omega))
        let t2 : Tp pr := .g .u8 (show (lkpS s i) = some (b) from hb)
        let t4 : Tp pr := .b (show (!letter b) = false by (simp; omega))
        let t5 : Tp pr := .i (wrap_i64 (a := i + (1 : Int)) (by omega) (by omega))
        exact .tp [.i (rfl : ((↑s.size : Int)) = _), t1, t2, .a (l1LetterB_ev (b)), t4, t5, .a (ih)] (by kernel_rfl))
    | false =>
      simp only [List.all_cons, hL, Bool.false_and]
      let t1 : Tp pr := .b (show (decide (i < (↑s.size : Int))) = true by (simp; omega))
      let t2 : Tp pr := .g .u8 (show (lkpS s i) = some (b) from hb)
      let t4 : Tp pr := .b (show (!letter b) = true by (simp; omega))
      exact .tp [.i (rfl : ((↑s.size : Int)) = _), t1, t2, .a (l1LetterB_ev (b)), t4] (by kernel_rfl)
theorem GoodName_ev (s : ByteArray) (hs : s.size ≤ 9223372036854775807) : Ev pr (.call 95 [.agg [i64 2, i64 0, .t (.str s), i64 0]] []) (.val (bl (nameOk s)) []) := by
  have ih := GoodNameL_ev s hs s.toList [] 0 rfl rfl
  cases hr : s.toList.all letter with
  | true =>
    rw [hr] at ih
    rw [nameOk_true hr]
    let t0 : Tp pr := .a (l1In_ev ((0 : Int)) ((0 : Int)) ((300 : Int)))
    let t7 : Tp pr := .a (l1In_ev ((↑s.size : Int)) ((1 : Int)) ((8 : Int)))
    exact .tp [t0, .b (rfl : false = false), .b (rfl : false = false), .b (rfl : true = true), .a (ih), .b (rfl : true = true), .i (rfl : ((↑s.size : Int)) = _), t7] (by kernel_rfl)
  | false =>
    rw [hr] at ih
    rw [nameOk_false hr]
    let t0 : Tp pr := .a (l1In_ev ((0 : Int)) ((0 : Int)) ((300 : Int)))
    exact .tp [t0, .b (rfl : false = false), .b (rfl : false = false), .b (rfl : true = true), .a (ih)] (by kernel_rfl)
end Go.Ev

/- Expressions: how they are read. -/
namespace Go.Ev
set_option linter.unusedVariables false
set_option linter.unusedSimpArgs false
open Go.Proofs
set_option maxRecDepth 100000
set_option linter.unusedVariables false
set_option maxHeartbeats 1000000
theorem exprFrom_ev : ∀ (n : Nat) (l : List Ex), l.length ≤ n → l.length ≤ 1048576 → (∀ x ∈ l, x.text.size ≤ 9223372036854775807) → Ev pr (.call 80 [exs l] []) (.val (outP (readE n l)) [])
  | 0, l, hn, hl, hs => by
    have : l = [] := List.length_eq_zero_iff.1 (by omega)
    subst this
    let t0 : Tp pr := .i (rfl : ((0 : Int) : Int) = (0 : Int))
    exact .tp [t0, .b (rfl : true = true)] (by kernel_rfl)
  | n + 1, [], hn, hl, hs => by
    let t0 : Tp pr := .i (rfl : ((0 : Int) : Int) = (0 : Int))
    exact .tp [t0, .b (rfl : true = true)] (by kernel_rfl)
  | n + 1, x :: r, hn, hl, hs => by
    have hx := hs x (by simp)
    have ih1 := exprFrom_ev n r (by simp at hn; omega) (by simp at hl; omega) (fun y hy => hs y (by simp [hy]))
    cases h1 : readE n r with
    | none =>
      rw [h1] at ih1
      let t0 : Tp pr := .i (show ((↑(List.map Ex.ce (x :: r)).length : Int) : Int) = (↑r.length : Int) + (1 : Int) by simp)
      let t2 : Tp pr := .g .row (show (lkp (List.map Ex.ce (x :: r)) (0 : Int)) = some (x.ce) by simp)
      let t3 : Tp pr := .m (show (decide ((0 : Int) ≤ (1 : Int) ∧ (1 : Int) ≤ (↑(List.map Ex.ce (x :: r)).length : Int) ∧ (↑(List.map Ex.ce (x :: r)).length : Int) ≤ (↑(List.map Ex.ce (x :: r)).length : Int))) = true by (simp; omega))
      let t4 : Tp pr := .n .rows (show (List.take ((↑(List.map Ex.ce (x :: r)).length : Int).toNat - (1 : Nat)) (List.drop (1 : Nat) (List.map Ex.ce (x :: r)))) = List.map Ex.ce r by simp)
      by_cases hc5 : x.kind = (1 : Int)
      · let t5 : Tp pr := .b (show (decide (x.kind = (1 : Int))) = true by simpa using hc5)
        let t6 : Tp pr := .a (within_ev (x.num) ((0 : Int)) ((999999999 : Int)))
        by_cases hc7 : (0 : Int) ≤ x.num ∧ x.num ≤ (999999999 : Int)
        · let t7 : Tp pr := .b (show (decide (x.num ≥ (0 : Int)) && decide (x.num ≤ (999999999 : Int))) = true by simpa using hc7)
          by_cases hc8 : x.text = e0
          · let t8 : Tp pr := .b (show (!x.text.toList == []) = false by simpa using hc8)
            exact .tpe [t0, .b (rfl : false = false), t2, t3, t4, t5, t6, t7, t8] (Out.val (V.tup [V.t (T.ptr [T.int IntKind.i64 x.kind, T.int IntKind.i64 x.num, T.str x.text, T.nilp, T.nilp] (0 : Nat)), V.t (T.seq (3 : Nat) (List.map Ex.ce r))]) []) (by kernel_rfl) (((congrArg (fun x_1 => Out.val (V.tup [V.t (T.ptr [T.int IntKind.i64 x_1, T.int IntKind.i64 x.num, T.str x.text, T.nilp, T.nilp] (0 : Nat)), V.t (T.seq (3 : Nat) (List.map Ex.ce r))]) []) (show (x.kind) = ((1 : Int)) by assumption)).trans (congrArg (fun x_1 => Out.val (V.tup [V.t (T.ptr [T.int IntKind.i64 (1 : Int), T.int IntKind.i64 x.num, T.str x_1, T.nilp, T.nilp] (0 : Nat)), V.t (T.seq (3 : Nat) (List.map Ex.ce r))]) []) (show (x.text) = (ByteArray.mk #[]) by assumption))).trans (show (Out.val (V.tup [V.t (T.ptr [T.int IntKind.i64 (1 : Int), T.int IntKind.i64 x.num, T.str (ByteArray.mk #[]), T.nilp, T.nilp] (0 : Nat)), V.t (T.seq (3 : Nat) (List.map Ex.ce r))]) []) = Out.val (outP (readE (n + (1 : Nat)) (x :: r))) [] by simp [readE, outP, exs, sl, E.tp, E.tab, *]))
          · let t8 : Tp pr := .b (show (!x.text.toList == []) = true by simpa using hc8)
            exact .tpe [t0, .b (rfl : false = false), t2, t3, t4, t5, t6, t7, t8] (Out.val (V.tup [V.t T.nilp, V.t (T.seq (3 : Nat) [])]) []) (by kernel_rfl) ((rfl).trans (show (Out.val (V.tup [V.t T.nilp, V.t (T.seq (3 : Nat) [])]) []) = Out.val (outP (readE (n + (1 : Nat)) (x :: r))) [] by simp [readE, outP, exs, sl, E.tp, E.tab, *]))
        · let t7 : Tp pr := .b (show (decide (x.num ≥ (0 : Int)) && decide (x.num ≤ (999999999 : Int))) = false by simpa using hc7)
          exact .tpe [t0, .b (rfl : false = false), t2, t3, t4, t5, t6, t7, .b (rfl : true = true)] (Out.val (V.tup [V.t T.nilp, V.t (T.seq (3 : Nat) [])]) []) (by kernel_rfl) ((rfl).trans (show (Out.val (V.tup [V.t T.nilp, V.t (T.seq (3 : Nat) [])]) []) = Out.val (outP (readE (n + (1 : Nat)) (x :: r))) [] by simp [readE, outP, exs, sl, E.tp, E.tab, *]))
      · let t5 : Tp pr := .b (show (decide (x.kind = (1 : Int))) = false by simpa using hc5)
        by_cases hc6 : x.kind = (2 : Int)
        · let t6 : Tp pr := .b (show (decide (x.kind = (2 : Int))) = true by simpa using hc6)
          by_cases hc7 : x.num = (0 : Int)
          · let t7 : Tp pr := .b (show (decide (x.num = (0 : Int))) = true by simpa using hc7)
            by_cases hc9 : nameOk x.text = false
            · let t9 : Tp pr := .b (show (!nameOk x.text) = true by simpa using hc9)
              exact .tpe [t0, .b (rfl : false = false), t2, t3, t4, t5, t6, t7, .a (nameOk_ev (x.text) (by assumption)), t9] (Out.val (V.tup [V.t T.nilp, V.t (T.seq (3 : Nat) [])]) []) (by kernel_rfl) ((rfl).trans (show (Out.val (V.tup [V.t T.nilp, V.t (T.seq (3 : Nat) [])]) []) = Out.val (outP (readE (n + (1 : Nat)) (x :: r))) [] by simp [readE, outP, exs, sl, E.tp, E.tab, *]))
            · let t9 : Tp pr := .b (show (!nameOk x.text) = false by simpa using hc9)
              exact .tpe [t0, .b (rfl : false = false), t2, t3, t4, t5, t6, t7, .a (nameOk_ev (x.text) (by assumption)), t9] (Out.val (V.tup [V.t (T.ptr [T.int IntKind.i64 x.kind, T.int IntKind.i64 x.num, T.str x.text, T.nilp, T.nilp] (0 : Nat)), V.t (T.seq (3 : Nat) (List.map Ex.ce r))]) []) (by kernel_rfl) (((congrArg (fun x_1 => Out.val (V.tup [V.t (T.ptr [T.int IntKind.i64 x_1, T.int IntKind.i64 x.num, T.str x.text, T.nilp, T.nilp] (0 : Nat)), V.t (T.seq (3 : Nat) (List.map Ex.ce r))]) []) (show (x.kind) = ((2 : Int)) by assumption)).trans (congrArg (fun x_1 => Out.val (V.tup [V.t (T.ptr [T.int IntKind.i64 (2 : Int), T.int IntKind.i64 x_1, T.str x.text, T.nilp, T.nilp] (0 : Nat)), V.t (T.seq (3 : Nat) (List.map Ex.ce r))]) []) (show (x.num) = ((0 : Int)) by assumption))).trans (show (Out.val (V.tup [V.t (T.ptr [T.int IntKind.i64 (2 : Int), T.int IntKind.i64 (0 : Int), T.str x.text, T.nilp, T.nilp] (0 : Nat)), V.t (T.seq (3 : Nat) (List.map Ex.ce r))]) []) = Out.val (outP (readE (n + (1 : Nat)) (x :: r))) [] by simp [readE, outP, exs, sl, E.tp, E.tab, *]))
          · let t7 : Tp pr := .b (show (decide (x.num = (0 : Int))) = false by simpa using hc7)
            exact .tpe [t0, .b (rfl : false = false), t2, t3, t4, t5, t6, t7, .b (rfl : true = true)] (Out.val (V.tup [V.t T.nilp, V.t (T.seq (3 : Nat) [])]) []) (by kernel_rfl) ((rfl).trans (show (Out.val (V.tup [V.t T.nilp, V.t (T.seq (3 : Nat) [])]) []) = Out.val (outP (readE (n + (1 : Nat)) (x :: r))) [] by simp [readE, outP, exs, sl, E.tp, E.tab, *]))
        · let t6 : Tp pr := .b (show (decide (x.kind = (2 : Int))) = false by simpa using hc6)
          by_cases hc7 : x.kind = (3 : Int)
          · let t7 : Tp pr := .b (show (decide (x.kind = (3 : Int))) = true by simpa using hc7)
            let t8 : Tp pr := .b (show (decide (x.kind = (3 : Int))) = true by (simp; omega))
            exact .tpe [t0, .b (rfl : false = false), t2, t3, t4, t5, t6, t7, t8, .a (ih1), .b (rfl : false = false), .b (rfl : false = false), .b (rfl : true = true)] (Out.val (V.tup [V.t T.nilp, V.t (T.seq (3 : Nat) [])]) []) (by kernel_rfl) ((rfl).trans (show (Out.val (V.tup [V.t T.nilp, V.t (T.seq (3 : Nat) [])]) []) = Out.val (outP (readE (n + (1 : Nat)) (x :: r))) [] by simp [readE, outP, exs, sl, E.tp, E.tab, *]))
          · let t7 : Tp pr := .b (show (decide (x.kind = (3 : Int))) = false by simpa using hc7)
            by_cases hc8 : x.kind = (4 : Int)
            · let t8 : Tp pr := .b (show (decide (x.kind = (4 : Int))) = true by simpa using hc8)
              exact .tpe [t0, .b (rfl : false = false), t2, t3, t4, t5, t6, t7, t8, .a (ih1), .b (rfl : false = false), .b (rfl : false = false), .b (rfl : true = true)] (Out.val (V.tup [V.t T.nilp, V.t (T.seq (3 : Nat) [])]) []) (by kernel_rfl) ((rfl).trans (show (Out.val (V.tup [V.t T.nilp, V.t (T.seq (3 : Nat) [])]) []) = Out.val (outP (readE (n + (1 : Nat)) (x :: r))) [] by simp [readE, outP, exs, sl, E.tp, E.tab, *]))
            · let t8 : Tp pr := .b (show (decide (x.kind = (4 : Int))) = false by simpa using hc8)
              by_cases hc9 : x.kind = (5 : Int)
              · let t9 : Tp pr := .b (show (decide (x.kind = (5 : Int))) = true by simpa using hc9)
                exact .tpe [t0, .b (rfl : false = false), t2, t3, t4, t5, t6, t7, t8, t9, .a (ih1), .b (rfl : true = true)] (Out.val (V.tup [V.t T.nilp, V.t (T.seq (3 : Nat) [])]) []) (by kernel_rfl) ((rfl).trans (show (Out.val (V.tup [V.t T.nilp, V.t (T.seq (3 : Nat) [])]) []) = Out.val (outP (readE (n + (1 : Nat)) (x :: r))) [] by simp [readE, outP, exs, sl, E.tp, E.tab, *]))
              · let t9 : Tp pr := .b (show (decide (x.kind = (5 : Int))) = false by simpa using hc9)
                exact .tpe [t0, .b (rfl : false = false), t2, t3, t4, t5, t6, t7, t8, t9, .b (rfl : true = true)] (Out.val (V.tup [V.t T.nilp, V.t (T.seq (3 : Nat) [])]) []) (by kernel_rfl) ((rfl).trans (show (Out.val (V.tup [V.t T.nilp, V.t (T.seq (3 : Nat) [])]) []) = Out.val (outP (readE (n + (1 : Nat)) (x :: r))) [] by simp [readE, outP, exs, sl, E.tp, E.tab, *]))
    | some p =>
      obtain ⟨a, r1⟩ := p
      have hr := readE_lt _ _ _ _ h1
      have ih2 := exprFrom_ev n r1 (by simp at hn; omega) (by simp at hl; omega) (fun y hy => hs y (by simp [readE_mem h1 y hy]))
      rw [h1] at ih1
      cases h2 : readE n r1 with
      | none =>
        rw [h2] at ih2
        let t0 : Tp pr := .i (show ((↑(List.map Ex.ce (x :: r)).length : Int) : Int) = (↑r.length : Int) + (1 : Int) by simp)
        let t2 : Tp pr := .g .row (show (lkp (List.map Ex.ce (x :: r)) (0 : Int)) = some (x.ce) by simp)
        let t3 : Tp pr := .m (show (decide ((0 : Int) ≤ (1 : Int) ∧ (1 : Int) ≤ (↑(List.map Ex.ce (x :: r)).length : Int) ∧ (↑(List.map Ex.ce (x :: r)).length : Int) ≤ (↑(List.map Ex.ce (x :: r)).length : Int))) = true by (simp; omega))
        let t4 : Tp pr := .n .rows (show (List.take ((↑(List.map Ex.ce (x :: r)).length : Int).toNat - (1 : Nat)) (List.drop (1 : Nat) (List.map Ex.ce (x :: r)))) = List.map Ex.ce r by simp)
        by_cases hc5 : x.kind = (1 : Int)
        · let t5 : Tp pr := .b (show (decide (x.kind = (1 : Int))) = true by simpa using hc5)
          let t6 : Tp pr := .a (within_ev (x.num) ((0 : Int)) ((999999999 : Int)))
          by_cases hc7 : (0 : Int) ≤ x.num ∧ x.num ≤ (999999999 : Int)
          · let t7 : Tp pr := .b (show (decide (x.num ≥ (0 : Int)) && decide (x.num ≤ (999999999 : Int))) = true by simpa using hc7)
            by_cases hc8 : x.text = e0
            · let t8 : Tp pr := .b (show (!x.text.toList == []) = false by simpa using hc8)
              exact .tpe [t0, .b (rfl : false = false), t2, t3, t4, t5, t6, t7, t8] (Out.val (V.tup [V.t (T.ptr [T.int IntKind.i64 x.kind, T.int IntKind.i64 x.num, T.str x.text, T.nilp, T.nilp] (0 : Nat)), V.t (T.seq (3 : Nat) (List.map Ex.ce r))]) []) (by kernel_rfl) (((congrArg (fun x_1 => Out.val (V.tup [V.t (T.ptr [T.int IntKind.i64 x_1, T.int IntKind.i64 x.num, T.str x.text, T.nilp, T.nilp] (0 : Nat)), V.t (T.seq (3 : Nat) (List.map Ex.ce r))]) []) (show (x.kind) = ((1 : Int)) by assumption)).trans (congrArg (fun x_1 => Out.val (V.tup [V.t (T.ptr [T.int IntKind.i64 (1 : Int), T.int IntKind.i64 x.num, T.str x_1, T.nilp, T.nilp] (0 : Nat)), V.t (T.seq (3 : Nat) (List.map Ex.ce r))]) []) (show (x.text) = (ByteArray.mk #[]) by assumption))).trans (show (Out.val (V.tup [V.t (T.ptr [T.int IntKind.i64 (1 : Int), T.int IntKind.i64 x.num, T.str (ByteArray.mk #[]), T.nilp, T.nilp] (0 : Nat)), V.t (T.seq (3 : Nat) (List.map Ex.ce r))]) []) = Out.val (outP (readE (n + (1 : Nat)) (x :: r))) [] by simp [readE, outP, exs, sl, E.tp, E.tab, *]))
            · let t8 : Tp pr := .b (show (!x.text.toList == []) = true by simpa using hc8)
              exact .tpe [t0, .b (rfl : false = false), t2, t3, t4, t5, t6, t7, t8] (Out.val (V.tup [V.t T.nilp, V.t (T.seq (3 : Nat) [])]) []) (by kernel_rfl) ((rfl).trans (show (Out.val (V.tup [V.t T.nilp, V.t (T.seq (3 : Nat) [])]) []) = Out.val (outP (readE (n + (1 : Nat)) (x :: r))) [] by simp [readE, outP, exs, sl, E.tp, E.tab, *]))
          · let t7 : Tp pr := .b (show (decide (x.num ≥ (0 : Int)) && decide (x.num ≤ (999999999 : Int))) = false by simpa using hc7)
            exact .tpe [t0, .b (rfl : false = false), t2, t3, t4, t5, t6, t7, .b (rfl : true = true)] (Out.val (V.tup [V.t T.nilp, V.t (T.seq (3 : Nat) [])]) []) (by kernel_rfl) ((rfl).trans (show (Out.val (V.tup [V.t T.nilp, V.t (T.seq (3 : Nat) [])]) []) = Out.val (outP (readE (n + (1 : Nat)) (x :: r))) [] by simp [readE, outP, exs, sl, E.tp, E.tab, *]))
        · let t5 : Tp pr := .b (show (decide (x.kind = (1 : Int))) = false by simpa using hc5)
          by_cases hc6 : x.kind = (2 : Int)
          · let t6 : Tp pr := .b (show (decide (x.kind = (2 : Int))) = true by simpa using hc6)
            by_cases hc7 : x.num = (0 : Int)
            · let t7 : Tp pr := .b (show (decide (x.num = (0 : Int))) = true by simpa using hc7)
              by_cases hc9 : nameOk x.text = false
              · let t9 : Tp pr := .b (show (!nameOk x.text) = true by simpa using hc9)
                exact .tpe [t0, .b (rfl : false = false), t2, t3, t4, t5, t6, t7, .a (nameOk_ev (x.text) (by assumption)), t9] (Out.val (V.tup [V.t T.nilp, V.t (T.seq (3 : Nat) [])]) []) (by kernel_rfl) ((rfl).trans (show (Out.val (V.tup [V.t T.nilp, V.t (T.seq (3 : Nat) [])]) []) = Out.val (outP (readE (n + (1 : Nat)) (x :: r))) [] by simp [readE, outP, exs, sl, E.tp, E.tab, *]))
              · let t9 : Tp pr := .b (show (!nameOk x.text) = false by simpa using hc9)
                exact .tpe [t0, .b (rfl : false = false), t2, t3, t4, t5, t6, t7, .a (nameOk_ev (x.text) (by assumption)), t9] (Out.val (V.tup [V.t (T.ptr [T.int IntKind.i64 x.kind, T.int IntKind.i64 x.num, T.str x.text, T.nilp, T.nilp] (0 : Nat)), V.t (T.seq (3 : Nat) (List.map Ex.ce r))]) []) (by kernel_rfl) (((congrArg (fun x_1 => Out.val (V.tup [V.t (T.ptr [T.int IntKind.i64 x_1, T.int IntKind.i64 x.num, T.str x.text, T.nilp, T.nilp] (0 : Nat)), V.t (T.seq (3 : Nat) (List.map Ex.ce r))]) []) (show (x.kind) = ((2 : Int)) by assumption)).trans (congrArg (fun x_1 => Out.val (V.tup [V.t (T.ptr [T.int IntKind.i64 (2 : Int), T.int IntKind.i64 x_1, T.str x.text, T.nilp, T.nilp] (0 : Nat)), V.t (T.seq (3 : Nat) (List.map Ex.ce r))]) []) (show (x.num) = ((0 : Int)) by assumption))).trans (show (Out.val (V.tup [V.t (T.ptr [T.int IntKind.i64 (2 : Int), T.int IntKind.i64 (0 : Int), T.str x.text, T.nilp, T.nilp] (0 : Nat)), V.t (T.seq (3 : Nat) (List.map Ex.ce r))]) []) = Out.val (outP (readE (n + (1 : Nat)) (x :: r))) [] by simp [readE, outP, exs, sl, E.tp, E.tab, *]))
            · let t7 : Tp pr := .b (show (decide (x.num = (0 : Int))) = false by simpa using hc7)
              exact .tpe [t0, .b (rfl : false = false), t2, t3, t4, t5, t6, t7, .b (rfl : true = true)] (Out.val (V.tup [V.t T.nilp, V.t (T.seq (3 : Nat) [])]) []) (by kernel_rfl) ((rfl).trans (show (Out.val (V.tup [V.t T.nilp, V.t (T.seq (3 : Nat) [])]) []) = Out.val (outP (readE (n + (1 : Nat)) (x :: r))) [] by simp [readE, outP, exs, sl, E.tp, E.tab, *]))
          · let t6 : Tp pr := .b (show (decide (x.kind = (2 : Int))) = false by simpa using hc6)
            by_cases hc7 : x.kind = (3 : Int)
            · let t7 : Tp pr := .b (show (decide (x.kind = (3 : Int))) = true by simpa using hc7)
              let t8 : Tp pr := .b (show (decide (x.kind = (3 : Int))) = true by (simp; omega))
              by_cases hc11 : x.num = (0 : Int)
              · let t11 : Tp pr := .b (show (decide (x.num = (0 : Int))) = true by simpa using hc11)
                by_cases hc12 : x.text = e0
                · let t12 : Tp pr := .b (show (!x.text.toList == []) = false by simpa using hc12)
                  exact .tpe [t0, .b (rfl : false = false), t2, t3, t4, t5, t6, t7, t8, .a (ih1), .b (rfl : true = true), t11, t12] (Out.val (V.tup [V.t (T.ptr [T.int IntKind.i64 x.kind, T.int IntKind.i64 x.num, T.str x.text, T.ptr [T.int IntKind.i64 a.kind, T.int IntKind.i64 a.nm, T.str a.text, a.tab.fst, a.tab.snd] (0 : Nat), T.nilp] (0 : Nat)), V.t (T.seq (3 : Nat) (List.map Ex.ce r1))]) []) (by kernel_rfl) ((((congrArg (fun x_1 => Out.val (V.tup [V.t (T.ptr [T.int IntKind.i64 x_1, T.int IntKind.i64 x.num, T.str x.text, T.ptr [T.int IntKind.i64 a.kind, T.int IntKind.i64 a.nm, T.str a.text, a.tab.fst, a.tab.snd] (0 : Nat), T.nilp] (0 : Nat)), V.t (T.seq (3 : Nat) (List.map Ex.ce r1))]) []) (show (x.kind) = ((3 : Int)) by assumption)).trans (congrArg (fun x_1 => Out.val (V.tup [V.t (T.ptr [T.int IntKind.i64 (3 : Int), T.int IntKind.i64 x_1, T.str x.text, T.ptr [T.int IntKind.i64 a.kind, T.int IntKind.i64 a.nm, T.str a.text, a.tab.fst, a.tab.snd] (0 : Nat), T.nilp] (0 : Nat)), V.t (T.seq (3 : Nat) (List.map Ex.ce r1))]) []) (show (x.num) = ((0 : Int)) by assumption))).trans (congrArg (fun x => Out.val (V.tup [V.t (T.ptr [T.int IntKind.i64 (3 : Int), T.int IntKind.i64 (0 : Int), T.str x, T.ptr [T.int IntKind.i64 a.kind, T.int IntKind.i64 a.nm, T.str a.text, a.tab.fst, a.tab.snd] (0 : Nat), T.nilp] (0 : Nat)), V.t (T.seq (3 : Nat) (List.map Ex.ce r1))]) []) (show (x.text) = (ByteArray.mk #[]) by assumption))).trans (show (Out.val (V.tup [V.t (T.ptr [T.int IntKind.i64 (3 : Int), T.int IntKind.i64 (0 : Int), T.str (ByteArray.mk #[]), T.ptr [T.int IntKind.i64 a.kind, T.int IntKind.i64 a.nm, T.str a.text, a.tab.fst, a.tab.snd] (0 : Nat), T.nilp] (0 : Nat)), V.t (T.seq (3 : Nat) (List.map Ex.ce r1))]) []) = Out.val (outP (readE (n + (1 : Nat)) (x :: r))) [] by simp [readE, outP, exs, sl, E.tp, E.tab, *]))
                · let t12 : Tp pr := .b (show (!x.text.toList == []) = true by simpa using hc12)
                  exact .tpe [t0, .b (rfl : false = false), t2, t3, t4, t5, t6, t7, t8, .a (ih1), .b (rfl : true = true), t11, t12] (Out.val (V.tup [V.t T.nilp, V.t (T.seq (3 : Nat) [])]) []) (by kernel_rfl) ((rfl).trans (show (Out.val (V.tup [V.t T.nilp, V.t (T.seq (3 : Nat) [])]) []) = Out.val (outP (readE (n + (1 : Nat)) (x :: r))) [] by simp [readE, outP, exs, sl, E.tp, E.tab, *]))
              · let t11 : Tp pr := .b (show (decide (x.num = (0 : Int))) = false by simpa using hc11)
                exact .tpe [t0, .b (rfl : false = false), t2, t3, t4, t5, t6, t7, t8, .a (ih1), .b (rfl : true = true), t11, .b (rfl : true = true)] (Out.val (V.tup [V.t T.nilp, V.t (T.seq (3 : Nat) [])]) []) (by kernel_rfl) ((rfl).trans (show (Out.val (V.tup [V.t T.nilp, V.t (T.seq (3 : Nat) [])]) []) = Out.val (outP (readE (n + (1 : Nat)) (x :: r))) [] by simp [readE, outP, exs, sl, E.tp, E.tab, *]))
            · let t7 : Tp pr := .b (show (decide (x.kind = (3 : Int))) = false by simpa using hc7)
              by_cases hc8 : x.kind = (4 : Int)
              · let t8 : Tp pr := .b (show (decide (x.kind = (4 : Int))) = true by simpa using hc8)
                by_cases hc11 : x.num = (0 : Int)
                · let t11 : Tp pr := .b (show (decide (x.num = (0 : Int))) = true by simpa using hc11)
                  by_cases hc12 : x.text = e0
                  · let t12 : Tp pr := .b (show (!x.text.toList == []) = false by simpa using hc12)
                    exact .tpe [t0, .b (rfl : false = false), t2, t3, t4, t5, t6, t7, t8, .a (ih1), .b (rfl : true = true), t11, t12] (Out.val (V.tup [V.t (T.ptr [T.int IntKind.i64 x.kind, T.int IntKind.i64 x.num, T.str x.text, T.ptr [T.int IntKind.i64 a.kind, T.int IntKind.i64 a.nm, T.str a.text, a.tab.fst, a.tab.snd] (0 : Nat), T.nilp] (0 : Nat)), V.t (T.seq (3 : Nat) (List.map Ex.ce r1))]) []) (by kernel_rfl) ((((congrArg (fun x_1 => Out.val (V.tup [V.t (T.ptr [T.int IntKind.i64 x_1, T.int IntKind.i64 x.num, T.str x.text, T.ptr [T.int IntKind.i64 a.kind, T.int IntKind.i64 a.nm, T.str a.text, a.tab.fst, a.tab.snd] (0 : Nat), T.nilp] (0 : Nat)), V.t (T.seq (3 : Nat) (List.map Ex.ce r1))]) []) (show (x.kind) = ((4 : Int)) by assumption)).trans (congrArg (fun x_1 => Out.val (V.tup [V.t (T.ptr [T.int IntKind.i64 (4 : Int), T.int IntKind.i64 x_1, T.str x.text, T.ptr [T.int IntKind.i64 a.kind, T.int IntKind.i64 a.nm, T.str a.text, a.tab.fst, a.tab.snd] (0 : Nat), T.nilp] (0 : Nat)), V.t (T.seq (3 : Nat) (List.map Ex.ce r1))]) []) (show (x.num) = ((0 : Int)) by assumption))).trans (congrArg (fun x => Out.val (V.tup [V.t (T.ptr [T.int IntKind.i64 (4 : Int), T.int IntKind.i64 (0 : Int), T.str x, T.ptr [T.int IntKind.i64 a.kind, T.int IntKind.i64 a.nm, T.str a.text, a.tab.fst, a.tab.snd] (0 : Nat), T.nilp] (0 : Nat)), V.t (T.seq (3 : Nat) (List.map Ex.ce r1))]) []) (show (x.text) = (ByteArray.mk #[]) by assumption))).trans (show (Out.val (V.tup [V.t (T.ptr [T.int IntKind.i64 (4 : Int), T.int IntKind.i64 (0 : Int), T.str (ByteArray.mk #[]), T.ptr [T.int IntKind.i64 a.kind, T.int IntKind.i64 a.nm, T.str a.text, a.tab.fst, a.tab.snd] (0 : Nat), T.nilp] (0 : Nat)), V.t (T.seq (3 : Nat) (List.map Ex.ce r1))]) []) = Out.val (outP (readE (n + (1 : Nat)) (x :: r))) [] by simp [readE, outP, exs, sl, E.tp, E.tab, *]))
                  · let t12 : Tp pr := .b (show (!x.text.toList == []) = true by simpa using hc12)
                    exact .tpe [t0, .b (rfl : false = false), t2, t3, t4, t5, t6, t7, t8, .a (ih1), .b (rfl : true = true), t11, t12] (Out.val (V.tup [V.t T.nilp, V.t (T.seq (3 : Nat) [])]) []) (by kernel_rfl) ((rfl).trans (show (Out.val (V.tup [V.t T.nilp, V.t (T.seq (3 : Nat) [])]) []) = Out.val (outP (readE (n + (1 : Nat)) (x :: r))) [] by simp [readE, outP, exs, sl, E.tp, E.tab, *]))
                · let t11 : Tp pr := .b (show (decide (x.num = (0 : Int))) = false by simpa using hc11)
                  exact .tpe [t0, .b (rfl : false = false), t2, t3, t4, t5, t6, t7, t8, .a (ih1), .b (rfl : true = true), t11, .b (rfl : true = true)] (Out.val (V.tup [V.t T.nilp, V.t (T.seq (3 : Nat) [])]) []) (by kernel_rfl) ((rfl).trans (show (Out.val (V.tup [V.t T.nilp, V.t (T.seq (3 : Nat) [])]) []) = Out.val (outP (readE (n + (1 : Nat)) (x :: r))) [] by simp [readE, outP, exs, sl, E.tp, E.tab, *]))
              · let t8 : Tp pr := .b (show (decide (x.kind = (4 : Int))) = false by simpa using hc8)
                by_cases hc9 : x.kind = (5 : Int)
                · let t9 : Tp pr := .b (show (decide (x.kind = (5 : Int))) = true by simpa using hc9)
                  exact .tpe [t0, .b (rfl : false = false), t2, t3, t4, t5, t6, t7, t8, t9, .a (ih1), .b (rfl : false = false), .a (ih2), .a (StrengthOf_ev (x.text)), .b (rfl : false = false), .b (rfl : false = false), .b (rfl : true = true)] (Out.val (V.tup [V.t T.nilp, V.t (T.seq (3 : Nat) [])]) []) (by kernel_rfl) ((rfl).trans (show (Out.val (V.tup [V.t T.nilp, V.t (T.seq (3 : Nat) [])]) []) = Out.val (outP (readE (n + (1 : Nat)) (x :: r))) [] by simp [readE, outP, exs, sl, E.tp, E.tab, *]))
                · let t9 : Tp pr := .b (show (decide (x.kind = (5 : Int))) = false by simpa using hc9)
                  exact .tpe [t0, .b (rfl : false = false), t2, t3, t4, t5, t6, t7, t8, t9, .b (rfl : true = true)] (Out.val (V.tup [V.t T.nilp, V.t (T.seq (3 : Nat) [])]) []) (by kernel_rfl) ((rfl).trans (show (Out.val (V.tup [V.t T.nilp, V.t (T.seq (3 : Nat) [])]) []) = Out.val (outP (readE (n + (1 : Nat)) (x :: r))) [] by simp [readE, outP, exs, sl, E.tp, E.tab, *]))
      | some q =>
        obtain ⟨b, r2⟩ := q
        rw [h2] at ih2
        let t0 : Tp pr := .i (show ((↑(List.map Ex.ce (x :: r)).length : Int) : Int) = (↑r.length : Int) + (1 : Int) by simp)
        let t2 : Tp pr := .g .row (show (lkp (List.map Ex.ce (x :: r)) (0 : Int)) = some (x.ce) by simp)
        let t3 : Tp pr := .m (show (decide ((0 : Int) ≤ (1 : Int) ∧ (1 : Int) ≤ (↑(List.map Ex.ce (x :: r)).length : Int) ∧ (↑(List.map Ex.ce (x :: r)).length : Int) ≤ (↑(List.map Ex.ce (x :: r)).length : Int))) = true by (simp; omega))
        let t4 : Tp pr := .n .rows (show (List.take ((↑(List.map Ex.ce (x :: r)).length : Int).toNat - (1 : Nat)) (List.drop (1 : Nat) (List.map Ex.ce (x :: r)))) = List.map Ex.ce r by simp)
        by_cases hc5 : x.kind = (1 : Int)
        · let t5 : Tp pr := .b (show (decide (x.kind = (1 : Int))) = true by simpa using hc5)
          let t6 : Tp pr := .a (within_ev (x.num) ((0 : Int)) ((999999999 : Int)))
          by_cases hc7 : (0 : Int) ≤ x.num ∧ x.num ≤ (999999999 : Int)
          · let t7 : Tp pr := .b (show (decide (x.num ≥ (0 : Int)) && decide (x.num ≤ (999999999 : Int))) = true by simpa using hc7)
            by_cases hc8 : x.text = e0
            · let t8 : Tp pr := .b (show (!x.text.toList == []) = false by simpa using hc8)
              exact .tpe [t0, .b (rfl : false = false), t2, t3, t4, t5, t6, t7, t8] (Out.val (V.tup [V.t (T.ptr [T.int IntKind.i64 x.kind, T.int IntKind.i64 x.num, T.str x.text, T.nilp, T.nilp] (0 : Nat)), V.t (T.seq (3 : Nat) (List.map Ex.ce r))]) []) (by kernel_rfl) (((congrArg (fun x_1 => Out.val (V.tup [V.t (T.ptr [T.int IntKind.i64 x_1, T.int IntKind.i64 x.num, T.str x.text, T.nilp, T.nilp] (0 : Nat)), V.t (T.seq (3 : Nat) (List.map Ex.ce r))]) []) (show (x.kind) = ((1 : Int)) by assumption)).trans (congrArg (fun x_1 => Out.val (V.tup [V.t (T.ptr [T.int IntKind.i64 (1 : Int), T.int IntKind.i64 x.num, T.str x_1, T.nilp, T.nilp] (0 : Nat)), V.t (T.seq (3 : Nat) (List.map Ex.ce r))]) []) (show (x.text) = (ByteArray.mk #[]) by assumption))).trans (show (Out.val (V.tup [V.t (T.ptr [T.int IntKind.i64 (1 : Int), T.int IntKind.i64 x.num, T.str (ByteArray.mk #[]), T.nilp, T.nilp] (0 : Nat)), V.t (T.seq (3 : Nat) (List.map Ex.ce r))]) []) = Out.val (outP (readE (n + (1 : Nat)) (x :: r))) [] by simp [readE, outP, exs, sl, E.tp, E.tab, *]))
            · let t8 : Tp pr := .b (show (!x.text.toList == []) = true by simpa using hc8)
              exact .tpe [t0, .b (rfl : false = false), t2, t3, t4, t5, t6, t7, t8] (Out.val (V.tup [V.t T.nilp, V.t (T.seq (3 : Nat) [])]) []) (by kernel_rfl) ((rfl).trans (show (Out.val (V.tup [V.t T.nilp, V.t (T.seq (3 : Nat) [])]) []) = Out.val (outP (readE (n + (1 : Nat)) (x :: r))) [] by simp [readE, outP, exs, sl, E.tp, E.tab, *]))
          · let t7 : Tp pr := .b (show (decide (x.num ≥ (0 : Int)) && decide (x.num ≤ (999999999 : Int))) = false by simpa using hc7)
            exact .tpe [t0, .b (rfl : false = false), t2, t3, t4, t5, t6, t7, .b (rfl : true = true)] (Out.val (V.tup [V.t T.nilp, V.t (T.seq (3 : Nat) [])]) []) (by kernel_rfl) ((rfl).trans (show (Out.val (V.tup [V.t T.nilp, V.t (T.seq (3 : Nat) [])]) []) = Out.val (outP (readE (n + (1 : Nat)) (x :: r))) [] by simp [readE, outP, exs, sl, E.tp, E.tab, *]))
        · let t5 : Tp pr := .b (show (decide (x.kind = (1 : Int))) = false by simpa using hc5)
          by_cases hc6 : x.kind = (2 : Int)
          · let t6 : Tp pr := .b (show (decide (x.kind = (2 : Int))) = true by simpa using hc6)
            by_cases hc7 : x.num = (0 : Int)
            · let t7 : Tp pr := .b (show (decide (x.num = (0 : Int))) = true by simpa using hc7)
              by_cases hc9 : nameOk x.text = false
              · let t9 : Tp pr := .b (show (!nameOk x.text) = true by simpa using hc9)
                exact .tpe [t0, .b (rfl : false = false), t2, t3, t4, t5, t6, t7, .a (nameOk_ev (x.text) (by assumption)), t9] (Out.val (V.tup [V.t T.nilp, V.t (T.seq (3 : Nat) [])]) []) (by kernel_rfl) ((rfl).trans (show (Out.val (V.tup [V.t T.nilp, V.t (T.seq (3 : Nat) [])]) []) = Out.val (outP (readE (n + (1 : Nat)) (x :: r))) [] by simp [readE, outP, exs, sl, E.tp, E.tab, *]))
              · let t9 : Tp pr := .b (show (!nameOk x.text) = false by simpa using hc9)
                exact .tpe [t0, .b (rfl : false = false), t2, t3, t4, t5, t6, t7, .a (nameOk_ev (x.text) (by assumption)), t9] (Out.val (V.tup [V.t (T.ptr [T.int IntKind.i64 x.kind, T.int IntKind.i64 x.num, T.str x.text, T.nilp, T.nilp] (0 : Nat)), V.t (T.seq (3 : Nat) (List.map Ex.ce r))]) []) (by kernel_rfl) (((congrArg (fun x_1 => Out.val (V.tup [V.t (T.ptr [T.int IntKind.i64 x_1, T.int IntKind.i64 x.num, T.str x.text, T.nilp, T.nilp] (0 : Nat)), V.t (T.seq (3 : Nat) (List.map Ex.ce r))]) []) (show (x.kind) = ((2 : Int)) by assumption)).trans (congrArg (fun x_1 => Out.val (V.tup [V.t (T.ptr [T.int IntKind.i64 (2 : Int), T.int IntKind.i64 x_1, T.str x.text, T.nilp, T.nilp] (0 : Nat)), V.t (T.seq (3 : Nat) (List.map Ex.ce r))]) []) (show (x.num) = ((0 : Int)) by assumption))).trans (show (Out.val (V.tup [V.t (T.ptr [T.int IntKind.i64 (2 : Int), T.int IntKind.i64 (0 : Int), T.str x.text, T.nilp, T.nilp] (0 : Nat)), V.t (T.seq (3 : Nat) (List.map Ex.ce r))]) []) = Out.val (outP (readE (n + (1 : Nat)) (x :: r))) [] by simp [readE, outP, exs, sl, E.tp, E.tab, *]))
            · let t7 : Tp pr := .b (show (decide (x.num = (0 : Int))) = false by simpa using hc7)
              exact .tpe [t0, .b (rfl : false = false), t2, t3, t4, t5, t6, t7, .b (rfl : true = true)] (Out.val (V.tup [V.t T.nilp, V.t (T.seq (3 : Nat) [])]) []) (by kernel_rfl) ((rfl).trans (show (Out.val (V.tup [V.t T.nilp, V.t (T.seq (3 : Nat) [])]) []) = Out.val (outP (readE (n + (1 : Nat)) (x :: r))) [] by simp [readE, outP, exs, sl, E.tp, E.tab, *]))
          · let t6 : Tp pr := .b (show (decide (x.kind = (2 : Int))) = false by simpa using hc6)
            by_cases hc7 : x.kind = (3 : Int)
            · let t7 : Tp pr := .b (show (decide (x.kind = (3 : Int))) = true by simpa using hc7)
              let t8 : Tp pr := .b (show (decide (x.kind = (3 : Int))) = true by (simp; omega))
              by_cases hc11 : x.num = (0 : Int)
              · let t11 : Tp pr := .b (show (decide (x.num = (0 : Int))) = true by simpa using hc11)
                by_cases hc12 : x.text = e0
                · let t12 : Tp pr := .b (show (!x.text.toList == []) = false by simpa using hc12)
                  exact .tpe [t0, .b (rfl : false = false), t2, t3, t4, t5, t6, t7, t8, .a (ih1), .b (rfl : true = true), t11, t12] (Out.val (V.tup [V.t (T.ptr [T.int IntKind.i64 x.kind, T.int IntKind.i64 x.num, T.str x.text, T.ptr [T.int IntKind.i64 a.kind, T.int IntKind.i64 a.nm, T.str a.text, a.tab.fst, a.tab.snd] (0 : Nat), T.nilp] (0 : Nat)), V.t (T.seq (3 : Nat) (List.map Ex.ce r1))]) []) (by kernel_rfl) ((((congrArg (fun x_1 => Out.val (V.tup [V.t (T.ptr [T.int IntKind.i64 x_1, T.int IntKind.i64 x.num, T.str x.text, T.ptr [T.int IntKind.i64 a.kind, T.int IntKind.i64 a.nm, T.str a.text, a.tab.fst, a.tab.snd] (0 : Nat), T.nilp] (0 : Nat)), V.t (T.seq (3 : Nat) (List.map Ex.ce r1))]) []) (show (x.kind) = ((3 : Int)) by assumption)).trans (congrArg (fun x_1 => Out.val (V.tup [V.t (T.ptr [T.int IntKind.i64 (3 : Int), T.int IntKind.i64 x_1, T.str x.text, T.ptr [T.int IntKind.i64 a.kind, T.int IntKind.i64 a.nm, T.str a.text, a.tab.fst, a.tab.snd] (0 : Nat), T.nilp] (0 : Nat)), V.t (T.seq (3 : Nat) (List.map Ex.ce r1))]) []) (show (x.num) = ((0 : Int)) by assumption))).trans (congrArg (fun x => Out.val (V.tup [V.t (T.ptr [T.int IntKind.i64 (3 : Int), T.int IntKind.i64 (0 : Int), T.str x, T.ptr [T.int IntKind.i64 a.kind, T.int IntKind.i64 a.nm, T.str a.text, a.tab.fst, a.tab.snd] (0 : Nat), T.nilp] (0 : Nat)), V.t (T.seq (3 : Nat) (List.map Ex.ce r1))]) []) (show (x.text) = (ByteArray.mk #[]) by assumption))).trans (show (Out.val (V.tup [V.t (T.ptr [T.int IntKind.i64 (3 : Int), T.int IntKind.i64 (0 : Int), T.str (ByteArray.mk #[]), T.ptr [T.int IntKind.i64 a.kind, T.int IntKind.i64 a.nm, T.str a.text, a.tab.fst, a.tab.snd] (0 : Nat), T.nilp] (0 : Nat)), V.t (T.seq (3 : Nat) (List.map Ex.ce r1))]) []) = Out.val (outP (readE (n + (1 : Nat)) (x :: r))) [] by simp [readE, outP, exs, sl, E.tp, E.tab, *]))
                · let t12 : Tp pr := .b (show (!x.text.toList == []) = true by simpa using hc12)
                  exact .tpe [t0, .b (rfl : false = false), t2, t3, t4, t5, t6, t7, t8, .a (ih1), .b (rfl : true = true), t11, t12] (Out.val (V.tup [V.t T.nilp, V.t (T.seq (3 : Nat) [])]) []) (by kernel_rfl) ((rfl).trans (show (Out.val (V.tup [V.t T.nilp, V.t (T.seq (3 : Nat) [])]) []) = Out.val (outP (readE (n + (1 : Nat)) (x :: r))) [] by simp [readE, outP, exs, sl, E.tp, E.tab, *]))
              · let t11 : Tp pr := .b (show (decide (x.num = (0 : Int))) = false by simpa using hc11)
                exact .tpe [t0, .b (rfl : false = false), t2, t3, t4, t5, t6, t7, t8, .a (ih1), .b (rfl : true = true), t11, .b (rfl : true = true)] (Out.val (V.tup [V.t T.nilp, V.t (T.seq (3 : Nat) [])]) []) (by kernel_rfl) ((rfl).trans (show (Out.val (V.tup [V.t T.nilp, V.t (T.seq (3 : Nat) [])]) []) = Out.val (outP (readE (n + (1 : Nat)) (x :: r))) [] by simp [readE, outP, exs, sl, E.tp, E.tab, *]))
            · let t7 : Tp pr := .b (show (decide (x.kind = (3 : Int))) = false by simpa using hc7)
              by_cases hc8 : x.kind = (4 : Int)
              · let t8 : Tp pr := .b (show (decide (x.kind = (4 : Int))) = true by simpa using hc8)
                by_cases hc11 : x.num = (0 : Int)
                · let t11 : Tp pr := .b (show (decide (x.num = (0 : Int))) = true by simpa using hc11)
                  by_cases hc12 : x.text = e0
                  · let t12 : Tp pr := .b (show (!x.text.toList == []) = false by simpa using hc12)
                    exact .tpe [t0, .b (rfl : false = false), t2, t3, t4, t5, t6, t7, t8, .a (ih1), .b (rfl : true = true), t11, t12] (Out.val (V.tup [V.t (T.ptr [T.int IntKind.i64 x.kind, T.int IntKind.i64 x.num, T.str x.text, T.ptr [T.int IntKind.i64 a.kind, T.int IntKind.i64 a.nm, T.str a.text, a.tab.fst, a.tab.snd] (0 : Nat), T.nilp] (0 : Nat)), V.t (T.seq (3 : Nat) (List.map Ex.ce r1))]) []) (by kernel_rfl) ((((congrArg (fun x_1 => Out.val (V.tup [V.t (T.ptr [T.int IntKind.i64 x_1, T.int IntKind.i64 x.num, T.str x.text, T.ptr [T.int IntKind.i64 a.kind, T.int IntKind.i64 a.nm, T.str a.text, a.tab.fst, a.tab.snd] (0 : Nat), T.nilp] (0 : Nat)), V.t (T.seq (3 : Nat) (List.map Ex.ce r1))]) []) (show (x.kind) = ((4 : Int)) by assumption)).trans (congrArg (fun x_1 => Out.val (V.tup [V.t (T.ptr [T.int IntKind.i64 (4 : Int), T.int IntKind.i64 x_1, T.str x.text, T.ptr [T.int IntKind.i64 a.kind, T.int IntKind.i64 a.nm, T.str a.text, a.tab.fst, a.tab.snd] (0 : Nat), T.nilp] (0 : Nat)), V.t (T.seq (3 : Nat) (List.map Ex.ce r1))]) []) (show (x.num) = ((0 : Int)) by assumption))).trans (congrArg (fun x => Out.val (V.tup [V.t (T.ptr [T.int IntKind.i64 (4 : Int), T.int IntKind.i64 (0 : Int), T.str x, T.ptr [T.int IntKind.i64 a.kind, T.int IntKind.i64 a.nm, T.str a.text, a.tab.fst, a.tab.snd] (0 : Nat), T.nilp] (0 : Nat)), V.t (T.seq (3 : Nat) (List.map Ex.ce r1))]) []) (show (x.text) = (ByteArray.mk #[]) by assumption))).trans (show (Out.val (V.tup [V.t (T.ptr [T.int IntKind.i64 (4 : Int), T.int IntKind.i64 (0 : Int), T.str (ByteArray.mk #[]), T.ptr [T.int IntKind.i64 a.kind, T.int IntKind.i64 a.nm, T.str a.text, a.tab.fst, a.tab.snd] (0 : Nat), T.nilp] (0 : Nat)), V.t (T.seq (3 : Nat) (List.map Ex.ce r1))]) []) = Out.val (outP (readE (n + (1 : Nat)) (x :: r))) [] by simp [readE, outP, exs, sl, E.tp, E.tab, *]))
                  · let t12 : Tp pr := .b (show (!x.text.toList == []) = true by simpa using hc12)
                    exact .tpe [t0, .b (rfl : false = false), t2, t3, t4, t5, t6, t7, t8, .a (ih1), .b (rfl : true = true), t11, t12] (Out.val (V.tup [V.t T.nilp, V.t (T.seq (3 : Nat) [])]) []) (by kernel_rfl) ((rfl).trans (show (Out.val (V.tup [V.t T.nilp, V.t (T.seq (3 : Nat) [])]) []) = Out.val (outP (readE (n + (1 : Nat)) (x :: r))) [] by simp [readE, outP, exs, sl, E.tp, E.tab, *]))
                · let t11 : Tp pr := .b (show (decide (x.num = (0 : Int))) = false by simpa using hc11)
                  exact .tpe [t0, .b (rfl : false = false), t2, t3, t4, t5, t6, t7, t8, .a (ih1), .b (rfl : true = true), t11, .b (rfl : true = true)] (Out.val (V.tup [V.t T.nilp, V.t (T.seq (3 : Nat) [])]) []) (by kernel_rfl) ((rfl).trans (show (Out.val (V.tup [V.t T.nilp, V.t (T.seq (3 : Nat) [])]) []) = Out.val (outP (readE (n + (1 : Nat)) (x :: r))) [] by simp [readE, outP, exs, sl, E.tp, E.tab, *]))
              · let t8 : Tp pr := .b (show (decide (x.kind = (4 : Int))) = false by simpa using hc8)
                by_cases hc9 : x.kind = (5 : Int)
                · let t9 : Tp pr := .b (show (decide (x.kind = (5 : Int))) = true by simpa using hc9)
                  by_cases hc15 : strength x.text.toList = (0 : Int)
                  · let t15 : Tp pr := .b (show (strength x.text.toList != (0 : Int)) = false by simpa using hc15)
                    exact .tpe [t0, .b (rfl : false = false), t2, t3, t4, t5, t6, t7, t8, t9, .a (ih1), .b (rfl : false = false), .a (ih2), .a (StrengthOf_ev (x.text)), .b (rfl : true = true), t15, .b (rfl : true = true)] (Out.val (V.tup [V.t T.nilp, V.t (T.seq (3 : Nat) [])]) []) (by kernel_rfl) ((rfl).trans (show (Out.val (V.tup [V.t T.nilp, V.t (T.seq (3 : Nat) [])]) []) = Out.val (outP (readE (n + (1 : Nat)) (x :: r))) [] by simp [readE, outP, exs, sl, E.tp, E.tab, *]))
                  · let t15 : Tp pr := .b (show (strength x.text.toList != (0 : Int)) = true by simpa using hc15)
                    by_cases hc16 : x.num = (0 : Int)
                    · let t16 : Tp pr := .b (show (!decide (x.num = (0 : Int))) = false by simpa using hc16)
                      exact .tpe [t0, .b (rfl : false = false), t2, t3, t4, t5, t6, t7, t8, t9, .a (ih1), .b (rfl : false = false), .a (ih2), .a (StrengthOf_ev (x.text)), .b (rfl : true = true), t15, t16] (Out.val (V.tup [V.t (T.ptr [T.int IntKind.i64 x.kind, T.int IntKind.i64 x.num, T.str x.text, T.ptr [T.int IntKind.i64 a.kind, T.int IntKind.i64 a.nm, T.str a.text, a.tab.fst, a.tab.snd] (0 : Nat), T.ptr [T.int IntKind.i64 b.kind, T.int IntKind.i64 b.nm, T.str b.text, b.tab.fst, b.tab.snd] (0 : Nat)] (0 : Nat)), V.t (T.seq (3 : Nat) (List.map Ex.ce r2))]) []) (by kernel_rfl) (((congrArg (fun x_1 => Out.val (V.tup [V.t (T.ptr [T.int IntKind.i64 x_1, T.int IntKind.i64 x.num, T.str x.text, T.ptr [T.int IntKind.i64 a.kind, T.int IntKind.i64 a.nm, T.str a.text, a.tab.fst, a.tab.snd] (0 : Nat), T.ptr [T.int IntKind.i64 b.kind, T.int IntKind.i64 b.nm, T.str b.text, b.tab.fst, b.tab.snd] (0 : Nat)] (0 : Nat)), V.t (T.seq (3 : Nat) (List.map Ex.ce r2))]) []) (show (x.kind) = ((5 : Int)) by assumption)).trans (congrArg (fun x_1 => Out.val (V.tup [V.t (T.ptr [T.int IntKind.i64 (5 : Int), T.int IntKind.i64 x_1, T.str x.text, T.ptr [T.int IntKind.i64 a.kind, T.int IntKind.i64 a.nm, T.str a.text, a.tab.fst, a.tab.snd] (0 : Nat), T.ptr [T.int IntKind.i64 b.kind, T.int IntKind.i64 b.nm, T.str b.text, b.tab.fst, b.tab.snd] (0 : Nat)] (0 : Nat)), V.t (T.seq (3 : Nat) (List.map Ex.ce r2))]) []) (show (x.num) = ((0 : Int)) by assumption))).trans (show (Out.val (V.tup [V.t (T.ptr [T.int IntKind.i64 (5 : Int), T.int IntKind.i64 (0 : Int), T.str x.text, T.ptr [T.int IntKind.i64 a.kind, T.int IntKind.i64 a.nm, T.str a.text, a.tab.fst, a.tab.snd] (0 : Nat), T.ptr [T.int IntKind.i64 b.kind, T.int IntKind.i64 b.nm, T.str b.text, b.tab.fst, b.tab.snd] (0 : Nat)] (0 : Nat)), V.t (T.seq (3 : Nat) (List.map Ex.ce r2))]) []) = Out.val (outP (readE (n + (1 : Nat)) (x :: r))) [] by simp [readE, outP, exs, sl, E.tp, E.tab, *]))
                    · let t16 : Tp pr := .b (show (!decide (x.num = (0 : Int))) = true by simpa using hc16)
                      exact .tpe [t0, .b (rfl : false = false), t2, t3, t4, t5, t6, t7, t8, t9, .a (ih1), .b (rfl : false = false), .a (ih2), .a (StrengthOf_ev (x.text)), .b (rfl : true = true), t15, t16] (Out.val (V.tup [V.t T.nilp, V.t (T.seq (3 : Nat) [])]) []) (by kernel_rfl) ((rfl).trans (show (Out.val (V.tup [V.t T.nilp, V.t (T.seq (3 : Nat) [])]) []) = Out.val (outP (readE (n + (1 : Nat)) (x :: r))) [] by simp [readE, outP, exs, sl, E.tp, E.tab, *]))
                · let t9 : Tp pr := .b (show (decide (x.kind = (5 : Int))) = false by simpa using hc9)
                  exact .tpe [t0, .b (rfl : false = false), t2, t3, t4, t5, t6, t7, t8, t9, .b (rfl : true = true)] (Out.val (V.tup [V.t T.nilp, V.t (T.seq (3 : Nat) [])]) []) (by kernel_rfl) ((rfl).trans (show (Out.val (V.tup [V.t T.nilp, V.t (T.seq (3 : Nat) [])]) []) = Out.val (outP (readE (n + (1 : Nat)) (x :: r))) [] by simp [readE, outP, exs, sl, E.tp, E.tab, *]))
end Go.Ev

/- Expressions: how they are read by the reference. -/
namespace Go.Ev
set_option linter.unusedVariables false
set_option linter.unusedSimpArgs false
open Go.Proofs
set_option maxRecDepth 100000
set_option linter.unusedVariables false
set_option maxHeartbeats 1000000
def rdObs (k nm : Int) (tx : ByteArray) (ks : List (List T)) : List Ob := [Ob.box [i64 0, i64 0, V.t (T.str (ByteArray.mk #[])), V.t T.nils], Ob.box [i64 k, i64 nm, V.t (T.str tx), V.vec 2 ks.length 4 0 ks.length], Ob.vec true 4 (ks.map tc)]
theorem rdL0_ev (l : List Ex) (i k nm : Int) (tx : ByteArray) (ks : List (List T)) : Ev pr (.loop (lq pr 78 0) (at_ [(0, exs l), (1, i64 i), (4, V.ptr 0 1 0 0), (7, V.ptr 1 1 0 0), (8, i64 0)] (rdObs k nm tx ks) 0))
    (.exit 1 (at_ [(1, i64 i), (4, V.ptr 0 1 0 0), (7, V.ptr 1 1 0 0)] (rdObs k nm tx ks) 0)) := by
  exact .tp [.b (rfl : false = false)] (by kernel_rfl)
def rdL1o (l : List Ex) (k nm : Int) (tx : ByteArray) (ks : List (List T)) : Option (E × List Ex) → Out
  | some (a, r1) => .exit 1 (at_ [(1, i64 (l.length - r1.length)), (4, V.ptr 0 1 0 0), (7, V.ptr 1 1 0 0)] (rdObs k nm tx (ks ++ [a.ts])) 0)
  | none => .ret (at_ [(4, V.ptr 0 1 0 0), (5, i64 0)] [Ob.box [i64 0, i64 0, V.t (T.str (ByteArray.mk #[])), V.t T.nils]] 0)
theorem rdL1_ev (l : List Ex) (i k nm : Int) (tx : ByteArray) (ks : List (List T)) (hk : ks.length ≤ 2) (res : Option (E × List Ex)) (h0 : ∀ a r, res = some (a, r) → r.length < l.length)
    (hr : Ev pr (.call 78 [exs l, i64 i] []) (.val (outS l.length res) [])) :
    Ev pr (.loop (lq pr 78 0) (at_ [(0, exs l), (1, i64 i), (4, V.ptr 0 1 0 0), (7, V.ptr 1 1 0 0), (8, i64 1)] (rdObs k nm tx ks) 0)) (rdL1o l k nm tx ks res) := by
  cases res with
  | none => exact .tp [.b (rfl : true = true), .a (hr), .b (rfl : true = true)] (by kernel_rfl)
  | some p =>
    obtain ⟨a, r1⟩ := p
    have := h0 a r1 rfl
    let t2 : Tp pr := .b (show (decide ((↑l.length : Int) - (↑r1.length : Int) = (0 : Int))) = false by (simp; omega))
    let t4 : Tp pr := .m (show (decide ((List.map tc ks).length = ks.length ∧ (0 : Nat) + ks.length ≤ ks.length ∧ ks.length + (1 : Nat) ≤ (4294967296 : Nat))) = true by (simp; omega))
    let t5 : Tp pr := .b (show (decide (ks.length + (1 : Nat) ≤ ks.length)) = false by simp)
    let t7 : Tp pr := .n .crows (show ((List.take ks.length (List.map tc ks)).append (List.take (1 : Nat) (List.drop (0 : Nat) [[C.t (T.int IntKind.i64 a.kind), C.t (T.int IntKind.i64 a.nm), C.t (T.str a.text), C.t (T.seq (4 : Nat) a.kids)]]))) = List.map tc ks ++ [[C.t (T.int IntKind.i64 a.kind), C.t (T.int IntKind.i64 a.nm), C.t (T.str a.text), C.t (T.seq (4 : Nat) a.kids)]] by simp)
    let t8 : Tp pr := .i (rfl : ((0 : Int) : Int) = (0 : Int))
    let t9 : Tp pr := .a (Ev.castq ((congrArg (fun x => Q.loop (lq pr (78 : FuncId) (0 : Nat)) (at_ [((0 : Nat), V.t (T.seq (3 : Nat) (List.map Ex.ce l))), ((1 : Nat), V.t (T.int IntKind.i64 ((↑l.length : Int) - (↑r1.length : Int)))), ((4 : Nat), V.ptr (0 : Nat) (1 : Nat) (0 : Nat) (0 : Nat)), ((7 : Nat), V.ptr (1 : Nat) (1 : Nat) (0 : Nat) (0 : Nat)), ((8 : Nat), V.t (T.int IntKind.i64 (0 : Int)))] [Ob.box [V.t (T.int IntKind.i64 (0 : Int)), V.t (T.int IntKind.i64 (0 : Int)), V.t (T.str (ByteArray.mk #[])), V.t T.nils], Ob.box [V.t (T.int IntKind.i64 k), V.t (T.int IntKind.i64 nm), V.t (T.str tx), V.vec (2 : Nat) (ks ++ [a.ts]).length (4 : Nat) (0 : Nat) (ks ++ [a.ts]).length], Ob.vec true (4 : Nat) x] (0 : Nat))) (show (List.map tc (ks ++ [a.ts])) = ((List.map tc ks).append [[C.t (T.int IntKind.i64 a.kind), C.t (T.int IntKind.i64 a.nm), C.t (T.str a.text), C.t (T.seq (4 : Nat) a.kids)]]) by simp [E.ts, tc])).trans (congrArg (fun x => Q.loop (lq pr (78 : FuncId) (0 : Nat)) (at_ [((0 : Nat), V.t (T.seq (3 : Nat) (List.map Ex.ce l))), ((1 : Nat), V.t (T.int IntKind.i64 ((↑l.length : Int) - (↑r1.length : Int)))), ((4 : Nat), V.ptr (0 : Nat) (1 : Nat) (0 : Nat) (0 : Nat)), ((7 : Nat), V.ptr (1 : Nat) (1 : Nat) (0 : Nat) (0 : Nat)), ((8 : Nat), V.t (T.int IntKind.i64 (0 : Int)))] [Ob.box [V.t (T.int IntKind.i64 (0 : Int)), V.t (T.int IntKind.i64 (0 : Int)), V.t (T.str (ByteArray.mk #[])), V.t T.nils], Ob.box [V.t (T.int IntKind.i64 k), V.t (T.int IntKind.i64 nm), V.t (T.str tx), V.vec (2 : Nat) x (4 : Nat) (0 : Nat) x], Ob.vec true (4 : Nat) ((List.map tc ks).append [[C.t (T.int IntKind.i64 a.kind), C.t (T.int IntKind.i64 a.nm), C.t (T.str a.text), C.t (T.seq (4 : Nat) a.kids)]])] (0 : Nat))) (show ((ks ++ [a.ts]).length) = (ks.length + (1 : Nat)) by simp [E.ts, tc]))) ((rdL0_ev l _ k nm tx (ks ++ [a.ts]))))
    exact .tp [.b (rfl : true = true), .a (hr), t2, .m (rfl : true = true), t4, t5, .c (rfl : (ks.length + (1 : Nat)) = _), t7, t8, t9] (by kernel_rfl)
def rdL2o (l : List Ex) (k nm : Int) (tx : ByteArray) (res2 : List Ex → Option (E × List Ex)) : Option (E × List Ex) → Out
  | some (a, r1) => rdL1o l k nm tx [a.ts] (res2 r1)
  | none => rdL1o l k nm tx [] none
theorem rdL2_ev (l : List Ex) (i k nm : Int) (tx : ByteArray) (res : Option (E × List Ex)) (res2 : List Ex → Option (E × List Ex)) (h0 : ∀ a r, res = some (a, r) → r.length < l.length) (h1 : ∀ b a r r2, res = some (b, r) → res2 r = some (a, r2) → r2.length < l.length)
    (hr : Ev pr (.call 78 [exs l, i64 i] []) (.val (outS l.length res) []))
    (hr2 : ∀ a r, res = some (a, r) → Ev pr (.call 78 [exs l, i64 (l.length - r.length)] []) (.val (outS l.length (res2 r)) [])) :
    Ev pr (.loop (lq pr 78 0) (at_ [(0, exs l), (1, i64 i), (4, V.ptr 0 1 0 0), (7, V.ptr 1 1 0 0), (8, i64 2)] (rdObs k nm tx []) 0))
      (rdL2o l k nm tx res2 res) := by
  cases res with
  | none => exact .tp [.b (rfl : true = true), .a (hr), .b (rfl : true = true)] (by kernel_rfl)
  | some p =>
    obtain ⟨a, r1⟩ := p
    have := h0 a r1 rfl
    have h2 := hr2 a r1 rfl
    have h3 := rdL1_ev l _ k nm tx [a.ts] (by simp) (res2 r1) (fun b r hb => h1 a b r1 r rfl hb) h2
    cases h4 : res2 r1 with
    | none => rw [h4] at h3; simp only [rdL2o, h4]; (
      let t2 : Tp pr := .b (show (decide ((↑l.length : Int) - (↑r1.length : Int) = (0 : Int))) = false by (simp; omega))
      let t7 : Tp pr := .n .crows (show ([].append (List.take (1 : Nat) (List.drop (0 : Nat) [[C.t (T.int IntKind.i64 a.kind), C.t (T.int IntKind.i64 a.nm), C.t (T.str a.text), C.t (T.seq (4 : Nat) a.kids)]]))) = [[C.t (T.int IntKind.i64 a.kind), C.t (T.int IntKind.i64 a.nm), C.t (T.str a.text), C.t (T.seq (4 : Nat) a.kids)]] by simp)
      let t8 : Tp pr := .i (rfl : ((1 : Int) : Int) = (1 : Int))
      exact .tp [.b (rfl : true = true), .a (hr), t2, .m (rfl : true = true), .m (rfl : true = true), .b (rfl : false = false), .c (rfl : ((1 : Nat)) = _), t7, t8, .a (h3)] (by kernel_rfl))
    | some q => 
      obtain ⟨b, r2⟩ := q
      rw [h4] at h3; simp only [rdL2o, h4]; (
        let t2 : Tp pr := .b (show (decide ((↑l.length : Int) - (↑r1.length : Int) = (0 : Int))) = false by (simp; omega))
        let t7 : Tp pr := .n .crows (show ([].append (List.take (1 : Nat) (List.drop (0 : Nat) [[C.t (T.int IntKind.i64 a.kind), C.t (T.int IntKind.i64 a.nm), C.t (T.str a.text), C.t (T.seq (4 : Nat) a.kids)]]))) = [[C.t (T.int IntKind.i64 a.kind), C.t (T.int IntKind.i64 a.nm), C.t (T.str a.text), C.t (T.seq (4 : Nat) a.kids)]] by simp)
        let t8 : Tp pr := .i (rfl : ((1 : Int) : Int) = (1 : Int))
        exact .tp [.b (rfl : true = true), .a (hr), t2, .m (rfl : true = true), .m (rfl : true = true), .b (rfl : false = false), .c (rfl : ((1 : Nat)) = _), t7, t8, .a (h3)] (by kernel_rfl))
theorem l2Read_ev (l : List Ex) (hl : l.length ≤ 1048576) (hs : ∀ x ∈ l, x.text.size ≤ 9223372036854775807) : ∀ (n : Nat) (rest done : List Ex) (i : Int), l = done ++ rest → i = done.length → rest.length ≤ n →
    Ev pr (.call 78 [exs l, i64 i] []) (.val (outS l.length (readE n rest)) [])
  | 0, rest, done, i, h, hi, hn => by
    have : rest = [] := List.length_eq_zero_iff.1 (by omega)
    subst this
    have hll : l.length = done.length := by simp [h]
    let t0 : Tp pr := .i (show ((↑(List.map Ex.ce l).length : Int) : Int) = (↑l.length : Int) by simp)
    let t1 : Tp pr := .b (show (decide (i ≥ (↑l.length : Int))) = true by (simp; omega))
    exact .tp [t0, t1] (by kernel_rfl)
  | n + 1, [], done, i, h, hi, hn => by
    have hll : l.length = done.length := by simp [h]
    let t0 : Tp pr := .i (show ((↑(List.map Ex.ce l).length : Int) : Int) = (↑l.length : Int) by simp)
    let t1 : Tp pr := .b (show (decide (i ≥ (↑l.length : Int))) = true by (simp; omega))
    exact .tp [t0, t1] (by kernel_rfl)
  | n + 1, x :: r, done, i, h, hi, hn => by
    have hx := hs x (by simp [h])
    have hll : l.length = done.length + 1 + r.length := by simp [h]; omega
    have hg : lkp (l.map Ex.ce) i = some x.ce := by subst hi; subst h; simp
    simp at hn
    have ih1 := l2Read_ev l hl hs n r (done ++ [x]) (i + 1) (by simp [h]) (by simp [hi]) (by omega)
    have hlt : ∀ (a : E) (r1 : List Ex), readE n r = some (a, r1) → r1.length < l.length := fun a r1 h1 => by
      have := readE_lt _ _ _ _ h1; omega
    have k0 := rdL0_ev l (i + 1) x.kind x.num x.text []
    have k1 := rdL1_ev l (i + 1) x.kind x.num x.text [] (by simp) (readE n r) hlt ih1
    have k2 := rdL2_ev l (i + 1) x.kind x.num x.text (readE n r) (readE n) hlt (fun b a r1 r2 h1 h2 => by
      have := hlt b r1 h1; have := readE_lt _ _ _ _ h2; omega) ih1 (fun a r1 h1 => by
        obtain ⟨d, hd⟩ := readE_suf _ _ _ _ h1
        have e : (done ++ x :: d).length = l.length - r1.length := by
          have := congrArg List.length hd
          simp at this
          simp; omega
        exact l2Read_ev l hl hs n r1 (done ++ x :: d) _ (by simp [h, ← hd]) (by rw [e]; have := hlt a r1 h1; omega) (by have := readE_lt _ _ _ _ h1; omega))
    cases h1 : readE n r with
    | none =>
      rw [h1] at ih1 k1 k2
      let t0 : Tp pr := .i (show ((↑(List.map Ex.ce l).length : Int) : Int) = (↑l.length : Int) by simp)
      let t1 : Tp pr := .b (show (decide (i ≥ (↑l.length : Int))) = false by (simp; omega))
      let t2 : Tp pr := .g .row (show (lkp (List.map Ex.ce l) i) = some (x.ce) from hg)
      by_cases hc3 : x.kind = (1 : Int)
      · let t3 : Tp pr := .b (show (decide (x.kind = (1 : Int))) = true by simpa using hc3)
        let t4 : Tp pr := .a (l1In_ev (x.num) ((0 : Int)) ((999999999 : Int)))
        by_cases hc5 : (0 : Int) ≤ x.num ∧ x.num ≤ (999999999 : Int)
        · let t5 : Tp pr := .b (show (decide (x.num ≥ (0 : Int)) && decide (x.num ≤ (999999999 : Int))) = true by simpa using hc5)
          by_cases hc6 : x.text = e0
          · let t6 : Tp pr := .b (show (!x.text.toList == []) = false by simpa using hc6)
            let t7 : Tp pr := .i (wrap_i64 (a := i + (1 : Int)) (by omega) (by omega))
            exact .tpe [t0, t1, t2, t3, t4, t5, t6, t7, .a (k0), .m (rfl : true = true), .n .rows (rfl : ([]) = _)] (Out.val (V.tup [V.agg [V.t (T.int IntKind.i64 x.kind), V.t (T.int IntKind.i64 x.num), V.t (T.str x.text), V.t (T.seq (4 : Nat) [])], V.t (T.int IntKind.i64 (i + (1 : Int)))]) []) (by kernel_rfl) ((((congrArg (fun x_1 => Out.val (V.tup [V.agg [V.t (T.int IntKind.i64 x_1), V.t (T.int IntKind.i64 x.num), V.t (T.str x.text), V.t (T.seq (4 : Nat) [])], V.t (T.int IntKind.i64 (i + (1 : Int)))]) []) (show (x.kind) = ((1 : Int)) by assumption)).trans (congrArg (fun x_1 => Out.val (V.tup [V.agg [V.t (T.int IntKind.i64 (1 : Int)), V.t (T.int IntKind.i64 x.num), V.t (T.str x_1), V.t (T.seq (4 : Nat) [])], V.t (T.int IntKind.i64 (i + (1 : Int)))]) []) (show (x.text) = (ByteArray.mk #[]) by assumption))).trans (congrArg (fun x_1 => Out.val (V.tup [V.agg [V.t (T.int IntKind.i64 (1 : Int)), V.t (T.int IntKind.i64 x.num), V.t (T.str (ByteArray.mk #[])), V.t (T.seq (4 : Nat) [])], V.t (T.int IntKind.i64 x_1)]) []) (show (i + (1 : Int)) = ((↑done.length : Int) + ((↑r.length : Int) + (1 : Int)) - (↑r.length : Int)) by omega))).trans (show (Out.val (V.tup [V.agg [V.t (T.int IntKind.i64 (1 : Int)), V.t (T.int IntKind.i64 x.num), V.t (T.str (ByteArray.mk #[])), V.t (T.seq (4 : Nat) [])], V.t (T.int IntKind.i64 ((↑done.length : Int) + ((↑r.length : Int) + (1 : Int)) - (↑r.length : Int)))]) []) = Out.val (outS l.length (readE (n + (1 : Nat)) (x :: r))) [] by simp [readE, outS, vs, E.ts, E.kids, *]))
          · let t6 : Tp pr := .b (show (!x.text.toList == []) = true by simpa using hc6)
            exact .tpe [t0, t1, t2, t3, t4, t5, t6] (Out.val (V.tup [V.agg [V.t (T.int IntKind.i64 (0 : Int)), V.t (T.int IntKind.i64 (0 : Int)), V.t (T.str (ByteArray.mk #[])), V.t (T.seq (4 : Nat) [])], V.t (T.int IntKind.i64 (0 : Int))]) []) (by kernel_rfl) ((rfl).trans (show (Out.val (V.tup [V.agg [V.t (T.int IntKind.i64 (0 : Int)), V.t (T.int IntKind.i64 (0 : Int)), V.t (T.str (ByteArray.mk #[])), V.t (T.seq (4 : Nat) [])], V.t (T.int IntKind.i64 (0 : Int))]) []) = Out.val (outS l.length (readE (n + (1 : Nat)) (x :: r))) [] by simp [readE, outS, vs, E.ts, E.kids, *]))
        · let t5 : Tp pr := .b (show (decide (x.num ≥ (0 : Int)) && decide (x.num ≤ (999999999 : Int))) = false by simpa using hc5)
          exact .tpe [t0, t1, t2, t3, t4, t5, .b (rfl : true = true)] (Out.val (V.tup [V.agg [V.t (T.int IntKind.i64 (0 : Int)), V.t (T.int IntKind.i64 (0 : Int)), V.t (T.str (ByteArray.mk #[])), V.t (T.seq (4 : Nat) [])], V.t (T.int IntKind.i64 (0 : Int))]) []) (by kernel_rfl) ((rfl).trans (show (Out.val (V.tup [V.agg [V.t (T.int IntKind.i64 (0 : Int)), V.t (T.int IntKind.i64 (0 : Int)), V.t (T.str (ByteArray.mk #[])), V.t (T.seq (4 : Nat) [])], V.t (T.int IntKind.i64 (0 : Int))]) []) = Out.val (outS l.length (readE (n + (1 : Nat)) (x :: r))) [] by simp [readE, outS, vs, E.ts, E.kids, *]))
      · let t3 : Tp pr := .b (show (decide (x.kind = (1 : Int))) = false by simpa using hc3)
        by_cases hc4 : x.kind = (2 : Int)
        · let t4 : Tp pr := .b (show (decide (x.kind = (2 : Int))) = true by simpa using hc4)
          let t5 : Tp pr := .a (GoodName_ev (x.text) (by assumption))
          by_cases hc6 : nameOk x.text = true
          · let t6 : Tp pr := .b (show (nameOk x.text) = true by simpa using hc6)
            by_cases hc7 : x.num = (0 : Int)
            · let t7 : Tp pr := .b (show (!decide (x.num = (0 : Int))) = false by simpa using hc7)
              let t8 : Tp pr := .i (wrap_i64 (a := i + (1 : Int)) (by omega) (by omega))
              exact .tpe [t0, t1, t2, t3, t4, t5, t6, t7, t8, .a (k0), .m (rfl : true = true), .n .rows (rfl : ([]) = _)] (Out.val (V.tup [V.agg [V.t (T.int IntKind.i64 x.kind), V.t (T.int IntKind.i64 x.num), V.t (T.str x.text), V.t (T.seq (4 : Nat) [])], V.t (T.int IntKind.i64 (i + (1 : Int)))]) []) (by kernel_rfl) ((((congrArg (fun x_1 => Out.val (V.tup [V.agg [V.t (T.int IntKind.i64 x_1), V.t (T.int IntKind.i64 x.num), V.t (T.str x.text), V.t (T.seq (4 : Nat) [])], V.t (T.int IntKind.i64 (i + (1 : Int)))]) []) (show (x.kind) = ((2 : Int)) by assumption)).trans (congrArg (fun x_1 => Out.val (V.tup [V.agg [V.t (T.int IntKind.i64 (2 : Int)), V.t (T.int IntKind.i64 x_1), V.t (T.str x.text), V.t (T.seq (4 : Nat) [])], V.t (T.int IntKind.i64 (i + (1 : Int)))]) []) (show (x.num) = ((0 : Int)) by assumption))).trans (congrArg (fun x_1 => Out.val (V.tup [V.agg [V.t (T.int IntKind.i64 (2 : Int)), V.t (T.int IntKind.i64 (0 : Int)), V.t (T.str x.text), V.t (T.seq (4 : Nat) [])], V.t (T.int IntKind.i64 x_1)]) []) (show (i + (1 : Int)) = ((↑done.length : Int) + ((↑r.length : Int) + (1 : Int)) - (↑r.length : Int)) by omega))).trans (show (Out.val (V.tup [V.agg [V.t (T.int IntKind.i64 (2 : Int)), V.t (T.int IntKind.i64 (0 : Int)), V.t (T.str x.text), V.t (T.seq (4 : Nat) [])], V.t (T.int IntKind.i64 ((↑done.length : Int) + ((↑r.length : Int) + (1 : Int)) - (↑r.length : Int)))]) []) = Out.val (outS l.length (readE (n + (1 : Nat)) (x :: r))) [] by simp [readE, outS, vs, E.ts, E.kids, *]))
            · let t7 : Tp pr := .b (show (!decide (x.num = (0 : Int))) = true by simpa using hc7)
              exact .tpe [t0, t1, t2, t3, t4, t5, t6, t7] (Out.val (V.tup [V.agg [V.t (T.int IntKind.i64 (0 : Int)), V.t (T.int IntKind.i64 (0 : Int)), V.t (T.str (ByteArray.mk #[])), V.t (T.seq (4 : Nat) [])], V.t (T.int IntKind.i64 (0 : Int))]) []) (by kernel_rfl) ((rfl).trans (show (Out.val (V.tup [V.agg [V.t (T.int IntKind.i64 (0 : Int)), V.t (T.int IntKind.i64 (0 : Int)), V.t (T.str (ByteArray.mk #[])), V.t (T.seq (4 : Nat) [])], V.t (T.int IntKind.i64 (0 : Int))]) []) = Out.val (outS l.length (readE (n + (1 : Nat)) (x :: r))) [] by simp [readE, outS, vs, E.ts, E.kids, *]))
          · let t6 : Tp pr := .b (show (nameOk x.text) = false by simpa using hc6)
            exact .tpe [t0, t1, t2, t3, t4, t5, t6, .b (rfl : true = true)] (Out.val (V.tup [V.agg [V.t (T.int IntKind.i64 (0 : Int)), V.t (T.int IntKind.i64 (0 : Int)), V.t (T.str (ByteArray.mk #[])), V.t (T.seq (4 : Nat) [])], V.t (T.int IntKind.i64 (0 : Int))]) []) (by kernel_rfl) ((rfl).trans (show (Out.val (V.tup [V.agg [V.t (T.int IntKind.i64 (0 : Int)), V.t (T.int IntKind.i64 (0 : Int)), V.t (T.str (ByteArray.mk #[])), V.t (T.seq (4 : Nat) [])], V.t (T.int IntKind.i64 (0 : Int))]) []) = Out.val (outS l.length (readE (n + (1 : Nat)) (x :: r))) [] by simp [readE, outS, vs, E.ts, E.kids, *]))
        · let t4 : Tp pr := .b (show (decide (x.kind = (2 : Int))) = false by simpa using hc4)
          by_cases hc5 : x.kind = (3 : Int)
          · let t5 : Tp pr := .b (show (decide (x.kind = (3 : Int))) = true by simpa using hc5)
            let t6 : Tp pr := .b (show (decide (x.kind = (3 : Int))) = true by (simp; omega))
            by_cases hc7 : x.num = (0 : Int)
            · let t7 : Tp pr := .b (show (decide (x.num = (0 : Int))) = true by simpa using hc7)
              by_cases hc8 : x.text = e0
              · let t8 : Tp pr := .b (show (!x.text.toList == []) = false by simpa using hc8)
                let t9 : Tp pr := .i (wrap_i64 (a := i + (1 : Int)) (by omega) (by omega))
                exact .tpe [t0, t1, t2, t3, t4, t5, t6, t7, t8, t9, .a (k1)] (Out.val (V.tup [V.agg [V.t (T.int IntKind.i64 (0 : Int)), V.t (T.int IntKind.i64 (0 : Int)), V.t (T.str (ByteArray.mk #[])), V.t (T.seq (4 : Nat) [])], V.t (T.int IntKind.i64 (0 : Int))]) []) (by kernel_rfl) ((rfl).trans (show (Out.val (V.tup [V.agg [V.t (T.int IntKind.i64 (0 : Int)), V.t (T.int IntKind.i64 (0 : Int)), V.t (T.str (ByteArray.mk #[])), V.t (T.seq (4 : Nat) [])], V.t (T.int IntKind.i64 (0 : Int))]) []) = Out.val (outS l.length (readE (n + (1 : Nat)) (x :: r))) [] by simp [readE, outS, vs, E.ts, E.kids, *]))
              · let t8 : Tp pr := .b (show (!x.text.toList == []) = true by simpa using hc8)
                exact .tpe [t0, t1, t2, t3, t4, t5, t6, t7, t8] (Out.val (V.tup [V.agg [V.t (T.int IntKind.i64 (0 : Int)), V.t (T.int IntKind.i64 (0 : Int)), V.t (T.str (ByteArray.mk #[])), V.t (T.seq (4 : Nat) [])], V.t (T.int IntKind.i64 (0 : Int))]) []) (by kernel_rfl) ((rfl).trans (show (Out.val (V.tup [V.agg [V.t (T.int IntKind.i64 (0 : Int)), V.t (T.int IntKind.i64 (0 : Int)), V.t (T.str (ByteArray.mk #[])), V.t (T.seq (4 : Nat) [])], V.t (T.int IntKind.i64 (0 : Int))]) []) = Out.val (outS l.length (readE (n + (1 : Nat)) (x :: r))) [] by simp [readE, outS, vs, E.ts, E.kids, *]))
            · let t7 : Tp pr := .b (show (decide (x.num = (0 : Int))) = false by simpa using hc7)
              exact .tpe [t0, t1, t2, t3, t4, t5, t6, t7, .b (rfl : true = true)] (Out.val (V.tup [V.agg [V.t (T.int IntKind.i64 (0 : Int)), V.t (T.int IntKind.i64 (0 : Int)), V.t (T.str (ByteArray.mk #[])), V.t (T.seq (4 : Nat) [])], V.t (T.int IntKind.i64 (0 : Int))]) []) (by kernel_rfl) ((rfl).trans (show (Out.val (V.tup [V.agg [V.t (T.int IntKind.i64 (0 : Int)), V.t (T.int IntKind.i64 (0 : Int)), V.t (T.str (ByteArray.mk #[])), V.t (T.seq (4 : Nat) [])], V.t (T.int IntKind.i64 (0 : Int))]) []) = Out.val (outS l.length (readE (n + (1 : Nat)) (x :: r))) [] by simp [readE, outS, vs, E.ts, E.kids, *]))
          · let t5 : Tp pr := .b (show (decide (x.kind = (3 : Int))) = false by simpa using hc5)
            by_cases hc6 : x.kind = (4 : Int)
            · let t6 : Tp pr := .b (show (decide (x.kind = (4 : Int))) = true by simpa using hc6)
              by_cases hc7 : x.num = (0 : Int)
              · let t7 : Tp pr := .b (show (decide (x.num = (0 : Int))) = true by simpa using hc7)
                by_cases hc8 : x.text = e0
                · let t8 : Tp pr := .b (show (!x.text.toList == []) = false by simpa using hc8)
                  let t9 : Tp pr := .i (wrap_i64 (a := i + (1 : Int)) (by omega) (by omega))
                  exact .tpe [t0, t1, t2, t3, t4, t5, t6, t7, t8, t9, .a (k1)] (Out.val (V.tup [V.agg [V.t (T.int IntKind.i64 (0 : Int)), V.t (T.int IntKind.i64 (0 : Int)), V.t (T.str (ByteArray.mk #[])), V.t (T.seq (4 : Nat) [])], V.t (T.int IntKind.i64 (0 : Int))]) []) (by kernel_rfl) ((rfl).trans (show (Out.val (V.tup [V.agg [V.t (T.int IntKind.i64 (0 : Int)), V.t (T.int IntKind.i64 (0 : Int)), V.t (T.str (ByteArray.mk #[])), V.t (T.seq (4 : Nat) [])], V.t (T.int IntKind.i64 (0 : Int))]) []) = Out.val (outS l.length (readE (n + (1 : Nat)) (x :: r))) [] by simp [readE, outS, vs, E.ts, E.kids, *]))
                · let t8 : Tp pr := .b (show (!x.text.toList == []) = true by simpa using hc8)
                  exact .tpe [t0, t1, t2, t3, t4, t5, t6, t7, t8] (Out.val (V.tup [V.agg [V.t (T.int IntKind.i64 (0 : Int)), V.t (T.int IntKind.i64 (0 : Int)), V.t (T.str (ByteArray.mk #[])), V.t (T.seq (4 : Nat) [])], V.t (T.int IntKind.i64 (0 : Int))]) []) (by kernel_rfl) ((rfl).trans (show (Out.val (V.tup [V.agg [V.t (T.int IntKind.i64 (0 : Int)), V.t (T.int IntKind.i64 (0 : Int)), V.t (T.str (ByteArray.mk #[])), V.t (T.seq (4 : Nat) [])], V.t (T.int IntKind.i64 (0 : Int))]) []) = Out.val (outS l.length (readE (n + (1 : Nat)) (x :: r))) [] by simp [readE, outS, vs, E.ts, E.kids, *]))
              · let t7 : Tp pr := .b (show (decide (x.num = (0 : Int))) = false by simpa using hc7)
                exact .tpe [t0, t1, t2, t3, t4, t5, t6, t7, .b (rfl : true = true)] (Out.val (V.tup [V.agg [V.t (T.int IntKind.i64 (0 : Int)), V.t (T.int IntKind.i64 (0 : Int)), V.t (T.str (ByteArray.mk #[])), V.t (T.seq (4 : Nat) [])], V.t (T.int IntKind.i64 (0 : Int))]) []) (by kernel_rfl) ((rfl).trans (show (Out.val (V.tup [V.agg [V.t (T.int IntKind.i64 (0 : Int)), V.t (T.int IntKind.i64 (0 : Int)), V.t (T.str (ByteArray.mk #[])), V.t (T.seq (4 : Nat) [])], V.t (T.int IntKind.i64 (0 : Int))]) []) = Out.val (outS l.length (readE (n + (1 : Nat)) (x :: r))) [] by simp [readE, outS, vs, E.ts, E.kids, *]))
            · let t6 : Tp pr := .b (show (decide (x.kind = (4 : Int))) = false by simpa using hc6)
              by_cases hc7 : x.kind = (5 : Int)
              · let t7 : Tp pr := .b (show (decide (x.kind = (5 : Int))) = true by simpa using hc7)
                by_cases hc8 : x.num = (0 : Int)
                · let t8 : Tp pr := .b (show (decide (x.num = (0 : Int))) = true by simpa using hc8)
                  by_cases hc10 : strength x.text.toList ≤ (0 : Int)
                  · let t10 : Tp pr := .b (show (!decide (strength x.text.toList > (0 : Int))) = true by simpa using hc10)
                    exact .tpe [t0, t1, t2, t3, t4, t5, t6, t7, t8, .a (l2Strength_ev (x.text)), t10] (Out.val (V.tup [V.agg [V.t (T.int IntKind.i64 (0 : Int)), V.t (T.int IntKind.i64 (0 : Int)), V.t (T.str (ByteArray.mk #[])), V.t (T.seq (4 : Nat) [])], V.t (T.int IntKind.i64 (0 : Int))]) []) (by kernel_rfl) ((rfl).trans (show (Out.val (V.tup [V.agg [V.t (T.int IntKind.i64 (0 : Int)), V.t (T.int IntKind.i64 (0 : Int)), V.t (T.str (ByteArray.mk #[])), V.t (T.seq (4 : Nat) [])], V.t (T.int IntKind.i64 (0 : Int))]) []) = Out.val (outS l.length (readE (n + (1 : Nat)) (x :: r))) [] by simp [readE, outS, vs, E.ts, E.kids, *]))
                  · let t10 : Tp pr := .b (show (!decide (strength x.text.toList > (0 : Int))) = false by simpa using hc10)
                    let t11 : Tp pr := .i (wrap_i64 (a := i + (1 : Int)) (by omega) (by omega))
                    exact .tpe [t0, t1, t2, t3, t4, t5, t6, t7, t8, .a (l2Strength_ev (x.text)), t10, t11, .a (k2)] (Out.val (V.tup [V.agg [V.t (T.int IntKind.i64 (0 : Int)), V.t (T.int IntKind.i64 (0 : Int)), V.t (T.str (ByteArray.mk #[])), V.t (T.seq (4 : Nat) [])], V.t (T.int IntKind.i64 (0 : Int))]) []) (by kernel_rfl) ((rfl).trans (show (Out.val (V.tup [V.agg [V.t (T.int IntKind.i64 (0 : Int)), V.t (T.int IntKind.i64 (0 : Int)), V.t (T.str (ByteArray.mk #[])), V.t (T.seq (4 : Nat) [])], V.t (T.int IntKind.i64 (0 : Int))]) []) = Out.val (outS l.length (readE (n + (1 : Nat)) (x :: r))) [] by simp [readE, outS, vs, E.ts, E.kids, *]))
                · let t8 : Tp pr := .b (show (decide (x.num = (0 : Int))) = false by simpa using hc8)
                  exact .tpe [t0, t1, t2, t3, t4, t5, t6, t7, t8, .b (rfl : true = true)] (Out.val (V.tup [V.agg [V.t (T.int IntKind.i64 (0 : Int)), V.t (T.int IntKind.i64 (0 : Int)), V.t (T.str (ByteArray.mk #[])), V.t (T.seq (4 : Nat) [])], V.t (T.int IntKind.i64 (0 : Int))]) []) (by kernel_rfl) ((rfl).trans (show (Out.val (V.tup [V.agg [V.t (T.int IntKind.i64 (0 : Int)), V.t (T.int IntKind.i64 (0 : Int)), V.t (T.str (ByteArray.mk #[])), V.t (T.seq (4 : Nat) [])], V.t (T.int IntKind.i64 (0 : Int))]) []) = Out.val (outS l.length (readE (n + (1 : Nat)) (x :: r))) [] by simp [readE, outS, vs, E.ts, E.kids, *]))
              · let t7 : Tp pr := .b (show (decide (x.kind = (5 : Int))) = false by simpa using hc7)
                exact .tpe [t0, t1, t2, t3, t4, t5, t6, t7, .b (rfl : true = true)] (Out.val (V.tup [V.agg [V.t (T.int IntKind.i64 (0 : Int)), V.t (T.int IntKind.i64 (0 : Int)), V.t (T.str (ByteArray.mk #[])), V.t (T.seq (4 : Nat) [])], V.t (T.int IntKind.i64 (0 : Int))]) []) (by kernel_rfl) ((rfl).trans (show (Out.val (V.tup [V.agg [V.t (T.int IntKind.i64 (0 : Int)), V.t (T.int IntKind.i64 (0 : Int)), V.t (T.str (ByteArray.mk #[])), V.t (T.seq (4 : Nat) [])], V.t (T.int IntKind.i64 (0 : Int))]) []) = Out.val (outS l.length (readE (n + (1 : Nat)) (x :: r))) [] by simp [readE, outS, vs, E.ts, E.kids, *]))
    | some p =>
      obtain ⟨a, r1⟩ := p
      have hr := readE_lt _ _ _ _ h1
      rw [h1] at ih1 k1 k2
      cases h2 : readE n r1 with
      | none => 
        simp only [rdL2o, h2] at k2
        let t0 : Tp pr := .i (show ((↑(List.map Ex.ce l).length : Int) : Int) = (↑l.length : Int) by simp)
        let t1 : Tp pr := .b (show (decide (i ≥ (↑l.length : Int))) = false by (simp; omega))
        let t2 : Tp pr := .g .row (show (lkp (List.map Ex.ce l) i) = some (x.ce) from hg)
        by_cases hc3 : x.kind = (1 : Int)
        · let t3 : Tp pr := .b (show (decide (x.kind = (1 : Int))) = true by simpa using hc3)
          let t4 : Tp pr := .a (l1In_ev (x.num) ((0 : Int)) ((999999999 : Int)))
          by_cases hc5 : (0 : Int) ≤ x.num ∧ x.num ≤ (999999999 : Int)
          · let t5 : Tp pr := .b (show (decide (x.num ≥ (0 : Int)) && decide (x.num ≤ (999999999 : Int))) = true by simpa using hc5)
            by_cases hc6 : x.text = e0
            · let t6 : Tp pr := .b (show (!x.text.toList == []) = false by simpa using hc6)
              let t7 : Tp pr := .i (wrap_i64 (a := i + (1 : Int)) (by omega) (by omega))
              exact .tpe [t0, t1, t2, t3, t4, t5, t6, t7, .a (k0), .m (rfl : true = true), .n .rows (rfl : ([]) = _)] (Out.val (V.tup [V.agg [V.t (T.int IntKind.i64 x.kind), V.t (T.int IntKind.i64 x.num), V.t (T.str x.text), V.t (T.seq (4 : Nat) [])], V.t (T.int IntKind.i64 (i + (1 : Int)))]) []) (by kernel_rfl) ((((congrArg (fun x_1 => Out.val (V.tup [V.agg [V.t (T.int IntKind.i64 x_1), V.t (T.int IntKind.i64 x.num), V.t (T.str x.text), V.t (T.seq (4 : Nat) [])], V.t (T.int IntKind.i64 (i + (1 : Int)))]) []) (show (x.kind) = ((1 : Int)) by assumption)).trans (congrArg (fun x_1 => Out.val (V.tup [V.agg [V.t (T.int IntKind.i64 (1 : Int)), V.t (T.int IntKind.i64 x.num), V.t (T.str x_1), V.t (T.seq (4 : Nat) [])], V.t (T.int IntKind.i64 (i + (1 : Int)))]) []) (show (x.text) = (ByteArray.mk #[]) by assumption))).trans (congrArg (fun x_1 => Out.val (V.tup [V.agg [V.t (T.int IntKind.i64 (1 : Int)), V.t (T.int IntKind.i64 x.num), V.t (T.str (ByteArray.mk #[])), V.t (T.seq (4 : Nat) [])], V.t (T.int IntKind.i64 x_1)]) []) (show (i + (1 : Int)) = ((↑done.length : Int) + ((↑r.length : Int) + (1 : Int)) - (↑r.length : Int)) by omega))).trans (show (Out.val (V.tup [V.agg [V.t (T.int IntKind.i64 (1 : Int)), V.t (T.int IntKind.i64 x.num), V.t (T.str (ByteArray.mk #[])), V.t (T.seq (4 : Nat) [])], V.t (T.int IntKind.i64 ((↑done.length : Int) + ((↑r.length : Int) + (1 : Int)) - (↑r.length : Int)))]) []) = Out.val (outS l.length (readE (n + (1 : Nat)) (x :: r))) [] by simp [readE, outS, vs, E.ts, E.kids, *]))
            · let t6 : Tp pr := .b (show (!x.text.toList == []) = true by simpa using hc6)
              exact .tpe [t0, t1, t2, t3, t4, t5, t6] (Out.val (V.tup [V.agg [V.t (T.int IntKind.i64 (0 : Int)), V.t (T.int IntKind.i64 (0 : Int)), V.t (T.str (ByteArray.mk #[])), V.t (T.seq (4 : Nat) [])], V.t (T.int IntKind.i64 (0 : Int))]) []) (by kernel_rfl) ((rfl).trans (show (Out.val (V.tup [V.agg [V.t (T.int IntKind.i64 (0 : Int)), V.t (T.int IntKind.i64 (0 : Int)), V.t (T.str (ByteArray.mk #[])), V.t (T.seq (4 : Nat) [])], V.t (T.int IntKind.i64 (0 : Int))]) []) = Out.val (outS l.length (readE (n + (1 : Nat)) (x :: r))) [] by simp [readE, outS, vs, E.ts, E.kids, *]))
          · let t5 : Tp pr := .b (show (decide (x.num ≥ (0 : Int)) && decide (x.num ≤ (999999999 : Int))) = false by simpa using hc5)
            exact .tpe [t0, t1, t2, t3, t4, t5, .b (rfl : true = true)] (Out.val (V.tup [V.agg [V.t (T.int IntKind.i64 (0 : Int)), V.t (T.int IntKind.i64 (0 : Int)), V.t (T.str (ByteArray.mk #[])), V.t (T.seq (4 : Nat) [])], V.t (T.int IntKind.i64 (0 : Int))]) []) (by kernel_rfl) ((rfl).trans (show (Out.val (V.tup [V.agg [V.t (T.int IntKind.i64 (0 : Int)), V.t (T.int IntKind.i64 (0 : Int)), V.t (T.str (ByteArray.mk #[])), V.t (T.seq (4 : Nat) [])], V.t (T.int IntKind.i64 (0 : Int))]) []) = Out.val (outS l.length (readE (n + (1 : Nat)) (x :: r))) [] by simp [readE, outS, vs, E.ts, E.kids, *]))
        · let t3 : Tp pr := .b (show (decide (x.kind = (1 : Int))) = false by simpa using hc3)
          by_cases hc4 : x.kind = (2 : Int)
          · let t4 : Tp pr := .b (show (decide (x.kind = (2 : Int))) = true by simpa using hc4)
            let t5 : Tp pr := .a (GoodName_ev (x.text) (by assumption))
            by_cases hc6 : nameOk x.text = true
            · let t6 : Tp pr := .b (show (nameOk x.text) = true by simpa using hc6)
              by_cases hc7 : x.num = (0 : Int)
              · let t7 : Tp pr := .b (show (!decide (x.num = (0 : Int))) = false by simpa using hc7)
                let t8 : Tp pr := .i (wrap_i64 (a := i + (1 : Int)) (by omega) (by omega))
                exact .tpe [t0, t1, t2, t3, t4, t5, t6, t7, t8, .a (k0), .m (rfl : true = true), .n .rows (rfl : ([]) = _)] (Out.val (V.tup [V.agg [V.t (T.int IntKind.i64 x.kind), V.t (T.int IntKind.i64 x.num), V.t (T.str x.text), V.t (T.seq (4 : Nat) [])], V.t (T.int IntKind.i64 (i + (1 : Int)))]) []) (by kernel_rfl) ((((congrArg (fun x_1 => Out.val (V.tup [V.agg [V.t (T.int IntKind.i64 x_1), V.t (T.int IntKind.i64 x.num), V.t (T.str x.text), V.t (T.seq (4 : Nat) [])], V.t (T.int IntKind.i64 (i + (1 : Int)))]) []) (show (x.kind) = ((2 : Int)) by assumption)).trans (congrArg (fun x_1 => Out.val (V.tup [V.agg [V.t (T.int IntKind.i64 (2 : Int)), V.t (T.int IntKind.i64 x_1), V.t (T.str x.text), V.t (T.seq (4 : Nat) [])], V.t (T.int IntKind.i64 (i + (1 : Int)))]) []) (show (x.num) = ((0 : Int)) by assumption))).trans (congrArg (fun x_1 => Out.val (V.tup [V.agg [V.t (T.int IntKind.i64 (2 : Int)), V.t (T.int IntKind.i64 (0 : Int)), V.t (T.str x.text), V.t (T.seq (4 : Nat) [])], V.t (T.int IntKind.i64 x_1)]) []) (show (i + (1 : Int)) = ((↑done.length : Int) + ((↑r.length : Int) + (1 : Int)) - (↑r.length : Int)) by omega))).trans (show (Out.val (V.tup [V.agg [V.t (T.int IntKind.i64 (2 : Int)), V.t (T.int IntKind.i64 (0 : Int)), V.t (T.str x.text), V.t (T.seq (4 : Nat) [])], V.t (T.int IntKind.i64 ((↑done.length : Int) + ((↑r.length : Int) + (1 : Int)) - (↑r.length : Int)))]) []) = Out.val (outS l.length (readE (n + (1 : Nat)) (x :: r))) [] by simp [readE, outS, vs, E.ts, E.kids, *]))
              · let t7 : Tp pr := .b (show (!decide (x.num = (0 : Int))) = true by simpa using hc7)
                exact .tpe [t0, t1, t2, t3, t4, t5, t6, t7] (Out.val (V.tup [V.agg [V.t (T.int IntKind.i64 (0 : Int)), V.t (T.int IntKind.i64 (0 : Int)), V.t (T.str (ByteArray.mk #[])), V.t (T.seq (4 : Nat) [])], V.t (T.int IntKind.i64 (0 : Int))]) []) (by kernel_rfl) ((rfl).trans (show (Out.val (V.tup [V.agg [V.t (T.int IntKind.i64 (0 : Int)), V.t (T.int IntKind.i64 (0 : Int)), V.t (T.str (ByteArray.mk #[])), V.t (T.seq (4 : Nat) [])], V.t (T.int IntKind.i64 (0 : Int))]) []) = Out.val (outS l.length (readE (n + (1 : Nat)) (x :: r))) [] by simp [readE, outS, vs, E.ts, E.kids, *]))
            · let t6 : Tp pr := .b (show (nameOk x.text) = false by simpa using hc6)
              exact .tpe [t0, t1, t2, t3, t4, t5, t6, .b (rfl : true = true)] (Out.val (V.tup [V.agg [V.t (T.int IntKind.i64 (0 : Int)), V.t (T.int IntKind.i64 (0 : Int)), V.t (T.str (ByteArray.mk #[])), V.t (T.seq (4 : Nat) [])], V.t (T.int IntKind.i64 (0 : Int))]) []) (by kernel_rfl) ((rfl).trans (show (Out.val (V.tup [V.agg [V.t (T.int IntKind.i64 (0 : Int)), V.t (T.int IntKind.i64 (0 : Int)), V.t (T.str (ByteArray.mk #[])), V.t (T.seq (4 : Nat) [])], V.t (T.int IntKind.i64 (0 : Int))]) []) = Out.val (outS l.length (readE (n + (1 : Nat)) (x :: r))) [] by simp [readE, outS, vs, E.ts, E.kids, *]))
          · let t4 : Tp pr := .b (show (decide (x.kind = (2 : Int))) = false by simpa using hc4)
            by_cases hc5 : x.kind = (3 : Int)
            · let t5 : Tp pr := .b (show (decide (x.kind = (3 : Int))) = true by simpa using hc5)
              let t6 : Tp pr := .b (show (decide (x.kind = (3 : Int))) = true by (simp; omega))
              by_cases hc7 : x.num = (0 : Int)
              · let t7 : Tp pr := .b (show (decide (x.num = (0 : Int))) = true by simpa using hc7)
                by_cases hc8 : x.text = e0
                · let t8 : Tp pr := .b (show (!x.text.toList == []) = false by simpa using hc8)
                  let t9 : Tp pr := .i (wrap_i64 (a := i + (1 : Int)) (by omega) (by omega))
                  let t12 : Tp pr := .n .rows (show (List.map (fun x => List.map C.fz x) (List.take (1 : Nat) (List.drop (0 : Nat) (List.map tc ([].append [[T.int IntKind.i64 a.kind, T.int IntKind.i64 a.nm, T.str a.text, T.seq (4 : Nat) a.kids]]))))) = [[T.int IntKind.i64 a.kind, T.int IntKind.i64 a.nm, T.str a.text, T.seq (4 : Nat) a.kids]] by simp)
                  exact .tpe [t0, t1, t2, t3, t4, t5, t6, t7, t8, t9, .a (k1), .m (rfl : true = true), t12] (Out.val (V.tup [V.agg [V.t (T.int IntKind.i64 x.kind), V.t (T.int IntKind.i64 x.num), V.t (T.str x.text), V.t (T.seq (4 : Nat) [[T.int IntKind.i64 a.kind, T.int IntKind.i64 a.nm, T.str a.text, T.seq (4 : Nat) a.kids]])], V.t (T.int IntKind.i64 ((↑l.length : Int) - (↑r1.length : Int)))]) []) (by kernel_rfl) (((((congrArg (fun x_1 => Out.val (V.tup [V.agg [V.t (T.int IntKind.i64 x_1), V.t (T.int IntKind.i64 x.num), V.t (T.str x.text), V.t (T.seq (4 : Nat) [[T.int IntKind.i64 a.kind, T.int IntKind.i64 a.nm, T.str a.text, T.seq (4 : Nat) a.kids]])], V.t (T.int IntKind.i64 ((↑l.length : Int) - (↑r1.length : Int)))]) []) (show (x.kind) = ((3 : Int)) by assumption)).trans (congrArg (fun x_1 => Out.val (V.tup [V.agg [V.t (T.int IntKind.i64 (3 : Int)), V.t (T.int IntKind.i64 x_1), V.t (T.str x.text), V.t (T.seq (4 : Nat) [[T.int IntKind.i64 a.kind, T.int IntKind.i64 a.nm, T.str a.text, T.seq (4 : Nat) a.kids]])], V.t (T.int IntKind.i64 ((↑l.length : Int) - (↑r1.length : Int)))]) []) (show (x.num) = ((0 : Int)) by assumption))).trans (congrArg (fun x => Out.val (V.tup [V.agg [V.t (T.int IntKind.i64 (3 : Int)), V.t (T.int IntKind.i64 (0 : Int)), V.t (T.str x), V.t (T.seq (4 : Nat) [[T.int IntKind.i64 a.kind, T.int IntKind.i64 a.nm, T.str a.text, T.seq (4 : Nat) a.kids]])], V.t (T.int IntKind.i64 ((↑l.length : Int) - (↑r1.length : Int)))]) []) (show (x.text) = (ByteArray.mk #[]) by assumption))).trans (congrArg (fun x => Out.val (V.tup [V.agg [V.t (T.int IntKind.i64 (3 : Int)), V.t (T.int IntKind.i64 (0 : Int)), V.t (T.str (ByteArray.mk #[])), V.t (T.seq (4 : Nat) [[T.int IntKind.i64 a.kind, T.int IntKind.i64 a.nm, T.str a.text, T.seq (4 : Nat) a.kids]])], V.t (T.int IntKind.i64 x)]) []) (show ((↑l.length : Int) - (↑r1.length : Int)) = ((↑done.length : Int) + ((↑r.length : Int) + (1 : Int)) - (↑r1.length : Int)) by omega))).trans (show (Out.val (V.tup [V.agg [V.t (T.int IntKind.i64 (3 : Int)), V.t (T.int IntKind.i64 (0 : Int)), V.t (T.str (ByteArray.mk #[])), V.t (T.seq (4 : Nat) [[T.int IntKind.i64 a.kind, T.int IntKind.i64 a.nm, T.str a.text, T.seq (4 : Nat) a.kids]])], V.t (T.int IntKind.i64 ((↑done.length : Int) + ((↑r.length : Int) + (1 : Int)) - (↑r1.length : Int)))]) []) = Out.val (outS l.length (readE (n + (1 : Nat)) (x :: r))) [] by simp [readE, outS, vs, E.ts, E.kids, *]))
                · let t8 : Tp pr := .b (show (!x.text.toList == []) = true by simpa using hc8)
                  exact .tpe [t0, t1, t2, t3, t4, t5, t6, t7, t8] (Out.val (V.tup [V.agg [V.t (T.int IntKind.i64 (0 : Int)), V.t (T.int IntKind.i64 (0 : Int)), V.t (T.str (ByteArray.mk #[])), V.t (T.seq (4 : Nat) [])], V.t (T.int IntKind.i64 (0 : Int))]) []) (by kernel_rfl) ((rfl).trans (show (Out.val (V.tup [V.agg [V.t (T.int IntKind.i64 (0 : Int)), V.t (T.int IntKind.i64 (0 : Int)), V.t (T.str (ByteArray.mk #[])), V.t (T.seq (4 : Nat) [])], V.t (T.int IntKind.i64 (0 : Int))]) []) = Out.val (outS l.length (readE (n + (1 : Nat)) (x :: r))) [] by simp [readE, outS, vs, E.ts, E.kids, *]))
              · let t7 : Tp pr := .b (show (decide (x.num = (0 : Int))) = false by simpa using hc7)
                exact .tpe [t0, t1, t2, t3, t4, t5, t6, t7, .b (rfl : true = true)] (Out.val (V.tup [V.agg [V.t (T.int IntKind.i64 (0 : Int)), V.t (T.int IntKind.i64 (0 : Int)), V.t (T.str (ByteArray.mk #[])), V.t (T.seq (4 : Nat) [])], V.t (T.int IntKind.i64 (0 : Int))]) []) (by kernel_rfl) ((rfl).trans (show (Out.val (V.tup [V.agg [V.t (T.int IntKind.i64 (0 : Int)), V.t (T.int IntKind.i64 (0 : Int)), V.t (T.str (ByteArray.mk #[])), V.t (T.seq (4 : Nat) [])], V.t (T.int IntKind.i64 (0 : Int))]) []) = Out.val (outS l.length (readE (n + (1 : Nat)) (x :: r))) [] by simp [readE, outS, vs, E.ts, E.kids, *]))
            · let t5 : Tp pr := .b (show (decide (x.kind = (3 : Int))) = false by simpa using hc5)
              by_cases hc6 : x.kind = (4 : Int)
              · let t6 : Tp pr := .b (show (decide (x.kind = (4 : Int))) = true by simpa using hc6)
                by_cases hc7 : x.num = (0 : Int)
                · let t7 : Tp pr := .b (show (decide (x.num = (0 : Int))) = true by simpa using hc7)
                  by_cases hc8 : x.text = e0
                  · let t8 : Tp pr := .b (show (!x.text.toList == []) = false by simpa using hc8)
                    let t9 : Tp pr := .i (wrap_i64 (a := i + (1 : Int)) (by omega) (by omega))
                    let t12 : Tp pr := .n .rows (show (List.map (fun x => List.map C.fz x) (List.take (1 : Nat) (List.drop (0 : Nat) (List.map tc ([].append [[T.int IntKind.i64 a.kind, T.int IntKind.i64 a.nm, T.str a.text, T.seq (4 : Nat) a.kids]]))))) = [[T.int IntKind.i64 a.kind, T.int IntKind.i64 a.nm, T.str a.text, T.seq (4 : Nat) a.kids]] by simp)
                    exact .tpe [t0, t1, t2, t3, t4, t5, t6, t7, t8, t9, .a (k1), .m (rfl : true = true), t12] (Out.val (V.tup [V.agg [V.t (T.int IntKind.i64 x.kind), V.t (T.int IntKind.i64 x.num), V.t (T.str x.text), V.t (T.seq (4 : Nat) [[T.int IntKind.i64 a.kind, T.int IntKind.i64 a.nm, T.str a.text, T.seq (4 : Nat) a.kids]])], V.t (T.int IntKind.i64 ((↑l.length : Int) - (↑r1.length : Int)))]) []) (by kernel_rfl) (((((congrArg (fun x_1 => Out.val (V.tup [V.agg [V.t (T.int IntKind.i64 x_1), V.t (T.int IntKind.i64 x.num), V.t (T.str x.text), V.t (T.seq (4 : Nat) [[T.int IntKind.i64 a.kind, T.int IntKind.i64 a.nm, T.str a.text, T.seq (4 : Nat) a.kids]])], V.t (T.int IntKind.i64 ((↑l.length : Int) - (↑r1.length : Int)))]) []) (show (x.kind) = ((4 : Int)) by assumption)).trans (congrArg (fun x_1 => Out.val (V.tup [V.agg [V.t (T.int IntKind.i64 (4 : Int)), V.t (T.int IntKind.i64 x_1), V.t (T.str x.text), V.t (T.seq (4 : Nat) [[T.int IntKind.i64 a.kind, T.int IntKind.i64 a.nm, T.str a.text, T.seq (4 : Nat) a.kids]])], V.t (T.int IntKind.i64 ((↑l.length : Int) - (↑r1.length : Int)))]) []) (show (x.num) = ((0 : Int)) by assumption))).trans (congrArg (fun x => Out.val (V.tup [V.agg [V.t (T.int IntKind.i64 (4 : Int)), V.t (T.int IntKind.i64 (0 : Int)), V.t (T.str x), V.t (T.seq (4 : Nat) [[T.int IntKind.i64 a.kind, T.int IntKind.i64 a.nm, T.str a.text, T.seq (4 : Nat) a.kids]])], V.t (T.int IntKind.i64 ((↑l.length : Int) - (↑r1.length : Int)))]) []) (show (x.text) = (ByteArray.mk #[]) by assumption))).trans (congrArg (fun x => Out.val (V.tup [V.agg [V.t (T.int IntKind.i64 (4 : Int)), V.t (T.int IntKind.i64 (0 : Int)), V.t (T.str (ByteArray.mk #[])), V.t (T.seq (4 : Nat) [[T.int IntKind.i64 a.kind, T.int IntKind.i64 a.nm, T.str a.text, T.seq (4 : Nat) a.kids]])], V.t (T.int IntKind.i64 x)]) []) (show ((↑l.length : Int) - (↑r1.length : Int)) = ((↑done.length : Int) + ((↑r.length : Int) + (1 : Int)) - (↑r1.length : Int)) by omega))).trans (show (Out.val (V.tup [V.agg [V.t (T.int IntKind.i64 (4 : Int)), V.t (T.int IntKind.i64 (0 : Int)), V.t (T.str (ByteArray.mk #[])), V.t (T.seq (4 : Nat) [[T.int IntKind.i64 a.kind, T.int IntKind.i64 a.nm, T.str a.text, T.seq (4 : Nat) a.kids]])], V.t (T.int IntKind.i64 ((↑done.length : Int) + ((↑r.length : Int) + (1 : Int)) - (↑r1.length : Int)))]) []) = Out.val (outS l.length (readE (n + (1 : Nat)) (x :: r))) [] by simp [readE, outS, vs, E.ts, E.kids, *]))
                  · let t8 : Tp pr := .b (show (!x.text.toList == []) = true by simpa using hc8)
                    exact .tpe [t0, t1, t2, t3, t4, t5, t6, t7, t8] (Out.val (V.tup [V.agg [V.t (T.int IntKind.i64 (0 : Int)), V.t (T.int IntKind.i64 (0 : Int)), V.t (T.str (ByteArray.mk #[])), V.t (T.seq (4 : Nat) [])], V.t (T.int IntKind.i64 (0 : Int))]) []) (by kernel_rfl) ((rfl).trans (show (Out.val (V.tup [V.agg [V.t (T.int IntKind.i64 (0 : Int)), V.t (T.int IntKind.i64 (0 : Int)), V.t (T.str (ByteArray.mk #[])), V.t (T.seq (4 : Nat) [])], V.t (T.int IntKind.i64 (0 : Int))]) []) = Out.val (outS l.length (readE (n + (1 : Nat)) (x :: r))) [] by simp [readE, outS, vs, E.ts, E.kids, *]))
                · let t7 : Tp pr := .b (show (decide (x.num = (0 : Int))) = false by simpa using hc7)
                  exact .tpe [t0, t1, t2, t3, t4, t5, t6, t7, .b (rfl : true = true)] (Out.val (V.tup [V.agg [V.t (T.int IntKind.i64 (0 : Int)), V.t (T.int IntKind.i64 (0 : Int)), V.t (T.str (ByteArray.mk #[])), V.t (T.seq (4 : Nat) [])], V.t (T.int IntKind.i64 (0 : Int))]) []) (by kernel_rfl) ((rfl).trans (show (Out.val (V.tup [V.agg [V.t (T.int IntKind.i64 (0 : Int)), V.t (T.int IntKind.i64 (0 : Int)), V.t (T.str (ByteArray.mk #[])), V.t (T.seq (4 : Nat) [])], V.t (T.int IntKind.i64 (0 : Int))]) []) = Out.val (outS l.length (readE (n + (1 : Nat)) (x :: r))) [] by simp [readE, outS, vs, E.ts, E.kids, *]))
              · let t6 : Tp pr := .b (show (decide (x.kind = (4 : Int))) = false by simpa using hc6)
                by_cases hc7 : x.kind = (5 : Int)
                · let t7 : Tp pr := .b (show (decide (x.kind = (5 : Int))) = true by simpa using hc7)
                  by_cases hc8 : x.num = (0 : Int)
                  · let t8 : Tp pr := .b (show (decide (x.num = (0 : Int))) = true by simpa using hc8)
                    by_cases hc10 : strength x.text.toList ≤ (0 : Int)
                    · let t10 : Tp pr := .b (show (!decide (strength x.text.toList > (0 : Int))) = true by simpa using hc10)
                      exact .tpe [t0, t1, t2, t3, t4, t5, t6, t7, t8, .a (l2Strength_ev (x.text)), t10] (Out.val (V.tup [V.agg [V.t (T.int IntKind.i64 (0 : Int)), V.t (T.int IntKind.i64 (0 : Int)), V.t (T.str (ByteArray.mk #[])), V.t (T.seq (4 : Nat) [])], V.t (T.int IntKind.i64 (0 : Int))]) []) (by kernel_rfl) ((rfl).trans (show (Out.val (V.tup [V.agg [V.t (T.int IntKind.i64 (0 : Int)), V.t (T.int IntKind.i64 (0 : Int)), V.t (T.str (ByteArray.mk #[])), V.t (T.seq (4 : Nat) [])], V.t (T.int IntKind.i64 (0 : Int))]) []) = Out.val (outS l.length (readE (n + (1 : Nat)) (x :: r))) [] by simp [readE, outS, vs, E.ts, E.kids, *]))
                    · let t10 : Tp pr := .b (show (!decide (strength x.text.toList > (0 : Int))) = false by simpa using hc10)
                      let t11 : Tp pr := .i (wrap_i64 (a := i + (1 : Int)) (by omega) (by omega))
                      exact .tpe [t0, t1, t2, t3, t4, t5, t6, t7, t8, .a (l2Strength_ev (x.text)), t10, t11, .a (k2)] (Out.val (V.tup [V.agg [V.t (T.int IntKind.i64 (0 : Int)), V.t (T.int IntKind.i64 (0 : Int)), V.t (T.str (ByteArray.mk #[])), V.t (T.seq (4 : Nat) [])], V.t (T.int IntKind.i64 (0 : Int))]) []) (by kernel_rfl) ((rfl).trans (show (Out.val (V.tup [V.agg [V.t (T.int IntKind.i64 (0 : Int)), V.t (T.int IntKind.i64 (0 : Int)), V.t (T.str (ByteArray.mk #[])), V.t (T.seq (4 : Nat) [])], V.t (T.int IntKind.i64 (0 : Int))]) []) = Out.val (outS l.length (readE (n + (1 : Nat)) (x :: r))) [] by simp [readE, outS, vs, E.ts, E.kids, *]))
                  · let t8 : Tp pr := .b (show (decide (x.num = (0 : Int))) = false by simpa using hc8)
                    exact .tpe [t0, t1, t2, t3, t4, t5, t6, t7, t8, .b (rfl : true = true)] (Out.val (V.tup [V.agg [V.t (T.int IntKind.i64 (0 : Int)), V.t (T.int IntKind.i64 (0 : Int)), V.t (T.str (ByteArray.mk #[])), V.t (T.seq (4 : Nat) [])], V.t (T.int IntKind.i64 (0 : Int))]) []) (by kernel_rfl) ((rfl).trans (show (Out.val (V.tup [V.agg [V.t (T.int IntKind.i64 (0 : Int)), V.t (T.int IntKind.i64 (0 : Int)), V.t (T.str (ByteArray.mk #[])), V.t (T.seq (4 : Nat) [])], V.t (T.int IntKind.i64 (0 : Int))]) []) = Out.val (outS l.length (readE (n + (1 : Nat)) (x :: r))) [] by simp [readE, outS, vs, E.ts, E.kids, *]))
                · let t7 : Tp pr := .b (show (decide (x.kind = (5 : Int))) = false by simpa using hc7)
                  exact .tpe [t0, t1, t2, t3, t4, t5, t6, t7, .b (rfl : true = true)] (Out.val (V.tup [V.agg [V.t (T.int IntKind.i64 (0 : Int)), V.t (T.int IntKind.i64 (0 : Int)), V.t (T.str (ByteArray.mk #[])), V.t (T.seq (4 : Nat) [])], V.t (T.int IntKind.i64 (0 : Int))]) []) (by kernel_rfl) ((rfl).trans (show (Out.val (V.tup [V.agg [V.t (T.int IntKind.i64 (0 : Int)), V.t (T.int IntKind.i64 (0 : Int)), V.t (T.str (ByteArray.mk #[])), V.t (T.seq (4 : Nat) [])], V.t (T.int IntKind.i64 (0 : Int))]) []) = Out.val (outS l.length (readE (n + (1 : Nat)) (x :: r))) [] by simp [readE, outS, vs, E.ts, E.kids, *]))
      | some q =>
        obtain ⟨b, r2⟩ := q
        simp only [rdL2o, h2] at k2
        have h0 := strength_nonneg x.text.toList
        by_cases hst : strength x.text.toList = 0
        · have hst2 : ¬ 0 < strength x.text.toList := by omega
          let t0 : Tp pr := .i (show ((↑(List.map Ex.ce l).length : Int) : Int) = (↑l.length : Int) by simp)
          let t1 : Tp pr := .b (show (decide (i ≥ (↑l.length : Int))) = false by (simp; omega))
          let t2 : Tp pr := .g .row (show (lkp (List.map Ex.ce l) i) = some (x.ce) from hg)
          by_cases hc3 : x.kind = (1 : Int)
          · let t3 : Tp pr := .b (show (decide (x.kind = (1 : Int))) = true by simpa using hc3)
            let t4 : Tp pr := .a (l1In_ev (x.num) ((0 : Int)) ((999999999 : Int)))
            by_cases hc5 : (0 : Int) ≤ x.num ∧ x.num ≤ (999999999 : Int)
            · let t5 : Tp pr := .b (show (decide (x.num ≥ (0 : Int)) && decide (x.num ≤ (999999999 : Int))) = true by simpa using hc5)
              by_cases hc6 : x.text = e0
              · let t6 : Tp pr := .b (show (!x.text.toList == []) = false by simpa using hc6)
                let t7 : Tp pr := .i (wrap_i64 (a := i + (1 : Int)) (by omega) (by omega))
                exact .tpe [t0, t1, t2, t3, t4, t5, t6, t7, .a (k0), .m (rfl : true = true), .n .rows (rfl : ([]) = _)] (Out.val (V.tup [V.agg [V.t (T.int IntKind.i64 x.kind), V.t (T.int IntKind.i64 x.num), V.t (T.str x.text), V.t (T.seq (4 : Nat) [])], V.t (T.int IntKind.i64 (i + (1 : Int)))]) []) (by kernel_rfl) ((((congrArg (fun x_1 => Out.val (V.tup [V.agg [V.t (T.int IntKind.i64 x_1), V.t (T.int IntKind.i64 x.num), V.t (T.str x.text), V.t (T.seq (4 : Nat) [])], V.t (T.int IntKind.i64 (i + (1 : Int)))]) []) (show (x.kind) = ((1 : Int)) by assumption)).trans (congrArg (fun x_1 => Out.val (V.tup [V.agg [V.t (T.int IntKind.i64 (1 : Int)), V.t (T.int IntKind.i64 x.num), V.t (T.str x_1), V.t (T.seq (4 : Nat) [])], V.t (T.int IntKind.i64 (i + (1 : Int)))]) []) (show (x.text) = (ByteArray.mk #[]) by assumption))).trans (congrArg (fun x_1 => Out.val (V.tup [V.agg [V.t (T.int IntKind.i64 (1 : Int)), V.t (T.int IntKind.i64 x.num), V.t (T.str (ByteArray.mk #[])), V.t (T.seq (4 : Nat) [])], V.t (T.int IntKind.i64 x_1)]) []) (show (i + (1 : Int)) = ((↑done.length : Int) + ((↑r.length : Int) + (1 : Int)) - (↑r.length : Int)) by omega))).trans (show (Out.val (V.tup [V.agg [V.t (T.int IntKind.i64 (1 : Int)), V.t (T.int IntKind.i64 x.num), V.t (T.str (ByteArray.mk #[])), V.t (T.seq (4 : Nat) [])], V.t (T.int IntKind.i64 ((↑done.length : Int) + ((↑r.length : Int) + (1 : Int)) - (↑r.length : Int)))]) []) = Out.val (outS l.length (readE (n + (1 : Nat)) (x :: r))) [] by simp [readE, outS, vs, E.ts, E.kids, *]))
              · let t6 : Tp pr := .b (show (!x.text.toList == []) = true by simpa using hc6)
                exact .tpe [t0, t1, t2, t3, t4, t5, t6] (Out.val (V.tup [V.agg [V.t (T.int IntKind.i64 (0 : Int)), V.t (T.int IntKind.i64 (0 : Int)), V.t (T.str (ByteArray.mk #[])), V.t (T.seq (4 : Nat) [])], V.t (T.int IntKind.i64 (0 : Int))]) []) (by kernel_rfl) ((rfl).trans (show (Out.val (V.tup [V.agg [V.t (T.int IntKind.i64 (0 : Int)), V.t (T.int IntKind.i64 (0 : Int)), V.t (T.str (ByteArray.mk #[])), V.t (T.seq (4 : Nat) [])], V.t (T.int IntKind.i64 (0 : Int))]) []) = Out.val (outS l.length (readE (n + (1 : Nat)) (x :: r))) [] by simp [readE, outS, vs, E.ts, E.kids, *]))
            · let t5 : Tp pr := .b (show (decide (x.num ≥ (0 : Int)) && decide (x.num ≤ (999999999 : Int))) = false by simpa using hc5)
              exact .tpe [t0, t1, t2, t3, t4, t5, .b (rfl : true = true)] (Out.val (V.tup [V.agg [V.t (T.int IntKind.i64 (0 : Int)), V.t (T.int IntKind.i64 (0 : Int)), V.t (T.str (ByteArray.mk #[])), V.t (T.seq (4 : Nat) [])], V.t (T.int IntKind.i64 (0 : Int))]) []) (by kernel_rfl) ((rfl).trans (show (Out.val (V.tup [V.agg [V.t (T.int IntKind.i64 (0 : Int)), V.t (T.int IntKind.i64 (0 : Int)), V.t (T.str (ByteArray.mk #[])), V.t (T.seq (4 : Nat) [])], V.t (T.int IntKind.i64 (0 : Int))]) []) = Out.val (outS l.length (readE (n + (1 : Nat)) (x :: r))) [] by simp [readE, outS, vs, E.ts, E.kids, *]))
          · let t3 : Tp pr := .b (show (decide (x.kind = (1 : Int))) = false by simpa using hc3)
            by_cases hc4 : x.kind = (2 : Int)
            · let t4 : Tp pr := .b (show (decide (x.kind = (2 : Int))) = true by simpa using hc4)
              let t5 : Tp pr := .a (GoodName_ev (x.text) (by assumption))
              by_cases hc6 : nameOk x.text = true
              · let t6 : Tp pr := .b (show (nameOk x.text) = true by simpa using hc6)
                by_cases hc7 : x.num = (0 : Int)
                · let t7 : Tp pr := .b (show (!decide (x.num = (0 : Int))) = false by simpa using hc7)
                  let t8 : Tp pr := .i (wrap_i64 (a := i + (1 : Int)) (by omega) (by omega))
                  exact .tpe [t0, t1, t2, t3, t4, t5, t6, t7, t8, .a (k0), .m (rfl : true = true), .n .rows (rfl : ([]) = _)] (Out.val (V.tup [V.agg [V.t (T.int IntKind.i64 x.kind), V.t (T.int IntKind.i64 x.num), V.t (T.str x.text), V.t (T.seq (4 : Nat) [])], V.t (T.int IntKind.i64 (i + (1 : Int)))]) []) (by kernel_rfl) ((((congrArg (fun x_1 => Out.val (V.tup [V.agg [V.t (T.int IntKind.i64 x_1), V.t (T.int IntKind.i64 x.num), V.t (T.str x.text), V.t (T.seq (4 : Nat) [])], V.t (T.int IntKind.i64 (i + (1 : Int)))]) []) (show (x.kind) = ((2 : Int)) by assumption)).trans (congrArg (fun x_1 => Out.val (V.tup [V.agg [V.t (T.int IntKind.i64 (2 : Int)), V.t (T.int IntKind.i64 x_1), V.t (T.str x.text), V.t (T.seq (4 : Nat) [])], V.t (T.int IntKind.i64 (i + (1 : Int)))]) []) (show (x.num) = ((0 : Int)) by assumption))).trans (congrArg (fun x_1 => Out.val (V.tup [V.agg [V.t (T.int IntKind.i64 (2 : Int)), V.t (T.int IntKind.i64 (0 : Int)), V.t (T.str x.text), V.t (T.seq (4 : Nat) [])], V.t (T.int IntKind.i64 x_1)]) []) (show (i + (1 : Int)) = ((↑done.length : Int) + ((↑r.length : Int) + (1 : Int)) - (↑r.length : Int)) by omega))).trans (show (Out.val (V.tup [V.agg [V.t (T.int IntKind.i64 (2 : Int)), V.t (T.int IntKind.i64 (0 : Int)), V.t (T.str x.text), V.t (T.seq (4 : Nat) [])], V.t (T.int IntKind.i64 ((↑done.length : Int) + ((↑r.length : Int) + (1 : Int)) - (↑r.length : Int)))]) []) = Out.val (outS l.length (readE (n + (1 : Nat)) (x :: r))) [] by simp [readE, outS, vs, E.ts, E.kids, *]))
                · let t7 : Tp pr := .b (show (!decide (x.num = (0 : Int))) = true by simpa using hc7)
                  exact .tpe [t0, t1, t2, t3, t4, t5, t6, t7] (Out.val (V.tup [V.agg [V.t (T.int IntKind.i64 (0 : Int)), V.t (T.int IntKind.i64 (0 : Int)), V.t (T.str (ByteArray.mk #[])), V.t (T.seq (4 : Nat) [])], V.t (T.int IntKind.i64 (0 : Int))]) []) (by kernel_rfl) ((rfl).trans (show (Out.val (V.tup [V.agg [V.t (T.int IntKind.i64 (0 : Int)), V.t (T.int IntKind.i64 (0 : Int)), V.t (T.str (ByteArray.mk #[])), V.t (T.seq (4 : Nat) [])], V.t (T.int IntKind.i64 (0 : Int))]) []) = Out.val (outS l.length (readE (n + (1 : Nat)) (x :: r))) [] by simp [readE, outS, vs, E.ts, E.kids, *]))
              · let t6 : Tp pr := .b (show (nameOk x.text) = false by simpa using hc6)
                exact .tpe [t0, t1, t2, t3, t4, t5, t6, .b (rfl : true = true)] (Out.val (V.tup [V.agg [V.t (T.int IntKind.i64 (0 : Int)), V.t (T.int IntKind.i64 (0 : Int)), V.t (T.str (ByteArray.mk #[])), V.t (T.seq (4 : Nat) [])], V.t (T.int IntKind.i64 (0 : Int))]) []) (by kernel_rfl) ((rfl).trans (show (Out.val (V.tup [V.agg [V.t (T.int IntKind.i64 (0 : Int)), V.t (T.int IntKind.i64 (0 : Int)), V.t (T.str (ByteArray.mk #[])), V.t (T.seq (4 : Nat) [])], V.t (T.int IntKind.i64 (0 : Int))]) []) = Out.val (outS l.length (readE (n + (1 : Nat)) (x :: r))) [] by simp [readE, outS, vs, E.ts, E.kids, *]))
            · let t4 : Tp pr := .b (show (decide (x.kind = (2 : Int))) = false by simpa using hc4)
              by_cases hc5 : x.kind = (3 : Int)
              · let t5 : Tp pr := .b (show (decide (x.kind = (3 : Int))) = true by simpa using hc5)
                let t6 : Tp pr := .b (show (decide (x.kind = (3 : Int))) = true by (simp; omega))
                by_cases hc7 : x.num = (0 : Int)
                · let t7 : Tp pr := .b (show (decide (x.num = (0 : Int))) = true by simpa using hc7)
                  by_cases hc8 : x.text = e0
                  · let t8 : Tp pr := .b (show (!x.text.toList == []) = false by simpa using hc8)
                    let t9 : Tp pr := .i (wrap_i64 (a := i + (1 : Int)) (by omega) (by omega))
                    let t12 : Tp pr := .n .rows (show (List.map (fun x => List.map C.fz x) (List.take (1 : Nat) (List.drop (0 : Nat) (List.map tc ([].append [[T.int IntKind.i64 a.kind, T.int IntKind.i64 a.nm, T.str a.text, T.seq (4 : Nat) a.kids]]))))) = [[T.int IntKind.i64 a.kind, T.int IntKind.i64 a.nm, T.str a.text, T.seq (4 : Nat) a.kids]] by simp)
                    exact .tpe [t0, t1, t2, t3, t4, t5, t6, t7, t8, t9, .a (k1), .m (rfl : true = true), t12] (Out.val (V.tup [V.agg [V.t (T.int IntKind.i64 x.kind), V.t (T.int IntKind.i64 x.num), V.t (T.str x.text), V.t (T.seq (4 : Nat) [[T.int IntKind.i64 a.kind, T.int IntKind.i64 a.nm, T.str a.text, T.seq (4 : Nat) a.kids]])], V.t (T.int IntKind.i64 ((↑l.length : Int) - (↑r1.length : Int)))]) []) (by kernel_rfl) (((((congrArg (fun x_1 => Out.val (V.tup [V.agg [V.t (T.int IntKind.i64 x_1), V.t (T.int IntKind.i64 x.num), V.t (T.str x.text), V.t (T.seq (4 : Nat) [[T.int IntKind.i64 a.kind, T.int IntKind.i64 a.nm, T.str a.text, T.seq (4 : Nat) a.kids]])], V.t (T.int IntKind.i64 ((↑l.length : Int) - (↑r1.length : Int)))]) []) (show (x.kind) = ((3 : Int)) by assumption)).trans (congrArg (fun x_1 => Out.val (V.tup [V.agg [V.t (T.int IntKind.i64 (3 : Int)), V.t (T.int IntKind.i64 x_1), V.t (T.str x.text), V.t (T.seq (4 : Nat) [[T.int IntKind.i64 a.kind, T.int IntKind.i64 a.nm, T.str a.text, T.seq (4 : Nat) a.kids]])], V.t (T.int IntKind.i64 ((↑l.length : Int) - (↑r1.length : Int)))]) []) (show (x.num) = ((0 : Int)) by assumption))).trans (congrArg (fun x => Out.val (V.tup [V.agg [V.t (T.int IntKind.i64 (3 : Int)), V.t (T.int IntKind.i64 (0 : Int)), V.t (T.str x), V.t (T.seq (4 : Nat) [[T.int IntKind.i64 a.kind, T.int IntKind.i64 a.nm, T.str a.text, T.seq (4 : Nat) a.kids]])], V.t (T.int IntKind.i64 ((↑l.length : Int) - (↑r1.length : Int)))]) []) (show (x.text) = (ByteArray.mk #[]) by assumption))).trans (congrArg (fun x => Out.val (V.tup [V.agg [V.t (T.int IntKind.i64 (3 : Int)), V.t (T.int IntKind.i64 (0 : Int)), V.t (T.str (ByteArray.mk #[])), V.t (T.seq (4 : Nat) [[T.int IntKind.i64 a.kind, T.int IntKind.i64 a.nm, T.str a.text, T.seq (4 : Nat) a.kids]])], V.t (T.int IntKind.i64 x)]) []) (show ((↑l.length : Int) - (↑r1.length : Int)) = ((↑done.length : Int) + ((↑r.length : Int) + (1 : Int)) - (↑r1.length : Int)) by omega))).trans (show (Out.val (V.tup [V.agg [V.t (T.int IntKind.i64 (3 : Int)), V.t (T.int IntKind.i64 (0 : Int)), V.t (T.str (ByteArray.mk #[])), V.t (T.seq (4 : Nat) [[T.int IntKind.i64 a.kind, T.int IntKind.i64 a.nm, T.str a.text, T.seq (4 : Nat) a.kids]])], V.t (T.int IntKind.i64 ((↑done.length : Int) + ((↑r.length : Int) + (1 : Int)) - (↑r1.length : Int)))]) []) = Out.val (outS l.length (readE (n + (1 : Nat)) (x :: r))) [] by simp [readE, outS, vs, E.ts, E.kids, *]))
                  · let t8 : Tp pr := .b (show (!x.text.toList == []) = true by simpa using hc8)
                    exact .tpe [t0, t1, t2, t3, t4, t5, t6, t7, t8] (Out.val (V.tup [V.agg [V.t (T.int IntKind.i64 (0 : Int)), V.t (T.int IntKind.i64 (0 : Int)), V.t (T.str (ByteArray.mk #[])), V.t (T.seq (4 : Nat) [])], V.t (T.int IntKind.i64 (0 : Int))]) []) (by kernel_rfl) ((rfl).trans (show (Out.val (V.tup [V.agg [V.t (T.int IntKind.i64 (0 : Int)), V.t (T.int IntKind.i64 (0 : Int)), V.t (T.str (ByteArray.mk #[])), V.t (T.seq (4 : Nat) [])], V.t (T.int IntKind.i64 (0 : Int))]) []) = Out.val (outS l.length (readE (n + (1 : Nat)) (x :: r))) [] by simp [readE, outS, vs, E.ts, E.kids, *]))
                · let t7 : Tp pr := .b (show (decide (x.num = (0 : Int))) = false by simpa using hc7)
                  exact .tpe [t0, t1, t2, t3, t4, t5, t6, t7, .b (rfl : true = true)] (Out.val (V.tup [V.agg [V.t (T.int IntKind.i64 (0 : Int)), V.t (T.int IntKind.i64 (0 : Int)), V.t (T.str (ByteArray.mk #[])), V.t (T.seq (4 : Nat) [])], V.t (T.int IntKind.i64 (0 : Int))]) []) (by kernel_rfl) ((rfl).trans (show (Out.val (V.tup [V.agg [V.t (T.int IntKind.i64 (0 : Int)), V.t (T.int IntKind.i64 (0 : Int)), V.t (T.str (ByteArray.mk #[])), V.t (T.seq (4 : Nat) [])], V.t (T.int IntKind.i64 (0 : Int))]) []) = Out.val (outS l.length (readE (n + (1 : Nat)) (x :: r))) [] by simp [readE, outS, vs, E.ts, E.kids, *]))
              · let t5 : Tp pr := .b (show (decide (x.kind = (3 : Int))) = false by simpa using hc5)
                by_cases hc6 : x.kind = (4 : Int)
                · let t6 : Tp pr := .b (show (decide (x.kind = (4 : Int))) = true by simpa using hc6)
                  by_cases hc7 : x.num = (0 : Int)
                  · let t7 : Tp pr := .b (show (decide (x.num = (0 : Int))) = true by simpa using hc7)
                    by_cases hc8 : x.text = e0
                    · let t8 : Tp pr := .b (show (!x.text.toList == []) = false by simpa using hc8)
                      let t9 : Tp pr := .i (wrap_i64 (a := i + (1 : Int)) (by omega) (by omega))
                      let t12 : Tp pr := .n .rows (show (List.map (fun x => List.map C.fz x) (List.take (1 : Nat) (List.drop (0 : Nat) (List.map tc ([].append [[T.int IntKind.i64 a.kind, T.int IntKind.i64 a.nm, T.str a.text, T.seq (4 : Nat) a.kids]]))))) = [[T.int IntKind.i64 a.kind, T.int IntKind.i64 a.nm, T.str a.text, T.seq (4 : Nat) a.kids]] by simp)
                      exact .tpe [t0, t1, t2, t3, t4, t5, t6, t7, t8, t9, .a (k1), .m (rfl : true = true), t12] (Out.val (V.tup [V.agg [V.t (T.int IntKind.i64 x.kind), V.t (T.int IntKind.i64 x.num), V.t (T.str x.text), V.t (T.seq (4 : Nat) [[T.int IntKind.i64 a.kind, T.int IntKind.i64 a.nm, T.str a.text, T.seq (4 : Nat) a.kids]])], V.t (T.int IntKind.i64 ((↑l.length : Int) - (↑r1.length : Int)))]) []) (by kernel_rfl) (((((congrArg (fun x_1 => Out.val (V.tup [V.agg [V.t (T.int IntKind.i64 x_1), V.t (T.int IntKind.i64 x.num), V.t (T.str x.text), V.t (T.seq (4 : Nat) [[T.int IntKind.i64 a.kind, T.int IntKind.i64 a.nm, T.str a.text, T.seq (4 : Nat) a.kids]])], V.t (T.int IntKind.i64 ((↑l.length : Int) - (↑r1.length : Int)))]) []) (show (x.kind) = ((4 : Int)) by assumption)).trans (congrArg (fun x_1 => Out.val (V.tup [V.agg [V.t (T.int IntKind.i64 (4 : Int)), V.t (T.int IntKind.i64 x_1), V.t (T.str x.text), V.t (T.seq (4 : Nat) [[T.int IntKind.i64 a.kind, T.int IntKind.i64 a.nm, T.str a.text, T.seq (4 : Nat) a.kids]])], V.t (T.int IntKind.i64 ((↑l.length : Int) - (↑r1.length : Int)))]) []) (show (x.num) = ((0 : Int)) by assumption))).trans (congrArg (fun x => Out.val (V.tup [V.agg [V.t (T.int IntKind.i64 (4 : Int)), V.t (T.int IntKind.i64 (0 : Int)), V.t (T.str x), V.t (T.seq (4 : Nat) [[T.int IntKind.i64 a.kind, T.int IntKind.i64 a.nm, T.str a.text, T.seq (4 : Nat) a.kids]])], V.t (T.int IntKind.i64 ((↑l.length : Int) - (↑r1.length : Int)))]) []) (show (x.text) = (ByteArray.mk #[]) by assumption))).trans (congrArg (fun x => Out.val (V.tup [V.agg [V.t (T.int IntKind.i64 (4 : Int)), V.t (T.int IntKind.i64 (0 : Int)), V.t (T.str (ByteArray.mk #[])), V.t (T.seq (4 : Nat) [[T.int IntKind.i64 a.kind, T.int IntKind.i64 a.nm, T.str a.text, T.seq (4 : Nat) a.kids]])], V.t (T.int IntKind.i64 x)]) []) (show ((↑l.length : Int) - (↑r1.length : Int)) = ((↑done.length : Int) + ((↑r.length : Int) + (1 : Int)) - (↑r1.length : Int)) by omega))).trans (show (Out.val (V.tup [V.agg [V.t (T.int IntKind.i64 (4 : Int)), V.t (T.int IntKind.i64 (0 : Int)), V.t (T.str (ByteArray.mk #[])), V.t (T.seq (4 : Nat) [[T.int IntKind.i64 a.kind, T.int IntKind.i64 a.nm, T.str a.text, T.seq (4 : Nat) a.kids]])], V.t (T.int IntKind.i64 ((↑done.length : Int) + ((↑r.length : Int) + (1 : Int)) - (↑r1.length : Int)))]) []) = Out.val (outS l.length (readE (n + (1 : Nat)) (x :: r))) [] by simp [readE, outS, vs, E.ts, E.kids, *]))
                    · let t8 : Tp pr := .b (show (!x.text.toList == []) = true by simpa using hc8)
                      exact .tpe [t0, t1, t2, t3, t4, t5, t6, t7, t8] (Out.val (V.tup [V.agg [V.t (T.int IntKind.i64 (0 : Int)), V.t (T.int IntKind.i64 (0 : Int)), V.t (T.str (ByteArray.mk #[])), V.t (T.seq (4 : Nat) [])], V.t (T.int IntKind.i64 (0 : Int))]) []) (by kernel_rfl) ((rfl).trans (show (Out.val (V.tup [V.agg [V.t (T.int IntKind.i64 (0 : Int)), V.t (T.int IntKind.i64 (0 : Int)), V.t (T.str (ByteArray.mk #[])), V.t (T.seq (4 : Nat) [])], V.t (T.int IntKind.i64 (0 : Int))]) []) = Out.val (outS l.length (readE (n + (1 : Nat)) (x :: r))) [] by simp [readE, outS, vs, E.ts, E.kids, *]))
                  · let t7 : Tp pr := .b (show (decide (x.num = (0 : Int))) = false by simpa using hc7)
                    exact .tpe [t0, t1, t2, t3, t4, t5, t6, t7, .b (rfl : true = true)] (Out.val (V.tup [V.agg [V.t (T.int IntKind.i64 (0 : Int)), V.t (T.int IntKind.i64 (0 : Int)), V.t (T.str (ByteArray.mk #[])), V.t (T.seq (4 : Nat) [])], V.t (T.int IntKind.i64 (0 : Int))]) []) (by kernel_rfl) ((rfl).trans (show (Out.val (V.tup [V.agg [V.t (T.int IntKind.i64 (0 : Int)), V.t (T.int IntKind.i64 (0 : Int)), V.t (T.str (ByteArray.mk #[])), V.t (T.seq (4 : Nat) [])], V.t (T.int IntKind.i64 (0 : Int))]) []) = Out.val (outS l.length (readE (n + (1 : Nat)) (x :: r))) [] by simp [readE, outS, vs, E.ts, E.kids, *]))
                · let t6 : Tp pr := .b (show (decide (x.kind = (4 : Int))) = false by simpa using hc6)
                  by_cases hc7 : x.kind = (5 : Int)
                  · let t7 : Tp pr := .b (show (decide (x.kind = (5 : Int))) = true by simpa using hc7)
                    by_cases hc8 : x.num = (0 : Int)
                    · let t8 : Tp pr := .b (show (decide (x.num = (0 : Int))) = true by simpa using hc8)
                      let t10 : Tp pr := .b (show (!decide (strength x.text.toList > (0 : Int))) = true by (simp; omega))
                      exact .tpe [t0, t1, t2, t3, t4, t5, t6, t7, t8, .a (l2Strength_ev (x.text)), t10] (Out.val (V.tup [V.agg [V.t (T.int IntKind.i64 (0 : Int)), V.t (T.int IntKind.i64 (0 : Int)), V.t (T.str (ByteArray.mk #[])), V.t (T.seq (4 : Nat) [])], V.t (T.int IntKind.i64 (0 : Int))]) []) (by kernel_rfl) ((rfl).trans (show (Out.val (V.tup [V.agg [V.t (T.int IntKind.i64 (0 : Int)), V.t (T.int IntKind.i64 (0 : Int)), V.t (T.str (ByteArray.mk #[])), V.t (T.seq (4 : Nat) [])], V.t (T.int IntKind.i64 (0 : Int))]) []) = Out.val (outS l.length (readE (n + (1 : Nat)) (x :: r))) [] by simp [readE, outS, vs, E.ts, E.kids, *]))
                    · let t8 : Tp pr := .b (show (decide (x.num = (0 : Int))) = false by simpa using hc8)
                      exact .tpe [t0, t1, t2, t3, t4, t5, t6, t7, t8, .b (rfl : true = true)] (Out.val (V.tup [V.agg [V.t (T.int IntKind.i64 (0 : Int)), V.t (T.int IntKind.i64 (0 : Int)), V.t (T.str (ByteArray.mk #[])), V.t (T.seq (4 : Nat) [])], V.t (T.int IntKind.i64 (0 : Int))]) []) (by kernel_rfl) ((rfl).trans (show (Out.val (V.tup [V.agg [V.t (T.int IntKind.i64 (0 : Int)), V.t (T.int IntKind.i64 (0 : Int)), V.t (T.str (ByteArray.mk #[])), V.t (T.seq (4 : Nat) [])], V.t (T.int IntKind.i64 (0 : Int))]) []) = Out.val (outS l.length (readE (n + (1 : Nat)) (x :: r))) [] by simp [readE, outS, vs, E.ts, E.kids, *]))
                  · let t7 : Tp pr := .b (show (decide (x.kind = (5 : Int))) = false by simpa using hc7)
                    exact .tpe [t0, t1, t2, t3, t4, t5, t6, t7, .b (rfl : true = true)] (Out.val (V.tup [V.agg [V.t (T.int IntKind.i64 (0 : Int)), V.t (T.int IntKind.i64 (0 : Int)), V.t (T.str (ByteArray.mk #[])), V.t (T.seq (4 : Nat) [])], V.t (T.int IntKind.i64 (0 : Int))]) []) (by kernel_rfl) ((rfl).trans (show (Out.val (V.tup [V.agg [V.t (T.int IntKind.i64 (0 : Int)), V.t (T.int IntKind.i64 (0 : Int)), V.t (T.str (ByteArray.mk #[])), V.t (T.seq (4 : Nat) [])], V.t (T.int IntKind.i64 (0 : Int))]) []) = Out.val (outS l.length (readE (n + (1 : Nat)) (x :: r))) [] by simp [readE, outS, vs, E.ts, E.kids, *]))
        · have hst2 : 0 < strength x.text.toList := by omega
          let t0 : Tp pr := .i (show ((↑(List.map Ex.ce l).length : Int) : Int) = (↑l.length : Int) by simp)
          let t1 : Tp pr := .b (show (decide (i ≥ (↑l.length : Int))) = false by (simp; omega))
          let t2 : Tp pr := .g .row (show (lkp (List.map Ex.ce l) i) = some (x.ce) from hg)
          by_cases hc3 : x.kind = (1 : Int)
          · let t3 : Tp pr := .b (show (decide (x.kind = (1 : Int))) = true by simpa using hc3)
            let t4 : Tp pr := .a (l1In_ev (x.num) ((0 : Int)) ((999999999 : Int)))
            by_cases hc5 : (0 : Int) ≤ x.num ∧ x.num ≤ (999999999 : Int)
            · let t5 : Tp pr := .b (show (decide (x.num ≥ (0 : Int)) && decide (x.num ≤ (999999999 : Int))) = true by simpa using hc5)
              by_cases hc6 : x.text = e0
              · let t6 : Tp pr := .b (show (!x.text.toList == []) = false by simpa using hc6)
                let t7 : Tp pr := .i (wrap_i64 (a := i + (1 : Int)) (by omega) (by omega))
                exact .tpe [t0, t1, t2, t3, t4, t5, t6, t7, .a (k0), .m (rfl : true = true), .n .rows (rfl : ([]) = _)] (Out.val (V.tup [V.agg [V.t (T.int IntKind.i64 x.kind), V.t (T.int IntKind.i64 x.num), V.t (T.str x.text), V.t (T.seq (4 : Nat) [])], V.t (T.int IntKind.i64 (i + (1 : Int)))]) []) (by kernel_rfl) ((((congrArg (fun x_1 => Out.val (V.tup [V.agg [V.t (T.int IntKind.i64 x_1), V.t (T.int IntKind.i64 x.num), V.t (T.str x.text), V.t (T.seq (4 : Nat) [])], V.t (T.int IntKind.i64 (i + (1 : Int)))]) []) (show (x.kind) = ((1 : Int)) by assumption)).trans (congrArg (fun x_1 => Out.val (V.tup [V.agg [V.t (T.int IntKind.i64 (1 : Int)), V.t (T.int IntKind.i64 x.num), V.t (T.str x_1), V.t (T.seq (4 : Nat) [])], V.t (T.int IntKind.i64 (i + (1 : Int)))]) []) (show (x.text) = (ByteArray.mk #[]) by assumption))).trans (congrArg (fun x_1 => Out.val (V.tup [V.agg [V.t (T.int IntKind.i64 (1 : Int)), V.t (T.int IntKind.i64 x.num), V.t (T.str (ByteArray.mk #[])), V.t (T.seq (4 : Nat) [])], V.t (T.int IntKind.i64 x_1)]) []) (show (i + (1 : Int)) = ((↑done.length : Int) + ((↑r.length : Int) + (1 : Int)) - (↑r.length : Int)) by omega))).trans (show (Out.val (V.tup [V.agg [V.t (T.int IntKind.i64 (1 : Int)), V.t (T.int IntKind.i64 x.num), V.t (T.str (ByteArray.mk #[])), V.t (T.seq (4 : Nat) [])], V.t (T.int IntKind.i64 ((↑done.length : Int) + ((↑r.length : Int) + (1 : Int)) - (↑r.length : Int)))]) []) = Out.val (outS l.length (readE (n + (1 : Nat)) (x :: r))) [] by simp [readE, outS, vs, E.ts, E.kids, *]))
              · let t6 : Tp pr := .b (show (!x.text.toList == []) = true by simpa using hc6)
                exact .tpe [t0, t1, t2, t3, t4, t5, t6] (Out.val (V.tup [V.agg [V.t (T.int IntKind.i64 (0 : Int)), V.t (T.int IntKind.i64 (0 : Int)), V.t (T.str (ByteArray.mk #[])), V.t (T.seq (4 : Nat) [])], V.t (T.int IntKind.i64 (0 : Int))]) []) (by kernel_rfl) ((rfl).trans (show (Out.val (V.tup [V.agg [V.t (T.int IntKind.i64 (0 : Int)), V.t (T.int IntKind.i64 (0 : Int)), V.t (T.str (ByteArray.mk #[])), V.t (T.seq (4 : Nat) [])], V.t (T.int IntKind.i64 (0 : Int))]) []) = Out.val (outS l.length (readE (n + (1 : Nat)) (x :: r))) [] by simp [readE, outS, vs, E.ts, E.kids, *]))
            · let t5 : Tp pr := .b (show (decide (x.num ≥ (0 : Int)) && decide (x.num ≤ (999999999 : Int))) = false by simpa using hc5)
              exact .tpe [t0, t1, t2, t3, t4, t5, .b (rfl : true = true)] (Out.val (V.tup [V.agg [V.t (T.int IntKind.i64 (0 : Int)), V.t (T.int IntKind.i64 (0 : Int)), V.t (T.str (ByteArray.mk #[])), V.t (T.seq (4 : Nat) [])], V.t (T.int IntKind.i64 (0 : Int))]) []) (by kernel_rfl) ((rfl).trans (show (Out.val (V.tup [V.agg [V.t (T.int IntKind.i64 (0 : Int)), V.t (T.int IntKind.i64 (0 : Int)), V.t (T.str (ByteArray.mk #[])), V.t (T.seq (4 : Nat) [])], V.t (T.int IntKind.i64 (0 : Int))]) []) = Out.val (outS l.length (readE (n + (1 : Nat)) (x :: r))) [] by simp [readE, outS, vs, E.ts, E.kids, *]))
          · let t3 : Tp pr := .b (show (decide (x.kind = (1 : Int))) = false by simpa using hc3)
            by_cases hc4 : x.kind = (2 : Int)
            · let t4 : Tp pr := .b (show (decide (x.kind = (2 : Int))) = true by simpa using hc4)
              let t5 : Tp pr := .a (GoodName_ev (x.text) (by assumption))
              by_cases hc6 : nameOk x.text = true
              · let t6 : Tp pr := .b (show (nameOk x.text) = true by simpa using hc6)
                by_cases hc7 : x.num = (0 : Int)
                · let t7 : Tp pr := .b (show (!decide (x.num = (0 : Int))) = false by simpa using hc7)
                  let t8 : Tp pr := .i (wrap_i64 (a := i + (1 : Int)) (by omega) (by omega))
                  exact .tpe [t0, t1, t2, t3, t4, t5, t6, t7, t8, .a (k0), .m (rfl : true = true), .n .rows (rfl : ([]) = _)] (Out.val (V.tup [V.agg [V.t (T.int IntKind.i64 x.kind), V.t (T.int IntKind.i64 x.num), V.t (T.str x.text), V.t (T.seq (4 : Nat) [])], V.t (T.int IntKind.i64 (i + (1 : Int)))]) []) (by kernel_rfl) ((((congrArg (fun x_1 => Out.val (V.tup [V.agg [V.t (T.int IntKind.i64 x_1), V.t (T.int IntKind.i64 x.num), V.t (T.str x.text), V.t (T.seq (4 : Nat) [])], V.t (T.int IntKind.i64 (i + (1 : Int)))]) []) (show (x.kind) = ((2 : Int)) by assumption)).trans (congrArg (fun x_1 => Out.val (V.tup [V.agg [V.t (T.int IntKind.i64 (2 : Int)), V.t (T.int IntKind.i64 x_1), V.t (T.str x.text), V.t (T.seq (4 : Nat) [])], V.t (T.int IntKind.i64 (i + (1 : Int)))]) []) (show (x.num) = ((0 : Int)) by assumption))).trans (congrArg (fun x_1 => Out.val (V.tup [V.agg [V.t (T.int IntKind.i64 (2 : Int)), V.t (T.int IntKind.i64 (0 : Int)), V.t (T.str x.text), V.t (T.seq (4 : Nat) [])], V.t (T.int IntKind.i64 x_1)]) []) (show (i + (1 : Int)) = ((↑done.length : Int) + ((↑r.length : Int) + (1 : Int)) - (↑r.length : Int)) by omega))).trans (show (Out.val (V.tup [V.agg [V.t (T.int IntKind.i64 (2 : Int)), V.t (T.int IntKind.i64 (0 : Int)), V.t (T.str x.text), V.t (T.seq (4 : Nat) [])], V.t (T.int IntKind.i64 ((↑done.length : Int) + ((↑r.length : Int) + (1 : Int)) - (↑r.length : Int)))]) []) = Out.val (outS l.length (readE (n + (1 : Nat)) (x :: r))) [] by simp [readE, outS, vs, E.ts, E.kids, *]))
                · let t7 : Tp pr := .b (show (!decide (x.num = (0 : Int))) = true by simpa using hc7)
                  exact .tpe [t0, t1, t2, t3, t4, t5, t6, t7] (Out.val (V.tup [V.agg [V.t (T.int IntKind.i64 (0 : Int)), V.t (T.int IntKind.i64 (0 : Int)), V.t (T.str (ByteArray.mk #[])), V.t (T.seq (4 : Nat) [])], V.t (T.int IntKind.i64 (0 : Int))]) []) (by kernel_rfl) ((rfl).trans (show (Out.val (V.tup [V.agg [V.t (T.int IntKind.i64 (0 : Int)), V.t (T.int IntKind.i64 (0 : Int)), V.t (T.str (ByteArray.mk #[])), V.t (T.seq (4 : Nat) [])], V.t (T.int IntKind.i64 (0 : Int))]) []) = Out.val (outS l.length (readE (n + (1 : Nat)) (x :: r))) [] by simp [readE, outS, vs, E.ts, E.kids, *]))
              · let t6 : Tp pr := .b (show (nameOk x.text) = false by simpa using hc6)
                exact .tpe [t0, t1, t2, t3, t4, t5, t6, .b (rfl : true = true)] (Out.val (V.tup [V.agg [V.t (T.int IntKind.i64 (0 : Int)), V.t (T.int IntKind.i64 (0 : Int)), V.t (T.str (ByteArray.mk #[])), V.t (T.seq (4 : Nat) [])], V.t (T.int IntKind.i64 (0 : Int))]) []) (by kernel_rfl) ((rfl).trans (show (Out.val (V.tup [V.agg [V.t (T.int IntKind.i64 (0 : Int)), V.t (T.int IntKind.i64 (0 : Int)), V.t (T.str (ByteArray.mk #[])), V.t (T.seq (4 : Nat) [])], V.t (T.int IntKind.i64 (0 : Int))]) []) = Out.val (outS l.length (readE (n + (1 : Nat)) (x :: r))) [] by simp [readE, outS, vs, E.ts, E.kids, *]))
            · let t4 : Tp pr := .b (show (decide (x.kind = (2 : Int))) = false by simpa using hc4)
              by_cases hc5 : x.kind = (3 : Int)
              · let t5 : Tp pr := .b (show (decide (x.kind = (3 : Int))) = true by simpa using hc5)
                let t6 : Tp pr := .b (show (decide (x.kind = (3 : Int))) = true by (simp; omega))
                by_cases hc7 : x.num = (0 : Int)
                · let t7 : Tp pr := .b (show (decide (x.num = (0 : Int))) = true by simpa using hc7)
                  by_cases hc8 : x.text = e0
                  · let t8 : Tp pr := .b (show (!x.text.toList == []) = false by simpa using hc8)
                    let t9 : Tp pr := .i (wrap_i64 (a := i + (1 : Int)) (by omega) (by omega))
                    let t12 : Tp pr := .n .rows (show (List.map (fun x => List.map C.fz x) (List.take (1 : Nat) (List.drop (0 : Nat) (List.map tc ([].append [[T.int IntKind.i64 a.kind, T.int IntKind.i64 a.nm, T.str a.text, T.seq (4 : Nat) a.kids]]))))) = [[T.int IntKind.i64 a.kind, T.int IntKind.i64 a.nm, T.str a.text, T.seq (4 : Nat) a.kids]] by simp)
                    exact .tpe [t0, t1, t2, t3, t4, t5, t6, t7, t8, t9, .a (k1), .m (rfl : true = true), t12] (Out.val (V.tup [V.agg [V.t (T.int IntKind.i64 x.kind), V.t (T.int IntKind.i64 x.num), V.t (T.str x.text), V.t (T.seq (4 : Nat) [[T.int IntKind.i64 a.kind, T.int IntKind.i64 a.nm, T.str a.text, T.seq (4 : Nat) a.kids]])], V.t (T.int IntKind.i64 ((↑l.length : Int) - (↑r1.length : Int)))]) []) (by kernel_rfl) (((((congrArg (fun x_1 => Out.val (V.tup [V.agg [V.t (T.int IntKind.i64 x_1), V.t (T.int IntKind.i64 x.num), V.t (T.str x.text), V.t (T.seq (4 : Nat) [[T.int IntKind.i64 a.kind, T.int IntKind.i64 a.nm, T.str a.text, T.seq (4 : Nat) a.kids]])], V.t (T.int IntKind.i64 ((↑l.length : Int) - (↑r1.length : Int)))]) []) (show (x.kind) = ((3 : Int)) by assumption)).trans (congrArg (fun x_1 => Out.val (V.tup [V.agg [V.t (T.int IntKind.i64 (3 : Int)), V.t (T.int IntKind.i64 x_1), V.t (T.str x.text), V.t (T.seq (4 : Nat) [[T.int IntKind.i64 a.kind, T.int IntKind.i64 a.nm, T.str a.text, T.seq (4 : Nat) a.kids]])], V.t (T.int IntKind.i64 ((↑l.length : Int) - (↑r1.length : Int)))]) []) (show (x.num) = ((0 : Int)) by assumption))).trans (congrArg (fun x => Out.val (V.tup [V.agg [V.t (T.int IntKind.i64 (3 : Int)), V.t (T.int IntKind.i64 (0 : Int)), V.t (T.str x), V.t (T.seq (4 : Nat) [[T.int IntKind.i64 a.kind, T.int IntKind.i64 a.nm, T.str a.text, T.seq (4 : Nat) a.kids]])], V.t (T.int IntKind.i64 ((↑l.length : Int) - (↑r1.length : Int)))]) []) (show (x.text) = (ByteArray.mk #[]) by assumption))).trans (congrArg (fun x => Out.val (V.tup [V.agg [V.t (T.int IntKind.i64 (3 : Int)), V.t (T.int IntKind.i64 (0 : Int)), V.t (T.str (ByteArray.mk #[])), V.t (T.seq (4 : Nat) [[T.int IntKind.i64 a.kind, T.int IntKind.i64 a.nm, T.str a.text, T.seq (4 : Nat) a.kids]])], V.t (T.int IntKind.i64 x)]) []) (show ((↑l.length : Int) - (↑r1.length : Int)) = ((↑done.length : Int) + ((↑r.length : Int) + (1 : Int)) - (↑r1.length : Int)) by omega))).trans (show (Out.val (V.tup [V.agg [V.t (T.int IntKind.i64 (3 : Int)), V.t (T.int IntKind.i64 (0 : Int)), V.t (T.str (ByteArray.mk #[])), V.t (T.seq (4 : Nat) [[T.int IntKind.i64 a.kind, T.int IntKind.i64 a.nm, T.str a.text, T.seq (4 : Nat) a.kids]])], V.t (T.int IntKind.i64 ((↑done.length : Int) + ((↑r.length : Int) + (1 : Int)) - (↑r1.length : Int)))]) []) = Out.val (outS l.length (readE (n + (1 : Nat)) (x :: r))) [] by simp [readE, outS, vs, E.ts, E.kids, *]))
                  · let t8 : Tp pr := .b (show (!x.text.toList == []) = true by simpa using hc8)
                    exact .tpe [t0, t1, t2, t3, t4, t5, t6, t7, t8] (Out.val (V.tup [V.agg [V.t (T.int IntKind.i64 (0 : Int)), V.t (T.int IntKind.i64 (0 : Int)), V.t (T.str (ByteArray.mk #[])), V.t (T.seq (4 : Nat) [])], V.t (T.int IntKind.i64 (0 : Int))]) []) (by kernel_rfl) ((rfl).trans (show (Out.val (V.tup [V.agg [V.t (T.int IntKind.i64 (0 : Int)), V.t (T.int IntKind.i64 (0 : Int)), V.t (T.str (ByteArray.mk #[])), V.t (T.seq (4 : Nat) [])], V.t (T.int IntKind.i64 (0 : Int))]) []) = Out.val (outS l.length (readE (n + (1 : Nat)) (x :: r))) [] by simp [readE, outS, vs, E.ts, E.kids, *]))
                · let t7 : Tp pr := .b (show (decide (x.num = (0 : Int))) = false by simpa using hc7)
                  exact .tpe [t0, t1, t2, t3, t4, t5, t6, t7, .b (rfl : true = true)] (Out.val (V.tup [V.agg [V.t (T.int IntKind.i64 (0 : Int)), V.t (T.int IntKind.i64 (0 : Int)), V.t (T.str (ByteArray.mk #[])), V.t (T.seq (4 : Nat) [])], V.t (T.int IntKind.i64 (0 : Int))]) []) (by kernel_rfl) ((rfl).trans (show (Out.val (V.tup [V.agg [V.t (T.int IntKind.i64 (0 : Int)), V.t (T.int IntKind.i64 (0 : Int)), V.t (T.str (ByteArray.mk #[])), V.t (T.seq (4 : Nat) [])], V.t (T.int IntKind.i64 (0 : Int))]) []) = Out.val (outS l.length (readE (n + (1 : Nat)) (x :: r))) [] by simp [readE, outS, vs, E.ts, E.kids, *]))
              · let t5 : Tp pr := .b (show (decide (x.kind = (3 : Int))) = false by simpa using hc5)
                by_cases hc6 : x.kind = (4 : Int)
                · let t6 : Tp pr := .b (show (decide (x.kind = (4 : Int))) = true by simpa using hc6)
                  by_cases hc7 : x.num = (0 : Int)
                  · let t7 : Tp pr := .b (show (decide (x.num = (0 : Int))) = true by simpa using hc7)
                    by_cases hc8 : x.text = e0
                    · let t8 : Tp pr := .b (show (!x.text.toList == []) = false by simpa using hc8)
                      let t9 : Tp pr := .i (wrap_i64 (a := i + (1 : Int)) (by omega) (by omega))
                      let t12 : Tp pr := .n .rows (show (List.map (fun x => List.map C.fz x) (List.take (1 : Nat) (List.drop (0 : Nat) (List.map tc ([].append [[T.int IntKind.i64 a.kind, T.int IntKind.i64 a.nm, T.str a.text, T.seq (4 : Nat) a.kids]]))))) = [[T.int IntKind.i64 a.kind, T.int IntKind.i64 a.nm, T.str a.text, T.seq (4 : Nat) a.kids]] by simp)
                      exact .tpe [t0, t1, t2, t3, t4, t5, t6, t7, t8, t9, .a (k1), .m (rfl : true = true), t12] (Out.val (V.tup [V.agg [V.t (T.int IntKind.i64 x.kind), V.t (T.int IntKind.i64 x.num), V.t (T.str x.text), V.t (T.seq (4 : Nat) [[T.int IntKind.i64 a.kind, T.int IntKind.i64 a.nm, T.str a.text, T.seq (4 : Nat) a.kids]])], V.t (T.int IntKind.i64 ((↑l.length : Int) - (↑r1.length : Int)))]) []) (by kernel_rfl) (((((congrArg (fun x_1 => Out.val (V.tup [V.agg [V.t (T.int IntKind.i64 x_1), V.t (T.int IntKind.i64 x.num), V.t (T.str x.text), V.t (T.seq (4 : Nat) [[T.int IntKind.i64 a.kind, T.int IntKind.i64 a.nm, T.str a.text, T.seq (4 : Nat) a.kids]])], V.t (T.int IntKind.i64 ((↑l.length : Int) - (↑r1.length : Int)))]) []) (show (x.kind) = ((4 : Int)) by assumption)).trans (congrArg (fun x_1 => Out.val (V.tup [V.agg [V.t (T.int IntKind.i64 (4 : Int)), V.t (T.int IntKind.i64 x_1), V.t (T.str x.text), V.t (T.seq (4 : Nat) [[T.int IntKind.i64 a.kind, T.int IntKind.i64 a.nm, T.str a.text, T.seq (4 : Nat) a.kids]])], V.t (T.int IntKind.i64 ((↑l.length : Int) - (↑r1.length : Int)))]) []) (show (x.num) = ((0 : Int)) by assumption))).trans (congrArg (fun x => Out.val (V.tup [V.agg [V.t (T.int IntKind.i64 (4 : Int)), V.t (T.int IntKind.i64 (0 : Int)), V.t (T.str x), V.t (T.seq (4 : Nat) [[T.int IntKind.i64 a.kind, T.int IntKind.i64 a.nm, T.str a.text, T.seq (4 : Nat) a.kids]])], V.t (T.int IntKind.i64 ((↑l.length : Int) - (↑r1.length : Int)))]) []) (show (x.text) = (ByteArray.mk #[]) by assumption))).trans (congrArg (fun x => Out.val (V.tup [V.agg [V.t (T.int IntKind.i64 (4 : Int)), V.t (T.int IntKind.i64 (0 : Int)), V.t (T.str (ByteArray.mk #[])), V.t (T.seq (4 : Nat) [[T.int IntKind.i64 a.kind, T.int IntKind.i64 a.nm, T.str a.text, T.seq (4 : Nat) a.kids]])], V.t (T.int IntKind.i64 x)]) []) (show ((↑l.length : Int) - (↑r1.length : Int)) = ((↑done.length : Int) + ((↑r.length : Int) + (1 : Int)) - (↑r1.length : Int)) by omega))).trans (show (Out.val (V.tup [V.agg [V.t (T.int IntKind.i64 (4 : Int)), V.t (T.int IntKind.i64 (0 : Int)), V.t (T.str (ByteArray.mk #[])), V.t (T.seq (4 : Nat) [[T.int IntKind.i64 a.kind, T.int IntKind.i64 a.nm, T.str a.text, T.seq (4 : Nat) a.kids]])], V.t (T.int IntKind.i64 ((↑done.length : Int) + ((↑r.length : Int) + (1 : Int)) - (↑r1.length : Int)))]) []) = Out.val (outS l.length (readE (n + (1 : Nat)) (x :: r))) [] by simp [readE, outS, vs, E.ts, E.kids, *]))
                    · let t8 : Tp pr := .b (show (!x.text.toList == []) = true by simpa using hc8)
                      exact .tpe [t0, t1, t2, t3, t4, t5, t6, t7, t8] (Out.val (V.tup [V.agg [V.t (T.int IntKind.i64 (0 : Int)), V.t (T.int IntKind.i64 (0 : Int)), V.t (T.str (ByteArray.mk #[])), V.t (T.seq (4 : Nat) [])], V.t (T.int IntKind.i64 (0 : Int))]) []) (by kernel_rfl) ((rfl).trans (show (Out.val (V.tup [V.agg [V.t (T.int IntKind.i64 (0 : Int)), V.t (T.int IntKind.i64 (0 : Int)), V.t (T.str (ByteArray.mk #[])), V.t (T.seq (4 : Nat) [])], V.t (T.int IntKind.i64 (0 : Int))]) []) = Out.val (outS l.length (readE (n + (1 : Nat)) (x :: r))) [] by simp [readE, outS, vs, E.ts, E.kids, *]))
                  · let t7 : Tp pr := .b (show (decide (x.num = (0 : Int))) = false by simpa using hc7)
                    exact .tpe [t0, t1, t2, t3, t4, t5, t6, t7, .b (rfl : true = true)] (Out.val (V.tup [V.agg [V.t (T.int IntKind.i64 (0 : Int)), V.t (T.int IntKind.i64 (0 : Int)), V.t (T.str (ByteArray.mk #[])), V.t (T.seq (4 : Nat) [])], V.t (T.int IntKind.i64 (0 : Int))]) []) (by kernel_rfl) ((rfl).trans (show (Out.val (V.tup [V.agg [V.t (T.int IntKind.i64 (0 : Int)), V.t (T.int IntKind.i64 (0 : Int)), V.t (T.str (ByteArray.mk #[])), V.t (T.seq (4 : Nat) [])], V.t (T.int IntKind.i64 (0 : Int))]) []) = Out.val (outS l.length (readE (n + (1 : Nat)) (x :: r))) [] by simp [readE, outS, vs, E.ts, E.kids, *]))
                · let t6 : Tp pr := .b (show (decide (x.kind = (4 : Int))) = false by simpa using hc6)
                  by_cases hc7 : x.kind = (5 : Int)
                  · let t7 : Tp pr := .b (show (decide (x.kind = (5 : Int))) = true by simpa using hc7)
                    by_cases hc8 : x.num = (0 : Int)
                    · let t8 : Tp pr := .b (show (decide (x.num = (0 : Int))) = true by simpa using hc8)
                      let t10 : Tp pr := .b (show (!decide (strength x.text.toList > (0 : Int))) = false by (simp; omega))
                      let t11 : Tp pr := .i (wrap_i64 (a := i + (1 : Int)) (by omega) (by omega))
                      let t14 : Tp pr := .n .rows (show (List.map (fun x => List.map C.fz x) (List.take (2 : Nat) (List.drop (0 : Nat) (List.map tc ([[T.int IntKind.i64 a.kind, T.int IntKind.i64 a.nm, T.str a.text, T.seq (4 : Nat) a.kids]].append [[T.int IntKind.i64 b.kind, T.int IntKind.i64 b.nm, T.str b.text, T.seq (4 : Nat) b.kids]]))))) = [[T.int IntKind.i64 a.kind, T.int IntKind.i64 a.nm, T.str a.text, T.seq (4 : Nat) a.kids], [T.int IntKind.i64 b.kind, T.int IntKind.i64 b.nm, T.str b.text, T.seq (4 : Nat) b.kids]] by simp)
                      exact .tpe [t0, t1, t2, t3, t4, t5, t6, t7, t8, .a (l2Strength_ev (x.text)), t10, t11, .a (k2), .m (rfl : true = true), t14] (Out.val (V.tup [V.agg [V.t (T.int IntKind.i64 x.kind), V.t (T.int IntKind.i64 x.num), V.t (T.str x.text), V.t (T.seq (4 : Nat) [[T.int IntKind.i64 a.kind, T.int IntKind.i64 a.nm, T.str a.text, T.seq (4 : Nat) a.kids], [T.int IntKind.i64 b.kind, T.int IntKind.i64 b.nm, T.str b.text, T.seq (4 : Nat) b.kids]])], V.t (T.int IntKind.i64 ((↑l.length : Int) - (↑r2.length : Int)))]) []) (by kernel_rfl) ((((congrArg (fun x_1 => Out.val (V.tup [V.agg [V.t (T.int IntKind.i64 x_1), V.t (T.int IntKind.i64 x.num), V.t (T.str x.text), V.t (T.seq (4 : Nat) [[T.int IntKind.i64 a.kind, T.int IntKind.i64 a.nm, T.str a.text, T.seq (4 : Nat) a.kids], [T.int IntKind.i64 b.kind, T.int IntKind.i64 b.nm, T.str b.text, T.seq (4 : Nat) b.kids]])], V.t (T.int IntKind.i64 ((↑l.length : Int) - (↑r2.length : Int)))]) []) (show (x.kind) = ((5 : Int)) by assumption)).trans (congrArg (fun x_1 => Out.val (V.tup [V.agg [V.t (T.int IntKind.i64 (5 : Int)), V.t (T.int IntKind.i64 x_1), V.t (T.str x.text), V.t (T.seq (4 : Nat) [[T.int IntKind.i64 a.kind, T.int IntKind.i64 a.nm, T.str a.text, T.seq (4 : Nat) a.kids], [T.int IntKind.i64 b.kind, T.int IntKind.i64 b.nm, T.str b.text, T.seq (4 : Nat) b.kids]])], V.t (T.int IntKind.i64 ((↑l.length : Int) - (↑r2.length : Int)))]) []) (show (x.num) = ((0 : Int)) by assumption))).trans (congrArg (fun x_1 => Out.val (V.tup [V.agg [V.t (T.int IntKind.i64 (5 : Int)), V.t (T.int IntKind.i64 (0 : Int)), V.t (T.str x.text), V.t (T.seq (4 : Nat) [[T.int IntKind.i64 a.kind, T.int IntKind.i64 a.nm, T.str a.text, T.seq (4 : Nat) a.kids], [T.int IntKind.i64 b.kind, T.int IntKind.i64 b.nm, T.str b.text, T.seq (4 : Nat) b.kids]])], V.t (T.int IntKind.i64 x_1)]) []) (show ((↑l.length : Int) - (↑r2.length : Int)) = ((↑done.length : Int) + ((↑r.length : Int) + (1 : Int)) - (↑r2.length : Int)) by omega))).trans (show (Out.val (V.tup [V.agg [V.t (T.int IntKind.i64 (5 : Int)), V.t (T.int IntKind.i64 (0 : Int)), V.t (T.str x.text), V.t (T.seq (4 : Nat) [[T.int IntKind.i64 a.kind, T.int IntKind.i64 a.nm, T.str a.text, T.seq (4 : Nat) a.kids], [T.int IntKind.i64 b.kind, T.int IntKind.i64 b.nm, T.str b.text, T.seq (4 : Nat) b.kids]])], V.t (T.int IntKind.i64 ((↑done.length : Int) + ((↑r.length : Int) + (1 : Int)) - (↑r2.length : Int)))]) []) = Out.val (outS l.length (readE (n + (1 : Nat)) (x :: r))) [] by simp [readE, outS, vs, E.ts, E.kids, *]))
                    · let t8 : Tp pr := .b (show (decide (x.num = (0 : Int))) = false by simpa using hc8)
                      exact .tpe [t0, t1, t2, t3, t4, t5, t6, t7, t8, .b (rfl : true = true)] (Out.val (V.tup [V.agg [V.t (T.int IntKind.i64 (0 : Int)), V.t (T.int IntKind.i64 (0 : Int)), V.t (T.str (ByteArray.mk #[])), V.t (T.seq (4 : Nat) [])], V.t (T.int IntKind.i64 (0 : Int))]) []) (by kernel_rfl) ((rfl).trans (show (Out.val (V.tup [V.agg [V.t (T.int IntKind.i64 (0 : Int)), V.t (T.int IntKind.i64 (0 : Int)), V.t (T.str (ByteArray.mk #[])), V.t (T.seq (4 : Nat) [])], V.t (T.int IntKind.i64 (0 : Int))]) []) = Out.val (outS l.length (readE (n + (1 : Nat)) (x :: r))) [] by simp [readE, outS, vs, E.ts, E.kids, *]))
                  · let t7 : Tp pr := .b (show (decide (x.kind = (5 : Int))) = false by simpa using hc7)
                    exact .tpe [t0, t1, t2, t3, t4, t5, t6, t7, .b (rfl : true = true)] (Out.val (V.tup [V.agg [V.t (T.int IntKind.i64 (0 : Int)), V.t (T.int IntKind.i64 (0 : Int)), V.t (T.str (ByteArray.mk #[])), V.t (T.seq (4 : Nat) [])], V.t (T.int IntKind.i64 (0 : Int))]) []) (by kernel_rfl) ((rfl).trans (show (Out.val (V.tup [V.agg [V.t (T.int IntKind.i64 (0 : Int)), V.t (T.int IntKind.i64 (0 : Int)), V.t (T.str (ByteArray.mk #[])), V.t (T.seq (4 : Nat) [])], V.t (T.int IntKind.i64 (0 : Int))]) []) = Out.val (outS l.length (readE (n + (1 : Nat)) (x :: r))) [] by simp [readE, outS, vs, E.ts, E.kids, *]))
end Go.Ev

/- Expressions of locals. -/
namespace Go.Ev
set_option linter.unusedVariables false
set_option linter.unusedSimpArgs false
open Go.Proofs
set_option maxRecDepth 100000
set_option linter.unusedVariables false
set_option maxHeartbeats 1000000
theorem exprOf_ev (l : List Ex) (hl : l.length ≤ 1048576) (hs : ∀ x ∈ l, x.text.size ≤ 9223372036854775807) : Ev pr (.call 58 [exs l] []) (.val (outE (parse l)) []) := by
  have h := exprFrom_ev l.length l (Nat.le_refl _) hl hs
  by_cases h40 : l.length ≤ 40
  · have h41 : ¬ (l.length : Int) > 40 := by omega
    cases h1 : readE l.length l with
    | none =>
      rw [h1] at h
      let t0 : Tp pr := .i (show ((↑(List.map Ex.ce l).length : Int) : Int) = (↑l.length : Int) by simp)
      let t1 : Tp pr := .b (show (decide ((↑l.length : Int) > (40 : Int))) = false by (simp; omega))
      let t3 : Tp pr := .i (rfl : ((0 : Int) : Int) = (0 : Int))
      exact .tpe [t0, t1, .a (h), t3, .b (rfl : false = false)] (Out.val (V.t T.nilp) []) (by kernel_rfl) ((rfl).trans (show (Out.val (V.t T.nilp) []) = Out.val (outE (parse l)) [] by simp [parse, outE, *]))
    | some p =>
      obtain ⟨e, r⟩ := p
      rw [h1] at h
      cases r with
      | nil => (
        let t0 : Tp pr := .i (show ((↑(List.map Ex.ce l).length : Int) : Int) = (↑l.length : Int) by simp)
        let t1 : Tp pr := .b (show (decide ((↑l.length : Int) > (40 : Int))) = false by (simp; omega))
        let t3 : Tp pr := .i (rfl : ((0 : Int) : Int) = (0 : Int))
        exact .tpe [t0, t1, .a (h), t3, .b (rfl : false = false)] (Out.val (V.t (T.ptr [T.int IntKind.i64 e.kind, T.int IntKind.i64 e.nm, T.str e.text, e.tab.fst, e.tab.snd] (0 : Nat))) []) (by kernel_rfl) ((rfl).trans (show (Out.val (V.t (T.ptr [T.int IntKind.i64 e.kind, T.int IntKind.i64 e.nm, T.str e.text, e.tab.fst, e.tab.snd] (0 : Nat))) []) = Out.val (outE (parse l)) [] by simp [parse, outE, E.tp, *])))
      | cons y r => (
        let t0 : Tp pr := .i (show ((↑(List.map Ex.ce l).length : Int) : Int) = (↑l.length : Int) by simp)
        let t1 : Tp pr := .b (show (decide ((↑l.length : Int) > (40 : Int))) = false by (simp; omega))
        let t3 : Tp pr := .i (show ((↑(List.map Ex.ce (y :: r)).length : Int) : Int) = (↑r.length : Int) + (1 : Int) by simp)
        let t4 : Tp pr := .b (show (decide ((↑r.length : Int) + (1 : Int) > (0 : Int))) = true by simp)
        exact .tpe [t0, t1, .a (h), t3, t4] (Out.val (V.t T.nilp) []) (by kernel_rfl) ((rfl).trans (show (Out.val (V.t T.nilp) []) = Out.val (outE (parse l)) [] by simp [parse, outE, E.tp, *])))
  · have h41 : (l.length : Int) > 40 := by omega
    let t0 : Tp pr := .i (show ((↑(List.map Ex.ce l).length : Int) : Int) = (↑l.length : Int) by simp)
    let t1 : Tp pr := .b (show (decide ((↑l.length : Int) > (40 : Int))) = true by (simp; omega))
    exact .tpe [t0, t1] (Out.val (V.t T.nilp) []) (by kernel_rfl) ((rfl).trans (show (Out.val (V.t T.nilp) []) = Out.val (outE (parse l)) [] by simp [parse, outE, *]))
theorem l2Tree_ev (l : List Ex) (hl : l.length ≤ 1048576) (hs : ∀ x ∈ l, x.text.size ≤ 9223372036854775807) : Ev pr (.call 55 [exs l] []) (.val (.tup [vs (oe (tree? l)), bl (parse l).isSome]) []) := by
  have h := l2Read_ev l hl hs l.length l [] 0 rfl rfl (Nat.le_refl _)
  by_cases h40 : l.length ≤ 40
  · have h41 : ¬ (l.length : Int) > 40 := by omega
    cases h1 : readE l.length l with
    | none =>
      rw [h1] at h
      let t0 : Tp pr := .i (show ((↑(List.map Ex.ce l).length : Int) : Int) = (↑l.length : Int) by simp)
      let t1 : Tp pr := .b (show (decide ((↑l.length : Int) > (40 : Int))) = false by (simp; omega))
      exact .tpe [t0, t1, .a (h), .b (rfl : false = false)] (Out.val (V.tup [V.agg [V.t (T.int IntKind.i64 (0 : Int)), V.t (T.int IntKind.i64 (0 : Int)), V.t (T.str (ByteArray.mk #[])), V.t (T.seq (4 : Nat) [])], V.t (T.bool false)]) []) (by kernel_rfl) ((rfl).trans (show (Out.val (V.tup [V.agg [V.t (T.int IntKind.i64 (0 : Int)), V.t (T.int IntKind.i64 (0 : Int)), V.t (T.str (ByteArray.mk #[])), V.t (T.seq (4 : Nat) [])], V.t (T.bool false)]) []) = Out.val (V.tup [vs (oe (tree? l)), bl (parse l).isSome]) [] by simp [tree?, parse, oe, *]))
    | some p =>
      obtain ⟨e, r⟩ := p
      have hlt := readE_lt _ _ _ _ h1
      rw [h1] at h
      cases r with
      | nil => (
        let t0 : Tp pr := .i (show ((↑(List.map Ex.ce l).length : Int) : Int) = (↑l.length : Int) by simp)
        let t1 : Tp pr := .b (show (decide ((↑l.length : Int) > (40 : Int))) = false by (simp; omega))
        let t3 : Tp pr := .b (show (decide ((↑l.length : Int) - (0 : Int) > (0 : Int))) = true by (simp; omega))
        let t4 : Tp pr := .i (show ((↑(List.map Ex.ce l).length : Int) : Int) = (↑l.length : Int) by simp)
        exact .tpe [t0, t1, .a (h), t3, t4] (Out.val (V.tup [V.agg [V.t (T.int IntKind.i64 e.kind), V.t (T.int IntKind.i64 e.nm), V.t (T.str e.text), V.t (T.seq (4 : Nat) e.kids)], V.t (T.bool (decide ((↑l.length : Int) - (0 : Int) = (↑l.length : Int))))]) []) (by kernel_rfl) ((congrArg (fun x => Out.val (V.tup [V.agg [V.t (T.int IntKind.i64 e.kind), V.t (T.int IntKind.i64 e.nm), V.t (T.str e.text), V.t (T.seq (4 : Nat) e.kids)], V.t (T.bool x)]) []) (show (decide ((↑l.length : Int) - (0 : Int) = (↑l.length : Int))) = (true) by simp)).trans (show (Out.val (V.tup [V.agg [V.t (T.int IntKind.i64 e.kind), V.t (T.int IntKind.i64 e.nm), V.t (T.str e.text), V.t (T.seq (4 : Nat) e.kids)], V.t (T.bool true)]) []) = Out.val (V.tup [vs (oe (tree? l)), bl (parse l).isSome]) [] by simp [tree?, parse, oe, *])))
      | cons y r => simp at hlt; (
        let t0 : Tp pr := .i (show ((↑(List.map Ex.ce l).length : Int) : Int) = (↑l.length : Int) by simp)
        let t1 : Tp pr := .b (show (decide ((↑l.length : Int) > (40 : Int))) = false by (simp; omega))
        let t3 : Tp pr := .b (show (decide ((↑l.length : Int) - (↑(y :: r).length : Int) > (0 : Int))) = true by (simp; omega))
        let t4 : Tp pr := .i (show ((↑(List.map Ex.ce l).length : Int) : Int) = (↑l.length : Int) by simp)
        exact .tpe [t0, t1, .a (h), t3, t4] (Out.val (V.tup [V.agg [V.t (T.int IntKind.i64 e.kind), V.t (T.int IntKind.i64 e.nm), V.t (T.str e.text), V.t (T.seq (4 : Nat) e.kids)], V.t (T.bool (decide ((↑l.length : Int) - (↑(y :: r).length : Int) = (↑l.length : Int))))]) []) (by kernel_rfl) ((congrArg (fun x => Out.val (V.tup [V.agg [V.t (T.int IntKind.i64 e.kind), V.t (T.int IntKind.i64 e.nm), V.t (T.str e.text), V.t (T.seq (4 : Nat) e.kids)], V.t (T.bool x)]) []) (show (decide ((↑l.length : Int) - (↑(y :: r).length : Int) = (↑l.length : Int))) = (false) by (simp <;> omega))).trans (show (Out.val (V.tup [V.agg [V.t (T.int IntKind.i64 e.kind), V.t (T.int IntKind.i64 e.nm), V.t (T.str e.text), V.t (T.seq (4 : Nat) e.kids)], V.t (T.bool false)]) []) = Out.val (V.tup [vs (oe (tree? l)), bl (parse l).isSome]) [] by simp [tree?, parse, oe, *])))
  · have h41 : (l.length : Int) > 40 := by omega
    let t0 : Tp pr := .i (show ((↑(List.map Ex.ce l).length : Int) : Int) = (↑l.length : Int) by simp)
    let t1 : Tp pr := .b (show (decide ((↑l.length : Int) > (40 : Int))) = true by (simp; omega))
    exact .tpe [t0, t1] (Out.val (V.tup [V.agg [V.t (T.int IntKind.i64 (0 : Int)), V.t (T.int IntKind.i64 (0 : Int)), V.t (T.str (ByteArray.mk #[])), V.t (T.seq (4 : Nat) [])], V.t (T.bool false)]) []) (by kernel_rfl) ((rfl).trans (show (Out.val (V.tup [V.agg [V.t (T.int IntKind.i64 (0 : Int)), V.t (T.int IntKind.i64 (0 : Int)), V.t (T.str (ByteArray.mk #[])), V.t (T.seq (4 : Nat) [])], V.t (T.bool false)]) []) = Out.val (V.tup [vs (oe (tree? l)), bl (parse l).isSome]) [] by simp [tree?, parse, oe, *]))
theorem nameNo_ev (s : ByteArray) : Ev pr (.call 77 [.t (.str s)] []) (.val (i64 (nameNo s)) []) := by
  by_cases h : s.size = 1
  · obtain ⟨b, hb, hg⟩ := one_byte h
    let t1 : Tp pr := .b (show ((↑s.size : Int) != (1 : Int)) = false by (simp; omega))
    let t2 : Tp pr := .g .u8 (show (lkpS s (0 : Int)) = some (b) from hg)
    by_cases hc3 : (↑b.toNat : Int) < (97 : Int)
    · let t3 : Tp pr := .b (show (decide ((↑b.toNat : Int) < (97 : Int))) = true by simpa using hc3)
      exact .tpe [.i (rfl : ((↑s.size : Int)) = _), t1, t2, t3, .b (rfl : true = true)] (Out.val (V.t (T.int IntKind.i64 (-1 : Int))) []) (by kernel_rfl) ((congrArg (fun x => Out.val (V.t (T.int IntKind.i64 x)) []) (show ((-1 : Int)) = (if (97 : Int) ≤ (↑b.toNat : Int) ∧ (↑b.toNat : Int) ≤ (106 : Int) then (↑b.toNat : Int) - (97 : Int) else (-1 : Int)) by omega)).trans (show (Out.val (V.t (T.int IntKind.i64 (if (97 : Int) ≤ (↑b.toNat : Int) ∧ (↑b.toNat : Int) ≤ (106 : Int) then (↑b.toNat : Int) - (97 : Int) else (-1 : Int)))) []) = Out.val (i64 (nameNo s)) [] by simp [nameNo, *]))
    · let t3 : Tp pr := .b (show (decide ((↑b.toNat : Int) < (97 : Int))) = false by simpa using hc3)
      let t4 : Tp pr := .g .u8 (show (lkpS s (0 : Int)) = some (b) from hg)
      by_cases hc5 : (106 : Int) < (↑b.toNat : Int)
      · let t5 : Tp pr := .b (show (decide ((↑b.toNat : Int) > (106 : Int))) = true by simpa using hc5)
        exact .tpe [.i (rfl : ((↑s.size : Int)) = _), t1, t2, t3, t4, t5] (Out.val (V.t (T.int IntKind.i64 (-1 : Int))) []) (by kernel_rfl) ((congrArg (fun x => Out.val (V.t (T.int IntKind.i64 x)) []) (show ((-1 : Int)) = (if (97 : Int) ≤ (↑b.toNat : Int) ∧ (↑b.toNat : Int) ≤ (106 : Int) then (↑b.toNat : Int) - (97 : Int) else (-1 : Int)) by omega)).trans (show (Out.val (V.t (T.int IntKind.i64 (if (97 : Int) ≤ (↑b.toNat : Int) ∧ (↑b.toNat : Int) ≤ (106 : Int) then (↑b.toNat : Int) - (97 : Int) else (-1 : Int)))) []) = Out.val (i64 (nameNo s)) [] by simp [nameNo, *]))
      · let t5 : Tp pr := .b (show (decide ((↑b.toNat : Int) > (106 : Int))) = false by simpa using hc5)
        let t6 : Tp pr := .g .u8 (show (lkpS s (0 : Int)) = some (b) from hg)
        let t7 : Tp pr := .i (wrap_u8 (a := (↑b.toNat : Int) - (97 : Int)) (by omega) (by omega))
        let t8 : Tp pr := .i (wrap_i64 (a := (↑b.toNat : Int) - (97 : Int)) (by omega) (by omega))
        exact .tpe [.i (rfl : ((↑s.size : Int)) = _), t1, t2, t3, t4, t5, t6, t7, t8] (Out.val (V.t (T.int IntKind.i64 ((↑b.toNat : Int) - (97 : Int)))) []) (by kernel_rfl) ((congrArg (fun x => Out.val (V.t (T.int IntKind.i64 x)) []) (show ((↑b.toNat : Int) - (97 : Int)) = (if (97 : Int) ≤ (↑b.toNat : Int) ∧ (↑b.toNat : Int) ≤ (106 : Int) then (↑b.toNat : Int) - (97 : Int) else (-1 : Int)) by omega)).trans (show (Out.val (V.t (T.int IntKind.i64 (if (97 : Int) ≤ (↑b.toNat : Int) ∧ (↑b.toNat : Int) ≤ (106 : Int) then (↑b.toNat : Int) - (97 : Int) else (-1 : Int)))) []) = Out.val (i64 (nameNo s)) [] by simp [nameNo, *]))
  · have h2 := nameNo_size h
    rw [h2]
    let t1 : Tp pr := .b (show ((↑s.size : Int) != (1 : Int)) = true by (simp; omega))
    exact .tp [.i (rfl : ((↑s.size : Int)) = _), t1, .b (rfl : true = true), .b (rfl : true = true)] (by kernel_rfl)
theorem localBad_ev (x : Ex) : Ev pr (.call 76 [vs x.ce] []) (.val (bl (bad x)) []) := by
  by_cases hc0 : x.kind = (2 : Int)
  · let t0 : Tp pr := .b (show (decide (x.kind = (2 : Int))) = true by simpa using hc0)
    exact .tpe [t0, .a (nameNo_ev (x.text))] (Out.val (V.t (T.bool (decide (nameNo x.text < (0 : Int))))) []) (by kernel_rfl) (congrArg (fun x => Out.val (V.t (T.bool x)) []) (show (decide (nameNo x.text < (0 : Int))) = (bad x) by simp [bad, *]))
  · let t0 : Tp pr := .b (show (decide (x.kind = (2 : Int))) = false by simpa using hc0)
    exact .tpe [t0] (Out.val (V.t (T.bool false)) []) (by kernel_rfl) (congrArg (fun x => Out.val (V.t (T.bool x)) []) (show (false) = (bad x) by simp [bad, *]))
theorem idxEx_ev (l : List Ex) (hl : l.length ≤ 1048576) : ∀ (rest done : List Ex) (i : Int), l = done ++ rest → i = done.length →
    Ev pr (.loop (lq pr 94 0) (at_ [(0, exs l), (1, .t (.clo 76 [])), (7, i64 l.length), (8, i64 i)] [] 0))
      (if 0 ≤ idxFrom bad i rest then .ret (at_ [(4, i64 (idxFrom bad i rest))] [] 0) else .exit 0 (at_ [] [] 0))
  | [], done, i, h, hi => by
    have hll : (l.length : Int) = done.length := by simp [h]
    let t0 : Tp pr := .b (show (decide (i < (↑l.length : Int))) = false by (simp; omega))
    exact .tp [t0] (by kernel_rfl)
  | x :: rest, done, i, h, hi => by
    have hll : (l.length : Int) = done.length + 1 + rest.length := by simp [h]; omega
    have hg : lkp (l.map Ex.ce) i = some x.ce := by subst hi; subst h; simp
    have ih := idxEx_ev l hl rest (done ++ [x]) (i + 1) (by simp [h]) (by simp [hi])
    have hi0 : 0 ≤ i := by omega
    cases hb : bad x with
    | true => (
      let t0 : Tp pr := .b (show (decide (i < (↑l.length : Int))) = true by (simp; omega))
      let t1 : Tp pr := .g .row (show (lkp (List.map Ex.ce l) i) = some (x.ce) from hg)
      exact .tpe [t0, t1, .a (localBad_ev (x)), .b (show (bad x) = true by assumption)] (Out.ret (at_ [((4 : Nat), V.t (T.int IntKind.i64 i))] [] (0 : Nat))) (by kernel_rfl) ((rfl).trans (show (Out.ret (at_ [((4 : Nat), V.t (T.int IntKind.i64 i))] [] (0 : Nat))) = if (0 : Int) ≤ idxFrom bad i (x :: rest) then Out.ret (at_ [((4 : Nat), i64 (idxFrom bad i (x :: rest)))] [] (0 : Nat)) else Out.exit (0 : Nat) (at_ [] [] (0 : Nat)) by simp [idxFrom, hb, hi0])))
    | false =>
      have hI : idxFrom bad i (x :: rest) = idxFrom bad (i + 1) rest := by simp [idxFrom, hb]
      rw [hI]
      by_cases h0 : 0 ≤ idxFrom bad (i + 1) rest
      · rw [if_pos h0] at ih ⊢; (
        let t0 : Tp pr := .b (show (decide (i < (↑l.length : Int))) = true by (simp; omega))
        let t1 : Tp pr := .g .row (show (lkp (List.map Ex.ce l) i) = some (x.ce) from hg)
        let t4 : Tp pr := .i (wrap_i64 (a := i + (1 : Int)) (by omega) (by omega))
        exact .tp [t0, t1, .a (localBad_ev (x)), .b (show (bad x) = false by assumption), t4, .a (ih)] (by kernel_rfl))
      · rw [if_neg h0] at ih ⊢; (
        let t0 : Tp pr := .b (show (decide (i < (↑l.length : Int))) = true by (simp; omega))
        let t1 : Tp pr := .g .row (show (lkp (List.map Ex.ce l) i) = some (x.ce) from hg)
        let t4 : Tp pr := .i (wrap_i64 (a := i + (1 : Int)) (by omega) (by omega))
        exact .tp [t0, t1, .a (localBad_ev (x)), .b (show (bad x) = false by assumption), t4, .a (ih)] (by kernel_rfl))
theorem idxExs_ev (l : List Ex) (hl : l.length ≤ 1048576) : Ev pr (.call 94 [exs l, .t (.clo 76 [])] []) (.val (i64 (idxFrom bad 0 l)) []) := by
  have h := idxEx_ev l hl l [] 0 rfl rfl
  have h2 := idxFrom_neg bad l 0 (Int.le_refl _)
  by_cases h0 : 0 ≤ idxFrom bad 0 l
  · rw [if_pos h0] at h; (
    let t0 : Tp pr := .i (show ((↑(List.map Ex.ce l).length : Int) : Int) = (↑l.length : Int) by simp)
    exact .tp [t0, .a (h)] (by kernel_rfl))
  · rw [if_neg h0] at h; rw [h2 h0]; (
    let t0 : Tp pr := .i (show ((↑(List.map Ex.ce l).length : Int) : Int) = (↑l.length : Int) by simp)
    exact .tp [t0, .a (h)] (by kernel_rfl))
theorem anyBad_ev (l : List Ex) (hl : l.length ≤ 1048576) : Ev pr (.call 75 [exs l, .t (.clo 76 [])] []) (.val (bl (l.any bad)) []) := by
  rw [← idxFrom_any bad l 0 (by omega)]
  exact .tp [.a (idxExs_ev (l) (by assumption))] (by kernel_rfl)
theorem localExpr_ev (l : List Ex) (hl : l.length ≤ 1048576) (hs : ∀ x ∈ l, x.text.size ≤ 9223372036854775807) : Ev pr (.call 50 [exs l] []) (.val (outE (parseL l)) []) := by
  have h := exprOf_ev l hl hs
  cases hp : parse l with
  | none => rw [hp] at h; (
    by_cases hc1 : ∃ x, x ∈ l ∧ bad x = true
    · let t1 : Tp pr := .b (show (l.any bad) = true by simpa using hc1)
      exact .tpe [.a (anyBad_ev (l) (by assumption)), t1] (Out.val (V.t T.nilp) []) (by kernel_rfl) ((rfl).trans (show (Out.val (V.t T.nilp) []) = Out.val (outE (parseL l)) [] by simp [parseL, outE, *]))
    · let t1 : Tp pr := .b (show (l.any bad) = false by simpa using hc1)
      exact .tpe [.a (anyBad_ev (l) (by assumption)), t1, .a (h)] (Out.val (V.t T.nilp) []) (by kernel_rfl) ((rfl).trans (show (Out.val (V.t T.nilp) []) = Out.val (outE (parseL l)) [] by simp [parseL, outE, *])))
  | some e => rw [hp] at h; (
    by_cases hc1 : ∃ x, x ∈ l ∧ bad x = true
    · let t1 : Tp pr := .b (show (l.any bad) = true by simpa using hc1)
      exact .tpe [.a (anyBad_ev (l) (by assumption)), t1] (Out.val (V.t T.nilp) []) (by kernel_rfl) ((rfl).trans (show (Out.val (V.t T.nilp) []) = Out.val (outE (parseL l)) [] by simp [parseL, outE, E.tp, *]))
    · let t1 : Tp pr := .b (show (l.any bad) = false by simpa using hc1)
      exact .tpe [.a (anyBad_ev (l) (by assumption)), t1, .a (h)] (Out.val (V.t (T.ptr [T.int IntKind.i64 e.kind, T.int IntKind.i64 e.nm, T.str e.text, e.tab.fst, e.tab.snd] (0 : Nat))) []) (by kernel_rfl) ((rfl).trans (show (Out.val (V.t (T.ptr [T.int IntKind.i64 e.kind, T.int IntKind.i64 e.nm, T.str e.text, e.tab.fst, e.tab.snd] (0 : Nat))) []) = Out.val (outE (parseL l)) [] by simp [parseL, outE, E.tp, *])))
theorem NameNoS_ev (s : ByteArray) : Ev pr (.call 73 [.t (.str s)] []) (.val (if nameNo s < 0 then .tup [i64 0, bl false] else .tup [i64 (nameNo s), bl true]) []) := by
  by_cases h : s.size = 1
  · obtain ⟨b, hb, hg⟩ := one_byte h
    by_cases hr : 97 ≤ (b.toNat : Int) ∧ (b.toNat : Int) ≤ 106
    · have hn : nameNo s = b.toNat - 97 := by simp [nameNo, hb, hr]
      have h97 : ¬ (b.toNat : Int) < 97 := by omega
      have h106 : ¬ (b.toNat : Int) > 106 := by omega
      rw [hn, if_neg (by omega)]
      let t1 : Tp pr := .b (show ((↑s.size : Int) != (1 : Int)) = false by (simp; omega))
      let t2 : Tp pr := .g .u8 (show (lkpS s (0 : Int)) = some (b) from hg)
      let t3 : Tp pr := .b (show (decide ((↑b.toNat : Int) < (97 : Int))) = false by (simp; omega))
      let t4 : Tp pr := .g .u8 (show (lkpS s (0 : Int)) = some (b) from hg)
      let t5 : Tp pr := .b (show (decide ((↑b.toNat : Int) > (106 : Int))) = false by (simp; omega))
      let t6 : Tp pr := .g .u8 (show (lkpS s (0 : Int)) = some (b) from hg)
      let t7 : Tp pr := .i (wrap_u8 (a := (↑b.toNat : Int) - (97 : Int)) (by omega) (by omega))
      let t8 : Tp pr := .i (wrap_i64 (a := (↑b.toNat : Int) - (97 : Int)) (by omega) (by omega))
      exact .tp [.i (rfl : ((↑s.size : Int)) = _), t1, t2, t3, t4, t5, t6, t7, t8] (by kernel_rfl)
    · have hn : nameNo s = -1 := by simp [nameNo, hb, hr]
      rw [hn, if_pos (by omega)]
      by_cases h97 : (b.toNat : Int) < 97
      · let t1 : Tp pr := .b (show ((↑s.size : Int) != (1 : Int)) = false by (simp; omega))
        let t2 : Tp pr := .g .u8 (show (lkpS s (0 : Int)) = some (b) from hg)
        let t3 : Tp pr := .b (show (decide ((↑b.toNat : Int) < (97 : Int))) = true by (simp; omega))
        exact .tp [.i (rfl : ((↑s.size : Int)) = _), t1, t2, t3, .b (rfl : true = true)] (by kernel_rfl)
      · have h106 : (b.toNat : Int) > 106 := by omega
        let t1 : Tp pr := .b (show ((↑s.size : Int) != (1 : Int)) = false by (simp; omega))
        let t2 : Tp pr := .g .u8 (show (lkpS s (0 : Int)) = some (b) from hg)
        let t3 : Tp pr := .b (show (decide ((↑b.toNat : Int) < (97 : Int))) = false by (simp; omega))
        let t4 : Tp pr := .g .u8 (show (lkpS s (0 : Int)) = some (b) from hg)
        let t5 : Tp pr := .b (show (decide ((↑b.toNat : Int) > (106 : Int))) = true by (simp; omega))
        exact .tp [.i (rfl : ((↑s.size : Int)) = _), t1, t2, t3, t4, t5] (by kernel_rfl)
  · have h2 := nameNo_size h
    rw [h2]
    let t1 : Tp pr := .b (show ((↑s.size : Int) != (1 : Int)) = true by (simp; omega))
    exact .tp [.i (rfl : ((↑s.size : Int)) = _), t1, .b (rfl : true = true), .b (rfl : true = true)] (by kernel_rfl)
end Go.Ev
