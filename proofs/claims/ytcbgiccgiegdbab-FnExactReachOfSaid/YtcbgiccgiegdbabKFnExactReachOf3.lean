import Derived.Test.YtcbgiccgiegdbabKFnExactReachOf2
/- The evaluator, twenty-third text: the same machine once more, az a tree of questions. What is not known while a function is walked (a call's answer, a test, an element, a sum) is asked for; a trace answers. -/
namespace Go.Ev
set_option linter.unusedVariables false
set_option linter.unusedSimpArgs false
set_option linter.unusedVariables false
set_option linter.unusedSimpArgs false
inductive Ty where
  | int | nat | rows | crows | str | row | crow | u8
  deriving DecidableEq
@[reducible] def Ty.ty : Ty → Type
  | .int => Int
  | .nat => Nat
  | .rows => List (List T)
  | .crows => List (List C)
  | .str => ByteArray
  | .row => List T
  | .crow => List C
  | .u8 => UInt8
inductive Fm where
  | fail
  | ret (o : Out)
  | ask (q : Q) (k : Out → Fm)
  | br (b : Bool) (k : Bool → Fm)
  | must (b : Bool) (k : Fm)
  | nrm (t : Ty) (x : t.ty) (k : t.ty → Fm)
  | get (t : Ty) (x : Option t.ty) (k : t.ty → Fm)
def interp (E : Q → Option Out) : Fm → Option Out
  | .fail => none
  | .ret o => some o
  | .ask q k => (E q).bind fun o => interp E (k o)
  | .br b k => interp E (k b)
  | .must b k => bif b then interp E k else none
  | .nrm _ x k => interp E (k x)
  | .get _ x k => x.bind fun v => interp E (k v)
def Mo (α : Type) : Type := (α → Fm) → Fm
section
variable {α β γ : Type}
def pureM (a : α) : Mo α := fun k => k a
def bnd (m : Mo α) (f : α → Mo β) : Mo β := fun k => m fun a => f a k
def failM : Mo α := fun _ => .fail
def optM (x : Option α) : Mo α := fun k => match x with
  | some a => k a
  | none => .fail
def mustM (b : Bool) : Mo Unit := fun k => .must b (k ())
def brM (b : Bool) : Mo Bool := fun k => .br b k
def nrmM (t : Ty) (x : t.ty) : Mo t.ty := fun k => .nrm t x k
def getM (t : Ty) (x : Option t.ty) : Mo t.ty := fun k => .get t x k
def askM (q : Q) : Mo Out := fun k => .ask q k
def mapMo (f : α → Mo β) : List α → Mo (List β)
  | [] => pureM []
  | a :: l => bnd (f a) fun b => bnd (mapMo f l) fun r => pureM (b :: r)
def lkp (es : List α) (i : Int) : Option α := if 0 ≤ i then es[i.toNat]? else none
def lkpS (s : ByteArray) (i : Int) : Option UInt8 := if 0 ≤ i then s[i.toNat]? else none
end
/-! Values are told at once, so that they are told once. -/
def seqV1 {α : Type} (v : V) (k : V → α) : α :=
  match v with
  | .undef => k .undef
  | .t x => k (.t x)
  | .ptr a b c d => k (.ptr a b c d)
  | .vec a b c d e => k (.vec a b c d e)
  | .row a b c d e f => k (.row a b c d e f)
  | .rptr a b c d e f => k (.rptr a b c d e f)
  | .agg vs => k (.agg vs)
  | .tup vs => k (.tup vs)
  | .clo f vs => k (.clo f vs)
def seqL {α : Type} : List V → (List V → α) → α
  | [], k => k []
  | v :: r, k => seqV1 v fun v => seqL r fun r => k (v :: r)
def seqV {α : Type} (v : V) (k : V → α) : α :=
  match v with
  | .undef => k .undef
  | .t x => k (.t x)
  | .ptr a b c d => k (.ptr a b c d)
  | .vec a b c d e => k (.vec a b c d e)
  | .row a b c d e f => k (.row a b c d e f)
  | .rptr a b c d e f => k (.rptr a b c d e f)
  | .agg vs => seqL vs fun vs => k (.agg vs)
  | .tup vs => seqL vs fun vs => k (.tup vs)
  | .clo f vs => seqL vs fun vs => k (.clo f vs)
def seqP {α : Type} : List (Nat × V) → (List (Nat × V) → α) → α
  | [], k => k []
  | (t, v) :: r, k => seqV v fun v => seqP r fun r => k ((t, v) :: r)
theorem seqV1_eq {α : Type} (v : V) (k : V → α) : seqV1 v k = k v := by cases v <;> rfl
theorem seqL_eq {α : Type} : ∀ (l : List V) (k : List V → α), seqL l k = k l
  | [], k => rfl
  | v :: r, k => by simp only [seqL, seqV1_eq, seqL_eq r]
theorem seqV_eq {α : Type} (v : V) (k : V → α) : seqV v k = k v := by cases v <;> simp only [seqV, seqL_eq]
theorem seqP_eq {α : Type} : ∀ (l : List (Nat × V)) (k : List (Nat × V) → α), seqP l k = k l
  | [], k => rfl
  | (t, v) :: r, k => by simp only [seqP, seqV_eq, seqP_eq r]
/-! Freezing, reading, writing. -/
def fzM (M : Mem) : Nat → V → Mo T
  | 0, _ => failM
  | _ + 1, .t x => pureM x
  | _ + 1, .vec id n sz off len => match M id with
    | some (.vec _ sz' es) => if sz' = sz then bnd (mustM (decide (es.length = n ∧ off + len ≤ n))) fun _ => bnd (nrmM .rows (((es.drop off).take len).map (·.map C.fz))) fun es' => pureM (.seq sz es') else failM
    | _ => failM
  | _ + 1, .row id n i j sz len => match M id with
    | some (.vec _ _ es) => bnd (mustM (decide (es.length = n))) fun _ => bnd (getM .crow es[i]?) fun el => match el[j]? with
        | some (.row sz' r) => if sz' = sz then bnd (mustM (decide (r.length = len))) fun _ => pureM (.seq sz r) else failM
        | _ => failM
    | _ => failM
  | k + 1, .ptr id n i o => match M id with
    | some (.box cs) => if n = 1 ∧ i = 0 then bnd (mapMo (fzM M k) cs) fun l => pureM (T.ptr l o) else failM
    | some (.vec _ _ es) => bnd (mustM (decide (es.length = n))) fun _ => bnd (getM .crow es[i]?) fun e => pureM (T.ptr (e.map C.fz) o)
    | _ => failM
  | k + 1, .clo f caps => bnd (mapMo (fzM M k) caps) fun l => pureM (T.clo f l)
  | _ + 1, _ => failM
def fz1M (M : Mem) : V → Mo V
  | .agg vs => bnd (mapMo (fzM M 16) vs) fun l => pureM (V.agg (l.map V.t))
  | v => bnd (fzM M 16 v) fun x => pureM (V.t x)
def fzVM (M : Mem) : V → Mo V
  | .tup vs => bnd (mapMo (fz1M M) vs) fun l => pureM (V.tup l)
  | v => fz1M M v
def mvVM (M : Mem) (v : V) : Mo (V × Mem) :=
  bnd (fzVM M v) fun v' => match v with
    | .t _ => pureM (v', M)
    | _ => bnd (optM (clos M fuel0 v.refs [])) fun L => pureM (v', killL L M)
def rdM (M : Mem) (p : V) (k : Nat) : Mo V :=
  match p with
  | .t (.ptr cs o) => optM ((cs[o + k]?).map V.t)
  | .ptr id n i o => match M id with
    | some (.box cs) => if n = 1 ∧ i = 0 then optM (cs[o + k]?) else failM
    | some (.vec _ _ es) => bnd (mustM (decide (es.length = n))) fun _ => bnd (getM .crow es[i]?) fun e => optM ((e[o + k]?).map (rdC id n i (o + k)))
    | _ => failM
  | .rptr id n i j e o => match M id with
    | some (.vec _ _ es) => bnd (mustM (decide (es.length = n))) fun _ => bnd (getM .crow es[i]?) fun el => match el[j]? with
        | some (.row _ r) => bnd (getM .row r[e]?) fun g => optM ((g[o + k]?).map V.t)
        | _ => failM
    | _ => failM
  | _ => failM
def rdsM (M : Mem) (p : V) : Nat → Nat → Mo (List V)
  | _, 0 => pureM []
  | i, n + 1 => bnd (rdM M p i) fun v => bnd (rdsM M p (i + 1) n) fun l => pureM (v :: l)
def ldM (M : Mem) (p : V) (agg : Bool) (n : Nat) : Mo V :=
  bif agg then (bif n == 0 then failM else bnd (rdsM M p 0 n) fun l => pureM (.agg l)) else rdM M p 0
def asC (p : V × Mem) : Mo (C × Mem) := match p with
  | (.t x, M') => pureM (.t x, M')
  | _ => failM
def toCM (nest : Bool) (M : Mem) : V → Mo (C × Mem)
  | .t x => pureM (.t x, M)
  | .vec id n sz off len => bif nest then failM else bnd (mvVM M (.vec id n sz off len)) asC
  | v => bnd (mvVM M v) asC
def toCsM (nest : Bool) (M : Mem) : List V → Mo (List C × Mem)
  | [] => pureM ([], M)
  | v :: vs => bnd (toCM nest M v) fun p => bnd (toCsM nest p.2 vs) fun q => pureM (p.1 :: q.1, q.2)
def toCssM (nest : Bool) (M : Mem) : List (List V) → Mo (List (List C) × Mem)
  | [] => pureM ([], M)
  | v :: vs => bnd (toCsM nest M v) fun p => bnd (toCssM nest p.2 vs) fun q => pureM (p.1 :: q.1, q.2)
def wr0M (nest : Bool) (M : Mem) (p : V) (k : Nat) (v : V) : Mo Mem :=
  match p with
  | .ptr id n i o => match M id with
    | some (.box cs) => if n = 1 ∧ i = 0 ∧ o + k < cs.length ∧ v.isCell = true then seqL (cs.set (o + k) v) fun cs' => pureM (upd M id (some (.box cs'))) else failM
    | some (.vec ..) => bnd (toCM nest M v) fun q => match q.2 id with
      | some (.vec fl sz es) => bnd (mustM (decide (es.length = n))) fun _ => bnd (getM .crow es[i]?) fun e => match e[o + k]? with
          | some (.t _) => bnd (nrmM .crows (es.set i (e.set (o + k) q.1))) fun es' => pureM (upd q.2 id (some (.vec (fl && q.1.isT) sz es')))
          | _ => failM
      | _ => failM
    | _ => failM
  | _ => failM
def wrNM (M : Mem) (id n i c id2 n2 sz2 off2 len2 : Nat) : Mo Mem :=
  if id = id2 ∨ off2 ≠ 0 then failM else
  match M id2 with
  | some (.vec fl2 sz2' es2) => if sz2' = sz2 ∧ fl2 = true then bnd (mustM (decide (es2.length = n2 ∧ len2 ≤ n2))) fun _ =>
      match M id with
      | some (.vec _ sz es) => bnd (mustM (decide (es.length = n))) fun _ => bnd (getM .crow es[i]?) fun e => match e[c]? with
          | some (.t _) => bnd (nrmM .rows ((es2.take len2).map (·.map C.fz))) fun r => bnd (nrmM .crows (es.set i (e.set c (.row sz2 r)))) fun es' => pureM (upd (upd M id2 (some .dead)) id (some (.vec false sz es')))
          | _ => failM
      | _ => failM
    else failM
  | _ => failM
def wrRM (M : Mem) (id n i j e o k : Nat) (v : V) : Mo Mem :=
  if v.isCell = true then bnd (toCM false M v) fun q => match q.1, q.2 id with
    | .t x, some (.vec fl sz es) => bnd (mustM (decide (es.length = n))) fun _ => bnd (getM .crow es[i]?) fun el => match el[j]? with
        | some (.row s r) => bnd (getM .row r[e]?) fun g => bnd (mustM (decide (o + k < g.length))) fun _ =>
            bnd (nrmM .crows (es.set i (el.set j (.row s (r.set e (g.set (o + k) x)))))) fun es' => pureM (upd q.2 id (some (.vec fl sz es')))
        | _ => failM
    | _, _ => failM
  else failM
def wrM (nest : Bool) (M : Mem) (p : V) (k : Nat) (v : V) : Mo Mem :=
  match p, v with
  | .rptr id n i j e o, v => wrRM M id n i j e o k v
  | .ptr id n i o, .vec id2 n2 sz2 off2 len2 => bif nest && isVecO (M id) then wrNM M id n i (o + k) id2 n2 sz2 off2 len2 else wr0M false M (.ptr id n i o) k (.vec id2 n2 sz2 off2 len2)
  | p, v => wr0M false M p k v
def wrs0M (nest : Bool) (M : Mem) (p : V) : Nat → List V → Mo Mem
  | _, [] => pureM M
  | i, v :: vs => bnd (wrM nest M p i v) fun M' => wrs0M nest M' p (i + 1) vs
/-- A whole element of data is written at once. -/
def wrsM (nest : Bool) (M : Mem) (p : V) (vs : List V) : Mo Mem :=
  match p with
  | .ptr id n j 0 => match M id, vs.mapM tOf with
    | some (.vec fl sz es), some ts => bnd (mustM (decide (es.length = n))) fun _ => bnd (getM .crow es[j]?) fun e =>
        if e.length = ts.length ∧ e.all C.isT = true then bnd (nrmM .crows (es.set j (ts.map C.t))) fun es' => pureM (upd M id (some (.vec fl sz es'))) else wrs0M nest M p 0 vs
    | _, _ => wrs0M nest M p 0 vs
  | _ => wrs0M nest M p 0 vs
/-! Operations on data. -/
def nrmV (x : Option V) : Mo V :=
  match x with
  | some (.t (.int k n)) => bnd (nrmM .int n) fun n => pureM (.t (.int k n))
  | some v => pureM v
  | none => failM
/-- A power of two, az far az it is of use. -/
def pow2 (b : Int) (w : Nat) : Int := 2 ^ min b.toNat w
def binM (P : Program) (op : BinOp) (t : TypeId) (x y : V) : Mo V :=
  match op, x, y with
  | .add, .t (.str a), .t (.str b) => bnd (mustM (decide (a.size + b.size ≤ 9223372036854775807))) fun _ => bnd (nrmM .str (a ++ b)) fun s => pureM (.t (.str s))
  | .quo, .t (.int k a), .t (.int k' b) => if k = k' then bnd (mustM (decide (b ≠ 0))) fun _ => bnd (nrmM .int (k.wrap (a.tdiv b))) fun n => pureM (.t (.int k n)) else failM
  | .rem, .t (.int k a), .t (.int k' b) => if k = k' then bnd (mustM (decide (b ≠ 0))) fun _ => bnd (nrmM .int (a.tmod b)) fun n => pureM (.t (.int k n)) else failM
  | .shl, .t (.int k a), .t (.int _ b) => bnd (mustM (decide (0 ≤ b))) fun _ => bnd (nrmM .int (k.wrap (a * pow2 b k.bits))) fun n => pureM (.t (.int k n))
  | .shr, .t (.int k a), .t (.int _ b) => bnd (mustM (decide (0 ≤ b))) fun _ => bnd (nrmM .int (a.fdiv (pow2 b k.bits))) fun n => pureM (.t (.int k n))
  | op, x, .t .nils => match x with
    | .t .nils => nrmV (bin P op t (.t .nils) (.t .nils))
    | x => bnd (mustM (decide (0 < lenN x))) fun _ => optM (binN P op t)
  | op, x, y => nrmV (bin P op t x y)
def idxAM (sz : Nat) (x i : V) : Mo V :=
  match i with
  | .t (.int _ i) => match x with
      | .t (.seq sz' es) => if sz' = sz then bnd (getM .row (lkp es i)) fun e => pureM (.t (.ptr e 0)) else failM
      | .vec id n sz' off len => if sz' = sz then bnd (mustM (decide (0 ≤ i ∧ i.toNat < len))) fun _ => bnd (nrmM .nat (off + i.toNat)) fun j => pureM (.ptr id n j 0) else failM
      | .row id n a b sz' len => if sz' = sz then bnd (mustM (decide (0 ≤ i ∧ i.toNat < len))) fun _ => bnd (nrmM .nat i.toNat) fun e => pureM (.rptr id n a b e 0) else failM
      | _ => failM
  | _ => failM
def idxSM (x i : V) : Mo V :=
  match x, i with
  | .t (.str s), .t (.int _ i) => bnd (getM .u8 (lkpS s i)) fun b => pureM (.t (.int .u8 b.toNat))
  | _, _ => failM
def intOr (d : Int) : Option V → Option Int
  | none => some d
  | some (.t (.int _ n)) => some n
  | _ => none
def subM (sz : Nat) (x : V) (lo hi : Option V) : Mo V :=
  match x with
  | .t (.str s) => bnd (optM (intOr 0 lo)) fun l => bnd (optM (intOr s.size hi)) fun h => bnd (mustM (decide (0 ≤ l ∧ l ≤ h ∧ h ≤ s.size))) fun _ => bnd (nrmM .str (s.extract l.toNat h.toNat)) fun s => pureM (.t (.str s))
  | .t .nils => bnd (optM (intOr 0 lo)) fun l => bnd (optM (intOr 0 hi)) fun h => bnd (mustM (decide (l = 0 ∧ h = 0))) fun _ => pureM (.t .nils)
  | .t (.seq sz' es) => if sz' = sz then bnd (optM (intOr 0 lo)) fun l => bnd (optM (intOr es.length hi)) fun h => bnd (mustM (decide (0 ≤ l ∧ l ≤ h ∧ h ≤ es.length))) fun _ =>
      bnd (nrmM .rows ((es.drop l.toNat).take (h.toNat - l.toNat))) fun es => pureM (.t (.seq sz es)) else failM
  | .vec id n sz' off len => if sz' = sz then bnd (optM (intOr 0 lo)) fun l => bnd (optM (intOr len hi)) fun h => bnd (mustM (decide (0 ≤ l ∧ l ≤ h ∧ off + h.toNat ≤ n))) fun _ =>
      bnd (nrmM .nat (off + l.toNat)) fun a => bnd (nrmM .nat (h.toNat - l.toNat)) fun b => pureM (.vec id n sz a b) else failM
  | _ => failM
def mkLitM (nest : Bool) (nb : Nat) (M : Mem) (sz len : Nat) (z : List T) (parts : List (Nat × V)) : Mo (V × Mem) :=
  if z.length = sz ∧ 0 < sz ∧ len * sz ≤ 16777216 then
    bnd (optM (fillV (fun i => some (i * sz, sz)) ((List.replicate len (z.map V.t)).flatten) parts)) fun vs =>
    bnd (toCssM nest M (chunks sz len vs)) fun p =>
    bnd (optM (mk nb p.2 (.vec (p.1.all (·.all C.isT)) sz p.1))) fun M2 => pureM (.vec nb len sz 0 len, M2)
  else failM
def mkMakeM (nb : Nat) (M : Mem) (sz bytes : Nat) (z : List T) (len cap : V) : Mo (V × Mem) :=
  match len, cap with
  | .t (.int _ n), .t (.int _ c) =>
    if z.length = sz ∧ 0 < sz ∧ bytes ≤ small then
      bnd (mustM (decide (0 ≤ n ∧ n ≤ c ∧ c ≤ 4294967296))) fun _ => bnd (nrmM .nat n.toNat) fun n => bnd (nrmM .crows (List.replicate n (z.map C.t))) fun es =>
      bnd (optM (mk nb M (.vec true sz es))) fun M' => pureM (.vec nb n sz 0 n, M')
    else failM
  | _, _ => failM
def srcM (M : Mem) (sz : Nat) (x : V) : Mo (List (List C)) :=
  match x with
  | .t .nils => pureM []
  | .t (.seq sz' es) => if sz' = sz then pureM (es.map (·.map C.t)) else failM
  | .t (.str s) => if sz = 1 then pureM (s.data.toList.map fun b => [C.t (.int .u8 b.toNat)]) else failM
  | .vec id n sz' off len => match M id with
    | some (.vec fl sz'' es) => if sz' = sz ∧ sz'' = sz ∧ fl = true then bnd (mustM (decide (es.length = n ∧ off + len ≤ n))) fun _ => pureM ((es.drop off).take len) else failM
    | _ => failM
  | _ => failM
def app0M (M : Mem) (sz id n len : Nat) (es xs : List (List C)) : Mo (V × Mem) :=
  bnd (brM (decide (len + xs.length ≤ n))) fun b => bnd (nrmM .nat (len + xs.length)) fun l =>
    bif b then bnd (nrmM .crows (es.take len ++ xs ++ es.drop (len + xs.length))) fun es' => pureM (.vec id n sz 0 l, upd M id (some (.vec true sz es')))
    else bnd (nrmM .crows (es.take len ++ xs)) fun es' => pureM (.vec id l sz 0 l, upd M id (some (.vec true sz es')))
def appM (nb : Nat) (M : Mem) (sz bytes : Nat) (s x : V) : Mo (V × Mem) :=
  if 0 < sz ∧ bytes ≤ small then
  bnd (srcM M sz x) fun xs =>
  match s with
  | .t .nils => bnd (mustM (decide (xs.length ≤ 4294967296))) fun _ => bnd (nrmM .nat xs.length) fun l => bnd (nrmM .crows xs) fun xs => bnd (optM (mk nb M (.vec true sz xs))) fun M2 => pureM (.vec nb l sz 0 l, M2)
  | .vec id n sz' off len => match M id with
    | some (.vec fl' sz'' es) =>
      if sz' = sz ∧ sz'' = sz ∧ fl' = true then
        bnd (mustM (decide (es.length = n ∧ off + len ≤ n ∧ len + xs.length ≤ 4294967296))) fun _ =>
        if off = 0 then app0M M sz id n len es xs
        else bnd (mustM (decide (off + len = n))) fun _ => bnd (optM (mk nb M (.vec true sz (es.drop off)))) fun M2 => app0M (upd M2 id (some .dead)) sz nb (n - off) len (es.drop off) xs
      else failM
    | _ => failM
  | _ => failM
  else failM
def clrM (M : Mem) (sz : Nat) (z : List T) (x : V) : Mo Mem :=
  match x with
  | .vec id n sz' off len => match M id with
    | some (.vec fl sz'' es) => if sz' = sz ∧ sz'' = sz ∧ fl = true ∧ z.length = sz then
        bnd (mustM (decide (es.length = n ∧ off + len ≤ n))) fun _ => bnd (nrmM .crows (es.take off ++ List.replicate len (z.map C.t) ++ es.drop (off + len))) fun es' =>
        pureM (upd M id (some (.vec true sz es'))) else failM
    | _ => failM
  | _ => failM
def cpyM (M : Mem) (sz : Nat) (d x : V) : Mo (Nat × Mem) :=
  match d with
  | .vec id n sz' off len =>
    bnd (brM (decide (lenN x ≤ len))) fun b => bnd (optM (bif b then some x else truncV len x)) fun x' => bnd (srcM M sz x') fun xs => match M id with
    | some (.vec fl sz'' es) => if 0 < sz ∧ sz' = sz ∧ sz'' = sz ∧ fl = true then bnd (mustM (decide (es.length = n ∧ off + len ≤ n ∧ xs.length ≤ len))) fun _ =>
        bnd (nrmM .nat xs.length) fun k => bnd (nrmM .crows (es.take off ++ xs ++ es.drop (off + xs.length))) fun es' => pureM (k, upd M id (some (.vec true sz es'))) else failM
    | _ => failM
  | _ => failM
/-! Calls. -/
def prepMM : List Mode → List V → Mem → Mo (List V × Mem)
  | _, [], M => pureM ([], M)
  | .move :: ms, v :: vs, M => bnd (mvVM M v) fun p => bnd (prepMM ms vs p.2) fun q => pureM (p.1 :: q.1, q.2)
  | ms, v :: vs, M => bnd (prepMM ms.tail vs M) fun q => pureM (v :: q.1, q.2)
def prepBM (M : Mem) : List Mode → List V → Mo (List V × List Nat)
  | _, [] => pureM ([], [])
  | .borrow :: ms, v :: vs => bnd (fzVM M v) fun v' => bnd (prepBM M ms vs) fun q => pureM (v' :: q.1, v.refs ++ q.2)
  | ms, v :: vs => bnd (prepBM M ms.tail vs) fun q => pureM (v :: q.1, q.2)
def mergeM (L : List Nat) (nb : Nat) (B : List Nat) (M : Mem) (out : Out) : Mo (V × Mem) :=
  match out with
  | .val v H => bnd (bif B.isEmpty then pureM () else mustM (v.flat && H.all Ob.flat)) fun _ =>
      bnd (optM (putL (back L nb) M L H)) fun p => if p.2.length ≤ 8 then bnd (optM (putNew (back L nb) p.1 nb p.2)) fun M2 => pureM (v.ren (back L nb), M2) else failM
  | _ => failM
section
variable (pr : Pr)
def callEM (f : FuncId) (args : List V) (M : Mem) (nb : Nat) : Mo (V × Mem) :=
  bnd (prepMM (pr.pol f).modes args M) fun p =>
  bnd (prepBM p.2 (pr.pol f).modes p.1) fun q =>
  bnd (optM (clos p.2 fuel0 q.2 [])) fun B =>
  bnd (optM (clos p.2 fuel0 (V.refsL q.1) [])) fun L =>
  bif B.all (fun i => !L.contains i) then
    bnd (askM (.call f (V.renL (place L) q.1) (L.map fun id => orenD (place L) (p.2 id)))) fun out => mergeM L nb B p.2 out
  else failM
def callVM (fv : V) (args : List V) (M : Mem) (nb : Nat) : Mo (V × Mem) :=
  match fv with
  | .t (.clo f caps) => callEM pr f (args ++ caps.map V.t) M nb
  | .clo f caps => callEM pr f (args ++ caps) M nb
  | _ => failM
def withM (M : Mem) (v : V) : Mo (V × Mem) := pureM (v, M)
/-- Tests whose answers are known, by their slots. -/
abbrev Kn := List (Nat × Bool)
def Kn.at : Kn → Nat → Option Bool
  | [], _ => none
  | (t, v) :: r, x => if t = x then some v else Kn.at r x
def kget (kn : Kn) : Operand → Option Bool
  | .tmp t => kn.at t
  | _ => none
def Kn.drop (kn : Kn) : Option Nat → Kn
  | none => kn
  | some d => kn.filter fun p => p.1 != d
def opM (nest : Bool) (kn : Kn) (o : Oper) (s : S) : Mo (V × Mem) :=
  let P := pr.P
  let M := s.mem
  match o.op with
  | .move x | .assign x => bnd (optM (arg s.env x)) (withM M)
  | .pick c a b => bnd (optM (arg s.env a)) fun a => bnd (optM (arg s.env b)) fun b => match kget kn c with
      | some c => withM M (bif c then a else b)
      | none => bnd (optM (arg s.env c)) fun
        | .t (.bool c) => bnd (brM c) fun c => withM M (bif c then a else b)
        | _ => failM
  | .alloc t => bnd (optM (zeroT P t)) fun z => optM (newBox (bound o) M (z.map V.t))
  | .box _ x => bnd (optM (arg s.env x)) fun v => optM (newBox (bound o) M v.cells)
  | .build t parts => bif !structOk P t then failM else bnd (optM (argPs s.env parts.toList)) fun ps => bnd (optM (zeroT P t)) fun z =>
      bnd (optM (fillV (fun i => (fieldT P t i).map fun f => (f.1, f.2.1)) (z.map V.t) ps)) fun vs => withM M (.agg vs)
  | .buildSlice t len parts => bnd (optM (argPs s.env parts.toList)) fun ps => bnd (optM (elemT P t)) fun e => bnd (optM (szT P e)) fun sz => bnd (optM (zeroT P e)) fun z =>
      mkLitM false (bound o) M sz len z ps
  | .load t a => bnd (optM (arg s.env a)) fun p => bnd (optM (aggT P t)) fun ag => bnd (optM (szT P t)) fun n => bnd (ldM M p ag n) (withM M)
  | .store t a x => bnd (optM (arg s.env a)) fun p => bnd (optM (arg s.env x)) fun v => bnd (optM (szT P t)) fun n =>
      if v.cells.length = n ∧ n ≠ 0 then bnd (wrsM nest M p v.cells) fun M' => pureM (.undef, M') else failM
  | .nilCheck x => bnd (optM (arg s.env x)) fun v => bnd (optM (nilChk v)) (withM M)
  | .binOp op t x y _ => bnd (optM (arg s.env x)) fun a => bnd (optM (arg s.env y)) fun b => bnd (binM P op t a b) (withM M)
  | .unOp op _ x => bnd (optM (arg s.env x)) fun a => bnd (nrmV (un op a)) (withM M)
  | .convert src dst x => bnd (optM (arg s.env x)) fun a => bnd (nrmV (conv P src dst a)) (withM M)
  | .makeFunc (.func f) first captured => if first.size = 0 then bnd (optM (argL s.env captured)) fun vs =>
      match vs.mapM tOf with
      | some ts => withM M (.t (.clo f ts))
      | none => withM M (.clo f vs) else failM
  | .makeSlice t l c => bnd (optM (arg s.env l)) fun l => bnd (optM (arg s.env c)) fun c => bnd (optM (elemT P t)) fun e => bnd (optM (szT P e)) fun sz => bnd (optM (zeroT P e)) fun z => bnd (optM (P.info? e)) fun i =>
      mkMakeM (bound o) M sz i.bytes z l c
  | .slice t x lo hi mx => bnd (optM (arg s.env x)) fun v => bnd (optM (argO s.env lo)) fun lo => bnd (optM (argO s.env hi)) fun hi => bnd (optM (argO s.env mx)) fun mx =>
      bnd (bif mx.isNone then pureM () else mustM (maxOk v mx && (mx.isNone || hi.isSome))) fun _ =>
      match P.underlying t with
      | some (.slice e) => match v with
        | .t (.str _) => failM
        | v => bnd (optM (szT P e)) fun sz => bnd (subM sz v lo hi) (withM M)
      | some .string => match v with
        | .t (.str _) => bnd (subM 1 v lo hi) (withM M)
        | _ => failM
      | _ => failM
  | .fieldAddr t x f => bnd (optM (arg s.env x)) fun p => bnd (optM (fieldT P t f)) fun fi => if fi.2.1 = 0 then failM else bnd (optM (fldA fi.1 p)) (withM M)
  | .field t x f => bnd (optM (arg s.env x)) fun p => bnd (optM (fieldT P t f)) fun fi => bnd (optM (fld fi.1 fi.2.1 fi.2.2 p)) (withM M)
  | .indexAddr t x i => bnd (optM (arg s.env x)) fun x => bnd (optM (arg s.env i)) fun i => bnd (optM (elemT P t)) fun e => bnd (optM (szT P e)) fun sz => if sz = 0 then failM else bnd (idxAM sz x i) (withM M)
  | .index t x i => bnd (optM (arg s.env x)) fun x => bnd (optM (arg s.env i)) fun i =>
      match P.underlying t with
      | some .string => bnd (idxSM x i) (withM M)
      | _ => failM
  | .extract x i => bnd (optM (arg s.env x)) fun x => bnd (optM (ext i x)) (withM M)
  | .call c => match c.callee with
    | .builtin .len => bnd (optM (argL s.env c.args)) fun vs => match vs, (c.argTypes[0]?).bind P.underlying with
      | [.t (.str z)], some .string => bnd (nrmV (lenV (.t (.str z)))) (withM M)
      | [v], some (.slice _) => match v with
        | .t (.str _) => failM
        | v => bnd (nrmV (lenV v)) (withM M)
      | _, _ => failM
    | .builtin .max => bnd (optM (argL s.env c.args)) fun vs => bnd (nrmV (minmax true vs)) (withM M)
    | .builtin .min => bnd (optM (argL s.env c.args)) fun vs => bnd (nrmV (minmax false vs)) (withM M)
    | .builtin .append => bnd (optM (argL s.env c.args)) fun vs => match vs, c.argTypes[0]?, c.argTypes[1]? with
      | [a, b], some t, some u => match P.underlying u with
        | some (.int _) => failM
        | none => failM
        | _ => bnd (optM (elemT P t)) fun e => bnd (optM (szT P e)) fun sz => bnd (optM (P.info? e)) fun i => bnd (optM (zeroT P e)) fun z =>
          if z.length = sz then appM (bound o) M sz i.bytes a b else failM
      | _, _, _ => failM
    | .builtin .clear => bnd (optM (argL s.env c.args)) fun vs => match vs, c.argTypes[0]? with
      | [a], some t => bnd (optM (elemT P t)) fun e => bnd (optM (szT P e)) fun sz => bnd (optM (zeroT P e)) fun z => bnd (clrM M sz z a) fun M' => pureM (.undef, M')
      | _, _ => failM
    | .builtin .copy => bnd (optM (argL s.env c.args)) fun vs => match vs, c.argTypes[0]? with
      | [a, b], some t => bnd (optM (elemT P t)) fun e => bnd (optM (szT P e)) fun sz => bnd (cpyM M sz a b) fun q => pureM (.t (.int .i64 q.1), q.2)
      | _, _ => failM
    | .value (.func f) => bnd (optM (argL s.env c.args)) fun vs => callEM pr f vs M (bound o)
    | .value x => bnd (optM (arg s.env x)) fun fv => bnd (optM (argL s.env c.args)) fun vs => callVM pr fv vs M (bound o)
    | _ => failM
  | _ => failM
def finM (nt : Nat) (o : Oper) (s : S) (p : V × Mem) : Mo S :=
  match o.dst with
  | some d => if d < nt then seqV p.1 fun v => pureM { s with env := upd s.env d v, mem := p.2 } else failM
  | none => pureM { s with mem := p.2 }
def opFM (frz : List Nat) (nest : Bool) (kn : Kn) (o : Oper) (s : S) : Mo (V × Mem) :=
  bif (o.dst.any fun d => frz.contains d) then bnd (opM pr nest kn o s) fun p =>
    bnd (mvVM p.2 p.1) fun q => bnd (optM (clos p.2 fuel0 p.1.refs [])) fun L => bif L.all (fun id => bound o ≤ id && id < bound o + 8) then pureM q else failM
  else opM pr nest kn o s
def wantM (ops : Array Oper) (env : Nat → V) (kn : Kn) (j : Nat) (b : Bool) : Mo (Bool × Kn) :=
  match (ops[j]?).bind (·.dst) with
  | some t => match kn.at t with
    | some v => pureM (v == b, kn)
    | none => match env t with
      | .t (.bool b') => bnd (brM b') fun v => pureM (v == b, (t, v) :: kn)
      | .tup [] => pureM (false, kn)
      | _ => failM
  | none => failM
def wanted1M (ops : Array Oper) (kn : Kn) (o : Oper) (s : S) : Mo (Bool × Kn) :=
  match o.guard with
  | none => pureM (true, kn)
  | some (j, b) => wantM ops s.env kn j b
def op1M (nt : Nat) (frz : List Nat) (nest : Bool) (o : Oper) (y : Bool) (kn : Kn) (s : S) : Mo S :=
  bif y then bnd (opFM pr frz nest kn o s) (finM nt o s) else finM nt o s (.tup [], s.mem)
def opsM (nt : Nat) (frz : List Nat) (nest : Bool) (ops : Array Oper) : List Nat → Kn → S → Mo S
  | [], _, s => pureM s
  | i :: r, kn, s => match ops[i]? with
    | some o => bnd (wanted1M ops kn o s) fun y => bnd (op1M pr nt frz nest o y.1 y.2 s) fun s' => opsM nt frz nest ops r (y.2.drop o.dst) s'
    | none => failM
def opsDM (nt : Nat) (frz : List Nat) (nest : Bool) (ops : Array Oper) (bm : Array Nat) : List Nat → List (Nat × Lg) → Kn → S → Mo S
  | [], _, _, s => pureM s
  | i :: r, log, kn, s => match ops[i]? with
    | some o => bnd (wanted1M ops kn o s) fun y => bnd (optM (bif y.1 then touch pr o s else some ⟨[], false, bound o⟩)) fun t =>
        bnd (op1M pr nt frz nest o y.1 y.2 s) fun s' => bnd (mustM (clear bm i (mkLg pr frz o y.1 s.env t s.mem s'.mem) log)) fun _ =>
        opsDM nt frz nest ops bm r ((i, (mkLg pr frz o y.1 s.env t s.mem s'.mem)) :: log) (y.2.drop o.dst) s'
    | none => failM
def loopM (l : LoopQ) (s : S) : Mo Out := bnd (optM (thawS l.thaw s)) fun s1 => bnd (optM (normS l.live s1)) fun s2 => askM (.loop l s2)
def execM (f : FuncId) (nt : Nat) (frz : List Nat) (nest : Bool) : Ann → Code → S → Mo Out
  | .cut live a, c, s => seqP (live.map fun t => (t, s.env t)) fun l => execM f nt frz nest a c { s with env := ofE l }
  | .seq x y, .seq a b, s => bnd (execM f nt frz nest x a s) fun
    | .next s' => execM f nt frz nest y b s'
    | o => pureM o
  | .cond x y, .cond c a b, s => bnd (optM (arg s.env c)) fun
    | .t (.bool t) => bnd (brM t) fun t => bif t then execM f nt frz nest x a s else execM f nt frz nest y b s
    | _ => failM
  | .block x, .block id c, s => bnd (execM f nt frz nest x c s) fun
    | .exit id' s' => if id' = id then pureM (.next s') else pureM (.exit id' s')
    | o => pureM o
  | .loop live after rets thaw x, .loop c, s => loopM ⟨f, live, after, rets, thaw, x, c⟩ s
  | .n, .skip, s => pureM (.next s)
  | .n, .region _ ops false, s => bnd (opsM pr nt frz nest ops (List.range ops.size) [] s) fun s' => pureM (.next s')
  | .n, .region _ ops true, s => bif drawOk ops then bnd (opsDM pr nt frz nest ops (Region.before ops) (List.range ops.size) [] [] s) fun s' => pureM (.next s') else failM
  | .n, .exit id, s => pureM (.exit id s)
  | .n, .ret, s => pureM (.ret s)
  | _, _, _ => failM
def resM (P : Program) (M : Mem) (env : Nat → V) : List ResultVar → Mo (List V)
  | [] => pureM []
  | .tmp t :: r => bnd (resM P M env r) fun l => pureM (env t :: l)
  | .cell a t :: r => bnd (optM (aggT P t)) fun ag => bnd (optM (szT P t)) fun n => bnd (ldM M (env a) ag n) fun v => bnd (resM P M env r) fun l => pureM (v :: l)
def retM (pol : Pol) (fn : Func) (s : S) : Mo Out :=
  bnd (resM pr.P s.mem s.env fn.results.toList) fun vs =>
    bnd (bif pol.own then pureM (softR pol.soft (one vs), s.mem) else mvVM s.mem (softR pol.soft (one vs))) fun p => bnd (optM (norm s.k0 [p.1] p.2)) fun q => match q.1 with
      | [v] => pureM (.val v q.2)
      | _ => failM
def stepM : Q → Mo Out
  | .call f args H => bif !callable pr.P f then failM else match pr.prim f with
    | some p => bnd (optM (p args H)) fun q => pureM (.val q.1 q.2)
    | none => match pr.P.funcs[f]? with
    | some fn => bnd (optM fn.body) fun c => if args.length ≤ fn.ntmps then
        bnd (execM pr f fn.ntmps (pr.pol f).frz (pr.pol f).nest (pr.ann f) c ⟨ofArgs args, ofL H, H.length⟩) fun
          | .next s | .ret s => retM pr (pr.pol f) fn s
          | _ => failM
      else failM
    | none => failM
  | .loop l s => bnd (execM pr l.f (ntOf pr l.f) (pr.pol l.f).frz (pr.pol l.f).nest l.a l.c s) fun
    | .next s' => loopM l s'
    | .exit id s' => bnd (optM (normS l.after s')) fun s => pureM (.exit id s)
    | .ret s' => bnd (optM (normS l.rets s')) fun s => pureM (.ret s)
    | .val .. => failM
def tree (q : Q) : Fm := stepM pr q .ret
end
end Go.Ev

/- The evaluator, twenty-fourth text: the tree of questions comes to what the machine comes to. -/
namespace Go.Ev
set_option linter.unusedVariables false
set_option linter.unusedSimpArgs false
set_option linter.unusedVariables false
set_option linter.unusedSimpArgs false
variable {E : Q → Option Out}
def Sim (E : Q → Option Out) {α : Type} (m : Mo α) (x : Option α) : Prop := ∀ k r, interp E (m k) = some r → ∃ v, x = some v ∧ interp E (k v) = some r
section
variable {α β γ : Type}
theorem Sim.pure {a : α} {x : Option α} (h : x = some a) : Sim E (pureM a) x := fun k r hr => ⟨a, h, hr⟩
theorem Sim.fail {x : Option α} : Sim E failM x := fun k r hr => by cases hr
theorem Sim.sub {m : Mo α} {y : Option α} {f : α → Mo β} {x : Option β} (hm : Sim E m y) (h : ∀ a, y = some a → Sim E (f a) x) : Sim E (bnd m f) x := fun k r hr => by
  obtain ⟨a, ha, hk⟩ := hm _ r hr
  exact h a ha k r hk
theorem Sim.bind {m : Mo α} {y : Option α} {f : α → Mo β} {g : α → Option β} (hm : Sim E m y) (h : ∀ a, y = some a → Sim E (f a) (g a)) : Sim E (bnd m f) (y.bind g) :=
  hm.sub fun a ha => by rw [ha]; exact h a ha
theorem Sim.opt {o : Option α} : Sim E (optM o) o := fun k r hr => by
  cases o with
  | none => cases hr
  | some a => exact ⟨a, rfl, hr⟩
theorem Sim.map {m : Mo α} {y : Option α} {g : α → β} (hm : Sim E m y) : Sim E (bnd m fun a => pureM (g a)) (y.map g) := hm.sub fun a ha => .pure (by rw [ha]; rfl)
theorem Sim.must {b : Bool} {f : Unit → Mo β} {x : Option β} (h : b = true → Sim E (f ()) x) : Sim E (bnd (mustM b) f) x := fun k r hr => by
  cases b with
  | true => exact h rfl k r hr
  | false => cases hr
theorem Sim.nrm {t : Ty} {a : t.ty} {f : t.ty → Mo β} {x : Option β} (h : Sim E (f a) x) : Sim E (bnd (nrmM t a) f) x := fun k r hr => h k r hr
theorem Sim.get {t : Ty} {o : Option t.ty} {f : t.ty → Mo β} {x : Option β} (h : ∀ a, o = some a → Sim E (f a) x) : Sim E (bnd (getM t o) f) x := fun k r hr => by
  obtain ⟨a, ha, hk⟩ := Option.bind_eq_some_iff.1 (show (o.bind fun v => interp E (f v k)) = some r from hr)
  exact h a ha k r hk
theorem Sim.br {b : Bool} {f : Bool → Mo β} {x : Option β} (h : Sim E (f b) x) : Sim E (bnd (brM b) f) x := fun k r hr => h k r hr
theorem Sim.ask {q : Q} : Sim E (askM q) (E q) := fun k r hr => Option.bind_eq_some_iff.1 hr
theorem Sim.mapM {f : α → Mo β} {g : α → Option β} (h : ∀ a, Sim E (f a) (g a)) : ∀ l : List α, Sim E (mapMo f l) (l.mapM g)
  | [] => .pure rfl
  | a :: l => by
    rw [List.mapM_cons]
    exact (h a).bind fun b hb => (Sim.mapM h l).sub fun r hr => .pure (by rw [hr]; rfl)
end
theorem fz_sim {M : Mem} : ∀ (k : Nat) (v : V), Sim E (fzM M k v) (fz M k v)
  | 0, v => .fail
  | k + 1, v => by
    cases v with
    | t x => exact .pure rfl
    | vec id n sz off len =>
      simp only [fzM, fz]
      cases M id with
      | none => exact .fail
      | some ob =>
        cases ob with
        | vec fl sz' es =>
          dsimp only
          split
          · rename_i hs
            refine .must fun hb => .nrm (.pure ?_)
            have hb := of_decide_eq_true hb
            rw [if_pos ⟨hb.1, hs, hb.2⟩]
          · exact .fail
        | _ => exact .fail
    | row id n i j sz len =>
      simp only [fzM, fz]
      cases M id with
      | none => exact .fail
      | some ob =>
        cases ob with
        | vec fl s0 es =>
          refine .must fun hb => .get fun el he => ?_
          dsimp only
          rw [if_pos (of_decide_eq_true hb), he]
          simp only [Option.bind_some]
          cases el[j]? with
          | none => exact .fail
          | some c =>
            cases c with
            | t x => exact .fail
            | row sz' r =>
              dsimp only
              split
              · rename_i hz
                refine .must fun hb2 => .pure ?_
                rw [if_pos ⟨hz, of_decide_eq_true hb2⟩]
              · exact .fail
        | _ => exact .fail
    | ptr id n i o =>
      simp only [fzM, fz]
      cases M id with
      | none => exact .fail
      | some ob =>
        cases ob with
        | box cs =>
          dsimp only
          split
          · exact (Sim.mapM (fun v => fz_sim (M := M) k v) _).map
          · exact .fail
        | vec fl sz' es =>
          refine .must fun hb => .get fun e he => .pure ?_
          dsimp only
          rw [if_pos (of_decide_eq_true hb), he]; rfl
        | dead => exact .fail
    | clo f caps => exact (Sim.mapM (fun v => fz_sim (M := M) k v) _).map
    | _ => exact .fail
theorem fz1_sim {M : Mem} (v : V) : Sim E (fz1M M v) (fz1 M v) := by
  cases v with
  | agg vs => exact (Sim.mapM (fun v => fz_sim (M := M) 16 v) _).map
  | _ => exact (fz_sim 16 _).map
theorem fzV_sim {M : Mem} (v : V) : Sim E (fzVM M v) (fzV M v) := by
  have k2 := fz1_sim (E := E) (M := M) v
  cases v with
  | tup vs => exact (Sim.mapM (fun v => fz1_sim (M := M) v) _).map
  | _ => exact k2
theorem mvV_sim {M : Mem} (v : V) : Sim E (mvVM M v) (mvV M v) := by
  refine (fzV_sim v).bind fun v' h => ?_
  cases v with
  | t x => exact .pure rfl
  | _ => exact (Sim.opt (E := E)).map
theorem rd_sim {M : Mem} {p : V} {k : Nat} : Sim E (rdM M p k) (rd M p k) := by
  unfold rdM rd
  cases p with
  | t x => cases x <;> first | exact .opt | exact .fail
  | ptr id n i o =>
    dsimp only
    cases M id with
    | none => exact .fail
    | some ob =>
      cases ob with
      | box cs =>
        dsimp only
        split
        · exact .opt
        · exact .fail
      | vec fl sz' es =>
        refine .must fun hb => .get fun e he => ?_
        dsimp only
        rw [if_pos (of_decide_eq_true hb), he]
        exact .opt
      | dead => exact .fail
  | rptr id n i j e o =>
    dsimp only
    cases M id with
    | none => exact .fail
    | some ob =>
      cases ob with
      | vec fl sz' es =>
        refine .must fun hb => .get fun el he => ?_
        dsimp only
        rw [if_pos (of_decide_eq_true hb), he]
        simp only [Option.bind_some]
        cases el[j]? with
        | none => exact .fail
        | some c =>
          cases c with
          | t x => exact .fail
          | row s r =>
            refine .get fun g hg => ?_
            dsimp only
            rw [hg]
            exact .opt
      | _ => exact .fail
  | _ => exact .fail
theorem rds_sim {M : Mem} {p : V} : ∀ n i, Sim E (rdsM M p i n) (rds M p i n)
  | 0, i => .pure rfl
  | n + 1, i => rd_sim.bind fun v _ => (rds_sim n (i + 1)).map
theorem ld_sim {M : Mem} {p : V} {ag : Bool} {n : Nat} : Sim E (ldM M p ag n) (ld M p ag n) := by
  unfold ldM ld
  cases ag with
  | false => exact rd_sim
  | true =>
    simp only [cond_true]
    cases n == 0 with
    | true => exact .fail
    | false => exact (rds_sim n 0).map
theorem asC_sim {m : Mo (V × Mem)} {y : Option (V × Mem)} (h : Sim E m y) : Sim E (bnd m asC) (y.bind fun | (.t x, M') => some (C.t x, M') | _ => none) := h.bind fun p _ => by
  obtain ⟨v, M'⟩ := p
  cases v <;> first | exact .pure rfl | exact .fail
theorem toC_sim {nest : Bool} {M : Mem} (v : V) : Sim E (toCM nest M v) (toC nest M v) := by
  cases v with
  | t x => exact .pure rfl
  | vec id n sz off len =>
    cases nest with
    | true => exact .fail
    | false =>
      have := asC_sim (mvV_sim (E := E) (M := M) (.vec id n sz off len))
      exact this
  | _ => exact asC_sim (mvV_sim _)
theorem toCs_sim {nest : Bool} : ∀ (vs : List V) (M : Mem), Sim E (toCsM nest M vs) (toCs nest M vs)
  | [], M => .pure rfl
  | v :: vs, M => (toC_sim v).bind fun p _ => (toCs_sim vs p.2).map
theorem toCss_sim {nest : Bool} : ∀ (vs : List (List V)) (M : Mem), Sim E (toCssM nest M vs) (toCss nest M vs)
  | [], M => .pure rfl
  | v :: vs, M => (toCs_sim v M).bind fun p _ => (toCss_sim vs p.2).map
theorem wr0_sim {nest : Bool} {M : Mem} {p : V} {k : Nat} {v : V} : Sim E (wr0M nest M p k v) (wr0 nest M p k v) := by
  unfold wr0M wr0
  cases p with
  | ptr id n i o =>
    dsimp only
    cases M id with
    | none => exact .fail
    | some ob =>
      cases ob with
      | box cs =>
        dsimp only
        split
        · rw [seqL_eq]; exact .pure rfl
        · exact .fail
      | vec fl0 sz0 es0 =>
        refine (toC_sim v).bind fun q _ => ?_
        obtain ⟨c, M1⟩ := q
        dsimp only
        cases M1 id with
        | none => exact .fail
        | some ob =>
          cases ob with
          | vec fl sz es =>
            refine .must fun hb => .get fun e he => ?_
            dsimp only
            rw [if_pos (of_decide_eq_true hb), he]
            dsimp only
            cases e[o + k]? with
            | none => exact .fail
            | some c' => cases c' <;> first | exact .nrm (.pure rfl) | exact .fail
          | _ => exact .fail
      | dead => exact .fail
  | _ => exact .fail
theorem wrN_sim {M : Mem} {id n i c id2 n2 sz2 off2 len2 : Nat} : Sim E (wrNM M id n i c id2 n2 sz2 off2 len2) (wrN M id n i c id2 n2 sz2 off2 len2) := by
  unfold wrNM wrN
  split
  · exact .fail
  cases M id2 with
  | none => exact .fail
  | some ob =>
    cases ob with
    | vec fl2 sz2' es2 =>
      dsimp only
      split
      · rename_i h1
        refine .must fun hb => ?_
        have hb := of_decide_eq_true hb
        rw [if_pos ⟨hb.1, h1.1, h1.2, hb.2⟩]
        cases M id with
        | none => exact .fail
        | some ob =>
          cases ob with
          | vec fl sz es =>
            refine .must fun hn => .get fun e he => ?_
            dsimp only
            rw [if_pos (of_decide_eq_true hn), he]
            dsimp only
            cases e[c]? with
            | none => exact .fail
            | some x => cases x <;> first | exact .nrm (.nrm (.pure rfl)) | exact .fail
          | _ => exact .fail
      · exact .fail
    | _ => exact .fail
theorem wrR_sim {M : Mem} {id n i j e o k : Nat} {v : V} : Sim E (wrRM M id n i j e o k v) (wrR M id n i j e o k v) := by
  unfold wrRM wrR
  split
  · refine (toC_sim v).bind fun q _ => ?_
    obtain ⟨c, M1⟩ := q
    dsimp only
    cases c with
    | row s r => exact .fail
    | t x =>
      cases M1 id with
      | none => exact .fail
      | some ob =>
        cases ob with
        | vec fl sz es =>
          refine .must fun hn => .get fun el he => ?_
          dsimp only
          rw [if_pos (of_decide_eq_true hn), he]
          dsimp only
          cases el[j]? with
          | none => exact .fail
          | some c =>
            cases c with
            | t x => exact .fail
            | row s r =>
              refine .get fun g hg => .must fun hl => .nrm (.pure ?_)
              dsimp only
              rw [hg]
              dsimp only
              rw [if_pos (of_decide_eq_true hl)]
        | _ => exact .fail
  · exact .fail
theorem wr_sim {nest : Bool} {M : Mem} {p : V} {k : Nat} {v : V} : Sim E (wrM nest M p k v) (wr nest M p k v) := by
  cases p with
  | rptr id n i j e o =>
    have := wrR_sim (E := E) (M := M) (id := id) (n := n) (i := i) (j := j) (e := e) (o := o) (k := k) (v := v)
    unfold wrM wr
    exact this
  | ptr id n i o =>
    cases v with
    | vec id2 n2 sz2 off2 len2 =>
      unfold wrM wr
      dsimp only
      cases nest && isVecO (M id) with
      | true => simp only [cond_true]; exact wrN_sim
      | false => simp only [cond_false]; exact wr0_sim
    | _ => unfold wrM wr; exact wr0_sim
  | _ => cases v <;> (unfold wrM wr; exact wr0_sim)
theorem wrs0_sim {nest : Bool} {p : V} : ∀ (vs : List V) (M : Mem) (i : Nat), Sim E (wrs0M nest M p i vs) (wrs nest M p i vs)
  | [], M, i => .pure rfl
  | v :: vs, M, i => wr_sim.bind fun M' _ => wrs0_sim vs M' (i + 1)
theorem tOf_map : ∀ {vs : List V} {ts : List T}, vs.mapM tOf = some ts → vs = ts.map V.t := fun h => mapM_T h
theorem wrs_wide {nest fl : Bool} {id n j sz : Nat} : ∀ (ts : List T) (k : Nat) (e : List C) (es : List (List C)) (M : Mem), M id = some (.vec fl sz es) → es.length = n → es[j]? = some e → k + ts.length = e.length → e.all C.isT = true →
    wrs nest M (.ptr id n j 0) k (ts.map V.t) = some (upd M id (some (.vec fl sz (es.set j (e.take k ++ ts.map C.t)))))
  | [], k, e, es, M, hM, hn, he, hk, ha => by
    have hk : k = e.length := by simpa using hk
    simp only [List.map_nil, wrs, List.append_nil, hk, List.take_length]
    have : es.set j e = es := by
      apply List.ext_getElem?
      intro i
      rw [List.getElem?_set]
      split
      · rename_i h; subst h
        have hj := (List.getElem?_eq_some_iff.1 he).1
        rw [if_pos hj, he]
      · rfl
    rw [this, ← hM]
    congr 1
    funext i
    unfold upd
    split
    · rename_i h; rw [h]
    · rfl
  | x :: ts, k, e, es, M, hM, hn, he, hk, ha => by
    have hlt : k < e.length := by simp at hk; omega
    obtain ⟨y, hy⟩ : ∃ y, e[k]? = some (C.t y) := by
      have hm : e[k]'hlt ∈ e := List.getElem_mem hlt
      have := List.all_eq_true.1 ha _ hm
      cases hx : e[k]'hlt with
      | t y => exact ⟨y, by rw [List.getElem?_eq_getElem hlt, hx]⟩
      | row s r => rw [hx] at this; cases this
    have hw : wr nest M (.ptr id n j 0) k (.t x) = some (upd M id (some (.vec fl sz (es.set j (e.set k (.t x)))))) := by
      show wr0 false M (.ptr id n j 0) k (.t x) = _
      unfold wr0
      simp only [hM, toC, Option.bind_some, if_pos hn, he, Nat.zero_add, hy, C.isT, Bool.and_true]
    simp only [List.map_cons, wrs, hw, Option.bind_some]
    have hj := (List.getElem?_eq_some_iff.1 he).1
    rw [wrs_wide ts (k + 1) (e.set k (.t x)) (es.set j (e.set k (.t x))) _ (upd_same ..) (by simpa using hn) (by rw [List.getElem?_set_self hj]) (by simp at hk ⊢; omega) (List.all_eq_true.2 fun c hc => by
      rcases List.mem_or_eq_of_mem_set hc with hc | rfl
      · exact List.all_eq_true.1 ha c hc
      · rfl)]
    congr 1
    have e1 : (e.set k (C.t x)).take (k + 1) ++ ts.map C.t = e.take k ++ C.t x :: ts.map C.t := by
      rw [List.take_add_one, List.take_set_of_le (Nat.le_refl k), List.getElem?_set_self hlt]
      simp
    rw [e1, List.set_set]
    funext i
    unfold upd
    split <;> rfl
theorem wrs_sim {nest : Bool} {p : V} (vs : List V) (M : Mem) : Sim E (wrsM nest M p vs) (wrs nest M p 0 vs) := by
  unfold wrsM
  split
  · rename_i id n j
    split
    · rename_i fl sz es ts hM hts
      refine .must fun hb => .get fun e he => ?_
      split
      · rename_i hc
        refine .nrm (.pure ?_)
        rw [tOf_map hts, wrs_wide ts 0 e es M hM (of_decide_eq_true hb) he (by omega) hc.2]
        simp
      · exact wrs0_sim _ _ _
    · exact wrs0_sim _ _ _
  · exact wrs0_sim _ _ _
theorem nrmV_sim {x : Option V} : Sim E (nrmV x) x := by
  unfold nrmV
  split
  · exact .nrm (.pure rfl)
  · exact .pure rfl
  · exact .fail
theorem bin_sim {P : Program} {op : BinOp} {t : TypeId} {x y : V} : Sim E (binM P op t x y) (bin P op t x y) := by
  unfold binM
  split
  · refine .must fun hb => .nrm (.pure ?_)
    simp only [bin, strBin]
    rw [if_pos (of_decide_eq_true hb)]; rfl
  · split
    · rename_i hk
      subst hk
      refine .must fun hb => .nrm (.pure ?_)
      have hb := of_decide_eq_true hb
      simp [bin, intBin, hb]
    · exact .fail
  · split
    · rename_i hk
      subst hk
      refine .must fun hb => .nrm (.pure ?_)
      have hb := of_decide_eq_true hb
      simp [bin, intBin, hb]
    · exact .fail
  · refine .must fun hb => .nrm (.pure ?_)
    have hb := of_decide_eq_true hb
    simp only [bin]
    rw [if_neg (by omega)]
    rfl
  · refine .must fun hb => .nrm (.pure ?_)
    have hb := of_decide_eq_true hb
    simp only [bin]
    rw [if_neg (by omega)]
    rfl
  · split
    · exact nrmV_sim
    · rename_i hx
      refine .must fun hb => ?_
      have e : bin P op t x (.t .nils) = binN P op t := by
        have hb := of_decide_eq_true hb
        cases x with
        | t x =>
          cases x with
          | seq sz es => simp only [bin]; rw [if_pos hb]
          | nils => exact (hx rfl).elim
          | _ => simp [lenN] at hb
        | vec => simp only [bin]; rw [if_pos hb]
        | row => simp only [bin]; rw [if_pos hb]
        | _ => simp [lenN] at hb
      rw [e]
      exact .opt
  · exact nrmV_sim
theorem idxA_sim {sz : Nat} {x i : V} : Sim E (idxAM sz x i) (idxA sz x i) := by
  unfold idxAM idxA
  cases i with
  | t i =>
    cases i with
    | int k i =>
      dsimp only
      cases x with
      | t x =>
        cases x with
        | seq sz' es =>
          dsimp only
          split
          · rename_i hs
            refine .get fun e he => .pure ?_
            unfold lkp at he
            split at he
            · rename_i hi
              rw [if_pos hi, he]; rfl
            · cases he
          · exact .fail
        | _ => exact .fail
      | vec id n sz' off len =>
        dsimp only
        split
        · rename_i hs
          refine .must fun hb => .nrm (.pure ?_)
          have hb := of_decide_eq_true hb
          rw [if_pos hb.1, if_pos ⟨hs, hb.2⟩]
        · exact .fail
      | row id n a b sz' len =>
        dsimp only
        split
        · rename_i hs
          refine .must fun hb => .nrm (.pure ?_)
          have hb := of_decide_eq_true hb
          rw [if_pos hb.1, if_pos ⟨hs, hb.2⟩]
        · exact .fail
      | _ => exact .fail
    | _ => exact .fail
  | _ => exact .fail
theorem idxS_sim {x i : V} : Sim E (idxSM x i) (idxS x i) := by
  unfold idxSM idxS
  split
  · refine .get fun e he => .pure ?_
    unfold lkpS at he
    split at he
    · rename_i hi
      dsimp only
      rw [if_pos hi, he]; rfl
    · cases he
  · exact .fail
theorem natOr_of {d : Nat} {x : Option V} {n : Int} (h : intOr d x = some n) (h0 : 0 ≤ n) : natOr d x = some n.toNat := by
  unfold intOr at h
  split at h
  · obtain rfl := Option.some.inj h; simp [natOr]
  · obtain rfl := Option.some.inj h
    simp [natOr, natV, h0]
  · cases h
theorem sub_sim {sz : Nat} {x : V} {lo hi : Option V} : Sim E (subM sz x lo hi) (sub sz x lo hi) := by
  unfold subM sub
  split
  · refine Sim.opt.sub fun l hl => Sim.opt.sub fun h hh => .must fun hb => .nrm (.pure ?_)
    have hb := of_decide_eq_true hb
    dsimp only
    rw [natOr_of (d := 0) hl hb.1, Option.bind_some, natOr_of hh (by omega), Option.bind_some, if_pos ⟨by omega, by omega⟩]
  · refine Sim.opt.sub fun l hl => Sim.opt.sub fun h hh => .must fun hb => .pure ?_
    have hb := of_decide_eq_true hb
    dsimp only
    rw [natOr_of (d := 0) hl (by omega), Option.bind_some, natOr_of (d := 0) hh (by omega), Option.bind_some, if_pos ⟨by omega, by omega⟩]
  · split
    · rename_i hs
      refine Sim.opt.sub fun l hl => Sim.opt.sub fun h hh => .must fun hb => .nrm (.pure ?_)
      have hb := of_decide_eq_true hb
      dsimp only
      rw [natOr_of (d := 0) hl hb.1, Option.bind_some, natOr_of hh (by omega), Option.bind_some, if_pos ⟨hs, by omega, by omega⟩]
    · exact .fail
  · split
    · rename_i hs
      refine Sim.opt.sub fun l hl => Sim.opt.sub fun h hh => .must fun hb => .nrm (.nrm (.pure ?_))
      have hb := of_decide_eq_true hb
      dsimp only
      rw [natOr_of (d := 0) hl hb.1, Option.bind_some, natOr_of hh (by omega), Option.bind_some, if_pos ⟨hs, by omega, by omega⟩]
    · exact .fail
  · exact .fail
theorem mkLit_sim {nest : Bool} {nb : Nat} {M : Mem} {sz len : Nat} {z : List T} {ps : List (Nat × V)} : Sim E (mkLitM nest nb M sz len z ps) (mkLit nest nb M sz len z ps) := by
  unfold mkLitM mkLit
  split
  · exact Sim.opt.bind fun vs _ => (toCss_sim _ M).bind fun p _ => Sim.opt.map
  · exact .fail
theorem mkMake_sim {nb : Nat} {M : Mem} {sz bytes : Nat} {z : List T} {l c : V} : Sim E (mkMakeM nb M sz bytes z l c) (mkMake nb M sz bytes z l c) := by
  unfold mkMakeM mkMake
  split
  · rename_i k n k' m
    split
    · rename_i hc
      refine .must fun hb => ?_
      have hb := of_decide_eq_true hb
      simp only [natV]
      rw [if_pos hb.1, Option.bind_some, if_pos (by omega), Option.bind_some, if_pos ⟨hc.1, hc.2.1, by omega, by unfold room; omega, hc.2.2⟩]
      exact .nrm (.nrm Sim.opt.map)
    · exact .fail
  · exact .fail
theorem src_sim {M : Mem} {sz : Nat} {x : V} : Sim E (srcM M sz x) (src M sz x) := by
  unfold srcM src
  split
  · exact .pure rfl
  · split
    · rename_i h; exact .pure (by first | (dsimp only; rw [if_pos h]; done) | rfl | (subst h; rfl))
    · exact .fail
  · split
    · rename_i h; exact .pure (by first | (dsimp only; rw [if_pos h]; done) | rfl | (subst h; rfl))
    · exact .fail
  · rename_i id n sz' off len
    dsimp only
    cases M id with
    | none => exact .fail
    | some ob =>
      cases ob with
      | vec fl sz'' es =>
        dsimp only
        split
        · rename_i hc
          refine .must fun hb => .pure ?_
          have hb := of_decide_eq_true hb
          rw [if_pos ⟨hb.1, hc.1, hc.2.1, hb.2, hc.2.2⟩]
        · exact .fail
      | _ => exact .fail
  · exact .fail
theorem app0_sim {M : Mem} {sz id n len : Nat} {es xs : List (List C)} : Sim E (app0M M sz id n len es xs) (some (app0 M sz id n len es xs)) := by
  unfold app0M app0
  refine .br (.nrm ?_)
  by_cases h : len + xs.length ≤ n
  · rw [if_pos h, decide_eq_true h]
    exact .nrm (.pure rfl)
  · rw [if_neg h, decide_eq_false h]
    exact .nrm (.pure rfl)
theorem app_sim {nb : Nat} {M : Mem} {sz bytes : Nat} {s x : V} : Sim E (appM nb M sz bytes s x) (app nb M sz bytes s x) := by
  unfold appM app
  split
  · refine src_sim.bind fun xs _ => ?_
    split
    · refine .must fun hb => .nrm (.nrm ?_)
      dsimp only
      rw [if_pos (show xs.length ≤ room by unfold room; exact of_decide_eq_true hb)]
      exact Sim.opt.map
    · rename_i id n sz' off len
      dsimp only
      cases M id with
      | none => exact .fail
      | some ob =>
        cases ob with
        | vec fl' sz'' es =>
          dsimp only
          split
          · rename_i hc
            refine .must fun hb => ?_
            have hb := of_decide_eq_true hb
            rw [if_pos (show es.length = n ∧ sz' = sz ∧ sz'' = sz ∧ off + len ≤ n ∧ len + xs.length ≤ room ∧ fl' = true from ⟨hb.1, hc.1, hc.2.1, hb.2.1, by unfold room; exact hb.2.2, hc.2.2⟩)]
            by_cases h0 : off = 0
            · simp only [if_pos h0]; exact app0_sim
            · simp only [if_neg h0]
              refine .must fun hb2 => ?_
              rw [if_pos (of_decide_eq_true hb2)]
              refine Sim.opt.sub fun M2 h2 => ?_
              rw [h2]
              exact app0_sim
          · exact .fail
        | _ => exact .fail
    · exact .fail
  · exact .fail
theorem cpy_sim {M : Mem} {sz : Nat} {d x : V} : Sim E (cpyM M sz d x) (cpy M sz d x) := by
  unfold cpyM cpy
  cases d with
  | vec id n sz' off len =>
    dsimp only
    refine .br (Sim.opt.bind fun x' _ => src_sim.bind fun xs _ => ?_)
    cases M id with
    | none => exact .fail
    | some ob =>
      cases ob with
      | vec fl sz'' es =>
        dsimp only
        split
        · rename_i hc
          refine .must fun hb => .nrm (.nrm (.pure ?_))
          have hb := of_decide_eq_true hb
          rw [if_pos ⟨hc.1, hb.1, hc.2.1, hc.2.2.1, hb.2.1, hc.2.2.2, hb.2.2⟩]
        · exact .fail
      | _ => exact .fail
  | _ => exact .fail
theorem clr_sim {M : Mem} {sz : Nat} {z : List T} {x : V} : Sim E (clrM M sz z x) (clr M sz z x) := by
  unfold clrM clr
  split
  · rename_i id n sz' off len
    dsimp only
    cases M id with
    | none => exact .fail
    | some ob =>
      cases ob with
      | vec fl sz'' es =>
        dsimp only
        split
        · rename_i hc
          refine .must fun hb => .nrm (.pure ?_)
          have hb := of_decide_eq_true hb
          rw [if_pos ⟨hb.1, hc.1, hc.2.1, hb.2, hc.2.2.1, hc.2.2.2⟩]
        · exact .fail
      | _ => exact .fail
  · exact .fail
theorem prepM_sim : ∀ (vs : List V) (ms : List Mode) (M : Mem), Sim E (prepMM ms vs M) (prepM ms vs M)
  | [], ms, M => by cases ms with | nil => exact .pure rfl | cons m ms => cases m <;> exact .pure rfl
  | v :: vs, ms, M => by
    cases ms with
    | nil => exact (prepM_sim vs _ M).map
    | cons m ms =>
      cases m with
      | move => exact (mvV_sim v).bind fun p _ => (prepM_sim vs ms p.2).map
      | pass => exact (prepM_sim vs ms M).map
      | borrow => exact (prepM_sim vs ms M).map
theorem prepB_sim {M : Mem} : ∀ (vs : List V) (ms : List Mode), Sim E (prepBM M ms vs) (prepB M ms vs)
  | [], ms => by cases ms with | nil => exact .pure rfl | cons m ms => cases m <;> exact .pure rfl
  | v :: vs, ms => by
    cases ms with
    | nil => exact (prepB_sim vs _).map
    | cons m ms =>
      cases m with
      | borrow => exact (fzV_sim v).bind fun p _ => (prepB_sim vs ms).map
      | pass => exact (prepB_sim vs ms).map
      | move => exact (prepB_sim vs ms).map
theorem merge_sim {L : List Nat} {nb : Nat} {B : List Nat} {M : Mem} {out : Out} : Sim E (mergeM L nb B M out) (merge L nb B M out) := by
  unfold mergeM merge
  cases out with
  | val v H =>
    dsimp only
    have key : (B.isEmpty = true ∨ (v.flat && H.all Ob.flat) = true) → Sim E (bnd (optM (putL (back L nb) M L H)) fun p => if p.2.length ≤ 8 then bnd (optM (putNew (back L nb) p.1 nb p.2)) fun M2 => pureM (v.ren (back L nb), M2) else failM)
        (if B.isEmpty = true ∨ (v.flat && H.all Ob.flat) = true then (putL (back L nb) M L H).bind fun (M1, new) => if new.length ≤ 8 then (putNew (back L nb) M1 nb new).map fun M2 => (v.ren (back L nb), M2) else none else none) := fun h => by
      rw [if_pos h]
      refine Sim.opt.bind fun p _ => ?_
      obtain ⟨M1, new⟩ := p
      dsimp only
      split
      · exact Sim.opt.map
      · exact .fail
    cases hB : B.isEmpty with
    | true => rw [hB] at key; exact (Sim.pure (a := ()) (x := some ()) rfl).sub fun _ _ => key (.inl rfl)
    | false => rw [hB] at key; exact .must fun hb => key (.inr hb)
  | _ => exact .fail
theorem callE_sim {pr : Pr} {f : FuncId} {args : List V} {M : Mem} {nb : Nat} : Sim E (callEM pr f args M nb) (callE pr E f args M nb fun v M => some (v, M)) := by
  unfold callEM callE
  refine (prepM_sim args _ M).bind fun p _ => (prepB_sim p.1 _).bind fun q _ => Sim.opt.bind fun B _ => Sim.opt.bind fun L _ => ?_
  dsimp only
  cases B.all (fun i => !L.contains i) with
  | false => exact .fail
  | true =>
    simp only [cond_true]
    refine Sim.ask.bind fun out _ => ?_
    have : (merge L nb B p.2 out) = (merge L nb B p.2 out).bind fun x => some (x.1, x.2) := by cases merge L nb B p.2 out <;> rfl
    rw [← this]
    exact merge_sim
theorem callV_sim {pr : Pr} {fv : V} {args : List V} {M : Mem} {nb : Nat} : Sim E (callVM pr fv args M nb) (callV pr E fv args M nb fun v M => some (v, M)) := by
  unfold callVM callV
  split <;> first | exact callE_sim | exact .fail
/-- What is told of the tests is so. -/
def Kn.ok (kn : Kn) (env : Nat → V) : Prop := ∀ p ∈ kn, env p.1 = .t (.bool p.2)
theorem kn_at {kn : Kn} {env : Nat → V} (h : kn.ok env) {t : Nat} {v : Bool} (ha : kn.at t = some v) : env t = .t (.bool v) := by
  induction kn with
  | nil => cases ha
  | cons p kn ih =>
    obtain ⟨x, y⟩ := p
    simp only [Kn.at] at ha
    split at ha
    · rename_i e
      obtain rfl := Option.some.inj ha
      subst e
      exact h (x, y) (by simp)
    · exact ih (fun q hq => h q (by simp [hq])) ha
theorem opM_sim {pr : Pr} {nest : Bool} {kn : Kn} {o : Oper} {s : S} (hk : kn.ok s.env) : Sim E (opM pr nest kn o s) (opK pr E nest o s fun v M => some (v, M)) := by
  have eta : ∀ {y : Option (V × Mem)}, (y.bind fun x => some (x.1, x.2)) = y := fun {y} => by cases y <;> rfl
  obtain ⟨dst, op, type, pos, after, guard⟩ := o
  unfold opM opK
  cases op <;> dsimp only
  case move x => exact Sim.opt.bind fun v _ => .pure rfl
  case assign x => exact Sim.opt.bind fun v _ => .pure rfl
  case pick c a b =>
    refine Sim.opt.sub fun va ha => Sim.opt.sub fun vb hb => ?_
    rw [ha, hb]
    cases hg : kget kn c with
    | some y =>
      cases c with
      | tmp t =>
        have : arg s.env (.tmp t) = some (.t (.bool y)) := congrArg some (kn_at hk hg)
        rw [this]
        exact .pure rfl
      | _ => cases hg
    | none =>
      refine Sim.opt.bind fun c _ => ?_
      cases c with
      | t x => cases x <;> first | exact .br (.pure rfl) | exact .fail
      | _ => exact .fail
  case alloc t => exact Sim.opt.bind fun z _ => by rw [eta]; exact .opt
  case box t x => exact Sim.opt.bind fun z _ => by rw [eta]; exact .opt
  case build t ps =>
    cases !structOk pr.P t with
    | true => exact .fail
    | false => exact Sim.opt.bind fun ps _ => Sim.opt.bind fun z _ => Sim.opt.bind fun vs _ => .pure rfl
  case buildSlice t n ps => exact Sim.opt.bind fun ps _ => Sim.opt.bind fun e _ => Sim.opt.bind fun sz _ => Sim.opt.bind fun z _ => by rw [eta]; exact mkLit_sim
  case load t a => exact Sim.opt.bind fun p _ => Sim.opt.bind fun ag _ => Sim.opt.bind fun n _ => ld_sim.bind fun v _ => .pure rfl
  case store t a x =>
    refine Sim.opt.bind fun p _ => Sim.opt.bind fun v _ => Sim.opt.bind fun n _ => ?_
    split
    · exact (wrs_sim _ _).bind fun M' _ => .pure rfl
    · exact .fail
  case nilCheck x => exact Sim.opt.bind fun v _ => Sim.opt.bind fun v _ => .pure rfl
  case binOp op t x y _ => exact Sim.opt.bind fun a _ => Sim.opt.bind fun b _ => bin_sim.bind fun v _ => .pure rfl
  case unOp op t x => exact Sim.opt.bind fun a _ => nrmV_sim.bind fun v _ => .pure rfl
  case convert src dst x => exact Sim.opt.bind fun a _ => nrmV_sim.bind fun v _ => .pure rfl
  case makeFunc fn first captured =>
    cases fn with
    | func f =>
      dsimp only
      split
      · refine Sim.opt.bind fun vs _ => ?_
        cases vs.mapM tOf <;> exact .pure rfl
      · exact .fail
    | _ => exact .fail
  case makeSlice t l c => exact Sim.opt.bind fun l _ => Sim.opt.bind fun c _ => Sim.opt.bind fun e _ => Sim.opt.bind fun sz _ => Sim.opt.bind fun z _ => Sim.opt.bind fun i _ => by rw [eta]; exact mkMake_sim
  case slice t x lo hi mx =>
    refine Sim.opt.bind fun v _ => Sim.opt.bind fun lo _ => Sim.opt.bind fun hi _ => Sim.opt.bind fun mx _ => ?_
    cases hmx : (maxOk v mx && (mx.isNone || hi.isSome)) with
    | false =>
      cases mx with
      | none => simp [maxOk] at hmx
      | some m => exact .must fun hb => by cases hb
    | true =>
      simp only [Bool.not_true, cond_false]
      refine Sim.sub (y := some ()) ?_ fun _ _ => ?_
      · cases mx with
        | none => exact .pure rfl
        | some m => exact fun k r hr => ⟨(), rfl, hr⟩
      · cases pr.P.underlying t with
        | none => exact .fail
        | some ty =>
          cases ty with
          | slice e =>
            cases v with
            | t x => cases x <;> first | exact .fail | exact Sim.opt.bind fun sz _ => sub_sim.bind fun v _ => .pure rfl
            | _ => exact Sim.opt.bind fun sz _ => sub_sim.bind fun v _ => .pure rfl
          | string =>
            cases v with
            | t x => cases x <;> first | exact .fail | exact sub_sim.bind fun v _ => .pure rfl
            | _ => exact .fail
          | _ => exact .fail
  case fieldAddr t x f =>
    refine Sim.opt.bind fun p _ => Sim.opt.bind fun fi _ => ?_
    split
    · exact .fail
    · exact Sim.opt.bind fun v _ => .pure rfl
  case field t x f => exact Sim.opt.bind fun p _ => Sim.opt.bind fun fi _ => Sim.opt.bind fun v _ => .pure rfl
  case indexAddr t x i =>
    refine Sim.opt.bind fun x _ => Sim.opt.bind fun i _ => Sim.opt.bind fun e _ => Sim.opt.bind fun sz _ => ?_
    split
    · exact .fail
    · exact idxA_sim.bind fun v _ => .pure rfl
  case index t x i =>
    refine Sim.opt.bind fun x _ => Sim.opt.bind fun i _ => ?_
    cases pr.P.underlying t with
    | none => exact .fail
    | some ty => cases ty <;> first | exact .fail | exact idxS_sim.bind fun v _ => .pure rfl
  case extract x i => exact Sim.opt.bind fun x _ => Sim.opt.bind fun v _ => .pure rfl
  case call c =>
    cases hce : c.callee with
    | builtin b =>
      cases b <;> first | exact .fail | skip
      case len =>
        refine Sim.opt.bind fun vs _ => ?_
        cases (c.argTypes[0]?).bind pr.P.underlying with
        | none =>
          match vs with
          | [] => exact .fail
          | [v] => cases v with
            | t x => cases x <;> exact .fail
            | _ => exact .fail
          | v :: _ :: _ => cases v with
            | t x => cases x <;> exact .fail
            | _ => exact .fail
        | some ty =>
          match vs with
          | [] => cases ty <;> exact .fail
          | [v] => cases v with
            | t x => cases x <;> cases ty <;> first | exact .fail | exact nrmV_sim.bind fun v _ => .pure rfl
            | _ => cases ty <;> first | exact .fail | exact nrmV_sim.bind fun v _ => .pure rfl
          | v :: _ :: _ => cases v with
            | t x => cases x <;> cases ty <;> exact .fail
            | _ => cases ty <;> exact .fail
      case append =>
        refine Sim.opt.bind fun vs _ => ?_
        match vs, c.argTypes[0]?, c.argTypes[1]? with
        | [a, b], some t, some u =>
          have key : Sim E (bnd (optM (elemT pr.P t)) fun e => bnd (optM (szT pr.P e)) fun sz => bnd (optM (pr.P.info? e)) fun i => bnd (optM (zeroT pr.P e)) fun z =>
              if z.length = sz then appM (1000 + 8 * dst.getD 0) s.mem sz i.bytes a b else failM)
            ((elemT pr.P t).bind fun e => (szT pr.P e).bind fun sz => (pr.P.info? e).bind fun i => (zeroT pr.P e).bind fun z =>
              if z.length = sz then (app (1000 + 8 * dst.getD 0) s.mem sz i.bytes a b).bind fun x => some (x.1, x.2) else none) := by
            refine Sim.opt.bind fun e _ => Sim.opt.bind fun sz _ => Sim.opt.bind fun i _ => Sim.opt.bind fun z _ => ?_
            by_cases hz : z.length = sz
            · simp only [if_pos hz]; rw [eta]; exact app_sim
            · simp only [if_neg hz]; exact .fail
          dsimp only
          cases pr.P.underlying u with
          | none => exact .fail
          | some ty => cases ty <;> first | exact .fail | exact key
        | [], _, _ => exact .fail
        | [_], _, _ => exact .fail
        | _ :: _ :: _ :: _, _, _ => exact .fail
        | [_, _], none, _ => exact .fail
        | [_, _], some _, none => exact .fail
      case clear =>
        refine Sim.opt.bind fun vs _ => ?_
        match vs, c.argTypes[0]? with
        | [a], some t => exact Sim.opt.bind fun e _ => Sim.opt.bind fun sz _ => Sim.opt.bind fun z _ => clr_sim.bind fun M' _ => .pure rfl
        | [], _ => exact .fail
        | _ :: _ :: _, _ => exact .fail
        | [_], none => exact .fail
      case copy =>
        refine Sim.opt.bind fun vs _ => ?_
        match vs, c.argTypes[0]? with
        | [a, b], some t => exact Sim.opt.bind fun e _ => Sim.opt.bind fun sz _ => cpy_sim.bind fun q _ => .pure rfl
        | [], _ => exact .fail
        | [_], _ => exact .fail
        | _ :: _ :: _ :: _, _ => exact .fail
        | [_, _], none => exact .fail
      case max => exact Sim.opt.bind fun vs _ => nrmV_sim.bind fun v _ => .pure rfl
      case min => exact Sim.opt.bind fun vs _ => nrmV_sim.bind fun v _ => .pure rfl
    | value x =>
      cases x with
      | func f => exact Sim.opt.bind fun vs _ => callE_sim
      | _ => exact Sim.opt.bind fun fv _ => Sim.opt.bind fun vs _ => callV_sim
    | invoke r m => exact .fail
  all_goals exact .fail
end Go.Ev

/- The evaluator, twenty-fifth text: the tree of questions, code; what a trace shows. -/
namespace Go.Ev
set_option linter.unusedVariables false
set_option linter.unusedSimpArgs false
set_option linter.unusedVariables false
set_option linter.unusedSimpArgs false
variable {E : Q → Option Out}
section
variable {pr : Pr} {frz : List Nat} {nest : Bool} {nt : Nat} {ops : Array Oper}
theorem fin_sim {o : Oper} {s : S} {p : V × Mem} : Sim E (finM nt o s p) (fin nt o s p.1 p.2 some) := by
  unfold finM fin
  cases o.dst with
  | none => exact .pure rfl
  | some d =>
    dsimp only
    by_cases h : d < nt
    · rw [if_pos h, if_pos h, seqV_eq]; exact .pure rfl
    · rw [if_neg h, if_neg h]; exact .fail
theorem opF_sim {kn : Kn} {o : Oper} {s : S} (hk : kn.ok s.env) : Sim E (opFM pr frz nest kn o s) (opFK pr E frz nest o s fun v M => some (v, M)) := by
  unfold opFM opFK
  cases (o.dst.any fun d => frz.contains d) with
  | false => exact opM_sim hk
  | true =>
    simp only [cond_true]
    rw [opK_bind]
    refine (opM_sim hk).bind fun p _ => (mvV_sim p.1).bind fun q _ => Sim.opt.bind fun L _ => ?_
    cases L.all (fun id => bound o ≤ id && id < bound o + 8) with
    | false => exact .fail
    | true => exact .pure rfl
/-- A question of tests: its answer, and what is known behind. -/
def SimK (E : Q → Option Out) (env : Nat → V) (m : Mo (Bool × Kn)) (x : Option Bool) : Prop := ∀ k r, interp E (m k) = some r → ∃ y kn, x = some y ∧ Kn.ok kn env ∧ interp E (k (y, kn)) = some r
theorem SimK.sub {env : Nat → V} {β : Type} {m : Mo (Bool × Kn)} {x : Option Bool} {f : Bool × Kn → Mo β} {y : Option β} (h : SimK E env m x) (hf : ∀ b kn, x = some b → Kn.ok kn env → Sim E (f (b, kn)) y) : Sim E (bnd m f) y := fun k r hr => by
  obtain ⟨b, kn, h1, h2, h3⟩ := h _ r hr
  exact hf b kn h1 h2 k r h3
theorem wanted1_sim {kn : Kn} {o : Oper} {s : S} (hk : kn.ok s.env) : SimK E s.env (wanted1M ops kn o s) (wanted1 ops o s) := by
  unfold wanted1M wanted1
  cases o.guard with
  | none => exact fun k r hr => ⟨true, kn, rfl, hk, hr⟩
  | some g =>
    obtain ⟨j, b⟩ := g
    unfold wantM wantV
    dsimp only
    cases (ops[j]?).bind (·.dst) with
    | none => exact fun k r hr => by cases hr
    | some t =>
      dsimp only
      cases hv : kn.at t with
      | some v => rw [kn_at hk hv]; exact fun k r hr => ⟨v == b, kn, rfl, hk, hr⟩
      | none =>
        dsimp only
        cases he : s.env t with
        | t x =>
          cases x with
          | bool c =>
            refine fun k r hr => ⟨c == b, (t, c) :: kn, rfl, fun p hp => ?_, hr⟩
            rcases List.mem_cons.1 hp with rfl | hp
            · exact he
            · exact hk p hp
          | _ => exact fun k r hr => by cases hr
        | tup vs =>
          cases vs with
          | nil => exact fun k r hr => ⟨false, kn, rfl, hk, hr⟩
          | cons x y => exact fun k r hr => by cases hr
        | _ => exact fun k r hr => by cases hr
theorem op1_sim {kn : Kn} {o : Oper} {s : S} {y : Bool} (hk : kn.ok s.env) (hw : wanted1 ops o s = some y) : Sim E (op1M pr nt frz nest o y kn s) (op1K pr E nt frz nest ops o s some) := by
  unfold op1M op1K
  unfold wanted1 at hw
  cases hg : o.guard with
  | none =>
    rw [hg] at hw
    obtain rfl := Option.some.inj hw
    dsimp only
    rw [opFK_bind]
    exact (opF_sim hk).bind fun p _ => fin_sim
  | some g =>
    obtain ⟨j, b⟩ := g
    rw [hg] at hw
    dsimp only at hw ⊢
    rw [hw, Option.bind_some]
    cases y with
    | true => exact (opF_sim hk).bind fun p _ => fin_sim
    | false => exact fin_sim (p := (.tup [], s.mem))
theorem drop_ok {kn : Kn} {o : Oper} {s s' : S} (hk : kn.ok s.env) (h : op1K pr E nt frz nest ops o s some = some s') : (kn.drop o.dst).ok s'.env := by
  have key : ∀ v M, fin nt o s v M some = some s' → (kn.drop o.dst).ok s'.env := fun v M hf => by
    unfold fin at hf
    unfold Kn.drop
    cases hd : o.dst with
    | none => rw [hd] at hf; obtain rfl := Option.some.inj hf; exact hk
    | some d =>
      rw [hd] at hf
      dsimp only at hf ⊢
      split at hf
      · obtain rfl := Option.some.inj hf
        intro p hp
        rw [List.mem_filter] at hp
        have hne : p.1 ≠ d := by simpa using hp.2
        show upd s.env d v p.1 = _
        rw [upd_ne _ _ hne]
        exact hk p hp.1
      · cases hf
  unfold op1K at h
  split at h
  · rw [opFK_bind] at h
    obtain ⟨p, _, h⟩ := Option.bind_eq_some_iff.1 h
    exact key _ _ h
  · obtain ⟨y, _, h⟩ := Option.bind_eq_some_iff.1 h
    obtain ⟨p, _, h⟩ := Option.bind_eq_some_iff.1 h
    exact key _ _ h
theorem ops_sim : ∀ (l : List Nat) (kn : Kn) (s : S), kn.ok s.env → Sim E (opsM pr nt frz nest ops l kn s) (opsK pr E nt frz nest ops l s some)
  | [], kn, s, _ => .pure rfl
  | i :: r, kn, s, hk => by
    simp only [opsM, opsK]
    cases ops[i]? with
    | none => exact .fail
    | some o =>
      dsimp only
      rw [op1K_bind]
      exact (wanted1_sim hk).sub fun y kn' hy hk' => (op1_sim hk' hy).bind fun s' hs => ops_sim r _ s' (drop_ok hk' hs)
theorem opsD_sim {bm : Array Nat} : ∀ (l : List Nat) (log : List (Nat × Lg)) (kn : Kn) (s : S), kn.ok s.env → Sim E (opsDM pr nt frz nest ops bm l log kn s) (opsD pr E nt frz nest ops bm l log s some)
  | [], log, kn, s, _ => .pure rfl
  | i :: r, log, kn, s, hk => by
    simp only [opsDM, opsD]
    cases ops[i]? with
    | none => exact .fail
    | some o =>
      dsimp only
      refine (wanted1_sim hk).sub fun y kn' hy hk' => ?_
      rw [hy, Option.bind_some]
      refine Sim.opt.bind fun t _ => ?_
      rw [op1K_bind]
      refine (op1_sim hk' hy).bind fun s' hs => .must fun hc => ?_
      rw [hc]
      exact opsD_sim r _ _ s' (drop_ok hk' hs)
theorem loop_sim {l : LoopQ} {s : S} : Sim E (loopM l s) (loopE E l s) := Sim.opt.bind fun s1 _ => Sim.opt.bind fun s2 _ => .ask
theorem exec_sim {f : FuncId} : ∀ (x : Ann) (c : Code) (s : S), Sim E (execM pr f nt frz nest x c s) (exec pr E f nt frz nest x c s some)
  | .cut live x, c, s => by simp only [execM, exec, seqP_eq]; exact exec_sim x c _
  | .seq x y, c, s => by
    cases c <;> simp only [execM, exec] <;> first | exact .fail | skip
    rename_i a b
    rw [exec_bind pr E f nt frz nest x a s Out]
    refine (exec_sim x a s).bind fun o _ => ?_
    cases o <;> first | exact .pure rfl | exact exec_sim y b _
  | .cond x y, c, s => by
    cases c <;> simp only [execM, exec] <;> first | exact .fail | skip
    rename_i c a b
    refine Sim.opt.bind fun v _ => ?_
    cases v with
    | t v =>
      cases v with
      | bool t =>
        refine .br ?_
        cases t with
        | true => exact exec_sim x a s
        | false => exact exec_sim y b s
      | _ => exact .fail
    | _ => exact .fail
  | .block x, c, s => by
    cases c <;> simp only [execM, exec] <;> first | exact .fail | skip
    rename_i id c
    rw [exec_bind pr E f nt frz nest x c s Out]
    refine (exec_sim x c s).bind fun o _ => ?_
    cases o with
    | exit id' s' =>
      dsimp only
      by_cases h : id' = id
      · rw [if_pos h, if_pos h]; exact .pure rfl
      · rw [if_neg h, if_neg h]; exact .pure rfl
    | _ => exact .pure rfl
  | .loop live after rets thaw x, c, s => by
    cases c <;> simp only [execM, exec] <;> first | exact .fail | skip
    rename_i c
    have : ((loopE E ⟨f, live, after, rets, thaw, x, c⟩ s).bind some) = loopE E ⟨f, live, after, rets, thaw, x, c⟩ s := by cases loopE E ⟨f, live, after, rets, thaw, x, c⟩ s <;> rfl
    rw [this]
    exact loop_sim
  | .n, c, s => by
    cases c with
    | region id ops draw =>
      cases draw with
      | false => simp only [execM, exec]; rw [opsK_bind]; exact (ops_sim _ _ _ (fun p hp => by cases hp)).bind fun s' _ => .pure rfl
      | true =>
        simp only [execM, exec]
        cases drawOk ops with
        | false => exact .fail
        | true => simp only [cond_true]; rw [opsD_bind]; exact (opsD_sim _ _ _ _ (fun p hp => by cases hp)).bind fun s' _ => .pure rfl
    | _ => first | exact .fail | (simp only [execM, exec]; exact .pure rfl)
theorem res_sim {P : Program} {M : Mem} {env : Nat → V} : ∀ rs : List ResultVar, Sim E (resM P M env rs) (resV P M env rs)
  | [] => .pure rfl
  | .tmp t :: r => (res_sim r).map
  | .cell a t :: r => Sim.opt.bind fun ag _ => Sim.opt.bind fun n _ => ld_sim.bind fun v _ => (res_sim r).map
theorem ret_sim {pol : Pol} {fn : Func} {s : S} : Sim E (retM pr pol fn s) (retK pr pol fn s) := by
  unfold retM retK
  refine (res_sim _).bind fun vs _ => ?_
  have key : Sim E (bif pol.own then pureM (softR pol.soft (one vs), s.mem) else mvVM s.mem (softR pol.soft (one vs))) (bif pol.own then some (softR pol.soft (one vs), s.mem) else mvV s.mem (softR pol.soft (one vs))) := by
    cases pol.own with
    | true => exact .pure rfl
    | false => exact mvV_sim _
  refine key.bind fun p _ => Sim.opt.bind fun q _ => ?_
  obtain ⟨vs, H⟩ := q
  dsimp only
  match vs with
  | [] => exact .fail
  | [v] => exact .pure rfl
  | _ :: _ :: _ => exact .fail
theorem step_sim : ∀ q : Q, Sim E (stepM pr q) (step pr E q)
  | .call f args H => by
    simp only [stepM, step]
    cases !callable pr.P f with
    | true => exact .fail
    | false =>
      simp only [cond_false]
      cases pr.prim f with
      | some p => exact Sim.opt.map
      | none =>
        dsimp only
        cases pr.P.funcs[f]? with
        | none => exact .fail
        | some fn =>
          refine Sim.opt.bind fun c _ => ?_
          by_cases h : args.length ≤ fn.ntmps
          · rw [if_pos h, if_pos h, exec_bind]
            refine (exec_sim _ _ _).bind fun o _ => ?_
            cases o <;> first | exact ret_sim | exact .fail
          · rw [if_neg h, if_neg h]; exact .fail
  | .loop l s => by
    simp only [stepM, step]
    rw [exec_bind]
    refine (exec_sim _ _ _).bind fun o _ => ?_
    cases o with
    | next s' => exact loop_sim
    | exit id s' => exact Sim.opt.map
    | ret s' => exact Sim.opt.map
    | val _ _ => exact .fail
theorem tree_sim {q : Q} {o : Out} (h : interp E (tree pr q) = some o) : step pr E q = some o := by
  obtain ⟨v, h1, h2⟩ := step_sim q .ret o h
  rw [h1]; exact h2
end
/-! Traces. -/
inductive Tr where
  | b (b v : Bool)
  | m (b : Bool)
  | n (t : Ty) (x y : t.ty)
  | g (t : Ty) (x : Option t.ty) (y : t.ty)
  | a (q : Q) (o : Out)
def Tr.says (E : Q → Option Out) : Tr → Prop
  | .b c v => c = v
  | .m c => c = true
  | .n _ x y => x = y
  | .g _ x y => x = some y
  | .a q o => E q = some o
def chk : Fm → List Tr → Out → Prop
  | .ret o, [], r => o = r
  | .br b k, .b b' v :: l, r => b = b' ∧ chk (k v) l r
  | .must b k, .m b' :: l, r => b = b' ∧ chk k l r
  | .nrm t x k, .n t' x' y :: l, r => if h : t' = t then x = h ▸ x' ∧ chk (k (h ▸ y)) l r else False
  | .get t x k, .g t' x' y :: l, r => if h : t' = t then x = h ▸ x' ∧ chk (k (h ▸ y)) l r else False
  | .ask q k, .a q' o :: l, r => q = q' ∧ chk (k o) l r
  | _, _, _ => False
def good : List Tr → Out → Prop
  | [], r => r = r
  | .b b v :: l, r => b = b ∧ good l r
  | .m b :: l, r => b = b ∧ good l r
  | .n _ x y :: l, r => x = x ∧ good l r
  | .g _ x y :: l, r => x = x ∧ good l r
  | .a q o :: l, r => q = q ∧ good l r
theorem good_ok : ∀ (l : List Tr) (r : Out), good l r
  | [], r => rfl
  | .b b v :: l, r => ⟨rfl, good_ok l r⟩
  | .m b :: l, r => ⟨rfl, good_ok l r⟩
  | .n _ x y :: l, r => ⟨rfl, good_ok l r⟩
  | .g _ x y :: l, r => ⟨rfl, good_ok l r⟩
  | .a q o :: l, r => ⟨rfl, good_ok l r⟩
theorem chk_sound : ∀ (F : Fm) (l : List Tr) (r : Out), chk F l r → (∀ x ∈ l, x.says E) → interp E F = some r := by
  intro F
  induction F with
  | fail => intro l r h _; cases l <;> exact h.elim
  | ret o => intro l r h _; cases l with | nil => exact congrArg some h | cons x l => cases x <;> exact h.elim
  | ask q k ih =>
    intro l r h hs
    cases l with
    | nil => exact h.elim
    | cons x l =>
      cases x with
      | a q' o =>
        obtain ⟨rfl, h⟩ := h
        have : E q = some o := hs (.a q o) (by simp)
        simp only [interp, this, Option.bind_some]
        exact ih o l r h fun x hx => hs x (by simp [hx])
      | _ => exact h.elim
  | br b k ih =>
    intro l r h hs
    cases l with
    | nil => exact h.elim
    | cons x l =>
      cases x with
      | b b' v =>
        obtain ⟨rfl, h⟩ := h
        have : b = v := hs (.b b v) (by simp)
        simp only [interp]
        rw [this]
        exact ih v l r h fun x hx => hs x (by simp [hx])
      | _ => exact h.elim
  | must b k ih =>
    intro l r h hs
    cases l with
    | nil => exact h.elim
    | cons x l =>
      cases x with
      | m b' =>
        obtain ⟨rfl, h⟩ := h
        have : b = true := hs (.m b) (by simp)
        simp only [interp, this, cond_true]
        exact ih l r h fun x hx => hs x (by simp [hx])
      | _ => exact h.elim
  | nrm t x k ih =>
    intro l r h hs
    cases l with
    | nil => exact h.elim
    | cons y l =>
      cases y with
      | n t' x' y =>
        simp only [chk] at h
        split at h
        · rename_i ht
          subst ht
          obtain ⟨rfl, h⟩ := h
          have : x = y := hs (.n _ x y) (by simp)
          simp only [interp]
          rw [this]
          exact ih y l r h fun x hx => hs x (by simp [hx])
        · exact h.elim
      | _ => exact h.elim
  | get t x k ih =>
    intro l r h hs
    cases l with
    | nil => exact h.elim
    | cons y l =>
      cases y with
      | g t' x' y =>
        simp only [chk] at h
        split at h
        · rename_i ht
          subst ht
          obtain ⟨rfl, h⟩ := h
          have : x = some y := hs (.g _ x y) (by simp)
          simp only [interp, this, Option.bind_some]
          exact ih y l r h fun x hx => hs x (by simp [hx])
        · exact h.elim
      | _ => exact h.elim
/-! What a query comes to, with fuel enough. -/
def Ev (pr : Pr) (q : Q) (o : Out) : Prop := ∃ n0, ∀ n, n0 ≤ n → evF pr n q = some o
def Tr.ok (pr : Pr) : Tr → Prop
  | .b c v => c = v
  | .m c => c = true
  | .n _ x y => x = y
  | .g _ x y => x = some y
  | .a q o => Ev pr q o
def oks (pr : Pr) : List Tr → Prop
  | [] => True
  | x :: l => x.ok pr ∧ oks pr l
theorem oks_says {pr : Pr} : ∀ {l : List Tr}, oks pr l → ∃ n0, ∀ n, n0 ≤ n → ∀ x ∈ l, x.says (evF pr n)
  | [], _ => ⟨0, fun n _ x hx => by cases hx⟩
  | x :: l, h => by
    obtain ⟨n1, h1⟩ := oks_says h.2
    have h0 := h.1
    have : ∃ n0, ∀ n, n0 ≤ n → x.says (evF pr n) := by
      cases x with
      | a q o => exact h0
      | b c v => exact ⟨0, fun n _ => h0⟩
      | m c => exact ⟨0, fun n _ => h0⟩
      | n t x y => exact ⟨0, fun n _ => h0⟩
      | g t x y => exact ⟨0, fun n _ => h0⟩
    obtain ⟨n2, h2⟩ := this
    refine ⟨max n1 n2, fun n hn y hy => ?_⟩
    rcases List.mem_cons.1 hy with rfl | hy
    · exact h2 n (by omega)
    · exact h1 n (by omega) y hy
/-- One step of a query, told by a trace. -/
theorem Ev.tr {pr : Pr} {q : Q} {o : Out} (l : List Tr) (hc : good l o = chk (tree pr q) l o) (h : oks pr l) : Ev pr q o := by
  obtain ⟨n0, h0⟩ := oks_says h
  refine ⟨n0 + 1, fun n hn => ?_⟩
  obtain ⟨m, rfl⟩ : ∃ m, n = m + 1 := ⟨n - 1, by omega⟩
  exact tree_sim (chk_sound _ l o (hc ▸ good_ok l o) (h0 m (by omega)))
/-- A trace with its proofs. -/
inductive Tp (pr : Pr) where
  | b {c v : Bool} (h : c = v)
  | m {c : Bool} (h : c = true)
  | i {x y : Int} (h : x = y)
  | c {x y : Nat} (h : x = y)
  | n (t : Ty) {x y : t.ty} (h : x = y)
  | e {x : Option (List T)} {y : List T} (h : x = some y)
  | g (t : Ty) {x : Option t.ty} {y : t.ty} (h : x = some y)
  | a {q : Q} {o : Out} (h : Ev pr q o)
def Tp.tr {pr : Pr} : Tp pr → Tr
  | @Tp.b _ z v _ => .b z v
  | @Tp.m _ z _ => .m z
  | @Tp.i _ x y _ => .n .int x y
  | @Tp.c _ x y _ => .n .nat x y
  | @Tp.n _ t x y _ => .n t x y
  | @Tp.e _ x y _ => .g .row x y
  | @Tp.g _ t x y _ => .g t x y
  | @Tp.a _ q o _ => .a q o
def trs {pr : Pr} : List (Tp pr) → List Tr
  | [] => []
  | x :: l => x.tr :: trs l
theorem trs_ok {pr : Pr} : ∀ l : List (Tp pr), oks pr (trs l)
  | [] => trivial
  | x :: l => ⟨by cases x <;> (rename_i h; exact h), trs_ok l⟩
theorem Ev.tp {pr : Pr} {q : Q} {o : Out} (l : List (Tp pr)) (hc : good (trs l) o = chk (tree pr q) (trs l) o) : Ev pr q o := Ev.tr _ hc (trs_ok l)
end Go.Ev

/- The evaluator, twenty-sixth text: what an argument reads az. -/
namespace Go.Ev
set_option linter.unusedVariables false
set_option linter.unusedSimpArgs false
set_option linter.unusedVariables false
set_option linter.unusedSimpArgs false
/-- Whatever reads az a datum of type t is the cells of some y. -/
def Opens {α : Type} (P : Program) (t : TypeId) (ce : α → List T) (ok : α → Prop) : Prop :=
  ∀ (H : Type) (enc : TypeId × Value → H) (W : World) (fuel : Nat) (cs : List Value) (x : DataW H × List MemPlace),
    DataW.trod enc P W 0 (fun _ => true) true fuel t cs = some x → ∃ y, ok y ∧ cs.length = (ce y).length ∧ ∀ (i : Nat) (u : T) (c : Value), (ce y)[i]? = some u → cs[i]? = some c → RepT W (fun b => b < W.heap.size) u c
theorem one_cell {W : World} {F : Nat → Prop} {u : T} {c : Value} (h : RepT W F u c) : ∀ (i : Nat) (u' : T) (c' : Value), [u][i]? = some u' → [c][i]? = some c' → RepT W F u' c' := by
  intro i u' c' h1 h2
  cases i with
  | zero => obtain rfl : u = u' := by simpa using h1
            obtain rfl : c = c' := by simpa using h2
            exact h
  | succ i => simp at h1
theorem opens_int {P : Program} {t : TypeId} {k : IntKind} (ht : P.underlying t = some (.int k)) : Opens P t (fun n => [T.int k n]) (fun n => (Lit.int k n).wf = true) := by
  intro H enc W fuel cs x h
  obtain ⟨n, rfl, _, hw⟩ := DataW.trod_int ht h
  exact ⟨n, hw, rfl, one_cell (.int k n)⟩
theorem opens_bool {P : Program} {t : TypeId} (ht : P.underlying t = some .bool) : Opens P t (fun b => [T.bool b]) (fun _ => True) := by
  intro H enc W fuel cs x h
  obtain ⟨b, rfl, _⟩ := DataW.trod_bool ht h
  exact ⟨b, trivial, rfl, one_cell (.bool b)⟩
theorem opens_string {P : Program} {t : TypeId} (ht : P.underlying t = some .string) : Opens P t (fun s => [T.str s]) (fun s => s.size ≤ 9223372036854775807) := by
  intro H enc W fuel cs x h
  obtain ⟨s, rfl, _, hs⟩ := DataW.trod_string ht h
  exact ⟨s, hs, rfl, one_cell (.str s)⟩
theorem choose_list {α : Type} (R : Nat → α → Prop) : ∀ n : Nat, (∀ i, i < n → ∃ y, R i y) → ∃ l : List α, l.length = n ∧ ∀ i y, l[i]? = some y → R i y
  | 0, _ => ⟨[], rfl, fun i y h => by simp at h⟩
  | n + 1, h => by
    obtain ⟨l, hl, hr⟩ := choose_list R n (fun i hi => h i (by omega))
    obtain ⟨y, hy⟩ := h n (by omega)
    refine ⟨l ++ [y], by simp [hl], fun i z hz => ?_⟩
    by_cases hi : i < l.length
    · rw [List.getElem?_append_left hi] at hz
      exact hr i z hz
    · have hj : i = l.length := by
        have := (List.getElem?_eq_some_iff.1 hz).1
        rw [List.length_append, List.length_singleton] at this
        omega
      subst hj
      have e : y = z := by simpa using hz
      subst e
      rw [hl]
      exact hy
theorem cell_some {W : World} {a : Addr} {v : Value} (h : W.cell? a = some v) : a.spot = none ∧ a.block < W.heap.size := by
  unfold World.cell? at h
  split at h
  · rename_i c _ _ hb
    split at h
    · cases h
    · rename_i hs
      exact ⟨by simpa using hs, (Array.getElem?_eq_some_iff.1 hb).1⟩
  · cases h
theorem opens_slice {α : Type} {P : Program} {t e : TypeId} {sz : Nat} {ce : α → List T} {ok : α → Prop} (ht : P.underlying t = some (.slice e)) (hc : P.cellsOf e = sz) (h0 : 0 < sz) (hsz : ∀ y, (ce y).length = sz) (hd : Opens P e ce ok) :
    Opens P t (fun l : List α => [T.seq sz (l.map ce)]) (fun l => l.length ≤ 9223372036854775807 ∧ ∀ y ∈ l, ok y) := by
  intro H enc W fuel cs x h
  rcases DataW.trod_slice ht h with ⟨rfl, _⟩ | ⟨a, len, cap, elems, rest, n, _, rfl, _, _, hl, hm, hlen, hel, _, _⟩
  · exact ⟨[], ⟨by simp, fun y hy => by simp at hy⟩, rfl, one_cell (.seq0 ..)⟩
  · have each : ∀ i, i < len → ∃ y, ok y ∧ ∃ c : List Value, c.length = sz ∧ (∀ (j : Nat) (u : T) (v : Value), (ce y)[j]? = some u → c[j]? = some v → RepT W (fun b => b < W.heap.size) u v) ∧ ∀ (j : Nat) (u : Value), c[j]? = some u → W.cell? (a.add (i * sz + j)) = some u := by
      intro i hi
      have h1 := hel i hi
      have h2 : i < elems.length := by omega
      rw [List.getElem?_eq_getElem h2, Option.bind_eq_some_iff] at h1
      obtain ⟨c, hcc, hy⟩ := h1
      obtain ⟨y, ho, hk, hr⟩ := hd H enc W n c _ hy
      obtain ⟨g1, g2, g3⟩ := World.cells?_some hcc
      refine ⟨y, ho, c, by rw [g2, hc], hr, fun j u hj => ?_⟩
      have hj' := (List.getElem?_eq_some_iff.1 hj).1
      have := g3 j (by rw [← g2]; exact hj')
      rw [← hj, ← this, hc, Addr.add_add]
    obtain ⟨l, hll, hlr⟩ := choose_list _ len each
    subst hll
    refine ⟨l, ⟨Nat.le_trans hl hm, fun y hy => ?_⟩, rfl, one_cell ?_⟩
    · obtain ⟨i, hi⟩ := List.getElem?_of_mem hy
      exact (hlr i y hi).1
    · match l, hlr with
      | [], _ => exact .seq0 ..
      | y0 :: l', hlr =>
        obtain ⟨_, c0, k1, _, k3⟩ := hlr 0 y0 rfl
        have hv : ∃ v, c0[0]? = some v := ⟨c0[0]'(by omega), List.getElem?_eq_getElem (by omega)⟩
        obtain ⟨v0, hv0⟩ := hv
        obtain ⟨s1, s2⟩ := cell_some (k3 0 v0 hv0)
        obtain ⟨ab, ao, az⟩ := a
        obtain rfl : az = none := by simpa [Addr.add] using s1
        have addk : ∀ k, Addr.add ⟨ab, ao, none⟩ k = ⟨ab, ao + k, none⟩ := fun k => by
          unfold Addr.add
          by_cases hk : k = 0
          · rw [if_pos hk, hk]; rfl
          · rw [if_neg hk]
        rw [addk] at s2
        have hget : ∀ (i j : Nat) (e : List T) (u : T), ((y0 :: l').map ce)[i]? = some e → e[j]? = some u → ∃ v, W.cell? ⟨ab, ao + i * sz + j, none⟩ = some v ∧ RepT W (fun b => b < W.heap.size) u v := fun i j e u hi hj => by
          rw [List.getElem?_map] at hi
          obtain ⟨y, hy, rfl⟩ := Option.map_eq_some_iff.1 hi
          obtain ⟨_, c, q1, q2, q3⟩ := hlr i y hy
          have hjl := (List.getElem?_eq_some_iff.1 hj).1
          rw [hsz] at hjl
          have hv : c[j]? = some (c[j]'(by omega)) := List.getElem?_eq_getElem (by omega)
          refine ⟨_, ?_, q2 j u _ hj hv⟩
          have := q3 j _ hv
          rw [← this, addk, Nat.add_assoc]
        have := RepT.seq (w := W) (F := fun b => b < W.heap.size) (sz := sz) (es := (y0 :: l').map ce) (b := ab) (o := ao) (cap := cap) (vals := fun i j => (W.cell? ⟨ab, ao + i * sz + j, none⟩).getD Go.undef) s2 (by simpa using hl)
          (fun i e hi => by rw [List.getElem?_map] at hi; obtain ⟨y, _, rfl⟩ := Option.map_eq_some_iff.1 hi; exact hsz y)
          (fun i j e u hi hj => by obtain ⟨v, hv, _⟩ := hget i j e u hi hj; rw [hv]; rfl)
          (fun i j e u hi hj => by obtain ⟨v, hv, hr⟩ := hget i j e u hi hj; rw [hv]; exact hr)
        simpa using this
end Go.Ev

/- The evaluator, twenty-seventh text: a law that comes to true. -/
namespace Go.Ev
set_option linter.unusedVariables false
set_option linter.unusedSimpArgs false
set_option linter.unusedVariables false
set_option linter.unusedSimpArgs false
theorem wf_none (W : World) : Wf W (fun b => b < W.heap.size) (fun _ _ => none) (ofL []) :=
  ⟨fun id o h => by simp [ofL] at h, fun id p id' p' b o o' h => by cases p <;> simp [Live, ofL] at h, fun id p b o h => by cases p <;> simp [Live, ofL] at h, fun b h => h⟩
/-- A law that comes to true, run. -/
theorem law_calls {pr : Pr} (hm : pr.P.follows .mixedOrders = true) (hp : PrimOk pr) {f : FuncId} {args : List V} {cs : Array Value} {W : World} (h : Ev pr (.call f args []) (.val (.t (.bool true)) []))
    (hr : RepL W (fun b => b < W.heap.size) (fun _ _ => none) (ofL []) args cs) : Calls pr.P f cs W fun e W' => e = .returned (.bool true) ∧ RowKit.Below W.heap.size W W' := by
  obtain ⟨n0, hn⟩ := h
  obtain ⟨_, hc⟩ := (all_ok hm hp n0).1 f args [] _ _ (hn n0 (Nat.le_refl _))
  refine (hc W _ _ cs (wf_none W) hr).mono fun e w' ⟨c, F', σ', he, hs, hv⟩ => ⟨?_, hs.fr.os, hs.fr.tape, hs.fr.output, hs.fr.size, fun k hk => hs.fr.block k hk fun ⟨id, p, o, hl, _⟩ => by cases p <;> simp [Live, ofL] at hl⟩
  rw [he]
  cases hv with
  | t hv => cases hv; rfl
theorem repL_cons {w : World} {F : Nat → Prop} {σ : Sg} {M : Mem} {args : List V} {cs : Array Value} (hl : args.length = cs.size) (h : ∀ (i : Nat) (v : V), args[i]? = some v → RepV w F σ M v (cs.getD i Go.undef)) : RepL w F σ M args cs := ⟨hl, h⟩
/-- A value of one cell. -/
theorem rep_one {w : World} {F : Nat → Prop} {σ : Sg} {M : Mem} {u : T} {c : Value} (h : ∀ (i : Nat) (x : T) (v : Value), [u][i]? = some x → [c][i]? = some v → RepT w F x v) : RepV w F σ M (.t u) c := .t (h 0 u c rfl rfl)
theorem rep_agg {w : World} {F : Nat → Prop} {σ : Sg} {M : Mem} {us : List T} {cs : Array Value} (hl : us.length = cs.size) (h : ∀ (i : Nat) (x : T) (v : Value), us[i]? = some x → cs.toList[i]? = some v → RepT w F x v) : RepV w F σ M (.agg (us.map V.t)) (.agg cs) := by
  refine .agg (by simpa using hl) fun i v hi => ?_
  rw [List.getElem?_map] at hi
  obtain ⟨u, hu, rfl⟩ := Option.map_eq_some_iff.1 hi
  have hlt := (List.getElem?_eq_some_iff.1 hu).1
  have hc : cs.toList[i]? = some (cs.getD i Go.undef) := by
    rw [Array.getElem?_toList, Array.getD_eq_getD_getElem?, Array.getElem?_eq_getElem (by omega)]; rfl
  exact .t (h i u _ hu hc)
end Go.Ev

/- The evaluator, twenty-eighth text: the loops of a function by number; words for values. -/
namespace Go.Ev
set_option linter.unusedVariables false
set_option linter.unusedSimpArgs false
def loopsOf (f : FuncId) : Ann → Code → List LoopQ
  | .cut _ a, c => loopsOf f a c
  | .seq x y, .seq a b => loopsOf f x a ++ loopsOf f y b
  | .cond x y, .cond _ a b => loopsOf f x a ++ loopsOf f y b
  | .block x, .block _ c => loopsOf f x c
  | .loop live after rets thaw x, .loop c => ⟨f, live, after, rets, thaw, x, c⟩ :: loopsOf f x c
  | _, _ => []
/-- Loop i of function f, counted az they stand. -/
def lq (pr : Pr) (f : FuncId) (i : Nat) : LoopQ :=
  match (pr.P.funcs[f]?).bind (·.body) with
  | some c => ((loopsOf f (pr.ann f) c)[i]?).getD ⟨0, [], [], [], [], .n, .skip⟩
  | none => ⟨0, [], [], [], [], .n, .skip⟩
/-- A state at a loop: slots, objects, how many came in. -/
def at_ (l : List (Nat × V)) (H : List Ob) (k0 : Nat) : S := ⟨ofE l, ofL H, k0⟩
def i64 (n : Int) : V := .t (.int .i64 n)
def bl (b : Bool) : V := .t (.bool b)
def sl (sz : Nat) (es : List (List T)) : V := .t (.seq sz es)
theorem wrap_i64 {a : Int} (h1 : -9223372036854775808 ≤ a) (h2 : a ≤ 9223372036854775807) : IntKind.i64.wrap a = a := by
  have hb : IntKind.i64.bits = 64 := rfl
  have hs : IntKind.i64.signed = true := rfl
  unfold IntKind.wrap
  rw [hb, hs]
  simp only [Bool.true_and, decide_eq_true_eq]
  have e1 : (2 : Int) ^ 64 = 18446744073709551616 := by decide
  have e2 : (2 : Int) ^ (64 - 1) = 9223372036854775808 := by decide
  rw [e1, e2]
  split <;> omega
end Go.Ev
namespace Go.Ev
/-- A length, told az it is. -/
def Tp.l {pr : Pr} (n : Nat) : Tp pr := .i (rfl : (n : Int) = n)
/-- The length of a told list. -/
def Tp.ll {pr : Pr} {α : Type} (ce : α → List T) (l : List α) : Tp pr := .i (show ((l.map ce).length : Int) = l.length by rw [List.length_map])
/-- An element of a list that is told by parts. -/
theorem lkp_at {α : Type} (ce : α → List T) {l done rest : List α} {x : α} (h : l = done ++ x :: rest) : lkp (l.map ce) (done.length : Int) = some (ce x) := by
  subst h
  unfold lkp
  rw [if_pos (by omega)]
  simp
theorem lkp_get {α : Type} (ce : α → List T) {l : List α} {i : Int} {x : α} (h0 : 0 ≤ i) (h : l[i.toNat]? = some x) : lkp (l.map ce) i = some (ce x) := by
  unfold lkp
  rw [if_pos h0]
  simp [h]
/-- A row that is filled from the left. -/
def part {α : Type} (g : α → List C) (z : List C) (l done : List α) : List (List C) := done.map g ++ List.replicate (l.length - done.length) z
theorem part_len {α : Type} (g : α → List C) (z : List C) {l done rest : List α} (h : l = done ++ rest) : (part g z l done).length = l.length := by
  subst h; simp [part]
theorem part_nil {α : Type} (g : α → List C) (z : List C) (l : List α) : part g z l [] = List.replicate l.length z := by simp [part]
theorem part_all {α : Type} (g : α → List C) (z : List C) {l done : List α} (h : l = done ++ []) : part g z l done = l.map g := by subst h; simp [part]
theorem part_get {α : Type} (g : α → List C) (z : List C) {l done rest : List α} {x : α} (h : l = done ++ x :: rest) : (part g z l done)[done.length]? = some z := by
  subst h
  unfold part
  rw [List.getElem?_append_right (by simp)]
  simp
theorem part_set {α : Type} (g : α → List C) (z : List C) {l done rest : List α} {x : α} (h : l = done ++ x :: rest) : (part g z l done).set done.length (g x) = part g z l (done ++ [x]) := by
  subst h
  unfold part
  have e1 : (done ++ x :: rest).length - done.length = rest.length + 1 := by simp
  have e2 : (done ++ x :: rest).length - (done ++ [x]).length = rest.length := by simp; omega
  rw [e1, e2, List.replicate_succ, List.set_append_right _ _ (by simp)]
  simp
/-- Frozen, a row of data is itself. -/
theorem fz_all {α : Type} (ce : α → List T) (l : List α) : (((l.map fun x => (ce x).map C.t).drop 0).take l.length).map (·.map C.fz) = l.map ce := by
  rw [List.drop_zero, List.take_of_length_le (by simp), List.map_map]
  apply List.map_congr_left
  intro x _
  simp [C.fz, Function.comp_def]
theorem full_ok {α : Type} (g : α → List C) (l : List α) : decide ((l.map g).length = l.length ∧ 0 + l.length ≤ l.length) = true := decide_eq_true (by simp)
theorem ne_self (a : Int) : (a != a) = false := by simp
theorem str_self (s : ByteArray) : (!(s.toList == s.toList)) = false := by simp
end Go.Ev

/- The evaluator, twenty-ninth text: rules by which a question is told in a nicer form; an outcome that is told otherwise. -/
namespace Go.Ev
set_option linter.unusedVariables false
set_option linter.unusedSimpArgs false
set_option linter.unusedVariables false
set_option linter.unusedSimpArgs false
theorem Ev.tpe {pr : Pr} {q : Q} {o : Out} (l : List (Tp pr)) (o' : Out) (hc : good (trs l) o' = chk (tree pr q) (trs l) o') (e : o' = o) : Ev pr q o := e ▸ Ev.tp l hc
theorem Ev.castq {pr : Pr} {q q' : Q} {o : Out} (e : q = q') (h : Ev pr q o) : Ev pr q' o := e ▸ h
attribute [simp] i64 bl sl
theorem wrap_u8 {a : Int} (h1 : 0 ≤ a) (h2 : a ≤ 255) : IntKind.u8.wrap a = a := by
  have hb : IntKind.u8.bits = 8 := rfl
  have hs : IntKind.u8.signed = false := rfl
  unfold IntKind.wrap
  rw [hb, hs]
  have e1 : (2 : Int) ^ 8 = 256 := by decide
  simp only [Bool.false_and, e1]
  simp
  omega
theorem wrap_u64 {a : Int} (h1 : 0 ≤ a) (h2 : a ≤ 9223372036854775807) : IntKind.u64.wrap a = a := by
  have hb : IntKind.u64.bits = 64 := rfl
  have hs : IntKind.u64.signed = false := rfl
  unfold IntKind.wrap
  rw [hb, hs]
  have e1 : (2 : Int) ^ 64 = 18446744073709551616 := by decide
  simp only [Bool.false_and, e1]
  simp
  omega
/-- Cells of data. -/
def tc (l : List T) : List C := l.map C.t
@[simp] theorem tc_fz (l : List T) : (tc l).map C.fz = l := by simp [tc, C.fz, Function.comp_def]
@[simp] theorem tc_len (l : List T) : (tc l).length = l.length := by simp [tc]
@[simp] theorem map_t_fz (l : List T) : (l.map C.t).map C.fz = l := tc_fz l
@[simp] theorem map_tc_fz {α : Type} (ce : α → List T) (l : List α) : (l.map fun x => tc (ce x)).map (List.map C.fz) = l.map ce := by simp [Function.comp_def]
@[simp] theorem map_tc_fz1 (l : List (List T)) : (l.map tc).map (List.map C.fz) = l := by simp [Function.comp_def]
@[simp] theorem map_tc_fz2 (l : List (List T)) : (l.map (List.map C.t)).map (List.map C.fz) = l := by simp [Function.comp_def, C.fz]
@[simp] theorem lkp_app {α : Type} (az : List α) (y : α) (bs : List α) : lkp (az ++ y :: bs) (az.length : Int) = some y := by simp [lkp]
@[simp] theorem lkp_mapapp {α β : Type} (f : β → α) (az : List β) (y : α) (bs : List α) : lkp (az.map f ++ y :: bs) (az.length : Int) = some y := by
  have := lkp_app (az.map f) y bs
  simpa using this
@[simp] theorem lkp_zero {α : Type} (y : α) (l : List α) : lkp (y :: l) 0 = some y := by simp [lkp]
@[simp] theorem lkp_one {α : Type} (x y : α) (l : List α) : lkp (x :: y :: l) 1 = some y := by simp [lkp]
theorem lkp_some {α β : Type} (f : α → β) {l : List α} {i : Int} {x : α} (h0 : 0 ≤ i) (h : l[i.toNat]? = some x) : lkp (l.map f) i = some (f x) := by simp [lkp, h0, h]
@[simp] theorem set_mid {α : Type} (az : List α) (y z : α) (bs : List α) : (az ++ y :: bs).set az.length z = az ++ z :: bs := by simp
@[simp] theorem set_mapmid {α β : Type} (f : β → α) (az : List β) (y z : α) (bs : List α) : (az.map f ++ y :: bs).set az.length z = az.map f ++ z :: bs := by simp
@[simp high] theorem get_mid {α : Type} (az : List α) (y : α) (bs : List α) : (az ++ y :: bs)[az.length]? = some y := by simp
@[simp high] theorem get_mapmid {α β : Type} (f : β → α) (az : List β) (y : α) (bs : List α) : (az.map f ++ y :: bs)[az.length]? = some y := by simp
@[simp] theorem toNat_add1 (n : Nat) : ((n : Int) + 1).toNat = n + 1 := by omega
@[simp] theorem take_len_map {α β : Type} (f : α → β) (l : List α) : (l.map f).take l.length = l.map f := by rw [← List.length_map (f := f), List.take_length]
end Go.Ev

/- Plain words for what the program's functions compute: bytes, letters, strengths. -/
namespace Go.Ev
set_option linter.unusedVariables false
set_option linter.unusedSimpArgs false
set_option linter.unusedVariables false
set_option linter.unusedSimpArgs false
theorem bys_len (s : ByteArray) : s.toList.length = s.size := by simp only [ByteArray.toList_eq, ByteArray.size, Array.length_toList]
theorem lkpS_mid {s : ByteArray} {done rest : List UInt8} {b : UInt8} {i : Int} (h : s.toList = done ++ b :: rest) (hi : i = done.length) : lkpS s i = some b := by
  subst hi
  have hl : done.length < s.size := by rw [← bys_len, h]; simp
  have : s[done.length]? = some b := by
    rw [getElem?_pos s done.length hl]
    have : s[done.length] = (s.toList)[done.length]'(by rw [bys_len]; exact hl) := by
      simp [ByteArray.toList_eq, ByteArray.getElem_eq_getElem_data]
    rw [this]
    simp [h]
  simp [lkpS, this]
theorem bys_cut {s : ByteArray} {done rest : List UInt8} (h : s.toList = done ++ rest) : (s.size : Int) = done.length + rest.length := by
  have := congrArg List.length h
  rw [bys_len] at this
  simp at this
  omega
theorem size_zero (s : ByteArray) : s.toList = [] ↔ s.size = 0 := by
  have := bys_len s
  constructor
  · intro h; rw [h] at this; simpa using this.symm
  · intro h; exact List.length_eq_zero_iff.1 (by omega)
theorem bytes_ext {a b : ByteArray} (h : a.toList = b.toList) : a = b := by
  rw [ByteArray.toList_eq, ByteArray.toList_eq] at h
  cases a; cases b
  congr 1
  exact Array.toList_inj.1 h
def letter (b : UInt8) : Bool := decide (97 ≤ (b.toNat : Int)) && decide ((b.toNat : Int) ≤ 122)
theorem takeWhile_all (l : List UInt8) : (l.takeWhile letter).length = l.length ↔ l.all letter = true := by
  induction l with
  | nil => simp
  | cons b l ih => cases h : letter b <;> simp [List.takeWhile_cons, h, ih]
theorem takeWhile_size (s : ByteArray) : decide (((s.toList.takeWhile letter).length : Int) = (s.size : Int)) = s.toList.all letter := by
  have h := takeWhile_all s.toList
  rw [bys_len] at h
  cases hl : s.toList.all letter with
  | true => simp only [decide_eq_true_eq]; have := h.2 hl; omega
  | false => simp only [decide_eq_false_iff_not]; intro hh; have := h.1 (by omega); rw [hl] at this; cases this
def strength (l : List UInt8) : Int :=
  if l = [124, 124] then 1 else if l = [38, 38] then 2 else if l = [61, 61] ∨ l = [33, 61] then 3 else if l = [60] ∨ l = [60, 61] then 4
  else if l = [43] ∨ l = [45] then 5 else if l = [42] ∨ l = [47] ∨ l = [37] then 6 else if l = [60, 60] then 7 else 0
theorem strength_nonneg (l : List UInt8) : 0 ≤ strength l := by unfold strength; repeat' split <;> omega
def nameOk (s : ByteArray) : Bool := decide (1 ≤ s.size ∧ s.size ≤ 8) && s.toList.all letter
theorem nameOk_code (s : ByteArray) : nameOk s = (!(s.toList == []) && (decide ((s.size : Int) ≤ 8) && decide (((s.toList.takeWhile letter).length : Int) = (s.size : Int)))) := by
  rw [takeWhile_size]
  unfold nameOk
  have h0 := size_zero s
  by_cases h1 : s.size = 0
  · simp [h1, h0.2 h1]
  · have h2 : s.toList ≠ [] := fun h => h1 (h0.1 h)
    by_cases h3 : s.size ≤ 8
    · have h4 : (s.size : Int) ≤ 8 := by omega
      have h5 : 1 ≤ s.size := by omega
      simp [h2, h3, h4, h5]
    · have h4 : ¬ (s.size : Int) ≤ 8 := by omega
      simp [h3, h4]
theorem nameOk_true {s : ByteArray} (h : s.toList.all letter = true) : nameOk s = (decide ((s.size : Int) ≥ 1) && decide ((s.size : Int) ≤ 8)) := by
  unfold nameOk
  rw [h]
  have e1 : (1 ≤ s.size) ↔ ((s.size : Int) ≥ 1) := by omega
  have e2 : (s.size ≤ 8) ↔ ((s.size : Int) ≤ 8) := by omega
  simp [e1, e2]
theorem nameOk_false {s : ByteArray} (h : s.toList.all letter = false) : nameOk s = false := by unfold nameOk; rw [h]; simp
end Go.Ev

/- Expressions in plain words: parts, trees, how a tree is read. -/
namespace Go.Ev
set_option linter.unusedVariables false
set_option linter.unusedSimpArgs false
set_option linter.unusedVariables false
set_option linter.unusedSimpArgs false
abbrev e0 : ByteArray := ⟨#[]⟩
@[simp] theorem toList_nil (s : ByteArray) : s.toList = [] ↔ s = e0 := by
  constructor
  · intro h; exact bytes_ext (by rw [h]; simp [ByteArray.toList_eq])
  · intro h; rw [h]; simp [ByteArray.toList_eq]
def vs (l : List T) : V := .agg (l.map V.t)
attribute [simp] vs
structure Ex where
  kind : Int
  num : Int
  text : ByteArray
def Ex.ce (x : Ex) : List T := [.int .i64 x.kind, .int .i64 x.num, .str x.text]
def Ex.z : List C := [.t (.int .i64 0), .t (.int .i64 0), .t (.str e0)]
def exs (l : List Ex) : V := sl 3 (l.map Ex.ce)
attribute [simp] exs
structure Line where
  kind : Int
  name : Int
  expr : List Ex
def Line.ce (x : Line) : List T := [.int .i64 x.kind, .int .i64 x.name, .seq 3 (x.expr.map Ex.ce)]
def Line.z : List C := [.t (.int .i64 0), .t (.int .i64 0), .t .nils]
def lines (l : List Line) : V := sl 3 (l.map Line.ce)
inductive E where
  | num (n : Int)
  | name (s : ByteArray)
  | neg (a : E)
  | not (a : E)
  | two (s : ByteArray) (a b : E)
  deriving Inhabited
def E.kind : E → Int
  | .num _ => 1
  | .name _ => 2
  | .neg _ => 3
  | .not _ => 4
  | .two .. => 5
def E.nm : E → Int
  | .num n => n
  | _ => 0
def E.text : E → ByteArray
  | .name s => s
  | .two s _ _ => s
  | _ => e0
/-- The program's tree: its two parts. -/
def E.tab : E → T × T
  | .neg a | .not a => (.ptr [.int .i64 a.kind, .int .i64 a.nm, .str a.text, a.tab.1, a.tab.2] 0, .nilp)
  | .two _ a b => (.ptr [.int .i64 a.kind, .int .i64 a.nm, .str a.text, a.tab.1, a.tab.2] 0, .ptr [.int .i64 b.kind, .int .i64 b.nm, .str b.text, b.tab.1, b.tab.2] 0)
  | _ => (.nilp, .nilp)
def E.tp (e : E) : T := .ptr [.int .i64 e.kind, .int .i64 e.nm, .str e.text, e.tab.1, e.tab.2] 0
/-- The reference's tree: its parts. -/
def E.kids : E → List (List T)
  | .neg a | .not a => [[.int .i64 a.kind, .int .i64 a.nm, .str a.text, .seq 4 a.kids]]
  | .two _ a b => [[.int .i64 a.kind, .int .i64 a.nm, .str a.text, .seq 4 a.kids], [.int .i64 b.kind, .int .i64 b.nm, .str b.text, .seq 4 b.kids]]
  | _ => []
def E.ts (e : E) : List T := [.int .i64 e.kind, .int .i64 e.nm, .str e.text, .seq 4 e.kids]
@[simp] theorem E.kind_num (n : Int) : (E.num n).kind = 1 := rfl
@[simp] theorem E.kind_name (s : ByteArray) : (E.name s).kind = 2 := rfl
@[simp] theorem E.kind_neg (a : E) : (E.neg a).kind = 3 := rfl
@[simp] theorem E.kind_not (a : E) : (E.not a).kind = 4 := rfl
@[simp] theorem E.kind_two (s : ByteArray) (a b : E) : (E.two s a b).kind = 5 := rfl
@[simp] theorem E.nm_num (n : Int) : (E.num n).nm = n := rfl
@[simp] theorem E.nm_name (s : ByteArray) : (E.name s).nm = 0 := rfl
@[simp] theorem E.nm_neg (a : E) : (E.neg a).nm = 0 := rfl
@[simp] theorem E.nm_not (a : E) : (E.not a).nm = 0 := rfl
@[simp] theorem E.nm_two (s : ByteArray) (a b : E) : (E.two s a b).nm = 0 := rfl
@[simp] theorem E.text_num (n : Int) : (E.num n).text = e0 := rfl
@[simp] theorem E.text_name (s : ByteArray) : (E.name s).text = s := rfl
@[simp] theorem E.text_neg (a : E) : (E.neg a).text = e0 := rfl
@[simp] theorem E.text_not (a : E) : (E.not a).text = e0 := rfl
@[simp] theorem E.text_two (s : ByteArray) (a b : E) : (E.two s a b).text = s := rfl
def readE : Nat → List Ex → Option (E × List Ex)
  | 0, _ => none
  | _ + 1, [] => none
  | n + 1, x :: r =>
    if x.kind = 1 then (if 0 ≤ x.num ∧ x.num ≤ 999999999 then if x.text = e0 then some (.num x.num, r) else none else none)
    else if x.kind = 2 then (if x.num = 0 then if nameOk x.text = true then some (.name x.text, r) else none else none)
    else if x.kind = 3 then (if x.num = 0 then if x.text = e0 then match readE n r with
        | some (a, r) => some (.neg a, r)
        | none => none else none else none)
    else if x.kind = 4 then (if x.num = 0 then if x.text = e0 then match readE n r with
        | some (a, r) => some (.not a, r)
        | none => none else none else none)
    else if x.kind = 5 then (if x.num = 0 then if strength x.text.toList = 0 then none else match readE n r with
        | some (a, r1) => match readE n r1 with
          | some (b, r2) => some (.two x.text a b, r2)
          | none => none
        | none => none else none)
    else none
theorem readE_lt (n : Nat) (l : List Ex) : ∀ (e : E) (r : List Ex), readE n l = some (e, r) → r.length < l.length := by
  fun_induction readE n l <;> grind
theorem readE_suf (n : Nat) (l : List Ex) : ∀ (e : E) (r : List Ex), readE n l = some (e, r) → r <:+ l := by
  fun_induction readE n l <;> grind [List.suffix_cons, List.IsSuffix.trans]
theorem readE_mem {n : Nat} {l r : List Ex} {e : E} (h : readE n l = some (e, r)) : ∀ x ∈ r, x ∈ l := fun x hx => (readE_suf n l e r h).mem hx
def outP : Option (E × List Ex) → V
  | none => .tup [.t .nilp, exs []]
  | some (e, r) => .tup [.t e.tp, exs r]
def outS (n : Nat) : Option (E × List Ex) → V
  | none => .tup [vs [.int .i64 0, .int .i64 0, .str e0, .seq 4 []], i64 0]
  | some (e, r) => .tup [vs e.ts, i64 (n - r.length)]
/-- The number of a local's name, or -1. -/
def nameNo (s : ByteArray) : Int :=
  match s.toList with
  | [b] => if 97 ≤ (b.toNat : Int) ∧ (b.toNat : Int) ≤ 106 then (b.toNat : Int) - 97 else -1
  | _ => -1
theorem one_byte {s : ByteArray} (h : s.size = 1) : ∃ b, s.toList = [b] ∧ lkpS s 0 = some b := by
  have hl := bys_len s
  rw [h] at hl
  match hs : s.toList, hl with
  | [b], _ => exact ⟨b, rfl, lkpS_mid (done := []) (rest := []) (by simpa using hs) (by simp)⟩
theorem nameNo_size {s : ByteArray} (h : s.size ≠ 1) : nameNo s = -1 := by
  have hl := bys_len s
  unfold nameNo
  split
  · rename_i b hb; rw [hb] at hl; simp at hl; omega
  · rfl
def bad (x : Ex) : Bool := decide (x.kind = 2) && decide (nameNo x.text < 0)
def E.names : E → Bool
  | .num _ => true
  | .name s => decide (0 ≤ nameNo s)
  | .neg a | .not a => a.names
  | .two _ a b => a.names && b.names
def idxFrom {α : Type} (p : α → Bool) (i : Int) : List α → Int
  | [] => -1
  | x :: r => if p x = true then i else idxFrom p (i + 1) r
theorem idxFrom_any {α : Type} (p : α → Bool) : ∀ (l : List α) (i : Int), 0 ≤ i → decide (idxFrom p i l ≥ 0) = l.any p
  | [], i, hi => by simp [idxFrom]
  | x :: r, i, hi => by
    unfold idxFrom
    cases h : p x with
    | true => simp [h, hi]
    | false => simp only [Bool.false_eq_true, if_false, List.any_cons, h, Bool.false_or]; exact idxFrom_any p r (i + 1) (by omega)
theorem idxFrom_neg {α : Type} (p : α → Bool) (l : List α) (i : Int) : 0 ≤ i → ¬ 0 ≤ idxFrom p i l → idxFrom p i l = -1 := by
  fun_induction idxFrom p i l <;> grind
theorem readE_names (n : Nat) (l : List Ex) : ∀ (e : E) (r : List Ex), readE n l = some (e, r) → l.any bad = (!e.names || r.any bad) := by
  fun_induction readE n l <;> intro e r h
  all_goals (try cases h)
  all_goals grind [E.names, bad]
/-- A whole expression. -/
def parse (l : List Ex) : Option E :=
  if l.length ≤ 40 then match readE l.length l with
    | some (e, []) => some e
    | _ => none else none
def outE : Option E → V
  | none => .t .nilp
  | some e => .t e.tp
/-- A whole expression of locals. -/
def parseL (l : List Ex) : Option E := if l.any bad = true then none else parse l
theorem parse_names {l : List Ex} {e : E} (h : parse l = some e) : l.any bad = !e.names := by
  unfold parse at h
  split at h
  · split at h
    · rename_i e' h1
      obtain rfl := Option.some.inj h
      have := readE_names _ _ _ _ h1
      simpa using this
    · cases h
  · cases h
def lineOk (x : Line) : Bool :=
  if x.kind = 1 then (decide (x.name ≥ 0) && decide (x.name ≤ 9)) && (parseL x.expr).isSome
  else if x.kind = 2 then decide (x.name = 0) && (parseL x.expr).isSome
  else decide (x.kind = 3) && decide (x.name = 0) && decide (x.expr.length = 0)
/-- What the reference has read of a list of parts. -/
def tree? (l : List Ex) : Option E := if l.length ≤ 40 then (readE l.length l).map (·.1) else none
def oKind : Option E → Int
  | some e => e.kind
  | none => 0
def oNm : Option E → Int
  | some e => e.nm
  | none => 0
def oText : Option E → ByteArray
  | some e => e.text
  | none => e0
def oKids : Option E → List (List T)
  | some e => e.kids
  | none => []
def oe (o : Option E) : List T := [.int .i64 (oKind o), .int .i64 (oNm o), .str (oText o), .seq 4 (oKids o)]
@[simp] theorem oKind_some (e : E) : oKind (some e) = e.kind := rfl
@[simp] theorem oNm_some (e : E) : oNm (some e) = e.nm := rfl
@[simp] theorem oText_some (e : E) : oText (some e) = e.text := rfl
@[simp] theorem oKids_some (e : E) : oKids (some e) = e.kids := rfl
@[simp] theorem oKind_none : oKind none = 0 := rfl
@[simp] theorem oNm_none : oNm none = 0 := rfl
@[simp] theorem oText_none : oText none = e0 := rfl
@[simp] theorem oKids_none : oKids none = [] := rfl
theorem parse_tree {l : List Ex} {e : E} (h : parse l = some e) : tree? l = some e := by
  unfold parse at h
  unfold tree?
  split at h
  · rename_i h1
    rw [if_pos h1]
    split at h
    · rename_i h2; rw [h2]; simpa using h
    · cases h
  · cases h
theorem parseL_isSome (l : List Ex) : (parseL l).isSome = ((parse l).isSome && ((tree? l).map E.names).getD true) := by
  unfold parseL
  cases h : parse l with
  | none => simp
  | some e =>
    rw [parse_names h, parse_tree h]
    simp only [Option.map_some, Option.getD_some]
    cases e.names <;> simp
/-- Where loops begin and end: out, the open ones (the last first), what lies behind them in the row. -/
def endsGo : List Line → Int → List Int → List Int → List Int → Option (List Int × List Int × List Int)
  | [], _, out, st, junk => some (out, st, junk)
  | x :: r, i, out, st, junk =>
    if x.kind = 2 then endsGo r (i + 1) out (i :: st) junk.tail
    else if x.kind = 3 then match st with
      | [] => none
      | j :: st' => endsGo r (i + 1) ((out.set i.toNat j).set j.toNat i) st' (j :: junk)
    else endsGo r (i + 1) out st junk
def intc (n : Int) : List C := [.t (.int .i64 n)]
def intt (n : Int) : List T := [.int .i64 n]
def ints (l : List Int) : List (List C) := l.map intc
@[simp] theorem ints_len (l : List Int) : (ints l).length = l.length := by simp [ints]
@[simp] theorem ints_nil : ints [] = [] := rfl
theorem ints_app (a b : List Int) : ints (a ++ b) = ints a ++ ints b := by simp [ints]
theorem ints_cons (a : Int) (b : List Int) : ints (a :: b) = intc a :: ints b := rfl
theorem ints_set (l : List Int) (k : Nat) (n : Int) : (ints l).set k (intc n) = ints (l.set k n) := by simp [ints, List.map_set]
@[simp] theorem take_rev0 (l : List Int) : (ints l.reverse).take l.length = ints l.reverse := by simp [ints, List.take_of_length_le]
@[simp] theorem take_rev (l b : List Int) : (ints (l.reverse ++ b)).take l.length = ints l.reverse := by rw [ints_app, List.take_left' (by simp)]
@[simp] theorem drop_rev (l b : List Int) (j : Int) : (ints (l.reverse ++ j :: b)).drop (l.length + 1) = ints b := by
  rw [show l.reverse ++ j :: b = (l.reverse ++ [j]) ++ b by simp, ints_app, List.drop_left' (by simp)]
@[simp high] theorem get_rev (l b : List Int) (j : Int) : (ints (l.reverse ++ j :: b))[l.length]? = some (intc j) := by
  rw [ints_app, ints_cons, List.getElem?_append_right (by simp)]; simp
@[simp] theorem ints_setC (l : List Int) (k : Nat) (n : Int) : (ints l).set k [C.t (.int .i64 n)] = ints (l.set k n) := ints_set l k n
theorem ints_get {l : List Int} {k : Nat} (h : k < l.length) : (ints l)[k]? = some (intc (l.getD k 0)) := by simp [ints, h]
theorem endsGo_len : ∀ (l : List Line) (i : Int) (out st junk out' st' junk' : List Int), endsGo l i out st junk = some (out', st', junk') → out'.length = out.length
  | [], i, out, st, junk, out', st', junk', h => by simp [endsGo] at h; rw [h.1]
  | x :: r, i, out, st, junk, out', st', junk', h => by
    unfold endsGo at h
    split at h
    · exact endsGo_len r _ _ _ _ _ _ _ h
    · split at h
      · split at h
        · cases h
        · have := endsGo_len r _ _ _ _ _ _ _ h
          simpa using this
      · exact endsGo_len r _ _ _ _ _ _ _ h
def endsOk (l : List Line) : Bool :=
  match endsGo l 0 (List.replicate l.length 0) [] [] with
  | some (_, st, _) => decide (st.length = 0)
  | none => false
def goodProgram (l : List Line) : Bool :=
  (decide ((l.length : Int) ≥ 1) && decide ((l.length : Int) ≤ 12)) && !(l.any fun x => !lineOk x) && endsOk l
@[simp] theorem ints_fz (l : List Int) : (ints l).map (List.map C.fz) = l.map intt := by simp [ints, Function.comp_def, intc, intt, C.fz]
@[simp] theorem ints_fz' (l : List Int) : List.map (fun x => List.map C.fz x) (ints l) = l.map intt := ints_fz l
@[simp] theorem ints_rep (n : Nat) (a : Int) : ints (List.replicate n a) = List.replicate n [C.t (.int .i64 a)] := by simp [ints, intc]
def specGo : List Line → Int → Option Int
  | [], o => some o
  | x :: r, o =>
    if x.kind = 1 then (if (parseL x.expr).isSome = true then if 0 ≤ x.name ∧ x.name ≤ 9 then specGo r o else none else none)
    else if x.kind = 2 then (if (parseL x.expr).isSome = true then if x.name = 0 then specGo r (o + 1) else none else none)
    else if x.kind = 3 then (if x.name = 0 then if x.expr = [] then if o = 0 then none else specGo r (o - 1) else none else none)
    else none
theorem specGo_ends (l : List Line) : ∀ (i : Int) (out st junk : List Int), specGo l st.length = if l.all lineOk = true then (endsGo l i out st junk).map (fun p => (p.2.1.length : Int)) else none := by
  induction l with
  | nil => intro i out st junk; simp [specGo, endsGo]
  | cons x r ih =>
    intro i out st junk
    have h0 := ih (i + 1) out st junk
    have h1 := ih (i + 1) out (i :: st) junk.tail
    have h2 := fun j st' => ih (i + 1) ((out.set i.toNat j).set j.toNat i) st' (j :: junk)
    clear ih
    have e1 : (st.length : Int) + 1 = ((i :: st).length : Int) := by simp
    rw [List.all_cons]
    generalize r.all lineOk = b at *
    by_cases k1 : x.kind = 1
    · simp only [specGo, endsGo, k1, h0, lineOk]
      cases (parseL x.expr).isSome <;> by_cases k4 : 0 ≤ x.name ∧ x.name ≤ 9 <;> cases b <;> simp [k4]
      all_goals (intros; omega)
    · by_cases k2 : x.kind = 2
      · simp only [specGo, endsGo, k2, e1, h1, lineOk]
        cases (parseL x.expr).isSome <;> by_cases k4 : x.name = 0 <;> cases b <;> simp [k4]
      · by_cases k3 : x.kind = 3
        · cases st with
          | nil => simp [specGo, endsGo, k3, lineOk]
          | cons j st' =>
            have e : (((j :: st').length : Int) - 1) = (st'.length : Int) := by simp
            have e2 : ¬ (((j :: st').length : Int) = 0) := by simp; omega
            have h3 := h2 j st'
            simp only [specGo, endsGo, k3, e, h3, lineOk, e2]
            by_cases k4 : x.name = 0 <;> by_cases k5 : x.expr = [] <;> cases b <;> simp [k4, k5]
        · have : lineOk x = false := by simp [lineOk, k1, k2, k3]
          simp [specGo, k1, k2, k3, this]
theorem goodProgram_spec (l : List Line) : goodProgram l = match specGo l 0 with
    | some o => (decide ((l.length : Int) ≥ 1) && decide ((l.length : Int) ≤ 12)) && decide (o = 0)
    | none => false := by
  have h := specGo_ends l 0 (List.replicate l.length 0) [] []
  have h00 : ((([] : List Int).length : Nat) : Int) = 0 := rfl
  rw [h00] at h
  unfold goodProgram endsOk
  have e : (l.any fun x => !lineOk x) = !(l.all lineOk) := by simp [List.any_eq_not_all_not]
  rw [e, h]
  cases l.all lineOk with
  | false => simp
  | true =>
    simp only [if_true]
    cases endsGo l 0 (List.replicate l.length 0) [] [] with
    | none => simp
    | some p => obtain ⟨a, b, c⟩ := p; simp
end Go.Ev

/- Heaps in plain words: which are good, what is reached, copies. -/
namespace Go.Ev
set_option linter.unusedVariables false
set_option linter.unusedSimpArgs false
set_option linter.unusedVariables false
set_option linter.unusedSimpArgs false
structure Obj where
  mark : Int
  links : List Int
structure Hp where
  objects : List Obj
  roots : List Int
def linkOk (many : Nat) (k : Int) : Bool := decide (k ≥ -1) && decide (k ≤ (many : Int) - 1)
def objOk (many : Nat) (o : Obj) : Bool := (decide (o.mark ≥ 0) && decide (o.mark ≤ 1000)) && (decide (o.links.length ≤ 4) && o.links.all (linkOk many))
def goodHeap (h : Hp) : Bool := (decide (h.objects.length ≤ 40) && (decide (h.roots.length ≤ 10) && h.roots.all (linkOk h.objects.length))) && h.objects.all (objOk h.objects.length)
/-- The place of a number in a list, or -1. -/
def newNo : List Int → Int → Int → Int
  | [], _, _ => -1
  | x :: r, k, i => if x = k then i else newNo r k (i + 1)
/-- A number that is met is put behind, once. -/
def push (l : List Int) (k : Int) : List Int := if k < 0 then l else if l.contains k = true then l else l ++ [k]
def pushAll (l : List Int) (ks : List Int) : List Int := ks.foldl push l
def objAt (h : Hp) (k : Int) : Obj := h.objects.getD k.toNat ⟨0, []⟩
/-- What is reached, in the order in which it is met. -/
def orderGo (h : Hp) : Nat → Nat → List Int → List Int
  | 0, _, l => l
  | n + 1, i, l => match l[i]? with
    | some k => orderGo h n (i + 1) (pushAll l (objAt h k).links)
    | none => l
def order (h : Hp) : List Int := orderGo h (h.objects.length + 1) 0 (pushAll [] h.roots)
def newOf (l : List Int) (k : Int) : Int := newNo l k 0
def copyObj (l : List Int) (o : Obj) : Obj := ⟨o.mark, o.links.map (newOf l)⟩
/-- The copy, close together. -/
def copyH (h : Hp) : Hp := ⟨(order h).map fun k => copyObj (order h) (objAt h k), h.roots.map (newOf (order h))⟩
/-! The program's way: numbers are given when an object is met. -/
def nameGo : List Int → List Int → List Int × List Int     -- order, what is named; the order behind, the names
  | l, [] => (l, [])
  | l, k :: ks => ((nameGo (push l k) ks).1, newOf (push l k) k :: (nameGo (push l k) ks).2)
def copyGo (h : Hp) : Nat → Nat → List Int → List Int × List Obj
  | 0, _, l => (l, [])
  | n + 1, i, l => match l[i]? with
    | some k => ((copyGo h n (i + 1) (nameGo l (objAt h k).links).1).1, ⟨(objAt h k).mark, (nameGo l (objAt h k).links).2⟩ :: (copyGo h n (i + 1) (nameGo l (objAt h k).links).1).2)
    | none => (l, [])
theorem push_ext (l : List Int) (k : Int) : ∃ r, push l k = l ++ r := by
  unfold push
  split
  · exact ⟨[], by simp⟩
  · split
    · exact ⟨[], by simp⟩
    · exact ⟨[k], rfl⟩
theorem pushAll_ext : ∀ (ks l : List Int), ∃ r, pushAll l ks = l ++ r
  | [], l => ⟨[], by simp [pushAll]⟩
  | k :: ks, l => by
    obtain ⟨r, hr⟩ := push_ext l k
    obtain ⟨r2, hr2⟩ := pushAll_ext ks (push l k)
    exact ⟨r ++ r2, by show pushAll (push l k) ks = _; rw [hr2, hr, List.append_assoc]⟩
theorem orderGo_ext (h : Hp) : ∀ (n i : Nat) (l : List Int), ∃ r, orderGo h n i l = l ++ r
  | 0, i, l => ⟨[], by simp [orderGo]⟩
  | n + 1, i, l => by
    unfold orderGo
    split
    · rename_i k hk
      obtain ⟨r, hr⟩ := pushAll_ext (objAt h k).links l
      obtain ⟨r2, hr2⟩ := orderGo_ext h n (i + 1) (pushAll l (objAt h k).links)
      exact ⟨r ++ r2, by rw [hr2, hr, List.append_assoc]⟩
    · exact ⟨[], by simp⟩
theorem newNo_app (l r : List Int) (k : Int) : ∀ i : Int, 0 ≤ i → 0 ≤ newNo l k i → newNo (l ++ r) k i = newNo l k i := by
  induction l with
  | nil => intro i hi h; simp [newNo] at h
  | cons x l ih =>
    intro i hi h
    simp only [List.cons_append, newNo] at h ⊢
    split
    · rfl
    · rename_i hx
      rw [if_neg hx] at h
      exact ih (i + 1) (by omega) h
theorem newNo_neg (l : List Int) (k : Int) : ∀ i : Int, k ∉ l → newNo l k i = -1 := by
  induction l with
  | nil => intro i h; rfl
  | cons x l ih =>
    intro i h
    simp only [newNo]
    rw [if_neg (fun e => h (by simp [e])), ih _ (fun hm => h (by simp [hm]))]
theorem newNo_mem (l : List Int) (k : Int) : ∀ i : Int, 0 ≤ i → k ∈ l → i ≤ newNo l k i ∧ newNo l k i < i + l.length := by
  induction l with
  | nil => intro i hi h; simp at h
  | cons x l ih =>
    intro i hi h
    simp only [newNo, List.length_cons]
    split
    · omega
    · rename_i hx
      rcases List.mem_cons.1 h with rfl | h
      · exact absurd rfl hx
      · have := ih (i + 1) (by omega) h
        omega
theorem push_mem {l : List Int} {k : Int} (hk : 0 ≤ k) : k ∈ push l k := by
  unfold push
  rw [if_neg (by omega)]
  split
  · rename_i h; simpa using h
  · simp
theorem push_nonneg {l : List Int} {k : Int} (h : ∀ x ∈ l, 0 ≤ x) : ∀ x ∈ push l k, 0 ≤ x := by
  unfold push
  split
  · exact h
  · split
    · exact h
    · intro x hx
      rcases List.mem_append.1 hx with hx | hx
      · exact h x hx
      · simp at hx; omega
theorem pushAll_nonneg : ∀ (ks l : List Int), (∀ x ∈ l, 0 ≤ x) → ∀ x ∈ pushAll l ks, 0 ≤ x
  | [], l, h => h
  | k :: ks, l, h => pushAll_nonneg ks (push l k) (push_nonneg h)
/-- A name that is given stays. -/
theorem newOf_ext {l r : List Int} {k : Int} (h : k ∈ l) : newOf (l ++ r) k = newOf l k :=
  newNo_app l r k 0 (Int.le_refl _) (newNo_mem l k 0 (Int.le_refl _) h).1
theorem nameGo_order : ∀ (ks l : List Int), (nameGo l ks).1 = pushAll l ks
  | [], l => rfl
  | k :: ks, l => by simp only [nameGo]; rw [nameGo_order ks]; rfl
theorem neg_not_mem {l : List Int} {k : Int} (hk : k < 0) (h : ∀ x ∈ l, 0 ≤ x) : k ∉ l := fun hm => by have := h k hm; omega
theorem nameGo_names : ∀ (ks l r : List Int), (∀ x ∈ pushAll l ks ++ r, 0 ≤ x) → (nameGo l ks).2 = ks.map (newOf (pushAll l ks ++ r))
  | [], l, r, h => rfl
  | k :: ks, l, r, h => by
    have e : pushAll l (k :: ks) = pushAll (push l k) ks := rfl
    obtain ⟨r2, hr2⟩ := pushAll_ext ks (push l k)
    simp only [nameGo, List.map_cons]
    rw [nameGo_names ks (push l k) r (by rw [← e]; exact h), e]
    congr 1
    by_cases hk : k < 0
    · have h1 : k ∉ pushAll (push l k) ks ++ r := neg_not_mem hk (by rw [← e]; exact h)
      have h2 : k ∉ push l k := fun hm => h1 (by rw [hr2]; simp [hm])
      rw [newOf, newOf, newNo_neg _ _ _ h1, newNo_neg _ _ _ h2]
    · have hm := push_mem (l := l) (k := k) (by omega)
      rw [hr2, List.append_assoc, newOf_ext hm]
theorem orderGo_nonneg (h : Hp) : ∀ (n i : Nat) (l : List Int), (∀ x ∈ l, 0 ≤ x) → ∀ x ∈ orderGo h n i l, 0 ≤ x
  | 0, i, l, hl => hl
  | n + 1, i, l, hl => by
    unfold orderGo
    split
    · exact orderGo_nonneg h n (i + 1) _ (pushAll_nonneg _ _ hl)
    · exact hl
theorem copyGo_order (h : Hp) : ∀ (n i : Nat) (l : List Int), (copyGo h n i l).1 = orderGo h n i l
  | 0, i, l => rfl
  | n + 1, i, l => by
    unfold copyGo orderGo
    split
    · rename_i k hk
      simp only
      rw [copyGo_order h n, nameGo_order]
    · rfl
/-- Whether the fuel was enough. -/
def done (h : Hp) : Nat → Nat → List Int → Prop
  | 0, i, l => l.length ≤ i
  | n + 1, i, l => match l[i]? with
    | some k => done h n (i + 1) (pushAll l (objAt h k).links)
    | none => True
theorem copyGo_objs (h : Hp) : ∀ (n i : Nat) (l : List Int), (∀ x ∈ l, 0 ≤ x) → done h n i l → (copyGo h n i l).2 = ((orderGo h n i l).drop i).map fun k => copyObj (orderGo h n i l) (objAt h k)
  | 0, i, l, hl, hd => by
    have : l.length ≤ i := hd
    simp [copyGo, orderGo, List.drop_of_length_le this]
  | n + 1, i, l, hl, hd => by
    unfold copyGo orderGo
    unfold done at hd
    split
    · rename_i k hk
      rw [hk] at hd
      dsimp only at hd
      have hl2 := pushAll_nonneg (objAt h k).links l hl
      have ih := copyGo_objs h n (i + 1) (pushAll l (objAt h k).links) hl2 hd
      obtain ⟨r, hr⟩ := orderGo_ext h n (i + 1) (pushAll l (objAt h k).links)
      obtain ⟨r1, hr1⟩ := pushAll_ext (objAt h k).links l
      have hn := nameGo_names (objAt h k).links l r (by rw [← hr]; exact orderGo_nonneg h n _ _ hl2)
      simp only
      rw [nameGo_order, ih, hn, ← hr]
      have hi : i < l.length := (List.getElem?_eq_some_iff.1 hk).1
      have hg : (orderGo h n (i + 1) (pushAll l (objAt h k).links))[i]? = some k := by
        rw [hr, hr1, List.append_assoc, List.getElem?_append_left hi, hk]
      rw [List.drop_eq_getElem_cons (List.getElem?_eq_some_iff.1 hg).1, (List.getElem?_eq_some_iff.1 hg).2]
      rfl
    · rename_i hk
      have : l.length ≤ i := List.getElem?_eq_none_iff.1 hk
      simp [List.drop_of_length_le this]
theorem nodup_len : ∀ (N : Nat) (l : List Int), l.Nodup → (∀ x ∈ l, 0 ≤ x ∧ x < N) → l.length ≤ N
  | 0, l, hn, h => by
    cases l with
    | nil => simp
    | cons x l => have := h x (by simp); omega
  | N + 1, l, hn, h => by
    by_cases hm : (N : Int) ∈ l
    · have h1 := nodup_len N (l.erase N) (hn.erase _) (fun x hx => by
        have h2 := (hn.mem_erase_iff).1 hx
        have := h x h2.2
        have := h2.1
        omega)
      rw [List.length_erase_of_mem hm] at h1
      omega
    · have := nodup_len N l hn (fun x hx => by
        have h2 := h x hx
        have : x ≠ (N : Int) := fun e => hm (e ▸ hx)
        omega)
      omega
theorem push_nodup {l : List Int} {k : Int} (h : l.Nodup) : (push l k).Nodup := by
  unfold push
  split
  · exact h
  · split
    · exact h
    · rename_i hc
      refine List.nodup_append.2 ⟨h, by simp, fun a ha b hb => ?_⟩
      simp at hb
      subst hb
      rintro rfl
      exact hc (by simpa using ha)
theorem pushAll_nodup : ∀ (ks l : List Int), l.Nodup → (pushAll l ks).Nodup
  | [], l, h => h
  | k :: ks, l, h => pushAll_nodup ks (push l k) (push_nodup h)
theorem push_bd {N : Nat} {l : List Int} {k : Int} (h : ∀ x ∈ l, 0 ≤ x ∧ x < N) (hk : k < N) : ∀ x ∈ push l k, 0 ≤ x ∧ x < N := by
  unfold push
  split
  · exact h
  · split
    · exact h
    · intro x hx
      rcases List.mem_append.1 hx with hx | hx
      · exact h x hx
      · simp at hx; omega
theorem pushAll_bd {N : Nat} : ∀ (ks l : List Int), (∀ x ∈ l, 0 ≤ x ∧ x < N) → (∀ k ∈ ks, k < N) → ∀ x ∈ pushAll l ks, 0 ≤ x ∧ x < N
  | [], l, h, hk => h
  | k :: ks, l, h, hk => pushAll_bd ks (push l k) (push_bd h (hk k (by simp))) fun x hx => hk x (by simp [hx])
structure GoodH (h : Hp) : Prop where
  objs : h.objects.length ≤ 40
  rlen : h.roots.length ≤ 10
  roots : ∀ k ∈ h.roots, -1 ≤ k ∧ k < h.objects.length
  marks : ∀ o ∈ h.objects, 0 ≤ o.mark ∧ o.mark ≤ 1000
  llen : ∀ o ∈ h.objects, o.links.length ≤ 4
  links : ∀ o ∈ h.objects, ∀ k ∈ o.links, -1 ≤ k ∧ k < h.objects.length
theorem linkOk_iff {many : Nat} {k : Int} : linkOk many k = true ↔ -1 ≤ k ∧ k < many := by
  simp only [linkOk, Bool.and_eq_true, decide_eq_true_eq]
  omega
theorem goodHeap_ok {h : Hp} (hg : goodHeap h = true) : GoodH h := by
  simp only [goodHeap, objOk, Bool.and_eq_true, decide_eq_true_eq, List.all_eq_true, linkOk_iff] at hg
  obtain ⟨⟨h1, h2, h3⟩, h4⟩ := hg
  exact ⟨h1, h2, h3, fun o ho => by have := (h4 o ho).1; omega, fun o ho => (h4 o ho).2.1, fun o ho => (h4 o ho).2.2⟩
theorem objAt_mem {h : Hp} {k : Int} (h0 : 0 ≤ k) (h1 : k < h.objects.length) : objAt h k ∈ h.objects := by
  have hl : k.toNat < h.objects.length := by omega
  rw [objAt, List.getD_eq_getElem?_getD, List.getElem?_eq_getElem hl]
  exact List.getElem_mem hl
theorem done_ok {h : Hp} (hg : GoodH h) : ∀ (n i : Nat) (l : List Int), l.Nodup → (∀ x ∈ l, 0 ≤ x ∧ x < h.objects.length) → h.objects.length ≤ n + i → done h n i l
  | 0, i, l, hn, hb, hN => by
    have := nodup_len _ l hn hb
    show l.length ≤ i
    omega
  | n + 1, i, l, hn, hb, hN => by
    unfold done
    split
    · rename_i k hk
      have hkb := hb k (List.mem_of_getElem? hk)
      exact done_ok hg n (i + 1) _ (pushAll_nodup _ _ hn) (pushAll_bd _ _ hb fun x hx => (hg.links _ (objAt_mem hkb.1 hkb.2) x hx).2) (by omega)
    · trivial
/-- What the program does comes to the copy. -/
theorem copyGo_copyH {h : Hp} (hg : GoodH h) : (copyGo h (h.objects.length + 1) 0 (pushAll [] h.roots)).1 = order h ∧ (⟨(copyGo h (h.objects.length + 1) 0 (pushAll [] h.roots)).2, (nameGo [] h.roots).2⟩ : Hp) = copyH h := by
  have hb := pushAll_bd (N := h.objects.length) h.roots [] (by simp) (fun k hk => (hg.roots k hk).2)
  have hd := done_ok hg (h.objects.length + 1) 0 (pushAll [] h.roots) (pushAll_nodup _ _ (by simp)) hb (by omega)
  refine ⟨copyGo_order h _ _ _, ?_⟩
  have h1 := copyGo_objs h _ 0 _ (fun x hx => (hb x hx).1) hd
  obtain ⟨r, hr⟩ := orderGo_ext h (h.objects.length + 1) 0 (pushAll [] h.roots)
  have h2 := nameGo_names h.roots [] r (by rw [← hr]; exact orderGo_nonneg h _ _ _ fun x hx => (hb x hx).1)
  rw [h1, h2, ← hr]
  rfl
end Go.Ev

/- What is reached, in rising order, in plain words. -/
namespace Go.Ev
set_option linter.unusedVariables false
set_option linter.unusedSimpArgs false
set_option linter.unusedVariables false
set_option linter.unusedSimpArgs false
def insL : List Int → Int → List Int
  | [], n => [n]
  | x :: r, n => if x < n then x :: insL r n else if x = n then x :: r else n :: x :: r
/-- The numbers of a kind, from i on. -/
def upto (p : Int → Bool) : Nat → Int → List Int
  | 0, _ => []
  | n + 1, i => if p i = true then i :: upto p n (i + 1) else upto p n (i + 1)
theorem upto_ge (p : Int → Bool) : ∀ (n : Nat) (i : Int), ∀ x ∈ upto p n i, i ≤ x
  | 0, i, x, h => by simp [upto] at h
  | n + 1, i, x, h => by
    unfold upto at h
    split at h
    · rcases List.mem_cons.1 h with rfl | h
      · omega
      · have := upto_ge p n (i + 1) x h; omega
    · have := upto_ge p n (i + 1) x h; omega
theorem putL_lt {l : List Int} {n : Int} (h : ∀ x ∈ l, n < x) : insL l n = n :: l := by
  cases l with
  | nil => rfl
  | cons x r =>
    have := h x (by simp)
    simp only [insL]
    rw [if_neg (by omega), if_neg (by omega)]
theorem upto_congr {p q : Int → Bool} : ∀ (n : Nat) (i : Int), (∀ x, i ≤ x → p x = q x) → upto p n i = upto q n i
  | 0, i, h => rfl
  | n + 1, i, h => by
    unfold upto
    rw [h i (Int.le_refl _), upto_congr n (i + 1) fun x hx => h x (by omega)]
theorem putL_upto (p : Int → Bool) (k : Int) : ∀ (n : Nat) (i : Int), i ≤ k → k < i + n → insL (upto p n i) k = upto (fun x => p x || decide (x = k)) n i
  | 0, i, h1, h2 => by omega
  | n + 1, i, h1, h2 => by
    unfold upto
    by_cases he : i = k
    · subst he
      have hr : upto (fun x => p x || decide (x = i)) n (i + 1) = upto p n (i + 1) := upto_congr n (i + 1) fun x hx => by simp; intro h; omega
      simp only [decide_true, Bool.or_true, if_true]
      rw [hr]
      split
      · simp [insL]
      · exact putL_lt fun x hx => by have := upto_ge p n (i + 1) x hx; omega
    · have ih := putL_upto p k n (i + 1) (by omega) (by omega)
      have hd : decide (i = k) = false := decide_eq_false he
      simp only [hd, Bool.or_false]
      split
      · simp only [insL]
        rw [if_pos (by omega), ih]
      · exact ih
theorem upto_none (n : Nat) (i : Int) : upto (fun _ => false) n i = [] := by
  induction n generalizing i with
  | zero => rfl
  | succ n ih => simp [upto, ih]
theorem putAll_upto (N : Nat) : ∀ (l : List Int) (p : Int → Bool), (∀ x ∈ l, 0 ≤ x ∧ x < N) → l.foldl insL (upto p N 0) = upto (fun x => p x || l.contains x) N 0
  | [], p, h => by simp
  | k :: l, p, h => by
    have hk := h k (by simp)
    simp only [List.foldl_cons]
    rw [putL_upto p k N 0 hk.1 (by omega), putAll_upto N l _ fun x hx => h x (by simp [hx])]
    exact upto_congr N 0 fun x _ => by
      by_cases e : x = k
      · subst e; simp
      · simp [e, List.contains_cons]
def reach (h : Hp) : List Int := upto (fun x => (order h).contains x) h.objects.length 0
theorem order_bd {h : Hp} (hg : GoodH h) : ∀ x ∈ order h, 0 ≤ x ∧ x < h.objects.length := by
  have key : ∀ (n i : Nat) (l : List Int), (∀ x ∈ l, 0 ≤ x ∧ x < h.objects.length) → ∀ x ∈ orderGo h n i l, 0 ≤ x ∧ x < h.objects.length := by
    intro n
    induction n with
    | zero => exact fun i l hl => hl
    | succ n ih =>
      intro i l hl
      unfold orderGo
      split
      · rename_i k hk
        have hkb := hl k (List.mem_of_getElem? hk)
        exact ih (i + 1) _ (pushAll_bd _ _ hl fun x hx => (hg.links _ (objAt_mem hkb.1 hkb.2) x hx).2)
      · exact hl
  exact key _ 0 _ (pushAll_bd _ _ (by simp) fun k hk => (hg.roots k hk).2)
theorem order_nodup (h : Hp) : (order h).Nodup := by
  have key : ∀ (n i : Nat) (l : List Int), l.Nodup → (orderGo h n i l).Nodup := by
    intro n
    induction n with
    | zero => exact fun i l hl => hl
    | succ n ih =>
      intro i l hl
      unfold orderGo
      split
      · exact ih (i + 1) _ (pushAll_nodup _ _ hl)
      · exact hl
  exact key _ 0 _ (pushAll_nodup _ _ (by simp))
theorem reach_put {h : Hp} (hg : GoodH h) : (order h).foldl insL [] = reach h := by
  have := putAll_upto h.objects.length (order h) (fun _ => false) (order_bd hg)
  rw [upto_none] at this
  rw [this]
  exact upto_congr _ _ fun x _ => by simp
end Go.Ev

/- Heaps az values. -/
namespace Go.Ev
set_option linter.unusedVariables false
set_option linter.unusedSimpArgs false
set_option linter.unusedVariables false
set_option linter.unusedSimpArgs false
def Obj.ce (o : Obj) : List T := [.int .i64 o.mark, .seq 1 (o.links.map intt)]
def Hp.ce (h : Hp) : List T := [.seq 2 (h.objects.map Obj.ce), .seq 1 (h.roots.map intt)]
def Obj.cc (o : Obj) : List C := [.t (.int .i64 o.mark), .row 1 (o.links.map intt)]
def oz : List C := [.t (.int .i64 0), .t .nils]
abbrev isq (l : List Int) : V := .t (.seq 1 (l.map intt))
abbrev osq (l : List Obj) : V := .t (.seq 2 (l.map Obj.ce))
theorem obj_fz (l : List Obj) : (l.map Obj.cc).map (List.map C.fz) = l.map Obj.ce := by simp [Function.comp_def, Obj.cc, Obj.ce, C.fz]
@[simp] theorem obj_fz2 (l : List Obj) : List.map ((fun x => List.map C.fz x) ∘ Obj.cc) l = l.map Obj.ce := by rw [← List.map_map]; exact obj_fz l
@[simp high] theorem get_oc_mid (P Q : List Obj) (x : Obj) : ((P ++ x :: Q).map Obj.cc)[P.length]? = some [C.t (.int .i64 x.mark), C.row 1 (x.links.map intt)] := by simp [Obj.cc]
@[simp high] theorem get_intt_mid (m rest : List Int) (x : Int) : ((m ++ x :: rest).map intt)[m.length]? = some [T.int .i64 x] := by simp [intt]
@[simp high] theorem set_intt_mid (m rest : List Int) (x y : Int) : ((m ++ x :: rest).map intt).set m.length [T.int .i64 y] = (m ++ y :: rest).map intt := by simp [intt]
def markI (k : Int) : Nat → List Int
  | 0 => []
  | n + 1 => k :: markI (k + 1) n
theorem markI_len (k : Int) (n : Nat) : (markI k n).length = n := by induction n generalizing k with
  | zero => rfl
  | succ n ih => simp [markI, ih]
@[simp high] theorem ints_get_mid (m : List Int) (x : Int) (r : List Int) : (ints (m ++ x :: r))[m.length]? = some [C.t (.int .i64 x)] := by simp [ints, intc]
@[simp high] theorem ints_set_mid (m : List Int) (x y : Int) (r : List Int) : (ints (m ++ x :: r)).set m.length [C.t (.int .i64 y)] = ints (m ++ y :: r) := by simp [ints, intc]
def marksO : List Obj → Int
  | [] => 0
  | x :: r => 1 + x.links.length + marksO r
theorem marksO_nonneg : ∀ l, 0 ≤ marksO l
  | [] => by simp [marksO]
  | x :: r => by have := marksO_nonneg r; simp only [marksO]; omega
def markedO : Int → List Obj → List Obj
  | _, [] => []
  | k, x :: r => ⟨k, markI (k + 1) x.links.length⟩ :: markedO (k + 1 + x.links.length) r
/-! Sizes. -/
def szI (l : List Int) (n : Int) : Int := if n - l.length < 0 then -1 else n - l.length
def szOL : List Obj → Int → Option Int
  | [], n => some n
  | x :: r, n => if szI x.links n < 0 then none else szOL r (szI x.links n)
def szO (l : List Obj) (n : Int) : Int := if n - l.length < 0 then -1 else (szOL l (n - l.length)).getD (-1)
def szH (h : Hp) (n : Int) : Int := if szO h.objects n < 0 then -1 else szI h.roots (szO h.objects n)
theorem szI_le {l : List Int} {n : Int} (h : ¬ szI l n < 0) : 0 ≤ szI l n ∧ szI l n = n - l.length := by
  unfold szI at *
  split at h
  · omega
  · rename_i h2; rw [if_neg h2]; omega
theorem szOL_sum : ∀ (l : List Obj) (n m : Int), szOL l n = some m → 0 ≤ n → 0 ≤ m ∧ m + marksO l = n + l.length
  | [], n, m, h, h0 => by obtain rfl := Option.some.inj h; simp [marksO]; omega
  | y :: l, n, m, h, h0 => by
    unfold szOL at h
    split at h
    · cases h
    · rename_i h2
      have h3 := szI_le h2
      have h4 := szOL_sum l _ m h h3.1
      simp only [marksO, List.length_cons]
      omega
theorem szOL_all : ∀ (l : List Obj) (n m : Int), 0 ≤ n → n ≤ 1048576 → szOL l n = some m → ∀ x ∈ l, x.links.length ≤ 1048576
  | [], n, m, h0, h1, h, x, hx => by cases hx
  | y :: l, n, m, h0, h1, h, x, hx => by
    unfold szOL at h
    split at h
    · cases h
    · rename_i h2
      have h3 := szI_le h2
      rcases List.mem_cons.1 hx with rfl | hx
      · omega
      · exact szOL_all l _ m h3.1 (by omega) h x hx
theorem szO_all {l : List Obj} (h : ¬ szO l 1048576 < 0) : 0 ≤ szO l 1048576 ∧ szO l 1048576 ≤ 1048576 ∧ l.length ≤ 1048576 ∧ (∀ x ∈ l, x.links.length ≤ 1048576) ∧ marksO l ≤ 1048576 := by
  unfold szO at *
  split at h
  · omega
  · rename_i h1
    rw [if_neg h1]
    cases hr : szOL l (1048576 - l.length) with
    | none => rw [hr] at h; simp at h
    | some m =>
      have h2 := szOL_sum l _ m hr (by omega)
      have h3 := marksO_nonneg l
      have h4 : (l.length : Int) ≤ marksO l := by
        clear h2 h3 hr h h1
        induction l with
        | nil => simp [marksO]
        | cons x l ih => simp only [marksO, List.length_cons]; omega
      simp only [Option.getD_some]
      exact ⟨h2.1, by omega, by omega, szOL_all l _ m (by omega) (by omega) hr, by omega⟩
theorem szH_all {h : Hp} (hz : ¬ szH h 1048576 < 0) : h.objects.length ≤ 1048576 ∧ (∀ x ∈ h.objects, x.links.length ≤ 1048576) ∧ h.roots.length ≤ 1048576 ∧ marksO h.objects ≤ 1048576 := by
  unfold szH at hz
  split at hz
  · omega
  · rename_i h1
    obtain ⟨k1, k2, k3, k4, k5⟩ := szO_all h1
    have := szI_le hz
    exact ⟨k3, k4, by omega, k5⟩
end Go.Ev

/- The names that a copier keeps. -/
namespace Go.Ev
set_option linter.unusedVariables false
set_option linter.unusedSimpArgs false
set_option linter.unusedVariables false
set_option linter.unusedSimpArgs false
def namesOf (N : Nat) (l : List Int) : List Int := (List.range N).map fun (k : Nat) => newOf l (k : Int)
@[simp] theorem namesOf_len (N : Nat) (l : List Int) : (namesOf N l).length = N := by simp [namesOf]
theorem newNo_snoc (l : List Int) (k : Int) : ∀ i : Int, k ∉ l → newNo (l ++ [k]) k i = i + l.length := by
  induction l with
  | nil => intro i h; simp [newNo]
  | cons x l ih =>
    intro i h
    simp only [List.cons_append, newNo]
    rw [if_neg (fun e => h (by simp [e])), ih _ (fun hm => h (by simp [hm]))]
    simp
    omega
theorem newOf_snoc {l : List Int} {k : Int} (h : k ∉ l) : newOf (l ++ [k]) k = l.length := by
  rw [newOf, newNo_snoc l k 0 h]; omega
theorem newOf_other {l : List Int} {k j : Int} (hj : j ≠ k) : newOf (l ++ [k]) j = newOf l j := by
  by_cases h : j ∈ l
  · exact newOf_ext h
  · rw [newOf, newOf, newNo_neg _ _ _ h, newNo_neg _ _ _ (by simp [h, hj])]
theorem namesOf_set {N : Nat} {l : List Int} {k : Nat} (hk : k < N) (h : (k : Int) ∉ l) : (namesOf N l).set k l.length = namesOf N (l ++ [(k : Int)]) := by
  apply List.ext_getElem?
  intro j
  rw [List.getElem?_set]
  by_cases e : k = j
  · subst e
    rw [if_pos rfl, if_pos (by simpa using hk)]
    simp [namesOf, hk, newOf_snoc h]
  · rw [if_neg e]
    have hne : (j : Int) ≠ (k : Int) := by omega
    simp only [namesOf, List.getElem?_map]
    by_cases hjn : j < N
    · rw [List.getElem?_range hjn]
      simp [newOf_other hne]
    · rw [List.getElem?_eq_none (by simpa using hjn)]
      rfl
theorem namesOf_getD {N : Nat} {l : List Int} {k : Nat} (hk : k < N) : (namesOf N l).getD k 0 = newOf l k := by
  simp [namesOf, List.getD_eq_getElem?_getD, hk]
theorem newOf_in {l : List Int} {k : Int} (h : k ∈ l) : 0 ≤ newOf l k := (newNo_mem l k 0 (Int.le_refl _) h).1
theorem newOf_out {l : List Int} {k : Int} (h : k ∉ l) : newOf l k = -1 := newNo_neg l k 0 h
end Go.Ev

/- The evaluator's policies and annotations of this program's functions: printed by a program of mine. -/
namespace Go.Ev
set_option linter.unusedVariables false
set_option linter.unusedSimpArgs false
open Go.Proofs
def prPrim : FuncId → Option (List V → List Ob → Option (V × List Ob)) := fun _ => none
def prPol : FuncId → Pol
  | 2 => { modes := [], own := false, nest := false, frz := [] }
  | 3 => { modes := [.borrow], own := false, nest := false, frz := [] }
  | 4 => { modes := [.borrow, .borrow], own := false, nest := false, frz := [] }
  | 5 => { modes := [.borrow, .borrow, .borrow, .borrow], own := false, nest := false, frz := [] }
  | 6 => { modes := [.borrow, .borrow, .borrow], own := false, nest := false, frz := [] }
  | 7 => { modes := [.borrow], own := false, nest := false, frz := [] }
  | 8 => { modes := [.borrow], own := false, nest := false, frz := [] }
  | 9 => { modes := [.borrow, .borrow], own := false, nest := false, frz := [] }
  | 10 => { modes := [.move], own := false, nest := false, frz := [] }
  | 11 => { modes := [.borrow], own := true, nest := false, frz := [] }
  | 12 => { modes := [.borrow], own := false, nest := false, frz := [] }
  | 13 => { modes := [.borrow, .borrow], own := false, nest := false, frz := [] }
  | 14 => { modes := [.borrow, .borrow], own := false, nest := false, frz := [] }
  | 15 => { modes := [.move, .move], own := false, nest := false, frz := [], soft := [[2, 1], [0]] }
  | 16 => { modes := [.borrow], own := true, nest := false, frz := [] }
  | 17 => { modes := [.borrow, .borrow], own := false, nest := false, frz := [], soft := [[2, 1], [0]] }
  | 18 => { modes := [.borrow, .borrow], own := false, nest := false, frz := [] }
  | 19 => { modes := [.pass, .pass], own := false, nest := false, frz := [] }
  | 20 => { modes := [.borrow, .borrow], own := false, nest := false, frz := [] }
  | 21 => { modes := [.move, .move, .move, .move], own := false, nest := false, frz := [], soft := [[2, 1], [0]] }
  | 22 => { modes := [.borrow, .borrow, .borrow, .borrow], own := false, nest := false, frz := [], soft := [[2, 1], [0]] }
  | 23 => { modes := [.move, .move, .move], own := false, nest := false, frz := [], soft := [[2, 1], [0]] }
  | 24 => { modes := [.borrow], own := true, nest := false, frz := [] }
  | 25 => { modes := [.borrow, .borrow, .borrow], own := false, nest := false, frz := [], soft := [[2, 1], [0]] }
  | 26 => { modes := [.borrow, .borrow], own := false, nest := false, frz := [] }
  | 27 => { modes := [.pass, .pass], own := false, nest := false, frz := [] }
  | 28 => { modes := [.move], own := false, nest := false, frz := [], soft := [[3], [0]] }
  | 29 => { modes := [.borrow], own := false, nest := false, frz := [], soft := [[3], [0]] }
  | 30 => { modes := [.pass, .pass], own := false, nest := false, frz := [] }
  | 31 => { modes := [.borrow, .borrow], own := false, nest := false, frz := [] }
  | 32 => { modes := [.move], own := false, nest := false, frz := [], soft := [[1], [0]] }
  | 33 => { modes := [.borrow], own := true, nest := false, frz := [] }
  | 34 => { modes := [.borrow, .borrow], own := false, nest := false, frz := [] }
  | 35 => { modes := [.borrow, .borrow], own := false, nest := false, frz := [] }
  | 36 => { modes := [.move], own := false, nest := false, frz := [] }
  | 37 => { modes := [.borrow], own := false, nest := false, frz := [] }
  | 38 => { modes := [.borrow], own := false, nest := false, frz := [] }
  | 39 => { modes := [.borrow], own := false, nest := false, frz := [] }
  | 40 => { modes := [.borrow, .borrow], own := false, nest := false, frz := [] }
  | 41 => { modes := [], own := false, nest := false, frz := [], soft := [[1]] }
  | 42 => { modes := [.borrow, .borrow], own := false, nest := false, frz := [] }
  | 43 => { modes := [.borrow, .borrow], own := false, nest := false, frz := [] }
  | 44 => { modes := [.borrow, .borrow], own := false, nest := false, frz := [] }
  | 45 => { modes := [.move], own := false, nest := false, frz := [] }
  | 46 => { modes := [.borrow], own := false, nest := false, frz := [], soft := [[2, 1]] }
  | 47 => { modes := [.borrow], own := true, nest := true, frz := [] }
  | 48 => { modes := [.borrow], own := false, nest := false, frz := [] }
  | 49 => { modes := [.borrow, .borrow, .borrow], own := false, nest := false, frz := [] }
  | 50 => { modes := [.borrow], own := false, nest := false, frz := [], soft := [[2, 1]] }
  | 51 => { modes := [.borrow, .borrow, .borrow], own := false, nest := false, frz := [], soft := [[1]] }
  | 52 => { modes := [.borrow, .borrow], own := false, nest := false, frz := [] }
  | 53 => { modes := [.pass, .pass], own := false, nest := false, frz := [] }
  | 54 => { modes := [.borrow, .borrow], own := false, nest := false, frz := [] }
  | 55 => { modes := [.borrow], own := false, nest := false, frz := [], soft := [[2, 1], [0]] }
  | 56 => { modes := [.borrow], own := false, nest := false, frz := [], soft := [[2, 1], [0]] }
  | 57 => { modes := [.borrow], own := true, nest := false, frz := [] }
  | 58 => { modes := [], own := false, nest := false, frz := [], soft := [[1]] }
  | 59 => { modes := [.borrow], own := false, nest := false, frz := [] }
  | 60 => { modes := [.pass], own := false, nest := false, frz := [12] }
  | 61 => { modes := [.borrow], own := false, nest := false, frz := [], soft := [[1]] }
  | 62 => { modes := [.borrow, .borrow], own := false, nest := false, frz := [], soft := [[1]] }
  | 63 => { modes := [.borrow], own := false, nest := false, frz := [], soft := [[2, 1], [1]] }
  | 64 => { modes := [.borrow, .borrow], own := false, nest := false, frz := [] }
  | 65 => { modes := [.borrow, .borrow, .borrow], own := false, nest := false, frz := [] }
  | 66 => { modes := [.borrow], own := false, nest := false, frz := [] }
  | 67 => { modes := [.borrow, .borrow], own := false, nest := false, frz := [] }
  | 68 => { modes := [.borrow], own := false, nest := false, frz := [] }
  | 69 => { modes := [.borrow, .borrow], own := false, nest := false, frz := [] }
  | 70 => { modes := [.borrow, .borrow], own := false, nest := false, frz := [] }
  | 71 => { modes := [.borrow, .borrow], own := false, nest := false, frz := [] }
  | 72 => { modes := [.borrow], own := true, nest := false, frz := [] }
  | 73 => { modes := [.borrow, .borrow, .borrow], own := false, nest := false, frz := [] }
  | 74 => { modes := [.borrow, .borrow], own := false, nest := false, frz := [] }
  | 75 => { modes := [.borrow], own := false, nest := false, frz := [] }
  | 76 => { modes := [.borrow, .borrow], own := false, nest := false, frz := [] }
  | 77 => { modes := [.borrow, .borrow], own := false, nest := false, frz := [] }
  | 78 => { modes := [.borrow, .borrow], own := true, nest := false, frz := [] }
  | 79 => { modes := [.pass, .borrow], own := false, nest := false, frz := [], soft := [[1]] }
  | 80 => { modes := [.borrow], own := false, nest := false, frz := [] }
  | 81 => { modes := [.borrow], own := false, nest := false, frz := [] }
  | 82 => { modes := [.borrow, .borrow], own := false, nest := false, frz := [] }
  | 83 => { modes := [.borrow], own := false, nest := false, frz := [] }
  | 84 => { modes := [.borrow, .borrow], own := false, nest := false, frz := [] }
  | 85 => { modes := [.borrow], own := false, nest := false, frz := [] }
  | 86 => { modes := [.borrow, .borrow], own := false, nest := false, frz := [] }
  | 87 => { modes := [.borrow, .borrow], own := false, nest := false, frz := [] }
  | 88 => { modes := [.pass, .borrow], own := false, nest := false, frz := [] }
  | 89 => { modes := [.borrow], own := false, nest := false, frz := [] }
  | 90 => { modes := [.borrow], own := false, nest := false, frz := [] }
  | 91 => { modes := [.borrow, .borrow], own := false, nest := false, frz := [] }
  | 92 => { modes := [.borrow, .borrow], own := false, nest := false, frz := [] }
  | 93 => { modes := [.borrow, .borrow], own := false, nest := false, frz := [] }
  | _ => {}
def prAnn : FuncId → Ann
  | 2 => .n
  | 3 => (.seq .n (.seq .n (.seq .n (.seq (.seq .n (.cond (.seq .n .n) .n)) (.seq .n (.seq .n (.seq .n (.seq (.seq .n (.cond (.seq .n .n) .n)) (.seq (.seq .n (.cond (.seq .n .n) .n)) (.seq .n .n))))))))))
  | 4 => (.seq .n (.seq .n (.seq .n (.seq (.seq .n (.cond (.seq .n .n) .n)) (.seq .n (.seq .n (.seq .n (.seq (.seq .n (.cond (.seq .n .n) .n)) (.seq (.seq .n (.cond (.seq .n .n) .n)) (.seq .n (.seq .n (.seq (.seq .n (.cond (.seq .n .n) .n)) (.seq .n (.seq .n (.seq .n (.seq .n (.seq (.seq .n (.cond (.seq .n .n) .n)) (.seq (.seq .n (.cond (.seq .n .n) .n)) (.seq .n (.seq (.seq .n (.cond (.seq .n .n) .n)) (.seq .n (.seq .n (.seq (.seq .n (.cond (.seq .n .n) .n)) (.seq (.seq .n (.cond (.seq .n .n) .n)) (.seq .n .n)))))))))))))))))))))))))
  | 5 => (.seq .n (.seq .n (.seq .n (.seq (.seq .n (.cond (.seq .n .n) .n)) (.seq .n (.seq .n (.seq .n (.seq (.seq .n (.cond (.seq .n .n) .n)) (.seq (.seq .n (.cond (.seq .n .n) .n)) (.seq .n (.seq .n (.seq (.seq .n (.cond (.seq .n .n) .n)) (.seq .n (.seq .n (.seq .n (.seq .n (.seq (.seq .n (.cond (.seq .n .n) .n)) (.seq (.seq .n (.cond (.seq .n .n) .n)) (.seq .n (.seq (.seq .n (.cond (.seq .n .n) .n)) (.seq .n (.seq .n (.seq (.seq .n (.cond (.seq .n .n) .n)) (.seq (.seq .n (.cond (.seq .n .n) .n)) (.seq .n .n)))))))))))))))))))))))))
  | 6 => (.seq .n (.seq (.seq .n (.cond (.seq .n .n) .n)) (.seq .n (.seq .n (.seq (.seq .n (.cond (.seq .n .n) .n)) (.seq .n (.seq .n (.seq .n (.seq .n (.seq (.seq .n (.cond (.seq .n .n) .n)) (.seq (.seq .n (.cond (.seq .n .n) .n)) (.seq (.seq .n (.cond (.seq .n .n) .n)) (.seq .n (.seq .n (.seq .n (.seq (.seq .n (.cond (.seq .n .n) .n)) (.seq .n (.seq .n (.seq .n (.seq .n (.seq (.seq .n (.cond (.seq .n .n) .n)) (.seq (.seq .n (.cond (.seq .n .n) .n)) (.seq .n (.seq (.seq .n (.cond (.seq .n .n) .n)) (.seq .n (.seq .n (.seq (.seq .n (.cond (.seq .n .n) .n)) (.seq (.seq .n (.cond (.seq .n .n) .n)) (.seq .n .n)))))))))))))))))))))))))))))
  | 7 => (.seq .n (.seq (.seq .n (.cond (.seq .n .n) .n)) (.seq .n (.seq .n (.seq (.seq .n (.cond (.seq .n .n) .n)) (.seq .n (.seq .n (.seq .n (.seq .n (.seq (.seq .n (.cond (.seq .n .n) .n)) (.seq (.seq .n (.cond (.seq .n .n) .n)) (.seq .n (.seq (.seq .n (.cond (.seq .n .n) .n)) (.seq .n (.seq .n (.seq (.seq .n (.cond (.seq .n .n) .n)) (.seq (.seq .n (.cond (.seq .n .n) .n)) (.seq .n .n))))))))))))))))))
  | 8 => (.seq .n (.seq .n (.seq .n (.seq (.seq .n (.cond (.seq .n .n) .n)) (.seq .n (.seq .n (.seq .n (.seq (.seq .n (.cond (.seq .n .n) .n)) (.seq (.seq .n (.cond (.seq .n .n) .n)) (.seq .n (.seq .n (.seq (.seq .n (.cond (.seq .n .n) .n)) (.seq .n (.seq .n (.seq .n (.seq .n (.seq (.seq .n (.cond (.seq .n .n) .n)) (.seq (.seq .n (.cond (.seq .n .n) .n)) (.seq .n (.seq (.seq .n (.cond (.seq .n .n) .n)) (.seq .n (.seq .n (.seq (.seq .n (.cond (.seq .n .n) .n)) (.seq (.seq .n (.cond (.seq .n .n) .n)) (.seq .n .n)))))))))))))))))))))))))
  | 9 => (.seq .n (.seq .n (.seq (.seq .n (.cond (.seq .n .n) .n)) (.seq (.seq .n (.block (.loop [0, 1, 5] [1] [4] [] (.seq (.seq .n (.cond .n .n)) (.seq (.block (.seq .n (.seq .n (.cond (.seq .n .n) .n)))) .n))))) (.cut [1] (.seq .n .n))))))
  | 10 => (.seq .n (.seq (.seq .n (.cond (.seq .n .n) .n)) (.seq .n .n)))
  | 11 => (.seq .n (.seq .n (.seq (.seq .n (.block (.loop [0, 3, 4] [3] [2] [] (.seq (.seq .n (.cond .n .n)) (.seq (.block .n) .n))))) (.cut [3] (.seq .n .n)))))
  | 12 => (.seq .n (.seq (.seq .n (.cond (.seq .n .n) .n)) (.seq .n (.seq (.seq .n (.block (.loop [4, 12, 13, 14] [4] [2, 3] [(4, none, 1)] (.seq .n (.seq (.cond .n .n) (.seq (.block (.seq .n (.seq .n (.seq .n (.block (.seq .n (.cond (.seq .n .n) (.seq (.seq .n (.cond .n (.seq .n (.cond .n (.seq .n (.cond .n .n)))))) (.cut [4, 6, 12, 13, 14, 25, 48] (.cond .n (.seq (.seq .n (.cond .n .n)) (.cut [4, 6, 12, 13, 14, 59] (.cond .n .n))))))))))))) (.cut [4, 12, 13, 14] .n))))))) (.cut [4] (.seq .n .n))))))
  | 13 => (.seq .n (.seq (.seq .n (.cond (.seq .n .n) .n)) (.seq (.seq .n (.block (.loop [0, 1, 5] [] [4] [] (.seq (.seq .n (.cond .n .n)) (.seq (.block (.seq .n (.cond (.seq .n .n) .n))) .n))))) (.cut [] (.seq .n .n)))))
  | 14 => (.seq .n (.seq .n (.seq (.seq .n (.cond (.seq .n .n) .n)) (.seq .n (.seq (.seq .n (.cond (.seq .n .n) .n)) (.seq .n .n))))))
  | 15 => (.seq .n (.seq (.seq .n (.cond (.seq .n .n) .n)) (.seq .n (.seq .n (.seq .n .n)))))
  | 16 => (.seq .n (.seq .n (.seq .n (.seq .n (.seq .n .n)))))
  | 17 => (.seq .n (.seq (.seq .n (.cond (.seq .n .n) .n)) (.seq .n (.seq .n (.seq .n .n)))))
  | 18 => (.seq .n (.seq (.seq .n (.cond (.seq .n .n) .n)) (.seq (.seq .n (.cond (.seq .n .n) .n)) (.seq .n .n))))
  | 19 => (.seq .n (.seq .n (.seq .n (.seq .n .n))))
  | 20 => (.seq .n (.seq .n (.seq (.seq .n (.cond (.seq .n .n) .n)) (.seq .n (.seq (.seq .n (.cond (.seq .n .n) .n)) (.seq .n .n))))))
  | 21 => (.seq .n (.seq (.seq .n (.cond (.seq .n .n) .n)) (.seq .n (.seq .n (.seq .n .n)))))
  | 22 => (.seq .n (.seq (.seq .n (.cond (.seq .n .n) .n)) (.seq .n (.seq .n (.seq .n .n)))))
  | 23 => (.seq .n (.seq (.seq .n (.cond (.seq .n .n) .n)) (.seq .n (.seq .n (.seq .n (.seq .n .n))))))
  | 24 => (.seq .n (.seq .n (.seq (.seq .n (.block (.loop [0, 3, 4] [3] [2] [] (.seq (.seq .n (.cond .n .n)) (.seq (.block .n) .n))))) (.cut [3] (.seq .n .n)))))
  | 25 => (.seq .n (.seq (.seq .n (.cond (.seq .n .n) .n)) (.seq .n (.seq .n (.seq .n (.seq .n .n))))))
  | 26 => (.seq .n (.seq (.seq .n (.cond (.seq .n .n) .n)) (.seq (.seq .n (.block (.loop [0, 1, 5] [] [4] [] (.seq (.seq .n (.cond .n .n)) (.seq (.block (.seq .n (.cond (.seq .n .n) .n))) .n))))) (.cut [] (.seq .n .n)))))
  | 27 => (.seq .n (.seq (.seq .n (.block (.loop [0, 1, 5] [1] [4] [] (.seq (.seq .n (.cond .n .n)) (.seq (.block (.seq .n .n)) .n))))) (.cut [1] (.seq .n .n))))
  | 28 => (.seq .n (.seq .n (.seq (.seq .n (.block (.loop [0, 4, 5] [0, 4] [2, 3] [(4, none, 3)] (.seq (.seq .n (.cond .n .n)) (.block (.seq .n (.seq .n (.seq .n (.seq (.seq .n (.block (.seq .n (.cond .n (.seq (.seq .n (.cond .n (.seq .n (.cond .n (.seq .n (.cond .n (.seq .n (.cond .n (.seq .n (.cond .n .n)))))))))) (.cut [0, 4, 5, 6, 7, 29] (.cond .n .n))))))) (.cut [0, 4, 5, 6, 7] (.seq (.seq .n (.cond (.seq .n .n) .n)) (.seq .n (.seq (.block (.loop [0, 4, 5, 6, 7, 8] [0, 4, 5, 6, 8] [2, 3] [] (.seq (.seq .n (.cond .n .n)) (.seq (.block (.seq .n .n)) .n)))) (.cut [0, 4, 5, 6, 8] (.seq (.seq .n (.block (.seq .n (.cond .n (.seq (.seq .n (.cond .n .n)) (.cut [0, 4, 5, 6, 8, 64] (.cond (.seq (.seq .n (.cond (.seq .n .n) .n)) .n) .n))))))) (.cut [0, 4, 5, 6] .n)))))))))))))))) (.cut [0, 4] (.seq (.seq .n (.cond (.seq .n .n) .n)) (.seq .n .n))))))
  | 29 => (.seq .n (.seq .n (.seq (.block (.loop [0, 4] [4] [2, 3] [(4, none, 3)] (.seq (.seq .n (.cond .n .n)) (.block (.seq .n (.seq (.seq .n (.cond (.seq .n .n) .n)) (.seq .n .n))))))) (.cut [4] (.seq (.seq .n (.cond (.seq .n .n) .n)) (.seq .n .n))))))
  | 30 => (.seq .n (.seq (.seq .n (.block (.loop [0, 1, 5] [1] [4] [] (.seq (.seq .n (.cond .n .n)) (.seq (.block (.seq .n (.seq .n (.seq .n (.seq .n (.seq .n .n)))))) .n))))) (.cut [1] (.seq .n .n))))
  | 31 => (.seq .n (.seq (.seq .n (.block (.loop [0, 1, 5] [1] [4] [] (.seq (.seq .n (.cond .n .n)) (.seq (.block (.seq (.seq .n (.cond (.seq .n .n) .n)) (.seq .n (.seq (.seq .n (.cond (.seq .n .n) .n)) (.seq .n (.seq (.seq .n (.cond (.seq .n .n) .n)) .n)))))) .n))))) (.cut [1] (.seq .n .n))))
  | 32 => (.seq .n (.seq (.seq .n (.cond (.seq .n .n) .n)) (.seq .n (.seq (.seq .n (.block (.loop [4, 11, 12, 13] [4] [2, 3] [] (.seq .n (.seq (.cond .n .n) (.seq (.block (.seq .n .n)) .n)))))) (.cut [4] (.seq .n .n))))))
  | 33 => (.seq .n (.seq (.seq .n (.cond (.seq .n .n) .n)) (.seq .n (.seq .n (.seq (.seq .n (.block (.loop [6, 18, 19, 20] [6] [2, 3] [(6, none, 1)] (.seq .n (.seq (.cond .n .n) (.seq (.block (.seq .n (.seq .n (.cond .n .n)))) (.cut [6, 18, 19, 20] .n))))))) (.cut [6] (.seq .n .n)))))))
  | 34 => (.seq .n (.seq (.seq .n (.block (.loop [0, 1, 5] [1] [4] [] (.seq (.seq .n (.cond .n .n)) (.seq (.block (.seq (.seq .n (.cond (.seq .n .n) .n)) .n)) .n))))) (.cut [1] (.seq .n .n))))
  | 35 => (.seq .n (.seq .n (.seq (.seq .n (.cond (.seq .n .n) .n)) (.seq .n .n))))
  | 36 => (.seq .n (.seq (.seq .n (.block (.loop [0, 5, 6, 7] [0] [2] [] (.seq .n (.seq (.cond .n .n) (.seq (.block (.seq .n (.seq .n (.cond (.seq .n .n) .n)))) .n)))))) (.cut [0] (.seq .n .n))))
  | 37 => (.seq .n (.seq .n (.seq (.seq .n (.block (.loop [3, 7, 8, 9] [3] [2] [(3, none, 1)] (.seq .n (.seq (.cond .n .n) (.seq (.block (.seq .n (.seq .n (.seq .n (.block (.seq .n (.cond (.seq .n .n) (.seq (.seq .n (.cond .n (.seq .n (.cond .n (.seq .n (.cond .n .n)))))) (.cut [3, 5, 7, 8, 9, 20, 43] (.cond .n (.seq (.seq .n (.cond .n .n)) (.cut [3, 5, 7, 8, 9, 54] (.cond .n .n))))))))))))) (.cut [3, 7, 8, 9] .n))))))) (.cut [3] (.seq .n .n)))))
  | 38 => (.seq .n (.seq .n (.seq .n (.seq .n (.seq .n (.seq .n .n))))))
  | 39 => (.seq .n (.seq (.seq .n (.cond (.seq .n .n) .n)) (.seq .n .n)))
  | 40 => (.seq .n (.seq (.seq .n (.block (.loop [0, 1, 7, 8] [] [4] [] (.seq .n (.seq (.cond .n .n) (.seq (.block (.seq .n (.seq .n (.cond (.seq .n .n) .n)))) .n)))))) (.cut [] (.seq .n .n))))
  | 41 => (.seq .n (.seq .n .n))
  | 42 => (.seq .n (.seq (.seq .n (.cond (.seq .n .n) .n)) (.seq (.seq .n (.cond (.seq .n .n) .n)) (.seq (.seq .n (.cond (.seq .n .n) .n)) (.seq .n .n)))))
  | 43 => (.seq .n (.seq .n (.seq (.seq .n (.cond (.seq .n .n) .n)) (.seq (.seq .n (.block (.loop [0, 1, 5] [1] [4] [] (.seq (.seq .n (.cond .n .n)) (.seq (.block (.seq .n (.seq .n (.cond (.seq .n .n) .n)))) .n))))) (.cut [1] (.seq .n .n))))))
  | 44 => (.seq .n (.seq .n (.seq (.seq .n (.cond (.seq .n .n) .n)) (.seq .n .n))))
  | 45 => (.seq .n (.seq (.seq .n (.block (.loop [1, 10, 11, 12] [1] [2] [] (.seq .n (.seq (.cond .n .n) (.seq (.block (.seq .n (.seq (.seq .n (.cond (.seq .n .n) .n)) (.seq .n (.block (.loop [1, 10, 11, 12, 27, 28, 29] [1, 10, 11, 12] [2] [] (.seq .n (.seq (.cond .n .n) (.seq (.block (.seq .n (.seq .n (.cond (.seq .n .n) .n)))) .n))))))))) (.cut [1, 10, 11, 12] .n))))))) (.cut [1] (.seq (.seq .n (.block (.loop [1, 42, 43, 44] [1] [2] [] (.seq .n (.seq (.cond .n .n) (.seq (.block (.seq .n (.seq .n (.cond (.seq .n .n) .n)))) .n)))))) (.cut [1] (.seq .n .n))))))
  | 46 => (.seq .n (.seq .n (.seq (.seq .n (.block (.loop [2, 3, 12, 13, 14] [2, 3] [2] [(3, some 0, 2)] (.seq .n (.seq (.cond .n .n) (.seq (.block (.seq .n (.seq .n .n))) .n)))))) (.cut [2, 3] (.seq .n .n)))))
  | 47 => (.seq .n (.seq .n (.seq (.seq .n (.block (.loop [0, 3, 4] [3] [2] [] (.seq (.seq .n (.cond .n .n)) (.seq (.block .n) .n))))) (.cut [3] (.seq .n .n)))))
  | 48 => (.seq .n (.seq .n (.seq (.seq .n (.cond (.seq .n .n) .n)) (.seq .n .n))))
  | 49 => (.seq .n (.seq .n .n))
  | 50 => (.seq .n (.seq .n (.seq (.seq .n (.block (.loop [2, 3, 15, 16, 17] [2, 3] [2] [] (.seq .n (.seq (.cond .n .n) (.seq (.block (.seq .n .n)) .n)))))) (.cut [2, 3] (.seq .n .n)))))
  | 51 => (.seq .n (.seq .n (.seq (.seq .n (.cond (.seq .n .n) .n)) (.seq .n (.seq .n (.seq .n (.seq .n .n)))))))
  | 52 => (.seq .n (.seq (.seq .n (.cond (.seq .n .n) .n)) (.seq (.seq .n (.block (.loop [0, 1, 5] [] [4] [] (.seq (.seq .n (.cond .n .n)) (.seq (.block (.seq .n (.cond (.seq .n .n) .n))) .n))))) (.cut [] (.seq .n .n)))))
  | 53 => (.seq .n (.seq (.seq .n (.block (.loop [0, 1, 5] [1] [4] [] (.seq (.seq .n (.cond .n .n)) (.seq (.block (.seq .n (.seq .n .n))) .n))))) (.cut [1] (.seq .n .n))))
  | 54 => (.seq .n (.seq (.seq .n (.block (.loop [0, 1, 5] [1] [4] [] (.seq (.seq .n (.cond .n .n)) (.seq (.block (.seq (.seq .n (.cond (.seq .n .n) .n)) (.seq .n (.seq .n (.seq .n (.cond (.seq .n .n) .n)))))) .n))))) (.cut [1] (.seq .n .n))))
  | 55 => (.seq .n (.seq (.seq .n (.cond (.seq .n .n) .n)) (.seq .n .n)))
  | 56 => (.seq .n (.seq (.seq .n (.cond (.seq .n .n) .n)) (.seq .n .n)))
  | 57 => (.seq .n (.seq (.seq .n (.cond (.seq .n .n) .n)) (.seq .n .n)))
  | 58 => (.seq .n (.seq .n .n))
  | 59 => (.seq .n (.seq .n (.seq .n (.seq (.seq .n (.block (.seq .n (.cond .n (.seq (.seq .n (.cond .n (.seq .n (.cond .n (.seq .n (.cond .n (.seq .n (.cond .n (.seq .n (.cond .n .n)))))))))) (.cut [0, 2, 4, 5, 17] (.cond .n .n))))))) (.cut [0, 2, 4, 5] (.seq (.seq .n (.cond (.seq .n .n) .n)) (.seq .n (.seq (.seq .n (.block (.loop [2, 4, 5, 6, 32, 33, 34] [2, 4, 5, 6] [2, 3] [] (.seq .n (.seq (.cond .n .n) (.seq (.block (.seq .n .n)) .n)))))) (.cut [2, 4, 5, 6] (.seq (.seq .n (.block (.seq .n (.cond .n (.seq (.seq .n (.cond .n .n)) (.cut [2, 4, 5, 6, 53] (.cond (.seq (.seq .n (.cond (.seq .n .n) .n)) .n) .n))))))) (.cut [2, 4, 5] (.seq .n .n))))))))))))
  | 60 => (.seq .n (.seq (.seq .n (.cond (.seq .n .n) .n)) (.seq .n (.seq (.block (.loop [0, 3] [3] [2] [] (.seq (.seq .n (.cond .n .n)) (.block (.seq .n .n))))) (.cut [3] (.seq .n .n))))))
  | 61 => (.seq .n (.seq .n (.seq (.seq .n (.block (.loop [1, 3, 10, 11, 12] [1, 3] [2] [(3, none, 1)] (.seq .n (.seq (.cond .n .n) (.seq (.block (.seq .n (.seq .n (.cond .n .n)))) (.cut [1, 3, 10, 11, 12] .n))))))) (.cut [1, 3] (.seq (.seq .n (.block (.loop [1, 3, 6] [3] [2] [(3, none, 1)] (.seq (.seq .n (.cond .n .n)) (.seq (.block (.seq .n (.block (.loop [1, 3, 6, 43, 44, 45] [1, 3, 6] [2] [(3, none, 1)] (.seq .n (.seq (.cond .n .n) (.seq (.block (.seq .n (.seq .n (.cond .n .n)))) (.cut [1, 3, 6, 43, 44, 45] .n)))))))) (.cut [1, 3, 6] .n)))))) (.cut [3] (.seq .n .n)))))))
  | 62 => (.seq .n (.seq .n (.seq (.block (.loop [0, 1, 5] [0, 1, 5] [4] [] (.seq (.seq .n (.cond .n .n)) (.block .n)))) (.cut [0, 1, 5] (.seq (.seq .n (.cond (.seq .n .n) .n)) (.seq .n (.seq .n (.seq .n (.seq .n .n)))))))))
  | 63 => (.seq .n (.seq .n (.seq .n (.seq (.seq .n (.block (.loop [1, 2, 4, 5, 6] [2, 4, 5] [2, 3] [(5, some 0, 2)] (.seq (.seq .n (.cond .n .n)) (.seq (.block (.seq .n .n)) .n))))) (.cut [2, 4, 5] (.seq .n .n))))))
  | 64 => (.seq .n (.seq (.seq .n (.block (.seq .n (.cond (.seq .n .n) (.seq (.seq .n (.cond .n .n)) (.cut [1, 2, 6, 17] (.cond (.seq .n .n) (.seq .n (.cond (.seq .n .n) (.seq .n (.cond (.seq .n .n) (.seq (.seq .n (.cond .n .n)) (.cut [1, 2, 6, 53] (.cond (.seq .n .n) (.seq (.seq .n (.cond .n .n)) (.cut [2, 70] (.cond (.seq .n .n) .n))))))))))))))))) (.cut [] (.seq .n .n))))
  | 65 => (.seq .n (.seq .n .n))
  | 66 => (.seq .n (.seq (.seq .n (.block (.loop [0, 5, 6, 7] [] [2] [] (.seq .n (.seq (.cond .n .n) (.seq (.block (.seq .n (.seq .n (.cond (.seq .n .n) .n)))) .n)))))) (.cut [] (.seq .n .n))))
  | 67 => (.seq .n (.seq .n .n))
  | 68 => (.seq .n (.seq .n .n))
  | 69 => (.seq .n (.seq (.seq .n (.block (.seq .n (.cond (.seq .n .n) (.seq .n (.cond (.seq .n .n) .n)))))) (.seq (.seq .n (.cond (.seq .n .n) .n)) (.seq (.seq .n (.block (.seq .n (.cond (.seq .n .n) (.seq (.seq .n (.cond .n .n)) (.cut [1, 2, 36, 42] (.cond (.seq .n .n) (.seq (.seq .n (.cond .n .n)) (.cut [1, 2, 48] (.cond (.seq .n .n) .n)))))))))) (.cut [2] (.seq .n .n))))))
  | 70 => (.seq .n (.seq .n (.seq (.seq .n (.cond (.seq .n .n) .n)) (.seq .n .n))))
  | 71 => (.seq .n (.seq .n .n))
  | 72 => (.seq .n (.seq .n (.seq .n (.seq .n (.seq .n .n)))))
  | 73 => (.seq .n (.seq .n .n))
  | 74 => (.seq .n (.seq .n .n))
  | 75 => (.seq .n (.seq .n .n))
  | 76 => (.seq .n (.seq (.seq .n (.cond (.seq .n .n) .n)) (.seq (.seq .n (.cond (.seq .n .n) .n)) (.seq .n .n))))
  | 77 => (.seq .n (.seq (.seq .n (.block (.loop [1, 7, 8, 9] [] [4] [] (.seq .n (.seq (.cond .n .n) (.seq (.block (.seq .n (.seq .n (.cond (.seq .n .n) .n)))) .n)))))) (.cut [] (.seq .n .n))))
  | 78 => (.seq .n (.seq (.seq .n (.cond .n .n)) (.cut [0, 1] (.seq .n (.seq (.seq .n (.cond .n .n)) (.cut [0, 6] (.seq .n (.seq .n (.seq (.block (.loop [7, 8] [7] [4] [] (.seq (.seq .n (.cond .n .n)) (.block .n)))) (.cut [7] (.seq .n .n)))))))))))
  | 79 => (.seq .n (.seq .n (.seq (.seq .n (.block (.loop [0, 5, 11, 12, 13] [5] [4] [(0, some 1, 1)] (.seq .n (.seq (.cond .n .n) (.seq (.block (.seq .n .n)) .n)))))) (.cut [5] (.seq .n .n)))))
  | 80 => (.seq .n (.seq .n .n))
  | 81 => (.seq .n (.seq .n .n))
  | 82 => (.seq .n (.seq (.seq .n (.block (.loop [0, 1, 7, 8] [] [4] [] (.seq .n (.seq (.cond .n .n) (.seq (.block (.seq .n (.seq .n (.cond (.seq .n .n) .n)))) .n)))))) (.cut [] (.seq .n .n))))
  | 83 => (.seq .n (.seq .n (.seq .n .n)))
  | 84 => (.seq .n (.seq .n .n))
  | 85 => (.seq .n (.seq .n .n))
  | 86 => (.seq .n (.seq (.seq .n (.block (.loop [0, 1, 7, 8] [] [4] [] (.seq .n (.seq (.cond .n .n) (.seq (.block (.seq .n (.seq .n (.cond (.seq .n .n) .n)))) .n)))))) (.cut [] (.seq .n .n))))
  | 87 => (.seq .n (.seq (.cond (.seq .n (.seq .n .n)) .n) (.seq .n (.seq .n .n))))
  | 88 => (.seq .n (.seq (.seq .n (.cond (.seq .n .n) .n)) (.seq (.seq .n (.cond (.seq .n .n) .n)) (.cut [0, 1] (.seq .n .n)))))
  | 89 => (.seq .n (.seq (.seq .n (.block (.seq .n (.cond (.seq .n .n) (.seq .n (.cond (.seq .n .n) (.seq (.seq .n (.cond .n .n)) (.cut [3, 8] (.cond (.seq .n .n) (.seq (.seq .n (.cond .n .n)) (.cut [3, 11] (.cond (.seq .n .n) (.seq (.seq .n (.cond .n .n)) (.cut [3, 14] (.cond (.seq .n .n) (.seq (.seq .n (.cond .n (.seq .n (.cond .n .n)))) (.cut [3, 17] (.cond (.seq .n .n) (.seq .n (.cond (.seq .n .n) .n)))))))))))))))))))) (.cut [] (.seq .n .n))))
  | 90 => (.seq .n (.seq (.seq .n (.block (.seq .n (.cond (.seq .n .n) (.seq .n (.cond (.seq .n .n) (.seq (.seq .n (.cond .n .n)) (.cut [5, 10] (.cond (.seq .n .n) (.seq (.seq .n (.cond .n .n)) (.cut [5, 13] (.cond (.seq .n .n) (.seq (.seq .n (.cond .n .n)) (.cut [5, 16] (.cond (.seq .n .n) (.seq (.seq .n (.cond .n (.seq .n (.cond .n .n)))) (.cut [5, 19] (.cond (.seq .n .n) (.seq .n (.cond (.seq .n .n) .n)))))))))))))))))))) (.cut [] (.seq .n .n))))
  | 91 => (.seq .n (.seq (.seq .n (.block (.loop [0, 1, 7, 8] [] [4] [] (.seq .n (.seq (.cond .n .n) (.seq (.block (.seq .n (.seq .n (.cond (.seq .n .n) .n)))) .n)))))) (.cut [] (.seq .n .n))))
  | 92 => (.seq .n (.seq .n (.seq .n .n)))
  | 93 => (.seq .n (.seq .n (.seq .n (.seq .n (.seq .n (.seq .n (.seq .n (.seq .n (.seq .n (.seq .n (.seq .n (.seq .n .n))))))))))))
  | _ => .n
noncomputable def pr : Pr := ⟨Try.prog, prPol, prAnn, prPrim⟩
end Go.Ev

/- Heaps: what the laws' own functions do with them. -/
namespace Go.Ev
set_option linter.unusedVariables false
set_option linter.unusedSimpArgs false
open Go.Proofs
set_option maxRecDepth 100000
set_option linter.unusedVariables false
set_option maxHeartbeats 2000000
theorem toIntL_ev (l : List Int) : ∀ (rest m : List Int), l = m ++ rest → l.length ≤ 1048576 → Ev pr (.loop (lq pr 24 0) (at_ [(0, .t (.seq 1 (l.map intt))), (3, .vec 0 l.length 1 0 l.length), (4, i64 m.length)] [.vec true 1 (ints (m ++ List.replicate rest.length 0))] 0))
    (.exit 0 (at_ [(3, .vec 0 l.length 1 0 l.length)] [.vec true 1 (ints l)] 0))
  | [], m, he, h => by
    have hll : (l.length : Int) = m.length := by simp [he]
    have he2 : l = m := by simpa using he
    subst he2
    let t0 : Tp pr := .i (show ((↑(List.map intt l).length : Int) : Int) = (↑l.length : Int) by simp)
    let t1 : Tp pr := .b (show (decide ((↑l.length : Int) < (↑l.length : Int))) = false by simp)
    exact .tpe [t0, t1] (Out.exit (0 : Nat) (at_ [((3 : Nat), V.vec (0 : Nat) l.length (1 : Nat) (0 : Nat) l.length)] [Ob.vec true (1 : Nat) (ints (l ++ List.replicate (0 : Nat) (0 : Int)))] (0 : Nat))) (by kernel_rfl) (congrArg (fun x => Out.exit (0 : Nat) (at_ [((3 : Nat), V.vec (0 : Nat) l.length (1 : Nat) (0 : Nat) l.length)] [Ob.vec true (1 : Nat) x] (0 : Nat))) (show (ints (l ++ List.replicate (0 : Nat) (0 : Int))) = (ints l) by simp))
  | x :: rest, m, he, h => by
    have hll : (l.length : Int) = m.length + 1 + rest.length := by simp [he]; omega
    have hg : lkp (l.map intt) (m.length : Int) = some [T.int .i64 x] := by subst he; simp [intt]
    have ih := toIntL_ev l rest (m ++ [x]) (by simp [he]) h
    have hg2 : (ints (m ++ 0 :: List.replicate rest.length 0))[m.length]? = some (intc 0) := by simp [ints]
    rw [show List.replicate (x :: rest).length (0 : Int) = 0 :: List.replicate rest.length 0 from rfl]
    let t0 : Tp pr := .i (show ((↑(List.map intt l).length : Int) : Int) = (↑l.length : Int) by simp)
    let t1 : Tp pr := .b (show (decide ((↑m.length : Int) < (↑l.length : Int))) = true by (simp; omega))
    let t2 : Tp pr := .g .row (show (lkp (List.map intt l) (↑m.length : Int)) = some ([T.int IntKind.i64 x]) from hg)
    let t3 : Tp pr := .m (show (decide ((0 : Int) ≤ (↑m.length : Int) ∧ (↑m.length : Int).toNat < l.length)) = true by simp [*])
    let t4 : Tp pr := .c (show ((0 : Nat) + (↑m.length : Int).toNat : Nat) = m.length by omega)
    let t5 : Tp pr := .m (show (decide ((ints (m ++ (0 : Int) :: List.replicate rest.length (0 : Int))).length = l.length)) = true by simp [*])
    let t6 : Tp pr := .g .crow (show ((ints (m ++ (0 : Int) :: List.replicate rest.length (0 : Int)))[m.length]?) = some (intc (0 : Int)) from hg2)
    let t7 : Tp pr := .n .crows (show ((ints (m ++ (0 : Int) :: List.replicate rest.length (0 : Int))).set m.length [C.t (T.int IntKind.i64 x)]) = ints (m ++ x :: List.replicate rest.length (0 : Int)) by simp)
    let t8 : Tp pr := .i (wrap_i64 (a := (↑m.length : Int) + (1 : Int)) (by omega) (by omega))
    let t9 : Tp pr := .a (Ev.castq ((congrArg (fun x_1 => Q.loop (lq pr (24 : FuncId) (0 : Nat)) (at_ [((0 : Nat), V.t (T.seq (1 : Nat) (List.map intt l))), ((3 : Nat), V.vec (0 : Nat) l.length (1 : Nat) (0 : Nat) l.length), ((4 : Nat), i64 x_1)] [Ob.vec true (1 : Nat) (ints (m ++ [x] ++ List.replicate rest.length (0 : Int)))] (0 : Nat))) (show ((↑(m ++ [x]).length : Int)) = ((↑m.length : Int) + (1 : Int)) by simp [ints, intc])).trans (congrArg (fun x => Q.loop (lq pr (24 : FuncId) (0 : Nat)) (at_ [((0 : Nat), V.t (T.seq (1 : Nat) (List.map intt l))), ((3 : Nat), V.vec (0 : Nat) l.length (1 : Nat) (0 : Nat) l.length), ((4 : Nat), i64 ((↑m.length : Int) + (1 : Int)))] [Ob.vec true (1 : Nat) x] (0 : Nat))) (show (ints (m ++ [x] ++ List.replicate rest.length (0 : Int))) = (ints (m ++ x :: List.replicate rest.length (0 : Int))) by simp [ints, intc]))) (ih))
    exact .tp [t0, t1, t2, t3, t4, t5, t6, t7, t8, t9] (by kernel_rfl)
theorem toIntS_ev (l : List Int) (hl : l.length ≤ 1048576) : Ev pr (.call 24 [.t (.seq 1 (l.map intt))] []) (.val (.vec 0 l.length 1 0 l.length) [.vec true 1 (ints l)]) := by
  have := toIntL_ev l l [] rfl hl
  let t0 : Tp pr := .i (show ((↑(List.map intt l).length : Int) : Int) = (↑l.length : Int) by simp)
  let t1 : Tp pr := .m (show (decide ((0 : Int) ≤ (↑l.length : Int) ∧ (↑l.length : Int) ≤ (↑l.length : Int) ∧ (↑l.length : Int) ≤ (4294967296 : Int))) = true by (simp; omega))
  let t2 : Tp pr := .c (show ((↑l.length : Int).toNat : Nat) = l.length by omega)
  let t3 : Tp pr := .n .crows (rfl : (List.replicate l.length [C.t (T.int IntKind.i64 (0 : Int))]) = _)
  let t4 : Tp pr := .a (Ev.castq (congrArg (fun x => Q.loop (lq pr (24 : FuncId) (0 : Nat)) (at_ [((0 : Nat), V.t (T.seq (1 : Nat) (List.map intt l))), ((3 : Nat), V.vec (0 : Nat) l.length (1 : Nat) (0 : Nat) l.length), ((4 : Nat), i64 (↑(0 : Nat) : Int))] [Ob.vec true (1 : Nat) x] (0 : Nat))) (show (ints ([] ++ List.replicate l.length (0 : Int))) = (List.replicate l.length [C.t (T.int IntKind.i64 (0 : Int))]) by simp [ints, intc])) (this))
  exact .tp [t0, t1, t2, t3, t4] (by kernel_rfl)
theorem eqIntL_ev : ∀ (rest m : List Int), m.length + rest.length ≤ 1048576 → Ev pr (.loop (lq pr 26 0) (at_ [(0, .t (.seq 1 ((m ++ rest).map intt))), (1, .t (.seq 1 ((m ++ rest).map intt))), (5, i64 m.length)] [] 0)) (.exit 0 (at_ [] [] 0))
  | [], m, h => by
    let t0 : Tp pr := .i (show ((↑(List.map intt (m ++ [])).length : Int) : Int) = (↑m.length : Int) by simp)
    let t1 : Tp pr := .b (show (decide ((↑m.length : Int) < (↑m.length : Int))) = false by simp)
    exact .tp [t0, t1] (by kernel_rfl)
  | x :: rest, m, h => by
    simp at h
    have ih := eqIntL_ev rest (m ++ [x]) (by simp; omega)
    have hg : lkp ((m ++ x :: rest).map intt) (m.length : Int) = some [T.int .i64 x] := by simp [intt]
    let t0 : Tp pr := .i (show ((↑(List.map intt (m ++ x :: rest)).length : Int) : Int) = (↑m.length : Int) + ((↑rest.length : Int) + (1 : Int)) by simp)
    let t1 : Tp pr := .b (show (decide ((↑m.length : Int) < (↑m.length : Int) + ((↑rest.length : Int) + (1 : Int)))) = true by (simp; omega))
    let t4 : Tp pr := .g .row (show (lkp (List.map intt (m ++ x :: rest)) (↑m.length : Int)) = some ([T.int IntKind.i64 x]) from hg)
    let t9 : Tp pr := .g .row (show (lkp (List.map intt (m ++ x :: rest)) (↑m.length : Int)) = some ([T.int IntKind.i64 x]) from hg)
    let t14 : Tp pr := .i (wrap_i64 (a := (↑m.length : Int) + (1 : Int)) (by omega) (by omega))
    let t15 : Tp pr := .a (Ev.castq ((congrArg (fun x_1 => Q.loop (lq pr (26 : FuncId) (0 : Nat)) (at_ [((0 : Nat), V.t (T.seq (1 : Nat) x_1)), ((1 : Nat), V.t (T.seq (1 : Nat) x_1)), ((5 : Nat), i64 (↑(m ++ [x]).length : Int))] [] (0 : Nat))) (show (List.map intt (m ++ [x] ++ rest)) = (List.map intt (m ++ x :: rest)) by simp)).trans (congrArg (fun x_1 => Q.loop (lq pr (26 : FuncId) (0 : Nat)) (at_ [((0 : Nat), V.t (T.seq (1 : Nat) (List.map intt (m ++ x :: rest)))), ((1 : Nat), V.t (T.seq (1 : Nat) (List.map intt (m ++ x :: rest)))), ((5 : Nat), i64 x_1)] [] (0 : Nat))) (show ((↑(m ++ [x]).length : Int)) = ((↑m.length : Int) + (1 : Int)) by simp))) (ih))
    exact .tp [t0, t1, .m (rfl : true = true), .m (rfl : true = true), t4, .m (rfl : true = true), .m (rfl : true = true), .m (rfl : true = true), .m (rfl : true = true), t9, .m (rfl : true = true), .m (rfl : true = true), .m (rfl : true = true), .b (show (x != x) = false by simp), t14, t15] (by kernel_rfl)
theorem eqIntS_ev (l : List Int) (h : l.length ≤ 1048576) : Ev pr (.call 26 [.t (.seq 1 (l.map intt)), .t (.seq 1 (l.map intt))] []) (.val (bl true) []) := by
  have := eqIntL_ev l [] (by simpa using h)
  let t0 : Tp pr := .i (show ((↑(List.map intt l).length : Int) : Int) = (↑l.length : Int) by simp)
  let t1 : Tp pr := .i (show ((↑(List.map intt l).length : Int) : Int) = (↑l.length : Int) by simp)
  let t2 : Tp pr := .b (show ((↑l.length : Int) != (↑l.length : Int)) = false by simp)
  exact .tp [t0, t1, t2, .a (this)] (by kernel_rfl)
theorem markIntL_ev : ∀ (rest m : List Int) (k : Int), 0 ≤ k → k + rest.length ≤ 9000000 → m.length + rest.length ≤ 1048576 →
    Ev pr (.loop (lq pr 27 0) (at_ [(0, .vec 0 (m.length + rest.length) 1 0 (m.length + rest.length)), (1, i64 k), (5, i64 m.length)] [.vec true 1 (ints (m ++ rest))] 1))
      (.exit 0 (at_ [(1, i64 (k + rest.length))] [.vec true 1 (ints (m ++ markI k rest.length))] 1))
  | [], m, k, h0, h1, h2 => by
    let t0 : Tp pr := .i (show ((↑(m.length + (0 : Nat)) : Int) : Int) = (↑m.length : Int) by omega)
    let t1 : Tp pr := .b (show (decide ((↑m.length : Int) < (↑m.length : Int))) = false by simp)
    exact .tpe [t0, t1] (Out.exit (0 : Nat) (at_ [((1 : Nat), V.t (T.int IntKind.i64 k))] [Ob.vec true (1 : Nat) (ints (m ++ []))] (1 : Nat))) (by kernel_rfl) ((congrArg (fun x => Out.exit (0 : Nat) (at_ [((1 : Nat), V.t (T.int IntKind.i64 x))] [Ob.vec true (1 : Nat) (ints (m ++ []))] (1 : Nat))) (show (k) = (k + (0 : Int)) by simp [markI])).trans (congrArg (fun x => Out.exit (0 : Nat) (at_ [((1 : Nat), V.t (T.int IntKind.i64 (k + (0 : Int))))] [Ob.vec true (1 : Nat) x] (1 : Nat))) (show (ints (m ++ [])) = (ints (m ++ markI k (0 : Nat))) by simp [markI])))
  | x :: rest, m, k, h0, h1, h2 => by
    simp at h1 h2
    have ih := markIntL_ev rest (m ++ [k]) (k + 1) (by omega) (by omega) (by simp; omega)
    let t0 : Tp pr := .i (show ((↑(m.length + (x :: rest).length) : Int) : Int) = (↑m.length : Int) + ((↑rest.length : Int) + (1 : Int)) by simp)
    let t1 : Tp pr := .b (show (decide ((↑m.length : Int) < (↑m.length : Int) + ((↑rest.length : Int) + (1 : Int)))) = true by (simp; omega))
    let t2 : Tp pr := .m (show (decide ((0 : Int) ≤ (↑m.length : Int) ∧ (↑m.length : Int).toNat < m.length + (x :: rest).length)) = true by simp)
    let t3 : Tp pr := .c (show ((0 : Nat) + (↑m.length : Int).toNat : Nat) = m.length by omega)
    let t4 : Tp pr := .m (show (decide ((ints (m ++ x :: rest)).length = m.length + (x :: rest).length)) = true by simp)
    let t5 : Tp pr := .g .crow (show ((ints (m ++ x :: rest))[m.length]?) = some ([C.t (T.int IntKind.i64 x)]) by simp)
    let t6 : Tp pr := .n .crows (show ((ints (m ++ x :: rest)).set m.length [C.t (T.int IntKind.i64 k)]) = ints (m ++ k :: rest) by simp)
    let t7 : Tp pr := .i (wrap_i64 (a := k + (1 : Int)) (by omega) (by omega))
    let t8 : Tp pr := .i (wrap_i64 (a := (↑m.length : Int) + (1 : Int)) (by omega) (by omega))
    let t9 : Tp pr := .a (Ev.castq (((congrArg (fun x => Q.loop (lq pr (27 : FuncId) (0 : Nat)) (at_ [((0 : Nat), V.vec (0 : Nat) x (1 : Nat) (0 : Nat) x), ((1 : Nat), i64 (k + (1 : Int))), ((5 : Nat), i64 (↑(m ++ [k]).length : Int))] [Ob.vec true (1 : Nat) (ints (m ++ [k] ++ rest))] (1 : Nat))) (show ((m ++ [k]).length + rest.length) = (m.length + (x :: rest).length) by (simp [markI] <;> omega))).trans (congrArg (fun x_1 => Q.loop (lq pr (27 : FuncId) (0 : Nat)) (at_ [((0 : Nat), V.vec (0 : Nat) (m.length + (x :: rest).length) (1 : Nat) (0 : Nat) (m.length + (x :: rest).length)), ((1 : Nat), i64 (k + (1 : Int))), ((5 : Nat), i64 x_1)] [Ob.vec true (1 : Nat) (ints (m ++ [k] ++ rest))] (1 : Nat))) (show ((↑(m ++ [k]).length : Int)) = ((↑m.length : Int) + (1 : Int)) by (simp [markI] <;> omega)))).trans (congrArg (fun x_1 => Q.loop (lq pr (27 : FuncId) (0 : Nat)) (at_ [((0 : Nat), V.vec (0 : Nat) (m.length + (x :: rest).length) (1 : Nat) (0 : Nat) (m.length + (x :: rest).length)), ((1 : Nat), i64 (k + (1 : Int))), ((5 : Nat), i64 ((↑m.length : Int) + (1 : Int)))] [Ob.vec true (1 : Nat) x_1] (1 : Nat))) (show (ints (m ++ [k] ++ rest)) = (ints (m ++ k :: rest)) by (simp [markI] <;> omega)))) (ih))
    exact .tpe [t0, t1, t2, t3, t4, t5, t6, t7, t8, t9] (Out.exit (0 : Nat) (at_ [((1 : Nat), V.t (T.int IntKind.i64 (k + (1 : Int) + (↑rest.length : Int))))] [Ob.vec true (1 : Nat) (ints (m ++ [k] ++ markI (k + (1 : Int)) rest.length))] (1 : Nat))) (by kernel_rfl) ((congrArg (fun x => Out.exit (0 : Nat) (at_ [((1 : Nat), V.t (T.int IntKind.i64 x))] [Ob.vec true (1 : Nat) (ints (m ++ [k] ++ markI (k + (1 : Int)) rest.length))] (1 : Nat))) (show (k + (1 : Int) + (↑rest.length : Int)) = (k + (↑(x :: rest).length : Int)) by (simp [markI] <;> omega))).trans (congrArg (fun x_1 => Out.exit (0 : Nat) (at_ [((1 : Nat), V.t (T.int IntKind.i64 (k + (↑(x :: rest).length : Int))))] [Ob.vec true (1 : Nat) x_1] (1 : Nat))) (show (ints (m ++ [k] ++ markI (k + (1 : Int)) rest.length)) = (ints (m ++ markI k (x :: rest).length)) by (simp [markI] <;> omega))))
theorem markIntS_ev (l : List Int) (k : Int) (h0 : 0 ≤ k) (h : k + l.length ≤ 9000000) (h2 : l.length ≤ 1048576) : Ev pr (.call 27 [.vec 0 l.length 1 0 l.length, i64 k] [.vec true 1 (ints l)]) (.val (i64 (k + l.length)) [.vec true 1 (ints (markI k l.length))]) := by
  have := markIntL_ev l [] k h0 h (by simpa using h2)
  let t0 : Tp pr := .a (Ev.castq (congrArg (fun x => Q.loop (lq pr (27 : FuncId) (0 : Nat)) (at_ [((0 : Nat), V.vec (0 : Nat) x (1 : Nat) (0 : Nat) x), ((1 : Nat), i64 k), ((5 : Nat), i64 (↑(0 : Nat) : Int))] [Ob.vec true (1 : Nat) (ints ([] ++ l))] (1 : Nat))) (show ((0 : Nat) + l.length) = (l.length) by simp)) (this))
  exact .tp [t0] (by kernel_rfl)
theorem heldIntL_ev : ∀ (n : Nat) (m : List Int) (k : Int), 0 ≤ k → k + n ≤ 9000000 → m.length + n ≤ 1048576 →
    Ev pr (.loop (lq pr 34 0) (at_ [(0, .t (.seq 1 ((m ++ markI k n).map intt))), (1, i64 k), (5, i64 m.length)] [] 0)) (.exit 0 (at_ [(1, i64 (k + n))] [] 0))
  | 0, m, k, h0, h1, h2 => by
    let t0 : Tp pr := .i (show ((↑(List.map intt (m ++ markI k (0 : Nat))).length : Int) : Int) = (↑m.length : Int) + (↑(markI k (0 : Nat)).length : Int) by simp)
    let t1 : Tp pr := .b (show (decide ((↑m.length : Int) < (↑m.length : Int) + (0 : Int))) = false by simp)
    exact .tpe [t0, t1] (Out.exit (0 : Nat) (at_ [((1 : Nat), V.t (T.int IntKind.i64 k))] [] (0 : Nat))) (by kernel_rfl) (congrArg (fun x => Out.exit (0 : Nat) (at_ [((1 : Nat), V.t (T.int IntKind.i64 x))] [] (0 : Nat))) (show (k) = (k + (0 : Int)) by simp [markI]))
  | n + 1, m, k, h0, h1, h2 => by
    have ih := heldIntL_ev n (m ++ [k]) (k + 1) (by omega) (by omega) (by simp; omega)
    have hm := markI_len (k + 1) n
    rw [show markI k (n + 1) = k :: markI (k + 1) n from rfl]
    have hg : lkp ((m ++ k :: markI (k + 1) n).map intt) (m.length : Int) = some [T.int .i64 k] := by simp [intt]
    let t0 : Tp pr := .i (show ((↑(List.map intt (m ++ k :: markI (k + (1 : Int)) n)).length : Int) : Int) = (↑m.length : Int) + ((↑(markI (k + (1 : Int)) n).length : Int) + (1 : Int)) by simp)
    let t1 : Tp pr := .b (show (decide ((↑m.length : Int) < (↑m.length : Int) + ((↑(markI (k + (1 : Int)) n).length : Int) + (1 : Int)))) = true by (simp; omega))
    let t2 : Tp pr := .g .row (show (lkp (List.map intt (m ++ k :: markI (k + (1 : Int)) n)) (↑m.length : Int)) = some ([T.int IntKind.i64 k]) from hg)
    let t4 : Tp pr := .i (wrap_i64 (a := k + (1 : Int)) (by omega) (by omega))
    let t5 : Tp pr := .i (wrap_i64 (a := (↑m.length : Int) + (1 : Int)) (by omega) (by omega))
    let t6 : Tp pr := .a (Ev.castq ((congrArg (fun x => Q.loop (lq pr (34 : FuncId) (0 : Nat)) (at_ [((0 : Nat), V.t (T.seq (1 : Nat) x)), ((1 : Nat), i64 (k + (1 : Int))), ((5 : Nat), i64 (↑(m ++ [k]).length : Int))] [] (0 : Nat))) (show (List.map intt (m ++ [k] ++ markI (k + (1 : Int)) n)) = (List.map intt (m ++ k :: markI (k + (1 : Int)) n)) by (simp <;> omega))).trans (congrArg (fun x => Q.loop (lq pr (34 : FuncId) (0 : Nat)) (at_ [((0 : Nat), V.t (T.seq (1 : Nat) (List.map intt (m ++ k :: markI (k + (1 : Int)) n)))), ((1 : Nat), i64 (k + (1 : Int))), ((5 : Nat), i64 x)] [] (0 : Nat))) (show ((↑(m ++ [k]).length : Int)) = ((↑m.length : Int) + (1 : Int)) by (simp <;> omega)))) (ih))
    exact .tpe [t0, t1, t2, .b (show (k != k) = false by simp), t4, t5, t6] (Out.exit (0 : Nat) (at_ [((1 : Nat), V.t (T.int IntKind.i64 (k + (1 : Int) + (↑n : Int))))] [] (0 : Nat))) (by kernel_rfl) (congrArg (fun x => Out.exit (0 : Nat) (at_ [((1 : Nat), V.t (T.int IntKind.i64 x))] [] (0 : Nat))) (show (k + (1 : Int) + (↑n : Int)) = (k + (↑(n + (1 : Nat)) : Int)) by (simp <;> omega)))
theorem heldIntS_ev (n : Nat) (k : Int) (h0 : 0 ≤ k) (h : k + n ≤ 9000000) (h2 : n ≤ 1048576) : Ev pr (.call 34 [.t (.seq 1 ((markI k n).map intt)), i64 k] []) (.val (i64 (k + n)) []) := by
  have := heldIntL_ev n [] k h0 h (by simpa using h2)
  exact .tp [.a (this)] (by kernel_rfl)
theorem eqIntNL_ev : Ev pr (.loop (lq pr 26 0) (at_ [(0, .t .nils), (1, .t (.seq 1 [])), (5, i64 0)] [] 0)) (.exit 0 (at_ [] [] 0)) := by
  let t0 : Tp pr := .i (rfl : ((0 : Int) : Int) = (0 : Int))
  exact .tp [t0, .b (rfl : false = false)] (by kernel_rfl)
theorem eqIntN_ev : Ev pr (.call 26 [.t .nils, .t (.seq 1 [])] []) (.val (bl true) []) := by
  let t0 : Tp pr := .i (rfl : ((0 : Int) : Int) = (0 : Int))
  let t1 : Tp pr := .i (rfl : ((0 : Int) : Int) = (0 : Int))
  exact .tp [t0, t1, .b (rfl : false = false), .a (eqIntNL_ev)] (by kernel_rfl)
theorem markIntNL_ev (k : Int) : Ev pr (.loop (lq pr 27 0) (at_ [(0, .t .nils), (1, i64 k), (5, i64 0)] [] 0)) (.exit 0 (at_ [(1, i64 k)] [] 0)) := by
  let t0 : Tp pr := .i (rfl : ((0 : Int) : Int) = (0 : Int))
  exact .tp [t0, .b (rfl : false = false)] (by kernel_rfl)
theorem markIntN_ev (k : Int) : Ev pr (.call 27 [.t .nils, i64 k] []) (.val (i64 k) []) := by
  have := markIntNL_ev k
  exact .tp [.a (this)] (by kernel_rfl)
theorem heldIntNL_ev (k : Int) : Ev pr (.loop (lq pr 34 0) (at_ [(0, .t .nils), (1, i64 k), (5, i64 0)] [] 0)) (.exit 0 (at_ [(1, i64 k)] [] 0)) := by
  let t0 : Tp pr := .i (rfl : ((0 : Int) : Int) = (0 : Int))
  exact .tp [t0, .b (rfl : false = false)] (by kernel_rfl)
theorem heldIntN_ev (k : Int) : Ev pr (.call 34 [.t .nils, i64 k] []) (.val (i64 k) []) := by
  have := heldIntNL_ev k
  exact .tp [.a (this)] (by kernel_rfl)
theorem szIntS_ev (l : List Int) (n : Int) (h0 : 0 ≤ n) (h1 : n ≤ 1048576) (hl : l.length ≤ 9223372036854775807) : Ev pr (.call 44 [isq l, i64 n] []) (.val (i64 (szI l n)) []) := by
  let t0 : Tp pr := .i (show ((↑(List.map intt l).length : Int) : Int) = (↑l.length : Int) by simp)
  let t1 : Tp pr := .i (wrap_i64 (a := n - (↑l.length : Int)) (by omega) (by omega))
  by_cases hc2 : n - (↑l.length : Int) < (0 : Int)
  · let t2 : Tp pr := .b (show (decide (n - (↑l.length : Int) < (0 : Int))) = true by simpa using hc2)
    exact .tpe [t0, t1, t2] (Out.val (V.t (T.int IntKind.i64 (-1 : Int))) []) (by kernel_rfl) (congrArg (fun x => Out.val (V.t (T.int IntKind.i64 x)) []) (show ((-1 : Int)) = (szI l n) by grind [szI]))
  · let t2 : Tp pr := .b (show (decide (n - (↑l.length : Int) < (0 : Int))) = false by simpa using hc2)
    exact .tpe [t0, t1, t2] (Out.val (V.t (T.int IntKind.i64 (n - (↑l.length : Int)))) []) (by kernel_rfl) (congrArg (fun x => Out.val (V.t (T.int IntKind.i64 x)) []) (show (n - (↑l.length : Int)) = (szI l n) by grind [szI]))
theorem szObject_ev (x : Obj) (n : Int) (h0 : 0 ≤ n) (h1 : n ≤ 1048576) (hl : x.links.length ≤ 9223372036854775807) : Ev pr (.call 70 [vs x.ce, i64 n] []) (.val (i64 (if szI x.links n < 0 then -1 else szI x.links n)) []) := by
  have h := szIntS_ev x.links n h0 h1 hl
  by_cases hz : szI x.links n < 0
  · rw [if_pos hz]; (
    let t1 : Tp pr := .b (show (decide (szI x.links n < (0 : Int))) = true by (simp; omega))
    exact .tp [.a (h), t1] (by kernel_rfl))
  · rw [if_neg hz]; (
    let t1 : Tp pr := .b (show (decide (szI x.links n < (0 : Int))) = false by (simp; omega))
    exact .tp [.a (h), t1] (by kernel_rfl))
def szOut : Option Int → Out
  | some m => .exit 0 (at_ [(1, i64 m)] [] 0)
  | none => .ret (at_ [(4, i64 (-1))] [] 0)
theorem szObjectL_ev (l : List Obj) (hl : l.length ≤ 9223372036854775807) (hs : ∀ x ∈ l, x.links.length ≤ 9223372036854775807) : ∀ (rest done : List Obj) (n : Int), l = done ++ rest → 0 ≤ n → n ≤ 1048576 →
    Ev pr (.loop (lq pr 43 0) (at_ [(0, osq l), (1, i64 n), (5, i64 done.length)] [] 0)) (szOut (szOL rest n))
  | [], done, n, he, h0, h1 => by
    have hll : (l.length : Int) = done.length := by simp [he]
    rw [show szOL [] n = some n from rfl]
    let t0 : Tp pr := .i (show ((↑(List.map Obj.ce l).length : Int) : Int) = (↑l.length : Int) by simp)
    let t1 : Tp pr := .b (show (decide ((↑done.length : Int) < (↑l.length : Int))) = false by (simp; omega))
    exact .tp [t0, t1] (by kernel_rfl)
  | x :: rest, done, n, he, h0, h1 => by
    have hll : (l.length : Int) = done.length + 1 + rest.length := by simp [he]; omega
    have hg : lkp (l.map Obj.ce) (done.length : Int) = some x.ce := by subst he; simp
    have hx := szObject_ev x n h0 h1 (hs x (by simp [he]))
    have e : szOL (x :: rest) n = if szI x.links n < 0 then none else szOL rest (szI x.links n) := rfl
    rw [e]
    by_cases hz : szI x.links n < 0
    · rw [if_pos hz] at hx ⊢
      let t0 : Tp pr := .i (show ((↑(List.map Obj.ce l).length : Int) : Int) = (↑l.length : Int) by simp)
      let t1 : Tp pr := .b (show (decide ((↑done.length : Int) < (↑l.length : Int))) = true by (simp; omega))
      let t2 : Tp pr := .g .row (show (lkp (List.map Obj.ce l) (↑done.length : Int)) = some (x.ce) from hg)
      exact .tp [t0, t1, t2, .a (hx), .b (rfl : true = true)] (by kernel_rfl)
    · rw [if_neg hz] at hx ⊢
      have hle := szI_le hz
      have ih := szObjectL_ev l hl hs rest (done ++ [x]) (szI x.links n) (by simp [he]) hle.1 (by omega)
      cases hr : szOL rest (szI x.links n) with
      | none => rw [hr] at ih; (
        let t0 : Tp pr := .i (show ((↑(List.map Obj.ce l).length : Int) : Int) = (↑l.length : Int) by simp)
        let t1 : Tp pr := .b (show (decide ((↑done.length : Int) < (↑l.length : Int))) = true by (simp; omega))
        let t2 : Tp pr := .g .row (show (lkp (List.map Obj.ce l) (↑done.length : Int)) = some (x.ce) from hg)
        let t4 : Tp pr := .b (show (decide (szI x.links n < (0 : Int))) = false by (simp; omega))
        let t5 : Tp pr := .i (wrap_i64 (a := (↑done.length : Int) + (1 : Int)) (by omega) (by omega))
        let t6 : Tp pr := .a (Ev.castq (congrArg (fun x_1 => Q.loop (lq pr (43 : FuncId) (0 : Nat)) (at_ [((0 : Nat), osq l), ((1 : Nat), i64 (szI x.links n)), ((5 : Nat), i64 x_1)] [] (0 : Nat))) (show ((↑(done ++ [x]).length : Int)) = ((↑done.length : Int) + (1 : Int)) by simp)) (ih))
        exact .tp [t0, t1, t2, .a (hx), t4, t5, t6] (by kernel_rfl))
      | some m => rw [hr] at ih; (
        let t0 : Tp pr := .i (show ((↑(List.map Obj.ce l).length : Int) : Int) = (↑l.length : Int) by simp)
        let t1 : Tp pr := .b (show (decide ((↑done.length : Int) < (↑l.length : Int))) = true by (simp; omega))
        let t2 : Tp pr := .g .row (show (lkp (List.map Obj.ce l) (↑done.length : Int)) = some (x.ce) from hg)
        let t4 : Tp pr := .b (show (decide (szI x.links n < (0 : Int))) = false by (simp; omega))
        let t5 : Tp pr := .i (wrap_i64 (a := (↑done.length : Int) + (1 : Int)) (by omega) (by omega))
        let t6 : Tp pr := .a (Ev.castq (congrArg (fun x_1 => Q.loop (lq pr (43 : FuncId) (0 : Nat)) (at_ [((0 : Nat), osq l), ((1 : Nat), i64 (szI x.links n)), ((5 : Nat), i64 x_1)] [] (0 : Nat))) (show ((↑(done ++ [x]).length : Int)) = ((↑done.length : Int) + (1 : Int)) by simp)) (ih))
        exact .tp [t0, t1, t2, .a (hx), t4, t5, t6] (by kernel_rfl))
theorem szObjectS_ev (l : List Obj) (n : Int) (h0 : 0 ≤ n) (h1 : n ≤ 1048576) (hl : l.length ≤ 9223372036854775807) (hs : ∀ x ∈ l, x.links.length ≤ 9223372036854775807) : Ev pr (.call 43 [osq l, i64 n] []) (.val (i64 (szO l n)) []) := by
  unfold szO
  by_cases h : n - l.length < 0
  · rw [if_pos h]; (
    let t0 : Tp pr := .i (show ((↑(List.map Obj.ce l).length : Int) : Int) = (↑l.length : Int) by simp)
    let t1 : Tp pr := .i (wrap_i64 (a := n - (↑l.length : Int)) (by omega) (by omega))
    let t2 : Tp pr := .b (show (decide (n - (↑l.length : Int) < (0 : Int))) = true by (simp; omega))
    exact .tp [t0, t1, t2] (by kernel_rfl))
  · rw [if_neg h]
    have hL := szObjectL_ev l hl hs l [] (n - l.length) rfl (by omega) (by omega)
    cases hr : szOL l (n - l.length) with
    | none => rw [hr] at hL; unfold szOut at hL; (
      let t0 : Tp pr := .i (show ((↑(List.map Obj.ce l).length : Int) : Int) = (↑l.length : Int) by simp)
      let t1 : Tp pr := .i (wrap_i64 (a := n - (↑l.length : Int)) (by omega) (by omega))
      let t2 : Tp pr := .b (show (decide (n - (↑l.length : Int) < (0 : Int))) = false by (simp; omega))
      exact .tp [t0, t1, t2, .a (hL)] (by kernel_rfl))
    | some m => rw [hr] at hL; unfold szOut at hL; (
      let t0 : Tp pr := .i (show ((↑(List.map Obj.ce l).length : Int) : Int) = (↑l.length : Int) by simp)
      let t1 : Tp pr := .i (wrap_i64 (a := n - (↑l.length : Int)) (by omega) (by omega))
      let t2 : Tp pr := .b (show (decide (n - (↑l.length : Int) < (0 : Int))) = false by (simp; omega))
      exact .tpe [t0, t1, t2, .a (hL)] (Out.val (V.t (T.int IntKind.i64 m)) []) (by kernel_rfl) (rfl))
theorem szHeap_ev (h : Hp) (n : Int) (h0 : 0 ≤ n) (h1 : n ≤ 1048576) (hl : h.objects.length ≤ 9223372036854775807) (hs : ∀ x ∈ h.objects, x.links.length ≤ 9223372036854775807) (hr : h.roots.length ≤ 9223372036854775807) :
    Ev pr (.call 14 [vs h.ce, i64 n] []) (.val (i64 (if szO h.objects n < 0 then -1 else if szI h.roots (szO h.objects n) < 0 then -1 else szI h.roots (szO h.objects n))) []) := by
  have g1 := szObjectS_ev h.objects n h0 h1 hl hs
  by_cases hz : szO h.objects n < 0
  · rw [if_pos hz]; (
    let t1 : Tp pr := .b (show (decide (szO h.objects n < (0 : Int))) = true by (simp; omega))
    exact .tp [.a (g1), t1] (by kernel_rfl))
  · rw [if_neg hz]
    have hle : szO h.objects n ≤ 1048576 := by
      unfold szO at *
      split
      · omega
      · rename_i hh
        rw [if_neg hh] at hz
        cases hr : szOL h.objects (n - h.objects.length) with
        | none => rw [hr] at hz; simp at hz
        | some m =>
          have h2 := szOL_sum _ _ m hr (by omega)
          have h3 : (h.objects.length : Int) ≤ marksO h.objects := by
            generalize h.objects = l
            induction l with
            | nil => simp [marksO]
            | cons x l ih => simp only [marksO, List.length_cons]; omega
          simp only [Option.getD_some]
          omega
    have g2 := szIntS_ev h.roots (szO h.objects n) (by omega) hle hr
    by_cases hz2 : szI h.roots (szO h.objects n) < 0
    · rw [if_pos hz2]; (
      let t1 : Tp pr := .b (show (decide (szO h.objects n < (0 : Int))) = false by (simp; omega))
      let t3 : Tp pr := .b (show (decide (szI h.roots (szO h.objects n) < (0 : Int))) = true by (simp; omega))
      exact .tp [.a (g1), t1, .a (g2), t3] (by kernel_rfl))
    · rw [if_neg hz2]; (
      let t1 : Tp pr := .b (show (decide (szO h.objects n < (0 : Int))) = false by (simp; omega))
      let t3 : Tp pr := .b (show (decide (szI h.roots (szO h.objects n) < (0 : Int))) = false by (simp; omega))
      exact .tp [.a (g1), t1, .a (g2), t3] (by kernel_rfl))
end Go.Ev

/- Heaps with rows of their own: made, compared, marked. -/
namespace Go.Ev
set_option linter.unusedVariables false
set_option linter.unusedSimpArgs false
open Go.Proofs
set_option maxRecDepth 100000
set_option linter.unusedVariables false
set_option maxHeartbeats 2000000
theorem toObject_ev (x : Obj) (hl : x.links.length ≤ 1048576) : Ev pr (.call 72 [vs x.ce] []) (.val (.agg [i64 x.mark, .vec 0 x.links.length 1 0 x.links.length]) [.vec true 1 (ints x.links)]) := by
  have h := toIntS_ev x.links hl
  exact .tp [.a (h)] (by kernel_rfl)
theorem toObjectL_ev (l : List Obj) (hl : l.length ≤ 1048576) (hs : ∀ x ∈ l, x.links.length ≤ 1048576) : ∀ (rest m : List Obj) (fl : Bool), l = m ++ rest →
    Ev pr (.loop (lq pr 47 0) (at_ [(0, osq l), (3, .vec 0 l.length 2 0 l.length), (4, i64 m.length)] [.vec fl 2 (m.map Obj.cc ++ List.replicate rest.length oz)] 0))
      (.exit 0 (at_ [(3, .vec 0 l.length 2 0 l.length)] [.vec (fl && rest.isEmpty) 2 (l.map Obj.cc)] 0))
  | [], m, fl, he => by
    have hll : (l.length : Int) = m.length := by simp [he]
    have he2 : l = m := by simpa using he
    subst he2
    let t0 : Tp pr := .i (show ((↑(List.map Obj.ce l).length : Int) : Int) = (↑l.length : Int) by simp)
    let t1 : Tp pr := .b (show (decide ((↑l.length : Int) < (↑l.length : Int))) = false by simp)
    exact .tpe [t0, t1] (Out.exit (0 : Nat) (at_ [((3 : Nat), V.vec (0 : Nat) l.length (2 : Nat) (0 : Nat) l.length)] [Ob.vec fl (2 : Nat) ((List.map Obj.cc l).append [])] (0 : Nat))) (by kernel_rfl) ((congrArg (fun x => Out.exit (0 : Nat) (at_ [((3 : Nat), V.vec (0 : Nat) l.length (2 : Nat) (0 : Nat) l.length)] [Ob.vec x (2 : Nat) ((List.map Obj.cc l).append [])] (0 : Nat))) (show (fl) = (fl && true) by simp)).trans (congrArg (fun x => Out.exit (0 : Nat) (at_ [((3 : Nat), V.vec (0 : Nat) l.length (2 : Nat) (0 : Nat) l.length)] [Ob.vec (fl && true) (2 : Nat) x] (0 : Nat))) (show ((List.map Obj.cc l).append []) = (List.map Obj.cc l) by simp)))
  | x :: rest, m, fl, he => by
    have hll : (l.length : Int) = m.length + 1 + rest.length := by simp [he]; omega
    have hll2 : l.length = m.length + 1 + rest.length := by omega
    have hg : lkp (l.map Obj.ce) (m.length : Int) = some x.ce := by subst he; simp
    have ht := toObject_ev x (hs x (by simp [he]))
    have ih := toObjectL_ev l hl hs rest (m ++ [x]) false (by simp [he])
    rw [show (m ++ [x]).map Obj.cc ++ List.replicate rest.length oz = m.map Obj.cc ++ [C.t (.int .i64 x.mark), C.row 1 (x.links.map intt)] :: List.replicate rest.length oz by simp [Obj.cc]] at ih
    rw [show List.replicate (x :: rest).length oz = [C.t (.int .i64 0), C.t .nils] :: List.replicate rest.length oz from rfl]
    have hg2 : (m.map Obj.cc ++ [C.t (.int .i64 0), C.t .nils] :: List.replicate rest.length oz)[m.length]? = some [C.t (.int .i64 0), C.t .nils] := by
      have := get_mid (m.map Obj.cc) [C.t (.int .i64 0), C.t .nils] (List.replicate rest.length oz)
      rwa [List.length_map] at this
    let t0 : Tp pr := .i (show ((↑(List.map Obj.ce l).length : Int) : Int) = (↑l.length : Int) by simp)
    let t1 : Tp pr := .b (show (decide ((↑m.length : Int) < (↑l.length : Int))) = true by (simp; omega))
    let t2 : Tp pr := .g .row (show (lkp (List.map Obj.ce l) (↑m.length : Int)) = some (x.ce) from hg)
    let t4 : Tp pr := .m (show (decide ((0 : Int) ≤ (↑m.length : Int) ∧ (↑m.length : Int).toNat < l.length)) = true by simp [*])
    let t5 : Tp pr := .c (show ((0 : Nat) + (↑m.length : Int).toNat : Nat) = m.length by omega)
    let t6 : Tp pr := .m (show (decide (((List.map Obj.cc m).append ([C.t (T.int IntKind.i64 (0 : Int)), C.t T.nils] :: List.replicate rest.length [C.t (T.int IntKind.i64 (0 : Int)), C.t T.nils])).length = l.length)) = true by simp [*])
    let t7 : Tp pr := .g .crow (show (((List.map Obj.cc m).append ([C.t (T.int IntKind.i64 (0 : Int)), C.t T.nils] :: List.replicate rest.length [C.t (T.int IntKind.i64 (0 : Int)), C.t T.nils]))[m.length]?) = some ([C.t (T.int IntKind.i64 (0 : Int)), C.t T.nils]) from hg2)
    let t8 : Tp pr := .n .crows (show (((List.map Obj.cc m).append ([C.t (T.int IntKind.i64 (0 : Int)), C.t T.nils] :: List.replicate rest.length [C.t (T.int IntKind.i64 (0 : Int)), C.t T.nils])).set m.length [C.t (T.int IntKind.i64 x.mark), C.t T.nils]) = List.map Obj.cc m ++ [C.t (T.int IntKind.i64 x.mark), C.t T.nils] :: List.replicate rest.length [C.t (T.int IntKind.i64 (0 : Int)), C.t T.nils] by simp)
    let t9 : Tp pr := .m (show (decide ((ints x.links).length = x.links.length ∧ x.links.length ≤ x.links.length)) = true by simp)
    let t10 : Tp pr := .m (show (decide (((List.map Obj.cc m).append ([C.t (T.int IntKind.i64 x.mark), C.t T.nils] :: List.replicate rest.length [C.t (T.int IntKind.i64 (0 : Int)), C.t T.nils])).length = l.length)) = true by simp [*])
    let t11 : Tp pr := .g .crow (show (((List.map Obj.cc m).append ([C.t (T.int IntKind.i64 x.mark), C.t T.nils] :: List.replicate rest.length [C.t (T.int IntKind.i64 (0 : Int)), C.t T.nils]))[m.length]?) = some ([C.t (T.int IntKind.i64 x.mark), C.t T.nils]) by simp)
    let t12 : Tp pr := .n .rows (show (List.map (fun x => List.map C.fz x) (List.take x.links.length (ints x.links))) = List.map intt x.links by simp)
    let t13 : Tp pr := .n .crows (show (((List.map Obj.cc m).append ([C.t (T.int IntKind.i64 x.mark), C.t T.nils] :: List.replicate rest.length [C.t (T.int IntKind.i64 (0 : Int)), C.t T.nils])).set m.length [C.t (T.int IntKind.i64 x.mark), C.row (1 : Nat) (List.map intt x.links)]) = List.map Obj.cc m ++ [C.t (T.int IntKind.i64 x.mark), C.row (1 : Nat) (List.map intt x.links)] :: List.replicate rest.length [C.t (T.int IntKind.i64 (0 : Int)), C.t T.nils] by simp)
    let t14 : Tp pr := .i (wrap_i64 (a := (↑m.length : Int) + (1 : Int)) (by omega) (by omega))
    let t15 : Tp pr := .a (Ev.castq (congrArg (fun x_1 => Q.loop (lq pr (47 : FuncId) (0 : Nat)) (at_ [((0 : Nat), osq l), ((3 : Nat), V.vec (0 : Nat) l.length (2 : Nat) (0 : Nat) l.length), ((4 : Nat), i64 x_1)] [Ob.vec false (2 : Nat) (List.map Obj.cc m ++ [C.t (T.int IntKind.i64 x.mark), C.row (1 : Nat) (List.map intt x.links)] :: List.replicate rest.length oz)] (0 : Nat))) (show ((↑(m ++ [x]).length : Int)) = ((↑m.length : Int) + (1 : Int)) by simp)) (ih))
    exact .tpe [t0, t1, t2, .a (ht), t4, t5, t6, t7, t8, t9, t10, t11, t12, t13, t14, t15] (Out.exit (0 : Nat) (at_ [((3 : Nat), V.vec (0 : Nat) l.length (2 : Nat) (0 : Nat) l.length)] [Ob.vec false (2 : Nat) (List.map Obj.cc l)] (0 : Nat))) (by kernel_rfl) (congrArg (fun x => Out.exit (0 : Nat) (at_ [((3 : Nat), V.vec (0 : Nat) l.length (2 : Nat) (0 : Nat) l.length)] [Ob.vec x (2 : Nat) (List.map Obj.cc l)] (0 : Nat))) (show (false) = (fl && false) by simp))
theorem toObjectS_ev (l : List Obj) (hl : l.length ≤ 1048576) (hs : ∀ x ∈ l, x.links.length ≤ 1048576) : Ev pr (.call 47 [osq l] []) (.val (.vec 0 l.length 2 0 l.length) [.vec l.isEmpty 2 (l.map Obj.cc)]) := by
  have := toObjectL_ev l hl hs l [] true rfl
  rw [Bool.true_and] at this
  let t0 : Tp pr := .i (show ((↑(List.map Obj.ce l).length : Int) : Int) = (↑l.length : Int) by simp)
  let t1 : Tp pr := .m (show (decide ((0 : Int) ≤ (↑l.length : Int) ∧ (↑l.length : Int) ≤ (↑l.length : Int) ∧ (↑l.length : Int) ≤ (4294967296 : Int))) = true by (simp; omega))
  let t2 : Tp pr := .c (show ((↑l.length : Int).toNat : Nat) = l.length by omega)
  let t3 : Tp pr := .n .crows (rfl : (List.replicate l.length [C.t (T.int IntKind.i64 (0 : Int)), C.t T.nils]) = _)
  exact .tp [t0, t1, t2, t3, .a (this)] (by kernel_rfl)
theorem toHeap_ev (h : Hp) (h1 : h.objects.length ≤ 1048576) (h2 : ∀ x ∈ h.objects, x.links.length ≤ 1048576) (h3 : h.roots.length ≤ 1048576) :
    Ev pr (.call 16 [vs h.ce] []) (.val (.agg [.vec 0 h.objects.length 2 0 h.objects.length, .vec 1 h.roots.length 1 0 h.roots.length]) [.vec h.objects.isEmpty 2 (h.objects.map Obj.cc), .vec true 1 (ints h.roots)]) := by
  have g1 := toObjectS_ev h.objects h1 h2
  have g2 := toIntS_ev h.roots h3
  exact .tp [.a (g1), .a (g2)] (by kernel_rfl)
theorem eqObject_ev (x : Obj) (hl : x.links.length ≤ 1048576) : Ev pr (.call 76 [vs x.ce, vs x.ce] []) (.val (bl true) []) := by
  have h := eqIntS_ev x.links hl
  let t0 : Tp pr := .b (show (x.mark != x.mark) = false by simp)
  exact .tp [t0, .a (h), .b (rfl : false = false)] (by kernel_rfl)
theorem eqObjectL_ev : ∀ (rest m : List Obj), m.length + rest.length ≤ 1048576 → (∀ x ∈ rest, x.links.length ≤ 1048576) → Ev pr (.loop (lq pr 52 0) (at_ [(0, osq (m ++ rest)), (1, osq (m ++ rest)), (5, i64 m.length)] [] 0)) (.exit 0 (at_ [] [] 0))
  | [], m, h, hs => by
    let t0 : Tp pr := .i (show ((↑(List.map Obj.ce (m ++ [])).length : Int) : Int) = (↑m.length : Int) by simp)
    let t1 : Tp pr := .b (show (decide ((↑m.length : Int) < (↑m.length : Int))) = false by simp)
    exact .tp [t0, t1] (by kernel_rfl)
  | x :: rest, m, h, hs => by
    simp at h
    have ih := eqObjectL_ev rest (m ++ [x]) (by simp; omega) (fun y hy => hs y (by simp [hy]))
    have hx := eqObject_ev x (hs x (by simp))
    have hg : lkp ((m ++ x :: rest).map Obj.ce) (m.length : Int) = some x.ce := by simp
    let t0 : Tp pr := .i (show ((↑(List.map Obj.ce (m ++ x :: rest)).length : Int) : Int) = (↑m.length : Int) + ((↑rest.length : Int) + (1 : Int)) by simp)
    let t1 : Tp pr := .b (show (decide ((↑m.length : Int) < (↑m.length : Int) + ((↑rest.length : Int) + (1 : Int)))) = true by (simp; omega))
    let t4 : Tp pr := .g .row (show (lkp (List.map Obj.ce (m ++ x :: rest)) (↑m.length : Int)) = some (x.ce) from hg)
    let t9 : Tp pr := .g .row (show (lkp (List.map Obj.ce (m ++ x :: rest)) (↑m.length : Int)) = some (x.ce) from hg)
    let t16 : Tp pr := .i (wrap_i64 (a := (↑m.length : Int) + (1 : Int)) (by omega) (by omega))
    let t17 : Tp pr := .a (Ev.castq ((congrArg (fun x_1 => Q.loop (lq pr (52 : FuncId) (0 : Nat)) (at_ [((0 : Nat), V.t (T.seq (2 : Nat) x_1)), ((1 : Nat), V.t (T.seq (2 : Nat) x_1)), ((5 : Nat), V.t (T.int IntKind.i64 (↑(m ++ [x]).length : Int)))] [] (0 : Nat))) (show (List.map Obj.ce (m ++ [x] ++ rest)) = (List.map Obj.ce (m ++ x :: rest)) by simp)).trans (congrArg (fun x_1 => Q.loop (lq pr (52 : FuncId) (0 : Nat)) (at_ [((0 : Nat), V.t (T.seq (2 : Nat) (List.map Obj.ce (m ++ x :: rest)))), ((1 : Nat), V.t (T.seq (2 : Nat) (List.map Obj.ce (m ++ x :: rest)))), ((5 : Nat), V.t (T.int IntKind.i64 x_1))] [] (0 : Nat))) (show ((↑(m ++ [x]).length : Int)) = ((↑m.length : Int) + (1 : Int)) by simp))) (ih))
    exact .tp [t0, t1, .m (rfl : true = true), .m (rfl : true = true), t4, .m (rfl : true = true), .m (rfl : true = true), .m (rfl : true = true), .m (rfl : true = true), t9, .m (rfl : true = true), .m (rfl : true = true), .a (hx), .m (rfl : true = true), .m (rfl : true = true), .b (rfl : false = false), t16, t17] (by kernel_rfl)
theorem eqObjectS_ev (l : List Obj) (h : l.length ≤ 1048576) (hs : ∀ x ∈ l, x.links.length ≤ 1048576) : Ev pr (.call 52 [osq l, osq l] []) (.val (bl true) []) := by
  have := eqObjectL_ev l [] (by simpa using h) hs
  let t0 : Tp pr := .i (show ((↑(List.map Obj.ce l).length : Int) : Int) = (↑l.length : Int) by simp)
  let t1 : Tp pr := .i (show ((↑(List.map Obj.ce l).length : Int) : Int) = (↑l.length : Int) by simp)
  let t2 : Tp pr := .b (show ((↑l.length : Int) != (↑l.length : Int)) = false by simp)
  exact .tp [t0, t1, t2, .a (this)] (by kernel_rfl)
theorem eqHeap_ev (h : Hp) (h1 : h.objects.length ≤ 1048576) (h2 : ∀ x ∈ h.objects, x.links.length ≤ 1048576) (h3 : h.roots.length ≤ 1048576) : Ev pr (.call 18 [vs h.ce, vs h.ce] []) (.val (bl true) []) := by
  have g1 := eqObjectS_ev h.objects h1 h2
  have g2 := eqIntS_ev h.roots h3
  exact .tp [.a (g1), .b (rfl : false = false), .a (g2), .b (rfl : false = false)] (by kernel_rfl)
theorem markLinksL_ev (fl : Bool) (P Q : List Obj) (a : Int) (N len : Nat) (hN : N = P.length + 1 + Q.length) (hlen : len ≤ 1048576) :
    ∀ (rest m : List Int) (k : Int), 0 ≤ k → k + rest.length ≤ 9000000 → len = m.length + rest.length →
    Ev pr (.loop (lq pr 27 0) (at_ [(0, .row 0 N P.length 1 1 len), (1, i64 k), (5, i64 m.length)] [.vec fl 2 ((P ++ ⟨a, m ++ rest⟩ :: Q).map Obj.cc)] 1))
      (.exit 0 (at_ [(1, i64 (k + rest.length))] [.vec fl 2 ((P ++ ⟨a, m ++ markI k rest.length⟩ :: Q).map Obj.cc)] 1))
  | [], m, k, h0, h1, h2 => by
    let t1 : Tp pr := .b (show (decide ((↑m.length : Int) < (↑len : Int))) = false by simp [*])
    exact .tpe [.i (rfl : ((↑len : Int)) = _), t1] (Out.exit (0 : Nat) (at_ [((1 : Nat), V.t (T.int IntKind.i64 k))] [Ob.vec fl (2 : Nat) (List.map Obj.cc (P ++ Obj.mk a (m ++ []) :: Q))] (1 : Nat))) (by kernel_rfl) ((congrArg (fun x => Out.exit (0 : Nat) (at_ [((1 : Nat), V.t (T.int IntKind.i64 x))] [Ob.vec fl (2 : Nat) (List.map Obj.cc (P ++ Obj.mk a (m ++ []) :: Q))] (1 : Nat))) (show (k) = (k + (0 : Int)) by simp [markI])).trans (congrArg (fun x => Out.exit (0 : Nat) (at_ [((1 : Nat), V.t (T.int IntKind.i64 (k + (0 : Int))))] [Ob.vec fl (2 : Nat) x] (1 : Nat))) (show (List.map Obj.cc (P ++ Obj.mk a (m ++ []) :: Q)) = (List.map Obj.cc (P ++ Obj.mk a (m ++ markI k (0 : Nat)) :: Q)) by simp [markI])))
  | x :: rest, m, k, h0, h1, h2 => by
    simp at h1 h2
    have ih := markLinksL_ev fl P Q a N len hN hlen rest (m ++ [k]) (k + 1) (by omega) (by omega) (by simp; omega)
    rw [show ((P ++ ⟨a, (m ++ [k]) ++ rest⟩ :: Q).map Obj.cc) = P.map Obj.cc ++ [C.t (.int .i64 a), C.row 1 (m.map intt ++ [T.int .i64 k] :: rest.map intt)] :: Q.map Obj.cc by simp [Obj.cc, intt]] at ih
    let t1 : Tp pr := .b (show (decide ((↑m.length : Int) < (↑len : Int))) = true by (simp; omega))
    let t2 : Tp pr := .m (show (decide ((0 : Int) ≤ (↑m.length : Int) ∧ (↑m.length : Int).toNat < len)) = true by simp [*])
    let t3 : Tp pr := .c (show ((↑m.length : Int).toNat : Nat) = m.length by omega)
    let t4 : Tp pr := .m (show (decide ((List.map Obj.cc (P ++ Obj.mk a (m ++ x :: rest) :: Q)).length = N)) = true by (simp; omega))
    let t5 : Tp pr := .g .crow (show ((List.map Obj.cc (P ++ Obj.mk a (m ++ x :: rest) :: Q))[P.length]?) = some ((Obj.mk a (m ++ x :: rest)).cc) by simp)
    let t6 : Tp pr := .g .row (show ((List.map intt (Obj.mk a (m ++ x :: rest)).links)[m.length]?) = some (intt x) by simp)
    let t8 : Tp pr := .n .crows (show ((List.map Obj.cc (P ++ Obj.mk a (m ++ x :: rest) :: Q)).set P.length [C.t (T.int IntKind.i64 a), C.row (1 : Nat) ((List.map intt (Obj.mk a (m ++ x :: rest)).links).set m.length [T.int IntKind.i64 k])]) = List.map Obj.cc P ++ [C.t (T.int IntKind.i64 a), C.row (1 : Nat) (List.map intt m ++ [T.int IntKind.i64 k] :: List.map intt rest)] :: List.map Obj.cc Q by simp)
    let t9 : Tp pr := .i (wrap_i64 (a := k + (1 : Int)) (by omega) (by omega))
    let t10 : Tp pr := .i (wrap_i64 (a := (↑m.length : Int) + (1 : Int)) (by omega) (by omega))
    let t11 : Tp pr := .a (Ev.castq (congrArg (fun x => Ev.Q.loop (lq pr (27 : FuncId) (0 : Nat)) (at_ [((0 : Nat), V.row (0 : Nat) N P.length (1 : Nat) (1 : Nat) len), ((1 : Nat), i64 (k + (1 : Int))), ((5 : Nat), i64 x)] [Ob.vec fl (2 : Nat) (List.map Obj.cc P ++ [C.t (T.int IntKind.i64 a), C.row (1 : Nat) (List.map intt m ++ [T.int IntKind.i64 k] :: List.map intt rest)] :: List.map Obj.cc Q)] (1 : Nat))) (show ((↑(m ++ [k]).length : Int)) = ((↑m.length : Int) + (1 : Int)) by (simp [markI] <;> omega))) (ih))
    exact .tpe [.i (rfl : ((↑len : Int)) = _), t1, t2, t3, t4, t5, t6, .m (rfl : true = true), t8, t9, t10, t11] (Out.exit (0 : Nat) (at_ [((1 : Nat), V.t (T.int IntKind.i64 (k + (1 : Int) + (↑rest.length : Int))))] [Ob.vec fl (2 : Nat) (List.map Obj.cc (P ++ Obj.mk a (m ++ [k] ++ markI (k + (1 : Int)) rest.length) :: Q))] (1 : Nat))) (by kernel_rfl) ((congrArg (fun x => Out.exit (0 : Nat) (at_ [((1 : Nat), V.t (T.int IntKind.i64 x))] [Ob.vec fl (2 : Nat) (List.map Obj.cc (P ++ Obj.mk a (m ++ [k] ++ markI (k + (1 : Int)) rest.length) :: Q))] (1 : Nat))) (show (k + (1 : Int) + (↑rest.length : Int)) = (k + (↑(x :: rest).length : Int)) by (simp [markI] <;> omega))).trans (congrArg (fun x_1 => Out.exit (0 : Nat) (at_ [((1 : Nat), V.t (T.int IntKind.i64 (k + (↑(x :: rest).length : Int))))] [Ob.vec fl (2 : Nat) x_1] (1 : Nat))) (show (List.map Obj.cc (P ++ Obj.mk a (m ++ [k] ++ markI (k + (1 : Int)) rest.length) :: Q)) = (List.map Obj.cc (P ++ Obj.mk a (m ++ markI k (x :: rest).length) :: Q)) by (simp [markI] <;> omega))))
theorem markLinks_ev (fl : Bool) (P Q : List Obj) (x : Obj) (N : Nat) (hN : N = P.length + 1 + Q.length) (k : Int) (h0 : 0 ≤ k) (h1 : k + x.links.length ≤ 9000000) (h2 : x.links.length ≤ 1048576) :
    Ev pr (.call 27 [.row 0 N P.length 1 1 x.links.length, i64 k] [.vec fl 2 ((P ++ x :: Q).map Obj.cc)]) (.val (i64 (k + x.links.length)) [.vec fl 2 ((P ++ ⟨x.mark, markI k x.links.length⟩ :: Q).map Obj.cc)]) := by
  have := markLinksL_ev fl P Q x.mark N x.links.length hN h2 x.links [] k h0 h1 (by simp)
  exact .tp [.a (this)] (by kernel_rfl)
theorem markObjectL_ev (N : Nat) (hNs : N ≤ 1048576) : ∀ (rest P : List Obj) (fl : Bool) (k : Int), N = P.length + rest.length → (∀ x ∈ rest, x.links.length ≤ 1048576) → 0 ≤ k → k + marksO rest ≤ 9000000 →
    Ev pr (.loop (lq pr 53 0) (at_ [(0, .vec 0 N 2 0 N), (1, i64 k), (5, i64 P.length)] [.vec fl 2 ((P ++ rest).map Obj.cc)] 1))
      (.exit 0 (at_ [(1, i64 (k + marksO rest))] [.vec fl 2 ((P ++ markedO k rest).map Obj.cc)] 1))
  | [], P, fl, k, hN, hx, h0, h1 => by
    let t1 : Tp pr := .b (show (decide ((↑P.length : Int) < (↑N : Int))) = false by simp [*])
    exact .tpe [.i (rfl : ((↑N : Int)) = _), t1] (Out.exit (0 : Nat) (at_ [((1 : Nat), V.t (T.int IntKind.i64 k))] [Ob.vec fl (2 : Nat) (List.map Obj.cc (P ++ []))] (1 : Nat))) (by kernel_rfl) ((congrArg (fun x => Out.exit (0 : Nat) (at_ [((1 : Nat), V.t (T.int IntKind.i64 x))] [Ob.vec fl (2 : Nat) (List.map Obj.cc (P ++ []))] (1 : Nat))) (show (k) = (k + (0 : Int)) by simp [markedO, marksO])).trans (congrArg (fun x => Out.exit (0 : Nat) (at_ [((1 : Nat), V.t (T.int IntKind.i64 (k + (0 : Int))))] [Ob.vec fl (2 : Nat) x] (1 : Nat))) (show (List.map Obj.cc (P ++ [])) = (List.map Obj.cc (P ++ markedO k [])) by simp [markedO, marksO])))
  | x :: rest, P, fl, k, hN, hx, h0, h1 => by
    have hm := marksO_nonneg rest
    simp [marksO] at h1 hN
    have hr := markLinks_ev fl P rest ⟨k, x.links⟩ N (by omega) (k + 1) (by omega) (by simp; omega) (hx x (by simp))
    have ih := markObjectL_ev N hNs rest (P ++ [⟨k, markI (k + 1) x.links.length⟩]) fl (k + 1 + x.links.length) (by simp; omega) (fun y hy => hx y (by simp [hy])) (by omega) (by omega)
    let t1 : Tp pr := .b (show (decide ((↑P.length : Int) < (↑N : Int))) = true by (simp; omega))
    let t2 : Tp pr := .m (show (decide ((0 : Int) ≤ (↑P.length : Int) ∧ (↑P.length : Int).toNat < N)) = true by simp [*])
    let t3 : Tp pr := .c (show ((0 : Nat) + (↑P.length : Int).toNat : Nat) = P.length by omega)
    let t4 : Tp pr := .m (show (decide ((List.map Obj.cc (P ++ x :: rest)).length = N)) = true by simp [*])
    let t5 : Tp pr := .g .crow (show ((List.map Obj.cc (P ++ x :: rest))[P.length]?) = some (x.cc) by simp)
    let t6 : Tp pr := .m (show (decide ((List.map Obj.cc (P ++ x :: rest)).length = N)) = true by simp [*])
    let t7 : Tp pr := .g .crow (show ((List.map Obj.cc (P ++ x :: rest))[P.length]?) = some (x.cc) by simp)
    let t8 : Tp pr := .n .crows (show ((List.map Obj.cc (P ++ x :: rest)).set P.length [C.t (T.int IntKind.i64 k), C.row (1 : Nat) (List.map intt x.links)]) = List.map Obj.cc P ++ [C.t (T.int IntKind.i64 k), C.row (1 : Nat) (List.map intt x.links)] :: List.map Obj.cc rest by simp)
    let t9 : Tp pr := .i (wrap_i64 (a := k + (1 : Int)) (by omega) (by omega))
    let t10 : Tp pr := .m (show (decide ((0 : Int) ≤ (↑P.length : Int) ∧ (↑P.length : Int).toNat < N)) = true by simp [*])
    let t11 : Tp pr := .c (show ((0 : Nat) + (↑P.length : Int).toNat : Nat) = P.length by omega)
    let t12 : Tp pr := .m (show (decide (((List.map Obj.cc P).append ([C.t (T.int IntKind.i64 k), C.row (1 : Nat) (List.map intt x.links)] :: List.map Obj.cc rest)).length = N)) = true by simp [*])
    let t13 : Tp pr := .g .crow (show (((List.map Obj.cc P).append ([C.t (T.int IntKind.i64 k), C.row (1 : Nat) (List.map intt x.links)] :: List.map Obj.cc rest))[P.length]?) = some ([C.t (T.int IntKind.i64 k), C.row (1 : Nat) (List.map intt x.links)]) by simp)
    let t14 : Tp pr := .a (Ev.castq (((congrArg (fun x_1 => Q.call (27 : FuncId) [V.row (0 : Nat) N P.length (1 : Nat) (1 : Nat) x_1, i64 (k + (1 : Int))] [Ob.vec fl (2 : Nat) (List.map Obj.cc (P ++ Obj.mk k x.links :: rest))]) (show ((Obj.mk k x.links).links.length) = ((List.map intt x.links).length) by (simp [markedO, marksO, Obj.cc] <;> omega))).trans (congrArg (fun x_1 => Q.call (27 : FuncId) [V.row (0 : Nat) N P.length (1 : Nat) (1 : Nat) (List.map intt x.links).length, i64 (k + (1 : Int))] [Ob.vec x_1 (2 : Nat) (List.map Obj.cc (P ++ Obj.mk k x.links :: rest))]) (show (fl) = (fl && true) by (simp [markedO, marksO, Obj.cc] <;> omega)))).trans (congrArg (fun x_1 => Q.call (27 : FuncId) [V.row (0 : Nat) N P.length (1 : Nat) (1 : Nat) (List.map intt x.links).length, i64 (k + (1 : Int))] [Ob.vec (fl && true) (2 : Nat) x_1]) (show (List.map Obj.cc (P ++ Obj.mk k x.links :: rest)) = ((List.map Obj.cc P).append ([C.t (T.int IntKind.i64 k), C.row (1 : Nat) (List.map intt x.links)] :: List.map Obj.cc rest)) by (simp [markedO, marksO, Obj.cc] <;> omega)))) (hr))
    let t15 : Tp pr := .i (wrap_i64 (a := (↑P.length : Int) + (1 : Int)) (by omega) (by omega))
    let t16 : Tp pr := .a (Ev.castq ((congrArg (fun x_1 => Q.loop (lq pr (53 : FuncId) (0 : Nat)) (at_ [((0 : Nat), V.vec (0 : Nat) N (2 : Nat) (0 : Nat) N), ((1 : Nat), i64 (k + (1 : Int) + (↑x.links.length : Int))), ((5 : Nat), i64 x_1)] [Ob.vec fl (2 : Nat) (List.map Obj.cc (P ++ [Obj.mk k (markI (k + (1 : Int)) x.links.length)] ++ rest))] (1 : Nat))) (show ((↑(P ++ [Obj.mk k (markI (k + (1 : Int)) x.links.length)]).length : Int)) = ((↑P.length : Int) + (1 : Int)) by (simp [markedO, marksO, Obj.cc] <;> omega))).trans (congrArg (fun x_1 => Q.loop (lq pr (53 : FuncId) (0 : Nat)) (at_ [((0 : Nat), V.vec (0 : Nat) N (2 : Nat) (0 : Nat) N), ((1 : Nat), i64 (k + (1 : Int) + (↑x.links.length : Int))), ((5 : Nat), i64 ((↑P.length : Int) + (1 : Int)))] [Ob.vec fl (2 : Nat) x_1] (1 : Nat))) (show (List.map Obj.cc (P ++ [Obj.mk k (markI (k + (1 : Int)) x.links.length)] ++ rest)) = (List.map Obj.cc (P ++ Obj.mk (Obj.mk k x.links).mark (markI (k + (1 : Int)) (Obj.mk k x.links).links.length) :: rest)) by (simp [markedO, marksO, Obj.cc] <;> omega)))) (ih))
    exact .tpe [.i (rfl : ((↑N : Int)) = _), t1, t2, t3, t4, t5, t6, t7, t8, t9, t10, t11, t12, t13, t14, t15, t16] (Out.exit (0 : Nat) (at_ [((1 : Nat), V.t (T.int IntKind.i64 (k + (1 : Int) + (↑x.links.length : Int) + marksO rest)))] [Ob.vec fl (2 : Nat) (List.map Obj.cc (P ++ [Obj.mk k (markI (k + (1 : Int)) x.links.length)] ++ markedO (k + (1 : Int) + (↑x.links.length : Int)) rest))] (1 : Nat))) (by kernel_rfl) ((congrArg (fun x_1 => Out.exit (0 : Nat) (at_ [((1 : Nat), V.t (T.int IntKind.i64 x_1))] [Ob.vec fl (2 : Nat) (List.map Obj.cc (P ++ [Obj.mk k (markI (k + (1 : Int)) x.links.length)] ++ markedO (k + (1 : Int) + (↑x.links.length : Int)) rest))] (1 : Nat))) (show (k + (1 : Int) + (↑x.links.length : Int) + marksO rest) = (k + marksO (x :: rest)) by (simp [markedO, marksO, Obj.cc] <;> omega))).trans (congrArg (fun x_1 => Out.exit (0 : Nat) (at_ [((1 : Nat), V.t (T.int IntKind.i64 (k + marksO (x :: rest))))] [Ob.vec fl (2 : Nat) x_1] (1 : Nat))) (show (List.map Obj.cc (P ++ [Obj.mk k (markI (k + (1 : Int)) x.links.length)] ++ markedO (k + (1 : Int) + (↑x.links.length : Int)) rest)) = (List.map Obj.cc (P ++ markedO k (x :: rest))) by (simp [markedO, marksO, Obj.cc] <;> omega))))
theorem markObjectS_ev (l : List Obj) (fl : Bool) (h : l.length ≤ 1048576) (hx : ∀ x ∈ l, x.links.length ≤ 1048576) (k : Int) (h0 : 0 ≤ k) (h1 : k + marksO l ≤ 9000000) :
    Ev pr (.call 53 [.vec 0 l.length 2 0 l.length, i64 k] [.vec fl 2 (l.map Obj.cc)]) (.val (i64 (k + marksO l)) [.vec fl 2 ((markedO k l).map Obj.cc)]) := by
  have := markObjectL_ev l.length h l [] fl k (by simp) hx h0 h1
  exact .tp [.a (this)] (by kernel_rfl)
theorem markHeap_ev (h : Hp) (fl : Bool) (g1 : h.objects.length ≤ 1048576) (g2 : ∀ x ∈ h.objects, x.links.length ≤ 1048576) (g3 : h.roots.length ≤ 1048576) (k : Int) (h0 : 0 ≤ k) (h1 : k ≤ 10) (hm : marksO h.objects ≤ 1048576) :
    Ev pr (.call 19 [.agg [.vec 0 h.objects.length 2 0 h.objects.length, .vec 1 h.roots.length 1 0 h.roots.length], i64 k] [.vec fl 2 (h.objects.map Obj.cc), .vec true 1 (ints h.roots)])
      (.val (i64 (k + marksO h.objects + h.roots.length)) [.vec fl 2 ((markedO k h.objects).map Obj.cc), .vec true 1 (ints (markI (k + marksO h.objects) h.roots.length))]) := by
  have hmn := marksO_nonneg h.objects
  have e1 := markObjectS_ev h.objects fl g1 g2 k h0 (by omega)
  have e2 := markIntS_ev h.roots (k + marksO h.objects) (by omega) (by omega) g3
  exact .tp [.a (e1), .a (e2)] (by kernel_rfl)
end Go.Ev

/- Heaps: which are good. -/
namespace Go.Ev
set_option linter.unusedVariables false
set_option linter.unusedSimpArgs false
open Go.Proofs
set_option maxRecDepth 100000
set_option linter.unusedVariables false
set_option maxHeartbeats 2000000
theorem within_ev (x lo hi : Int) : Ev pr (.call 49 [i64 x, i64 lo, i64 hi] []) (.val (bl (decide (x ≥ lo) && decide (x ≤ hi))) []) := by
  by_cases hc0 : lo ≤ x
  · let t0 : Tp pr := .b (show (decide (x ≥ lo)) = true by simpa using hc0)
    exact .tpe [t0] (Out.val (V.t (T.bool (decide (x ≤ hi)))) []) (by kernel_rfl) (congrArg (fun x => Out.val (V.t (T.bool x)) []) (show (decide (x ≤ hi)) = (decide (x ≥ lo) && decide (x ≤ hi)) by simp [*]))
  · let t0 : Tp pr := .b (show (decide (x ≥ lo)) = false by simpa using hc0)
    exact .tpe [t0] (Out.val (V.t (T.bool false)) []) (by kernel_rfl) (congrArg (fun x => Out.val (V.t (T.bool x)) []) (show (false) = (decide (x ≥ lo) && decide (x ≤ hi)) by simp [*]))
theorem l1In_ev (x lo hi : Int) : Ev pr (.call 65 [i64 x, i64 lo, i64 hi] []) (.val (bl (decide (x ≥ lo) && decide (x ≤ hi))) []) := by
  by_cases hc0 : lo ≤ x
  · let t0 : Tp pr := .b (show (decide (x ≥ lo)) = true by simpa using hc0)
    exact .tpe [t0] (Out.val (V.t (T.bool (decide (x ≤ hi)))) []) (by kernel_rfl) (congrArg (fun x => Out.val (V.t (T.bool x)) []) (show (decide (x ≤ hi)) = (decide (x ≥ lo) && decide (x ≤ hi)) by simp [*]))
  · let t0 : Tp pr := .b (show (decide (x ≥ lo)) = false by simpa using hc0)
    exact .tpe [t0] (Out.val (V.t (T.bool false)) []) (by kernel_rfl) (congrArg (fun x => Out.val (V.t (T.bool x)) []) (show (false) = (decide (x ≥ lo) && decide (x ≤ hi)) by simp [*]))
abbrev mnT (many : Nat) : T := .ptr [.int .i64 many] 0
theorem linkF_ev (k : Int) (many : Nat) (h : many ≤ 1048576) : Ev pr (.call 85 [i64 k, .t (mnT many)] []) (.val (bl (!linkOk many k)) []) := by
  let t0 : Tp pr := .i (wrap_i64 (a := (↑many : Int) - (1 : Int)) (by omega) (by omega))
  let t1 : Tp pr := .a (within_ev (k) ((-1 : Int)) ((↑many : Int) - (1 : Int)))
  exact .tp [t0, t1] (by kernel_rfl)
theorem idxLk_ev (l : List Int) (many : Nat) (hm : many ≤ 1048576) (hl : l.length ≤ 1048576) : ∀ (rest done : List Int) (i : Int), l = done ++ rest → i = done.length →
    Ev pr (.loop (lq pr 91 0) (at_ [(0, isq l), (1, .t (.clo 85 [mnT many])), (7, i64 l.length), (8, i64 i)] [] 0))
      (if 0 ≤ idxFrom (fun x => !linkOk many x) i rest then .ret (at_ [(4, i64 (idxFrom (fun x => !linkOk many x) i rest))] [] 0) else .exit 0 (at_ [] [] 0))
  | [], done, i, h, hi => by
    have hll : (l.length : Int) = done.length := by simp [h]
    let t0 : Tp pr := .b (show (decide (i < (↑l.length : Int))) = false by (simp; omega))
    exact .tp [t0] (by kernel_rfl)
  | x :: rest, done, i, h, hi => by
    have hll : (l.length : Int) = done.length + 1 + rest.length := by simp [h]; omega
    have hg : lkp (l.map intt) i = some [T.int .i64 x] := by subst hi; subst h; simp [intt]
    have ih := idxLk_ev l many hm hl rest (done ++ [x]) (i + 1) (by simp [h]) (by simp [hi])
    have hi0 : 0 ≤ i := by omega
    have hx := linkF_ev x many hm
    cases hb : linkOk many x with
    | false => rw [hb] at hx; (
      let t0 : Tp pr := .b (show (decide (i < (↑l.length : Int))) = true by (simp; omega))
      let t1 : Tp pr := .g .row (show (lkp (List.map intt l) i) = some ([T.int IntKind.i64 x]) from hg)
      exact .tpe [t0, t1, .a (hx), .b (rfl : true = true)] (Out.ret (at_ [((4 : Nat), V.t (T.int IntKind.i64 i))] [] (0 : Nat))) (by kernel_rfl) ((rfl).trans (show (Out.ret (at_ [((4 : Nat), V.t (T.int IntKind.i64 i))] [] (0 : Nat))) = if (0 : Int) ≤ idxFrom (fun x => !linkOk many x) i (x :: rest) then Out.ret (at_ [((4 : Nat), i64 (idxFrom (fun x => !linkOk many x) i (x :: rest)))] [] (0 : Nat)) else Out.exit (0 : Nat) (at_ [] [] (0 : Nat)) by simp [idxFrom, hb, hi0])))
    | true =>
      rw [hb] at hx
      have hI : idxFrom (fun x => !linkOk many x) i (x :: rest) = idxFrom (fun x => !linkOk many x) (i + 1) rest := by simp [idxFrom, hb]
      rw [hI]
      by_cases h0 : 0 ≤ idxFrom (fun x => !linkOk many x) (i + 1) rest
      · rw [if_pos h0] at ih ⊢; (
        let t0 : Tp pr := .b (show (decide (i < (↑l.length : Int))) = true by (simp; omega))
        let t1 : Tp pr := .g .row (show (lkp (List.map intt l) i) = some ([T.int IntKind.i64 x]) from hg)
        let t4 : Tp pr := .i (wrap_i64 (a := i + (1 : Int)) (by omega) (by omega))
        exact .tp [t0, t1, .a (hx), .b (rfl : false = false), t4, .a (ih)] (by kernel_rfl))
      · rw [if_neg h0] at ih ⊢; (
        let t0 : Tp pr := .b (show (decide (i < (↑l.length : Int))) = true by (simp; omega))
        let t1 : Tp pr := .g .row (show (lkp (List.map intt l) i) = some ([T.int IntKind.i64 x]) from hg)
        let t4 : Tp pr := .i (wrap_i64 (a := i + (1 : Int)) (by omega) (by omega))
        exact .tp [t0, t1, .a (hx), .b (rfl : false = false), t4, .a (ih)] (by kernel_rfl))
theorem idxLks_ev (l : List Int) (many : Nat) (hm : many ≤ 1048576) (hl : l.length ≤ 1048576) : Ev pr (.call 91 [isq l, .t (.clo 85 [mnT many])] []) (.val (i64 (idxFrom (fun x => !linkOk many x) 0 l)) []) := by
  have h := idxLk_ev l many hm hl l [] 0 rfl rfl
  have h2 := idxFrom_neg (fun x => !linkOk many x) l 0 (Int.le_refl _)
  by_cases h0 : 0 ≤ idxFrom (fun x => !linkOk many x) 0 l
  · rw [if_pos h0] at h; (
    let t0 : Tp pr := .i (show ((↑(List.map intt l).length : Int) : Int) = (↑l.length : Int) by simp)
    exact .tp [t0, .a (h)] (by kernel_rfl))
  · rw [if_neg h0] at h; rw [h2 h0]; (
    let t0 : Tp pr := .i (show ((↑(List.map intt l).length : Int) : Int) = (↑l.length : Int) by simp)
    exact .tp [t0, .a (h)] (by kernel_rfl))
theorem anyLk_ev (l : List Int) (many : Nat) (hm : many ≤ 1048576) (hl : l.length ≤ 1048576) : Ev pr (.call 84 [isq l, .t (.clo 85 [mnT many])] []) (.val (bl (!l.all (linkOk many))) []) := by
  have e : (l.any fun x => !linkOk many x) = !l.all (linkOk many) := by simp [List.any_eq_not_all_not]
  rw [← e, ← idxFrom_any (fun x => !linkOk many x) l 0 (by omega)]
  let t0 : Tp pr := .a (idxLks_ev (l) (many) (by assumption) (by assumption))
  exact .tp [t0] (by kernel_rfl)
theorem linksOk_ev (l : List Int) (many most : Nat) (hm : many ≤ 1048576) (hm2 : most ≤ 100) (hl : l.length ≤ 1048576) : Ev pr (.call 73 [isq l, i64 many, i64 most] []) (.val (bl (decide (l.length ≤ most) && l.all (linkOk many))) []) := by
  have h := anyLk_ev l many hm hl
  let t0 : Tp pr := .i (show ((↑(List.map intt l).length : Int) : Int) = (↑l.length : Int) by simp)
  by_cases hc1 : l.length ≤ most
  · let t1 : Tp pr := .b (show (decide ((↑l.length : Int) ≤ (↑most : Int))) = true by simpa using hc1)
    exact .tpe [t0, t1, .a (h), .m (rfl : true = true)] (Out.val (V.t (T.bool !!l.all (linkOk many))) []) (by kernel_rfl) (congrArg (fun x => Out.val (V.t (T.bool x)) []) (show (!!l.all (linkOk many)) = (decide (l.length ≤ most) && l.all (linkOk many)) by (simp [*] <;> omega)))
  · let t1 : Tp pr := .b (show (decide ((↑l.length : Int) ≤ (↑most : Int))) = false by simpa using hc1)
    exact .tpe [t0, t1] (Out.val (V.t (T.bool false)) []) (by kernel_rfl) (congrArg (fun x => Out.val (V.t (T.bool x)) []) (show (false) = (decide (l.length ≤ most) && l.all (linkOk many)) by (simp [*] <;> omega)))
theorem goodF_ev (o : Obj) (many : Nat) (hm : many ≤ 1048576) (hl : o.links.length ≤ 1048576) : Ev pr (.call 75 [vs o.ce, .t (mnT many)] []) (.val (bl (!objOk many o)) []) := by
  have h := linksOk_ev o.links many 4 hm (by omega) hl
  unfold objOk
  let t0 : Tp pr := .a (within_ev (o.mark) ((0 : Int)) ((1000 : Int)))
  by_cases hc1 : o.mark < (0 : Int) ∨ (1000 : Int) < o.mark
  · let t1 : Tp pr := .b (show (!(decide (o.mark ≥ (0 : Int)) && decide (o.mark ≤ (1000 : Int)))) = true by simpa using hc1)
    exact .tpe [t0, t1] (Out.val (V.t (T.bool true)) []) (by kernel_rfl) (congrArg (fun x => Out.val (V.t (T.bool x)) []) (show (true) = (!(decide (o.mark ≥ (0 : Int)) && decide (o.mark ≤ (1000 : Int)) && (decide (o.links.length ≤ (4 : Nat)) && o.links.all (linkOk many)))) by simp [*]))
  · let t1 : Tp pr := .b (show (!(decide (o.mark ≥ (0 : Int)) && decide (o.mark ≤ (1000 : Int)))) = false by simpa using hc1)
    exact .tpe [t0, t1, .a (h)] (Out.val (V.t (T.bool !(decide (o.links.length ≤ (4 : Nat)) && o.links.all (linkOk many)))) []) (by kernel_rfl) (congrArg (fun x => Out.val (V.t (T.bool x)) []) (show (!(decide (o.links.length ≤ (4 : Nat)) && o.links.all (linkOk many))) = (!(decide (o.mark ≥ (0 : Int)) && decide (o.mark ≤ (1000 : Int)) && (decide (o.links.length ≤ (4 : Nat)) && o.links.all (linkOk many)))) by simp [*]))
theorem idxOb_ev (l : List Obj) (many : Nat) (hm : many ≤ 1048576) (hl : l.length ≤ 1048576) (hs : ∀ x ∈ l, x.links.length ≤ 1048576) : ∀ (rest done : List Obj) (i : Int), l = done ++ rest → i = done.length →
    Ev pr (.loop (lq pr 86 0) (at_ [(0, osq l), (1, .t (.clo 75 [mnT many])), (7, i64 l.length), (8, i64 i)] [] 0))
      (if 0 ≤ idxFrom (fun x => !objOk many x) i rest then .ret (at_ [(4, i64 (idxFrom (fun x => !objOk many x) i rest))] [] 0) else .exit 0 (at_ [] [] 0))
  | [], done, i, h, hi => by
    have hll : (l.length : Int) = done.length := by simp [h]
    let t0 : Tp pr := .b (show (decide (i < (↑l.length : Int))) = false by (simp; omega))
    exact .tp [t0] (by kernel_rfl)
  | x :: rest, done, i, h, hi => by
    have hll : (l.length : Int) = done.length + 1 + rest.length := by simp [h]; omega
    have hg : lkp (l.map Obj.ce) i = some x.ce := by subst hi; subst h; simp
    have ih := idxOb_ev l many hm hl hs rest (done ++ [x]) (i + 1) (by simp [h]) (by simp [hi])
    have hi0 : 0 ≤ i := by omega
    have hx := goodF_ev x many hm (hs x (by simp [h]))
    cases hb : objOk many x with
    | false => rw [hb] at hx; (
      let t0 : Tp pr := .b (show (decide (i < (↑l.length : Int))) = true by (simp; omega))
      let t1 : Tp pr := .g .row (show (lkp (List.map Obj.ce l) i) = some (x.ce) from hg)
      exact .tpe [t0, t1, .a (hx), .b (rfl : true = true)] (Out.ret (at_ [((4 : Nat), V.t (T.int IntKind.i64 i))] [] (0 : Nat))) (by kernel_rfl) ((rfl).trans (show (Out.ret (at_ [((4 : Nat), V.t (T.int IntKind.i64 i))] [] (0 : Nat))) = if (0 : Int) ≤ idxFrom (fun x => !objOk many x) i (x :: rest) then Out.ret (at_ [((4 : Nat), i64 (idxFrom (fun x => !objOk many x) i (x :: rest)))] [] (0 : Nat)) else Out.exit (0 : Nat) (at_ [] [] (0 : Nat)) by simp [idxFrom, hb, hi0])))
    | true =>
      rw [hb] at hx
      have hI : idxFrom (fun x => !objOk many x) i (x :: rest) = idxFrom (fun x => !objOk many x) (i + 1) rest := by simp [idxFrom, hb]
      rw [hI]
      by_cases h0 : 0 ≤ idxFrom (fun x => !objOk many x) (i + 1) rest
      · rw [if_pos h0] at ih ⊢; (
        let t0 : Tp pr := .b (show (decide (i < (↑l.length : Int))) = true by (simp; omega))
        let t1 : Tp pr := .g .row (show (lkp (List.map Obj.ce l) i) = some (x.ce) from hg)
        let t4 : Tp pr := .i (wrap_i64 (a := i + (1 : Int)) (by omega) (by omega))
        exact .tp [t0, t1, .a (hx), .b (rfl : false = false), t4, .a (ih)] (by kernel_rfl))
      · rw [if_neg h0] at ih ⊢; (
        let t0 : Tp pr := .b (show (decide (i < (↑l.length : Int))) = true by (simp; omega))
        let t1 : Tp pr := .g .row (show (lkp (List.map Obj.ce l) i) = some (x.ce) from hg)
        let t4 : Tp pr := .i (wrap_i64 (a := i + (1 : Int)) (by omega) (by omega))
        exact .tp [t0, t1, .a (hx), .b (rfl : false = false), t4, .a (ih)] (by kernel_rfl))
theorem idxObs_ev (l : List Obj) (many : Nat) (hm : many ≤ 1048576) (hl : l.length ≤ 1048576) (hs : ∀ x ∈ l, x.links.length ≤ 1048576) : Ev pr (.call 86 [osq l, .t (.clo 75 [mnT many])] []) (.val (i64 (idxFrom (fun x => !objOk many x) 0 l)) []) := by
  have h := idxOb_ev l many hm hl hs l [] 0 rfl rfl
  have h2 := idxFrom_neg (fun x => !objOk many x) l 0 (Int.le_refl _)
  by_cases h0 : 0 ≤ idxFrom (fun x => !objOk many x) 0 l
  · rw [if_pos h0] at h; (
    let t0 : Tp pr := .i (show ((↑(List.map Obj.ce l).length : Int) : Int) = (↑l.length : Int) by simp)
    exact .tp [t0, .a (h)] (by kernel_rfl))
  · rw [if_neg h0] at h; rw [h2 h0]; (
    let t0 : Tp pr := .i (show ((↑(List.map Obj.ce l).length : Int) : Int) = (↑l.length : Int) by simp)
    exact .tp [t0, .a (h)] (by kernel_rfl))
theorem anyOb_ev (l : List Obj) (many : Nat) (hm : many ≤ 1048576) (hl : l.length ≤ 1048576) (hs : ∀ x ∈ l, x.links.length ≤ 1048576) : Ev pr (.call 74 [osq l, .t (.clo 75 [mnT many])] []) (.val (bl (!l.all (objOk many))) []) := by
  have e : (l.any fun x => !objOk many x) = !l.all (objOk many) := by simp [List.any_eq_not_all_not]
  rw [← e, ← idxFrom_any (fun x => !objOk many x) l 0 (by omega)]
  let t0 : Tp pr := .a (idxObs_ev (l) (many) (by assumption) (by assumption) (by assumption))
  exact .tp [t0] (by kernel_rfl)
theorem GoodHeapI_ev (h : Hp) (h1 : h.objects.length ≤ 1048576) (h2 : ∀ x ∈ h.objects, x.links.length ≤ 1048576) (h3 : h.roots.length ≤ 1048576) : Ev pr (.call 48 [vs h.ce] []) (.val (bl (goodHeap h)) []) := by
  have g1 := anyOb_ev h.objects h.objects.length h1 h1 h2
  have g2 := linksOk_ev h.roots h.objects.length 10 h1 (by omega) h3
  unfold goodHeap
  cases hr : (decide (h.roots.length ≤ 10) && h.roots.all (linkOk h.objects.length)) with
  | false => rw [hr] at g2; (
    let t0 : Tp pr := .i (show ((↑(List.map Obj.ce h.objects).length : Int) : Int) = (↑h.objects.length : Int) by simp)
    by_cases hc1 : (40 : Int) < (↑h.objects.length : Int)
    · let t1 : Tp pr := .b (show (decide ((↑h.objects.length : Int) > (40 : Int))) = true by simpa using hc1)
      exact .tpe [t0, t1, .b (rfl : true = true)] (Out.val (V.t (T.bool false)) []) (by kernel_rfl) (congrArg (fun x => Out.val (V.t (T.bool x)) []) (show (false) = (decide (h.objects.length ≤ (40 : Nat)) && false && h.objects.all (objOk h.objects.length)) by simp))
    · let t1 : Tp pr := .b (show (decide ((↑h.objects.length : Int) > (40 : Int))) = false by simpa using hc1)
      exact .tpe [t0, t1, .a (g2), .b (rfl : true = true)] (Out.val (V.t (T.bool false)) []) (by kernel_rfl) (congrArg (fun x => Out.val (V.t (T.bool x)) []) (show (false) = (decide (h.objects.length ≤ (40 : Nat)) && false && h.objects.all (objOk h.objects.length)) by simp)))
  | true => rw [hr] at g2; (
    let t0 : Tp pr := .i (show ((↑(List.map Obj.ce h.objects).length : Int) : Int) = (↑h.objects.length : Int) by simp)
    by_cases hc1 : (40 : Int) < (↑h.objects.length : Int)
    · let t1 : Tp pr := .b (show (decide ((↑h.objects.length : Int) > (40 : Int))) = true by simpa using hc1)
      exact .tpe [t0, t1, .b (rfl : true = true)] (Out.val (V.t (T.bool false)) []) (by kernel_rfl) (congrArg (fun x => Out.val (V.t (T.bool x)) []) (show (false) = (decide (h.objects.length ≤ (40 : Nat)) && true && h.objects.all (objOk h.objects.length)) by (simp <;> omega)))
    · let t1 : Tp pr := .b (show (decide ((↑h.objects.length : Int) > (40 : Int))) = false by simpa using hc1)
      exact .tpe [t0, t1, .a (g2), .b (rfl : false = false), .a (g1), .m (rfl : true = true)] (Out.val (V.t (T.bool !!h.objects.all (objOk h.objects.length))) []) (by kernel_rfl) (congrArg (fun x => Out.val (V.t (T.bool x)) []) (show (!!h.objects.all (objOk h.objects.length)) = (decide (h.objects.length ≤ (40 : Nat)) && true && h.objects.all (objOk h.objects.length)) by (simp <;> omega))))
theorem l15Object_ev (k : Int) (many : Nat) (h : many ≤ 1048576) : Ev pr (.call 71 [i64 k, i64 many] []) (.val (bl (linkOk many k)) []) := by
  by_cases hc0 : (-1 : Int) ≤ k
  · let t0 : Tp pr := .b (show (decide (k ≥ (-1 : Int))) = true by simpa using hc0)
    exact .tpe [t0] (Out.val (V.t (T.bool (decide (k < (↑many : Int))))) []) (by kernel_rfl) (congrArg (fun x => Out.val (V.t (T.bool x)) []) (show (decide (k < (↑many : Int))) = (linkOk many k) by grind [linkOk]))
  · let t0 : Tp pr := .b (show (decide (k ≥ (-1 : Int))) = false by simpa using hc0)
    exact .tpe [t0] (Out.val (V.t (T.bool false)) []) (by kernel_rfl) (congrArg (fun x => Out.val (V.t (T.bool x)) []) (show (false) = (linkOk many k) by grind [linkOk]))
def gB (h : Hp) : List Ob := [.box [osq h.objects, isq h.roots]]
theorem goodSL_ev (h : Hp) (d : Int) (l : List Int) (h1 : h.objects.length ≤ 1048576) (hl : l.length ≤ 1048576) : ∀ (rest done : List Int), l = done ++ rest →
    Ev pr (.loop (lq pr 45 1) (at_ [(1, .ptr 0 1 0 0), (10, osq h.objects), (11, i64 h.objects.length), (12, i64 d), (27, isq l), (28, i64 l.length), (29, i64 done.length)] (gB h) 0))
      (bif rest.all (linkOk h.objects.length) then .exit 2 (at_ [(1, .ptr 0 1 0 0), (10, osq h.objects), (11, i64 h.objects.length), (12, i64 d)] (gB h) 0) else .ret (at_ [(2, bl false)] [] 0))
  | [], done, he => by
    have hll : (l.length : Int) = done.length := by simp [he]
    let t0 : Tp pr := .b (show (decide ((↑done.length : Int) < (↑l.length : Int))) = false by (simp; omega))
    exact .tp [t0] (by kernel_rfl)
  | x :: rest, done, he => by
    have hll : (l.length : Int) = done.length + 1 + rest.length := by simp [he]; omega
    have hg : lkp (l.map intt) (done.length : Int) = some [T.int .i64 x] := by subst he; simp [intt]
    have ih := goodSL_ev h d l h1 hl rest (done ++ [x]) (by simp [he])
    have hx := l15Object_ev x h.objects.length h1
    cases hb : linkOk h.objects.length x with
    | false =>
      rw [hb] at hx
      simp only [List.all_cons, hb, Bool.false_and]
      let t0 : Tp pr := .b (show (decide ((↑done.length : Int) < (↑l.length : Int))) = true by (simp; omega))
      let t1 : Tp pr := .g .row (show (lkp (List.map intt l) (↑done.length : Int)) = some ([T.int IntKind.i64 x]) from hg)
      let t2 : Tp pr := .i (show ((↑(List.map Obj.ce h.objects).length : Int) : Int) = (↑h.objects.length : Int) by simp)
      exact .tp [t0, t1, t2, .a (hx), .b (rfl : true = true)] (by kernel_rfl)
    | true =>
      rw [hb] at hx
      simp only [List.all_cons, hb, Bool.true_and]
      cases hr : rest.all (linkOk h.objects.length) with
      | true => rw [hr] at ih; (
        let t0 : Tp pr := .b (show (decide ((↑done.length : Int) < (↑l.length : Int))) = true by (simp; omega))
        let t1 : Tp pr := .g .row (show (lkp (List.map intt l) (↑done.length : Int)) = some ([T.int IntKind.i64 x]) from hg)
        let t2 : Tp pr := .i (show ((↑(List.map Obj.ce h.objects).length : Int) : Int) = (↑h.objects.length : Int) by simp)
        let t5 : Tp pr := .i (wrap_i64 (a := (↑done.length : Int) + (1 : Int)) (by omega) (by omega))
        let t6 : Tp pr := .a (Ev.castq (congrArg (fun x => Q.loop (lq pr (45 : FuncId) (1 : Nat)) (at_ [((1 : Nat), V.ptr (0 : Nat) (1 : Nat) (0 : Nat) (0 : Nat)), ((10 : Nat), osq h.objects), ((11 : Nat), i64 (↑h.objects.length : Int)), ((12 : Nat), i64 d), ((27 : Nat), isq l), ((28 : Nat), i64 (↑l.length : Int)), ((29 : Nat), i64 x)] (gB h) (0 : Nat))) (show ((↑(done ++ [x]).length : Int)) = ((↑done.length : Int) + (1 : Int)) by simp)) (ih))
        exact .tp [t0, t1, t2, .a (hx), .b (rfl : false = false), t5, t6] (by kernel_rfl))
      | false => rw [hr] at ih; (
        let t0 : Tp pr := .b (show (decide ((↑done.length : Int) < (↑l.length : Int))) = true by (simp; omega))
        let t1 : Tp pr := .g .row (show (lkp (List.map intt l) (↑done.length : Int)) = some ([T.int IntKind.i64 x]) from hg)
        let t2 : Tp pr := .i (show ((↑(List.map Obj.ce h.objects).length : Int) : Int) = (↑h.objects.length : Int) by simp)
        let t5 : Tp pr := .i (wrap_i64 (a := (↑done.length : Int) + (1 : Int)) (by omega) (by omega))
        let t6 : Tp pr := .a (Ev.castq (congrArg (fun x => Q.loop (lq pr (45 : FuncId) (1 : Nat)) (at_ [((1 : Nat), V.ptr (0 : Nat) (1 : Nat) (0 : Nat) (0 : Nat)), ((10 : Nat), osq h.objects), ((11 : Nat), i64 (↑h.objects.length : Int)), ((12 : Nat), i64 d), ((27 : Nat), isq l), ((28 : Nat), i64 (↑l.length : Int)), ((29 : Nat), i64 x)] (gB h) (0 : Nat))) (show ((↑(done ++ [x]).length : Int)) = ((↑done.length : Int) + (1 : Int)) by simp)) (ih))
        exact .tp [t0, t1, t2, .a (hx), .b (rfl : false = false), t5, t6] (by kernel_rfl))
theorem goodSO_ev (h : Hp) (h1 : h.objects.length ≤ 1048576) (h2 : ∀ x ∈ h.objects, x.links.length ≤ 1048576) : ∀ (rest done : List Obj), h.objects = done ++ rest →
    Ev pr (.loop (lq pr 45 0) (at_ [(1, .ptr 0 1 0 0), (10, osq h.objects), (11, i64 h.objects.length), (12, i64 done.length)] (gB h) 0))
      (bif rest.all (objOk h.objects.length) then .exit 0 (at_ [(1, .ptr 0 1 0 0)] (gB h) 0) else .ret (at_ [(2, bl false)] [] 0))
  | [], done, he => by
    have hll : (h.objects.length : Int) = done.length := by simp [he]
    let t0 : Tp pr := .b (show (decide ((↑done.length : Int) < (↑h.objects.length : Int))) = false by (simp; omega))
    exact .tp [t0] (by kernel_rfl)
  | x :: rest, done, he => by
    have hll : (h.objects.length : Int) = done.length + 1 + rest.length := by simp [he]; omega
    have hg : lkp (h.objects.map Obj.ce) (done.length : Int) = some x.ce := by rw [he]; simp
    have ih := goodSO_ev h h1 h2 rest (done ++ [x]) (by simp [he])
    have hxl := h2 x (by simp [he])
    have hx := goodSL_ev h done.length x.links h1 hxl x.links [] rfl
    have e : objOk h.objects.length x = ((decide (x.mark ≥ 0) && decide (x.mark ≤ 1000)) && (decide (x.links.length ≤ 4) && x.links.all (linkOk h.objects.length))) := rfl
    simp only [List.all_cons]
    by_cases hm : (decide (x.mark ≥ 0) && decide (x.mark ≤ 1000)) = true
    · by_cases hn : x.links.length ≤ 4
      · cases hk : x.links.all (linkOk h.objects.length) with
        | false =>
          rw [hk] at hx
          rw [show objOk h.objects.length x = false by rw [e, hk]; simp, Bool.false_and]
          let t0 : Tp pr := .b (show (decide ((↑done.length : Int) < (↑h.objects.length : Int))) = true by (simp; omega))
          let t1 : Tp pr := .g .row (show (lkp (List.map Obj.ce h.objects) (↑done.length : Int)) = some (x.ce) from hg)
          let t2 : Tp pr := .a (l1In_ev (x.mark) ((0 : Int)) ((1000 : Int)))
          let t3 : Tp pr := .b (show (!(decide (x.mark ≥ (0 : Int)) && decide (x.mark ≤ (1000 : Int)))) = false by simp [*])
          let t4 : Tp pr := .i (show ((↑(List.map intt x.links).length : Int) : Int) = (↑x.links.length : Int) by simp)
          let t5 : Tp pr := .b (show (decide ((↑x.links.length : Int) > (4 : Int))) = false by (simp; omega))
          let t6 : Tp pr := .i (show ((↑(List.map intt x.links).length : Int) : Int) = (↑x.links.length : Int) by simp)
          exact .tp [t0, t1, t2, t3, t4, t5, t6, .a (hx)] (by kernel_rfl)
        | true =>
          rw [hk] at hx
          rw [show objOk h.objects.length x = true by rw [e, hk, hm]; simp [hn], Bool.true_and]
          cases hr : rest.all (objOk h.objects.length) with
          | true => rw [hr] at ih; (
            let t0 : Tp pr := .b (show (decide ((↑done.length : Int) < (↑h.objects.length : Int))) = true by (simp; omega))
            let t1 : Tp pr := .g .row (show (lkp (List.map Obj.ce h.objects) (↑done.length : Int)) = some (x.ce) from hg)
            let t2 : Tp pr := .a (l1In_ev (x.mark) ((0 : Int)) ((1000 : Int)))
            let t3 : Tp pr := .b (show (!(decide (x.mark ≥ (0 : Int)) && decide (x.mark ≤ (1000 : Int)))) = false by simp [*])
            let t4 : Tp pr := .i (show ((↑(List.map intt x.links).length : Int) : Int) = (↑x.links.length : Int) by simp)
            let t5 : Tp pr := .b (show (decide ((↑x.links.length : Int) > (4 : Int))) = false by (simp; omega))
            let t6 : Tp pr := .i (show ((↑(List.map intt x.links).length : Int) : Int) = (↑x.links.length : Int) by simp)
            let t8 : Tp pr := .i (wrap_i64 (a := (↑done.length : Int) + (1 : Int)) (by omega) (by omega))
            let t9 : Tp pr := .a (Ev.castq (congrArg (fun x => Q.loop (lq pr (45 : FuncId) (0 : Nat)) (at_ [((1 : Nat), V.ptr (0 : Nat) (1 : Nat) (0 : Nat) (0 : Nat)), ((10 : Nat), osq h.objects), ((11 : Nat), i64 (↑h.objects.length : Int)), ((12 : Nat), i64 x)] (gB h) (0 : Nat))) (show ((↑(done ++ [x]).length : Int)) = ((↑done.length : Int) + (1 : Int)) by simp)) (ih))
            exact .tp [t0, t1, t2, t3, t4, t5, t6, .a (hx), t8, t9] (by kernel_rfl))
          | false => rw [hr] at ih; (
            let t0 : Tp pr := .b (show (decide ((↑done.length : Int) < (↑h.objects.length : Int))) = true by (simp; omega))
            let t1 : Tp pr := .g .row (show (lkp (List.map Obj.ce h.objects) (↑done.length : Int)) = some (x.ce) from hg)
            let t2 : Tp pr := .a (l1In_ev (x.mark) ((0 : Int)) ((1000 : Int)))
            let t3 : Tp pr := .b (show (!(decide (x.mark ≥ (0 : Int)) && decide (x.mark ≤ (1000 : Int)))) = false by simp [*])
            let t4 : Tp pr := .i (show ((↑(List.map intt x.links).length : Int) : Int) = (↑x.links.length : Int) by simp)
            let t5 : Tp pr := .b (show (decide ((↑x.links.length : Int) > (4 : Int))) = false by (simp; omega))
            let t6 : Tp pr := .i (show ((↑(List.map intt x.links).length : Int) : Int) = (↑x.links.length : Int) by simp)
            let t8 : Tp pr := .i (wrap_i64 (a := (↑done.length : Int) + (1 : Int)) (by omega) (by omega))
            let t9 : Tp pr := .a (Ev.castq (congrArg (fun x => Q.loop (lq pr (45 : FuncId) (0 : Nat)) (at_ [((1 : Nat), V.ptr (0 : Nat) (1 : Nat) (0 : Nat) (0 : Nat)), ((10 : Nat), osq h.objects), ((11 : Nat), i64 (↑h.objects.length : Int)), ((12 : Nat), i64 x)] (gB h) (0 : Nat))) (show ((↑(done ++ [x]).length : Int)) = ((↑done.length : Int) + (1 : Int)) by simp)) (ih))
            exact .tp [t0, t1, t2, t3, t4, t5, t6, .a (hx), t8, t9] (by kernel_rfl))
      · rw [show objOk h.objects.length x = false by rw [e]; simp [hn], Bool.false_and]
        let t0 : Tp pr := .b (show (decide ((↑done.length : Int) < (↑h.objects.length : Int))) = true by (simp; omega))
        let t1 : Tp pr := .g .row (show (lkp (List.map Obj.ce h.objects) (↑done.length : Int)) = some (x.ce) from hg)
        let t2 : Tp pr := .a (l1In_ev (x.mark) ((0 : Int)) ((1000 : Int)))
        let t3 : Tp pr := .b (show (!(decide (x.mark ≥ (0 : Int)) && decide (x.mark ≤ (1000 : Int)))) = false by simp [*])
        let t4 : Tp pr := .i (show ((↑(List.map intt x.links).length : Int) : Int) = (↑x.links.length : Int) by simp)
        let t5 : Tp pr := .b (show (decide ((↑x.links.length : Int) > (4 : Int))) = true by (simp; omega))
        exact .tp [t0, t1, t2, t3, t4, t5] (by kernel_rfl)
    · have hm2 : (decide (x.mark ≥ 0) && decide (x.mark ≤ 1000)) = false := by simpa using hm
      rw [show objOk h.objects.length x = false by rw [e, hm2]; simp, Bool.false_and]
      let t0 : Tp pr := .b (show (decide ((↑done.length : Int) < (↑h.objects.length : Int))) = true by (simp; omega))
      let t1 : Tp pr := .g .row (show (lkp (List.map Obj.ce h.objects) (↑done.length : Int)) = some (x.ce) from hg)
      let t2 : Tp pr := .a (l1In_ev (x.mark) ((0 : Int)) ((1000 : Int)))
      let t3 : Tp pr := .b (show (!(decide (x.mark ≥ (0 : Int)) && decide (x.mark ≤ (1000 : Int)))) = true by simp [*])
      exact .tp [t0, t1, t2, t3, .b (rfl : true = true)] (by kernel_rfl)
end Go.Ev
