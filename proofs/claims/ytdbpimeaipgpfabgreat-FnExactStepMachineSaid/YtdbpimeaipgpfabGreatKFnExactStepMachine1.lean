import Derived.Orders
import Derived.Laws.CopyRow
import Derived.Laws.Append
import Derived.Laws.AppendOwn
import Derived.Laws.Rows
import Derived.Below
import Derived.Lib.SliceRun
import Derived.Laws.Entries
import Derived.WalkKit
import Derived.Laws.BytesArg
import Derived.Laws.IdiomStrings
import Derived.Laws.MakeOwn
import Derived.ChangeArms
import Derived.ChangeOld
import Derived.DataReads
import Derived.Sort.Grow
import Derived.KernelRfl
import Derived.Test.YtdbpimeaipgpfabGreatProg
import Derived.Shelf.Sort.Plain
namespace Go.Ev
set_option linter.unusedVariables false
set_option linter.unusedSimpArgs false

inductive T where
  | bool (b : Bool) | int (k : IntKind) (n : Int) | str (s : ByteArray)
  | nilp | ptr (cs : List T) (off : Nat)
  | nils | seq (sz : Nat) (es : List (List T))
  | nilf | clo (f : Nat) (caps : List T)
  | sn (b : Bool)   -- a slice of none, and whether it is nil
  | nili
  | any   -- nothing is known of it
  deriving Inhabited

inductive C where
  | t (x : T)
  | row (sz : Nat) (es : List (List T))
  | gone (k : Nat)   -- where a row of so many was: it was appended to
  deriving Inhabited

def C.isT : C → Bool
  | .t _ => true
  | .row .. | .gone _ => false
def C.fz : C → T
  | .t x => x
  | .row sz es => .seq sz es
  | .gone _ => .any
def C.ver : C → Option Nat
  | .t _ => none
  | .row _ es => some (2 * es.length)
  | .gone k => some (2 * k + 1)

inductive V where
  | undef
  | t (x : T)
  | ptr (id n i off : Nat)
  | vec (id n sz off len : Nat)
  | row (id n i j sz len : Nat)
  | rptr (id n i j l e off : Nat)
  | agg (vs : List V)
  | tup (vs : List V)
  | clo (f : Nat) (caps : List V)
  deriving Inhabited

inductive Ob where
  | box (cs : List V)
  | vec (fl : Bool) (sz : Nat) (es : List (List C))
  | dead
  deriving Inhabited

def Ob.cnt : Ob → Option Nat
  | .box _ => some 1
  | .vec _ _ es => some es.length
  | .dead => none
def Ob.sz : Ob → Nat
  | .box cs => cs.length
  | .vec _ sz _ => sz
  | .dead => 0

abbrev Mem := Nat → Option Ob
def upd {α : Type} (f : Nat → α) (i : Nat) (x : α) : Nat → α := fun j => if j = i then x else f j
def ofL (l : List Ob) : Mem := fun i => l[i]?
def ofE : List (Nat × V) → Nat → V
  | [] => fun _ => .undef
  | (t, v) :: r => fun j => if j = t then v else ofE r j
def ofArgs (l : List V) : Nat → V := fun i => (l[i]?).getD .undef

structure S where
  env : Nat → V
  mem : Mem
  k0 : Nat

def S.put (s : S) (d : Nat) (v : V) : S := { s with env := upd s.env d v }

mutual
def V.refs : V → List Nat
  | .undef | .t _ => []
  | .ptr id .. | .vec id .. | .row id .. | .rptr id .. => [id]
  | .agg vs | .tup vs | .clo _ vs => V.refsL vs
def V.refsL : List V → List Nat
  | [] => []
  | v :: vs => v.refs ++ V.refsL vs
end
def Ob.refs : Ob → List Nat
  | .box cs => V.refsL cs
  | _ => []
def orefs : Option Ob → List Nat
  | some o => o.refs
  | none => []
def clos (M : Mem) : Nat → List Nat → List Nat → Option (List Nat)
  | 0, _, _ => none
  | _ + 1, [], done => some done
  | n + 1, id :: todo, done => if done.contains id then clos M n todo done else clos M n (todo ++ orefs (M id)) (done ++ [id])

mutual
def V.ren (r : Nat → Option Nat) : V → V
  | .undef => .undef
  | .t x => .t x
  | .ptr id n i off => match r id with | some j => .ptr j n i off | none => .undef
  | .vec id n sz off len => match r id with | some j => .vec j n sz off len | none => .undef
  | .row id n i j sz len => match r id with | some k => .row k n i j sz len | none => .undef
  | .rptr id n i j l e off => match r id with | some k => .rptr k n i j l e off | none => .undef
  | .agg vs => .agg (V.renL r vs)
  | .tup vs => .tup (V.renL r vs)
  | .clo f vs => .clo f (V.renL r vs)
def V.renL (r : Nat → Option Nat) : List V → List V
  | [] => []
  | v :: vs => v.ren r :: V.renL r vs
end
def Ob.ren (r : Nat → Option Nat) : Ob → Ob
  | .box cs => .box (V.renL r cs)
  | o => o
def orenD (r : Nat → Option Nat) : Option Ob → Ob
  | some o => o.ren r
  | none => .dead
def place (L : List Nat) (id : Nat) : Option Nat := go L 0
where
  go : List Nat → Nat → Option Nat
    | [], _ => none
    | x :: r, i => if id = x then some i else go r (i + 1)

def fuel0 : Nat := 4096
def norm (k0 : Nat) (vs : List V) (M : Mem) : Option (List V × List Ob) :=
  (clos M fuel0 (List.range k0 ++ V.refsL vs) []).map fun L => (V.renL (place L) vs, L.map fun id => orenD (place L) (M id))

def fz (M : Mem) : Nat → V → Option T
  | 0, _ => none
  | _ + 1, .t x => some x
  | _ + 1, .vec id n sz off len => match M id with
    | some (.vec _ sz' es) => if es.length = n ∧ sz' = sz ∧ off + len ≤ n then some (.seq sz (((es.drop off).take len).map (·.map C.fz))) else none
    | _ => none
  | _ + 1, .row id n i j sz len => match M id with
    | some (.vec _ _ es) => if es.length = n then match (es[i]?).bind (·[j]?) with
        | some (.row sz' es') => if sz' = sz ∧ es'.length = len then some (.seq sz es') else none
        | _ => none else none
    | _ => none
  | k + 1, .ptr id n i o => match M id with
    | some (.box cs) => if n = 1 ∧ i = 0 then (cs.mapM (fz M k)).map (T.ptr · o) else none
    | some (.vec _ _ es) => if es.length = n then (es[i]?).map fun e => T.ptr (e.map C.fz) o else none
    | _ => none
  | k + 1, .clo f caps => (caps.mapM (fz M k)).map (T.clo f)
  | _ + 1, _ => none
def fz1 (M : Mem) : V → Option V
  | .agg vs => (vs.mapM (fz M 16)).map fun l => V.agg (l.map V.t)
  | v => (fz M 16 v).map V.t
def fzV (M : Mem) : V → Option V
  | .tup vs => (vs.mapM (fz1 M)).map V.tup
  | v => fz1 M v
def killL (L : List Nat) (M : Mem) : Mem := fun i => if L.contains i then some .dead else M i
def mvV (M : Mem) (v : V) : Option (V × Mem) :=
  (fzV M v).bind fun v' => match v with
    | .t _ => some (v', M)
    | _ => (clos M fuel0 v.refs []).map fun L => (v', killL L M)

def rdC (id n i j : Nat) : C → V
  | .t x => .t x
  | .row sz es => .row id n i j sz es.length
  | .gone _ => .undef
def rd (M : Mem) (p : V) (k : Nat) : Option V :=
  match p with
  | .t (.ptr cs o) => (cs[o + k]?).map V.t
  | .ptr id n i o => match M id with
    | some (.box cs) => if n = 1 ∧ i = 0 then cs[o + k]? else none
    | some (.vec _ _ es) => if es.length = n then ((es[i]?).bind (·[o + k]?)).map (rdC id n i (o + k)) else none
    | _ => none
  | .rptr id n i j l e o => match M id with
    | some (.vec _ _ es) => if es.length = n then match (es[i]?).bind (·[j]?) with
        | some (.row _ es') => if es'.length = l then ((es'[e]?).bind (·[o + k]?)).map V.t else none
        | _ => none else none
    | _ => none
  | _ => none
def rds (M : Mem) (p : V) : Nat → Nat → Option (List V)
  | _, 0 => some []
  | i, n + 1 => (rd M p i).bind fun v => (rds M p (i + 1) n).map (v :: ·)
def ld (M : Mem) (p : V) (agg : Bool) (n : Nat) : Option V :=
  bif agg then (bif n == 0 then none else (rds M p 0 n).map .agg) else rd M p 0

def toC (nest : Bool) (M : Mem) : V → Option (C × Mem)
  | .t x => some (.t x, M)
  | .vec id n sz off len =>
    bif nest then none
    else (mvV M (.vec id n sz off len)).bind fun | (.t x, M') => some (.t x, M') | _ => none
  | v => (mvV M v).bind fun | (.t x, M') => some (.t x, M') | _ => none
def toCs (nest : Bool) (M : Mem) : List V → Option (List C × Mem)
  | [] => some ([], M)
  | v :: vs => (toC nest M v).bind fun (c, M1) => (toCs nest M1 vs).map fun (cs, M2) => (c :: cs, M2)
def toCss (nest : Bool) (M : Mem) : List (List V) → Option (List (List C) × Mem)
  | [] => some ([], M)
  | v :: vs => (toCs nest M v).bind fun (c, M1) => (toCss nest M1 vs).map fun (cs, M2) => (c :: cs, M2)

def V.isCell : V → Bool
  | .agg _ | .tup _ | .undef => false
  | _ => true
def wr0 (nest : Bool) (M : Mem) (p : V) (k : Nat) (v : V) : Option Mem :=
  match p with
  | .ptr id n i o => match M id with
    | some (.box cs) => if n = 1 ∧ i = 0 ∧ o + k < cs.length ∧ v.isCell = true then some (upd M id (some (.box (cs.set (o + k) v)))) else none
    | some (.vec ..) => (toC nest M v).bind fun (c, M1) => match M1 id with
      | some (.vec fl sz es) => if es.length = n then match es[i]? with
          | some e => match e[o + k]? with
            | some (.t _) => some (upd M1 id (some (.vec (fl && c.isT) sz (es.set i (e.set (o + k) c)))))
            | _ => none
          | none => none else none
      | _ => none
    | _ => none
  | _ => none
def C.room (n : Nat) : C → Bool
  | .t _ => true
  | .row .. => false
  | .gone k => decide (k < n)
def wrN (M : Mem) (id n i c id2 n2 sz2 off2 len2 : Nat) : Option Mem :=
  if id = id2 ∨ off2 ≠ 0 then none else
  match M id2 with
  | some (.vec fl2 sz2' es2) => if es2.length = n2 ∧ sz2' = sz2 ∧ fl2 = true ∧ len2 ≤ n2 then
      match M id with
      | some (.vec _ sz es) => if es.length = n then match es[i]? with
        | some e => match e[c]? with
          | some x => bif x.room len2 then some (upd (upd M id2 (some .dead)) id (some (.vec false sz (es.set i (e.set c (.row sz2 ((es2.take len2).map (·.map C.fz)))))))) else none
          | none => none
        | none => none else none
      | _ => none
    else none
  | _ => none
def wrR (M : Mem) (id n i j l e o k : Nat) (v : V) : Option Mem :=
  if v.isCell = true then (toC false M v).bind fun (c, M1) => match c, M1 id with
    | .t x, some (.vec fl sz es) => if es.length = n then match es[i]? with
      | some el => match el[j]? with
        | some (.row s r) => match r[e]? with
          | some q => if o + k < q.length ∧ r.length = l then some (upd M1 id (some (.vec fl sz (es.set i (el.set j (.row s (r.set e (q.set (o + k) x)))))))) else none
          | none => none
        | _ => none
      | none => none else none
    | _, _ => none
  else none
def isVecO : Option Ob → Bool
  | some (.vec ..) => true
  | _ => false
def wr (nest : Bool) (M : Mem) (p : V) (k : Nat) (v : V) : Option Mem :=
  match p, v with
  | .rptr id n i j l e o, v => wrR M id n i j l e o k v
  | .ptr id n i o, .vec id2 n2 sz2 off2 len2 => bif nest && isVecO (M id) then wrN M id n i (o + k) id2 n2 sz2 off2 len2 else wr0 false M (.ptr id n i o) k (.vec id2 n2 sz2 off2 len2)
  | p, v => wr0 false M p k v
def V.cells : V → List V
  | .agg vs => vs
  | v => [v]
def wrs (nest : Bool) (M : Mem) (p : V) : Nat → List V → Option Mem
  | _, [] => some M
  | i, v :: vs => (wr nest M p i v).bind fun M' => wrs nest M' p (i + 1) vs

def ofCell : Value → Option T
  | .bool b => some (.bool b)
  | .int k n => some (.int k n)
  | .string s => some (.str s)
  | .pointer none => some .nilp
  | .slice none 0 0 => some .nils
  | .nilFunc => some .nilf
  | .nilIface => some .nili
  | _ => none
def ofVal : Value → Option V
  | .agg cs => (cs.toList.mapM ofCell).map fun l => V.agg (l.map V.t)
  | v => (ofCell v).map V.t
def arg (env : Nat → V) : Operand → Option V
  | .tmp t => some (env t)
  | .const v => ofVal v
  | .func f => some (.t (.clo f []))
  | .global _ => none

def szT (P : Program) (t : TypeId) : Option Nat := (P.info? t).map (·.size)
def aggT (P : Program) (t : TypeId) : Option Bool :=
  (P.underlying t).map fun | .struct _ | .array _ _ => true | _ => false
def zeroT (P : Program) (t : TypeId) : Option (List T) :=
  (P.info? t).bind fun i => i.zero.bind fun z => z.cells.toList.mapM ofCell
def elemT (P : Program) (t : TypeId) : Option TypeId :=
  match P.underlying t with
  | some (.slice e) => some e
  | _ => none
def fieldT (P : Program) (t : TypeId) (f : Nat) : Option (Nat × Nat × Bool) :=   -- offset, size, agg
  match P.underlying t with
  | some (.struct fs) => (fs[f]?).bind fun f => (szT P f.type).bind fun n => (aggT P f.type).map fun a => (f.offset, n, a)
  | _ => none

def structOk (P : Program) (t : TypeId) : Bool :=
  match P.underlying t with
  | some (.struct fs) => fs.toList.all fun f => (P.info? f.type).isSome
  | _ => false

def isNilP : V → Option Bool
  | .t .nilp => some true
  | .t (.ptr ..) | .ptr .. | .rptr .. => some false
  | _ => none
def bitsI (op : BinOp) (k : IntKind) (a b : Int) : Int :=
  let x := BitVec.ofInt k.bits a
  let y := BitVec.ofInt k.bits b
  match op with
  | .and => k.wrap (x &&& y).toNat
  | .or => k.wrap (x ||| y).toNat
  | .xor => k.wrap (x ^^^ y).toNat
  | _ => k.wrap (x &&& ~~~y).toNat
def intBin (op : BinOp) (k : IntKind) (a b : Int) : Option T :=
  match op with
  | .and => some (.int k (bitsI .and k a b))
  | .or => some (.int k (bitsI .or k a b))
  | .xor => some (.int k (bitsI .xor k a b))
  | .andNot => some (.int k (bitsI .andNot k a b))
  | .add => some (.int k (k.wrap (a + b)))
  | .sub => some (.int k (k.wrap (a - b)))
  | .mul => some (.int k (k.wrap (a * b)))
  | .quo => if b = 0 then none else some (.int k (k.wrap (a.tdiv b)))
  | .rem => if b = 0 then none else some (.int k (a.tmod b))
  | .eql => some (.bool (a == b))
  | .neq => some (.bool (a != b))
  | .lss => some (.bool (a < b))
  | .leq => some (.bool (a ≤ b))
  | .gtr => some (.bool (a > b))
  | .geq => some (.bool (a ≥ b))
  | _ => none
def strBin (op : BinOp) (a b : ByteArray) : Option T :=
  match op with
  | .add => if a.size + b.size ≤ 9223372036854775807 then some (.str (a ++ b)) else none
  | .eql => some (.bool (a.toList == b.toList))
  | .neq => some (.bool !(a.toList == b.toList))
  | _ => none
def lenN : V → Nat
  | .t (.seq _ es) => es.length
  | .vec _ _ _ _ len => len
  | .row _ _ _ _ _ len => len
  | _ => 0
def binN (P : Program) (op : BinOp) (t : TypeId) : Option V :=
  match P.underlying t, op with
  | some (.slice _), .eql => some (.t (.bool false))
  | some (.slice _), .neq => some (.t (.bool true))
  | _, _ => none
def bin (P : Program) (op : BinOp) (t : TypeId) (x y : V) : Option V :=
  match x, y with
  | .t (.int k a), .t (.int k' b) => match op with
    | .shl => if b < 0 then none else some (.t (.int k (k.wrap (a * 2 ^ min b.toNat k.bits))))
    | .shr => if b < 0 then none else some (.t (.int k (a.fdiv (2 ^ min b.toNat k.bits))))
    | op => if k = k' then (intBin op k a b).map .t else none
  | .t (.str a), .t (.str b) => (strBin op a b).map .t
  | .t (.bool a), .t (.bool b) => match P.underlying t, op with
    | some .bool, .eql => some (.t (.bool (a == b)))
    | some .bool, .neq => some (.t (.bool !(a == b)))
    | _, _ => none
  | x, .t .nilp => match P.underlying t, op with
    | some (.pointer _), .eql => (isNilP x).map fun b => .t (.bool b)
    | some (.pointer _), .neq => (isNilP x).map fun b => .t (.bool !b)
    | _, _ => none
  | .t .nils, .t .nils => match P.underlying t, op with
    | some (.slice _), .eql => some (.t (.bool true))
    | some (.slice _), .neq => some (.t (.bool false))
    | _, _ => none
  | .t (.sn b), .t .nils => match P.underlying t, op with
    | some (.slice _), .eql => some (.t (.bool b))
    | some (.slice _), .neq => some (.t (.bool !b))
    | _, _ => none
  | x, .t .nils => if 0 < lenN x then binN P op t else none
  | _, _ => none
def binX (P : Program) (op : BinOp) (t : TypeId) (oy : Operand) (x y : V) : Option V :=
  match oy, x with
  | .const .nilIface, .t .nili => match P.underlying t, op with
    | some (.interface _), .eql => some (.t (.bool true))
    | some (.interface _), .neq => some (.t (.bool false))
    | _, _ => none
  | _, _ => bin P op t x y
def un (op : UnOp) (x : V) : Option V :=
  match op, x with
  | .neg, .t (.int k n) => some (.t (.int k (k.wrap (0 - n))))
  | .not, .t (.bool b) => some (.t (.bool !b))
  | _, _ => none
def byteI : List T → Option Int
  | [.int .u8 n] => some n
  | _ => none
def strOf (xs : List Int) : ByteArray := ⟨(xs.map fun n => UInt8.ofNat n.toNat).toArray⟩
def conv (P : Program) (src dst : TypeId) (x : V) : Option V :=
  match P.underlying src, P.underlying dst, x with
  | some (.int _), some (.int k), .t (.int _ n) => some (.t (.int k (k.wrap n)))
  | some (.slice e), some .string, .t (.seq 1 (y :: es)) => match P.underlying e with
    | some (.int .u8) => ((y :: es).mapM byteI).map fun xs => .t (.str (strOf xs))
    | _ => none
  | some .string, some (.slice e), .t (.str s) => match P.underlying e with
    | some (.int .u8) => some (.t (.seq 1 (s.data.toList.map fun b => [T.int .u8 b.toNat])))
    | _ => none
  | _, _, _ => none
def lenV : V → Option V
  | .t .nils => some (.t (.int .i64 0))
  | .t (.seq _ es) => some (.t (.int .i64 es.length))
  | .t (.str s) => some (.t (.int .i64 s.size))
  | .vec _ _ _ _ len => some (.t (.int .i64 len))
  | .row _ _ _ _ _ len => some (.t (.int .i64 len))
  | _ => none
def idxA (sz : Nat) (x i : V) : Option V :=
  match i with
  | .t (.int _ i) => if 0 ≤ i then match x with
      | .t (.seq sz' es) => if sz' = sz then (es[i.toNat]?).map fun e => .t (.ptr e 0) else none
      | .vec id n sz' off len => if sz' = sz ∧ i.toNat < len then some (.ptr id n (off + i.toNat) 0) else none
      | .row id n a b sz' len => if sz' = sz ∧ i.toNat < len then some (.rptr id n a b len i.toNat 0) else none
      | _ => none else none
  | _ => none
def fldA (off : Nat) (x : V) : Option V :=
  match x with
  | .t (.ptr cs o) => some (.t (.ptr cs (o + off)))
  | .ptr id n i o => some (.ptr id n i (o + off))
  | .rptr id n i j l e o => some (.rptr id n i j l e (o + off))
  | _ => none
def fld (off n : Nat) (agg : Bool) (x : V) : Option V :=
  match x with
  | .agg vs => bif agg then some (.agg ((vs.drop off).take n)) else vs[off]?
  | _ => none
def ext (i : Nat) (x : V) : Option V :=
  match x with
  | .tup vs => vs[i]?
  | _ => none
def idxS (x i : V) : Option V :=
  match x, i with
  | .t (.str s), .t (.int _ i) => if 0 ≤ i then (s[i.toNat]?).map fun b => .t (.int .u8 b.toNat) else none
  | _, _ => none
def natV : V → Option Nat
  | .t (.int _ n) => if 0 ≤ n then some n.toNat else none
  | _ => none
def natOr (d : Nat) : Option V → Option Nat
  | none => some d
  | some v => natV v
def sub (sz : Nat) (x : V) (lo hi : Option V) : Option V :=
  match x with
  | .t (.str s) => (natOr 0 lo).bind fun l => (natOr s.size hi).bind fun h => if l ≤ h ∧ h ≤ s.size then some (.t (.str (s.extract l h))) else none
  | .t .nils => (natOr 0 lo).bind fun l => (natOr 0 hi).bind fun h => if l = 0 ∧ h = 0 then some (.t .nils) else none
  | .t (.seq sz' es) => (natOr 0 lo).bind fun l => (natOr es.length hi).bind fun h => if sz' = sz ∧ l ≤ h ∧ h ≤ es.length then some (.t (.seq sz ((es.drop l).take (h - l)))) else none
  | .vec id n sz' off len => (natOr 0 lo).bind fun l => (natOr len hi).bind fun h => if sz' = sz ∧ l ≤ h ∧ off + h ≤ n then some (.vec id n sz (off + l) (h - l)) else none
  | _ => none
def maxOk (x : V) : Option V → Bool
  | none => true
  | some m => match x, natV m with
    | .vec _ n _ off _, some k => k == n - off
    | _, _ => false
def pickV (c a b : V) : Option V :=
  match c with
  | .t (.bool c) => some (bif c then a else b)
  | _ => none
def nilChk (x : V) : Option V :=
  match x with
  | .t (.ptr ..) | .ptr .. | .rptr .. | .t (.clo ..) | .clo .. => some x
  | _ => none
def minmax (mx : Bool) : List V → Option V
  | [] => none
  | v :: vs => vs.foldlM (fun x y => match x, y with
    | .t (.int k a), .t (.int k' b) => if k = k' then some (.t (.int k (bif mx then (if b > a then b else a) else (if b < a then b else a)))) else none
    | _, _ => none) v

def room : Nat := 4294967296
def small : Nat := 32768
def mk (nb : Nat) (M : Mem) (o : Ob) : Option Mem := if (M nb).isNone then some (upd M nb (some o)) else none
def newBox (nb : Nat) (M : Mem) (vs : List V) : Option (V × Mem) :=
  if vs.all V.isCell then (mk nb M (.box vs)).map fun M' => (.ptr nb 1 0 0, M') else none
def fillV (place : Nat → Option (Nat × Nat)) (cells : List V) : List (Nat × V) → Option (List V)
  | [] => some cells
  | (i, v) :: rest => match place i with
    | none => none
    | some (off, size) => if v.cells.length = size ∧ off + size ≤ cells.length ∧ v.cells.all V.isCell = true then fillV place (cells.take off ++ v.cells ++ cells.drop (off + size)) rest else none
def chunks (sz : Nat) : Nat → List V → List (List V)
  | 0, _ => []
  | n + 1, l => l.take sz :: chunks sz n (l.drop sz)
def mkLit (nest : Bool) (nb : Nat) (M : Mem) (sz len : Nat) (z : List T) (parts : List (Nat × V)) : Option (V × Mem) :=
  if z.length = sz ∧ 0 < sz ∧ len * sz ≤ 16777216 then
    (fillV (fun i => some (i * sz, sz)) ((List.replicate len (z.map V.t)).flatten) parts).bind fun vs =>
    (toCss nest M (chunks sz len vs)).bind fun (es, M1) =>
    (mk nb M1 (.vec (es.all (·.all C.isT)) sz es)).map fun M2 => (.vec nb len sz 0 len, M2)
  else none
def V.isVec : V → Bool
  | .vec .. => true
  | _ => false
def nilC : V → V
  | .vec .. => .t .nils
  | v => v
def mvIn (id : Nat) : Nat → List V → Mem → Option Mem
  | _, [], M => some M
  | j, .vec id2 n2 sz2 off2 len2 :: r, M => (wrN M id 1 0 j id2 n2 sz2 off2 len2).bind fun M' => mvIn id (j + 1) r M'
  | j, _ :: r, M => mvIn id (j + 1) r M
def litOne (sz len : Nat) : List (Nat × V) → Option (List V)
  | [(0, .agg vs)] => bif len == 1 && vs.length == sz && vs.any V.isVec then some vs else none
  | _ => none
def mkLitN (nest : Bool) (nb : Nat) (M : Mem) (sz len : Nat) (z : List T) (parts : List (Nat × V)) : Option (V × Mem) :=
  match (bif nest then litOne sz len parts else none) with
  | some vs => (mkLit false nb M sz 1 z [(0, .agg (vs.map nilC))]).bind fun (v, M1) => (mvIn nb 0 vs M1).map fun M2 => (v, M2)
  | none => mkLit false nb M sz len z parts
def mkMake (nb : Nat) (M : Mem) (sz bytes : Nat) (z : List T) (len cap : V) : Option (V × Mem) :=
  (natV len).bind fun n => (natV cap).bind fun c =>
    if z.length = sz ∧ 0 < sz ∧ n ≤ c ∧ c ≤ room ∧ bytes ≤ small then
      (mk nb M (.vec true sz (List.replicate n (z.map C.t)))).map fun M' => (.vec nb n sz 0 n, M')
    else none
def src (M : Mem) (sz : Nat) (x : V) : Option (List (List C)) :=
  match x with
  | .t .nils => some []
  | .t (.seq sz' es) => if sz' = sz then some (es.map (·.map C.t)) else none
  | .t (.sn _) => some []
  | .t (.str s) => if sz = 1 then some (s.data.toList.map fun b => [C.t (.int .u8 b.toNat)]) else none
  | .vec id n sz' off len => match M id with
    | some (.vec fl sz'' es) => if es.length = n ∧ sz' = sz ∧ sz'' = sz ∧ off + len ≤ n ∧ fl = true then some ((es.drop off).take len) else none
    | _ => none
  | .row id n i j sz' len => match M id with
    | some (.vec _ _ es) => if es.length = n then match (es[i]?).bind (·[j]?) with
        | some (.row sz'' es') => if sz' = sz ∧ sz'' = sz ∧ es'.length = len then some (es'.map (·.map C.t)) else none
        | _ => none else none
    | _ => none
  | _ => none
def app0 (M : Mem) (sz : Nat) (id n len : Nat) (es xs : List (List C)) : V × Mem :=
  if len + xs.length ≤ n then (.vec id n sz 0 (len + xs.length), upd M id (some (.vec true sz (es.take len ++ xs ++ es.drop (len + xs.length)))))
  else (.vec id (len + xs.length) sz 0 (len + xs.length), upd M id (some (.vec true sz (es.take len ++ xs))))
def app (nb : Nat) (M : Mem) (sz bytes : Nat) (s x : V) : Option (V × Mem) :=
  if 0 < sz ∧ bytes ≤ small then
  (src M sz x).bind fun xs =>
  match s with
  | .t .nils => if xs.length ≤ room then (mk nb M (.vec true sz xs)).map fun M2 => (.vec nb xs.length sz 0 xs.length, M2) else none
  | .vec id n sz' off len => match M id with
    | some (.vec fl' sz'' es) =>
      if es.length = n ∧ sz' = sz ∧ sz'' = sz ∧ off + len ≤ n ∧ len + xs.length ≤ room ∧ fl' = true then
        if off = 0 then some (app0 M sz id n len es xs)
        else if off + len = n then (mk nb M (.vec true sz (es.drop off))).map fun M2 => app0 (upd M2 id (some .dead)) sz nb (n - off) len (es.drop off) xs
        else none
      else none
    | _ => none
  | .row id n i j sz' len => match M id with
    | some (.vec _ s0 es) => if es.length = n ∧ sz' = sz ∧ 0 < len ∧ 0 < xs.length ∧ len + xs.length ≤ room then match es[i]? with
      | some e => match e[j]? with
        | some (.row sz'' r) => if sz'' = sz ∧ r.length = len then (mk nb (upd M id (some (.vec false s0 (es.set i (e.set j (.gone len)))))) (.vec true sz (r.map (·.map C.t)))).map fun M2 => app0 M2 sz nb len len (r.map (·.map C.t)) xs else none
        | _ => none
      | none => none else none
    | _ => none
  | _ => none
  else none
def appN (M : Mem) (sz bytes id n len id2 : Nat) : Option (V × Mem) :=
  if 0 < sz ∧ bytes ≤ small ∧ id ≠ id2 then
  match M id2 with
  | some (.vec _ sz2 [e]) => match M id with
    | some (.vec _ sz1 es) => if sz2 = sz ∧ sz1 = sz ∧ es.length = n ∧ len = n ∧ n + 1 ≤ room then
        some (.vec id (n + 1) sz 0 (n + 1), upd (upd M id2 (some .dead)) id (some (.vec false sz (es ++ [e])))) else none
    | _ => none
  | _ => none
  else none
def rowsO : Option Ob → Bool
  | some (.vec false _ _) => true
  | _ => false
def appX (nb : Nat) (M : Mem) (sz bytes : Nat) (s x : V) : Option (V × Mem) :=
  match s, x with
  | .vec id n sz' off len, .vec id2 n2 sz2 off2 len2 => bif rowsO (M id2) then (if sz' = sz ∧ sz2 = sz ∧ off = 0 ∧ n2 = 1 ∧ off2 = 0 ∧ len2 = 1 then appN M sz bytes id n len id2 else none) else app nb M sz bytes (.vec id n sz' off len) (.vec id2 n2 sz2 off2 len2)
  | s, x => app nb M sz bytes s x
def clr (M : Mem) (sz : Nat) (z : List T) (x : V) : Option Mem :=
  match x with
  | .vec id n sz' off len => match M id with
    | some (.vec fl sz'' es) => if es.length = n ∧ sz' = sz ∧ sz'' = sz ∧ off + len ≤ n ∧ fl = true ∧ z.length = sz then
        some (upd M id (some (.vec true sz (es.take off ++ List.replicate len (z.map C.t) ++ es.drop (off + len))))) else none
    | _ => none
  | _ => none

def truncV (k : Nat) : V → Option V
  | .t (.seq sz es) => some (.t (.seq sz (es.take k)))
  | .vec id n sz off _ => some (.vec id n sz off k)
  | _ => none
def cpy (M : Mem) (sz : Nat) (d x : V) : Option (Nat × Mem) :=
  match d with
  | .vec id n sz' off len =>
    (bif decide (lenN x ≤ len) then some x else truncV len x).bind fun x' => (src M sz x').bind fun xs => match M id with
    | some (.vec fl sz'' es) => if 0 < sz ∧ es.length = n ∧ sz' = sz ∧ sz'' = sz ∧ off + len ≤ n ∧ fl = true ∧ xs.length ≤ len then
        some (xs.length, upd M id (some (.vec true sz (es.take off ++ xs ++ es.drop (off + xs.length))))) else none
    | _ => none
  | _ => none

inductive Mode where | pass | borrow | move
  deriving Inhabited
structure Pol where
  modes : List Mode := []
  own : Bool := false      -- what it returns stays ours (else it is frozen)
  nest : Bool := false     -- in its own body, a slice stored into a row of ours moves in
  frz : List Nat := []     -- slots whose new value is frozen at once
  argS : List Nat := []    -- of each argument: the size of the elements where it is a slice that may be nil: it is taken az an empty one
  soft : List (List Nat) := []   -- of each result, cell by cell: the size of the elements where it is a slice: a nil slice is told az an empty one
  deriving Inhabited
mutual
def V.isT : V → Bool
  | .t _ => true
  | .agg vs => V.isTL vs
  | _ => false
def V.isTL : List V → Bool
  | [] => true
  | v :: vs => v.isT && V.isTL vs
end
def T.flat : T → Bool
  | .bool _ | .int .. | .str _ | .nilp | .nils | .nilf | .nili | .any => true
  | _ => false
def C.flat : C → Bool
  | .t x => x.flat
  | .row _ es => es.all (·.all T.flat)
  | .gone _ => true
mutual
def V.flat : V → Bool
  | .t x => x.flat
  | .agg vs | .tup vs | .clo _ vs => V.flatL vs
  | _ => true
def V.flatL : List V → Bool
  | [] => true
  | v :: vs => v.flat && V.flatL vs
end
def Ob.flat : Ob → Bool
  | .box cs => V.flatL cs
  | .vec _ _ es => es.all (·.all C.flat)
  | .dead => true
def soft1 (z : Nat) : V → V
  | .t .nils => bif z == 0 then .t .nils else .t (.seq z [])
  | v => v
def softL : List Nat → List V → List V
  | z :: zs, v :: vs => soft1 z v :: softL zs vs
  | _, vs => vs
def prepM : List Mode → List V → Mem → Option (List V × Mem)
  | _, [], M => some ([], M)
  | .move :: ms, v :: vs, M => (mvV M v).bind fun (v', M1) => (prepM ms vs M1).map fun (r, M') => (v' :: r, M')
  | ms, v :: vs, M => (prepM ms.tail vs M).map fun (r, M') => (v :: r, M')
def prepB (M : Mem) : List Mode → List V → Option (List V × List Nat)
  | _, [] => some ([], [])
  | .borrow :: ms, v :: vs => (fzV M v).bind fun v' => (prepB M ms vs).map fun (r, B) => (v' :: r, v.refs ++ B)
  | ms, v :: vs => (prepB M ms.tail vs).map fun (r, B) => (v :: r, B)
def back (L : List Nat) (nb : Nat) (i : Nat) : Option Nat := some ((L[i]?).getD (nb + (i - L.length)))
def putL (r : Nat → Option Nat) (M : Mem) : List Nat → List Ob → Option (Mem × List Ob)
  | [], os => some (M, os)
  | id :: ids, o :: os => putL r (upd M id (some (o.ren r))) ids os
  | _ :: _, [] => none
def putNew (r : Nat → Option Nat) (M : Mem) (nb : Nat) : List Ob → Option Mem
  | [] => some M
  | o :: os => (mk nb M (o.ren r)).bind fun M' => putNew r M' (nb + 1) os

inductive Ann where
  | n
  | seq (a b : Ann)
  | cond (a b : Ann)
  | block (a : Ann)
  | loop (live after rets : List Nat) (thaw : List (Nat × Option Nat × Nat)) (a : Ann)
  | cut (live : List Nat) (a : Ann)
  deriving Inhabited

structure LoopQ where
  f : FuncId
  live : List Nat
  after : List Nat
  rets : List Nat
  thaw : List (Nat × Option Nat × Nat)
  a : Ann
  c : Code
inductive Q where
  | call (f : FuncId) (args : List V) (H : List Ob)
  | loop (l : LoopQ) (s : S)
inductive Out where
  | next (s : S)
  | exit (id : Nat) (s : S)
  | ret (s : S)
  | val (v : V) (H : List Ob)

structure Pr where
  P : Program
  pol : FuncId → Pol
  ann : FuncId → Ann
  prim : FuncId → Option (List V → List Ob → Option (V × List Ob))   -- functions that are known by a contract

section
variable {R : Type} (pr : Pr) (E : Q → Option Out)

def merge (L : List Nat) (nb : Nat) (B : List Nat) (M : Mem) (out : Out) : Option (V × Mem) :=
  match out with
  | .val v H => if B.isEmpty = true ∨ (v.flat && H.all Ob.flat) = true then
      (putL (back L nb) M L H).bind fun (M1, new) => if new.length ≤ 8 then (putNew (back L nb) M1 nb new).map fun M2 => (v.ren (back L nb), M2) else none
    else none
  | _ => none
def callE (f : FuncId) (args : List V) (M : Mem) (nb : Nat) (K : V → Mem → Option R) : Option R :=
  (prepM (pr.pol f).modes (softL (pr.pol f).argS args) M).bind fun (az, M1) =>
  (prepB M1 (pr.pol f).modes az).bind fun (bs, Br) =>
  (clos M1 fuel0 Br []).bind fun B =>
  (clos M1 fuel0 (V.refsL bs) []).bind fun L =>
  bif B.all (fun i => !L.contains i) then
    (E (.call f (V.renL (place L) bs) (L.map fun id => orenD (place L) (M1 id)))).bind fun out =>
    (merge L nb B M1 out).bind fun (v, M2) => K v M2
  else none
def callV (fv : V) (args : List V) (M : Mem) (nb : Nat) (K : V → Mem → Option R) : Option R :=
  match fv with
  | .t (.clo f caps) => callE pr E f (args ++ caps.map V.t) M nb K
  | .clo f caps => callE pr E f (args ++ caps) M nb K
  | _ => none

def bound (o : Oper) : Nat := 1000 + 8 * (o.dst.getD 0)
def argL (env : Nat → V) (xs : Array Operand) : Option (List V) := xs.toList.mapM (arg env)
def argPs (env : Nat → V) : List (Nat × Operand) → Option (List (Nat × V))
  | [] => some []
  | (i, x) :: r => (arg env x).bind fun v => (argPs env r).map ((i, v) :: ·)
def argO (env : Nat → V) : Option Operand → Option (Option V)
  | none => some none
  | some x => (arg env x).map some
def tOf : V → Option T
  | .t x => some x
  | _ => none
def opK (nest : Bool) (o : Oper) (s : S) (K : V → Mem → Option R) : Option R :=
  let P := pr.P
  let M := s.mem
  match o.op with
  | .move x | .assign x => (arg s.env x).bind fun v => K v M
  | .pick c a b => (arg s.env c).bind fun c => (arg s.env a).bind fun a => (arg s.env b).bind fun b => (pickV c a b).bind fun v => K v M
  | .alloc t => (zeroT P t).bind fun z => (newBox (bound o) M (z.map V.t)).bind fun (v, M') => K v M'
  | .box _ x => (arg s.env x).bind fun v => (newBox (bound o) M v.cells).bind fun (v, M') => K v M'
  | .build t parts => bif !structOk P t then none else (argPs s.env parts.toList).bind fun ps => (zeroT P t).bind fun z =>
      (fillV (fun i => (fieldT P t i).map fun f => (f.1, f.2.1)) (z.map V.t) ps).bind fun vs => K (.agg vs) M
  | .buildSlice t len parts => (argPs s.env parts.toList).bind fun ps => (elemT P t).bind fun e => (szT P e).bind fun sz => (zeroT P e).bind fun z =>
      (mkLitN nest (bound o) M sz len z ps).bind fun (v, M') => K v M'
  | .load t a => (arg s.env a).bind fun p => (aggT P t).bind fun ag => (szT P t).bind fun n => (ld M p ag n).bind fun v => K v M
  | .store t a x => (arg s.env a).bind fun p => (arg s.env x).bind fun v => (szT P t).bind fun n =>
      if v.cells.length = n ∧ n ≠ 0 then (wrs nest M p 0 v.cells).bind fun M' => K .undef M' else none
  | .nilCheck x => (arg s.env x).bind fun v => (nilChk v).bind fun v => K v M
  | .binOp op t x y _ => (arg s.env x).bind fun a => (arg s.env y).bind fun b => (binX P op t y a b).bind fun v => K v M
  | .unOp op _ x => (arg s.env x).bind fun a => (un op a).bind fun v => K v M
  | .convert src dst x => (arg s.env x).bind fun a => (conv P src dst a).bind fun v => K v M
  | .makeFunc (.func f) first captured => if first.size = 0 then (argL s.env captured).bind fun vs =>
      match vs.mapM tOf with
      | some ts => K (.t (.clo f ts)) M
      | none => K (.clo f vs) M else none
  | .makeSlice t l c => (arg s.env l).bind fun l => (arg s.env c).bind fun c => (elemT P t).bind fun e => (szT P e).bind fun sz => (zeroT P e).bind fun z => (P.info? e).bind fun i =>
      (mkMake (bound o) M sz i.bytes z l c).bind fun (v, M') => K v M'
  | .slice t x lo hi mx => (arg s.env x).bind fun v => (argO s.env lo).bind fun lo => (argO s.env hi).bind fun hi => (argO s.env mx).bind fun mx => bif !(maxOk v mx && (mx.isNone || hi.isSome)) then none else
      match P.underlying t with
      | some (.slice e) => match v with
        | .t (.str _) => none
        | v => (szT P e).bind fun sz => (sub sz v lo hi).bind fun v => K v M
      | some .string => match v with
        | .t (.str _) => (sub 1 v lo hi).bind fun v => K v M
        | _ => none
      | _ => none
  | .fieldAddr t x f => (arg s.env x).bind fun p => (fieldT P t f).bind fun fi => if fi.2.1 = 0 then none else (fldA fi.1 p).bind fun v => K v M
  | .field t x f => (arg s.env x).bind fun p => (fieldT P t f).bind fun fi => (fld fi.1 fi.2.1 fi.2.2 p).bind fun v => K v M
  | .indexAddr t x i => (arg s.env x).bind fun x => (arg s.env i).bind fun i => (elemT P t).bind fun e => (szT P e).bind fun sz => if sz = 0 then none else (idxA sz x i).bind fun v => K v M
  | .index t x i => (arg s.env x).bind fun x => (arg s.env i).bind fun i =>
      match P.underlying t with
      | some .string => (idxS x i).bind fun v => K v M
      | _ => none
  | .extract x i => (arg s.env x).bind fun x => (ext i x).bind fun v => K v M
  | .call c => match c.callee with
    | .builtin .len => (argL s.env c.args).bind fun vs => match vs, (c.argTypes[0]?).bind P.underlying with
      | [.t (.str z)], some .string => (lenV (.t (.str z))).bind fun v => K v M
      | [v], some (.slice _) => match v with
        | .t (.str _) => none
        | v => (lenV v).bind fun v => K v M
      | _, _ => none
    | .builtin .max => (argL s.env c.args).bind fun vs => (minmax true vs).bind fun v => K v M
    | .builtin .min => (argL s.env c.args).bind fun vs => (minmax false vs).bind fun v => K v M
    | .builtin .append => (argL s.env c.args).bind fun vs => match vs, c.argTypes[0]?, c.argTypes[1]? with
      | [a, b], some t, some u => match P.underlying u with
        | some (.int _) => none
        | none => none
        | _ => (elemT P t).bind fun e => (szT P e).bind fun sz => (P.info? e).bind fun i => (zeroT P e).bind fun z =>
          if z.length = sz then (appX (bound o) M sz i.bytes a b).bind fun (v, M') => K v M' else none
      | _, _, _ => none
    | .builtin .clear => (argL s.env c.args).bind fun vs => match vs, c.argTypes[0]? with
      | [a], some t => (elemT P t).bind fun e => (szT P e).bind fun sz => (zeroT P e).bind fun z => (clr M sz z a).bind fun M' => K .undef M'
      | _, _ => none
    | .builtin .copy => (argL s.env c.args).bind fun vs => match vs, c.argTypes[0]? with
      | [a, b], some t => (elemT P t).bind fun e => (szT P e).bind fun sz => (cpy M sz a b).bind fun (k, M') => K (.t (.int .i64 k)) M'
      | _, _ => none
    | .value (.func f) => (argL s.env c.args).bind fun vs =>
        callE pr E f vs M (bound o) K
    | .value x => (arg s.env x).bind fun fv => (argL s.env c.args).bind fun vs => callV pr E fv vs M (bound o) K
    | _ => none
  | _ => none

def fin (nt : Nat) (o : Oper) (s : S) (v : V) (M : Mem) (K : S → Option R) : Option R :=
  match o.dst with
  | some d => if d < nt then K { s with env := upd s.env d v, mem := M } else none
  | none => K { s with mem := M }
def opFK (frz : List Nat) (nest : Bool) (o : Oper) (s : S) (K : V → Mem → Option R) : Option R :=
  bif (o.dst.any fun d => frz.contains d) then opK pr E nest o s fun v M =>
    (mvV M v).bind fun (v', M') => (clos M fuel0 v.refs []).bind fun L => bif L.all (fun id => bound o ≤ id && id < bound o + 8) then K v' M' else none
  else opK pr E nest o s K
def wantV (ops : Array Oper) (env : Nat → V) (j : Nat) (b : Bool) : Option Bool :=
  match (ops[j]?).bind (·.dst) with
  | some t => match env t with
    | .t (.bool b') => some (b' == b)
    | .tup [] => some false   -- one that was not done
    | _ => none
  | none => none
def op1K (nt : Nat) (frz : List Nat) (nest : Bool) (ops : Array Oper) (o : Oper) (s : S) (K : S → Option R) : Option R :=
  match o.guard with
  | none => opFK pr E frz nest o s fun v M => fin nt o s v M K
  | some (j, b) => (wantV ops s.env j b).bind fun y =>
      (bif y then opFK pr E frz nest o s fun v M => some (v, M) else some (.tup [], s.mem)).bind fun (v, M) => fin nt o s v M K
def opsK (nt : Nat) (frz : List Nat) (nest : Bool) (ops : Array Oper) : List Nat → S → (S → Option R) → Option R
  | [], s, K => K s
  | i :: r, s, K => match ops[i]? with
    | some o => op1K pr E nt frz nest ops o s fun s' => opsK nt frz nest ops r s' K
    | none => none

structure Touch where
  ids : List Nat
  w : Bool
  b : Nat
def refsO (env : Nat → V) (x : Operand) : List Nat := match arg env x with | some v => v.refs | none => []
def refsOs (env : Nat → V) : List Operand → List Nat
  | [] => []
  | x :: r => refsO env x ++ refsOs env r
def allBorrow : List Mode → List Operand → Bool
  | _, [] => true
  | .borrow :: ms, _ :: r => allBorrow ms r
  | _, _ => false
def touch (o : Oper) (s : S) : Option Touch :=
  match o.op with
  | .load _ a => some ⟨refsO s.env a, false, bound o⟩
  | .store _ a x => (clos s.mem fuel0 (refsO s.env x) []).map fun L => ⟨refsO s.env a ++ L, true, bound o⟩
  | .buildSlice _ _ parts => (clos s.mem fuel0 (refsOs s.env (parts.toList.map (·.2))) []).map fun L => ⟨L, true, bound o⟩
  | .call c => match c.callee with
    | .builtin .clear => none
    | .builtin .copy => some ⟨refsOs s.env c.args.toList, true, bound o⟩
    | .builtin .append => some ⟨refsOs s.env c.args.toList, true, bound o⟩
    | .builtin _ => some ⟨[], false, bound o⟩
    | .value (.func f) => (clos s.mem fuel0 (refsOs s.env c.args.toList) []).map fun L => ⟨L, !allBorrow (pr.pol f).modes c.args.toList, bound o⟩
    | .value x => (clos s.mem fuel0 (refsO s.env x ++ refsOs s.env c.args.toList) []).map fun L => ⟨L, true, bound o⟩
    | _ => none
  | _ => some ⟨[], false, bound o⟩
def meet0 (a b : Touch) : Bool :=
  a.b == b.b || a.ids.any (fun i => b.b ≤ i && i < b.b + 8) || b.ids.any (fun i => a.b ≤ i && i < a.b + 8)
def meet (a b : Touch) : Bool := meet0 a b || ((a.w || b.w) && a.ids.any fun i => b.ids.contains i)
def sameT : T → T → Bool
  | .bool a, .bool b => decide (a = b)
  | .int k a, .int k' b => decide (k = k' ∧ a = b)
  | .str a, .str b => decide (a = b)
  | .nilp, .nilp | .nils, .nils | .nilf, .nilf | .nili, .nili => true
  | _, _ => false
def sameV : V → V → Bool
  | .t x, .t y => sameT x y
  | .ptr a b c d, .ptr a' b' c' d' => decide (a = a' ∧ b = b' ∧ c = c' ∧ d = d')
  | .vec a b c d e, .vec a' b' c' d' e' => decide (a = a' ∧ b = b' ∧ c = c' ∧ d = d' ∧ e = e')
  | _, _ => false
structure Lg where
  t : Touch
  cell : Option (Nat × Nat)
  keep : Nat → Nat → Bool
def cellAt (M : Mem) (id c : Nat) : Option V :=
  match M id with
  | some (.box cs) => cs[c]?
  | _ => none
def cellOf (frz : List Nat) (o : Oper) (y : Bool) (env : Nat → V) : Option (Nat × Nat) :=
  bif y && !(o.dst.any fun d => frz.contains d) then match o.op with
    | .load t a => match aggT pr.P t, arg env a with
      | some false, some (.ptr id 1 0 c) => some (id, c)
      | _, _ => none
    | _ => none
  else none
def keepOf (t : Touch) (M M' : Mem) (id c : Nat) : Bool :=
  t.ids.contains id && match cellAt M id c, cellAt M' id c with
    | some v, some v' => sameV v v'
    | _, _ => false
def mkLg (frz : List Nat) (o : Oper) (y : Bool) (env : Nat → V) (t : Touch) (M M' : Mem) : Lg :=
  ⟨t, cellOf pr frz o y env, fun id c => (cellOf pr frz o y env).isNone && keepOf t M M' id c⟩
def exempt (a b : Lg) : Bool :=
  match a.cell with
  | some (id, c) => b.keep id c
  | none => false
def meetL (a b : Lg) : Bool := meet a.t b.t && (meet0 a.t b.t || !(exempt a b || exempt b a))
def ordered (bm : Array Nat) (i j : Nat) : Bool := (bm.getD j 0).testBit i
def drawOk (ops : Array Oper) : Bool :=
  let bm := Region.before ops
  (List.range ops.size).all fun j => ((ops[j]?).any fun o => o.after.all fun e => !Region.binds .any e || decide (e.on < j)) && (List.range j).all fun i =>
    match ops[i]?, ops[j]? with
    | some x, some y => ordered bm i j || x.apart ops y
    | _, _ => false
def clear (bm : Array Nat) (i : Nat) (t : Lg) : List (Nat × Lg) → Bool
  | [] => true
  | (j, u) :: r => (ordered bm j i || !meetL u t) && clear bm i t r
def wanted1 (ops : Array Oper) (o : Oper) (s : S) : Option Bool :=
  match o.guard with
  | none => some true
  | some (j, b) => wantV ops s.env j b
def opsD (nt : Nat) (frz : List Nat) (nest : Bool) (ops : Array Oper) (bm : Array Nat) : List Nat → List (Nat × Lg) → S → (S → Option R) → Option R
  | [], _, s, K => K s
  | i :: r, log, s, K => match ops[i]? with
    | some o => (wanted1 ops o s).bind fun y => (bif y then touch pr o s else some ⟨[], false, bound o⟩).bind fun t =>
        op1K pr E nt frz nest ops o s fun s' => bif clear bm i (mkLg pr frz o y s.env t s.mem s'.mem) log then opsD nt frz nest ops bm r ((i, (mkLg pr frz o y s.env t s.mem s'.mem)) :: log) s' K else none
    | none => none

def mask (live : List Nat) (s : S) : S := { s with env := ofE (live.map fun t => (t, s.env t)) }
def normS (live : List Nat) (s : S) : Option S :=
  (norm s.k0 (live.map s.env) s.mem).map fun (vs, H) => { s with env := ofE (live.zip vs), mem := ofL H }
def thaw1 (s : S) : Nat × Option Nat × Nat → Option S
  | (t, none, sz) => bif sz == 0 then none else match s.env t with
    | .t .nils => (mk (1000000 + t) s.mem (.vec true sz [])).map fun M => { s with env := upd s.env t (.vec (1000000 + t) 0 sz 0 0), mem := M }
    | _ => some s
  | (t, some c, sz) => bif sz == 0 then none else match s.env t with
    | .ptr id _ _ _ => match s.mem id with
      | some (.box cs) => match cs[c]? with
        | some (.t .nils) => (mk (2000000 + 100 * t + c) s.mem (.vec true sz [])).map fun M => { s with mem := upd M id (some (.box (cs.set c (.vec (2000000 + 100 * t + c) 0 sz 0 0)))) }
        | _ => some s
      | _ => some s
    | _ => some s
def thawS : List (Nat × Option Nat × Nat) → S → Option S
  | [], s => some s
  | t :: r, s => (thaw1 s t).bind (thawS r)
def loopE (l : LoopQ) (s : S) : Option Out := (thawS l.thaw s).bind fun s1 => (normS l.live s1).bind fun s2 => E (.loop l s2)

def exec (f : FuncId) (nt : Nat) (frz : List Nat) (nest : Bool) : Ann → Code → S → (Out → Option R) → Option R
  | .cut live a, c, s, K => exec f nt frz nest a c (mask live s) K
  | .seq x y, .seq a b, s, K => exec f nt frz nest x a s fun
    | .next s' => exec f nt frz nest y b s' K
    | o => K o
  | .cond x y, .cond c a b, s, K => (arg s.env c).bind fun
    | .t (.bool t) => bif t then exec f nt frz nest x a s K else exec f nt frz nest y b s K
    | _ => none
  | .block x, .block id c, s, K => exec f nt frz nest x c s fun
    | .exit id' s' => if id' = id then K (.next s') else K (.exit id' s')
    | o => K o
  | .loop live after rets thaw x, .loop c, s, K => (loopE E ⟨f, live, after, rets, thaw, x, c⟩ s).bind K
  | .n, .skip, s, K => K (.next s)
  | .n, .region _ ops false, s, K => opsK pr E nt frz nest ops (List.range ops.size) s fun s' => K (.next s')
  | .n, .region _ ops true, s, K => bif drawOk ops then opsD pr E nt frz nest ops (Region.before ops) (List.range ops.size) [] s fun s' => K (.next s') else none
  | .n, .exit id, s, K => K (.exit id s)
  | .n, .ret, s, K => K (.ret s)
  | _, _, _, _ => none

def ntOf (f : FuncId) : Nat := ((pr.P.funcs[f]?).map (·.ntmps)).getD 0
def resV (P : Program) (M : Mem) (env : Nat → V) : List ResultVar → Option (List V)
  | [] => some []
  | .tmp t :: r => (resV P M env r).map (env t :: ·)
  | .cell a t :: r => (aggT P t).bind fun ag => (szT P t).bind fun n => (ld M (env a) ag n).bind fun v => (resV P M env r).map (v :: ·)
def one : List V → V
  | [v] => v
  | vs => .tup vs
def softA (zs : List Nat) : V → V
  | .agg vs => .agg (softL zs vs)
  | v => soft1 (zs.headD 0) v
def softT : List (List Nat) → List V → List V
  | zs :: zss, v :: vs => softA zs v :: softT zss vs
  | _, vs => vs
def softR : List (List Nat) → V → V
  | [zs], v => softA zs v
  | zss, .tup vs => .tup (softT zss vs)
  | _, v => v
def retK (pol : Pol) (fn : Func) (s : S) : Option Out :=
  (resV pr.P s.mem s.env fn.results.toList).bind fun vs =>
    (bif pol.own then some (softR pol.soft (one vs), s.mem) else mvV s.mem (softR pol.soft (one vs))).bind fun (v, M) => (norm s.k0 [v] M).bind fun (vs, H) => match vs with
      | [v] => some (.val v H)
      | _ => none
def callable (P : Program) (f : FuncId) : Bool :=
  match P.funcs[f]? with
  | some fn => fn.name != "runtime.NumGoroutine" && fn.body.isSome
  | none => false
def step : Q → Option Out
  | .call f args H => bif !callable pr.P f then none else match pr.prim f with
    | some p => (p args H).map fun (v, H') => .val v H'
    | none => match pr.P.funcs[f]? with
    | some fn => fn.body.bind fun c => if args.length ≤ fn.ntmps then
        exec pr E f fn.ntmps (pr.pol f).frz (pr.pol f).nest (pr.ann f) c ⟨ofArgs args, ofL H, H.length⟩ fun
          | .next s | .ret s => retK pr (pr.pol f) fn s
          | _ => none
      else none
    | none => none
  | .loop l s => exec pr E l.f (ntOf pr l.f) (pr.pol l.f).frz (pr.pol l.f).nest l.a l.c s fun
    | .next s' => loopE E l s'
    | .exit id s' => (normS l.after s').map (.exit id)
    | .ret s' => (normS l.rets s').map .ret
    | .val .. => none
end
def evF (pr : Pr) : Nat → Q → Option Out
  | 0 => fun _ => none
  | k + 1 => step pr (evF pr k)
end Go.Ev

namespace Go.Ev
set_option linter.unusedVariables false
set_option linter.unusedSimpArgs false

abbrev Sg := Nat → Option (Nat × Nat) → Option (Nat × Nat)

inductive RepT (w : World) (F : Nat → Prop) : T → Value → Prop
  | bool (b : Bool) : RepT w F (.bool b) (.bool b)
  | int (k : IntKind) (n : Int) : RepT w F (.int k n) (.int k n)
  | str (s : ByteArray) : RepT w F (.str s) (.string s)
  | nilp : RepT w F .nilp (.pointer none)
  | ptr {cs : List T} {off b o : Nat} {vals : Nat → Value} (hF : F b) (hc : ∀ (i : Nat) (t : T), cs[i]? = some t → w.cell? ⟨b, o + i, none⟩ = some (vals i))
      (hr : ∀ (i : Nat) (t : T), cs[i]? = some t → RepT w F t (vals i)) : RepT w F (.ptr cs off) (.pointer (some ⟨b, o + off, none⟩))
  | nils : RepT w F .nils (.slice none 0 0)
  | seq0 (sz : Nat) (a : Option Addr) (cap : Nat) : RepT w F (.seq sz []) (.slice a 0 cap)
  | seq {sz : Nat} {es : List (List T)} {b o cap : Nat} {vals : Nat → Nat → Value} (hF : F b) (hcap : es.length ≤ cap) (hsz : ∀ (i : Nat) (e : List T), es[i]? = some e → e.length = sz)
      (hc : ∀ (i j : Nat) (e : List T) (t : T), es[i]? = some e → e[j]? = some t → w.cell? ⟨b, o + i * sz + j, none⟩ = some (vals i j))
      (hr : ∀ (i j : Nat) (e : List T) (t : T), es[i]? = some e → e[j]? = some t → RepT w F t (vals i j)) : RepT w F (.seq sz es) (.slice (some ⟨b, o, none⟩) es.length cap)
  | nilf : RepT w F .nilf .nilFunc
  | sn (a : Option Addr) (cap : Nat) : RepT w F (.sn a.isNone) (.slice a 0 cap)
  | nili : RepT w F .nili .nilIface
  | any (c : Value) (h : c.oneCell' = true) : RepT w F .any c
  | clo {f : Nat} {caps : List T} {vals : Array Value} (hl : caps.length = vals.size) (hr : ∀ (i : Nat) (t : T), caps[i]? = some t → RepT w F t (vals.getD i undef)) :
      RepT w F (.clo f caps) (.func (.func f) #[] vals)

def Row (w : World) (b k : Nat) : Prop := ∃ cur e, w.heap[b]? = some (.cells cur e (0, 0)) ∧ k ≤ cur.size

inductive RepV (w : World) (F : Nat → Prop) (σ : Sg) (M : Mem) : V → Value → Prop
  | undef (c : Value) : RepV w F σ M .undef c
  | t {x : T} {c : Value} (h : RepT w F x c) : RepV w F σ M (.t x) c
  | ptr {id n i off : Nat} {a : Addr} {o : Ob} (ho : M id = some o)
      (h : ∀ m, o.cnt = some m → n ≤ m ∧ (n = m → ∃ b o0, σ id none = some (b, o0) ∧ a = ⟨b, o0 + i * o.sz + off, none⟩)) : RepV w F σ M (.ptr id n i off) (.pointer (some a))
  | vec {id n sz off len : Nat} {a : Option Addr} {cap : Nat} {o : Ob} (ho : M id = some o) (hl : off + len ≤ n) (hc : n ≤ off + cap) (ha : 0 < cap → a.isSome = true)
      (h : ∀ m, o.cnt = some m → n ≤ m ∧ (n = m → ∃ fl es, o = .vec fl sz es ∧
        (0 < cap → ∃ b o0, σ id none = some (b, o0) ∧ a = some ⟨b, o0 + off * sz, none⟩ ∧ Row w b (o0 + (off + cap) * sz)))) : RepV w F σ M (.vec id n sz off len) (.slice a len cap)
  | row {id n i j sz len : Nat} {a : Option Addr} {cap : Nat} {o : Ob} (ho : M id = some o) (ha : 0 < len → a.isSome = true)
      (h : ∀ m, o.cnt = some m → n ≤ m ∧ (n = m → ∃ fl s0 es e x v, o = .vec fl s0 es ∧ es[i]? = some e ∧ e[j]? = some x ∧ x.ver = some v ∧ 2 * len ≤ v ∧ (2 * len = v → ∃ r, x = .row sz r ∧ r.length = len ∧ len ≤ cap ∧
        (0 < len → ∃ b o0, σ id (some (i, j)) = some (b, o0) ∧ a = some ⟨b, o0, none⟩ ∧ Row w b (o0 + cap * sz))))) : RepV w F σ M (.row id n i j sz len) (.slice a len cap)
  | rptr {id n i j l e off : Nat} {a : Addr} {o : Ob} (ho : M id = some o)
      (h : ∀ m, o.cnt = some m → n ≤ m ∧ (n = m → ∃ fl s0 es el x v, o = .vec fl s0 es ∧ es[i]? = some el ∧ el[j]? = some x ∧ x.ver = some v ∧ 2 * l ≤ v ∧ (2 * l = v → ∃ sz r b o0, x = .row sz r ∧ r.length = l ∧ e < l ∧
        σ id (some (i, j)) = some (b, o0) ∧ a = ⟨b, o0 + e * sz + off, none⟩))) : RepV w F σ M (.rptr id n i j l e off) (.pointer (some a))
  | agg {vs : List V} {cs : Array Value} (hl : vs.length = cs.size) (h : ∀ (i : Nat) (v : V), vs[i]? = some v → RepV w F σ M v (cs.getD i Go.undef)) : RepV w F σ M (.agg vs) (.agg cs)
  | tup {vs : List V} {cs : Array Value} (hl : vs.length = cs.size) (h : ∀ (i : Nat) (v : V), vs[i]? = some v → RepV w F σ M v (cs.getD i Go.undef)) : RepV w F σ M (.tup vs) (.tuple cs)
  | clo {f : Nat} {vs : List V} {cs : Array Value} (hl : vs.length = cs.size) (h : ∀ (i : Nat) (v : V), vs[i]? = some v → RepV w F σ M v (cs.getD i Go.undef)) :
      RepV w F σ M (.clo f vs) (.func (.func f) #[] cs)

def RepR (w : World) (F : Nat → Prop) (b o sz : Nat) (es : List (List T)) : Prop :=
  ∃ cur ty, w.heap[b]? = some (.cells cur ty (0, 0)) ∧ ∀ (i j : Nat) (e : List T) (t : T), es[i]? = some e → e[j]? = some t → ∃ u, cur[o + i * sz + j]? = some u ∧ RepT w F t u

inductive RepC (w : World) (F : Nat → Prop) (s : Option (Nat × Nat)) : C → Value → Prop
  | t {x : T} {u : Value} (h : RepT w F x u) : RepC w F s (.t x) u
  | row {sz : Nat} {es : List (List T)} {a : Option Addr} {cap : Nat} (hcap : es.length ≤ cap) (h0 : 0 < sz) (hsz : ∀ e ∈ es, e.length = sz)
      (h : es ≠ [] → ∃ b o, s = some (b, o) ∧ a = some ⟨b, o, none⟩ ∧ RepR w F b o sz es ∧ Row w b (o + cap * sz)) : RepC w F s (.row sz es) (.slice a es.length cap)
  | gone (k : Nat) (u : Value) (h : u.oneCell' = true) : RepC w F s (.gone k) u

inductive RepO (w : World) (F : Nat → Prop) (σ : Sg) (M : Mem) (id : Nat) : Ob → Prop
  | dead : RepO w F σ M id .dead
  | box {cs : List V} {b o : Nat} {cur : Array Value} {ty : TypeId} (hs : σ id none = some (b, o)) (hb : w.heap[b]? = some (.cells cur ty (0, 0)))
      (h : ∀ (i : Nat) (v : V), cs[i]? = some v → ∃ u, cur[o + i]? = some u ∧ RepV w F σ M v u) : RepO w F σ M id (.box cs)
  | vec {fl : Bool} {sz : Nat} {es : List (List C)} (h0 : 0 < sz) (hsz : ∀ e ∈ es, e.length = sz) (hfl : fl = true → ∀ e ∈ es, ∀ c ∈ e, c.isT = true)
      (h : es ≠ [] → ∃ b o cur ty, σ id none = some (b, o) ∧ w.heap[b]? = some (.cells cur ty (0, 0)) ∧
        ∀ (i j : Nat) (e : List C) (c : C), es[i]? = some e → e[j]? = some c → ∃ u, cur[o + i * sz + j]? = some u ∧ RepC w F (σ id (some (i, j))) c u) : RepO w F σ M id (.vec fl sz es)

def Live (M : Mem) (id : Nat) : Option (Nat × Nat) → Prop
  | none => ∃ o, M id = some o ∧ o ≠ .dead
  | some (i, j) => ∃ fl sz es e s r, M id = some (.vec fl sz es) ∧ es[i]? = some e ∧ e[j]? = some (.row s r)
def Own (σ : Sg) (M : Mem) (b : Nat) : Prop := ∃ id p o, Live M id p ∧ σ id p = some (b, o)

structure Wf (w : World) (F : Nat → Prop) (σ : Sg) (M : Mem) : Prop where
  obj : ∀ id o, M id = some o → RepO w F σ M id o
  inj : ∀ id p id' p' b o o', Live M id p → Live M id' p' → σ id p = some (b, o) → σ id' p' = some (b, o') → id = id' ∧ p = p'
  row : ∀ id p b o, Live M id p → σ id p = some (b, o) → ¬ F b ∧ ∃ cur e, w.heap[b]? = some (.cells cur e (0, 0))
  lt : ∀ b, F b → b < w.heap.size

structure ObLe (σ σ' : Sg) (id : Nat) (o o' : Ob) : Prop where
  cnt : ∀ m', o'.cnt = some m' → ∃ m, o.cnt = some m ∧ m ≤ m' ∧ (m = m' → o'.sz = o.sz ∧ (∀ x, σ id none = some x → σ' id none = some x) ∧
    ∀ fl sz es, o = .vec fl sz es → ∃ fl' es', o' = .vec fl' sz es' ∧ ∀ (i j : Nat) (e : List C) (c : C) (v : Nat), es[i]? = some e → e[j]? = some c → c.ver = some v →
      ∃ e' c' v', es'[i]? = some e' ∧ e'[j]? = some c' ∧ c'.ver = some v' ∧ v ≤ v' ∧ (v = v' → (∀ s r, c = .row s r → ∃ r', c' = .row s r') ∧ ∀ x, σ id (some (i, j)) = some x → σ' id (some (i, j)) = some x))
theorem ObLe.refl (σ : Sg) (id : Nat) (o : Ob) : ObLe σ σ id o o :=
  ⟨fun m' h => ⟨m', h, Nat.le_refl _, fun _ => ⟨rfl, fun _ h => h, fun fl sz es he => ⟨fl, es, he, fun i j e c v h1 h2 h3 => ⟨e, c, v, h1, h2, h3, Nat.le_refl _, fun _ => ⟨fun s r h => ⟨r, h⟩, fun _ h => h⟩⟩⟩⟩⟩⟩
theorem ObLe.trans {σ σ' σ'' : Sg} {id : Nat} {o o' o'' : Ob} (h : ObLe σ σ' id o o') (k : ObLe σ' σ'' id o' o'') : ObLe σ σ'' id o o'' := by
  refine ⟨fun m'' hm => ?_⟩
  obtain ⟨m', h1, l1, k1⟩ := k.cnt m'' hm
  obtain ⟨m, h2, l2, k2⟩ := h.cnt m' h1
  refine ⟨m, h2, Nat.le_trans l2 l1, fun e => ?_⟩
  have e1 : m' = m'' := by omega
  have e2 : m = m' := by omega
  obtain ⟨a1, a2, a3⟩ := k1 e1
  obtain ⟨b1, b2, b3⟩ := k2 e2
  refine ⟨a1.trans b1, fun x hx => a2 x (b2 x hx), fun fl sz es he => ?_⟩
  obtain ⟨fl', es', he', r1⟩ := b3 fl sz es he
  obtain ⟨fl'', es'', he'', r2⟩ := a3 fl' sz es' he'
  refine ⟨fl'', es'', he'', fun i j e c v hi hj hv => ?_⟩
  obtain ⟨e', c', v', p1, p2, p3, p4, p5⟩ := r1 i j e c v hi hj hv
  obtain ⟨e'', c'', v'', q1, q2, q3, q4, q5⟩ := r2 i j e' c' v' p1 p2 p3
  refine ⟨e'', c'', v'', q1, q2, q3, Nat.le_trans p4 q4, fun hvv => ?_⟩
  obtain ⟨a1, a2⟩ := p5 (by omega)
  obtain ⟨b1, b2⟩ := q5 (by omega)
  refine ⟨fun s r hc => ?_, fun x hx => b2 x (a2 x hx)⟩
  obtain ⟨r', h'⟩ := a1 s r hc
  exact b1 s r' h'

structure Le (w : World) (F : Nat → Prop) (σ : Sg) (M : Mem) (w' : World) (F' : Nat → Prop) (σ' : Sg) (M' : Mem) : Prop where
  fF : ∀ b, F b → F' b
  same : ∀ b, F b → w'.heap[b]? = w.heap[b]?
  obj : ∀ id o, M id = some o → ∃ o', M' id = some o' ∧ ObLe σ σ' id o o'
  row : ∀ b k, Row w b k → Row w' b k
theorem Le.refl (w : World) (F : Nat → Prop) (σ : Sg) (M : Mem) : Le w F σ M w F σ M :=
  ⟨fun _ h => h, fun _ _ => rfl, fun id o h => ⟨o, h, ObLe.refl _ _ _⟩, fun _ _ h => h⟩
theorem Le.trans {w w' w'' : World} {F F' F'' : Nat → Prop} {σ σ' σ'' : Sg} {M M' M'' : Mem} (h : Le w F σ M w' F' σ' M') (k : Le w' F' σ' M' w'' F'' σ'' M'') : Le w F σ M w'' F'' σ'' M'' :=
  ⟨fun b hb => k.fF b (h.fF b hb), fun b hb => (k.same b (h.fF b hb)).trans (h.same b hb), fun id o ho => by
    obtain ⟨o', h1, h2⟩ := h.obj id o ho
    obtain ⟨o'', k1, k2⟩ := k.obj id o' h1
    exact ⟨o'', k1, h2.trans k2⟩, fun b n hr => k.row b n (h.row b n hr)⟩

theorem cell_same {w w' : World} {b i : Nat} (h : w'.heap[b]? = w.heap[b]?) : w'.cell? ⟨b, i, none⟩ = w.cell? ⟨b, i, none⟩ := by simp [World.cell?, h]
theorem RepT.mono {w w' : World} {F F' : Nat → Prop} (hF : ∀ b, F b → F' b) (hs : ∀ b, F b → w'.heap[b]? = w.heap[b]?) {x : T} {c : Value} (h : RepT w F x c) : RepT w' F' x c := by
  induction h with
  | bool b => exact .bool b
  | int k n => exact .int k n
  | str s => exact .str s
  | nilp => exact .nilp
  | ptr h1 h2 h3 ih => exact .ptr (hF _ h1) (fun i t hi => by rw [cell_same (hs _ h1)]; exact h2 i t hi) ih
  | nils => exact .nils
  | seq0 sz a cap => exact .seq0 sz a cap
  | seq h1 h2 h3 h4 h5 ih => exact .seq (hF _ h1) h2 h3 (fun i j e t hi hj => by rw [cell_same (hs _ h1)]; exact h4 i j e t hi hj) ih
  | nilf => exact .nilf
  | nili => exact .nili
  | any c h => exact .any c h
  | sn a cap => exact .sn a cap
  | clo h1 h2 ih => exact .clo h1 ih
theorem RepV.mono {w w' : World} {F F' : Nat → Prop} {σ σ' : Sg} {M M' : Mem} (le : Le w F σ M w' F' σ' M') {v : V} {c : Value} (h : RepV w F σ M v c) : RepV w' F' σ' M' v c := by
  induction h with
  | undef c => exact .undef c
  | t h => exact .t (h.mono le.fF le.same)
  | ptr ho h =>
    rename_i id n i off a o
    obtain ⟨o', h1, h2⟩ := le.obj _ _ ho
    refine .ptr h1 fun m' hm => ?_
    obtain ⟨m, e1, e2, e3⟩ := h2.cnt m' hm
    obtain ⟨k1, k2⟩ := h m e1
    refine ⟨by omega, fun e => ?_⟩
    obtain ⟨s1, s2, _⟩ := e3 (by omega)
    obtain ⟨b, o0, q1, q2⟩ := k2 (by omega)
    exact ⟨b, o0, s2 _ q1, by rw [s1]; exact q2⟩
  | vec ho hl hc ha h =>
    rename_i id n sz off len a cap o
    obtain ⟨o', h1, h2⟩ := le.obj _ _ ho
    refine .vec h1 hl hc ha fun m' hm => ?_
    obtain ⟨m, e1, e2, e3⟩ := h2.cnt m' hm
    obtain ⟨k1, k2⟩ := h m e1
    refine ⟨by omega, fun e => ?_⟩
    obtain ⟨s1, s2, s3⟩ := e3 (by omega)
    obtain ⟨fl, es, q1, q4⟩ := k2 (by omega)
    obtain ⟨fl', es', r1, _⟩ := s3 _ _ _ q1
    refine ⟨fl', es', r1, fun hc => ?_⟩
    obtain ⟨b, o0, t1, t2, t3⟩ := q4 hc
    exact ⟨b, o0, s2 _ t1, t2, le.row _ _ t3⟩
  | row ho ha h =>
    rename_i id n i j sz len a cap o
    obtain ⟨o', h1, h2⟩ := le.obj _ _ ho
    refine .row h1 ha fun m' hm => ?_
    obtain ⟨m, e1, e2, e3⟩ := h2.cnt m' hm
    obtain ⟨k1, k2⟩ := h m e1
    refine ⟨by omega, fun e => ?_⟩
    obtain ⟨s1, s2, s3⟩ := e3 (by omega)
    obtain ⟨fl, s0, es, e, x, v, q1, q2, q3, q4, q5, q6⟩ := k2 (by omega)
    obtain ⟨fl', es', r1, r2⟩ := s3 _ _ _ q1
    obtain ⟨e', x', v', t1, t2, t3, t4, t5⟩ := r2 i j e x v q2 q3 q4
    refine ⟨fl', s0, es', e', x', v', r1, t1, t2, t3, by omega, fun hv => ?_⟩
    obtain ⟨r, rfl, p2, p3, p4⟩ := q6 (by omega)
    obtain ⟨z1, z2⟩ := t5 (by omega)
    obtain ⟨r', rfl⟩ := z1 _ _ rfl
    have : r'.length = len := by
      have := Option.some.inj t3
      omega
    refine ⟨r', rfl, this, p3, fun hl => ?_⟩
    obtain ⟨b, o0, u1, u2, u3⟩ := p4 hl
    exact ⟨b, o0, z2 _ u1, u2, le.row _ _ u3⟩
  | rptr ho h =>
    rename_i id n i j l e off a o
    obtain ⟨o', h1, h2⟩ := le.obj _ _ ho
    refine .rptr h1 fun m' hm => ?_
    obtain ⟨m, e1, e2, e3⟩ := h2.cnt m' hm
    obtain ⟨k1, k2⟩ := h m e1
    refine ⟨by omega, fun en => ?_⟩
    obtain ⟨s1, s2, s3⟩ := e3 (by omega)
    obtain ⟨fl, s0, es, el, x, v, q1, q2, q3, q4, q5, q6⟩ := k2 (by omega)
    obtain ⟨fl', es', r1, r2⟩ := s3 _ _ _ q1
    obtain ⟨e', x', v', t1, t2, t3, t4, t5⟩ := r2 i j el x v q2 q3 q4
    refine ⟨fl', s0, es', e', x', v', r1, t1, t2, t3, by omega, fun hv => ?_⟩
    obtain ⟨sz, r, b, o0, rfl, p2, p3, p4, p5⟩ := q6 (by omega)
    obtain ⟨z1, z2⟩ := t5 (by omega)
    obtain ⟨r', rfl⟩ := z1 _ _ rfl
    have : r'.length = l := by
      have := Option.some.inj t3
      omega
    exact ⟨sz, r', b, o0, rfl, this, p3, z2 _ p4, p5⟩
  | agg hl _ ih => exact .agg hl ih
  | tup hl _ ih => exact .tup hl ih
  | clo hl _ ih => exact .clo hl ih
theorem RepR.mono {w w' : World} {F F' : Nat → Prop} (hF : ∀ b, F b → F' b) (hs : ∀ b, F b → w'.heap[b]? = w.heap[b]?) {b o sz : Nat} {es : List (List T)} (hb : w'.heap[b]? = w.heap[b]?)
    (h : RepR w F b o sz es) : RepR w' F' b o sz es := by
  obtain ⟨cur, ty, h1, h2⟩ := h
  refine ⟨cur, ty, by rw [hb]; exact h1, fun i j e t hi hj => ?_⟩
  obtain ⟨u, k1, k2⟩ := h2 i j e t hi hj
  exact ⟨u, k1, k2.mono hF hs⟩

structure Fr (w : World) (F : Nat → Prop) (σ : Sg) (M : Mem) (w' : World) (F' : Nat → Prop) (σ' : Sg) (M' : Mem) : Prop where
  os : w'.os = w.os
  tape : w'.tape = w.tape
  output : w'.output = w.output
  size : w.heap.size ≤ w'.heap.size
  block : ∀ b, b < w.heap.size → ¬ Own σ M b → w'.heap[b]? = w.heap[b]?
  fF : ∀ b, F' b → F b ∨ Own σ M b ∨ w.heap.size ≤ b
  own : ∀ b, Own σ' M' b → Own σ M b ∨ w.heap.size ≤ b
theorem Fr.refl (w : World) (F : Nat → Prop) (σ : Sg) (M : Mem) : Fr w F σ M w F σ M :=
  ⟨rfl, rfl, rfl, Nat.le_refl _, fun _ _ _ => rfl, fun _ h => .inl h, fun _ h => .inl h⟩
theorem Fr.trans {w w' w'' : World} {F F' F'' : Nat → Prop} {σ σ' σ'' : Sg} {M M' M'' : Mem} (h : Fr w F σ M w' F' σ' M') (k : Fr w' F' σ' M' w'' F'' σ'' M'') : Fr w F σ M w'' F'' σ'' M'' := by
  refine ⟨k.os.trans h.os, k.tape.trans h.tape, k.output.trans h.output, Nat.le_trans h.size k.size, fun b hb ho => ?_, fun b hb => ?_, fun b hb => ?_⟩
  · refine (k.block b (Nat.lt_of_lt_of_le hb h.size) fun hk => ?_).trans (h.block b hb ho)
    rcases h.own b hk with h1 | h1
    · exact ho h1
    · omega
  · rcases k.fF b hb with h1 | h1 | h1
    · exact h.fF b h1
    · rcases h.own b h1 with h2 | h2
      · exact .inr (.inl h2)
      · exact .inr (.inr h2)
    · exact .inr (.inr (Nat.le_trans h.size h1))
  · rcases k.own b hb with h1 | h1
    · exact h.own b h1
    · exact .inr (Nat.le_trans h.size h1)

structure Step (w : World) (F : Nat → Prop) (σ : Sg) (M : Mem) (w' : World) (F' : Nat → Prop) (σ' : Sg) (M' : Mem) : Prop where
  le : Le w F σ M w' F' σ' M'
  wf : Wf w' F' σ' M'
  fr : Fr w F σ M w' F' σ' M'
theorem Step.refl {w : World} {F : Nat → Prop} {σ : Sg} {M : Mem} (h : Wf w F σ M) : Step w F σ M w F σ M := ⟨.refl .., h, .refl ..⟩
theorem Step.trans {w w' w'' : World} {F F' F'' : Nat → Prop} {σ σ' σ'' : Sg} {M M' M'' : Mem} (h : Step w F σ M w' F' σ' M') (k : Step w' F' σ' M' w'' F'' σ'' M'') : Step w F σ M w'' F'' σ'' M'' :=
  ⟨h.le.trans k.le, k.wf, h.fr.trans k.fr⟩
structure St (w : World) (F : Nat → Prop) (σ : Sg) (s : S) (a : Act) : Prop where
  wf : Wf w F σ s.mem
  env : ∀ t, RepV w F σ s.mem (s.env t) (a.tmps.getD t Go.undef)
end Go.Ev

namespace Go.Ev
set_option linter.unusedVariables false
set_option linter.unusedSimpArgs false
section
variable {R R' : Type} (pr : Pr) (E : Q → Option Out)
theorem callE_bind (f : FuncId) (args : List V) (M : Mem) (nb : Nat) (K : V → Mem → Option R) :
    callE pr E f args M nb K = (callE pr E f args M nb fun v M => some (v, M)).bind fun p => K p.1 p.2 := by
  unfold callE
  repeat' (first
    | rfl
    | (rw [Option.bind_assoc]; refine congrArg _ (funext fun _ => ?_))
    | split
    | simp only [Bool.cond_eq_ite])
theorem callV_bind (fv : V) (args : List V) (M : Mem) (nb : Nat) (K : V → Mem → Option R) :
    callV pr E fv args M nb K = (callV pr E fv args M nb fun v M => some (v, M)).bind fun p => K p.1 p.2 := by
  unfold callV
  split <;> first | exact callE_bind .. | rfl
theorem opK_bind (nest : Bool) (o : Oper) (s : S) (K : V → Mem → Option R) :
    opK pr E nest o s K = (opK pr E nest o s fun v M => some (v, M)).bind fun p => K p.1 p.2 := by
  unfold opK
  dsimp only
  repeat' (first
    | rfl
    | exact callE_bind ..
    | exact callV_bind ..
    | (rw [Option.bind_assoc]; refine congrArg _ (funext fun _ => ?_))
    | split
    | simp only [Bool.cond_eq_ite])
theorem opFK_bind (frz : List Nat) (nest : Bool) (o : Oper) (s : S) (K : V → Mem → Option R) :
    opFK pr E frz nest o s K = (opFK pr E frz nest o s fun v M => some (v, M)).bind fun p => K p.1 p.2 := by
  unfold opFK
  cases (o.dst.any fun d => frz.contains d) with
  | false => exact opK_bind ..
  | true =>
    simp only [cond_true]
    rw [opK_bind]
    conv => rhs; rw [opK_bind]
    rw [Option.bind_assoc]
    refine congrArg _ (funext fun p => ?_)
    rw [Option.bind_assoc]
    refine congrArg _ (funext fun q => ?_)
    rw [Option.bind_assoc]
    refine congrArg _ (funext fun L => ?_)
    cases L.all (fun id => bound o ≤ id && id < bound o + 8) <;> rfl
theorem fin_bind (nt : Nat) (o : Oper) (s : S) (v : V) (M : Mem) (K : S → Option R) : fin nt o s v M K = (fin nt o s v M some).bind K := by
  unfold fin
  split
  · split <;> rfl
  · rfl
theorem op1K_bind (nt : Nat) (frz : List Nat) (nest : Bool) (ops : Array Oper) (o : Oper) (s : S) (K : S → Option R) :
    op1K pr E nt frz nest ops o s K = (op1K pr E nt frz nest ops o s some).bind K := by
  unfold op1K
  split
  · rw [opFK_bind]
    conv => rhs; rw [opFK_bind]
    rw [Option.bind_assoc]
    exact congrArg _ (funext fun p => fin_bind ..)
  · rw [Option.bind_assoc]
    refine congrArg _ (funext fun y => ?_)
    rw [Option.bind_assoc]
    exact congrArg _ (funext fun p => fin_bind ..)
theorem opsK_bind (nt : Nat) (frz : List Nat) (nest : Bool) (ops : Array Oper) (K : S → Option R) : ∀ (l : List Nat) (s : S),
    opsK pr E nt frz nest ops l s K = (opsK pr E nt frz nest ops l s some).bind K
  | [], s => rfl
  | i :: r, s => by
    simp only [opsK]
    split
    · rw [op1K_bind, op1K_bind (R := S) (K := fun s' => opsK pr E nt frz nest ops r s' some), Option.bind_assoc]
      exact congrArg _ (funext fun s' => opsK_bind nt frz nest ops K r s')
    · rfl
theorem opsD_bind (nt : Nat) (frz : List Nat) (nest : Bool) (ops : Array Oper) (bm : Array Nat) (K : S → Option R) : ∀ (l : List Nat) (log : List (Nat × Lg)) (s : S),
    opsD pr E nt frz nest ops bm l log s K = (opsD pr E nt frz nest ops bm l log s some).bind K
  | [], log, s => rfl
  | i :: r, log, s => by
    simp only [opsD]
    split
    · rw [Option.bind_assoc]
      refine congrArg _ (funext fun y => ?_)
      rw [Option.bind_assoc]
      refine congrArg _ (funext fun t => ?_)
      rw [op1K_bind, op1K_bind (R := S) (K := fun s' => bif clear bm i (mkLg pr frz _ y s.env t s.mem s'.mem) log then opsD pr E nt frz nest ops bm r ((i, (mkLg pr frz _ y s.env t s.mem s'.mem)) :: log) s' some else none), Option.bind_assoc]
      refine congrArg _ (funext fun s' => ?_)
      generalize mkLg pr frz _ y s.env t s.mem s'.mem = lg
      cases clear bm i lg log with
      | true => exact opsD_bind nt frz nest ops bm K r _ s'
      | false => rfl
    · rfl
theorem exec_bind (f : FuncId) (nt : Nat) (frz : List Nat) (nest : Bool) : ∀ (x : Ann) (c : Code) (s : S) (R : Type) (K : Out → Option R),
    exec pr E f nt frz nest x c s K = (exec pr E f nt frz nest x c s some).bind K
  | .cut live x, c, s, R, K => by simp only [exec]; exact exec_bind f nt frz nest x c _ R K
  | .seq x y, c, s, R, K => by
    cases c <;> simp only [exec, Option.bind_none]
    rename_i a b
    rw [exec_bind f nt frz nest x a s R]
    conv => rhs; rw [exec_bind f nt frz nest x a s Out]
    rw [Option.bind_assoc]
    refine congrArg _ (funext fun o => ?_)
    cases o <;> first | rfl | exact exec_bind f nt frz nest y b _ R K
  | .cond x y, c, s, R, K => by
    cases c <;> simp only [exec, Option.bind_none]
    rename_i c a b
    rw [Option.bind_assoc]
    refine congrArg _ (funext fun v => ?_)
    split
    · rename_i t; cases t
      · exact exec_bind f nt frz nest y b s R K
      · exact exec_bind f nt frz nest x a s R K
    · rfl
  | .block x, c, s, R, K => by
    cases c <;> simp only [exec, Option.bind_none]
    rename_i id c
    rw [exec_bind f nt frz nest x c s R]
    conv => rhs; rw [exec_bind f nt frz nest x c s Out]
    rw [Option.bind_assoc]
    refine congrArg _ (funext fun o => ?_)
    cases o <;> first | rfl | (dsimp only; split <;> rfl)
  | .loop live after rets thaw x, c, s, R, K => by
    cases c <;> simp only [exec, Option.bind_none]
    rename_i c
    cases loopE E ⟨f, live, after, rets, thaw, x, c⟩ s <;> rfl
  | .n, c, s, R, K => by
    cases c with
    | region id ops draw =>
      cases draw
      · simp only [exec]
        rw [opsK_bind]
        conv => rhs; rw [opsK_bind]
        rw [Option.bind_assoc]; rfl
      · simp only [exec]
        cases drawOk ops
        · rfl
        · simp only [cond_true]
          rw [opsD_bind]
          conv => rhs; rw [opsD_bind]
          rw [Option.bind_assoc]; rfl
    | _ => first | rfl | simp only [exec, Option.bind_none, Option.bind_some]
end
end Go.Ev

namespace Go.Ev
set_option linter.unusedVariables false
set_option linter.unusedSimpArgs false

theorem RepC.mono {w w' : World} {F F' : Nat → Prop} (hF : ∀ b, F b → F' b) (hs : ∀ b, F b → w'.heap[b]? = w.heap[b]?) {s : Option (Nat × Nat)} {c : C} {u : Value}
    (hb : ∀ b o, s = some (b, o) → (∃ n l, c = .row n l) → w'.heap[b]? = w.heap[b]?) (h : RepC w F s c u) : RepC w' F' s c u := by
  cases h with
  | t h => exact .t (h.mono hF hs)
  | row hcap h0 hsz h =>
    refine .row hcap h0 hsz fun hne => ?_
    obtain ⟨b, o, h1, h2, h3, c, e, h4, h5⟩ := h hne
    have hb' := hb b o h1 ⟨_, _, rfl⟩
    exact ⟨b, o, h1, h2, h3.mono hF hs hb', c, e, by rw [hb']; exact h4, h5⟩
  | gone k u h => exact .gone k u h
theorem RepO.mono {w w' : World} {F F' : Nat → Prop} {σ σ' : Sg} {M M' : Mem} (le : Le w F σ M w' F' σ' M') {id : Nat} {o : Ob} (hid : M id = some o)
    (hσ : ∀ p, σ' id p = σ id p) (hb : ∀ p b o0, Live M id p → σ id p = some (b, o0) → w'.heap[b]? = w.heap[b]?) (h : RepO w F σ M id o) : RepO w' F' σ' M' id o := by
  cases h with
  | dead => exact .dead
  | box hs hh h =>
    refine .box (by rw [hσ]; exact hs) (by rw [hb none _ _ ⟨_, hid, by simp⟩ hs]; exact hh) fun i v hi => ?_
    obtain ⟨u, h1, h2⟩ := h i v hi
    exact ⟨u, h1, h2.mono le⟩
  | vec h0 hsz hfl h =>
    refine .vec h0 hsz hfl fun hne => ?_
    obtain ⟨b, o0, cur, ty, h1, h2, h3⟩ := h hne
    refine ⟨b, o0, cur, ty, by rw [hσ]; exact h1, by rw [hb none _ _ ⟨_, hid, by simp⟩ h1]; exact h2, fun i j e c hi hj => ?_⟩
    obtain ⟨u, k1, k2⟩ := h3 i j e c hi hj
    refine ⟨u, k1, ?_⟩
    rw [hσ]
    refine k2.mono le.fF le.same fun b o hs hc => ?_
    obtain ⟨n, l, rfl⟩ := hc
    exact hb (some (i, j)) b o ⟨_, _, _, _, _, _, hid, hi, hj⟩ hs

theorem upd_same {α : Type} (f : Nat → α) (i : Nat) (x : α) : upd f i x i = x := by simp [upd]
theorem upd_ne {α : Type} (f : Nat → α) {i j : Nat} (x : α) (h : j ≠ i) : upd f i x j = f j := by simp [upd, h]
theorem live_upd_ne {M : Mem} {id id' : Nat} {o : Option Ob} {p : Option (Nat × Nat)} (h : id' ≠ id) : Live (upd M id o) id' p ↔ Live M id' p := by
  cases p <;> simp [Live, upd_ne M o h]
theorem row_setRow {w : World} {b k g : Nat} {cur cur' : Array Value} {ty : TypeId} (hg : w.heap[g]? = some (.cells cur ty (0, 0))) (hs : cur'.size = cur.size) (h : Row w b k) : Row (w.setRow g cur') b k := by
  obtain ⟨c, e, h1, h2⟩ := h
  by_cases hb : b = g
  · subst hb
    rw [hg] at h1
    obtain ⟨rfl, rfl⟩ : cur = c ∧ ty = e := by simpa using h1
    exact ⟨cur', ty, setRow_heap w b cur cur' ty _ hg, by omega⟩
  · exact ⟨c, e, by rw [setRow_other w g b cur' hb]; exact h1, h2⟩

theorem step_store {w : World} {F : Nat → Prop} {σ : Sg} {M : Mem} (wf : Wf w F σ M) {id : Nat} {o o' : Ob} {p : Option (Nat × Nat)} {b o0 : Nat} {cur cur' : Array Value} {ty : TypeId}
    (hid : M id = some o) (hp : Live M id p) (hσ : σ id p = some (b, o0)) (hb : w.heap[b]? = some (.cells cur ty (0, 0))) (hs : cur'.size = cur.size)
    (hle : ObLe σ σ id o o') (hlive : ∀ q, Live (upd M id (some o')) id q → Live M id q)
    (hrep : Le w F σ M (w.setRow b cur') F σ (upd M id (some o')) → RepO (w.setRow b cur') F σ (upd M id (some o')) id o') :
    Step w F σ M (w.setRow b cur') F σ (upd M id (some o')) := by
  have hF : ∀ b', F b' → b' ≠ b := fun b' h e => (wf.row id p b o0 hp hσ).1 (e ▸ h)
  have lv : ∀ id' q, Live (upd M id (some o')) id' q → Live M id' q := fun id' q h => by
    by_cases e : id' = id
    · subst e; exact hlive q h
    · exact (live_upd_ne e).1 h
  have le : Le w F σ M (w.setRow b cur') F σ (upd M id (some o')) := by
    refine ⟨fun _ h => h, fun b' h => setRow_other w b b' cur' (hF b' h), fun id' o1 h => ?_, fun _ _ h => row_setRow hb hs h⟩
    by_cases e : id' = id
    · subst e
      rw [hid] at h
      obtain rfl := Option.some.inj h
      exact ⟨o', upd_same .., hle⟩
    · exact ⟨o1, by rw [upd_ne M _ e]; exact h, ObLe.refl _ _ _⟩
  refine ⟨le, ⟨fun id' o1 h => ?_, fun id1 p1 id2 p2 b1 a1 a2 h1 h2 k1 k2 => wf.inj id1 p1 id2 p2 b1 a1 a2 (lv _ _ h1) (lv _ _ h2) k1 k2, fun id1 p1 b1 a1 h1 k1 => ?_, fun b1 h1 => by simpa using wf.lt b1 h1⟩, ?_⟩
  · by_cases e : id' = id
    · subst e
      rw [upd_same] at h
      obtain rfl := Option.some.inj h
      exact hrep le
    · rw [upd_ne M _ e] at h
      refine (wf.obj id' o1 h).mono le h (fun _ => rfl) fun q b1 a1 hq hk => setRow_other w b b1 cur' fun eb => e ?_
      subst eb
      exact (wf.inj id' q id p b1 a1 o0 hq hp hk hσ).1
  · obtain ⟨h2, c, e, h3⟩ := wf.row id1 p1 b1 a1 (lv _ _ h1) k1
    refine ⟨h2, ?_⟩
    by_cases eb : b1 = b
    · subst eb; exact ⟨cur', ty, setRow_heap w b1 cur cur' ty _ hb⟩
    · exact ⟨c, e, by rw [setRow_other w b b1 cur' eb]; exact h3⟩
  · refine ⟨rfl, rfl, rfl, by simp, fun b1 _ ho => setRow_other w b b1 cur' fun e => ho ?_, fun b1 h => .inl h, fun b1 ⟨id1, p1, a1, h1, h2⟩ => .inl ⟨id1, p1, a1, lv _ _ h1, h2⟩⟩
    subst e
    exact ⟨id, p, o0, hp, hσ⟩

def sgNew (σ : Sg) (nb : Nat) (x : Option (Nat × Nat)) : Sg := fun id p => if id = nb then (match p with | none => x | some _ => none) else σ id p
theorem sgNew_ne {σ : Sg} {nb id : Nat} {x : Option (Nat × Nat)} (h : id ≠ nb) (p : Option (Nat × Nat)) : sgNew σ nb x id p = σ id p := by simp [sgNew, h]
theorem sgNew_at (σ : Sg) (nb : Nat) (x : Option (Nat × Nat)) : sgNew σ nb x nb none = x := by simp [sgNew]
theorem step_new {w w' : World} {F : Nat → Prop} {σ : Sg} {M : Mem} (wf : Wf w F σ M) {nb : Nat} {o : Ob} {x : Option (Nat × Nat)} (hn : M nb = none)
    (hos : w'.os = w.os) (htape : w'.tape = w.tape) (hout : w'.output = w.output) (hsize : w.heap.size ≤ w'.heap.size) (hblock : ∀ b, b < w.heap.size → w'.heap[b]? = w.heap[b]?)
    (hx : ∀ b o0, x = some (b, o0) → w.heap.size ≤ b ∧ ∃ cur ty, w'.heap[b]? = some (.cells cur ty (0, 0)))
    (hlive : ∀ q, Live (upd M nb (some o)) nb q → q = none)
    (hrep : Le w F σ M w' F (sgNew σ nb x) (upd M nb (some o)) → RepO w' F (sgNew σ nb x) (upd M nb (some o)) nb o) :
    Step w F σ M w' F (sgNew σ nb x) (upd M nb (some o)) := by
  have old : ∀ id p b a, Live M id p → σ id p = some (b, a) → b < w.heap.size := fun id p b a h k => by
    obtain ⟨_, c, e, h3⟩ := wf.row id p b a h k
    exact (Array.getElem?_eq_some_iff.1 h3).1
  have le : Le w F σ M w' F (sgNew σ nb x) (upd M nb (some o)) := by
    refine ⟨fun _ h => h, fun b h => hblock b (wf.lt b h), fun id o1 h => ?_, fun b k ⟨c, e, h1, h2⟩ => ⟨c, e, by rw [hblock b (Array.getElem?_eq_some_iff.1 h1).1]; exact h1, h2⟩⟩
    have e : id ≠ nb := fun e => by subst e; rw [hn] at h; cases h
    refine ⟨o1, by rw [upd_ne M _ e]; exact h, ⟨fun m' h' => ⟨m', h', Nat.le_refl _, fun _ => ⟨rfl, fun y hy => by rw [sgNew_ne e]; exact hy, fun fl sz es he => ⟨fl, es, he, fun i j e1 c0 v0 h1 h2 h0v => ⟨e1, c0, v0, h1, h2, h0v, Nat.le_refl _, fun _ => ⟨fun _ r0 h0c => ⟨r0, h0c⟩, fun y hy => by rw [sgNew_ne e]; exact hy⟩⟩⟩⟩⟩⟩⟩
  refine ⟨le, ⟨fun id o1 h => ?_, fun id1 p1 id2 p2 b1 a1 a2 h1 h2 k1 k2 => ?_, fun id1 p1 b1 a1 h1 k1 => ?_, fun b1 h1 => Nat.lt_of_lt_of_le (wf.lt b1 h1) hsize⟩, ?_⟩
  · by_cases e : id = nb
    · subst e
      rw [upd_same] at h
      obtain rfl := Option.some.inj h
      exact hrep le
    · rw [upd_ne M _ e] at h
      exact (wf.obj id o1 h).mono le h (fun p => sgNew_ne e p) fun q b1 a1 hq hk => hblock b1 (old _ _ _ _ hq hk)
  · by_cases e1 : id1 = nb <;> by_cases e2 : id2 = nb
    · subst e1; subst e2
      exact ⟨rfl, (hlive _ h1).trans (hlive _ h2).symm⟩
    · subst e1
      obtain rfl := hlive _ h1
      rw [sgNew_at] at k1
      rw [sgNew_ne e2] at k2
      have := old _ _ _ _ ((live_upd_ne e2).1 h2) k2
      have := (hx _ _ k1).1
      omega
    · subst e2
      obtain rfl := hlive _ h2
      rw [sgNew_at] at k2
      rw [sgNew_ne e1] at k1
      have := old _ _ _ _ ((live_upd_ne e1).1 h1) k1
      have := (hx _ _ k2).1
      omega
    · rw [sgNew_ne e1] at k1
      rw [sgNew_ne e2] at k2
      exact wf.inj _ _ _ _ _ _ _ ((live_upd_ne e1).1 h1) ((live_upd_ne e2).1 h2) k1 k2
  · by_cases e1 : id1 = nb
    · subst e1
      obtain rfl := hlive _ h1
      rw [sgNew_at] at k1
      obtain ⟨h2, h3⟩ := hx _ _ k1
      exact ⟨fun hF => by have := wf.lt _ hF; omega, h3⟩
    · rw [sgNew_ne e1] at k1
      obtain ⟨h2, c, e, h3⟩ := wf.row _ _ _ _ ((live_upd_ne e1).1 h1) k1
      exact ⟨h2, c, e, by rw [hblock b1 (Array.getElem?_eq_some_iff.1 h3).1]; exact h3⟩
  · refine ⟨hos, htape, hout, hsize, fun b hb _ => hblock b hb, fun b h => .inl h, fun b ⟨id1, p1, a1, h1, h2⟩ => ?_⟩
    by_cases e1 : id1 = nb
    · subst e1
      obtain rfl := hlive _ h1
      rw [sgNew_at] at h2
      exact .inr (hx _ _ h2).1
    · rw [sgNew_ne e1] at h2
      exact .inl ⟨id1, p1, a1, (live_upd_ne e1).1 h1, h2⟩

def killF (F : Nat → Prop) (σ : Sg) (M : Mem) (L : List Nat) : Nat → Prop := fun b => F b ∨ ∃ id p o, id ∈ L ∧ Live M id p ∧ σ id p = some (b, o)
theorem live_kill {M : Mem} {L : List Nat} {id : Nat} {p : Option (Nat × Nat)} (h : Live (killL L M) id p) : id ∉ L ∧ Live M id p := by
  have key : ∀ o, killL L M id = some o → o ≠ .dead → id ∉ L ∧ M id = some o := fun o h1 h2 => by
    unfold killL at h1
    split at h1
    · exact absurd (Option.some.inj h1).symm h2
    · rename_i hc
      exact ⟨by simpa using hc, h1⟩
  cases p with
  | none => obtain ⟨o, h1, h2⟩ := h; exact ⟨(key o h1 h2).1, o, (key o h1 h2).2, h2⟩
  | some q =>
    obtain ⟨i, j⟩ := q
    obtain ⟨fl, sz, es, e, s, r, h1, h2, h3⟩ := h
    exact ⟨(key _ h1 (by simp)).1, fl, sz, es, e, s, r, (key _ h1 (by simp)).2, h2, h3⟩
theorem step_kill {w : World} {F : Nat → Prop} {σ : Sg} {M : Mem} (wf : Wf w F σ M) (L : List Nat) : Step w F σ M w (killF F σ M L) σ (killL L M) := by
  have le : Le w F σ M w (killF F σ M L) σ (killL L M) := by
    refine ⟨fun _ h => .inl h, fun _ _ => rfl, fun id o h => ?_, fun _ _ h => h⟩
    by_cases hc : L.contains id = true
    · exact ⟨.dead, by simp only [killL, hc, if_true], ⟨fun m' h' => by cases h'⟩⟩
    · exact ⟨o, by unfold killL; rw [if_neg hc]; exact h, ObLe.refl _ _ _⟩
  refine ⟨le, ⟨fun id o h => ?_, fun id1 p1 id2 p2 b1 a1 a2 h1 h2 k1 k2 => wf.inj _ _ _ _ _ _ _ (live_kill h1).2 (live_kill h2).2 k1 k2, fun id1 p1 b1 a1 h1 k1 => ?_, fun b1 h1 => ?_⟩, ?_⟩
  · unfold killL at h
    split at h
    · obtain rfl := Option.some.inj h
      exact .dead
    · exact (wf.obj id o h).mono le h (fun _ => rfl) fun _ _ _ _ _ => rfl
  · obtain ⟨n1, l1⟩ := live_kill h1
    refine ⟨fun hF => ?_, (wf.row _ _ _ _ l1 k1).2⟩
    rcases hF with hF | ⟨id, p, o, hm, hl, hs⟩
    · exact (wf.row _ _ _ _ l1 k1).1 hF
    · have := (wf.inj _ _ _ _ _ _ _ l1 hl k1 hs).1
      exact n1 (this ▸ hm)
  · rcases h1 with h1 | ⟨id, p, o, hm, hl, hs⟩
    · exact wf.lt b1 h1
    · obtain ⟨_, c, e, h3⟩ := wf.row _ _ _ _ hl hs
      exact (Array.getElem?_eq_some_iff.1 h3).1
  · refine ⟨rfl, rfl, rfl, Nat.le_refl _, fun _ _ _ => rfl, fun b h => ?_, fun b ⟨id1, p1, a1, h1, h2⟩ => .inl ⟨id1, p1, a1, (live_kill h1).2, h2⟩⟩
    rcases h with h | ⟨id, p, o, hm, hl, hs⟩
    · exact .inl h
    · exact .inr (.inl ⟨id, p, o, hl, hs⟩)
end Go.Ev

namespace Go.Ev
set_option linter.unusedVariables false
set_option linter.unusedSimpArgs false
section
variable {w : World} {F : Nat → Prop} {σ : Sg} {M : Mem}
theorem repT_ofCell {v : Value} {x : T} (h : ofCell v = some x) : RepT w F x v := by
  unfold ofCell at h
  split at h <;> first | (cases h; constructor) | cases h
theorem mapM_some_get {α β : Type} {f : α → Option β} : ∀ {l : List α} {r : List β}, l.mapM f = some r → r.length = l.length ∧ ∀ (i : Nat) (b : β), r[i]? = some b → ∃ a, l[i]? = some a ∧ f a = some b
  | [], r, h => by
    simp at h; subst h; exact ⟨rfl, fun i b hb => by simp at hb⟩
  | a :: l, r, h => by
    rw [List.mapM_cons] at h
    obtain ⟨b, hb, h⟩ := Option.bind_eq_some_iff.1 h
    obtain ⟨r', hr, h⟩ := Option.bind_eq_some_iff.1 h
    obtain rfl := Option.some.inj h
    obtain ⟨h1, h2⟩ := mapM_some_get hr
    refine ⟨by simp [h1], fun i c hc => ?_⟩
    cases i with
    | zero => exact ⟨a, rfl, by simpa using (by simpa using hc ▸ hb : f a = some c)⟩
    | succ i => exact h2 i c (by simpa using hc)
theorem repV_ofVal {v : Value} {x : V} (h : ofVal v = some x) : RepV w F σ M x v := by
  unfold ofVal at h
  split at h
  · rename_i cs
    obtain ⟨l, hl, rfl⟩ := Option.map_eq_some_iff.1 h
    obtain ⟨h1, h2⟩ := mapM_some_get hl
    refine .agg (by simp [h1]) fun i y hy => ?_
    rw [List.getElem?_map] at hy
    obtain ⟨t, ht, rfl⟩ := Option.map_eq_some_iff.1 hy
    obtain ⟨c, hc, hf⟩ := h2 i t ht
    have : cs.getD i Go.undef = c := by
      rw [Array.getD_eq_getD_getElem?, ← Array.getElem?_toList, hc]; rfl
    rw [this]
    exact .t (repT_ofCell hf)
  · obtain ⟨t, ht, rfl⟩ := Option.map_eq_some_iff.1 h
    exact .t (repT_ofCell ht)
theorem rep_arg {s : S} {a : Act} (st : St w F σ s a) {x : Operand} {v : V} (h : arg s.env x = some v) : RepV w F σ s.mem v (a.eval x) := by
  cases x with
  | tmp t => obtain rfl := Option.some.inj h; exact st.env t
  | const c => exact repV_ofVal h
  | func f => obtain rfl := Option.some.inj h; exact .t (.clo rfl (fun i t hi => by simp at hi))
  | global g => cases h

theorem rep_int {k : IntKind} {n : Int} {c : Value} (h : RepV w F σ M (.t (.int k n)) c) : c = .int k n := by cases h with | t h => cases h; rfl
theorem rep_bool {b : Bool} {c : Value} (h : RepV w F σ M (.t (.bool b)) c) : c = .bool b := by cases h with | t h => cases h; rfl
theorem rep_str {b : ByteArray} {c : Value} (h : RepV w F σ M (.t (.str b)) c) : c = .string b := by cases h with | t h => cases h; rfl
theorem rep_nilp {c : Value} (h : RepV w F σ M (.t .nilp) c) : c = .pointer none := by cases h with | t h => cases h; rfl
theorem rep_nils {c : Value} (h : RepV w F σ M (.t .nils) c) : c = .slice none 0 0 := by cases h with | t h => cases h; rfl
theorem rep_isNilP {x : V} {c : Value} {b : Bool} (h : RepV w F σ M x c) (hb : isNilP x = some b) : ∃ a, c = .pointer a ∧ a.isNone = b := by
  cases h with
  | t h => cases h <;> simp [isNilP] at hb <;> subst hb <;> exact ⟨_, rfl, rfl⟩
  | ptr _ _ => simp [isNilP] at hb; subst hb; exact ⟨_, rfl, rfl⟩
  | rptr _ _ => simp [isNilP] at hb; subst hb; exact ⟨_, rfl, rfl⟩
  | _ => simp [isNilP] at hb

theorem run_equal_bool {P : Program} {t : TypeId} (hu : P.underlying t = some .bool) (a b : Bool) (w : World) : (Op.equal t (.bool a) (.bool b)).run P w = .ok (a == b) w := by
  unfold Op.equal
  show (Op.equalIn (9999 + 1) t _ _).run P w = _
  rw [Op.equalIn]
  simp only [Sem.run_bind, run_underlying hu, Result.andThen_ok]
  rfl
theorem run_equal_ptr {P : Program} {t e : TypeId} (hu : P.underlying t = some (.pointer e)) (a : Option Addr) (w : World) : (Op.equal t (.pointer a) (.pointer none)).run P w = .ok a.isNone w := by
  unfold Op.equal
  show (Op.equalIn (9999 + 1) t _ _).run P w = _
  rw [Op.equalIn]
  simp only [Sem.run_bind, run_underlying hu, Result.andThen_ok]
  cases a <;> rfl
theorem run_equal_nils {P : Program} {t e : TypeId} (hu : P.underlying t = some (.slice e)) (w : World) : (Op.equal t (.slice none 0 0) (.slice none 0 0)).run P w = .ok true w := by
  unfold Op.equal
  show (Op.equalIn (9999 + 1) t _ _).run P w = _
  rw [Op.equalIn]
  simp only [Sem.run_bind, run_underlying hu, Result.andThen_ok]
  rfl
theorem rep_lenN {x : V} {a : Value} (hx : RepV w F σ M x a) (h : 0 < lenN x) : ∃ ad n cap, a = .slice (some ad) n cap := by
  cases hx with
  | t hx =>
    cases hx with
    | seq0 sz a cap => simp [lenN] at h
    | seq hF hcap hsz hc hr => exact ⟨_, _, _, rfl⟩
    | _ => simp [lenN] at h
  | vec ho hl hc ha hh =>
    simp only [lenN] at h
    obtain ⟨ad, rfl⟩ := Option.isSome_iff_exists.1 (ha (by omega))
    exact ⟨_, _, _, rfl⟩
  | row ho ha hh =>
    simp only [lenN] at h
    obtain ⟨ad, rfl⟩ := Option.isSome_iff_exists.1 (ha h)
    exact ⟨_, _, _, rfl⟩
  | _ => simp [lenN] at h
theorem bin_sound {P : Program} {op : BinOp} {t : TypeId} {x y r : V} {a b : Value} (ox oy : Operand) (h : bin P op t x y = some r) (hx : RepV w F σ M x a) (hy : RepV w F σ M y b) :
    ∃ c, (do eqGuard op t ox oy a b; binOp op t a b : Sem Value).run P w = .ok c w ∧ RepV w F σ M r c := by
  unfold bin at h
  split at h
  · obtain rfl := rep_int hx
    obtain rfl := rep_int hy
    split at h
    · split at h
      · cases h
      · rename_i hb
        obtain rfl := Option.some.inj h
        exact ⟨_, by simp [eqGuard, binOp, Op.shift, hb], .t (.int ..)⟩
    · split at h
      · cases h
      · rename_i hb
        obtain rfl := Option.some.inj h
        exact ⟨_, by simp [eqGuard, binOp, Op.shift, hb], .t (.int ..)⟩
    · split at h
      · rename_i hk
        subst hk
        obtain ⟨z, hz, rfl⟩ := Option.map_eq_some_iff.1 h
        unfold intBin at hz
        split at hz
        case h_1 => obtain rfl := Option.some.inj hz; exact ⟨_, by simp [eqGuard, binOp, Op.intBits, bitsI], .t (.int ..)⟩
        case h_2 => obtain rfl := Option.some.inj hz; exact ⟨_, by simp [eqGuard, binOp, Op.intBits, bitsI], .t (.int ..)⟩
        case h_3 => obtain rfl := Option.some.inj hz; exact ⟨_, by simp [eqGuard, binOp, Op.intBits, bitsI], .t (.int ..)⟩
        case h_4 => obtain rfl := Option.some.inj hz; exact ⟨_, by simp [eqGuard, binOp, Op.intBits, bitsI], .t (.int ..)⟩
        case h_8 =>
          split at hz
          · cases hz
          · rename_i hb
            obtain rfl := Option.some.inj hz
            exact ⟨_, by simp [eqGuard, binOp, Op.intDiv, hb], .t (.int ..)⟩
        case h_9 =>
          split at hz
          · cases hz
          · rename_i hb
            obtain rfl := Option.some.inj hz
            exact ⟨_, by simp [eqGuard, binOp, Op.intDiv, hb], .t (.int ..)⟩
        all_goals first
          | (cases hz; done)
          | (obtain rfl := Option.some.inj hz; first | exact ⟨_, by simp [eqGuard, binOp, Op.intArith, Op.intCmp], .t (.int ..)⟩ | exact ⟨_, by simp [eqGuard, binOp, Op.intArith, Op.intCmp], .t (.bool ..)⟩)
      · cases h
  · rename_i a b
    obtain rfl := rep_str hx
    obtain rfl := rep_str hy
    obtain ⟨z, hz, rfl⟩ := Option.map_eq_some_iff.1 h
    unfold strBin at hz
    split at hz
    · split at hz
      · rename_i hb
        obtain rfl := Option.some.inj hz
        refine ⟨_, ?_, .t (.str ..)⟩
        have hi : ¬ (((a.size + b.size : Nat) : Int) > IntKind.i64.max) := by
          have : IntKind.i64.max = 9223372036854775807 := rfl
          omega
        simp only [eqGuard, binOp, Op.stringOp, hi, if_false]
        rfl
      · cases hz
    all_goals first
      | (cases hz; done)
      | (obtain rfl := Option.some.inj hz; exact ⟨_, by simp [eqGuard, binOp, Op.stringOp], .t (.bool ..)⟩)
  · obtain rfl := rep_bool hx
    obtain rfl := rep_bool hy
    split at h
    all_goals first
      | (cases h; done)
      | (rename_i hu; obtain rfl := Option.some.inj h; exact ⟨_, by simp [eqGuard, binOp, run_equal_bool hu], .t (.bool ..)⟩)
  · obtain rfl := rep_nilp hy
    split at h
    all_goals first
      | (cases h; done)
      | (rename_i hu
         obtain ⟨z, hz, rfl⟩ := Option.map_eq_some_iff.1 h
         obtain ⟨p, rfl, rfl⟩ := rep_isNilP hx hz
         refine ⟨_, ?_, .t (.bool ..)⟩
         cases p <;> simp [eqGuard, binOp, run_equal_ptr hu])
  · obtain rfl := rep_nils hx
    obtain rfl := rep_nils hy
    split at h
    all_goals first
      | (cases h; done)
      | (rename_i hu; obtain rfl := Option.some.inj h; exact ⟨_, by simp [eqGuard, binOp, run_equal_nils hu], .t (.bool ..)⟩)
  · obtain rfl := rep_nils hy
    cases hx with
    | t hx =>
      cases hx with
      | sn a cap =>
        split at h
        all_goals first
          | (cases h; done)
          | (rename_i hu; obtain rfl := Option.some.inj h
             refine ⟨_, ?_, .t (.bool ..)⟩
             simp [eqGuard, binOp, Op.equal, Op.maxDepth, Lib.run_equalIn_slice_nil w 9999 t _ a 0 cap 0 0 hu])
  · obtain rfl := rep_nils hy
    split at h
    · rename_i hpos
      obtain ⟨ad, n, cap, rfl⟩ := rep_lenN hx hpos
      unfold binN at h
      split at h
      · rename_i hu
        obtain rfl := Option.some.inj h
        refine ⟨_, ?_, .t (.bool ..)⟩
        simp [eqGuard, binOp, Op.equal, Op.maxDepth, Lib.run_equalIn_slice_nil w 9999 t _ (some ad) n cap 0 0 hu]
      · rename_i hu
        obtain rfl := Option.some.inj h
        refine ⟨_, ?_, .t (.bool ..)⟩
        simp [eqGuard, binOp, Op.equal, Op.maxDepth, Lib.run_equalIn_slice_nil w 9999 t _ (some ad) n cap 0 0 hu]
      · cases h
    · cases h
  · cases h

theorem run_equalIn_ifaceN {P : Program} (w : World) {t : TypeId} (d : Nat) {x : TypeDesc} (h : P.underlying t = some x) (hi : ∃ ms, x = .interface ms) : (Op.equalIn (d + 1) t .nilIface .nilIface).run P w = .ok true w := by
  obtain ⟨ms, rfl⟩ := hi
  simp [Op.equalIn, run_underlying h]
theorem run_equal_ifaceN {P : Program} (w : World) {t : TypeId} {x : TypeDesc} (h : P.underlying t = some x) (hi : ∃ ms, x = .interface ms) : (Op.equal t .nilIface .nilIface).run P w = .ok true w := run_equalIn_ifaceN w 9999 h hi
theorem binX_sound {P : Program} {op : BinOp} {t : TypeId} {x y r : V} {a b : Value} (ox oy : Operand) (h : binX P op t oy x y = some r) (hx : RepV w F σ M x a) (hy : RepV w F σ M y b) (hob : ∀ v, oy = .const v → b = v) :
    ∃ c, (do eqGuard op t ox oy a b; binOp op t a b : Sem Value).run P w = .ok c w ∧ RepV w F σ M r c := by
  unfold binX at h
  split at h
  · rename_i v
    obtain rfl := hob _ rfl
    have ha : a = .nilIface := by
      cases hx with
      | t hx => cases hx; rfl
    subst ha
    split at h
    · rename_i hu
      obtain rfl := Option.some.inj h
      exact ⟨_, by cases ox <;> simp [eqGuard, binOp, run_equal_ifaceN w hu ⟨_, rfl⟩], .t (.bool ..)⟩
    · rename_i hu
      obtain rfl := Option.some.inj h
      exact ⟨_, by cases ox <;> simp [eqGuard, binOp, run_equal_ifaceN w hu ⟨_, rfl⟩], .t (.bool ..)⟩
    · cases h
  · exact bin_sound ox oy h hx hy
theorem un_sound {P : Program} {op : UnOp} {x r : V} {a : Value} (h : un op x = some r) (hx : RepV w F σ M x a) : ∃ c, (Op.unary op a).run P w = .ok c w ∧ RepV w F σ M r c := by
  unfold un at h
  split at h
  · obtain rfl := rep_int hx
    obtain rfl := Option.some.inj h
    exact ⟨_, by simp [Op.unary, Op.intArith], .t (.int ..)⟩
  · obtain rfl := rep_bool hx
    obtain rfl := Option.some.inj h
    exact ⟨_, by simp [Op.unary], .t (.bool ..)⟩
  · cases h
theorem step_data {w w' : World} {F : Nat → Prop} {σ : Sg} {M : Mem} (wf : Wf w F σ M) (hos : w'.os = w.os) (htape : w'.tape = w.tape) (hout : w'.output = w.output) (hsize : w'.heap.size = w.heap.size + 1)
    (hblock : ∀ b, b < w.heap.size → w'.heap[b]? = w.heap[b]?) : Step w F σ M w' (fun x => F x ∨ x = w.heap.size) σ M := by
  have old : ∀ id p b a, Live M id p → σ id p = some (b, a) → b < w.heap.size := fun id p b a h k => by
    obtain ⟨_, c, e, h3⟩ := wf.row id p b a h k
    exact (Array.getElem?_eq_some_iff.1 h3).1
  have le : Le w F σ M w' (fun x => F x ∨ x = w.heap.size) σ M :=
    ⟨fun _ h => .inl h, fun b h => hblock b (wf.lt b h), fun id o h => ⟨o, h, ObLe.refl _ _ _⟩, fun b k ⟨c, e, h1, h2⟩ => ⟨c, e, by rw [hblock b (Array.getElem?_eq_some_iff.1 h1).1]; exact h1, h2⟩⟩
  refine ⟨le, ⟨fun id o h => (wf.obj id o h).mono le h (fun _ => rfl) fun p b a hp hk => hblock b (old _ _ _ _ hp hk), wf.inj, fun id p b a hp hk => ?_, fun b h => ?_⟩, ⟨hos, htape, hout, by omega, fun b hb _ => hblock b hb, fun b h => ?_, fun b h => .inl h⟩⟩
  · obtain ⟨h1, c, e, h3⟩ := wf.row id p b a hp hk
    have hb := old _ _ _ _ hp hk
    exact ⟨fun h => h.elim h1 fun e => by omega, c, e, by rw [hblock b hb]; exact h3⟩
  · rcases h with h | h
    · have := wf.lt b h; omega
    · omega
  · rcases h with h | h
    · exact .inl h
    · exact .inr (.inr (by omega))
theorem conv_sound {P : Program} (wf : Wf w F σ M) {src dst : TypeId} {x r : V} {a : Value} (h : conv P src dst x = some r) (hx : RepV w F σ M x a) :
    ∃ w' F' c, (convert src dst a).run P w = .ok c w' ∧ Step w F σ M w' F' σ M ∧ RepV w' F' σ M r c := by
  have pure : (∃ c, (convert src dst a).run P w = .ok c w ∧ RepV w F σ M r c) → ∃ w' F' c, (convert src dst a).run P w = .ok c w' ∧ Step w F σ M w' F' σ M ∧ RepV w' F' σ M r c := fun ⟨c, h1, h2⟩ => ⟨w, F, c, h1, .refl wf, h2⟩
  unfold conv at h
  split at h
  · rename_i h1 h2
    obtain rfl := rep_int hx
    obtain rfl := Option.some.inj h
    exact pure ⟨_, by simp [convert, run_underlying h1, run_underlying h2, Conv.intToInt], .t (.int ..)⟩
  · rename_i e y es h1 h2
    split at h
    · rename_i h3
      refine pure ?_
      obtain ⟨xs, hxs, rfl⟩ := Option.map_eq_some_iff.1 h
      obtain ⟨hl, hg⟩ := mapM_some_get hxs
      cases hx with
      | t hx =>
        cases hx with
        | seq hF hcap hsz hc hr =>
          refine ⟨_, run_convert_bytes_arg w src e h1 h3 _ _ _ _ xs hl (fun i hi => ?_) dst h2, .t (.str ..)⟩
          rw [← hl] at hi
          obtain ⟨row, k1, k2⟩ := hg i _ (List.getElem?_eq_getElem hi)
          have hrow : row = [.int .u8 xs[i]] := by
            unfold byteI at k2
            split at k2
            · obtain rfl := Option.some.inj k2; rfl
            · cases k2
          subst hrow
          have q1 := hc i 0 _ _ k1 rfl
          have q2 := hr i 0 _ _ k1 rfl
          rw [Nat.mul_one, Nat.add_zero] at q1
          rw [q1]
          have q3 := rep_int (M := M) (σ := σ) (.t q2)
          rw [q3, List.getD_eq_getElem?_getD, List.getElem?_eq_getElem hi]
          rfl
    · cases h
  · rename_i e s h1 h2
    split at h
    · rename_i h3
      obtain rfl := Option.some.inj h
      have ha : a = .string s := by
        cases hx with
        | t hx => cases hx; rfl
      subst ha
      have hrun := run_bytes_of_string (P := P) w src dst e s h1 h2 h3
      have hcap := grownCap_ge w s.size 0 e
      generalize grownCap w s.size 0 e = cap at hrun hcap
      refine ⟨_, _, _, hrun, step_data wf rfl rfl rfl ?_ (fun b hb => ?_), .t ?_⟩
      · show (w.heap.push _).size = _
        simp
      · rw [Go.RowKit.Below.heap_alloc w.drew _ b hb]; rfl
      · have hlen : (s.data.toList.map fun b => [T.int .u8 b.toNat]).length = s.size := by
          rw [List.length_map, Array.length_toList]; rfl
        have hnew : ∀ f, (w.drew.alloc (.cells (bytesRow s cap) e f)).heap[w.heap.size]? = some (.cells (bytesRow s cap) e f) := fun f => by
          show (w.heap.push _)[w.heap.size]? = _
          simp
        have key := RepT.seq (w := w.drew.alloc (.cells (bytesRow s cap) e ((bytesRow s cap).size, (bytesRow s cap).size + 1))) (F := fun x => F x ∨ x = w.heap.size) (sz := 1) (es := s.data.toList.map fun b => [T.int .u8 b.toNat]) (b := w.heap.size) (o := 0) (cap := cap)
          (vals := fun i _ => .int .u8 ((s.data.toList.getD i 0).toNat : Int)) (.inr rfl) (by rw [hlen]; exact hcap) (fun i el hi => ?_) (fun i j el t hi hj => ?_) (fun i j el t hi hj => ?_)
        · rw [hlen] at key; exact key
        · obtain ⟨x, _, rfl⟩ := by simpa [List.getElem?_map] using hi
          rfl
        · rw [List.getElem?_map] at hi
          obtain ⟨x, hx, rfl⟩ := Option.map_eq_some_iff.1 hi
          obtain rfl : j = 0 := by
            cases j with
            | zero => rfl
            | succ j => simp at hj
          have hil : i < s.data.size := by
            have := (List.getElem?_eq_some_iff.1 hx).1
            simpa using this
          simp only [World.cell?, hnew]
          rw [show 0 + i * 1 + 0 = i by omega]
          have hb := bytesRow_at s cap i hil
          have hx2 : s.data.toList.getD i 0 = s.data[i] := by
            have h9 : s.data.toList[i]? = some s.data[i] := by simp [hil]
            rw [List.getD_eq_getElem?_getD, h9]
            rfl
          rw [hx2]
          simpa using hb
        · rw [List.getElem?_map] at hi
          obtain ⟨x, hx, rfl⟩ := Option.map_eq_some_iff.1 hi
          obtain rfl : j = 0 := by
            cases j with
            | zero => rfl
            | succ j => simp at hj
          obtain rfl : T.int .u8 x.toNat = t := by simpa using hj
          rw [List.getD_eq_getElem?_getD, hx]
          exact .int _ _
    · cases h
  · cases h
theorem rep_len {x r : V} {c : Value} (h : lenV x = some r) (hx : RepV w F σ M x c) :
    (∃ s, x = .t (.str s) ∧ c = .string s ∧ r = .t (.int .i64 s.size)) ∨ ((∀ s, x ≠ .t (.str s)) ∧ ∃ (b : Option Addr) (n cap : Nat), c = .slice b n cap ∧ r = .t (.int .i64 (n : Nat))) := by
  unfold lenV at h
  split at h
  · obtain rfl := Option.some.inj h
    exact .inr ⟨by simp, none, 0, 0, rep_nils hx, rfl⟩
  · obtain rfl := Option.some.inj h
    refine .inr ⟨by simp, ?_⟩
    cases hx with
    | t hx => cases hx with
      | seq0 sz a cap => exact ⟨a, 0, cap, rfl, rfl⟩
      | seq h1 h2 h3 h4 h5 => exact ⟨_, _, _, rfl, rfl⟩
  · obtain rfl := Option.some.inj h
    exact .inl ⟨_, rfl, rep_str hx, rfl⟩
  · obtain rfl := Option.some.inj h
    refine .inr ⟨by simp, ?_⟩
    cases hx with
    | vec ho hl hcp ha h => exact ⟨_, _, _, rfl, rfl⟩
  · obtain rfl := Option.some.inj h
    refine .inr ⟨by simp, ?_⟩
    cases hx with
    | row ho ha h => exact ⟨_, _, _, rfl, rfl⟩
  · cases h
theorem addr_add (b o k : Nat) : (⟨b, o, none⟩ : Addr).add k = ⟨b, o + k, none⟩ := by
  unfold Addr.add
  split <;> simp_all
theorem idx_sound {P : Program} {t e : TypeId} {sz : Nat} {x i r : V} {a b : Value} (hu : P.underlying t = some (.slice e)) (hs : szT P e = some sz) (hz : sz ≠ 0)
    (h : idxA sz x i = some r) (hx : RepV w F σ M x a) (hi : RepV w F σ M i b) : ∃ c, (Instr.indexAt t a b).run P w = .ok c w ∧ RepV w F σ M r c := by
  unfold szT at hs
  obtain ⟨info, hinfo, hs⟩ := Option.map_eq_some_iff.1 hs
  unfold idxA at h
  split at h
  · rename_i k n
    obtain rfl := rep_int hi
    split at h
    · rename_i h0
      split at h
      · rename_i sz' es
        split at h
        · rename_i hsz
          subst hsz
          obtain ⟨el, hel, rfl⟩ := Option.map_eq_some_iff.1 h
          cases hx with
          | t hx =>
            have hlt : n.toNat < es.length := (List.getElem?_eq_some_iff.1 hel).1
            cases hx with
            | seq0 sz a cap => simp at hel
            | seq h1 h2 h3 h4 h5 =>
              rename_i bb o cap vals
              have hr : 0 ≤ n ∧ n < (es.length : Int) := ⟨h0, by omega⟩
              refine ⟨.pointer (some ⟨bb, o + n.toNat * sz' + 0, none⟩), ?_, .t (.ptr h1 (fun j t hj => h4 n.toNat j el t hel hj) (fun j t hj => h5 n.toNat j el t hel hj))⟩
              simp [Instr.indexAt, asIntOf, run_underlying hu, sizeOf, typeInfo, hinfo, hs, hr, addr_add]
        · cases h
      · rename_i id nn sz' off len
        split at h
        · rename_i hc
          obtain ⟨rfl, hlt⟩ := hc
          obtain rfl := Option.some.inj h
          cases hx with
          | vec ho hl hcp ha hv =>
            rename_i aa cap o
            obtain ⟨ad, rfl⟩ := Option.isSome_iff_exists.1 (ha (by omega))
            have hr : 0 ≤ n ∧ n < (len : Int) := ⟨h0, by omega⟩
            refine ⟨.pointer (some (ad.add (n.toNat * sz'))), ?_, .ptr ho fun m hm => ?_⟩
            · simp [Instr.indexAt, asIntOf, run_underlying hu, sizeOf, typeInfo, hinfo, hs, hr]
            · obtain ⟨k1, k2⟩ := hv m hm
              refine ⟨k1, fun hn => ?_⟩
              obtain ⟨fl, es, rfl, q4⟩ := k2 hn
              obtain ⟨b, o0, r1, r2, r3⟩ := q4 (by omega)
              obtain rfl := Option.some.inj r2
              refine ⟨b, o0, r1, ?_⟩
              rw [addr_add]
              simp only [Ob.sz, Nat.add_mul]
              congr 1
              omega
        · cases h
      · rename_i id nn ii jj sz' len
        split at h
        · rename_i hc
          obtain ⟨rfl, hlt⟩ := hc
          obtain rfl := Option.some.inj h
          cases hx with
          | row ho ha hv =>
            rename_i aa cap o
            obtain ⟨ad, rfl⟩ := Option.isSome_iff_exists.1 (ha (by omega))
            have hr : 0 ≤ n ∧ n < (len : Int) := ⟨h0, by omega⟩
            refine ⟨.pointer (some (ad.add (n.toNat * sz'))), ?_, .rptr ho fun m hm => ?_⟩
            · simp [Instr.indexAt, asIntOf, run_underlying hu, sizeOf, typeInfo, hinfo, hs, hr]
            · obtain ⟨k1, k2⟩ := hv m hm
              refine ⟨k1, fun hn => ?_⟩
              obtain ⟨fl, s0, es, el, xx, vv, rfl, q2, q3, q4, q5, q6⟩ := k2 hn
              refine ⟨fl, s0, es, el, xx, vv, rfl, q2, q3, q4, q5, fun hvv => ?_⟩
              obtain ⟨rr, rfl, p2, p3, p4⟩ := q6 hvv
              obtain ⟨b, o0, r1, r2, _⟩ := p4 (by omega)
              obtain rfl := Option.some.inj r2
              exact ⟨sz', rr, b, o0, rfl, p2, by omega, r1, by rw [addr_add]; rfl⟩
        · cases h
      · cases h
    · cases h
  · cases h
theorem getD_of_get {cs : Array Value} {i : Nat} {c : Value} (h : cs[i]? = some c) : cs.getD i Go.undef = c := by
  rw [Array.getD_eq_getD_getElem?, h]; rfl
theorem fldA_sound {P : Program} {s : TypeId} {f : Nat} {fi : Nat × Nat × Bool} {x r : V} {a : Value} (hf : fieldT P s f = some fi) (hz : fi.2.1 ≠ 0) (h : fldA fi.1 x = some r) (hx : RepV w F σ M x a) :
    ∃ c, (Instr.fieldAt s a f).run P w = .ok c w ∧ RepV w F σ M r c := by
  unfold fieldT at hf
  split at hf
  · rename_i fs hu
    obtain ⟨fd, hfd, hf⟩ := Option.bind_eq_some_iff.1 hf
    obtain ⟨n, hn, hf⟩ := Option.bind_eq_some_iff.1 hf
    obtain ⟨ag, hag, rfl⟩ := Option.map_eq_some_iff.1 hf
    unfold szT at hn
    obtain ⟨info, hinfo, rfl⟩ := Option.map_eq_some_iff.1 hn
    have run : ∀ ad : Addr, (Instr.fieldAt s (.pointer (some ad)) f).run P w = .ok (.pointer (some (ad.add fd.offset))) w := fun ad => by
      have hz' : ¬ info.size = 0 := hz
      simp [Instr.fieldAt, run_underlying hu, hfd, Instr.sureAddr, fieldPlace, sizeOf, typeInfo, hinfo, hz']
    unfold fldA at h
    split at h
    · obtain rfl := Option.some.inj h
      cases hx with
      | t hx => cases hx with
        | ptr h1 h2 h3 =>
          refine ⟨_, run _, .t ?_⟩
          rw [addr_add, Nat.add_assoc]
          exact .ptr h1 h2 h3
    · obtain rfl := Option.some.inj h
      cases hx with
      | ptr ho hv =>
        refine ⟨_, run _, .ptr ho fun m hm => ⟨(hv m hm).1, fun e => ?_⟩⟩
        obtain ⟨b, o0, h1, rfl⟩ := (hv m hm).2 e
        exact ⟨b, o0, h1, by rw [addr_add, Nat.add_assoc]⟩
    · obtain rfl := Option.some.inj h
      cases hx with
      | rptr ho hv =>
        refine ⟨_, run _, .rptr ho fun m hm => ⟨(hv m hm).1, fun e => ?_⟩⟩
        obtain ⟨fl, s0, es, el, xx, vv, h1, h2, h3, h4, h5, h6⟩ := (hv m hm).2 e
        refine ⟨fl, s0, es, el, xx, vv, h1, h2, h3, h4, h5, fun hh => ?_⟩
        obtain ⟨sz, r, b, o0, g1, g2, g3, g4, rfl⟩ := h6 hh
        exact ⟨sz, r, b, o0, g1, g2, g3, g4, by rw [addr_add, Nat.add_assoc]⟩
    · cases h
  · cases hf
theorem run_isAgg {P : Program} {t : TypeId} {ag : Bool} (h : aggT P t = some ag) (w : World) : (isAgg t).run P w = .ok ag w := by
  unfold aggT at h
  obtain ⟨d, hd, rfl⟩ := Option.map_eq_some_iff.1 h
  unfold isAgg
  simp only [Sem.run_bind, run_underlying hd, Result.andThen_ok]
  cases d <;> rfl
theorem fld_sound {P : Program} {t : TypeId} {f : Nat} {fi : Nat × Nat × Bool} {x r : V} {a : Value} (hf : fieldT P t f = some fi) (h : fld fi.1 fi.2.1 fi.2.2 x = some r) (hx : RepV w F σ M x a) :
    ∃ c, (Instr.field t a f).run P w = .ok c w ∧ RepV w F σ M r c := by
  unfold fieldT at hf
  split at hf
  · rename_i fs hu
    obtain ⟨fd, hfd, hf⟩ := Option.bind_eq_some_iff.1 hf
    obtain ⟨n, hn, hf⟩ := Option.bind_eq_some_iff.1 hf
    obtain ⟨ag, hag, rfl⟩ := Option.map_eq_some_iff.1 hf
    unfold szT at hn
    obtain ⟨info, hinfo, rfl⟩ := Option.map_eq_some_iff.1 hn
    unfold fld at h
    split at h
    · rename_i vs
      cases hx with
      | agg hl hv =>
        rename_i cs
        cases ag with
        | true =>
          simp only [cond_true] at h
          obtain rfl := Option.some.inj h
          refine ⟨.agg (cs.extract fd.offset (fd.offset + info.size)), by simp [Instr.field, run_underlying hu, hfd, asAgg, part, run_isAgg hag, sizeOf, typeInfo, hinfo], .agg ?_ fun i v hi => ?_⟩
          · simp; omega
          · rw [List.getElem?_take] at hi
            split at hi
            · rename_i hlt
              rw [List.getElem?_drop] at hi
              have := hv _ v hi
              have hlt2 : fd.offset + i < cs.size := by rw [← hl]; exact (List.getElem?_eq_some_iff.1 hi).1
              have e : (cs.extract fd.offset (fd.offset + info.size)).getD i Go.undef = cs.getD (fd.offset + i) Go.undef := by
                rw [Array.getD_eq_getD_getElem?, Array.getD_eq_getD_getElem?, Array.getElem?_extract]
                rw [if_pos (by omega)]
              rw [e]
              exact this
            · cases hi
        | false =>
          simp only [cond_false] at h
          have hlt : fd.offset < cs.size := by rw [← hl]; exact (List.getElem?_eq_some_iff.1 h).1
          have := hv _ r h
          refine ⟨_, ?_, this⟩
          simp [Instr.field, run_underlying hu, hfd, asAgg, part, run_isAgg hag, Array.getElem?_eq_getElem hlt, Array.getD_eq_getD_getElem?]
    · cases h
  · cases hf
theorem ext_sound {P : Program} {i : Nat} {x r : V} {a : Value} (h : ext i x = some r) (hx : RepV w F σ M x a) : ∃ c, (Instr.extract a i).run P w = .ok c w ∧ RepV w F σ M r c := by
  unfold ext at h
  split at h
  · cases hx with
    | tup hl hv =>
      rename_i vs cs
      have hlt : i < cs.size := by rw [← hl]; exact (List.getElem?_eq_some_iff.1 h).1
      exact ⟨_, by simp [Instr.extract, Array.getElem?_eq_getElem hlt, Array.getD_eq_getD_getElem?], hv _ r h⟩
  · cases h
theorem idxS_sound {P : Program} {t : TypeId} {x i r : V} {a b : Value} (hu : P.underlying t = some .string) (h : idxS x i = some r) (hx : RepV w F σ M x a) (hi : RepV w F σ M i b) :
    ∃ c, (Instr.index t a b).run P w = .ok c w ∧ RepV w F σ M r c := by
  unfold idxS at h
  split at h
  · rename_i s k n
    obtain rfl := rep_str hx
    obtain rfl := rep_int hi
    split at h
    · rename_i h0
      obtain ⟨u, hu', rfl⟩ := Option.map_eq_some_iff.1 h
      exact ⟨_, by simp [Instr.index, asIntOf, run_underlying hu, h0, hu'], .t (.int ..)⟩
    · cases h
  · cases h
theorem pick_sound {P : Program} {c a b r : V} {c' a' b' : Value} (h : pickV c a b = some r) (hc : RepV w F σ M c c') (ha : RepV w F σ M a a') (hb : RepV w F σ M b b') :
    ∃ u, (do pure (Next.value (if ← asBool c' then a' else b')) : Sem Next).run P w = .ok (.value u) w ∧ RepV w F σ M r u := by
  unfold pickV at h
  split at h
  · rename_i t
    obtain rfl := rep_bool hc
    obtain rfl := Option.some.inj h
    cases t
    · exact ⟨_, by simp [asBool], hb⟩
    · exact ⟨_, by simp [asBool], ha⟩
  · cases h
theorem natV_sound {P : Program} {v : V} {n y : Nat} {c : Value} {code : BoundsCode} (h : natV v = some n) (hv : RepV w F σ M v c) (hy : n ≤ y) : (Instr.sliceBound c y code).run P w = .ok n w := by
  unfold natV at h
  split at h
  · rename_i k m
    obtain rfl := rep_int hv
    split at h
    · rename_i h0
      obtain rfl := Option.some.inj h
      have hr : 0 ≤ m ∧ m ≤ (y : Int) := ⟨h0, by omega⟩
      simp [Instr.sliceBound, asIntOf, hr]
    · cases h
  · cases h
def RepOV (w : World) (F : Nat → Prop) (σ : Sg) (M : Mem) : Option V → Option Value → Prop
  | none, none => True
  | some v, some c => RepV w F σ M v c
  | _, _ => False
theorem bounds_sound {P : Program} {sl : Bool} {lo hi mx : Option V} {lo' hi' mx' : Option Value} {len cap l h m : Nat} (hlo : RepOV w F σ M lo lo') (hhi : RepOV w F σ M hi hi') (hmx : RepOV w F σ M mx mx')
    (h1 : natOr 0 lo = some l) (h2 : natOr len hi = some h) (h3 : natOr cap mx = some m) (a1 : l ≤ h) (a2 : h ≤ m) (a3 : m ≤ cap) (a4 : mx.isSome = true → hi.isSome = true) :
    (Instr.sliceBounds sl len cap lo' hi' mx').run P w = .ok (l, h, m) w := by
  unfold Instr.sliceBounds
  cases mx with
  | none =>
    cases mx' with
    | some _ => exact hmx.elim
    | none =>
      obtain rfl := Option.some.inj h3
      cases hi with
      | none =>
        cases hi' with
        | some _ => exact hhi.elim
        | none =>
          obtain rfl := Option.some.inj h2
          cases lo with
          | none =>
            cases lo' with
            | some _ => exact hlo.elim
            | none => obtain rfl := Option.some.inj h1; simp
          | some v =>
            cases lo' with
            | none => exact hlo.elim
            | some c => simp [natV_sound (P := P) h1 hlo a1]
      | some v =>
        cases hi' with
        | none => exact hhi.elim
        | some c =>
          have e2 := fun code => natV_sound (P := P) (code := code) h2 hhi a2
          cases lo with
          | none =>
            cases lo' with
            | some _ => exact hlo.elim
            | none => obtain rfl := Option.some.inj h1; simp [e2]
          | some v =>
            cases lo' with
            | none => exact hlo.elim
            | some c => simp [e2, natV_sound (P := P) h1 hlo a1]
  | some u =>
    cases mx' with
    | none => exact hmx.elim
    | some cu =>
      have e3 := fun code => natV_sound (P := P) (code := code) h3 hmx a3
      cases hi with
      | none => exact absurd (a4 rfl) (by simp)
      | some v =>
        cases hi' with
        | none => exact hhi.elim
        | some c =>
          have e2 := fun code => natV_sound (P := P) (code := code) h2 hhi a2
          cases lo with
          | none =>
            cases lo' with
            | some _ => exact hlo.elim
            | none => obtain rfl := Option.some.inj h1; simp [e3, e2]
          | some v =>
            cases lo' with
            | none => exact hlo.elim
            | some c => simp [e3, e2, natV_sound (P := P) h1 hlo a1]
theorem sub_slice_sound {P : Program} {t e : TypeId} {sz : Nat} {x r : V} {a : Value} {lo hi mx : Option V} {lo' hi' mx' : Option Value} (hu : P.underlying t = some (.slice e)) (hs : szT P e = some sz)
    (hm : maxOk x mx = true) (h : sub sz x lo hi = some r) (hstr : ∀ s, x ≠ .t (.str s)) (hx : RepV w F σ M x a) (hlo : RepOV w F σ M lo lo') (hhi : RepOV w F σ M hi hi') (hmx : RepOV w F σ M mx mx') (a4 : mx.isSome = true → hi.isSome = true) :
    ∃ c, (Instr.sliceAt t a lo' hi' mx').run P w = .ok c w ∧ RepV w F σ M r c := by
  unfold szT at hs
  obtain ⟨info, hinfo, hs⟩ := Option.map_eq_some_iff.1 hs
  have run : ∀ (b : Option Addr) (len cap l h m : Nat), natOr 0 lo = some l → natOr len hi = some h → natOr cap mx = some m → l ≤ h → h ≤ m → m ≤ cap →
      (Instr.sliceAt t (.slice b len cap) lo' hi' mx').run P w = .ok (.slice (if m = l then b else b.map (·.add (l * sz))) (h - l) (m - l)) w := fun b len cap l h m h1 h2 h3 a1 a2 a3 => by
    simp [Instr.sliceAt, Instr.slice, run_underlying hu, bounds_sound (P := P) (sl := true) hlo hhi hmx h1 h2 h3 a1 a2 a3 a4, sizeOf, typeInfo, hinfo, hs]
  unfold sub at h
  split at h
  · exact absurd rfl (hstr _)
  · obtain ⟨l, hl, h⟩ := Option.bind_eq_some_iff.1 h
    obtain ⟨hh, hh2, h⟩ := Option.bind_eq_some_iff.1 h
    split at h
    · rename_i hc
      obtain ⟨rfl, rfl⟩ := hc
      rename_i h
      obtain rfl : V.t T.nils = r := Option.some.inj (by assumption)
      obtain rfl := rep_nils hx
      cases mx with
      | some v => simp [maxOk] at hm
      | none => exact ⟨_, run none 0 0 0 0 0 hl hh2 rfl (by omega) (by omega) (by omega), .t (by simp; exact .nils)⟩
    · cases h
  · rename_i sz' es
    obtain ⟨l, hl, h⟩ := Option.bind_eq_some_iff.1 h
    obtain ⟨hh, hh2, h⟩ := Option.bind_eq_some_iff.1 h
    split at h
    · rename_i hc
      obtain ⟨rfl, c1, c2⟩ := hc
      obtain rfl := Option.some.inj h
      cases mx with
      | some v => simp [maxOk] at hm
      | none =>
        cases hx with
        | t hx => cases hx with
          | seq0 sz a cap =>
            have e1 : l = 0 := by simp at c2; omega
            have e2 : hh = 0 := by simpa using c2
            subst e1 e2
            refine ⟨_, run a 0 cap 0 0 cap hl hh2 rfl (by omega) (by omega) (by omega), .t ?_⟩
            simp only [List.drop_nil, List.take_nil]
            exact .seq0 ..
          | seq h1 h2 h3 h4 h5 =>
            rename_i b o cap vals
            refine ⟨_, run _ es.length cap l hh cap hl hh2 rfl c1 (by omega) (by omega), .t ?_⟩
            have hlen : ((es.drop l).take (hh - l)).length = hh - l := by simp; omega
            by_cases he : hh - l = 0
            · have : (es.drop l).take (hh - l) = [] := by simp [he]
              rw [this, he]
              exact .seq0 ..
            · have hml : ¬ cap = l := by omega
              simp only [hml, if_false, Option.map_some, addr_add]
              have key : ∀ (i : Nat) (e : List T), ((es.drop l).take (hh - l))[i]? = some e → es[l + i]? = some e := fun i e hi => by
                rw [List.getElem?_take] at hi
                split at hi
                · rwa [List.getElem?_drop] at hi
                · cases hi
              have fin : RepT w F (.seq sz' ((es.drop l).take (hh - l))) (.slice (some ⟨b, o + l * sz', none⟩) ((es.drop l).take (hh - l)).length (cap - l)) := by
                refine .seq (vals := fun i j => vals (l + i) j) h1 (by omega) (fun i e hi => h3 _ e (key i e hi)) (fun i j e t hi hj => ?_) (fun i j e t hi hj => h5 _ _ e t (key i e hi) hj)
                have := h4 _ _ e t (key i e hi) hj
                rw [Nat.add_mul] at this
                rw [← this]
                congr 2
                omega
              rw [hlen] at fin
              exact fin
    · cases h
  · rename_i id n sz' off len
    obtain ⟨l, hl, h⟩ := Option.bind_eq_some_iff.1 h
    obtain ⟨hh, hh2, h⟩ := Option.bind_eq_some_iff.1 h
    split at h
    · rename_i hc
      obtain ⟨rfl, c1, c2⟩ := hc
      obtain rfl := Option.some.inj h
      cases hx with
      | vec ho hl' hcp ha hv =>
        rename_i aa cap o
        obtain ⟨m, hm1, hm2, hm3, hm4⟩ : ∃ m, natOr cap mx = some m ∧ hh ≤ m ∧ m ≤ cap ∧ n ≤ off + m := by
          cases mx with
          | none => exact ⟨cap, rfl, by omega, Nat.le_refl _, hcp⟩
          | some v =>
            simp only [maxOk] at hm
            split at hm
            · rename_i k he1 he2
              obtain ⟨rfl, rfl, rfl, rfl, rfl⟩ := V.vec.inj he1
              have : k = n - off := by simpa using hm
              exact ⟨k, he2, by omega, by omega, by omega⟩
            · cases hm
        refine ⟨_, run aa len cap l hh m hl hh2 hm1 c1 hm2 hm3, .vec ho (by omega) (by omega) (fun hp => ?_) fun k hk => ⟨(hv k hk).1, fun e => ?_⟩⟩
        · have hml : ¬ m = l := by omega
          simp only [hml, if_false, Option.isSome_map]
          exact ha (by omega)
        · obtain ⟨fl, es, h1, h2⟩ := (hv k hk).2 e
          refine ⟨fl, es, h1, fun hp => ?_⟩
          have hml : ¬ m = l := by omega
          obtain ⟨b, o0, q1, rfl, cur, ty, q3, q4⟩ := h2 (by omega)
          simp only [hml, if_false, Option.map_some, addr_add]
          refine ⟨b, o0, q1, by rw [Nat.add_mul, Nat.add_assoc], cur, ty, q3, Nat.le_trans (Nat.add_le_add_left (Nat.mul_le_mul_right _ (by omega)) _) q4⟩
    · cases h
  · cases h
theorem sub_str_sound {P : Program} {t : TypeId} {s : ByteArray} {r : V} {a : Value} {lo hi : Option V} {lo' hi' : Option Value} (hu : P.underlying t = some .string)
    (h : sub 1 (.t (.str s)) lo hi = some r) (hx : RepV w F σ M (.t (.str s)) a) (hlo : RepOV w F σ M lo lo') (hhi : RepOV w F σ M hi hi') :
    ∃ c, (Instr.sliceAt t a lo' hi' none).run P w = .ok c w ∧ RepV w F σ M r c := by
  obtain rfl := rep_str hx
  simp only [sub] at h
  obtain ⟨l, hl, h⟩ := Option.bind_eq_some_iff.1 h
  obtain ⟨hh, hh2, h⟩ := Option.bind_eq_some_iff.1 h
  split at h
  · rename_i hc
    obtain rfl := Option.some.inj h
    exact ⟨_, by simp [Instr.sliceAt, Instr.slice, run_underlying hu, bounds_sound (P := P) (sl := false) (mx := none) (mx' := none) (cap := s.size) (m := s.size) hlo hhi trivial hl hh2 rfl hc.1 hc.2 (Nat.le_refl _) (by simp)], .t (.str ..)⟩
  · cases h
end
end Go.Ev

namespace Go.Ev
set_option linter.unusedVariables false
set_option linter.unusedSimpArgs false
section
variable {w : World} {F : Nat → Prop} {σ : Sg} {M : Mem}
theorem cell_of {b i : Nat} {cur : Array Value} {ty : TypeId} {fr : Nat × Nat} (h : w.heap[b]? = some (.cells cur ty fr)) : w.cell? ⟨b, i, none⟩ = cur[i]? := by simp [World.cell?, h]
theorem rd_sound (wf : Wf w F σ M) {p v : V} {k : Nat} {c : Value} (h : rd M p k = some v) (hp : RepV w F σ M p c) :
    ∃ a u, c = .pointer (some a) ∧ w.cell? (a.add k) = some u ∧ RepV w F σ M v u := by
  unfold rd at h
  split at h
  · rename_i cs o
    obtain ⟨t, ht, rfl⟩ := Option.map_eq_some_iff.1 h
    cases hp with
    | t hp => cases hp with
      | ptr h1 h2 h3 =>
        exact ⟨_, _, rfl, by rw [addr_add, Nat.add_assoc]; exact h2 _ t ht, .t (h3 _ t ht)⟩
  · rename_i id n i o
    cases hp with
    | ptr ho hv =>
      rename_i a ob
      split at h
      · rename_i cs hid
        split at h
        · rename_i hc
          obtain ⟨rfl, rfl⟩ := hc
          rw [hid] at ho
          obtain rfl := Option.some.inj ho
          obtain ⟨b, o0, h1, rfl⟩ := (hv 1 rfl).2 rfl
          cases wf.obj id _ hid with
          | box hs hb hcs =>
            rw [hs] at h1
            obtain ⟨rfl, rfl⟩ := Prod.mk.inj (Option.some.inj h1)
            obtain ⟨u, k1, k2⟩ := hcs _ v h
            refine ⟨_, u, rfl, ?_, k2⟩
            rw [addr_add, cell_of hb, ← k1]
            congr 1
            simp
            omega
        · cases h
      · rename_i fl sz es hid
        split at h
        · rename_i hc
          rw [hid] at ho
          obtain rfl := Option.some.inj ho
          obtain ⟨b, o0, h1, rfl⟩ := (hv _ rfl).2 hc.symm
          obtain ⟨c, hc', rfl⟩ := Option.map_eq_some_iff.1 h
          obtain ⟨e, he, hc'⟩ := Option.bind_eq_some_iff.1 hc'
          cases wf.obj id _ hid with
          | vec h0 hsz hfl hh =>
            have hne : es ≠ [] := by rintro rfl; simp at he
            obtain ⟨b', o0', cur, ty, q1, q2, q3⟩ := hh hne
            rw [q1] at h1
            obtain ⟨rfl, rfl⟩ := Prod.mk.inj (Option.some.inj h1)
            obtain ⟨u, k1, k2⟩ := q3 i (o + k) e c he hc'
            refine ⟨_, u, rfl, by rw [addr_add, cell_of q2, ← k1]; simp only [Ob.sz, Nat.add_assoc], ?_⟩
            cases k2 with
            | t k2 => exact .t k2
            | @row s r aa cap hcap h0' hsz' hr =>
              refine .row hid (fun hl => ?_) fun m hm => ⟨by have := Option.some.inj hm; omega, fun _ => ⟨fl, sz, es, e, _, _, rfl, he, hc', rfl, Nat.le_refl _, fun _ => ⟨r, rfl, rfl, hcap, fun hl => ?_⟩⟩⟩
              · obtain ⟨b, o, s1, s2, s3⟩ := hr (by rintro rfl; simp at hl)
                rw [s2]; rfl
              · obtain ⟨b, o, s1, s2, s3, s4⟩ := hr (by rintro rfl; simp at hl)
                exact ⟨b, o, s1, s2, s4⟩
            | gone k u h => exact .undef _
        · cases h
      · cases h
  · rename_i id n i j l e o
    cases hp with
    | rptr ho hv =>
      split at h
      · rename_i fl sz es hid
        split at h
        · rename_i hc
          rw [hid] at ho
          obtain rfl := Option.some.inj ho
          obtain ⟨fl', s0, es', el, xx, vv, h1, h2, h3, g4, g5, g6⟩ := (hv _ rfl).2 hc.symm
          obtain ⟨rfl, rfl, rfl⟩ := Ob.vec.inj h1
          split at h
          · rename_i sz' es2 hrow
            split at h
            case isFalse => cases h
            rename_i hel
            simp only [h2, Option.bind_some, h3] at hrow
            obtain rfl := Option.some.inj hrow
            have hvv := Option.some.inj g4
            obtain ⟨rs, r, b, o0, hxr, h4, h4', h5, rfl⟩ := g6 (by omega)
            obtain ⟨rfl, rfl⟩ := C.row.inj hxr
            obtain ⟨t, ht, rfl⟩ := Option.map_eq_some_iff.1 h
            obtain ⟨rr, hrr, ht⟩ := Option.bind_eq_some_iff.1 ht
            cases wf.obj id _ hid with
            | vec h0 hsz hfl hh =>
              have hne : es ≠ [] := by rintro rfl; simp at h2
              obtain ⟨b', o0', cur, ty, q1, q2, q3⟩ := hh hne
              obtain ⟨u, k1, k2⟩ := q3 i j el _ h2 h3
              cases k2 with
              | row hcap h0' hsz' hr =>
                obtain ⟨b2, o2, s1, s2, ⟨cur2, ty2, s3, s4⟩, _⟩ := hr (by rintro rfl; simp at hrr)
                rw [s1] at h5
                obtain ⟨rfl, rfl⟩ := Prod.mk.inj (Option.some.inj h5)
                obtain ⟨u2, t1, t2⟩ := s4 e (o + k) rr t hrr ht
                exact ⟨_, u2, rfl, by rw [addr_add, cell_of s3, ← t1]; simp only [Nat.add_assoc], .t t2⟩
          · cases h
        · cases h
      · cases h
  · cases h
theorem rds_sound (wf : Wf w F σ M) {p : V} {a : Addr} (hp : RepV w F σ M p (.pointer (some a))) : ∀ (n i : Nat) {vs : List V}, rds M p i n = some vs →
    vs.length = n ∧ ∃ us : List Value, us.length = n ∧ (∀ j, j < n → w.cell? (a.add (i + j)) = some (us.getD j Go.undef)) ∧ ∀ (j : Nat) (v : V), vs[j]? = some v → RepV w F σ M v (us.getD j Go.undef)
  | 0, i, vs, h => by
    obtain rfl := Option.some.inj h
    exact ⟨rfl, [], rfl, fun j hj => absurd hj (by omega), fun j v hj => by simp at hj⟩
  | n + 1, i, vs, h => by
    simp only [rds] at h
    obtain ⟨v, hv, h⟩ := Option.bind_eq_some_iff.1 h
    obtain ⟨vs', hvs, rfl⟩ := Option.map_eq_some_iff.1 h
    obtain ⟨a', u, ha, hu, hr⟩ := rd_sound wf hv hp
    obtain rfl : a = a' := by simpa using ha
    obtain ⟨h1, us, h2, h3, h4⟩ := rds_sound wf hp n (i + 1) hvs
    refine ⟨by simp [h1], u :: us, by simp [h2], fun j hj => ?_, fun j v' hj => ?_⟩
    · cases j with
      | zero => simpa using hu
      | succ j =>
        have := h3 j (by omega)
        rw [show i + (j + 1) = i + 1 + j by omega]
        simpa using this
    · cases j with
      | zero => obtain rfl : v = v' := by simpa using hj
                simpa using hr
      | succ j => simpa using h4 j v' (by simpa using hj)
theorem ld_sound {P : Program} (wf : Wf w F σ M) {t : TypeId} {ag : Bool} {n : Nat} {p v : V} {c : Value} (hag : aggT P t = some ag) (hn : szT P t = some n) (h : ld M p ag n = some v) (hp : RepV w F σ M p c) :
    ∃ u, (Instr.loadAt t c).run P w = .ok u w ∧ RepV w F σ M v u := by
  unfold szT at hn
  obtain ⟨info, hinfo, rfl⟩ := Option.map_eq_some_iff.1 hn
  unfold ld at h
  cases ag with
  | false =>
    simp only [cond_false] at h
    obtain ⟨a, u, rfl, hu, hr⟩ := rd_sound wf h hp
    have e : a.add 0 = a := by simp [Addr.add]
    rw [e] at hu
    exact ⟨u, by simp [Instr.loadAt, Instr.sureAddr, loadVar, run_isAgg hag, hu], hr⟩
  | true =>
    simp only [cond_true] at h
    have hz0 : info.size ≠ 0 := by intro hz; simp [hz] at h
    have hzb : (info.size == 0) = false := by simpa using hz0
    simp only [hzb, cond_false] at h
    obtain ⟨vs, hvs, rfl⟩ := Option.map_eq_some_iff.1 h
    have hc : (∃ a, c = .pointer (some a)) ∨ info.size = 0 := by
      cases hz : info.size with
      | zero => exact .inr rfl
      | succ k =>
        rw [hz] at hvs
        simp only [rds] at hvs
        obtain ⟨v, hv, _⟩ := Option.bind_eq_some_iff.1 hvs
        obtain ⟨a, u, ha, _⟩ := rd_sound wf hv hp
        exact .inl ⟨a, ha⟩
    rcases hc with ⟨a, rfl⟩ | hz
    · obtain ⟨h1, us, h2, h3, h4⟩ := rds_sound wf hp info.size 0 hvs
      refine ⟨.agg ((List.range info.size).map fun j => us.getD j Go.undef).toArray, ?_, .agg (by simp [h1]) fun i v hi => ?_⟩
      · have := run_loadCells (P := P) w a info.size (fun j => us.getD j Go.undef) (fun j hj => by simpa using h3 j hj)
        simp [Instr.loadAt, Instr.sureAddr, loadVar, run_isAgg hag, sizeOf, typeInfo, hinfo, this]
      · have hlt : i < info.size := by rw [← h1]; exact (List.getElem?_eq_some_iff.1 hi).1
        have := h4 i v hi
        rw [getD_of_get (c := us.getD i Go.undef)]
        · exact this
        · simp [hlt]
    · exact absurd hz hz0

def Closed (M : Mem) (L : List Nat) : Prop := ∀ id ∈ L, ∀ r ∈ orefs (M id), r ∈ L
theorem clos_spec {M : Mem} : ∀ (n : Nat) {todo done L : List Nat}, clos M n todo done = some L → (∀ id ∈ done, ∀ r ∈ orefs (M id), r ∈ done ∨ r ∈ todo) →
    Closed M L ∧ (∀ id ∈ todo, id ∈ L) ∧ ∀ id ∈ done, id ∈ L
  | 0, todo, done, L, h, _ => by simp [clos] at h
  | n + 1, [], done, L, h, hd => by
    obtain rfl := Option.some.inj h
    exact ⟨fun id hi r hr => (hd id hi r hr).resolve_right (by simp), by simp, fun _ h => h⟩
  | n + 1, id :: todo, done, L, h, hd => by
    simp only [clos] at h
    split at h
    · rename_i hc
      have hc' : id ∈ done := by simpa using hc
      obtain ⟨h1, h2, h3⟩ := clos_spec n h (fun x hx r hr => by
        rcases hd x hx r hr with k | k
        · exact .inl k
        · rcases List.mem_cons.1 k with rfl | k
          · exact .inl hc'
          · exact .inr k)
      refine ⟨h1, fun x hx => ?_, h3⟩
      rcases List.mem_cons.1 hx with rfl | hx
      · exact h3 _ hc'
      · exact h2 x hx
    · obtain ⟨h1, h2, h3⟩ := clos_spec n h (fun x hx r hr => by
        rcases List.mem_append.1 hx with hx | hx
        · rcases hd x hx r hr with k | k
          · exact .inl (List.mem_append_left _ k)
          · rcases List.mem_cons.1 k with rfl | k
            · exact .inl (by simp)
            · exact .inr (List.mem_append_left _ k)
        · obtain rfl : x = id := by simpa using hx
          exact .inr (List.mem_append_right _ hr))
      refine ⟨h1, fun x hx => ?_, fun x hx => h3 x (List.mem_append_left _ hx)⟩
      rcases List.mem_cons.1 hx with rfl | hx
      · exact h3 _ (by simp)
      · exact h2 x (List.mem_append_left _ hx)
theorem clos_nodup {M : Mem} : ∀ (n : Nat) {todo done L : List Nat}, clos M n todo done = some L → done.Nodup → L.Nodup
  | 0, todo, done, L, h, _ => by simp [clos] at h
  | n + 1, [], done, L, h, hd => by obtain rfl := Option.some.inj h; exact hd
  | n + 1, id :: todo, done, L, h, hd => by
    simp only [clos] at h
    split at h
    · exact clos_nodup n h hd
    · rename_i hc
      refine clos_nodup n h (List.nodup_append.2 ⟨hd, by simp, ?_⟩)
      intro a ha b hb
      obtain rfl : b = id := by simpa using hb
      rintro rfl
      exact hc (by simpa using ha)
theorem clos_prefix {M : Mem} : ∀ (n : Nat) {todo done L : List Nat}, clos M n todo done = some L → ∃ r, L = done ++ r
  | 0, todo, done, L, h => by simp [clos] at h
  | n + 1, [], done, L, h => by obtain rfl := Option.some.inj h; exact ⟨[], by simp⟩
  | n + 1, id :: todo, done, L, h => by
    simp only [clos] at h
    split at h
    · exact clos_prefix n h
    · obtain ⟨r, hr⟩ := clos_prefix n h
      exact ⟨id :: r, by rw [hr]; simp⟩
theorem clos_range {M : Mem} : ∀ (k n j : Nat) {todo L : List Nat}, clos M n ((List.range' j k) ++ todo) (List.range j) = some L → ∃ r, L = List.range (j + k) ++ r
  | 0, n, j, todo, L, h => clos_prefix n h
  | k + 1, n, j, todo, L, h => by
    cases n with
    | zero => simp [clos] at h
    | succ n =>
      simp only [List.range'_succ, List.cons_append, clos] at h
      rw [if_neg (by simp)] at h
      have e : List.range j ++ [j] = List.range (j + 1) := by rw [List.range_succ]
      rw [e, List.append_assoc] at h
      obtain ⟨r, hr⟩ := clos_range k n (j + 1) h
      exact ⟨r, by rw [hr]; congr 2; omega⟩

theorem fzC_sound {F' : Nat → Prop} {s : Option (Nat × Nat)} {c : C} {u : Value} (hF : ∀ b, F b → F' b) (hs : ∀ b o, s = some (b, o) → (∃ n l, c = .row n l) → F' b) (h : RepC w F s c u) : RepT w F' c.fz u := by
  cases h with
  | t h => exact h.mono hF fun _ _ => rfl
  | @row sz r a cap hcap h0 hsz h =>
    by_cases hr : r = []
    · subst hr; exact .seq0 ..
    · obtain ⟨b, o, h1, rfl, ⟨cur, ty, h3, h4⟩, _⟩ := h hr
      refine .seq (vals := fun i j => (cur[o + i * sz + j]?).getD Go.undef) (hs b o h1 ⟨_, _, rfl⟩) hcap (fun i e hi => hsz e (List.mem_of_getElem? hi)) (fun i j e t hi hj => ?_) fun i j e t hi hj => ?_
      · obtain ⟨u, k1, k2⟩ := h4 i j e t hi hj
        rw [cell_of h3, k1]; rfl
      · obtain ⟨u, k1, k2⟩ := h4 i j e t hi hj
        rw [k1]; exact k2.mono hF fun _ _ => rfl
  | gone k u h => exact .any _ h
theorem refsL_mem {vs : List V} {v : V} {i : Nat} {r : Nat} (hi : vs[i]? = some v) (hr : r ∈ v.refs) : r ∈ V.refsL vs := by
  induction vs generalizing i with
  | nil => simp at hi
  | cons x xs ih =>
    simp only [V.refsL, List.mem_append]
    cases i with
    | zero => obtain rfl : x = v := by simpa using hi
              exact .inl hr
    | succ i => exact .inr (ih (by simpa using hi))
theorem fz_sound (wf : Wf w F σ M) {L : List Nat} (hL : Closed M L) : ∀ (k : Nat) {v : V} {x : T} {c : Value}, fz M k v = some x → (∀ r ∈ v.refs, r ∈ L) → RepV w F σ M v c → RepT w (killF F σ M L) x c
  | 0, v, x, c, h, _, _ => by simp [fz] at h
  | k + 1, .t y, x, c, h, _, hv => by
    obtain rfl := Option.some.inj h
    cases hv with
    | t hv => exact hv.mono (fun _ h => .inl h) fun _ _ => rfl
  | k + 1, .vec id n sz off len, x, c, h, hr, hv => by
    have hid : id ∈ L := hr id (by simp [V.refs])
    simp only [fz] at h
    split at h
    · rename_i fl sz' es hM
      split at h
      · rename_i hc
        obtain ⟨hn, rfl, hoff⟩ := hc
        obtain rfl := Option.some.inj h
        cases hv with
        | vec ho hl hcp ha hh =>
          rename_i a cap o
          rw [hM] at ho
          obtain rfl := Option.some.inj ho
          obtain ⟨fl', es', he, h2⟩ := (hh _ rfl).2 hn.symm
          obtain ⟨rfl, _, rfl⟩ := Ob.vec.inj he
          by_cases h0 : len = 0
          · subst h0
            simp only [List.take_zero, List.map_nil]
            exact .seq0 ..
          · obtain ⟨b, o0, q1, rfl, q3⟩ := h2 (by omega)
            cases wf.obj id _ hM with
            | vec hz hsz hfl hr' =>
              have hne : es ≠ [] := by rintro rfl; simp at hoff hn; omega
              obtain ⟨b', o0', cur, ty, s1, s2, s3⟩ := hr' hne
              rw [s1] at q1
              obtain ⟨rfl, rfl⟩ := Prod.mk.inj (Option.some.inj q1)
              have hlen : (((es.drop off).take len).map (·.map C.fz)).length = len := by simp; omega
              have key : ∀ (i : Nat) (e : List T), (((es.drop off).take len).map (·.map C.fz))[i]? = some e → ∃ e', es[off + i]? = some e' ∧ e = e'.map C.fz := fun i e hi => by
                rw [List.getElem?_map, Option.map_eq_some_iff] at hi
                obtain ⟨e', he', rfl⟩ := hi
                rw [List.getElem?_take] at he'
                split at he'
                · rw [List.getElem?_drop] at he'
                  exact ⟨e', he', rfl⟩
                · cases he'
              have fin : RepT w (killF F σ M L) (.seq sz' (((es.drop off).take len).map (·.map C.fz))) (.slice (some ⟨b', o0' + off * sz', none⟩) (((es.drop off).take len).map (·.map C.fz)).length cap) := by
                refine .seq (vals := fun i j => (cur[o0' + (off + i) * sz' + j]?).getD Go.undef) (.inr ⟨id, none, o0', hid, ⟨_, hM, by simp⟩, s1⟩) (by omega) (fun i e hi => ?_) (fun i j e t hi hj => ?_) fun i j e t hi hj => ?_
                · obtain ⟨e', he', rfl⟩ := key i e hi
                  simp [hsz e' (List.mem_of_getElem? he')]
                · obtain ⟨e', he', rfl⟩ := key i e hi
                  rw [List.getElem?_map, Option.map_eq_some_iff] at hj
                  obtain ⟨c, hc, rfl⟩ := hj
                  obtain ⟨u, k1, k2⟩ := s3 _ j e' c he' hc
                  simp only [k1, Option.getD_some]
                  rw [cell_of s2, ← k1, Nat.add_mul]
                  congr 1
                  omega
                · obtain ⟨e', he', rfl⟩ := key i e hi
                  rw [List.getElem?_map, Option.map_eq_some_iff] at hj
                  obtain ⟨c, hc, rfl⟩ := hj
                  obtain ⟨u, k1, k2⟩ := s3 _ j e' c he' hc
                  simp only [k1, Option.getD_some]
                  exact fzC_sound (fun _ h => .inl h) (fun b o hs ⟨nn, ll, hc'⟩ => .inr ⟨id, some (off + i, j), o, hid, ⟨_, _, _, e', _, _, hM, he', hc' ▸ hc⟩, hs⟩) k2
              rw [hlen] at fin
              exact fin
      · cases h
    · cases h
  | k + 1, .row id n i j sz len, x, c, h, hr, hv => by
    have hid : id ∈ L := hr id (by simp [V.refs])
    simp only [fz] at h
    split at h
    · rename_i fl s0 es hM
      split at h
      · rename_i hn
        split at h
        · rename_i sz' es' hrow
          split at h
          · rename_i hc
            obtain ⟨rfl, hlen⟩ := hc
            obtain rfl := Option.some.inj h
            obtain ⟨e, he, hcell⟩ := Option.bind_eq_some_iff.1 hrow
            cases hv with
            | row ho ha hh =>
              rename_i a cap o
              rw [hM] at ho
              obtain rfl := Option.some.inj ho
              obtain ⟨fl', s0', es2, e2, xx, vv, he2, h2, h3, g4, g5, g6⟩ := (hh _ rfl).2 hn.symm
              obtain ⟨rfl, rfl, rfl⟩ := Ob.vec.inj he2
              rw [he] at h2
              obtain rfl := Option.some.inj h2
              rw [hcell] at h3
              obtain rfl := Option.some.inj h3
              have hvv := Option.some.inj g4
              obtain ⟨r, hxr, h4, h5, h6⟩ := g6 (by omega)
              have hr0 : es' = r := (C.row.inj hxr).2
              subst hr0
              cases wf.obj id _ hM with
              | vec hz hsz hfl hr' =>
                have hne : es ≠ [] := by rintro rfl; simp at he
                obtain ⟨b', o0', cur, ty, s1, s2, s3⟩ := hr' hne
                obtain ⟨u, k1, k2⟩ := s3 i j e _ he hcell
                cases k2 with
                | row hcap h0' hsz' hrr =>
                  by_cases hnil : es' = []
                  · subst hnil
                    obtain rfl : len = 0 := by simpa using hlen.symm
                    exact .seq0 ..
                  · obtain ⟨b, o, t1, rfl, t3, t4⟩ := hrr hnil
                    have hpos : 0 < len := by rw [← hlen]; exact List.length_pos_iff.2 hnil
                    obtain ⟨b1, o1, v1, rfl, t5⟩ := h6 hpos
                    rw [t1] at v1
                    obtain ⟨rfl, rfl⟩ := Prod.mk.inj (Option.some.inj v1)
                    rw [← hlen]
                    exact fzC_sound (s := some (b, o)) (c := .row sz' es') (fun _ h => .inl h) (fun b2 o2 hs _ => by
                      obtain ⟨rfl, rfl⟩ := Prod.mk.inj (Option.some.inj hs)
                      exact .inr ⟨id, some (i, j), o, hid, ⟨_, _, _, e, _, _, hM, he, hcell⟩, t1⟩) (.row (by omega) h0' hsz' fun _ => ⟨b, o, rfl, rfl, t3, t5⟩)
          · cases h
        · cases h
      · cases h
    · cases h
  | k + 1, .ptr id n i o, x, c, h, hr, hv => by
    have hid : id ∈ L := hr id (by simp [V.refs])
    simp only [fz] at h
    cases hv with
    | ptr ho hh =>
      rename_i a ob
      split at h
      · rename_i cs hM
        split at h
        · rename_i hc
          obtain ⟨rfl, rfl⟩ := hc
          obtain ⟨ts, hts, rfl⟩ := Option.map_eq_some_iff.1 h
          rw [hM] at ho
          obtain rfl := Option.some.inj ho
          obtain ⟨b, o0, h1, rfl⟩ := (hh 1 rfl).2 rfl
          cases wf.obj id _ hM with
          | @box _ b2 o2 cur ty hs hb hcs =>
            rw [hs] at h1
            obtain ⟨rfl, rfl⟩ := Prod.mk.inj (Option.some.inj h1)
            obtain ⟨m1, m2⟩ := mapM_some_get hts
            simp only [Nat.zero_mul, Nat.add_zero]
            refine .ptr (vals := fun i => (cur[o2 + i]?).getD Go.undef) (.inr ⟨id, none, o2, hid, ⟨_, hM, by simp⟩, hs⟩) (fun i t hi => ?_) fun i t hi => ?_
            · obtain ⟨v, hv, hf⟩ := m2 i t hi
              obtain ⟨u, k1, k2⟩ := hcs i v hv
              rw [cell_of hb, k1]; rfl
            · obtain ⟨v, hv, hf⟩ := m2 i t hi
              obtain ⟨u, k1, k2⟩ := hcs i v hv
              rw [k1]
              exact fz_sound wf hL k hf (fun r hr => hL id hid r (by rw [hM]; exact refsL_mem hv hr)) k2
        · cases h
      · rename_i fl sz es hM
        split at h
        · rename_i hn
          obtain ⟨e, he, rfl⟩ := Option.map_eq_some_iff.1 h
          rw [hM] at ho
          obtain rfl := Option.some.inj ho
          obtain ⟨b, o0, h1, rfl⟩ := (hh _ rfl).2 hn.symm
          cases wf.obj id _ hM with
          | vec hz hsz hfl hr' =>
            have hne : es ≠ [] := by rintro rfl; simp at he
            obtain ⟨b', o0', cur, ty, s1, s2, s3⟩ := hr' hne
            rw [s1] at h1
            obtain ⟨rfl, rfl⟩ := Prod.mk.inj (Option.some.inj h1)
            refine .ptr (vals := fun j => (cur[o0' + i * sz + j]?).getD Go.undef) (.inr ⟨id, none, o0', hid, ⟨_, hM, by simp⟩, s1⟩) (fun j t hj => ?_) fun j t hj => ?_
            · rw [List.getElem?_map, Option.map_eq_some_iff] at hj
              obtain ⟨c, hc, rfl⟩ := hj
              obtain ⟨u, k1, k2⟩ := s3 i j e c he hc
              simp only [Ob.sz]
              rw [cell_of s2, k1]; rfl
            · rw [List.getElem?_map, Option.map_eq_some_iff] at hj
              obtain ⟨c, hc, rfl⟩ := hj
              obtain ⟨u, k1, k2⟩ := s3 i j e c he hc
              rw [k1]
              exact fzC_sound (fun _ h => .inl h) (fun b o hs ⟨nn, ll, hc'⟩ => .inr ⟨id, some (i, j), o, hid, ⟨_, _, _, e, _, _, hM, he, hc' ▸ hc⟩, hs⟩) k2
        · cases h
      · cases h
  | k + 1, .clo f caps, x, c, h, hr, hv => by
    simp only [fz] at h
    obtain ⟨ts, hts, rfl⟩ := Option.map_eq_some_iff.1 h
    cases hv with
    | clo hl hv =>
      obtain ⟨m1, m2⟩ := mapM_some_get hts
      refine .clo (by omega) fun i t hi => ?_
      obtain ⟨v, hv', hf⟩ := m2 i t hi
      exact fz_sound wf hL k hf (fun r hr' => hr r (by simp only [V.refs]; exact refsL_mem hv' hr')) (hv i v hv')
  | k + 1, .undef, x, c, h, _, _ => by simp [fz] at h
  | k + 1, .rptr .., x, c, h, _, _ => by simp [fz] at h
  | k + 1, .agg _, x, c, h, _, _ => by simp [fz] at h
  | k + 1, .tup _, x, c, h, _, _ => by simp [fz] at h
end
end Go.Ev

namespace Go.Ev
set_option linter.unusedVariables false
set_option linter.unusedSimpArgs false
section
variable {w : World} {F : Nat → Prop} {σ : Sg} {M : Mem}
def Ghost (w : World) (F : Nat → Prop) (σ : Sg) (M : Mem) (F' : Nat → Prop) (M' : Mem) : Prop := Step w F σ M w F' σ M'
theorem clos_of_refs {n : Nat} {rs L : List Nat} (h : clos M n rs [] = some L) : Closed M L ∧ ∀ r ∈ rs, r ∈ L := by
  obtain ⟨h1, h2, _⟩ := clos_spec n h (fun id hi => by simp at hi)
  exact ⟨h1, h2⟩
theorem fz1_sound (wf : Wf w F σ M) {L : List Nat} (hL : Closed M L) {v v' : V} {c : Value} (h : fz1 M v = some v') (hr : ∀ r ∈ v.refs, r ∈ L) (hv : RepV w F σ M v c) {M' : Mem} {σ' : Sg} :
    RepV w (killF F σ M L) σ' M' v' c := by
  unfold fz1 at h
  split at h
  · rename_i vs
    obtain ⟨ts, hts, rfl⟩ := Option.map_eq_some_iff.1 h
    obtain ⟨m1, m2⟩ := mapM_some_get hts
    cases hv with
    | agg hl hv =>
      refine .agg (by simp; omega) fun i x hi => ?_
      rw [List.getElem?_map, Option.map_eq_some_iff] at hi
      obtain ⟨t, ht, rfl⟩ := hi
      obtain ⟨u, hu, hf⟩ := m2 i t ht
      exact .t (fz_sound wf hL 16 hf (fun r hr' => hr r (by simp only [V.refs]; exact refsL_mem hu hr')) (hv i u hu))
  · obtain ⟨x, hx, rfl⟩ := Option.map_eq_some_iff.1 h
    exact .t (fz_sound wf hL 16 hx hr hv)
theorem fzV_sound (wf : Wf w F σ M) {L : List Nat} (hL : Closed M L) {v v' : V} {c : Value} (h : fzV M v = some v') (hr : ∀ r ∈ v.refs, r ∈ L) (hv : RepV w F σ M v c) {M' : Mem} {σ' : Sg} :
    RepV w (killF F σ M L) σ' M' v' c := by
  unfold fzV at h
  split at h
  · rename_i vs
    obtain ⟨ts, hts, rfl⟩ := Option.map_eq_some_iff.1 h
    obtain ⟨m1, m2⟩ := mapM_some_get hts
    cases hv with
    | tup hl hv =>
      refine .tup (by omega) fun i x hi => ?_
      obtain ⟨u, hu, hf⟩ := m2 i x hi
      exact fz1_sound wf hL hf (fun r hr' => hr r (by simp only [V.refs]; exact refsL_mem hu hr')) (hv i u hu)
  · exact fz1_sound wf hL h hr hv
theorem mvV_sound (wf : Wf w F σ M) {v v' : V} {M' : Mem} {c : Value} (h : mvV M v = some (v', M')) (hv : RepV w F σ M v c) :
    ∃ F', Step w F σ M w F' σ M' ∧ RepV w F' σ M' v' c := by
  unfold mvV at h
  obtain ⟨x, hx, h⟩ := Option.bind_eq_some_iff.1 h
  split at h
  · obtain ⟨rfl, rfl⟩ := Prod.mk.inj (Option.some.inj h)
    refine ⟨F, .refl wf, ?_⟩
    simp only [fzV, fz1, fz, Option.map_some] at hx
    obtain rfl := Option.some.inj hx
    exact hv
  · obtain ⟨L, hL, h⟩ := Option.map_eq_some_iff.1 h
    obtain ⟨rfl, rfl⟩ := Prod.mk.inj h
    obtain ⟨h1, h2⟩ := clos_of_refs hL
    exact ⟨_, step_kill wf L, fzV_sound wf h1 hx h2 hv⟩
theorem toC_sound (wf : Wf w F σ M) {nest : Bool} {v : V} {c : C} {M' : Mem} {u : Value} (h : toC nest M v = some (c, M')) (hv : RepV w F σ M v u) :
    ∃ F' x, Step w F σ M w F' σ M' ∧ c = .t x ∧ RepT w F' x u := by
  have key : ∀ v, (mvV M v).bind (fun | (.t x, M') => some (C.t x, M') | _ => none) = some (c, M') → RepV w F σ M v u → ∃ F' x, Step w F σ M w F' σ M' ∧ c = .t x ∧ RepT w F' x u := fun v h hv => by
    obtain ⟨p, hp, h⟩ := Option.bind_eq_some_iff.1 h
    obtain ⟨v', M1⟩ := p
    split at h
    · rename_i he
      obtain ⟨rfl, rfl⟩ := Prod.mk.inj he
      obtain ⟨rfl, rfl⟩ := Prod.mk.inj (Option.some.inj h)
      obtain ⟨F', hs, hr⟩ := mvV_sound wf hp hv
      cases hr with
      | t hr => exact ⟨F', _, hs, rfl, hr⟩
    · cases h
  unfold toC at h
  split at h
  · obtain ⟨rfl, rfl⟩ := Prod.mk.inj (Option.some.inj h)
    cases hv with
    | t hv => exact ⟨F, _, .refl wf, rfl, hv⟩
  · cases nest with
    | true => cases h
    | false => exact key _ h hv
  · exact key _ h hv
theorem oneCell_T {x : T} {u : Value} (h : RepT w F x u) : u.oneCell' = true := by cases h <;> first | assumption | rfl
theorem oneCell_V {v : V} {u : Value} (hc : v.isCell = true) (h : RepV w F σ M v u) : u.oneCell' = true := by
  cases h with
  | t h => exact oneCell_T h
  | undef | agg | tup => simp [V.isCell] at hc
  | _ => rfl
theorem run_store_at {P : Program} {b i : Nat} {cur : Array Value} {ty : TypeId} {u : Value} (hb : w.heap[b]? = some (.cells cur ty (0, 0))) (hi : i < cur.size) (h1 : u.oneCell' = true) :
    (store ⟨b, i, none⟩ u).run P w = .ok () (w.setRow b (cur.setIfInBounds i u)) := by
  have hcell : w.cell? ⟨b, i, none⟩ = some cur[i] := by simp [World.cell?, hb, hi]
  have hfro : w.frozen? ⟨b, i, none⟩ = false := by simp [World.frozen?, hb]
  rw [run_store P w _ u _ h1, hcell]
  simp [hfro, setCell_eq_setRow w b i cur ty (0, 0) u hb]
theorem two_idx {sz i a x y : Nat} (h0 : 0 < sz) (hx : x < sz) (hy : y < sz) (h : i * sz + x = a * sz + y) : a = i ∧ y = x := by
  have e1 : (i * sz + x) / sz = i := by rw [Nat.mul_comm, Nat.mul_add_div h0, Nat.div_eq_of_lt hx]; rfl
  have e2 : (a * sz + y) / sz = a := by rw [Nat.mul_comm, Nat.mul_add_div h0, Nat.div_eq_of_lt hy]; rfl
  have e3 : a = i := by rw [← e1, ← e2, h]
  subst e3
  exact ⟨rfl, by omega⟩
theorem wr0_sound {P : Program} (wf : Wf w F σ M) {nest : Bool} {p v : V} {k : Nat} {M' : Mem} {c u : Value} (h : wr0 nest M p k v = some M') (hp : RepV w F σ M p c) (hv : RepV w F σ M v u) :
    ∃ a, c = .pointer (some a) ∧ ∃ w' F', (store (a.add k) u).run P w = .ok () w' ∧ Step w F σ M w' F' σ M' := by
  unfold wr0 at h
  split at h
  · rename_i id n i o
    split at h
    · rename_i cs hM
      split at h
      · rename_i hc
        obtain ⟨rfl, rfl, hlt, hcell⟩ := hc
        obtain rfl := Option.some.inj h
        cases hp with
        | ptr ho hh =>
          rw [hM] at ho
          obtain rfl := Option.some.inj ho
          obtain ⟨b, o0, h1, rfl⟩ := (hh 1 rfl).2 rfl
          cases wf.obj id _ hM with
          | @box _ b2 o2 cur ty hs hb hcs =>
            rw [hs] at h1
            obtain ⟨rfl, rfl⟩ := Prod.mk.inj (Option.some.inj h1)
            obtain ⟨u0, k1, k2⟩ := hcs (o + k) _ (List.getElem?_eq_getElem hlt)
            have hlt' : o2 + (o + k) < cur.size := (Array.getElem?_eq_some_iff.1 k1).1
            have e : (⟨b2, o2 + 0 * (Ob.box cs).sz + o, none⟩ : Addr).add k = ⟨b2, o2 + (o + k), none⟩ := by rw [addr_add]; congr 1; simp; omega
            refine ⟨_, rfl, _, F, by rw [e]; exact run_store_at hb hlt' (oneCell_V hcell hv), ?_⟩
            refine step_store wf (p := none) hM ⟨_, hM, by simp⟩ hs hb (by simp) ⟨fun m' hm => ?_⟩ (fun q hq => ?_) fun le => ?_
            · obtain rfl := Option.some.inj hm
              exact ⟨1, rfl, Nat.le_refl _, fun _ => ⟨by simp [Ob.sz], fun _ h => h, fun fl sz es he => by cases he⟩⟩
            · cases q with
              | none => exact ⟨_, hM, by simp⟩
              | some q => obtain ⟨i, j⟩ := q; obtain ⟨fl, sz, es, e, s, r, h1, _⟩ := hq; rw [upd_same] at h1; cases h1
            · refine .box hs (setRow_heap w b2 cur _ ty _ hb) fun j x hj => ?_
              rw [List.getElem?_set] at hj
              by_cases hjk : o + k = j
              · subst hjk
                rw [if_pos rfl, if_pos hlt] at hj
                obtain rfl := Option.some.inj hj
                exact ⟨u, by simp [hlt'], hv.mono le⟩
              · rw [if_neg hjk] at hj
                obtain ⟨u1, q1, q2⟩ := hcs j x hj
                refine ⟨u1, ?_, q2.mono le⟩
                rw [Array.getElem?_setIfInBounds_ne (by omega)]
                exact q1
      · cases h
    · rename_i flM szM esM hM
      obtain ⟨q, hq, h⟩ := Option.bind_eq_some_iff.1 h
      obtain ⟨cc, M1⟩ := q
      dsimp only at h
      obtain ⟨F1, x, st1, rfl, hx⟩ := toC_sound wf hq hv
      split at h
      · rename_i fl sz es hM1
        split at h
        · rename_i hn
          split at h
          · rename_i e he
            split at h
            · rename_i y hy
              obtain rfl := Option.some.inj h
              cases hp.mono st1.le with
              | ptr ho hh =>
                rw [hM1] at ho
                obtain rfl := Option.some.inj ho
                obtain ⟨b, o0, h1, rfl⟩ := (hh _ rfl).2 hn.symm
                cases st1.wf.obj id _ hM1 with
                | vec h0 hsz hfl hr =>
                  have hne : es ≠ [] := by rintro rfl; simp at he
                  obtain ⟨b2, o2, cur, ty, hs, hb, hcs⟩ := hr hne
                  rw [hs] at h1
                  obtain ⟨rfl, rfl⟩ := Prod.mk.inj (Option.some.inj h1)
                  obtain ⟨u0, k1, k2⟩ := hcs i (o + k) e _ he hy
                  have hlt : o + k < e.length := (List.getElem?_eq_some_iff.1 hy).1
                  have hilt : i < es.length := (List.getElem?_eq_some_iff.1 he).1
                  have hel : e.length = sz := hsz e (List.mem_of_getElem? he)
                  have hlt' : o2 + i * sz + (o + k) < cur.size := (Array.getElem?_eq_some_iff.1 k1).1
                  have ead : (⟨b2, o2 + i * (Ob.vec fl sz es).sz + o, none⟩ : Addr).add k = ⟨b2, o2 + i * sz + (o + k), none⟩ := by rw [addr_add]; simp only [Ob.sz]; congr 1; omega
                  refine ⟨_, rfl, _, F1, by rw [ead]; exact run_store_at hb hlt' (oneCell_T hx), st1.trans ?_⟩
                  -- cells of the new list
                  have keep : ∀ (a b : Nat) (e' : List C) (c' : C), (es.set i (e.set (o + k) (.t x)))[a]? = some e' → e'[b]? = some c' →
                      (a = i ∧ b = o + k ∧ c' = .t x) ∨ (¬ (a = i ∧ b = o + k) ∧ ∃ e0, es[a]? = some e0 ∧ e0[b]? = some c') := fun a b e' c' ha hb' => by
                    rw [List.getElem?_set] at ha
                    by_cases hai : i = a
                    · subst hai
                      rw [if_pos rfl, if_pos hilt] at ha
                      obtain rfl := Option.some.inj ha
                      rw [List.getElem?_set] at hb'
                      by_cases hbk : o + k = b
                      · subst hbk
                        rw [if_pos rfl, if_pos hlt] at hb'
                        exact .inl ⟨rfl, rfl, (Option.some.inj hb').symm⟩
                      · rw [if_neg hbk] at hb'
                        exact .inr ⟨fun h => hbk h.2.symm, e, he, hb'⟩
                    · rw [if_neg hai] at ha
                      exact .inr ⟨fun h => hai h.1.symm, e', ha, hb'⟩
                  refine step_store st1.wf (p := none) hM1 ⟨_, hM1, by simp⟩ hs hb (by simp) ⟨fun m' hm => ?_⟩ (fun q hq => ?_) fun le => ?_
                  · obtain rfl := Option.some.inj hm
                    refine ⟨_, rfl, by simp, fun _ => ⟨rfl, fun _ h => h, fun fl' sz' es' he' => ?_⟩⟩
                    obtain ⟨rfl, rfl, rfl⟩ := Ob.vec.inj he'
                    refine ⟨_, _, rfl, fun a b' e1 c0 v0 ha hb' hv0 => ?_⟩
                    by_cases hai : i = a
                    · subst hai
                      rw [he] at ha
                      obtain rfl := Option.some.inj ha
                      have hbk : o + k ≠ b' := by rintro rfl; rw [hy] at hb'; obtain rfl := Option.some.inj hb'; cases hv0
                      exact ⟨_, c0, v0, by rw [List.getElem?_set, if_pos rfl, if_pos hilt], by rw [List.getElem?_set, if_neg hbk]; exact hb', hv0, Nat.le_refl _, fun _ => ⟨fun _ r0 h => ⟨r0, h⟩, fun _ h => h⟩⟩
                    · exact ⟨e1, c0, v0, by rw [List.getElem?_set, if_neg hai]; exact ha, hb', hv0, Nat.le_refl _, fun _ => ⟨fun _ r0 h => ⟨r0, h⟩, fun _ h => h⟩⟩
                  · cases q with
                    | none => exact ⟨_, hM1, by simp⟩
                    | some q =>
                      obtain ⟨a, b'⟩ := q
                      obtain ⟨fl', sz', es', e', s, r, g1, g2, g3⟩ := hq
                      rw [upd_same] at g1
                      obtain ⟨rfl, rfl, rfl⟩ := Ob.vec.inj (Option.some.inj g1)
                      rcases keep a b' e' _ g2 g3 with ⟨_, _, h⟩ | ⟨_, e0, g4, g5⟩
                      · cases h
                      · exact ⟨fl, sz, es, e0, s, r, hM1, g4, g5⟩
                  · refine .vec h0 (fun e' he' => ?_) (fun hfl' e' he' c' hc' => ?_) fun _ => ⟨b2, o2, _, ty, hs, setRow_heap w b2 cur _ ty _ hb, fun a b' e' c' ha hb' => ?_⟩
                    · rcases List.mem_or_eq_of_mem_set he' with h | rfl
                      · exact hsz e' h
                      · simp [hel]
                    · have hfl2 : fl = true := by simp [C.isT] at hfl'; exact hfl'
                      rcases List.mem_or_eq_of_mem_set he' with h | rfl
                      · exact hfl hfl2 e' h c' hc'
                      · rcases List.mem_or_eq_of_mem_set hc' with h | rfl
                        · exact hfl hfl2 e (List.mem_of_getElem? he) c' h
                        · rfl
                    · rcases keep a b' e' c' ha hb' with ⟨rfl, rfl, rfl⟩ | ⟨hnn, e0, g4, g5⟩
                      · exact ⟨u, by simp [hlt'], .t (hx.mono le.fF le.same)⟩
                      · obtain ⟨u1, q1, q2⟩ := hcs a b' e0 c' g4 g5
                        have hbl : b' < sz := by rw [← hsz e0 (List.mem_of_getElem? g4)]; exact (List.getElem?_eq_some_iff.1 g5).1
                        have hokl : o + k < sz := by omega
                        have hne' : o2 + i * sz + (o + k) ≠ o2 + a * sz + b' := fun h => hnn (by
                          have h2 : i * sz + (o + k) = a * sz + b' := by omega
                          exact two_idx h0 hokl hbl h2)
                        refine ⟨u1, by rw [Array.getElem?_setIfInBounds_ne hne']; exact q1, q2.mono le.fF le.same fun b3 o3 hs3 ⟨nn, ll, hcr⟩ => ?_⟩
                        refine setRow_other w b2 b3 _ fun e3 => ?_
                        subst e3
                        have := (st1.wf.inj id (some (a, b')) id none b3 o3 o2 ⟨_, _, _, e0, _, _, hM1, g4, hcr ▸ g5⟩ ⟨_, hM1, by simp⟩ hs3 hs).2
                        cases this
            · cases h
          · cases h
        · cases h
      · cases h
    · cases h
  · cases h
theorem wrN_sound {P : Program} (wf : Wf w F σ M) {id n i o k id2 n2 sz2 off2 len2 : Nat} {M' : Mem} {c u : Value} (h : wrN M id n i (o + k) id2 n2 sz2 off2 len2 = some M') (hp : RepV w F σ M (.ptr id n i o) c) (hv : RepV w F σ M (.vec id2 n2 sz2 off2 len2) u) :
    ∃ a, c = .pointer (some a) ∧ ∃ w' F' σ', (store (a.add k) u).run P w = .ok () w' ∧ Step w F σ M w' F' σ' M' := by
  unfold wrN at h
  split at h
  · cases h
  rename_i hno
  have hne : id ≠ id2 := fun e => hno (.inl e)
  have hoff : off2 = 0 := Decidable.byContradiction fun e => hno (.inr e)
  subst hoff
  split at h
  · rename_i fl2 sz2' es2 hM2
    split at h
    · rename_i hc2
      obtain ⟨hn2, rfl, rfl, hlen2⟩ := hc2
      split at h
      · rename_i fl sz es hM
        split at h
        · rename_i hn
          split at h
          · rename_i e he
            split at h
            · rename_i y hy
              cases hroom : C.room len2 y with
              | false => rw [hroom] at h; cases h
              | true =>
              rw [hroom] at h
              obtain rfl := Option.some.inj h
              cases hp with
              | ptr ho hh =>
                rw [hM] at ho
                obtain rfl := Option.some.inj ho
                obtain ⟨b, o0, h1, rfl⟩ := (hh _ rfl).2 hn.symm
                have hO := wf.obj id _ hM
                have hO2 := wf.obj id2 _ hM2
                cases hO with
                | vec h0 hsz hfl hr =>
                  have hne0 : es ≠ [] := by rintro rfl; simp at he
                  obtain ⟨b', o0', cur, ty, hs, hb, hcs⟩ := hr hne0
                  rw [hs] at h1
                  obtain ⟨rfl, rfl⟩ := Prod.mk.inj (Option.some.inj h1)
                  cases hO2 with
                  | vec h02 hsz2 hfl2 hr2 =>
                    cases hv with
                    | @vec _ _ _ _ _ av cap o2 ho2 hl2 hcap2 ha2 hh2 =>
                      rw [hM2] at ho2
                      obtain rfl := Option.some.inj ho2
                      obtain ⟨_, hq2⟩ := hh2 _ rfl
                      obtain ⟨_, _, _, hq3⟩ := hq2 hn2.symm
                      obtain ⟨u0, k1, k2⟩ := hcs i (o + k) e _ he hy
                      have hlt : o + k < e.length := (List.getElem?_eq_some_iff.1 hy).1
                      have hilt : i < es.length := (List.getElem?_eq_some_iff.1 he).1
                      have hel : e.length = sz := hsz e (List.mem_of_getElem? he)
                      have hlt' : o0' + i * sz + (o + k) < cur.size := (Array.getElem?_eq_some_iff.1 k1).1
                      have ead : (⟨b', o0' + i * (Ob.vec fl sz es).sz + o, none⟩ : Addr).add k = ⟨b', o0' + i * sz + (o + k), none⟩ := by rw [addr_add]; simp only [Ob.sz]; congr 1; omega
                      refine ⟨_, rfl, _, F, fun x p => if x = id ∧ p = some (i, o + k) then σ id2 none else σ x p, by rw [ead]; exact run_store_at hb hlt' rfl, ?_⟩
                      generalize hσ' : (fun (x : Nat) (p : Option (Nat × Nat)) => if x = id ∧ p = some (i, o + k) then σ id2 none else σ x p) = σ'
                      have s_new : σ' id (some (i, o + k)) = σ id2 none := by rw [← hσ']; simp
                      have s_old : ∀ x p, ¬ (x = id ∧ p = some (i, o + k)) → σ' x p = σ x p := fun x p hx => by rw [← hσ']; exact if_neg hx
                      have l1 : Live M id none := ⟨_, hM, by simp⟩
                      have l2 : Live M id2 none := ⟨_, hM2, by simp⟩
                      have hb2 : ∀ b2 o2, σ id2 none = some (b2, o2) → b2 ≠ b' := fun b2 o2 h2 e2 => by
                        subst e2
                        exact hne (wf.inj id none id2 none b2 o0' o2 l1 l2 hs h2).1
                      have keep : ∀ (a b : Nat) (e' : List C) (c' : C), (es.set i (e.set (o + k) (.row sz2' ((es2.take len2).map (·.map C.fz)))))[a]? = some e' → e'[b]? = some c' →
                          (a = i ∧ b = o + k ∧ c' = .row sz2' ((es2.take len2).map (·.map C.fz))) ∨ (¬ (a = i ∧ b = o + k) ∧ ∃ e0, es[a]? = some e0 ∧ e0[b]? = some c') := fun a b e' c' ha hb' => by
                        rw [List.getElem?_set] at ha
                        by_cases hai : i = a
                        · subst hai
                          rw [if_pos rfl, if_pos hilt] at ha
                          obtain rfl := Option.some.inj ha
                          rw [List.getElem?_set] at hb'
                          by_cases hbk : o + k = b
                          · subst hbk
                            rw [if_pos rfl, if_pos hlt] at hb'
                            exact .inl ⟨rfl, rfl, (Option.some.inj hb').symm⟩
                          · rw [if_neg hbk] at hb'
                            exact .inr ⟨fun h => hbk h.2.symm, e, he, hb'⟩
                        · rw [if_neg hai] at ha
                          exact .inr ⟨fun h => hai h.1.symm, e', ha, hb'⟩
                      generalize hM' : upd (upd M id2 (some Ob.dead)) id (some (Ob.vec false sz (es.set i (e.set (o + k) (.row sz2' ((es2.take len2).map (·.map C.fz))))))) = M'
                      have m_id : M' id = some (Ob.vec false sz (es.set i (e.set (o + k) (.row sz2' ((es2.take len2).map (·.map C.fz)))))) := by rw [← hM']; exact upd_same ..
                      have m_id2 : M' id2 = some .dead := by rw [← hM', upd_ne _ _ (Ne.symm hne)]; exact upd_same ..
                      have m_ne : ∀ x, x ≠ id → x ≠ id2 → M' x = M x := fun x x1 x2 => by rw [← hM', upd_ne _ _ x1, upd_ne _ _ x2]
                      -- a place that is in use now, and where it was
                      have was : ∀ x p, Live M' x p → (x = id ∧ p = some (i, o + k)) ∨ (¬ (x = id ∧ p = some (i, o + k)) ∧ x ≠ id2 ∧ Live M x p) := fun x p hl => by
                        by_cases x1 : x = id
                        · subst x1
                          cases p with
                          | none => exact .inr ⟨by simp, hne, l1⟩
                          | some q =>
                            obtain ⟨a, b''⟩ := q
                            obtain ⟨fl', sz', es', e', s, r, g1, g2, g3⟩ := hl
                            rw [m_id] at g1
                            obtain ⟨rfl, rfl, rfl⟩ := Ob.vec.inj (Option.some.inj g1)
                            rcases keep a b'' e' _ g2 g3 with ⟨rfl, rfl, _⟩ | ⟨hnn, e0, g4, g5⟩
                            · exact .inl ⟨rfl, rfl⟩
                            · exact .inr ⟨fun h => hnn (by obtain ⟨_, h⟩ := h; obtain ⟨h1, h2⟩ := Prod.mk.inj (Option.some.inj h); exact ⟨h1, h2⟩), hne, fl, sz, es, e0, s, r, hM, g4, g5⟩
                        · by_cases x2 : x = id2
                          · subst x2
                            exfalso
                            cases p with
                            | none => obtain ⟨ob, g1, g2⟩ := hl; rw [m_id2] at g1; exact g2 (Option.some.inj g1).symm
                            | some q => obtain ⟨a, b''⟩ := q; obtain ⟨fl', sz', es', e', s, r, g1, _⟩ := hl; rw [m_id2] at g1; cases g1
                          · refine .inr ⟨fun h => x1 h.1, x2, ?_⟩
                            cases p with
                            | none => obtain ⟨ob, g1, g2⟩ := hl; rw [m_ne x x1 x2] at g1; exact ⟨ob, g1, g2⟩
                            | some q => obtain ⟨a, b''⟩ := q; obtain ⟨fl', sz', es', e', s, r, g1, g2⟩ := hl; rw [m_ne x x1 x2] at g1; exact ⟨fl', sz', es', e', s, r, g1, g2⟩
                      have hF : ∀ b1, F b1 → b1 ≠ b' := fun b1 h e1 => (wf.row id none b' o0' l1 hs).1 (e1 ▸ h)
                      have hsize : (cur.setIfInBounds (o0' + i * sz + (o + k)) (.slice av len2 cap)).size = cur.size := by simp
                      have le : Le w F σ M (w.setRow b' (cur.setIfInBounds (o0' + i * sz + (o + k)) (.slice av len2 cap))) F σ' M' := by
                        refine ⟨fun _ h => h, fun b1 h => setRow_other w b' b1 _ (hF b1 h), fun x o1 hx => ?_, fun _ _ h => row_setRow hb hsize h⟩
                        by_cases x1 : x = id
                        · subst x1
                          rw [hM] at hx
                          obtain rfl := Option.some.inj hx
                          refine ⟨_, m_id, ⟨fun m' hm => ?_⟩⟩
                          obtain rfl := Option.some.inj hm
                          refine ⟨_, rfl, by simp, fun _ => ⟨rfl, fun z hz => by rw [s_old _ _ (by simp)]; exact hz, fun fl' sz' es' he' => ?_⟩⟩
                          obtain ⟨rfl, rfl, rfl⟩ := Ob.vec.inj he'
                          refine ⟨_, _, rfl, fun a b'' e1 c0 v0 ha hb' hv0 => ?_⟩
                          by_cases hnn : (a = i ∧ b'' = o + k)
                          · obtain ⟨rfl, rfl⟩ := hnn
                            rw [he] at ha
                            obtain rfl := Option.some.inj ha
                            rw [hy] at hb'
                            obtain rfl := Option.some.inj hb'
                            have hl3 : ((es2.take len2).map (·.map C.fz)).length = len2 := by simp; omega
                            refine ⟨_, _, 2 * len2, by rw [List.getElem?_set, if_pos rfl, if_pos hilt], by rw [List.getElem?_set, if_pos rfl, if_pos hlt], by simp only [C.ver, hl3], ?_⟩
                            cases y with
                            | t _ => cases hv0
                            | row s r => cases hroom
                            | gone k0 =>
                              have hk0 : k0 < len2 := by simpa [C.room] using hroom
                              obtain rfl := Option.some.inj hv0
                              exact ⟨by omega, fun h => by omega⟩
                          refine ⟨if a = i then e.set (o + k) (.row sz2' ((es2.take len2).map (·.map C.fz))) else e1, c0, v0, ?_, ?_, hv0, Nat.le_refl _, fun _ => ⟨fun _ r0 h0c => ⟨r0, h0c⟩, fun z hz => by rw [s_old _ _ (fun h => hnn (by obtain ⟨_, h⟩ := h; obtain ⟨h1, h2⟩ := Prod.mk.inj (Option.some.inj h); exact ⟨h1, h2⟩))]; exact hz⟩⟩
                          · by_cases hai : a = i
                            · subst hai; rw [if_pos rfl, List.getElem?_set, if_pos rfl, if_pos hilt]
                            · rw [if_neg hai, List.getElem?_set, if_neg (Ne.symm hai)]; exact ha
                          · by_cases hai : a = i
                            · subst hai
                              rw [he] at ha
                              obtain rfl := Option.some.inj ha
                              rw [if_pos rfl, List.getElem?_set, if_neg (fun h => hnn ⟨rfl, h.symm⟩)]
                              exact hb'
                            · rw [if_neg hai]; exact hb'
                        · by_cases x2 : x = id2
                          · subst x2
                            exact ⟨.dead, m_id2, ⟨fun m' hm => by cases hm⟩⟩
                          · refine ⟨o1, by rw [m_ne x x1 x2]; exact hx, ⟨fun m' hm => ⟨m', hm, Nat.le_refl _, fun _ => ⟨rfl, fun z hz => by rw [s_old _ _ (fun h => x1 h.1)]; exact hz, fun fl' sz' es' he' => ⟨fl', es', he', fun a b'' e1 c0 v0 ha hb' h0v => ⟨e1, c0, v0, ha, hb', h0v, Nat.le_refl _, fun _ => ⟨fun _ r0 h0c => ⟨r0, h0c⟩, fun z hz => by rw [s_old _ _ (fun h => x1 h.1)]; exact hz⟩⟩⟩⟩⟩⟩⟩
                      refine ⟨le, ⟨fun x o1 hx => ?_, fun id1 p1 id2' p2 b1 a1 a2 q1 q2 q3 q4 => ?_, fun id1 p1 b1 a1 q1 q2 => ?_, fun b1 q1 => by simpa using wf.lt b1 q1⟩, ⟨rfl, rfl, rfl, by simp, fun b1 _ hno => setRow_other w b' b1 _ fun e1 => hno ?_, fun b1 h => .inl h, fun b1 ⟨id1, p1, a1, q1, q2⟩ => .inl ?_⟩⟩
                      · by_cases x1 : x = id
                        · subst x1
                          rw [m_id] at hx
                          obtain rfl := Option.some.inj hx
                          refine .vec h0 (fun e' he' => ?_) (fun hf => by cases hf) fun _ => ⟨b', o0', _, ty, by rw [s_old _ _ (by simp)]; exact hs, setRow_heap w b' cur _ ty _ hb, fun a b'' e' c' ha hb' => ?_⟩
                          · rcases List.mem_or_eq_of_mem_set he' with h | rfl
                            · exact hsz e' h
                            · simp [hel]
                          · rcases keep a b'' e' c' ha hb' with ⟨rfl, rfl, rfl⟩ | ⟨hnn, e0, g4, g5⟩
                            · refine ⟨.slice av len2 cap, by simp [hlt'], ?_⟩
                              have hl3 : ((es2.take len2).map (·.map C.fz)).length = len2 := by simp; omega
                              rw [s_new]
                              have hrow := RepC.row (w := w.setRow b' (cur.setIfInBounds (o0' + a * sz + (o + k)) (.slice av len2 cap))) (F := F) (s := σ id2 none) (sz := sz2') (es := (es2.take len2).map (·.map C.fz)) (a := av) (cap := cap) (by rw [hl3]; omega) h02 (fun r hr3 => by
                                obtain ⟨r0, hr0, rfl⟩ := List.mem_map.1 hr3
                                simpa using hsz2 r0 (List.mem_of_mem_take hr0)) (fun hne3 => by
                                  have hes2 : es2 ≠ [] := by rintro rfl; simp at hne3
                                  obtain ⟨b2, o2, cur2, ty2, z1, z2, z3⟩ := hr2 hes2
                                  have hpos : 0 < cap := by
                                    have : 0 < es2.length := List.length_pos_iff.2 hes2
                                    omega
                                  obtain ⟨b3, o3, y1, y2, yrow⟩ := hq3 hpos
                                  rw [z1] at y1
                                  obtain ⟨rfl, rfl⟩ := Prod.mk.inj (Option.some.inj y1)
                                  refine ⟨b2, o2, z1, by rw [y2]; simp, ⟨cur2, ty2, by rw [setRow_other w b' b2 _ (hb2 b2 o2 z1)]; exact z2, fun a' j' e'' t' ha' hj' => ?_⟩, row_setRow hb hsize (by simpa using yrow)⟩
                                  rw [List.getElem?_map, Option.map_eq_some_iff] at ha'
                                  obtain ⟨r0, hr0, rfl⟩ := ha'
                                  rw [List.getElem?_take] at hr0
                                  split at hr0
                                  · rw [List.getElem?_map, Option.map_eq_some_iff] at hj'
                                    obtain ⟨c0, hc0, rfl⟩ := hj'
                                    obtain ⟨u2, w1, w2⟩ := z3 a' j' r0 c0 hr0 hc0
                                    have hT := hfl2 rfl r0 (List.mem_of_getElem? hr0) c0 (List.mem_of_getElem? hc0)
                                    cases c0 with
                                    | t x0 =>
                                      cases w2 with
                                      | t w2 => exact ⟨u2, w1, w2.mono le.fF le.same⟩
                                    | row s r => cases hT
                                    | gone _ => cases hT
                                  · cases hr0)
                              rw [hl3] at hrow
                              exact hrow
                            · obtain ⟨u1, q1, q2⟩ := hcs a b'' e0 c' g4 g5
                              have hbl : b'' < sz := by rw [← hsz e0 (List.mem_of_getElem? g4)]; exact (List.getElem?_eq_some_iff.1 g5).1
                              have hokl : o + k < sz := by omega
                              have hne' : o0' + i * sz + (o + k) ≠ o0' + a * sz + b'' := fun h => hnn (by
                                have h2 : i * sz + (o + k) = a * sz + b'' := by omega
                                exact two_idx h0 hokl hbl h2)
                              rw [s_old _ _ (fun h => hnn (by obtain ⟨_, h⟩ := h; obtain ⟨h1, h2⟩ := Prod.mk.inj (Option.some.inj h); exact ⟨h1, h2⟩))]
                              refine ⟨u1, by rw [Array.getElem?_setIfInBounds_ne hne']; exact q1, q2.mono le.fF le.same fun b3 o3 hs3 ⟨nn, ll, hcr⟩ => ?_⟩
                              refine setRow_other w b' b3 _ fun e3 => ?_
                              subst e3
                              have := (wf.inj x (some (a, b'')) x none b3 o3 o0' ⟨_, _, _, e0, _, _, hM, g4, hcr ▸ g5⟩ l1 hs3 hs).2
                              cases this
                        · by_cases x2 : x = id2
                          · subst x2
                            rw [m_id2] at hx
                            obtain rfl := Option.some.inj hx
                            exact .dead
                          · rw [m_ne x x1 x2] at hx
                            refine (wf.obj x o1 hx).mono le hx (fun p => s_old _ _ (fun h => x1 h.1)) fun p b1 a1 hq hk => setRow_other w b' b1 _ fun eb => x1 ?_
                            subst eb
                            exact (wf.inj x p id none b1 a1 o0' hq l1 hk hs).1
                      · have z1 := was _ _ q1
                        have z2 := was _ _ q2
                        rcases z1 with ⟨rfl, rfl⟩ | ⟨y1, y2, y3⟩ <;> rcases z2 with ⟨x1, x2⟩ | ⟨x1, x2, x3⟩
                        · exact ⟨x1.symm, x2.symm⟩
                        · exfalso
                          rw [s_new] at q3
                          rw [s_old _ _ x1] at q4
                          exact x2 (wf.inj _ _ _ _ _ _ _ l2 x3 q3 q4).1.symm
                        · exfalso
                          subst x1; subst x2
                          rw [s_new] at q4
                          rw [s_old _ _ y1] at q3
                          exact y2 (wf.inj _ _ _ _ _ _ _ y3 l2 q3 q4).1
                        · rw [s_old _ _ y1] at q3
                          rw [s_old _ _ x1] at q4
                          exact wf.inj _ _ _ _ _ _ _ y3 x3 q3 q4
                      · have key : ∀ b1, (¬ F b1 ∧ ∃ cur e, w.heap[b1]? = some (.cells cur e (0, 0))) → (¬ F b1 ∧ ∃ cur1 e, (w.setRow b' (cur.setIfInBounds (o0' + i * sz + (o + k)) (.slice av len2 cap))).heap[b1]? = some (.cells cur1 e (0, 0))) := fun b1 ⟨g1, c1, e1, g2⟩ => by
                          refine ⟨g1, ?_⟩
                          by_cases eb : b1 = b'
                          · subst eb; exact ⟨_, ty, setRow_heap w b1 cur _ ty _ hb⟩
                          · exact ⟨c1, e1, by rw [setRow_other w b' b1 _ eb]; exact g2⟩
                        rcases was _ _ q1 with ⟨rfl, rfl⟩ | ⟨y1, y2, y3⟩
                        · rw [s_new] at q2; exact key _ (wf.row _ _ _ _ l2 q2)
                        · rw [s_old _ _ y1] at q2; exact key _ (wf.row _ _ _ _ y3 q2)
                      · subst e1; exact ⟨id, none, o0', l1, hs⟩
                      · rcases was _ _ q1 with ⟨rfl, rfl⟩ | ⟨y1, y2, y3⟩
                        · rw [s_new] at q2; exact ⟨id2, none, a1, l2, q2⟩
                        · rw [s_old _ _ y1] at q2; exact ⟨id1, p1, a1, y3, q2⟩
            · cases h
          · cases h
        · cases h
      · cases h
    · cases h
  · cases h
theorem wrR_sound {P : Program} (wf : Wf w F σ M) {id n i j l e o k : Nat} {v : V} {M' : Mem} {c u : Value} (h : wrR M id n i j l e o k v = some M') (hp : RepV w F σ M (.rptr id n i j l e o) c) (hv : RepV w F σ M v u) :
    ∃ a, c = .pointer (some a) ∧ ∃ w' F', (store (a.add k) u).run P w = .ok () w' ∧ Step w F σ M w' F' σ M' := by
  unfold wrR at h
  split at h
  · obtain ⟨q, hq, h⟩ := Option.bind_eq_some_iff.1 h
    obtain ⟨cc, M1⟩ := q
    dsimp only at h
    obtain ⟨F1, x, st1, rfl, hx⟩ := toC_sound wf hq hv
    split at h
    · rename_i x' fl sz es hx' hM1
      obtain rfl := C.t.inj hx'
      split at h
      · rename_i hn
        split at h
        · rename_i el he
          split at h
          · rename_i s r hr
            split at h
            · rename_i qq hqq
              split at h
              · rename_i hok
                obtain ⟨hok, hrl⟩ := hok
                obtain rfl := Option.some.inj h
                cases hp.mono st1.le with
                | rptr ho hh =>
                  rw [hM1] at ho
                  obtain rfl := Option.some.inj ho
                  obtain ⟨_, _, _, _, xx, vv, g0, g1, g2, f1, f2, f3⟩ := (hh _ rfl).2 hn.symm
                  obtain ⟨rfl, rfl, rfl⟩ := Ob.vec.inj g0
                  rw [he] at g1
                  obtain rfl := Option.some.inj g1
                  rw [hr] at g2
                  obtain rfl := Option.some.inj g2
                  have hvv := Option.some.inj f1
                  obtain ⟨s', r', b, o0, hxr, g3', g3, g4, rfl⟩ := f3 (by omega)
                  obtain ⟨rfl, rfl⟩ := C.row.inj hxr
                  cases st1.wf.obj id _ hM1 with
                  | vec h0 hsz hfl hall =>
                    have hne : es ≠ [] := by rintro rfl; simp at he
                    obtain ⟨b2, o2, cur, ty, hs, hb, hcs⟩ := hall hne
                    obtain ⟨uh, k1, k2⟩ := hcs i j el _ he hr
                    have hjlt : j < el.length := (List.getElem?_eq_some_iff.1 hr).1
                    have hilt : i < es.length := (List.getElem?_eq_some_iff.1 he).1
                    have helt : e < r.length := (List.getElem?_eq_some_iff.1 hqq).1
                    have hlive : Live M1 id (some (i, j)) := ⟨_, _, _, el, _, _, hM1, he, hr⟩
                    have hlive0 : Live M1 id none := ⟨_, hM1, by simp⟩
                    cases k2 with
                    | row hcap h0s hszr hrow =>
                      have hrne : r ≠ [] := by rintro rfl; simp at helt
                      obtain ⟨b3, o3, e1, e2, ⟨curr, tyr, hbr, hcr⟩, hrowr⟩ := hrow hrne
                      rw [g4] at e1
                      obtain ⟨rfl, rfl⟩ := Prod.mk.inj (Option.some.inj e1)
                      have hq1 : qq.length = s := hszr qq (List.mem_of_getElem? hqq)
                      obtain ⟨y, hy⟩ : ∃ y, qq[o + k]? = some y := ⟨_, List.getElem?_eq_getElem hok⟩
                      obtain ⟨u0, z1, z2⟩ := hcr e (o + k) qq y hqq hy
                      have hlt' : o0 + e * s + (o + k) < curr.size := (Array.getElem?_eq_some_iff.1 z1).1
                      have ead : (⟨b, o0 + e * s + o, none⟩ : Addr).add k = ⟨b, o0 + e * s + (o + k), none⟩ := by rw [addr_add]; congr 1; omega
                      have hbne : b ≠ b2 := fun eb => by
                        subst eb
                        have := (st1.wf.inj id (some (i, j)) id none b o0 o2 hlive hlive0 g4 hs).2
                        cases this
                      refine ⟨_, rfl, _, F1, by rw [ead]; exact run_store_at hbr hlt' (oneCell_T hx), st1.trans ?_⟩
                      -- cells of the new rows
                      have keepR : ∀ (a b' : Nat) (e' : List T) (t' : T), (r.set e (qq.set (o + k) x))[a]? = some e' → e'[b']? = some t' → (a = e ∧ b' = o + k ∧ t' = x) ∨ (¬ (a = e ∧ b' = o + k) ∧ ∃ e0, r[a]? = some e0 ∧ e0[b']? = some t') := fun a b' e' t' ha hb' => by
                        rw [List.getElem?_set] at ha
                        by_cases hai : e = a
                        · subst hai
                          rw [if_pos rfl, if_pos helt] at ha
                          obtain rfl := Option.some.inj ha
                          rw [List.getElem?_set] at hb'
                          by_cases hbk : o + k = b'
                          · subst hbk
                            rw [if_pos rfl, if_pos hok] at hb'
                            exact .inl ⟨rfl, rfl, (Option.some.inj hb').symm⟩
                          · rw [if_neg hbk] at hb'
                            exact .inr ⟨fun h => hbk h.2.symm, qq, hqq, hb'⟩
                        · rw [if_neg hai] at ha
                          exact .inr ⟨fun h => hai h.1.symm, e', ha, hb'⟩
                      have keep : ∀ (a b' : Nat) (e' : List C) (c' : C), (es.set i (el.set j (.row s (r.set e (qq.set (o + k) x)))))[a]? = some e' → e'[b']? = some c' →
                          (a = i ∧ b' = j ∧ c' = .row s (r.set e (qq.set (o + k) x))) ∨ (¬ (a = i ∧ b' = j) ∧ ∃ e0, es[a]? = some e0 ∧ e0[b']? = some c') := fun a b' e' c' ha hb' => by
                        rw [List.getElem?_set] at ha
                        by_cases hai : i = a
                        · subst hai
                          rw [if_pos rfl, if_pos hilt] at ha
                          obtain rfl := Option.some.inj ha
                          rw [List.getElem?_set] at hb'
                          by_cases hbk : j = b'
                          · subst hbk
                            rw [if_pos rfl, if_pos hjlt] at hb'
                            exact .inl ⟨rfl, rfl, (Option.some.inj hb').symm⟩
                          · rw [if_neg hbk] at hb'
                            exact .inr ⟨fun h => hbk h.2.symm, el, he, hb'⟩
                        · rw [if_neg hai] at ha
                          exact .inr ⟨fun h => hai h.1.symm, e', ha, hb'⟩
                      refine step_store st1.wf (p := some (i, j)) hM1 hlive g4 hbr (by simp) ⟨fun m' hm => ?_⟩ (fun q hq => ?_) fun le => ?_
                      · obtain rfl := Option.some.inj hm
                        refine ⟨_, rfl, by simp, fun _ => ⟨rfl, fun _ h => h, fun fl' sz' es' he' => ?_⟩⟩
                        obtain ⟨rfl, rfl, rfl⟩ := Ob.vec.inj he'
                        refine ⟨_, _, rfl, fun a b' e1 c0 v0 ha hb' hv0 => ?_⟩
                        by_cases hai : i = a
                        · subst hai
                          rw [he] at ha
                          obtain rfl := Option.some.inj ha
                          by_cases hbj : j = b'
                          · subst hbj
                            rw [hr] at hb'
                            obtain rfl := Option.some.inj hb'
                            exact ⟨_, _, v0, by rw [List.getElem?_set, if_pos rfl, if_pos hilt], by rw [List.getElem?_set, if_pos rfl, if_pos hjlt], by rw [← hv0]; simp [C.ver], Nat.le_refl _, fun _ => ⟨fun s0 r0 h0c => by
                              obtain ⟨rfl, rfl⟩ := C.row.inj h0c
                              exact ⟨_, rfl⟩, fun _ h => h⟩⟩
                          · exact ⟨_, c0, v0, by rw [List.getElem?_set, if_pos rfl, if_pos hilt], by rw [List.getElem?_set, if_neg hbj]; exact hb', hv0, Nat.le_refl _, fun _ => ⟨fun _ r0 h0c => ⟨r0, h0c⟩, fun _ h => h⟩⟩
                        · exact ⟨e1, c0, v0, by rw [List.getElem?_set, if_neg hai]; exact ha, hb', hv0, Nat.le_refl _, fun _ => ⟨fun _ r0 h0c => ⟨r0, h0c⟩, fun _ h => h⟩⟩
                      · cases q with
                        | none => exact hlive0
                        | some q =>
                          obtain ⟨a, b'⟩ := q
                          obtain ⟨fl', sz', es', e', s1, r1, g1', g2', g3'⟩ := hq
                          rw [upd_same] at g1'
                          obtain ⟨rfl, rfl, rfl⟩ := Ob.vec.inj (Option.some.inj g1')
                          rcases keep a b' e' _ g2' g3' with ⟨rfl, rfl, _⟩ | ⟨_, e0, g5, g6⟩
                          · exact hlive
                          · exact ⟨_, _, _, e0, s1, r1, hM1, g5, g6⟩
                      · refine .vec h0 (fun e' he' => ?_) (fun hfl' e' he' c' hc' => ?_) fun _ => ⟨b2, o2, cur, ty, hs, by rw [setRow_other w b b2 _ (Ne.symm hbne)]; exact hb, fun a b' e' c' ha hb' => ?_⟩
                        · rcases List.mem_or_eq_of_mem_set he' with h | rfl
                          · exact hsz e' h
                          · simpa using hsz el (List.mem_of_getElem? he)
                        · exact absurd (hfl hfl' el (List.mem_of_getElem? he) _ (List.mem_of_getElem? hr)) (by simp [C.isT])
                        · rcases keep a b' e' c' ha hb' with ⟨rfl, rfl, rfl⟩ | ⟨hnn, e0, g5, g6⟩
                          · refine ⟨_, k1, ?_⟩
                            have hrow2 := RepC.row (w := w.setRow b (curr.setIfInBounds (o0 + e * s + (o + k)) u)) (F := F1) (s := σ id (some (a, b'))) (sz := s) (es := r.set e (qq.set (o + k) x)) (a := some ⟨b, o0, none⟩) (cap := _) (by rw [List.length_set]; exact hcap) h0s (fun e' he' => by
                              rcases List.mem_or_eq_of_mem_set he' with h | rfl
                              · exact hszr e' h
                              · simpa using hq1) (fun _ => ⟨b, o0, g4, rfl, ⟨_, tyr, setRow_heap w b curr _ tyr _ hbr, fun a' j' e'' t' ha' hj' => by
                                rcases keepR a' j' e'' t' ha' hj' with ⟨rfl, rfl, rfl⟩ | ⟨hnn, e0, g5, g6⟩
                                · exact ⟨u, by simp [hlt'], hx.mono le.fF le.same⟩
                                · obtain ⟨u1, q1, q2⟩ := hcr a' j' e0 t' g5 g6
                                  have hjl : j' < s := by rw [← hszr e0 (List.mem_of_getElem? g5)]; exact (List.getElem?_eq_some_iff.1 g6).1
                                  have hne' : o0 + e * s + (o + k) ≠ o0 + a' * s + j' := fun h => hnn (by
                                    have h2 : e * s + (o + k) = a' * s + j' := by omega
                                    exact two_idx h0s (by omega) hjl h2)
                                  exact ⟨u1, by rw [Array.getElem?_setIfInBounds_ne hne']; exact q1, q2.mono le.fF le.same⟩⟩, row_setRow hbr (by simp) hrowr⟩)
                            rw [List.length_set] at hrow2
                            rw [e2]
                            exact hrow2
                          · obtain ⟨u1, q1, q2⟩ := hcs a b' e0 c' g5 g6
                            refine ⟨u1, q1, q2.mono le.fF le.same fun b3 o3 hs3 ⟨nn, ll, hcr3⟩ => ?_⟩
                            refine setRow_other w b b3 _ fun e3 => ?_
                            subst e3
                            have := (st1.wf.inj id (some (a, b')) id (some (i, j)) b3 o3 o0 ⟨_, _, _, e0, _, _, hM1, g5, hcr3 ▸ g6⟩ hlive hs3 g4).2
                            obtain ⟨x1, x2⟩ := Prod.mk.inj (Option.some.inj this)
                            exact hnn ⟨x1, x2⟩
              · cases h
            · cases h
          · cases h
        · cases h
      · cases h
    · cases h
  · cases h
theorem wr_sound {P : Program} (wf : Wf w F σ M) {nest : Bool} {p v : V} {k : Nat} {M' : Mem} {c u : Value} (h : wr nest M p k v = some M') (hp : RepV w F σ M p c) (hv : RepV w F σ M v u) :
    ∃ a, c = .pointer (some a) ∧ ∃ w' F' σ', (store (a.add k) u).run P w = .ok () w' ∧ Step w F σ M w' F' σ' M' := by
  unfold wr at h
  split at h
  · obtain ⟨a, h1, w', F', h2, h3⟩ := wrR_sound (P := P) wf h hp hv
    exact ⟨a, h1, w', F', σ, h2, h3⟩
  · rw [Bool.cond_eq_ite] at h
    split at h
    · exact wrN_sound wf h hp hv
    · obtain ⟨a, h1, w', F', h2, h3⟩ := wr0_sound (P := P) wf h hp hv
      exact ⟨a, h1, w', F', σ, h2, h3⟩
  · obtain ⟨a, h1, w', F', h2, h3⟩ := wr0_sound (P := P) wf h hp hv
    exact ⟨a, h1, w', F', σ, h2, h3⟩
end
end Go.Ev

namespace Go.Ev
set_option linter.unusedVariables false
set_option linter.unusedSimpArgs false
section
variable {w : World} {F : Nat → Prop} {σ : Sg} {M : Mem}
def RepL (w : World) (F : Nat → Prop) (σ : Sg) (M : Mem) (vs : List V) (cs : Array Value) : Prop :=
  vs.length = cs.size ∧ ∀ (i : Nat) (v : V), vs[i]? = some v → RepV w F σ M v (cs.getD i Go.undef)
theorem RepL.mono {w' : World} {F' : Nat → Prop} {σ' : Sg} {M' : Mem} (le : Le w F σ M w' F' σ' M') {vs : List V} {cs : Array Value} (h : RepL w F σ M vs cs) : RepL w' F' σ' M' vs cs :=
  ⟨h.1, fun i v hi => (h.2 i v hi).mono le⟩
theorem rep_cells {v : V} {c : Value} (h : RepV w F σ M v c) (hu : ∀ x ∈ v.cells, x.isCell = true) : RepL w F σ M v.cells c.cells := by
  have one : ∀ (v : V) (c : Value), v.isCell = true → RepV w F σ M v c → v.cells = [v] → RepL w F σ M v.cells c.cells := fun v c h1 h2 h3 => by
    have : c.cells = #[c] := by
      have := oneCell_V h1 h2
      cases c <;> first | rfl | cases this
    rw [h3, this]
    refine ⟨rfl, fun i x hi => ?_⟩
    cases i with
    | zero => obtain rfl : v = x := by simpa using hi
              exact h2
    | succ i => simp at hi
  cases v with
  | agg vs => cases h with
    | agg hl hv => exact ⟨hl, hv⟩
  | _ => exact one _ _ (hu _ (by simp [V.cells])) h rfl

theorem run_storeCells_step {P : Program} {nest : Bool} {p : V} {a : Addr} : ∀ (vs : List V) (cs : List Value) (i : Nat) {w : World} {F : Nat → Prop} {σ : Sg} {M M' : Mem}, Wf w F σ M → wrs nest M p i vs = some M' →
    RepV w F σ M p (.pointer (some a)) → vs.length = cs.length → (∀ (j : Nat) (v : V), vs[j]? = some v → RepV w F σ M v (cs.getD j Go.undef)) →
    ∃ w' F' σ', (storeCells a cs i).run P w = .ok () w' ∧ Step w F σ M w' F' σ' M'
  | [], cs, i, w, F, σ, M, M', wf, h, hp, hl, hv => by
    obtain rfl := Option.some.inj h
    obtain rfl : cs = [] := by cases cs <;> simp_all
    exact ⟨w, F, σ, rfl, .refl wf⟩
  | v :: vs, cs, i, w, F, σ, M, M', wf, h, hp, hl, hv => by
    cases cs with
    | nil => simp at hl
    | cons c cs =>
      simp only [wrs] at h
      obtain ⟨M1, h1, h2⟩ := Option.bind_eq_some_iff.1 h
      obtain ⟨a', ha, w1, F1, σ1, hr, st⟩ := wr_sound (P := P) wf h1 hp (hv 0 v rfl)
      obtain rfl : a = a' := by simpa using ha
      obtain ⟨w2, F2, σ2, hr2, st2⟩ := run_storeCells_step (P := P) vs cs (i + 1) st.wf h2 (hp.mono st.le) (by simpa using hl) (fun j v hj => by
        have := (hv (j + 1) v (by simpa using hj)).mono st.le
        simpa using this)
      have hr' : (store (a.add i) c).run P w = .ok () w1 := by simpa using hr
      exact ⟨w2, F2, σ2, by simp [storeCells, hr', hr2], st.trans st2⟩
theorem store_sound {P : Program} (wf : Wf w F σ M) {nest : Bool} {t : TypeId} {n : Nat} {p v : V} {M' : Mem} {c u : Value} (hn : szT P t = some n) (hl : v.cells.length = n) (h0 : n ≠ 0)
    (h : wrs nest M p 0 v.cells = some M') (hp : RepV w F σ M p c) (hv : RepV w F σ M v u) (hc : ∀ x ∈ v.cells, x.isCell = true) :
    ∃ w' F' σ', (Instr.storeAt t c u).run P w = .ok () w' ∧ Step w F σ M w' F' σ' M' := by
  unfold szT at hn
  obtain ⟨info, hinfo, rfl⟩ := Option.map_eq_some_iff.1 hn
  have hL := rep_cells hv hc
  have hpt : ∃ a, c = .pointer (some a) := by
    cases hvs : v.cells with
    | nil => rw [hvs] at hl; simp at hl; omega
    | cons x xs =>
      rw [hvs] at h
      simp only [wrs] at h
      obtain ⟨M1, h1, h2⟩ := Option.bind_eq_some_iff.1 h
      obtain ⟨a, ha, _⟩ := wr_sound (P := P) wf h1 hp (hL.2 0 x (by rw [hvs]; rfl))
      exact ⟨a, ha⟩
  obtain ⟨a, rfl⟩ := hpt
  obtain ⟨w', F', σ', hr, st⟩ := run_storeCells_step (P := P) v.cells u.cells.toList 0 wf h hp (by simp [hL.1]) (fun j x hj => by
    have := hL.2 j x hj
    rw [Array.getD_eq_getD_getElem?] at this
    simpa [List.getD] using this)
  refine ⟨w', F', σ', ?_, st⟩
  have hs : ¬ (u.cells.size ≠ info.size) := by rw [← hL.1, hl]; simp
  simp only [Instr.storeAt, Instr.sureAddr, storeVar, sizeOf, typeInfo, Sem.run_bind, run_program, Result.andThen_ok, hinfo, Sem.run_pure, hs, if_false]
  exact hr

theorem newBox_sound (wf : Wf w F σ M) {nb : Nat} {vs : List V} {v : V} {M' : Mem} {cs : Array Value} {ty : TypeId} (h : newBox nb M vs = some (v, M')) (hv : RepL w F σ M vs cs) :
    ∃ σ', Step w F σ M (w.alloc (.cells cs ty)) F σ' M' ∧ RepV (w.alloc (.cells cs ty)) F σ' M' v (.pointer (some ⟨w.heap.size, 0, none⟩)) := by
  unfold newBox at h
  split at h
  · obtain ⟨M1, hM1, he⟩ := Option.map_eq_some_iff.1 h
    obtain ⟨rfl, rfl⟩ := Prod.mk.inj he
    unfold mk at hM1
    split at hM1
    · rename_i hn
      obtain rfl := Option.some.inj hM1
      have hn' : M nb = none := by simpa using hn
      have hnew : (w.alloc (.cells cs ty)).heap[w.heap.size]? = some (.cells cs ty (0, 0)) := heap_alloc_new w _
      refine ⟨sgNew σ nb (some (w.heap.size, 0)), ?_, ?_⟩
      · refine step_new wf hn' rfl rfl rfl (by simp) (fun b hb => Go.RowKit.Below.heap_alloc w _ b hb) (fun b o0 hx => ?_) (fun q hq => ?_) fun le => ?_
        · obtain ⟨rfl, rfl⟩ := Prod.mk.inj (Option.some.inj hx)
          exact ⟨Nat.le_refl _, cs, ty, hnew⟩
        · cases q with
          | none => rfl
          | some q => obtain ⟨i, j⟩ := q; obtain ⟨fl, sz, es, e, s, r, h1, _⟩ := hq; rw [upd_same] at h1; cases h1
        · refine .box (sgNew_at _ _ _) hnew fun i v hi => ?_
          have hlt : i < cs.size := by rw [← hv.1]; exact (List.getElem?_eq_some_iff.1 hi).1
          refine ⟨cs[i], by simp [hlt], ?_⟩
          have := (hv.2 i v hi).mono le
          rwa [Array.getD_eq_getD_getElem?, Array.getElem?_eq_getElem hlt, Option.getD_some] at this
      · refine .ptr (upd_same ..) fun m hm => ?_
        obtain rfl := Option.some.inj hm
        exact ⟨Nat.le_refl _, fun _ => ⟨_, _, sgNew_at _ _ _, by simp⟩⟩
    · cases hM1
  · cases h
theorem zero_sound {P : Program} {t : TypeId} {z : List T} (h : zeroT P t = some z) : ∃ info zv, P.info? t = some info ∧ info.zero = some zv ∧ z.length = zv.cells.size ∧
    ∀ (i : Nat) (x : T), z[i]? = some x → ∃ u, zv.cells[i]? = some u ∧ ∀ (w : World) (F : Nat → Prop), RepT w F x u := by
  unfold zeroT at h
  obtain ⟨info, hinfo, h⟩ := Option.bind_eq_some_iff.1 h
  obtain ⟨zv, hz, h⟩ := Option.bind_eq_some_iff.1 h
  obtain ⟨m1, m2⟩ := mapM_some_get h
  refine ⟨info, zv, hinfo, hz, by simpa using m1, fun i x hi => ?_⟩
  obtain ⟨u, hu, hf⟩ := m2 i x hi
  exact ⟨u, by simpa using hu, fun w F => repT_ofCell hf⟩
theorem alloc_sound {P : Program} (wf : Wf w F σ M) {t : TypeId} {z : List T} {nb : Nat} {v : V} {M' : Mem} (hz : zeroT P t = some z) (h : newBox nb M (z.map V.t) = some (v, M')) :
    ∃ w' σ' c, (Instr.alloc t true (.tuple #[])).run P w = .ok c w' ∧ Step w F σ M w' F σ' M' ∧ RepV w' F σ' M' v c := by
  obtain ⟨info, zv, h1, h2, h3, h4⟩ := zero_sound hz
  obtain ⟨σ', st, hr⟩ := newBox_sound (ty := t) wf h (cs := zv.cells) ⟨by simpa using h3, fun i x hi => by
    rw [List.getElem?_map, Option.map_eq_some_iff] at hi
    obtain ⟨y, hy, rfl⟩ := hi
    obtain ⟨u, k1, k2⟩ := h4 i y hy
    rw [getD_of_get k1]
    exact .t (k2 w F)⟩
  exact ⟨_, σ', _, by simp [Instr.alloc, zeroValue, typeInfo, h1, h2, newVar, newRow], st, hr⟩
theorem box_sound {P : Program} (wf : Wf w F σ M) {t : TypeId} {nb : Nat} {v x : V} {u : Value} {M' : Mem} (h : newBox nb M x.cells = some (v, M')) (hx : RepV w F σ M x u) :
    ∃ w' σ' c, (Instr.box t u).run P w = .ok c w' ∧ Step w F σ M w' F σ' M' ∧ RepV w' F σ' M' v c := by
  have hc : ∀ y ∈ x.cells, y.isCell = true := by
    unfold newBox at h
    split at h
    · rename_i ha; simpa using ha
    · cases h
  obtain ⟨σ', st, hr⟩ := newBox_sound (ty := t) wf h (rep_cells hx hc)
  exact ⟨_, σ', _, by simp [Instr.box, newVar, newRow], st, hr⟩
theorem newVec_sound {w' : World} (wf : Wf w F σ M) {nb sz : Nat} {es : List (List C)} {cap : Nat} {M' : Mem} {cur : Array Value} {ty : TypeId} (h : mk nb M (.vec true sz es) = some M') (h0 : 0 < sz)
    (hsz : ∀ e ∈ es, e.length = sz) (hT : ∀ e ∈ es, ∀ c ∈ e, c.isT = true) (hlen : es.length ≤ cap) (hcur : cap * sz ≤ cur.size)
    (hos : w'.os = w.os) (htape : w'.tape = w.tape) (hout : w'.output = w.output) (hh : w'.heap = w.heap.push (.cells cur ty (0, 0)))
    (hcell : ∀ (i j : Nat) (e : List C) (x : T), es[i]? = some e → e[j]? = some (.t x) → ∃ u, cur[i * sz + j]? = some u ∧ RepT w F x u) :
    ∃ σ', Step w F σ M w' F σ' M' ∧ RepV w' F σ' M' (.vec nb es.length sz 0 es.length) (.slice (some ⟨w.heap.size, 0, none⟩) es.length cap) := by
  unfold mk at h
  split at h
  · rename_i hn
    obtain rfl := Option.some.inj h
    have hn' : M nb = none := by simpa using hn
    have hnew : w'.heap[w.heap.size]? = some (.cells cur ty (0, 0)) := by rw [hh]; simp
    refine ⟨sgNew σ nb (some (w.heap.size, 0)), ?_, ?_⟩
    · refine step_new wf hn' hos htape hout (by rw [hh]; simp) (fun b hb => by rw [hh, Array.getElem?_push, if_neg (by omega)]) (fun b o0 hx => ?_) (fun q hq => ?_) fun le => ?_
      · obtain ⟨rfl, rfl⟩ := Prod.mk.inj (Option.some.inj hx)
        exact ⟨Nat.le_refl _, cur, ty, hnew⟩
      · cases q with
        | none => rfl
        | some q =>
          obtain ⟨i, j⟩ := q
          obtain ⟨fl, sz', es', e, s, r, h1, h2, h3⟩ := hq
          rw [upd_same] at h1
          obtain ⟨_, _, rfl⟩ := Ob.vec.inj (Option.some.inj h1)
          have := hT e (List.mem_of_getElem? h2) _ (List.mem_of_getElem? h3)
          cases this
      · refine .vec h0 hsz (fun _ => hT) fun _ => ⟨w.heap.size, 0, cur, ty, sgNew_at _ _ _, hnew, fun i j e c hi hj => ?_⟩
        have hct := hT e (List.mem_of_getElem? hi) c (List.mem_of_getElem? hj)
        cases c with
        | row s r => cases hct
        | gone _ => cases hct
        | t x =>
          obtain ⟨u, k1, k2⟩ := hcell i j e x hi hj
          exact ⟨u, by rw [Nat.zero_add]; exact k1, .t (k2.mono le.fF le.same)⟩
    · refine .vec (upd_same ..) (by omega) (by omega) (fun _ => rfl) fun m hm => ⟨by have := Option.some.inj hm; omega, fun _ => ⟨true, es, rfl, fun hp => ⟨w.heap.size, 0, sgNew_at _ _ _, by simp, cur, ty, hnew, by simpa using hcur⟩⟩⟩
  · cases h
theorem make_sound {P : Program} (wf : Wf w F σ M) {t e : TypeId} {sz nb : Nat} {info : TypeInfo} {z : List T} {l c v : V} {M' : Mem} {lv cv : Value} (hu : P.underlying t = some (.slice e)) (hs : szT P e = some sz) (hi : P.info? e = some info)
    (hz : zeroT P e = some z) (h : mkMake nb M sz info.bytes z l c = some (v, M')) (hl : RepV w F σ M l lv) (hc : RepV w F σ M c cv) :
    ∃ w' σ' u, (Instr.makeSlice t lv cv).run P w = .ok u w' ∧ Step w F σ M w' F σ' M' ∧ RepV w' F σ' M' v u := by
  obtain ⟨info', zv, h1, h2, h3, h4⟩ := zero_sound hz
  rw [hi] at h1
  obtain rfl := Option.some.inj h1
  unfold szT at hs
  rw [hi] at hs
  obtain rfl : info.size = sz := by simpa using hs
  unfold mkMake at h
  obtain ⟨n, hn, h⟩ := Option.bind_eq_some_iff.1 h
  obtain ⟨m, hm, h⟩ := Option.bind_eq_some_iff.1 h
  split at h
  · rename_i hcond
    obtain ⟨zl, z0, nm, mr, bs⟩ := hcond
    obtain ⟨M1, hM1, he⟩ := Option.map_eq_some_iff.1 h
    obtain ⟨rfl, rfl⟩ := Prod.mk.inj he
    have int : ∀ {v : V} {k : Nat} {u : Value}, natV v = some k → RepV w F σ M v u → ∃ kk, u = .int kk (k : Int) := fun {v k u} h hv => by
      unfold natV at h
      split at h
      · rename_i kk q
        obtain rfl := rep_int hv
        split at h
        · obtain rfl := Option.some.inj h
          exact ⟨kk, by congr 1; omega⟩
        · cases h
      · cases h
    obtain ⟨k1, rfl⟩ := int hn hl
    obtain ⟨k2, rfl⟩ := int hm hc
    have hbytes : ((info.bytes : Nat) : Int) * ((m : Nat) : Int) ≤ 281474976710656 := by
      have : info.bytes * m ≤ 32768 * 4294967296 := Nat.mul_le_mul bs mr
      have : ((info.bytes * m : Nat) : Int) ≤ 281474976710656 := by omega
      rwa [Int.natCast_mul] at this
    have hr := run_make (P := P) w t e info zv hu hi h2 k1 k2 n m (by omega) (by omega) hbytes (by unfold room at mr; omega)
    simp only [Int.toNat_natCast] at hr
    have hrow : ∀ (i j : Nat) (el : List C) (x : T), (List.replicate n (z.map C.t))[i]? = some el → el[j]? = some (.t x) → ∃ u, (madeCells zv.cells (m * info.size))[i * info.size + j]? = some u ∧ RepT w F x u := fun i j el x hi hj => by
      obtain ⟨hilt, hel⟩ := List.getElem?_eq_some_iff.1 hi
      simp at hilt
      have hel' : el = z.map C.t := by rw [← hel]; simp
      subst hel'
      rw [List.getElem?_map, Option.map_eq_some_iff] at hj
      obtain ⟨y, hy, he⟩ := hj
      obtain rfl : y = x := C.t.inj he
      obtain ⟨u, q1, q2⟩ := h4 j y hy
      have hjl : j < z.length := (List.getElem?_eq_some_iff.1 hy).1
      have hb : i * info.size + j < m * info.size := by
        have : (i + 1) * info.size ≤ m * info.size := Nat.mul_le_mul_right _ (by omega)
        rw [Nat.add_mul] at this
        omega
      refine ⟨u, ?_, q2 w F⟩
      have hmod : (i * info.size + j) % zv.cells.size = j := by
        rw [← h3, zl, Nat.mul_comm, Nat.mul_add_mod]
        exact Nat.mod_eq_of_lt (by omega)
      have hjc : j < zv.cells.size := by omega
      simp only [madeCells, Array.getElem?_map, Array.getElem?_range, hb, if_true, Option.map_some, hmod]
      rw [← q1]
      simp [hjc]
    obtain ⟨σ', st, hrep⟩ := newVec_sound (w' := w.alloc (.cells (madeCells zv.cells (m * info.size)) e)) (cap := m) wf hM1 z0 (fun el hel => by simp at hel; rw [hel.2]; simp [zl]) (fun el hel c hcc => by
      simp at hel; rw [hel.2] at hcc; simp at hcc; obtain ⟨x, _, rfl⟩ := hcc; rfl) (by simp; exact nm) (by simp [size_madeCells]) rfl rfl rfl rfl hrow
    simp only [List.length_replicate] at hrep
    exact ⟨_, σ', _, hr, st, hrep⟩
  · cases h
end
end Go.Ev

namespace Go.Ev
set_option linter.unusedVariables false
set_option linter.unusedSimpArgs false
section
variable {w : World} {F : Nat → Prop} {σ : Sg} {M : Mem}
structure RepE (w : World) (F : Nat → Prop) (sz : Nat) (es : List (List C)) (news : List Value) : Prop where
  len : news.length = es.length * sz
  szs : ∀ e ∈ es, e.length = sz
  isT : ∀ e ∈ es, ∀ c ∈ e, c.isT = true
  cell : ∀ (i j : Nat) (e : List C) (x : T), es[i]? = some e → e[j]? = some (.t x) → ∃ u, news[i * sz + j]? = some u ∧ RepT w F x u
  one : ∀ u ∈ news, u.oneCell' = true
theorem repE_of {b o len cap sz : Nat} {es : List (List C)} (h0 : 0 < sz) (hsz : ∀ e ∈ es, e.length = sz) (hT : ∀ e ∈ es, ∀ c ∈ e, c.isT = true)
    (hc : ∀ (i j : Nat) (e : List C) (x : T), es[i]? = some e → e[j]? = some (.t x) → ∃ u, w.cell? ⟨b, o + i * sz + j, none⟩ = some u ∧ RepT w F x u) :
    ∃ news, RepE w F sz es news ∧ ∀ (P : Program) (w' : World), w'.heap = w.heap → (Builtin.firstCells sz es.length (.slice (some ⟨b, o, none⟩) len cap)).run P w' = .ok news.toArray w' := by
  have all : ∀ k, k < es.length * sz → ∃ e x u, es[k / sz]? = some e ∧ e[k % sz]? = some (.t x) ∧ w.cell? ⟨b, o + k, none⟩ = some u ∧ RepT w F x u := fun k hk => by
    have h1 : k / sz < es.length := by rw [Nat.div_lt_iff_lt_mul h0]; exact hk
    have he := List.getElem?_eq_getElem h1
    have hm := hsz _ (List.getElem_mem h1)
    have h2 : k % sz < (es[k / sz]).length := by rw [hm]; exact Nat.mod_lt _ h0
    have hc' := List.getElem?_eq_getElem h2
    have ht := hT _ (List.getElem_mem h1) _ (List.getElem_mem h2)
    cases hcc : (es[k / sz])[k % sz] with
    | row s r => rw [hcc] at ht; cases ht
    | gone _ => rw [hcc] at ht; cases ht
    | t x =>
      rw [hcc] at hc'
      obtain ⟨u, q1, q2⟩ := hc _ _ _ x he hc'
      refine ⟨_, x, u, he, hc', ?_, q2⟩
      rw [← q1]
      have := Nat.div_add_mod k sz
      rw [Nat.mul_comm] at this
      congr 2
      omega
  refine ⟨(List.range (es.length * sz)).map fun k => (w.cell? ⟨b, o + k, none⟩).getD Go.undef, ⟨by simp, hsz, hT, fun i j e x hi hj => ?_, fun u hu => ?_⟩, fun P w' hw => ?_⟩
  · obtain ⟨u, q1, q2⟩ := hc i j e x hi hj
    refine ⟨u, ?_, q2⟩
    have hi' : i < es.length := (List.getElem?_eq_some_iff.1 hi).1
    have hj' : j < sz := by rw [← hsz e (List.mem_of_getElem? hi)]; exact (List.getElem?_eq_some_iff.1 hj).1
    have hlt : i * sz + j < es.length * sz := by
      have : (i + 1) * sz ≤ es.length * sz := Nat.mul_le_mul_right _ (by omega)
      rw [Nat.add_mul] at this
      omega
    rw [List.getElem?_map, List.getElem?_range hlt]
    simp only [Option.map_some]
    rw [show o + (i * sz + j) = o + i * sz + j by omega, q1]; rfl
  · simp at hu
    obtain ⟨k, hk, rfl⟩ := hu
    obtain ⟨e, x, u, _, _, h3, h4⟩ := all k hk
    rw [h3]
    exact oneCell_T h4
  · refine run_firstCells_some w' sz es.length _ len cap _ (by simp) fun j v hj => ?_
    rw [List.getElem?_map, Option.map_eq_some_iff] at hj
    obtain ⟨k, hk, rfl⟩ := hj
    have hk' : k = j := by
      have := (List.getElem?_eq_some_iff.1 hk)
      obtain ⟨h1, h2⟩ := this
      simpa using h2.symm
    subst hk'
    have hlt : k < es.length * sz := by
      have := (List.getElem?_eq_some_iff.1 hk).1
      simpa using this
    obtain ⟨e, x, u, _, _, h3, h4⟩ := all k hlt
    have e1 : w'.cell? ((⟨b, o, none⟩ : Addr).add k) = w.cell? ⟨b, o + k, none⟩ := by rw [addr_add]; simp [World.cell?, hw]
    rw [e1, h3]; rfl
theorem repE_nil (sz : Nat) : RepE w F sz [] [] := ⟨by simp, by simp, by simp, fun i j e x h => by simp at h, by simp⟩
theorem first_zero (P : Program) (sz : Nat) (a : Option Addr) (len cap : Nat) (w : World) : (Builtin.firstCells sz 0 (.slice a len cap)).run P w = .ok #[] w := by
  cases a <;> simp [Builtin.firstCells, loadCells, loadCellsFrom]
theorem src_sound (wf : Wf w F σ M) {sz : Nat} {x : V} {xs : List (List C)} {xv : Value} (h0 : 0 < sz) (h : src M sz x = some xs) (hx : RepV w F σ M x xv) :
    ∃ news, RepE w F sz xs news ∧ (∀ (P : Program) (w' : World), (Builtin.lenOf xv).run P w' = .ok xs.length w') ∧
      ∀ (P : Program) (w' : World), w'.heap = w.heap → (Builtin.firstCells sz xs.length xv).run P w' = .ok news.toArray w' := by
  unfold src at h
  split at h
  · obtain rfl := Option.some.inj h
    obtain rfl := rep_nils hx
    exact ⟨[], repE_nil sz, fun _ _ => by simp [Builtin.lenOf], fun P w' _ => first_zero ..⟩
  · split at h
    · rename_i sz' es hs
      subst hs
      obtain rfl := Option.some.inj h
      cases hx with
      | t hx => cases hx with
        | seq0 sz a cap => exact ⟨[], repE_nil _, fun _ _ => by simp [Builtin.lenOf], fun P w' _ => first_zero ..⟩
        | seq h1 h2 h3 h4 h5 =>
          rename_i b o cap vals
          have key : ∀ (i : Nat) (e : List C), (es.map (·.map C.t))[i]? = some e → ∃ e', es[i]? = some e' ∧ e = e'.map C.t := fun i e hi => by
            rw [List.getElem?_map, Option.map_eq_some_iff] at hi
            obtain ⟨e', he', rfl⟩ := hi
            exact ⟨e', he', rfl⟩
          obtain ⟨news, n1, n2⟩ := repE_of (w := w) (F := F) (b := b) (o := o) (len := es.length) (cap := cap) (es := es.map (·.map C.t)) h0 (fun e he => by
              obtain ⟨e', he', rfl⟩ := List.mem_map.1 he
              obtain ⟨i, hi⟩ := List.getElem?_of_mem he'
              simp [h3 i e' hi]) (fun e he c hc => by
              obtain ⟨e', he', rfl⟩ := List.mem_map.1 he
              obtain ⟨y, _, rfl⟩ := List.mem_map.1 hc
              rfl) (fun i j e x hi hj => by
              obtain ⟨e', he', rfl⟩ := key i e hi
              rw [List.getElem?_map, Option.map_eq_some_iff] at hj
              obtain ⟨y, hy, he⟩ := hj
              obtain rfl := C.t.inj he
              exact ⟨_, h4 i j e' y he' hy, h5 i j e' y he' hy⟩)
          refine ⟨news, n1, fun _ _ => by simp [Builtin.lenOf], n2⟩
    · cases h
  · obtain rfl := Option.some.inj h
    cases hx with
    | t hx => cases hx with
      | sn a cap => exact ⟨[], repE_nil sz, fun _ _ => by simp [Builtin.lenOf], fun P w' _ => first_zero ..⟩
  · split at h
    · rename_i s hs
      subst hs
      obtain rfl := Option.some.inj h
      obtain rfl := rep_str hx
      refine ⟨s.data.toList.map fun b => .int .u8 b.toNat, ⟨by simp, fun e he => ?_, fun e he c hc => ?_, fun i j e x hi hj => ?_, fun u hu => ?_⟩, fun _ _ => ?_, fun P w' _ => ?_⟩
      · obtain ⟨b, _, rfl⟩ := List.mem_map.1 he; rfl
      · obtain ⟨b, _, rfl⟩ := List.mem_map.1 he
        obtain rfl : c = _ := by simpa using hc
        rfl
      · rw [List.getElem?_map, Option.map_eq_some_iff] at hi
        obtain ⟨b, hb, rfl⟩ := hi
        cases j with
        | zero =>
          obtain rfl : _ = x := by simpa using hj
          exact ⟨_, by rw [List.getElem?_map, Nat.mul_one, Nat.add_zero, hb]; rfl, .int ..⟩
        | succ j => simp at hj
      · obtain ⟨b, _, rfl⟩ := List.mem_map.1 hu; rfl
      · simp only [Builtin.lenOf, Sem.run_pure, List.length_map]
        rfl
      · simp only [Builtin.firstCells, Sem.run_pure, List.length_map]
        congr 1
        apply Array.ext'
        have : s.extract 0 s.data.toList.length = s := by
          have : s.data.toList.length = s.size := rfl
          rw [this]
          exact ByteArray.extract_zero_size
        simp [this]
    · cases h
  · rename_i id n sz' off len
    split at h
    · rename_i fl sz'' es hM
      split at h
      · rename_i hc
        obtain ⟨hn, rfl, rfl, hoff, rfl⟩ := hc
        obtain rfl := Option.some.inj h
        cases hx with
        | vec ho hl hcp ha hh =>
          rename_i a cap o
          rw [hM] at ho
          obtain rfl := Option.some.inj ho
          obtain ⟨fl', es', he, h2⟩ := (hh _ rfl).2 hn.symm
          obtain ⟨_, _, rfl⟩ := Ob.vec.inj he
          have hlen : ((es.drop off).take len).length = len := by simp; omega
          by_cases hz : len = 0
          · subst hz
            simp only [List.take_zero, List.length_nil]
            exact ⟨[], repE_nil _, fun _ _ => by simp [Builtin.lenOf], fun P w' _ => first_zero ..⟩
          · obtain ⟨b, o0, q1, rfl, q3⟩ := h2 (by omega)
            cases wf.obj id _ hM with
            | vec hz0 hsz hfl hr =>
              have hne : es ≠ [] := by rintro rfl; simp at hn; omega
              obtain ⟨b', o0', cur, ty, s1, s2, s3⟩ := hr hne
              rw [s1] at q1
              obtain ⟨rfl, rfl⟩ := Prod.mk.inj (Option.some.inj q1)
              have key : ∀ (i : Nat) (e : List C), ((es.drop off).take len)[i]? = some e → es[off + i]? = some e := fun i e hi => by
                rw [List.getElem?_take] at hi
                split at hi
                · rwa [List.getElem?_drop] at hi
                · cases hi
              have mem : ∀ e ∈ (es.drop off).take len, e ∈ es := fun e he => List.mem_of_mem_drop (List.mem_of_mem_take he)
              obtain ⟨news, n1, n2⟩ := repE_of (w := w) (F := F) (b := b') (o := o0' + off * sz'') (len := len) (cap := cap) (es := (es.drop off).take len) h0 (fun e he => hsz e (mem e he)) (fun e he => hfl rfl e (mem e he)) (fun i j e x hi hj => by
                obtain ⟨u, k1, k2⟩ := s3 (off + i) j e _ (key i e hi) hj
                cases k2 with
                | t k2 =>
                  refine ⟨u, ?_, k2⟩
                  rw [cell_of s2, ← k1, Nat.add_mul]
                  congr 1
                  omega)
              exact ⟨news, n1, fun _ _ => by simp [Builtin.lenOf, hlen], n2⟩
      · cases h
    · cases h
  · rename_i id n i j sz' len
    split at h
    · rename_i fl s0 es hM
      split at h
      · rename_i hn
        split at h
        · rename_i sz'' es' hrow
          split at h
          · rename_i hc
            obtain ⟨rfl, rfl, hlen⟩ := hc
            obtain rfl := Option.some.inj h
            obtain ⟨e, he, hcell⟩ := Option.bind_eq_some_iff.1 hrow
            cases hx with
            | row ho ha hh =>
              rename_i a cap o
              rw [hM] at ho
              obtain rfl := Option.some.inj ho
              obtain ⟨fl', s0', es2, e2, xx, vv, he2, h2, h3, g4, g5, g6⟩ := (hh _ rfl).2 hn.symm
              obtain ⟨rfl, rfl, rfl⟩ := Ob.vec.inj he2
              rw [he] at h2
              obtain rfl := Option.some.inj h2
              rw [hcell] at h3
              obtain rfl := Option.some.inj h3
              have hvv := Option.some.inj g4
              obtain ⟨r, hxr, h4, h5, h6⟩ := g6 (by omega)
              have hr0 : es' = r := (C.row.inj hxr).2
              subst hr0
              cases wf.obj id _ hM with
              | vec hz hsz hfl hr' =>
                have hne : es ≠ [] := by rintro rfl; simp at he
                obtain ⟨b', o0', cur, ty, s1, s2, s3⟩ := hr' hne
                obtain ⟨u, k1, k2⟩ := s3 i j e _ he hcell
                cases k2 with
                | row hcap h0' hsz' hrr =>
                  by_cases hnil : es' = []
                  · subst hnil
                    obtain rfl : len = 0 := by simpa using hlen.symm
                    exact ⟨[], repE_nil _, fun _ _ => by simp [Builtin.lenOf], fun P w' _ => first_zero ..⟩
                  · obtain ⟨b, o, t1, rfl, ⟨cur2, ty2, t3, t4⟩, _⟩ := hrr hnil
                    have hpos : 0 < len := by rw [← hlen]; exact List.length_pos_iff.2 hnil
                    obtain ⟨b1, o1, v1, rfl, _⟩ := h6 hpos
                    rw [t1] at v1
                    obtain ⟨rfl, rfl⟩ := Prod.mk.inj (Option.some.inj v1)
                    obtain ⟨news, n1, n2⟩ := repE_of (w := w) (F := F) (b := b) (o := o) (len := len) (cap := cap) (es := es'.map (·.map C.t)) h0 (fun e he => by
                        obtain ⟨e', he', rfl⟩ := List.mem_map.1 he
                        simp [hsz' e' he']) (fun e he c hc => by
                        obtain ⟨e', he', rfl⟩ := List.mem_map.1 he
                        obtain ⟨y, _, rfl⟩ := List.mem_map.1 hc
                        rfl) (fun i j e x hi hj => by
                        rw [List.getElem?_map, Option.map_eq_some_iff] at hi
                        obtain ⟨e', he', rfl⟩ := hi
                        rw [List.getElem?_map, Option.map_eq_some_iff] at hj
                        obtain ⟨y, hy, he⟩ := hj
                        obtain rfl := C.t.inj he
                        obtain ⟨u, w1, w2⟩ := t4 i j e' y he' hy
                        exact ⟨u, by rw [cell_of t3]; exact w1, w2⟩)
                    exact ⟨news, n1, fun _ _ => by simp [Builtin.lenOf, hlen], n2⟩
          · cases h
        · cases h
      · cases h
    · cases h
  · cases h

theorem run_app_room {P : Program} {t u e : TypeId} {info : TypeInfo} {d : TypeDesc} {ty : TypeId} (ht : P.underlying t = some (.slice e)) (hi : P.info? e = some info) (hu : P.underlying u = some d) (hd : ∀ k, d ≠ .int k)
    {w w' : World} {base : Option Addr} {sLen sCap n : Nat} {x : Value} {news : List Value} (hl : (Builtin.lenOf x).run P w = .ok n w) (hf : (Builtin.firstCells info.size n x).run P w = .ok news.toArray w)
    (hroom : sLen + n ≤ sCap) (hst : match base with | some a => (storeCells (a.add (sLen * info.size)) news).run P w = .ok () w' | none => w' = w) :
    (Builtin.append_ #[t, u] ty #[.slice base sLen sCap, x]).run P w = .ok (.slice base (sLen + n) sCap) w' := by
  have hz : (match d with | .int _ => true | _ => false) = false := by
    cases d <;> first | rfl | exact absurd rfl (hd _)
  cases base with
  | none =>
    simp only at hst
    subst hst
    simp only [Builtin.append_, Sem.run_bind, Sem.run_pure, run_underlying ht, sizeOf, typeInfo, Result.andThen_ok, run_program, hi, run_underlying hu, hz, hl, hf, hroom, if_true, List.getElem?_toArray, List.getElem?_cons_zero, List.getElem?_cons_succ, Bool.false_eq_true, if_false, Bool.not_false]
  | some a =>
    simp only at hst
    simp only [Builtin.append_, Sem.run_bind, Sem.run_pure, run_underlying ht, sizeOf, typeInfo, Result.andThen_ok, run_program, hi, run_underlying hu, hz, hl, hf, hroom, if_true, List.getElem?_toArray, List.getElem?_cons_zero, List.getElem?_cons_succ, Bool.false_eq_true, if_false, Bool.not_false, hst]
theorem run_app_grow {P : Program} {t u e : TypeId} {info : TypeInfo} {d : TypeDesc} {ty : TypeId} {zv : Value} (ht : P.underlying t = some (.slice e)) (hi : P.info? e = some info) (hz0 : info.zero = some zv) (hu : P.underlying u = some d) (hd : ∀ k, d ≠ .int k)
    {w : World} {base : Option Addr} {sLen sCap n : Nat} {x : Value} {olds news : List Value} (hl : (Builtin.lenOf x).run P w = .ok n w)
    (hf : (Builtin.firstCells info.size n x).run P w.drew = .ok news.toArray w.drew) (ho : (Builtin.firstCells info.size sLen (.slice base sLen sCap)).run P w.drew = .ok olds.toArray w.drew)
    (hroom : ¬ (sLen + n ≤ sCap)) (hb : sLen + n ≤ room) (hbytes : info.bytes ≤ small) :
    (Builtin.append_ #[t, u] ty #[.slice base sLen sCap, x]).run P w = .ok (.slice (some ⟨w.heap.size, 0, none⟩) (sLen + n) (grownCap w (sLen + n) sCap e))
      (w.drew.alloc (.cells (olds.toArray ++ (news.toArray ++ Builtin.zeroCells zv.cells (grownCap w (sLen + n) sCap e - (sLen + n)))) e)) := by
  have hz : (match d with | .int _ => true | _ => false) = false := by
    cases d <;> first | rfl | exact absurd rfl (hd _)
  unfold room at hb
  unfold small at hbytes
  have h63' : ¬ (9223372036854775807 < ((sLen : Int) + (n : Int))) := by omega
  have h48' : ¬ (281474976710656 < Builtin.nextslicecap (sLen + n) sCap * info.bytes) := by
    have h1 : Builtin.nextslicecap (sLen + n) sCap * info.bytes ≤ 281474976710656 := growslice_fits (by omega) (by
      have : (sLen + n) * info.bytes ≤ 4294967296 * 32768 := Nat.mul_le_mul hb hbytes
      omega)
    omega
  simp only [Builtin.append_, Sem.run_bind, Sem.run_pure, run_underlying ht, sizeOf, typeInfo, Result.andThen_ok, run_program, hi, run_underlying hu, hz, hl, hroom, if_true, List.getElem?_toArray, List.getElem?_cons_zero, List.getElem?_cons_succ, Bool.false_eq_true, if_false, Bool.not_false]
  simp [Question.forced, askRoom, hf, ho, zeroValue, typeInfo, hi, hz0, newRow, grownCap, h63', h48']

def sgMove (σ : Sg) (id : Nat) (x : Option (Nat × Nat)) : Sg := fun id' p => if id' = id ∧ p = none then x else σ id' p
theorem sgMove_at (σ : Sg) (id : Nat) (x : Option (Nat × Nat)) : sgMove σ id x id none = x := by simp [sgMove]
theorem sgMove_ne {σ : Sg} {id id' : Nat} {x : Option (Nat × Nat)} (h : id' ≠ id) (p : Option (Nat × Nat)) : sgMove σ id x id' p = σ id' p := by simp [sgMove, h]
theorem step_regrow {w' : World} (wf : Wf w F σ M) {id sz : Nat} {es es' : List (List C)} {cur : Array Value} {ty : TypeId} (hid : M id = some (.vec true sz es)) (hlt : es.length < es'.length) (h0 : 0 < sz)
    (hsz : ∀ e ∈ es', e.length = sz) (hT : ∀ e ∈ es', ∀ c ∈ e, c.isT = true)
    (hos : w'.os = w.os) (htape : w'.tape = w.tape) (hout : w'.output = w.output) (hh : w'.heap = w.heap.push (.cells cur ty (0, 0)))
    (hcell : ∀ (i j : Nat) (e : List C) (x : T), es'[i]? = some e → e[j]? = some (.t x) → ∃ u, cur[i * sz + j]? = some u ∧ RepT w F x u) :
    Step w F σ M w' F (sgMove σ id (some (w.heap.size, 0))) (upd M id (some (.vec true sz es'))) := by
  have hnew : w'.heap[w.heap.size]? = some (.cells cur ty (0, 0)) := by rw [hh]; simp
  have hblock : ∀ b, b < w.heap.size → w'.heap[b]? = w.heap[b]? := fun b hb => by rw [hh, Array.getElem?_push, if_neg (by omega)]
  have old : ∀ id p b a, Live M id p → σ id p = some (b, a) → b < w.heap.size := fun id p b a h k => by
    obtain ⟨_, c, e, h3⟩ := wf.row id p b a h k
    exact (Array.getElem?_eq_some_iff.1 h3).1
  have only : ∀ q, Live (upd M id (some (.vec true sz es'))) id q → q = none := fun q hq => by
    cases q with
    | none => rfl
    | some q =>
      obtain ⟨i, j⟩ := q
      obtain ⟨fl, sz', es2, e, s, r, h1, h2, h3⟩ := hq
      rw [upd_same] at h1
      obtain ⟨_, _, rfl⟩ := Ob.vec.inj (Option.some.inj h1)
      have := hT e (List.mem_of_getElem? h2) _ (List.mem_of_getElem? h3)
      cases this
  have le : Le w F σ M w' F (sgMove σ id (some (w.heap.size, 0))) (upd M id (some (.vec true sz es'))) := by
    refine ⟨fun _ h => h, fun b h => hblock b (wf.lt b h), fun id' o1 h => ?_, fun b k ⟨c, e, h1, h2⟩ => ⟨c, e, by rw [hblock b (Array.getElem?_eq_some_iff.1 h1).1]; exact h1, h2⟩⟩
    by_cases e : id' = id
    · subst e
      rw [hid] at h
      obtain rfl := Option.some.inj h
      exact ⟨_, upd_same .., ⟨fun m' h' => ⟨_, rfl, by have := Option.some.inj h'; omega, fun he => by have := Option.some.inj h'; omega⟩⟩⟩
    · exact ⟨o1, by rw [upd_ne M _ e]; exact h, ⟨fun m' h' => ⟨m', h', Nat.le_refl _, fun _ => ⟨rfl, fun y hy => by rw [sgMove_ne e]; exact hy, fun fl sz es he => ⟨fl, es, he, fun i j e1 c0 v0 h1 h2 h0v => ⟨e1, c0, v0, h1, h2, h0v, Nat.le_refl _, fun _ => ⟨fun _ r0 h0c => ⟨r0, h0c⟩, fun y hy => by rw [sgMove_ne e]; exact hy⟩⟩⟩⟩⟩⟩⟩
  refine ⟨le, ⟨fun id' o1 h => ?_, fun id1 p1 id2 p2 b1 a1 a2 h1 h2 k1 k2 => ?_, fun id1 p1 b1 a1 h1 k1 => ?_, fun b1 h1 => by rw [hh]; have := wf.lt b1 h1; simp; omega⟩, ?_⟩
  · by_cases e : id' = id
    · subst e
      rw [upd_same] at h
      obtain rfl := Option.some.inj h
      refine .vec h0 hsz (fun _ => hT) fun _ => ⟨w.heap.size, 0, cur, ty, sgMove_at _ _ _, hnew, fun i j e c hi hj => ?_⟩
      have hct := hT e (List.mem_of_getElem? hi) c (List.mem_of_getElem? hj)
      cases c with
      | row s r => cases hct
      | gone _ => cases hct
      | t x =>
        obtain ⟨u, k1, k2⟩ := hcell i j e x hi hj
        exact ⟨u, by rw [Nat.zero_add]; exact k1, .t (k2.mono le.fF le.same)⟩
    · rw [upd_ne M _ e] at h
      exact (wf.obj id' o1 h).mono le h (fun p => sgMove_ne e p) fun q b1 a1 hq hk => hblock b1 (old _ _ _ _ hq hk)
  · by_cases e1 : id1 = id <;> by_cases e2 : id2 = id
    · subst e1; subst e2
      exact ⟨rfl, (only _ h1).trans (only _ h2).symm⟩
    · subst e1
      obtain rfl := only _ h1
      rw [sgMove_at] at k1
      rw [sgMove_ne e2] at k2
      have := old _ _ _ _ ((live_upd_ne e2).1 h2) k2
      obtain ⟨rfl, _⟩ := Prod.mk.inj (Option.some.inj k1)
      omega
    · subst e2
      obtain rfl := only _ h2
      rw [sgMove_at] at k2
      rw [sgMove_ne e1] at k1
      have := old _ _ _ _ ((live_upd_ne e1).1 h1) k1
      obtain ⟨rfl, _⟩ := Prod.mk.inj (Option.some.inj k2)
      omega
    · rw [sgMove_ne e1] at k1
      rw [sgMove_ne e2] at k2
      exact wf.inj _ _ _ _ _ _ _ ((live_upd_ne e1).1 h1) ((live_upd_ne e2).1 h2) k1 k2
  · by_cases e1 : id1 = id
    · subst e1
      obtain rfl := only _ h1
      rw [sgMove_at] at k1
      obtain ⟨rfl, _⟩ := Prod.mk.inj (Option.some.inj k1)
      exact ⟨fun hF => by have := wf.lt _ hF; omega, cur, ty, hnew⟩
    · rw [sgMove_ne e1] at k1
      obtain ⟨h2, c, e, h3⟩ := wf.row _ _ _ _ ((live_upd_ne e1).1 h1) k1
      exact ⟨h2, c, e, by rw [hblock b1 (Array.getElem?_eq_some_iff.1 h3).1]; exact h3⟩
  · refine ⟨hos, htape, hout, by rw [hh]; simp, fun b hb _ => hblock b hb, fun b h => .inl h, fun b ⟨id1, p1, a1, h1, h2⟩ => ?_⟩
    by_cases e1 : id1 = id
    · subst e1
      obtain rfl := only _ h1
      rw [sgMove_at] at h2
      obtain ⟨rfl, _⟩ := Prod.mk.inj (Option.some.inj h2)
      exact .inr (Nat.le_refl _)
    · rw [sgMove_ne e1] at h2
      exact .inl ⟨id1, p1, a1, (live_upd_ne e1).1 h1, h2⟩
theorem step_part (wf : Wf w F σ M) {id nb sz off : Nat} {es : List (List C)} (hid : M id = some (.vec true sz es)) (hn : M nb = none) :
    ∃ σ', Step w F σ M w F σ' (upd (upd M nb (some (.vec true sz (es.drop off)))) id (some .dead)) ∧ (∀ b o, σ id none = some (b, o) → σ' nb none = some (b, o + off * sz)) := by
  have hne : id ≠ nb := by rintro rfl; rw [hn] at hid; cases hid
  cases wf.obj id _ hid with
  | vec h0 hsz hfl hr =>
    have hT := hfl rfl
    have only : ∀ id' q, Live (upd (upd M nb (some (.vec true sz (es.drop off)))) id (some .dead)) id' q → (id' = nb ∧ q = none) ∨ (id' ≠ nb ∧ id' ≠ id ∧ Live M id' q) := fun id' q hq => by
      by_cases e1 : id' = id
      · subst e1
        cases q with
        | none => obtain ⟨o, h1, h2⟩ := hq; rw [upd_same] at h1; exact absurd (Option.some.inj h1).symm h2
        | some q => obtain ⟨i, j⟩ := q; obtain ⟨fl, sz', es2, e, s, r, h1, _⟩ := hq; rw [upd_same] at h1; cases h1
      · have hq := (live_upd_ne e1).1 hq
        by_cases e2 : id' = nb
        · subst e2
          cases q with
          | none => exact .inl ⟨rfl, rfl⟩
          | some q =>
            obtain ⟨i, j⟩ := q
            obtain ⟨fl, sz', es2, e, s, r, h1, h2, h3⟩ := hq
            rw [upd_same] at h1
            obtain ⟨_, _, rfl⟩ := Ob.vec.inj (Option.some.inj h1)
            have := hT e (List.mem_of_mem_drop (List.mem_of_getElem? h2)) _ (List.mem_of_getElem? h3)
            cases this
        · exact .inr ⟨e2, e1, (live_upd_ne e2).1 hq⟩
    have hlive : Live M id none := ⟨_, hid, by simp⟩
    refine ⟨sgNew σ nb ((σ id none).map fun x => (x.1, x.2 + off * sz)), ?_, fun b o hb => by rw [sgNew_at, hb]; rfl⟩
    have le : Le w F σ M w F (sgNew σ nb ((σ id none).map fun x => (x.1, x.2 + off * sz))) (upd (upd M nb (some (.vec true sz (es.drop off)))) id (some .dead)) := by
      refine ⟨fun _ h => h, fun _ _ => rfl, fun id' o1 h => ?_, fun _ _ h => h⟩
      by_cases e1 : id' = id
      · subst e1; exact ⟨.dead, upd_same .., ⟨fun m' h' => by cases h'⟩⟩
      · have e2 : id' ≠ nb := by rintro rfl; rw [hn] at h; cases h
        exact ⟨o1, by rw [upd_ne _ _ e1, upd_ne M _ e2]; exact h, ⟨fun m' h' => ⟨m', h', Nat.le_refl _, fun _ => ⟨rfl, fun y hy => by rw [sgNew_ne e2]; exact hy, fun fl sz es he => ⟨fl, es, he, fun i j e1 c0 v0 h1 h2 h0v => ⟨e1, c0, v0, h1, h2, h0v, Nat.le_refl _, fun _ => ⟨fun _ r0 h0c => ⟨r0, h0c⟩, fun y hy => by rw [sgNew_ne e2]; exact hy⟩⟩⟩⟩⟩⟩⟩
    have owner : ∀ id' q b o, ((id' = nb ∧ q = none) ∨ (id' ≠ nb ∧ id' ≠ id ∧ Live M id' q)) → sgNew σ nb ((σ id none).map fun x => (x.1, x.2 + off * sz)) id' q = some (b, o) →
        ∃ id0 o', Live M id0 q ∧ σ id0 q = some (b, o') ∧ id0 = (if id' = nb then id else id') := fun id' q b o hc hs => by
      rcases hc with ⟨rfl, rfl⟩ | ⟨e1, e2, hl⟩
      · rw [sgNew_at] at hs
        obtain ⟨⟨b', o'⟩, hb, he⟩ := Option.map_eq_some_iff.1 hs
        obtain ⟨rfl, _⟩ := Prod.mk.inj he
        exact ⟨id, o', hlive, hb, by simp⟩
      · rw [sgNew_ne e1] at hs
        exact ⟨id', o, hl, hs, by simp [e1]⟩
    refine ⟨le, ⟨fun id' o1 h => ?_, fun id1 p1 id2 p2 b1 a1 a2 h1 h2 k1 k2 => ?_, fun id1 p1 b1 a1 h1 k1 => ?_, wf.lt⟩, ?_⟩
    · by_cases e1 : id' = id
      · subst e1
        rw [upd_same] at h
        obtain rfl := Option.some.inj h
        exact .dead
      · rw [upd_ne _ _ e1] at h
        by_cases e2 : id' = nb
        · subst e2
          rw [upd_same] at h
          obtain rfl := Option.some.inj h
          refine .vec h0 (fun e he => hsz e (List.mem_of_mem_drop he)) (fun _ e he => hT e (List.mem_of_mem_drop he)) fun hne' => ?_
          have : es ≠ [] := by rintro rfl; simp at hne'
          obtain ⟨b, o, cur, ty, q1, q2, q3⟩ := hr this
          refine ⟨b, o + off * sz, cur, ty, by rw [sgNew_at, q1]; rfl, q2, fun i j e c hi hj => ?_⟩
          rw [List.getElem?_drop] at hi
          obtain ⟨u, k1, k2⟩ := q3 _ j e c hi hj
          refine ⟨u, by rw [← k1, Nat.add_mul]; congr 1; omega, ?_⟩
          have hct := hT e (List.mem_of_getElem? hi) c (List.mem_of_getElem? hj)
          cases c with
          | row s r => cases hct
          | gone _ => cases hct
          | t x => cases k2 with | t k2 => exact .t k2
        · rw [upd_ne M _ e2] at h
          exact (wf.obj id' o1 h).mono le h (fun p => sgNew_ne e2 p) fun _ _ _ _ _ => rfl
    · have c1 := only _ _ h1
      have c2 := only _ _ h2
      obtain ⟨i1, o1, l1, s1, r1⟩ := owner _ _ _ _ c1 k1
      obtain ⟨i2, o2, l2, s2, r2⟩ := owner _ _ _ _ c2 k2
      obtain ⟨e, ep⟩ := wf.inj _ _ _ _ _ _ _ l1 l2 s1 s2
      refine ⟨?_, ep⟩
      rw [r1, r2] at e
      rcases c1 with ⟨rfl, _⟩ | ⟨n1, m1, _⟩ <;> rcases c2 with ⟨rfl, _⟩ | ⟨n2, m2, _⟩
      · rfl
      · simp [n2] at e; exact absurd e.symm m2
      · simp [n1] at e; exact absurd e m1
      · simpa [n1, n2] using e
    · obtain ⟨i1, o1, l1, s1, r1⟩ := owner _ _ _ _ (only _ _ h1) k1
      exact wf.row _ _ _ _ l1 s1
    · refine ⟨rfl, rfl, rfl, Nat.le_refl _, fun _ _ _ => rfl, fun b h => .inl h, fun b ⟨id1, p1, a1, h1, h2⟩ => ?_⟩
      obtain ⟨i1, o1, l1, s1, r1⟩ := owner _ _ _ _ (only _ _ h1) h2
      exact .inl ⟨i1, p1, o1, l1, s1⟩
theorem step_take (wf : Wf w F σ M) {id nb i j sz s0 : Nat} {fl : Bool} {es : List (List C)} {e : List C} {r : List (List T)} (hid : M id = some (.vec fl s0 es)) (hn : M nb = none) (he : es[i]? = some e) (hj : e[j]? = some (.row sz r)) :
    Step w F σ M w F (sgNew σ nb (σ id (some (i, j)))) (upd (upd M id (some (.vec false s0 (es.set i (e.set j (.gone r.length)))))) nb (some (.vec true sz (r.map (·.map C.t))))) := by
  have hne : id ≠ nb := by rintro rfl; rw [hn] at hid; cases hid
  have hlive : Live M id (some (i, j)) := ⟨_, _, _, e, _, _, hid, he, hj⟩
  have hilt : i < es.length := (List.getElem?_eq_some_iff.1 he).1
  have hjlt : j < e.length := (List.getElem?_eq_some_iff.1 hj).1
  have keep : ∀ (a b : Nat) (e' : List C) (c' : C), (es.set i (e.set j (.gone r.length)))[a]? = some e' → e'[b]? = some c' →
      (a = i ∧ b = j ∧ c' = .gone r.length) ∨ (¬ (a = i ∧ b = j) ∧ ∃ e0, es[a]? = some e0 ∧ e0[b]? = some c') := fun a b e' c' ha hb' => by
    rw [List.getElem?_set] at ha
    by_cases hai : i = a
    · subst hai
      rw [if_pos rfl, if_pos hilt] at ha
      obtain rfl := Option.some.inj ha
      rw [List.getElem?_set] at hb'
      by_cases hbk : j = b
      · subst hbk
        rw [if_pos rfl, if_pos hjlt] at hb'
        exact .inl ⟨rfl, rfl, (Option.some.inj hb').symm⟩
      · rw [if_neg hbk] at hb'
        exact .inr ⟨fun h => hbk h.2.symm, e, he, hb'⟩
    · rw [if_neg hai] at ha
      exact .inr ⟨fun h => hai h.1.symm, e', ha, hb'⟩
  have m_nb : (upd (upd M id (some (.vec false s0 (es.set i (e.set j (.gone r.length)))))) nb (some (.vec true sz (r.map (·.map C.t))))) nb = some (.vec true sz (r.map (·.map C.t))) := upd_same ..
  have m_id : (upd (upd M id (some (.vec false s0 (es.set i (e.set j (.gone r.length)))))) nb (some (.vec true sz (r.map (·.map C.t))))) id = some (.vec false s0 (es.set i (e.set j (.gone r.length)))) := by rw [upd_ne _ _ hne]; exact upd_same ..
  have m_ne : ∀ x, x ≠ id → x ≠ nb → (upd (upd M id (some (.vec false s0 (es.set i (e.set j (.gone r.length)))))) nb (some (.vec true sz (r.map (·.map C.t))))) x = M x := fun x x1 x2 => by rw [upd_ne _ _ x2, upd_ne _ _ x1]
  generalize upd (upd M id (some (.vec false s0 (es.set i (e.set j (.gone r.length)))))) nb (some (.vec true sz (r.map (·.map C.t)))) = M' at *
  have only : ∀ id' q, Live M' id' q → (id' = nb ∧ q = none) ∨ (id' ≠ nb ∧ Live M id' q ∧ ¬ (id' = id ∧ q = some (i, j))) := fun id' q hq => by
    by_cases e1 : id' = nb
    · subst e1
      cases q with
      | none => exact .inl ⟨rfl, rfl⟩
      | some q =>
        obtain ⟨a, b⟩ := q
        obtain ⟨fl', sz', es2, e2, s, r2, h1, h2, h3⟩ := hq
        rw [m_nb] at h1
        obtain ⟨_, _, rfl⟩ := Ob.vec.inj (Option.some.inj h1)
        rw [List.getElem?_map, Option.map_eq_some_iff] at h2
        obtain ⟨e3, _, rfl⟩ := h2
        rw [List.getElem?_map, Option.map_eq_some_iff] at h3
        obtain ⟨_, _, h3⟩ := h3
        cases h3
    · refine .inr ⟨e1, ?_⟩
      by_cases e2 : id' = id
      · subst e2
        cases q with
        | none => exact ⟨⟨_, hid, by simp⟩, by simp⟩
        | some q =>
          obtain ⟨a, b⟩ := q
          obtain ⟨fl', sz', es2, e2, s, r2, h1, h2, h3⟩ := hq
          rw [m_id] at h1
          obtain ⟨rfl, rfl, rfl⟩ := Ob.vec.inj (Option.some.inj h1)
          rcases keep a b e2 _ h2 h3 with ⟨_, _, h⟩ | ⟨hnn, e0, g4, g5⟩
          · cases h
          · exact ⟨⟨_, _, _, e0, _, _, hid, g4, g5⟩, fun h => hnn (by obtain ⟨_, h⟩ := h; obtain ⟨h1, h2⟩ := Prod.mk.inj (Option.some.inj h); exact ⟨h1, h2⟩)⟩
      · refine ⟨?_, fun h => e2 h.1⟩
        cases q with
        | none => obtain ⟨o, h1, h2⟩ := hq; rw [m_ne _ e2 e1] at h1; exact ⟨o, h1, h2⟩
        | some q => obtain ⟨a, b⟩ := q; obtain ⟨fl', sz', es2, e3, s, r2, h1, h2⟩ := hq; rw [m_ne _ e2 e1] at h1; exact ⟨fl', sz', es2, e3, s, r2, h1, h2⟩
  have le : Le w F σ M w F (sgNew σ nb (σ id (some (i, j)))) M' := by
    refine ⟨fun _ h => h, fun _ _ => rfl, fun id' o1 h => ?_, fun _ _ h => h⟩
    have e2 : id' ≠ nb := by rintro rfl; rw [hn] at h; cases h
    by_cases e1 : id' = id
    · subst e1
      rw [hid] at h
      obtain rfl := Option.some.inj h
      refine ⟨_, m_id, ⟨fun m' hm => ?_⟩⟩
      obtain rfl := Option.some.inj hm
      refine ⟨_, rfl, by simp, fun _ => ⟨rfl, fun z hz => by rw [sgNew_ne e2]; exact hz, fun fl' sz' es' he' => ?_⟩⟩
      obtain ⟨rfl, rfl, rfl⟩ := Ob.vec.inj he'
      refine ⟨_, _, rfl, fun a b e1 c0 v0 ha hb' hv0 => ?_⟩
      by_cases hai : i = a
      · subst hai
        rw [he] at ha
        obtain rfl := Option.some.inj ha
        by_cases hbk : j = b
        · subst hbk
          rw [hj] at hb'
          obtain rfl := Option.some.inj hb'
          obtain rfl := Option.some.inj hv0
          exact ⟨_, _, 2 * r.length + 1, by rw [List.getElem?_set, if_pos rfl, if_pos hilt], by rw [List.getElem?_set, if_pos rfl, if_pos hjlt], rfl, by omega, fun h => by omega⟩
        · exact ⟨_, c0, v0, by rw [List.getElem?_set, if_pos rfl, if_pos hilt], by rw [List.getElem?_set, if_neg hbk]; exact hb', hv0, Nat.le_refl _, fun _ => ⟨fun _ r0 h => ⟨r0, h⟩, fun z hz => by rw [sgNew_ne e2]; exact hz⟩⟩
      · exact ⟨e1, c0, v0, by rw [List.getElem?_set, if_neg hai]; exact ha, hb', hv0, Nat.le_refl _, fun _ => ⟨fun _ r0 h => ⟨r0, h⟩, fun z hz => by rw [sgNew_ne e2]; exact hz⟩⟩
    · exact ⟨o1, by rw [m_ne _ e1 e2]; exact h, ⟨fun m' h' => ⟨m', h', Nat.le_refl _, fun _ => ⟨rfl, fun y hy => by rw [sgNew_ne e2]; exact hy, fun fl sz es he => ⟨fl, es, he, fun i j e1 c0 v0 h1 h2 h0v => ⟨e1, c0, v0, h1, h2, h0v, Nat.le_refl _, fun _ => ⟨fun _ r0 h0c => ⟨r0, h0c⟩, fun y hy => by rw [sgNew_ne e2]; exact hy⟩⟩⟩⟩⟩⟩⟩
  have owner : ∀ id' q b o, ((id' = nb ∧ q = none) ∨ (id' ≠ nb ∧ Live M id' q ∧ ¬ (id' = id ∧ q = some (i, j)))) → sgNew σ nb (σ id (some (i, j))) id' q = some (b, o) →
      ∃ id0 q0, Live M id0 q0 ∧ σ id0 q0 = some (b, o) ∧ ((id' = nb ∧ q = none ∧ id0 = id ∧ q0 = some (i, j)) ∨ (id' ≠ nb ∧ id0 = id' ∧ q0 = q ∧ ¬ (id0 = id ∧ q0 = some (i, j)))) := fun id' q b o hc hs => by
    rcases hc with ⟨rfl, rfl⟩ | ⟨e1, hl, e2⟩
    · rw [sgNew_at] at hs
      exact ⟨id, _, hlive, hs, .inl ⟨rfl, rfl, rfl, rfl⟩⟩
    · rw [sgNew_ne e1] at hs
      exact ⟨id', q, hl, hs, .inr ⟨e1, rfl, rfl, e2⟩⟩
  refine ⟨le, ⟨fun id' o1 h => ?_, fun id1 p1 id2 p2 b1 a1 a2 h1 h2 k1 k2 => ?_, fun id1 p1 b1 a1 h1 k1 => ?_, wf.lt⟩, ?_⟩
  · by_cases e2 : id' = nb
    · subst e2
      rw [m_nb] at h
      obtain rfl := Option.some.inj h
      cases wf.obj id _ hid with
      | vec h0 hsz hfl hr =>
        obtain ⟨b, o, cur, ty, q1, q2, q3⟩ := hr (by rintro rfl; simp at he)
        obtain ⟨u, k1, k2⟩ := q3 i j e _ he hj
        cases k2 with
        | row hcap h0s hszr hrow =>
          refine .vec h0s (fun e' he' => ?_) (fun _ e' he' c hc => ?_) fun hne' => ?_
          · obtain ⟨e3, h3, rfl⟩ := List.mem_map.1 he'
            simp [hszr e3 h3]
          · obtain ⟨e3, h3, rfl⟩ := List.mem_map.1 he'
            obtain ⟨y, _, rfl⟩ := List.mem_map.1 hc
            rfl
          · obtain ⟨b3, o3, z1, z2, ⟨curr, tyr, z3, z4⟩, z5⟩ := hrow (by rintro rfl; simp at hne')
            refine ⟨b3, o3, curr, tyr, by rw [sgNew_at]; exact z1, z3, fun a b' e' c ha hb' => ?_⟩
            rw [List.getElem?_map, Option.map_eq_some_iff] at ha
            obtain ⟨e3, g3, rfl⟩ := ha
            rw [List.getElem?_map, Option.map_eq_some_iff] at hb'
            obtain ⟨y, g4, rfl⟩ := hb'
            obtain ⟨u2, w1, w2⟩ := z4 a b' e3 y g3 g4
            exact ⟨u2, w1, .t w2⟩
    · by_cases e1 : id' = id
      · subst e1
        rw [m_id] at h
        obtain rfl := Option.some.inj h
        cases wf.obj id' _ hid with
        | vec h0 hsz hfl hr =>
          obtain ⟨b, o, cur, ty, q1, q2, q3⟩ := hr (by rintro rfl; simp at he)
          refine .vec h0 (fun e' he' => ?_) (fun hf => by cases hf) fun _ => ⟨b, o, cur, ty, by rw [sgNew_ne e2]; exact q1, q2, fun a b' e' c ha hb' => ?_⟩
          · rcases List.mem_or_eq_of_mem_set he' with h | rfl
            · exact hsz e' h
            · simpa using hsz e (List.mem_of_getElem? he)
          · rcases keep a b' e' c ha hb' with ⟨rfl, rfl, rfl⟩ | ⟨hnn, e0, g4, g5⟩
            · obtain ⟨u, k1, k2⟩ := q3 a b' e _ he hj
              refine ⟨u, k1, ?_⟩
              cases k2 with
              | row hcap h0s hszr hrow => exact .gone _ _ rfl
            · obtain ⟨u, k1, k2⟩ := q3 a b' e0 c g4 g5
              refine ⟨u, k1, ?_⟩
              rw [sgNew_ne e2]
              exact k2
      · rw [m_ne _ e1 e2] at h
        exact (wf.obj id' o1 h).mono le h (fun p => sgNew_ne e2 p) fun _ _ _ _ _ => rfl
  · have c1 := only _ _ h1
    have c2 := only _ _ h2
    obtain ⟨i1, q1, l1, s1, r1⟩ := owner _ _ _ _ c1 k1
    obtain ⟨i2, q2, l2, s2, r2⟩ := owner _ _ _ _ c2 k2
    obtain ⟨e, ep⟩ := wf.inj _ _ _ _ _ _ _ l1 l2 s1 s2
    subst e; subst ep
    rcases r1 with ⟨rfl, rfl, x1, x2⟩ | ⟨n1, x1, x2, x3⟩ <;> rcases r2 with ⟨rfl, rfl, y1, y2⟩ | ⟨n2, y1, y2, y3⟩
    · exact ⟨rfl, rfl⟩
    · exact absurd ⟨x1, x2⟩ y3
    · exact absurd ⟨y1, y2⟩ x3
    · exact ⟨x1.symm.trans y1, x2.symm.trans y2⟩
  · obtain ⟨i1, q1, l1, s1, r1⟩ := owner _ _ _ _ (only _ _ h1) k1
    exact wf.row _ _ _ _ l1 s1
  · refine ⟨rfl, rfl, rfl, Nat.le_refl _, fun _ _ _ => rfl, fun b h => .inl h, fun b ⟨id1, p1, a1, h1, h2⟩ => ?_⟩
    obtain ⟨i1, q1, l1, s1, r1⟩ := owner _ _ _ _ (only _ _ h1) h2
    exact .inl ⟨i1, q1, a1, l1, s1⟩
end
end Go.Ev

namespace Go.Ev
set_option linter.unusedVariables false
set_option linter.unusedSimpArgs false
section
variable {w : World} {F : Nat → Prop} {σ : Sg} {M : Mem}
theorem get_seg {α : Type} (l m : List α) (p q : Nat) (hp : p + m.length ≤ l.length) :
    (l.take p ++ m ++ l.drop (p + m.length))[q]? = if q < p then l[q]? else if q < p + m.length then m[q - p]? else l[q]? := by
  have h1 : (l.take p).length = p := by simp; omega
  by_cases c1 : q < p
  · rw [if_pos c1, List.append_assoc, List.getElem?_append_left (by omega), List.getElem?_take, if_pos c1]
  · rw [if_neg c1, List.append_assoc, List.getElem?_append_right (by omega), h1]
    by_cases c2 : q < p + m.length
    · rw [if_pos c2, List.getElem?_append_left (by omega)]
    · rw [if_neg c2, List.getElem?_append_right (by omega), List.getElem?_drop]
      congr 1
      omega
theorem app_store {P : Program} (wf : Wf w F σ M) {id sz len b o0 : Nat} {es es' xs : List (List C)} {cur : Array Value} {ty : TypeId} {news : List Value} (h0 : 0 < sz)
    (hid : M id = some (.vec true sz es)) (hσ : σ id none = some (b, o0)) (hb : w.heap[b]? = some (.cells cur ty (0, 0))) (hfit : o0 + (len + xs.length) * sz ≤ cur.size) (rep : RepE w F sz xs news)
    (hes : ∀ (i : Nat) (e : List C), es'[i]? = some e → (i < len ∧ es[i]? = some e) ∨ (len ≤ i ∧ xs[i - len]? = some e) ∨ (len + xs.length ≤ i ∧ es[i]? = some e)) (hlen : es.length ≤ es'.length) :
    ∃ cur' : Array Value, cur'.size = cur.size ∧ (storeCells ⟨b, o0 + len * sz, none⟩ news).run P w = .ok () (w.setRow b cur') ∧ Step w F σ M (w.setRow b cur') F σ (upd M id (some (.vec true sz es'))) := by
  have hnl : news.length = xs.length * sz := rep.len
  have hfit' : o0 + len * sz + news.length ≤ cur.size := by rw [hnl, Nat.add_assoc, ← Nat.add_mul]; exact hfit
  have hr := run_storeCells_at P b (o0 + len * sz) ty news 0 cur w hb (by simpa using hfit') rep.one
  simp only [Nat.add_zero] at hr
  refine ⟨_, ?_, hr, ?_⟩
  · simp; omega
  have hsz' : (cur.toList.take (o0 + len * sz) ++ news ++ cur.toList.drop (o0 + len * sz + news.length)).toArray.size = cur.size := by simp; omega
  cases wf.obj id _ hid with
  | vec _ hsz hfl hrr =>
    have hT := hfl rfl
    have mem : ∀ (i : Nat) (e : List C), es'[i]? = some e → e.length = sz ∧ ∀ c ∈ e, c.isT = true := fun i e hi => by
      rcases hes i e hi with ⟨_, h⟩ | ⟨_, h⟩ | ⟨_, h⟩
      · exact ⟨hsz e (List.mem_of_getElem? h), hT e (List.mem_of_getElem? h)⟩
      · exact ⟨rep.szs e (List.mem_of_getElem? h), rep.isT e (List.mem_of_getElem? h)⟩
      · exact ⟨hsz e (List.mem_of_getElem? h), hT e (List.mem_of_getElem? h)⟩
    have only : ∀ q, Live (upd M id (some (.vec true sz es'))) id q → q = none := fun q hq => by
      cases q with
      | none => rfl
      | some q =>
        obtain ⟨i, j⟩ := q
        obtain ⟨fl, sz', es2, e, s, r, h1, h2, h3⟩ := hq
        rw [upd_same] at h1
        obtain ⟨_, _, rfl⟩ := Ob.vec.inj (Option.some.inj h1)
        have := (mem i e h2).2 _ (List.mem_of_getElem? h3)
        cases this
    refine step_store wf (p := none) hid ⟨_, hid, by simp⟩ hσ hb hsz' ⟨fun m' hm => ?_⟩ (fun q hq => ?_) fun le => ?_
    · obtain rfl := Option.some.inj hm
      refine ⟨_, rfl, hlen, fun _ => ⟨rfl, fun _ h => h, fun fl s2 es2 he => ?_⟩⟩
      obtain ⟨rfl, rfl, rfl⟩ := Ob.vec.inj he
      refine ⟨_, _, rfl, fun i j e c0 v0 h1 h2 hv0 => ?_⟩
      have := hT e (List.mem_of_getElem? h1) _ (List.mem_of_getElem? h2)
      cases c0 with
      | t _ => cases hv0
      | row s r => cases this
      | gone _ => cases this
    · obtain rfl := only q hq
      exact ⟨_, hid, by simp⟩
    · refine .vec h0 (fun e he => ?_) (fun _ e he => ?_) fun _ => ⟨b, o0, _, ty, hσ, setRow_heap w b cur _ ty _ hb, fun i j e c hi hj => ?_⟩
      · obtain ⟨i, hi⟩ := List.getElem?_of_mem he; exact (mem i e hi).1
      · obtain ⟨i, hi⟩ := List.getElem?_of_mem he; exact (mem i e hi).2
      · have hct := (mem i e hi).2 c (List.mem_of_getElem? hj)
        have hjl : j < sz := by rw [← (mem i e hi).1]; exact (List.getElem?_eq_some_iff.1 hj).1
        cases c with
        | row s r => cases hct
        | gone _ => cases hct
        | t x =>
          have old : es[i]? = some e → ∃ u, cur[o0 + i * sz + j]? = some u ∧ RepT w F x u := fun h => by
            obtain ⟨b', o', cur', ty', q1, q2, q3⟩ := hrr (by rintro rfl; simp at h)
            rw [hσ] at q1
            obtain ⟨rfl, rfl⟩ := Prod.mk.inj (Option.some.inj q1)
            rw [hb] at q2
            obtain ⟨rfl, rfl⟩ : cur = cur' ∧ ty = ty' := by simpa using q2
            obtain ⟨u, k1, k2⟩ := q3 i j e _ h hj
            cases k2 with | t k2 => exact ⟨u, k1, k2⟩
          have e1 : ∀ k, (cur.toList.take (o0 + len * sz) ++ news ++ cur.toList.drop (o0 + len * sz + news.length)).toArray[k]? = if k < o0 + len * sz then cur[k]? else if k < o0 + len * sz + news.length then news[k - (o0 + len * sz)]? else cur[k]? := fun k => by
            rw [List.getElem?_toArray, get_seg _ _ _ _ (by simpa using hfit')]
            simp
          have fin : ∀ u, RepT w F x u → RepC (w.setRow b (cur.toList.take (o0 + len * sz) ++ news ++ cur.toList.drop (o0 + len * sz + news.length)).toArray) F (σ id (some (i, j))) (.t x) u := fun u hu => .t (hu.mono le.fF le.same)
          rcases hes i e hi with ⟨hlt, h⟩ | ⟨hge, h⟩ | ⟨hge, h⟩
          · obtain ⟨u, k1, k2⟩ := old h
            refine ⟨u, ?_, fin u k2⟩
            have : (i + 1) * sz ≤ len * sz := Nat.mul_le_mul_right _ (by omega)
            rw [Nat.add_mul] at this
            rw [e1, if_pos (by omega)]
            exact k1
          · obtain ⟨u, k1, k2⟩ := rep.cell (i - len) j e x h hj
            refine ⟨u, ?_, fin u k2⟩
            have hil : i - len < xs.length := (List.getElem?_eq_some_iff.1 h).1
            have a1 : len * sz ≤ i * sz := Nat.mul_le_mul_right _ hge
            have a2 : (i - len) * sz = i * sz - len * sz := Nat.sub_mul ..
            have a3 : (i - len + 1) * sz ≤ xs.length * sz := Nat.mul_le_mul_right _ (by omega)
            rw [Nat.add_mul] at a3
            rw [e1, if_neg (by omega), if_pos (by omega), ← k1]
            congr 1
            omega
          · obtain ⟨u, k1, k2⟩ := old h
            refine ⟨u, ?_, fin u k2⟩
            have a1 : (len + xs.length) * sz ≤ i * sz := Nat.mul_le_mul_right _ hge
            rw [Nat.add_mul] at a1
            rw [e1, if_neg (by omega), if_neg (by omega)]
            exact k1
theorem upd_eta {M : Mem} {id : Nat} {o : Ob} (h : M id = some o) : upd M id (some o) = M := by
  funext j
  by_cases e : j = id
  · subst e; rw [upd_same, h]
  · rw [upd_ne M _ e]
theorem app0_sound {P : Program} (wf : Wf w F σ M) {t u e : TypeId} {info : TypeInfo} {d : TypeDesc} {ty : TypeId} {zv : Value} {id n sz len cap : Nat} {es xs : List (List C)} {base : Option Addr} {x : Value} {news : List Value}
    (ht : P.underlying t = some (.slice e)) (hi : P.info? e = some info) (hz0 : info.zero = some zv) (hu : P.underlying u = some d) (hd : ∀ k, d ≠ .int k) (hs : info.size = sz) (h0 : 0 < sz) (hbytes : info.bytes ≤ small)
    (hzs : zv.cells.size = sz)
    (hid : M id = some (.vec true sz es)) (hn : es.length = n) (hv : RepV w F σ M (.vec id n sz 0 len) (.slice base len cap)) (hroom : len + xs.length ≤ room)
    (rep : RepE w F sz xs news) (hl : ∀ (P : Program) (w' : World), (Builtin.lenOf x).run P w' = .ok xs.length w')
    (hf : ∀ (P : Program) (w' : World), w'.heap = w.heap → (Builtin.firstCells sz xs.length x).run P w' = .ok news.toArray w') :
    ∃ w' σ' c, (Builtin.append_ #[t, u] ty #[.slice base len cap, x]).run P w = .ok c w' ∧ Step w F σ M w' F σ' (app0 M sz id n len es xs).2 ∧ RepV w' F σ' (app0 M sz id n len es xs).2 (app0 M sz id n len es xs).1 c := by
  subst hs
  have hv' := hv
  cases hv' with
  | vec ho hln hcp ha hh =>
    rename_i o
    rw [hid] at ho
    obtain rfl := Option.some.inj ho
    obtain ⟨fl', es0, he, hw⟩ := (hh _ rfl).2 hn.symm
    obtain ⟨_, _, rfl⟩ := Ob.vec.inj he
    have hfw := hf P w rfl
    -- within the capacity
    have within : len + xs.length ≤ cap → 0 < cap → ∀ es' : List (List C), (∀ (i : Nat) (e : List C), es'[i]? = some e → (i < len ∧ es[i]? = some e) ∨ (len ≤ i ∧ xs[i - len]? = some e) ∨ (len + xs.length ≤ i ∧ es[i]? = some e)) → es.length ≤ es'.length →
        len + xs.length ≤ es'.length → es'.length ≤ cap →
        ∃ w' σ' c, (Builtin.append_ #[t, u] ty #[.slice base len cap, x]).run P w = .ok c w' ∧ Step w F σ M w' F σ' (upd M id (some (.vec true info.size es'))) ∧
          RepV w' F σ' (upd M id (some (.vec true info.size es'))) (.vec id es'.length info.size 0 (len + xs.length)) c := fun hc hp es' hes hle hle2 hle3 => by
      obtain ⟨b, o0, q1, rfl, cur, ty', q3, q4⟩ := hw hp
      have hfit : o0 + (len + xs.length) * info.size ≤ cur.size := by
        have : (len + xs.length) * info.size ≤ (0 + cap) * info.size := Nat.mul_le_mul_right _ (by omega)
        omega
      obtain ⟨cur', c1, c2, st⟩ := app_store (P := P) wf (len := len) h0 hid q1 q3 hfit rep hes hle
      have ead : (⟨b, o0 + 0 * info.size, none⟩ : Addr).add (len * info.size) = ⟨b, o0 + len * info.size, none⟩ := by rw [addr_add]; simp
      refine ⟨_, σ, _, run_app_room ht hi hu hd (hl P w) hfw hc (w' := w.setRow b cur') (by simp only [ead]; exact c2), st, ?_⟩
      refine .vec (upd_same ..) (by omega) (by omega) ha fun m hm => ⟨by have := Option.some.inj hm; omega, fun _ => ⟨true, es', rfl, fun _ => ⟨b, o0, q1, rfl, cur', ty', setRow_heap w b cur cur' ty' _ q3, by omega⟩⟩⟩
    by_cases hcase : len + xs.length ≤ n
    · simp only [app0, if_pos hcase]
      have hl1 : (es.take len ++ xs ++ es.drop (len + xs.length)).length = es.length := by simp; omega
      by_cases hcap : 0 < cap
      · obtain ⟨w', σ', c, r1, r2, r3⟩ := within (by omega) hcap (es.take len ++ xs ++ es.drop (len + xs.length)) (fun i e hi => by
          rw [get_seg es xs len i (by omega)] at hi
          split at hi
          · rename_i h; exact .inl ⟨h, hi⟩
          · split at hi
            · rename_i h1 h2; exact .inr (.inl ⟨by omega, hi⟩)
            · rename_i h1 h2; exact .inr (.inr ⟨by omega, hi⟩)) (by omega) (by omega) (by omega)
        rw [hl1, hn] at r3
        exact ⟨w', σ', c, r1, r2, r3⟩
      · have e1 : cap = 0 := by omega
        have e2 : n = 0 := by omega
        have e3 : len = 0 := by omega
        subst e1 e2 e3
        obtain rfl : xs = [] := List.length_eq_zero_iff.1 (by omega)
        obtain rfl : es = [] := List.length_eq_zero_iff.1 hn
        obtain rfl : news = [] := List.length_eq_zero_iff.1 (by have := rep.len; simpa using this)
        simp only [List.take_nil, List.append_nil, List.drop_nil, List.length_nil, Nat.add_zero]
        rw [upd_eta hid]
        refine ⟨w, σ, _, run_app_room ht hi hu hd (hl P w) hfw (by simp) (w' := w) (by cases base <;> simp [storeCells]), .refl wf, hv⟩
    · simp only [app0, if_neg hcase]
      have hl1 : (es.take len ++ xs).length = len + xs.length := by simp; omega
      by_cases hc : len + xs.length ≤ cap
      · obtain ⟨w', σ', c, r1, r2, r3⟩ := within hc (by omega) (es.take len ++ xs) (fun i e hi => by
          by_cases h : i < len
          · rw [List.getElem?_append_left (by simp; omega), List.getElem?_take, if_pos h] at hi
            exact .inl ⟨h, hi⟩
          · rw [List.getElem?_append_right (by simp; omega)] at hi
            refine .inr (.inl ⟨by omega, ?_⟩)
            have : (es.take len).length = len := by simp; omega
            rwa [this] at hi) (by omega) (by omega) (by omega)
        rw [hl1] at r3
        exact ⟨w', σ', c, r1, r2, r3⟩
      · obtain ⟨olds, repo, _, hfo⟩ := src_sound (sz := info.size) (x := .vec id n info.size 0 len) (xs := es.take len) wf h0 (by simp [src, hid, hn, (by omega : len ≤ n)]) hv
        have hol : (es.take len).length = len := by simp; omega
        rw [hol] at hfo
        have hr := run_app_grow (ty := ty) ht hi hz0 hu hd (hl P w) (hf P w.drew rfl) (hfo P w.drew rfl) hc hroom hbytes
        have hge := grownCap_ge w (len + xs.length) cap e
        have holen : olds.length = len * info.size := by have := repo.len; rwa [hol] at this
        have hnlen := rep.len
        have cellAt : ∀ k, k < olds.length + news.length → (olds.toArray ++ (news.toArray ++ Builtin.zeroCells zv.cells (grownCap w (len + xs.length) cap e - (len + xs.length))))[k]? = if k < olds.length then olds[k]? else news[k - olds.length]? := fun k hk => by
          rw [Array.getElem?_append]
          by_cases h : k < olds.length
          · simp [h]
          · rw [if_neg (by simpa using h), if_neg h, Array.getElem?_append, if_pos (by simp; omega)]
            simp
        have st := step_regrow (w' := w.drew.alloc (.cells (olds.toArray ++ (news.toArray ++ Builtin.zeroCells zv.cells (grownCap w (len + xs.length) cap e - (len + xs.length)))) e)) (es' := es.take len ++ xs) wf hid (by omega) h0
          (fun el hel => by rcases List.mem_append.1 hel with h | h; exact repo.szs el h; exact rep.szs el h) (fun el hel => by rcases List.mem_append.1 hel with h | h; exact repo.isT el h; exact rep.isT el h)
          rfl rfl rfl rfl (fun i j el y hi hj => by
            have hjl : j < info.size := by
              have hm : el.length = info.size := by rcases List.mem_append.1 (List.mem_of_getElem? hi) with h | h; exact repo.szs el h; exact rep.szs el h
              rw [← hm]; exact (List.getElem?_eq_some_iff.1 hj).1
            by_cases h : i < len
            · rw [List.getElem?_append_left (by omega)] at hi
              obtain ⟨u, k1, k2⟩ := repo.cell i j el y hi hj
              refine ⟨u, ?_, k2⟩
              have : (i + 1) * info.size ≤ len * info.size := Nat.mul_le_mul_right _ (by omega)
              rw [Nat.add_mul] at this
              rw [cellAt _ (by omega), if_pos (by omega)]
              exact k1
            · rw [List.getElem?_append_right (by omega), hol] at hi
              obtain ⟨u, k1, k2⟩ := rep.cell (i - len) j el y hi hj
              refine ⟨u, ?_, k2⟩
              have hil : i - len < xs.length := (List.getElem?_eq_some_iff.1 hi).1
              have a1 : len * info.size ≤ i * info.size := Nat.mul_le_mul_right _ (by omega)
              have a2 : (i - len) * info.size = i * info.size - len * info.size := Nat.sub_mul ..
              have a3 : (i - len + 1) * info.size ≤ xs.length * info.size := Nat.mul_le_mul_right _ (by omega)
              rw [Nat.add_mul] at a3
              rw [cellAt _ (by omega), if_neg (by omega), ← k1]
              congr 1
              omega)
        refine ⟨_, _, _, hr, st, .vec (upd_same ..) (by omega) (by omega) (fun _ => rfl) fun m hm => ⟨by have := Option.some.inj hm; omega, fun _ => ⟨true, _, rfl, fun _ => ⟨w.heap.size, 0, sgMove_at _ _ _, by simp, _, e, heap_alloc_new w.drew _, ?_⟩⟩⟩⟩
        simp only [Array.size_append, List.size_toArray, size_zeroCells, hzs, holen, hnlen]
        have : (0 + grownCap w (len + xs.length) cap e) * info.size = len * info.size + (xs.length * info.size + (grownCap w (len + xs.length) cap e - (len + xs.length)) * info.size) := by
          rw [← Nat.add_mul, ← Nat.add_mul]; congr 1; omega
        omega
theorem app_sound {P : Program} (wf : Wf w F σ M) {t u e : TypeId} {info : TypeInfo} {d : TypeDesc} {ty : TypeId} {z : List T} {nb sz : Nat} {s x r : V} {sv xv : Value} {M' : Mem}
    (ht : P.underlying t = some (.slice e)) (hi : P.info? e = some info) (hz : zeroT P e = some z) (hzl : z.length = sz) (hu : P.underlying u = some d) (hd : ∀ k, d ≠ .int k) (hs : info.size = sz)
    (h : app nb M sz info.bytes s x = some (r, M')) (hsv : RepV w F σ M s sv) (hxv : RepV w F σ M x xv) :
    ∃ w' F' σ' c, (Builtin.append_ #[t, u] ty #[sv, xv]).run P w = .ok c w' ∧ Step w F σ M w' F' σ' M' ∧ RepV w' F' σ' M' r c := by
  obtain ⟨info', zv, i1, i2, i3, _⟩ := zero_sound hz
  rw [hi] at i1
  obtain rfl := Option.some.inj i1
  have hzs : zv.cells.size = sz := by omega
  unfold app at h
  split at h
  · rename_i hc
    obtain ⟨h0, hby⟩ := hc
    obtain ⟨xs, hxs, h⟩ := Option.bind_eq_some_iff.1 h
    obtain ⟨news, rep, hl, hf⟩ := src_sound wf h0 hxs hxv
    split at h
    · split at h
      · rename_i hrm
        obtain ⟨M2, hM2, he⟩ := Option.map_eq_some_iff.1 h
        obtain ⟨rfl, rfl⟩ := Prod.mk.inj he
        obtain rfl := rep_nils hsv
        by_cases hk : xs.length = 0
        · obtain rfl : xs = [] := List.length_eq_zero_iff.1 hk
          obtain rfl : news = [] := List.length_eq_zero_iff.1 (by have := rep.len; simpa using this)
          unfold mk at hM2
          split at hM2
          · rename_i hn
            obtain rfl := Option.some.inj hM2
            subst hs
            refine ⟨w, F, sgNew σ nb none, _, run_app_room ht hi hu hd (hl P w) (hf P w rfl) (by simp) (w' := w) rfl, ?_, ?_⟩
            · refine step_new wf (by simpa using hn) rfl rfl rfl (Nat.le_refl _) (fun _ _ => rfl) (fun b o hx => by cases hx) (fun q hq => ?_) fun le => .vec h0 (by simp) (by simp) (by simp)
              cases q with
              | none => rfl
              | some q => obtain ⟨i, j⟩ := q; obtain ⟨fl, sz', es2, e, s, r, h1, h2, _⟩ := hq; rw [upd_same] at h1; obtain ⟨_, _, rfl⟩ := Ob.vec.inj (Option.some.inj h1); simp at h2
            · exact .vec (upd_same ..) (by simp) (by simp) (by simp) fun m hm => ⟨by simp, fun _ => ⟨true, [], rfl, fun hp => by simp at hp⟩⟩
          · cases hM2
        · subst hs
          have hr := run_app_grow (ty := ty) (olds := []) (base := none) (sLen := 0) (sCap := 0) ht hi i2 hu hd (hl P w) (hf P w.drew rfl) (first_zero ..) (by omega) (by omega) hby
          have hge := grownCap_ge w (0 + xs.length) 0 e
          have hnlen := rep.len
          obtain ⟨σ', st, hrep⟩ := newVec_sound (w' := w.drew.alloc (.cells (([] : List Value).toArray ++ (news.toArray ++ Builtin.zeroCells zv.cells (grownCap w (0 + xs.length) 0 e - (0 + xs.length)))) e)) (cap := grownCap w (0 + xs.length) 0 e) wf hM2 h0 rep.szs rep.isT (by omega) (by
              simp only [Array.size_append, List.size_toArray, size_zeroCells, hzs, hnlen, List.length_nil]
              have : grownCap w (0 + xs.length) 0 e * info.size = xs.length * info.size + (grownCap w (0 + xs.length) 0 e - (0 + xs.length)) * info.size := by
                rw [← Nat.add_mul]; congr 1; omega
              omega) rfl rfl rfl rfl (fun i j el y hi hj => by
              obtain ⟨u, k1, k2⟩ := rep.cell i j el y hi hj
              refine ⟨u, ?_, k2⟩
              have hlt : i * info.size + j < news.length := (List.getElem?_eq_some_iff.1 k1).1
              rw [Array.getElem?_append, if_neg (by simp), Array.getElem?_append, if_pos (by simpa using hlt)]
              simpa using k1)
          have e0 : 0 + xs.length = xs.length := Nat.zero_add _
          rw [e0] at hr hrep st
          exact ⟨_, F, σ', _, hr, st, hrep⟩
      · cases h
    · rename_i id n sz' off len hOld
      split at h
      · rename_i fl sz'' es hM
        split at h
        · rename_i hc
          obtain ⟨hn, rfl, rfl, hoff, hrm, rfl⟩ := hc
          have hsv' := hsv
          cases hsv' with
          | vec ho hln hcp ha hh =>
            rename_i base cap o
            split at h
            · rename_i ho0
              subst ho0
              obtain ⟨w', σ', c, r1, r2, r3⟩ := app0_sound (ty := ty) wf ht hi i2 hu hd hs h0 hby hzs hM hn hsv hrm rep hl hf
              have he := Option.some.inj h
              rw [he] at r2 r3
              exact ⟨w', F, σ', c, r1, r2, r3⟩
            · split at h
              · rename_i hne hend
                obtain ⟨M2, hM2, he⟩ := Option.map_eq_some_iff.1 h
                unfold mk at hM2
                split at hM2
                · rename_i hnb
                  obtain rfl := Option.some.inj hM2
                  obtain ⟨σ1, st1, hσ1⟩ := step_part (off := off) wf hM (by simpa using hnb : M nb = none)
                  rw [hM] at ho
                  obtain rfl := Option.some.inj ho
                  have hidne : nb ≠ id := by rintro rfl; rw [hM] at hnb; simp at hnb
                  have hnew : upd (upd M nb (some (.vec true sz'' (es.drop off)))) id (some .dead) nb = some (.vec true sz'' (es.drop off)) := by rw [upd_ne _ _ hidne, upd_same]
                  have hv1 : RepV w F σ1 (upd (upd M nb (some (.vec true sz'' (es.drop off)))) id (some .dead)) (.vec nb (n - off) sz'' 0 len) (.slice base len cap) := by
                    refine .vec hnew (by omega) (by omega) ha fun m hm => ⟨by have := Option.some.inj hm; simp at this; omega, fun _ => ⟨true, _, rfl, fun hp => ?_⟩⟩
                    obtain ⟨fl', es0, he', hw⟩ := (hh _ rfl).2 hn.symm
                    obtain ⟨b, o0, q1, q2, cur, ty', q3, q4⟩ := hw hp
                    refine ⟨b, o0 + off * sz'', hσ1 b o0 q1, by rw [q2]; simp, cur, ty', q3, ?_⟩
                    rw [Nat.zero_add, Nat.add_assoc, ← Nat.add_mul]
                    exact q4
                  obtain ⟨w', σ', c, r1, r2, r3⟩ := app0_sound (ty := ty) st1.wf ht hi i2 hu hd hs h0 hby hzs hnew (by simp; omega) hv1 hrm rep hl hf
                  rw [he] at r2 r3
                  exact ⟨w', F, σ', c, r1, st1.trans r2, r3⟩
                · cases hM2
              · cases h
        · cases h
      · cases h
    · rename_i id n i j sz' len hOld
      split at h
      · rename_i fl s0 es hM
        split at h
        · rename_i hc
          obtain ⟨hn, rfl, hl0, hx0, hrm⟩ := hc
          split at h
          · rename_i el hel
            split at h
            · rename_i sz2 rr hrr
              split at h
              · rename_i hc2
                obtain ⟨rfl, rfl⟩ := hc2
                obtain ⟨M2, hM2, he⟩ := Option.map_eq_some_iff.1 h
                unfold mk at hM2
                split at hM2
                · rename_i hnb
                  obtain rfl := Option.some.inj hM2
                  have hidne : id ≠ nb := by rintro rfl; rw [upd_same] at hnb; simp at hnb
                  have hnb0 : M nb = none := by rw [upd_ne _ _ (Ne.symm hidne)] at hnb; simpa using hnb
                  have st1 := step_take (w := w) (F := F) (σ := σ) (fl := fl) wf hM hnb0 hel hrr
                  have hnew : upd (upd M id (some (.vec false s0 (es.set i (el.set j (.gone rr.length)))))) nb (some (.vec true sz2 (rr.map (·.map C.t)))) nb = some (.vec true sz2 (rr.map (·.map C.t))) := upd_same ..
                  cases hsv with
                  | row ho ha hh =>
                    rename_i base cap o
                    rw [hM] at ho
                    obtain rfl := Option.some.inj ho
                    obtain ⟨_, _, _, e2, xx, vv, he2, g2, g3, g4, g5, g6⟩ := (hh _ rfl).2 hn.symm
                    obtain ⟨rfl, rfl, rfl⟩ := Ob.vec.inj he2
                    rw [hel] at g2
                    obtain rfl := Option.some.inj g2
                    rw [hrr] at g3
                    obtain rfl := Option.some.inj g3
                    have hvv := Option.some.inj g4
                    obtain ⟨r0, hxr, p2, p3, p4⟩ := g6 (by omega)
                    have hv1 : RepV w F (sgNew σ nb (σ id (some (i, j)))) (upd (upd M id (some (.vec false s0 (es.set i (el.set j (.gone rr.length)))))) nb (some (.vec true sz2 (rr.map (·.map C.t))))) (.vec nb rr.length sz2 0 rr.length) (.slice base rr.length cap) := by
                      refine .vec hnew (by omega) (by omega) (fun _ => ha hl0) fun m hm => ⟨by have := Option.some.inj hm; simp at this; omega, fun _ => ⟨true, _, rfl, fun hp => ?_⟩⟩
                      obtain ⟨b, o0, q1, q2, q3⟩ := p4 hl0
                      exact ⟨b, o0, by rw [sgNew_at]; exact q1, by rw [q2]; simp, by simpa using q3⟩
                    obtain ⟨w', σ', c, r1, r2, r3⟩ := app0_sound (ty := ty) st1.wf ht hi i2 hu hd hs h0 hby hzs hnew (by simp) hv1 hrm rep hl hf
                    have he := he
                    rw [he] at r2 r3
                    exact ⟨w', F, σ', c, r1, st1.trans r2, r3⟩
                · cases hM2
              · cases h
            · cases h
          · cases h
        · cases h
      · cases h
    · cases h
  · cases h
end
end Go.Ev
