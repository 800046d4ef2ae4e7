/- Part A1 of the proof. -/
import GoSem.Core.View
import GoSem.Core.Code
import GoSem.Core.Utf8
import GoSem.Core.Region
import Derived.DeepKeys2
import Derived.Calls
import GoSem.ClaimKeys
import Derived.Laws.Cells
import Derived.Laws.CopyRow
import Derived.Laws.StructEq
set_option linter.all false
namespace Go.Lift
open Go
theorem aI {a b : Prop} (x : a) (y : b) : a ∧ b := ⟨x, y⟩
inductive D where
 | bool (b : Bool)
 | int (k : IntKind) (n : Int)
 | str (s : List Nat)
 | sl (l : List D)
 | agg (cs : List D)
inductive V where
 | d (x : D)
 | nilS
 | emp
 | arr (k es : Nat) (ag : Bool) (off len : Nat)
 | ptr (k off : Nat)
 | dptr (cs : List D)
 | nilP
 | map (k : Nat)
 | nilM
 | fn (f : Nat) (first cap : List V)
 | yld (k : Nat)
 | nilF
 | agg (cs : List V)
 | tup (vs : List V)
abbrev V.undef : V := .tup []
inductive Kc where
 | b
 | s
 | i (k : IntKind)
inductive Opd where
 | t (n : Nat)
 | c (v : V)
inductive Cal where
 | f (n : Nat)
 | o (x : Opd)
inductive IK where
 | mv (x : Opd)
 | pick (c a b : Opd)
 | alloc (ai : Nat) (zero : List V)
 | box (ai : Nat) (x : Opd)
 | build (zero : List V) (parts : List (Nat × Nat × Opd))
 | mkSl (ai es : Nat) (ag nofz : Bool) (zero : List V) (len : Nat) (parts : List (Nat × Opd))
 | load (n : Nat) (ag : Bool) (a : Opd)
 | store (n : Nat) (a x : Opd)
 | nilck (x : Opd)
 | bin (op : BinOp) (x y : Opd)
 | eqB (neg : Bool) (x y : Opd)
 | eqA (neg : Bool) (sh : List Kc) (x y : Opd)
 | eqNil (neg : Bool) (kd : Nat) (x : Opd)
 | un (op : UnOp) (x : Opd)
 | convI (k : IntKind) (x : Opd)
 | convS (x : Opd)
 | mkf (f : Nat) (first cap : List Opd)
 | mkmap (ai kt : Nat)
 | mkslice (ai es : Nat) (ag : Bool) (ebytes : Nat) (zero : List V) (len cap : Opd)
 | sliceS (x : Opd) (lo hi : Option Opd)
 | sliceL (es : Nat) (x : Opd) (lo hi : Option Opd)
 | sliceA (n es : Nat) (ag : Bool) (x : Opd) (lo hi : Option Opd)
 | faddr (off : Nat) (x : Opd)
 | field (off n : Nat) (ag : Bool) (x : Opd)
 | iaddrS (es : Nat) (x i : Opd)
 | iaddrA (len es : Nat) (x i : Opd)
 | indexA (len es : Nat) (ag : Bool) (x i : Opd)
 | indexS (x i : Opd)
 | lookup (kt : Nat) (ag : Bool) (sh : List Kc) (ok : Bool) (zero : V) (m k : Opd)
 | mapUpd (kt : Nat) (ag : Bool) (sh : List Kc) (m k x : Opd)
 | ext (i : Nat) (x : Opd)
 | len (str : Bool) (x : Opd)
 | lenM (x : Opd)
 | lenK (n : Nat)
 | capK (x : Opd)
 | append (ai es : Nat) (ag : Bool) (ebytes : Nat) (x y : Opd)
 | copy (es : Nat) (x y : Opd)
 | clearS (es : Nat) (zero : List V) (x : Opd)
 | mm (isMax : Bool) (xs : List Opd)
 | rangeS (ai : Nat) (x : Opd)
 | nextS (x : Opd)
 | call (f : Cal) (args : List Opd)
 | bad
structure IOp where
 dst : Option Nat
 op : IK
 gd : Option (Nat × Bool)
 keep : List Nat
inductive IC where
 | skip
 | reg (na : Nat) (ops : List IOp)
 | seq (a b : IC)
 | cond (c : Opd) (a b : IC)
 | block (id : Nat) (b : IC)
 | loop (b : IC)
 | rf (f : Opd) (ps : List Nat) (asg body : IC)
 | exit (id : Nat)
 | ret
 | bad
inductive Ex where
 | nrm
 | brk (id : Nat)
 | ret
 deriving DecidableEq
inductive Obj where
 | cells (cs : List V)
 | fz (ds : List D)
 | map (kt : Nat) (es : List (D × V))
 | loop (env : List V) (ps : List Nat) (asg body : IC) (st : LoopState) (pend : Option Ex)
 | iter (s : List Nat) (pos : Nat)
 | dfr
inductive IR where
 | t (n : Nat)
 | cell (t n : Nat) (ag : Bool)
structure IFun where
 nt : Nat
 body : IC
 res : List IR
 pure : Bool
 pop : Bool
 nf : Bool := false
 nil2 : Bool := false
mutual
def D.beq : D → D → Bool
 | .bool a, .bool b => a == b
 | .int k n, .int j m => decide (k = j) && decide (n = m)
 | .str s, .str t => decide (s = t)
 | .sl l, .sl m => D.beqL l m
 | .agg l, .agg m => D.beqL l m
 | _, _ => false
def D.beqL : List D → List D → Bool
 | [], [] => true
 | x :: l, y :: m => D.beq x y && D.beqL l m
 | _, _ => false
end
mutual
def V.beq : V → V → Bool
 | .d x, .d y => D.beq x y
 | .nilS, .nilS => true
 | .emp, .emp => true
 | .arr k es ag off len, .arr k' es' ag' off' len' => decide (k = k') && decide (es = es') && (ag == ag') && decide (off = off') && decide (len = len')
 | .ptr k off, .ptr k' off' => decide (k = k') && decide (off = off')
 | .dptr l, .dptr m => D.beqL l m
 | .nilP, .nilP => true
 | .map k, .map k' => decide (k = k')
 | .nilM, .nilM => true
 | .fn f a b, .fn g c e => decide (f = g) && V.beqL a c && V.beqL b e
 | .yld k, .yld k' => decide (k = k')
 | .nilF, .nilF => true
 | .agg l, .agg m => V.beqL l m
 | .tup l, .tup m => V.beqL l m
 | _, _ => false
def V.beqL : List V → List V → Bool
 | [], [] => true
 | x :: l, y :: m => V.beq x y && V.beqL l m
 | _, _ => false
end
def beqM : List (D × V) → List (D × V) → Bool
 | [], [] => true
 | (a, x) :: l, (b, y) :: m => D.beq a b && V.beq x y && beqM l m
 | _, _ => false
def Obj.beq : Obj → Obj → Bool
 | .cells a, .cells b => V.beqL a b
 | .fz a, .fz b => D.beqL a b
 | .map j a, .map k b => decide (j = k) && beqM a b
 | .iter s p, .iter t q => decide (s = t) && decide (p = q)
 | _, _ => false
def z7q : Kc → D → Bool
 | .b, .bool _ => true
 | .s, .str t => decide (t.length ≤ 4611686018427387904)
 | .i k, .int j n => decide (k = j) && decide (k.min ≤ n) && decide (n ≤ k.max)
 | _, _ => false
def conf : List Kc → List D → Bool
 | [], [] => true
 | c :: cs, x :: xs => z7q c x && conf cs xs
 | _, _ => false
def z2g (ag : Bool) (sh : List Kc) : D → Bool
 | .agg ds => ag && conf sh ds
 | x => !ag && conf sh [x]
structure St where
 s : List (Nat × Obj)
 next : Nat
 low : Nat
def sget : List (Nat × Obj) → Nat → Option Obj
 | [], _ => none
 | (k, o) :: r, j => if k = j then some o else sget r j
def sset : List (Nat × Obj) → Nat → Obj → List (Nat × Obj)
 | [], _, _ => []
 | (k, o) :: r, j, x => if k = j then (k, x) :: r else (k, o) :: sset r j x
def sdel : List (Nat × Obj) → Nat → List (Nat × Obj)
 | [], _ => []
 | (k, o) :: r, j => if k = j then sdel r j else (k, o) :: sdel r j
def scells (s : List (Nat × Obj)) (k : Nat) : Option (List V) :=
 match sget s k with
 | some (.cells cs) => some cs
 | some (.fz ds) => some (ds.map V.d)
 | _ => none
def St.cells? (st : St) (k : Nat) : Option (List V) := scells st.s k
def St.get (st : St) (k : Nat) : Option Obj := sget st.s k
def St.ins (st : St) (k : Nat) (o : Obj) : St := { st with s := (k, o) :: st.s }
def St.set (st : St) (k : Nat) (o : Obj) : St := { s := sset st.s k o, next := st.next, low := Nat.min st.low k }
def St.del (st : St) (k : Nat) : St := { s := sdel st.s k, next := st.next, low := Nat.min st.low k }
def allD : List V → Option (List D)
 | [] => some []
 | .d x :: r => (allD r).map (x :: ·)
 | _ :: _ => none
def mkAgg (cs : List V) : V :=
 match allD cs with
 | some ds => .d (.agg ds)
 | none => .agg cs
def cellsD : D → List D
 | .agg ds => ds
 | x => [x]
def cellsV : V → List V
 | .agg vs => vs
 | .d (.agg ds) => ds.map V.d
 | x => [x]
def D.isCell : D → Bool
 | .agg _ => false
 | _ => true
def V.isCell : V → Bool
 | .agg _ => false
 | .tup _ => false
 | .d x => x.isCell
 | _ => true
def splice (cs : List V) (off : Nat) (xs : List V) : List V := cs.take off ++ xs ++ cs.drop (off + xs.length)
def ofCells (ag : Bool) (cs : List V) : Option V :=
 if ag then some (mkAgg cs) else match cs with
  | [x] => some x
  | _ => none
def ofCellsD (ag : Bool) (cs : List D) : Option V :=
 if ag then some (.d (.agg cs)) else match cs with
  | [x] => some (.d x)
  | _ => none
def z4u (es : Nat) (ag : Bool) : Nat → List D → Option (List D)
 | 0, [] => some []
 | 0, _ :: _ => none
 | n + 1, l =>
  if l.length < es then none else
  match (if ag then some (D.agg (l.take es)) else match l.take es with | [x] => some x | _ => none) with
  | none => none
  | some x => (z4u es ag n (l.drop es)).map (x :: ·)
def snap (s : List (Nat × Obj)) (b : Nat) : Nat → V → Option D
 | 0, _ => none
 | _ + 1, .d x => some x
 | _ + 1, .nilS => some (.sl [])
 | _ + 1, .emp => some (.sl [])
 | n + 1, .arr k es ag off len =>
  if k < b then none else
  match scells s k with
  | some cs =>
   if 0 < es ∧ off + len * es ≤ cs.length then
    match ((cs.drop off).take (len * es)).mapM (snap s b n) with
    | some ds => if ds.all D.isCell then (z4u es ag len ds).map D.sl else none
    | none => none
   else none
  | none => none
 | n + 1, .agg vs =>
  match vs.mapM (snap s b n) with
  | some ds => if ds.all D.isCell then some (.agg ds) else none
  | none => none
 | _ + 1, _ => none
def z09 : Nat := 12
def D.flatC : D → Bool
 | .sl (_ :: _) => false
 | .agg _ => false
 | _ => true
def D.flat : D → Bool
 | .sl (_ :: _) => false
 | .agg cs => cs.all D.flatC
 | _ => true
mutual
def V.under (b : Nat) : V → Bool
 | .arr k _ _ _ _ => decide (k < b)
 | .ptr k _ => decide (k < b)
 | .map k => decide (k < b)
 | .yld k => decide (k < b)
 | .fn _ a c => V.underL b a && V.underL b c
 | .agg l => V.underL b l
 | .tup l => V.underL b l
 | _ => true
def V.underL (b : Nat) : List V → Bool
 | [] => true
 | x :: l => V.under b x && V.underL b l
end
def frzL (f : St → V → Option (V × St)) : St → List V → Option (List V × St)
 | st, [] => some ([], st)
 | st, x :: r =>
  match f st x with
  | none => none
  | some (y, st1) =>
   match frzL f st1 r with
   | none => none
   | some (ys, st2) => some (y :: ys, st2)
def toDs : List V → Option (List D)
 | [] => some []
 | .d x :: r => (toDs r).map (x :: ·)
 | .nilS :: r => (toDs r).map (.sl [] :: ·)
 | .emp :: r => (toDs r).map (.sl [] :: ·)
 | _ :: _ => none
def frz : Nat → St → V → Option (V × St)
 | 0, _, _ => none
 | n + 1, st, .arr k es ag off len =>
  match st.get k with
  | some (.cells cs) =>
   if 0 < es ∧ off + len * es ≤ cs.length then
    match frzL (frz n) st cs with
    | none => none
    | some (ys, st') =>
     match toDs ys with
     | none => none
     | some ds =>
      if ds.all D.isCell then
       match z4u es ag len ((ds.drop off).take (len * es)), st'.get k with
       | some l, some (.cells _) => some (.d (.sl l), st'.set k (.fz ds))
       | _, _ => none
      else none
   else none
  | some (.fz ds) =>
   if 0 < es ∧ off + len * es ≤ ds.length ∧ ds.all D.isCell then
    match z4u es ag len ((ds.drop off).take (len * es)) with
    | none => none
    | some l => some (.d (.sl l), st)
   else none
  | _ => none
 | n + 1, st, .agg vs =>
  match frzL (frz n) st vs with
  | none => none
  | some (ys, st') => some (mkAgg ys, st')
 | _ + 1, st, v => some (v, st)
end Go.Lift
namespace Go.Lift
open Go
def evO (env : List V) : Opd → V
 | .t n => env.getD n .undef
 | .c v => v
def setE (env : List V) (dst : Option Nat) (v : V) : List V :=
 match dst with
 | some n => env.set n v
 | none => env
def z5k : List Nat → List Nat → Bool
 | _, [] => false
 | [], _ :: _ => true
 | a :: x, b :: y => decide (a < b) || (decide (a = b) && z5k x y)
def binI (op : BinOp) (k : IntKind) (a b : Int) : Option D :=
 match op with
 | .add => some (.int k (k.wrap (a + b)))
 | .sub => some (.int k (k.wrap (a - b)))
 | .mul => some (.int k (k.wrap (a * b)))
 | .quo => if b = 0 then none else some (.int k (k.wrap (a.tdiv b)))
 | .rem => if b = 0 then none else some (.int k (a.tmod b))
 | .and => some (.int k (k.wrap (BitVec.ofInt k.bits a &&& BitVec.ofInt k.bits b).toNat))
 | .or => some (.int k (k.wrap (BitVec.ofInt k.bits a ||| BitVec.ofInt k.bits b).toNat))
 | .xor => some (.int k (k.wrap (BitVec.ofInt k.bits a ^^^ BitVec.ofInt k.bits b).toNat))
 | .andNot => some (.int k (k.wrap (BitVec.ofInt k.bits a &&& ~~~ BitVec.ofInt k.bits b).toNat))
 | .eql => some (.bool (decide (a = b)))
 | .neq => some (.bool (!decide (a = b)))
 | .lss => some (.bool (decide (a < b)))
 | .leq => some (.bool (decide (a ≤ b)))
 | .gtr => some (.bool (decide (b < a)))
 | .geq => some (.bool (decide (b ≤ a)))
 | .shl => none
 | .shr => none
def binS (op : BinOp) (a b : List Nat) : Option D :=
 match op with
 | .add => if a.length + b.length ≤ 4611686018427387904 then some (.str (a ++ b)) else none
 | .eql => some (.bool (decide (a = b)))
 | .neq => some (.bool (!decide (a = b)))
 | .lss => some (.bool (z5k a b))
 | .leq => some (.bool (z5k a b || decide (a = b)))
 | .gtr => some (.bool (!(z5k a b || decide (a = b))))
 | .geq => some (.bool (!z5k a b))
 | _ => none
def zew (op : BinOp) (k : IntKind) (a b : Int) : Option D :=
 if b < 0 then none else
 match op with
 | .shl => some (.int k (k.wrap (a * 2 ^ (Nat.min b.toNat k.bits))))
 | .shr => some (.int k (a.fdiv (2 ^ (Nat.min b.toNat k.bits))))
 | _ => none
def z1y : BinOp → Bool
 | .shl => true
 | .shr => true
 | _ => false
def binV (op : BinOp) : V → V → Option V
 | .d (.int k a), .d (.int j b) =>
  if z1y op then (zew op k a b).map V.d else if k = j then (binI op k a b).map V.d else none
 | .d (.str a), .d (.str b) => (binS op a b).map V.d
 | _, _ => none
def zfs : Nat → V → Option Bool
 | 0, .nilS => some true
 | 0, .arr _ _ _ _ _ => some false
 | 0, .d (.sl (_ :: _)) => some false
 | 0, .emp => some false
 | 1, .map _ => some false
 | 1, .nilM => some true
 | 2, .fn _ _ _ => some false
 | 2, .yld _ => some false
 | 2, .nilF => some true
 | 3, .ptr _ _ => some false
 | 3, .dptr _ => some false
 | 3, .nilP => some true
 | _, _ => none
def unV (op : UnOp) : V → Option V
 | .d (.bool b) => match op with
  | .not => some (.d (.bool (!b)))
  | _ => none
 | .d (.int k n) => match op with
  | .neg => some (.d (.int k (k.wrap (0 - n))))
  | .xor => some (.d (.int k (k.wrap (BitVec.ofInt k.bits (if k.signed then -1 else k.max) ^^^ BitVec.ofInt k.bits n).toNat)))
  | _ => none
 | _ => none
def asI : V → Option Int
 | .d (.int _ n) => some n
 | _ => none
def z3d (lo hi : Option V) (len most : Nat) : Option (Nat × Nat) :=
 match hi with
 | none =>
  match lo with
  | none => some (0, len)
  | some l => match asI l with
   | some l => if 0 ≤ l ∧ l ≤ (len : Int) then some (l.toNat, len) else none
   | none => none
 | some h => match asI h with
  | none => none
  | some h =>
   if 0 ≤ h ∧ h ≤ (most : Int) then
    match lo with
    | none => some (0, h.toNat)
    | some l => match asI l with
     | some l => if 0 ≤ l ∧ l ≤ h then some (l.toNat, h.toNat) else none
     | none => none
   else none
def fillP : List V → List (Nat × Nat × V) → Option (List V)
 | cs, [] => some cs
 | cs, (off, size, v) :: r =>
  if (cellsV v).length = size ∧ off + size ≤ cs.length then fillP (splice cs off (cellsV v)) r else none
def frzP (env : List V) : St → List (Nat × Opd) → Option (List (Nat × V) × St)
 | st, [] => some ([], st)
 | st, (i, x) :: r =>
  match frz z09 st (evO env x) with
  | none => none
  | some (y, st1) =>
   match frzP env st1 r with
   | none => none
   | some (ys, st2) => some ((i, y) :: ys, st2)
def z1r (st : St) (n : Nat) (ag : Bool) : V → Option V
 | .ptr k off =>
  match st.cells? k with
  | some cs => if off + n ≤ cs.length then ofCells ag ((cs.drop off).take n) else none
  | none => none
 | .dptr ds => if n ≤ ds.length then ofCellsD ag (ds.take n) else none
 | _ => none
def opStore (st : St) (n : Nat) (a x : V) : Option St :=
 match a with
 | .ptr k off =>
  match st.get k with
  | some (.cells cs) =>
   if (cellsV x).length = n ∧ off + n ≤ cs.length ∧ (cellsV x).all V.isCell then some (st.set k (.cells (splice cs off (cellsV x)))) else none
  | _ => none
 | _ => none
def opFaddr (off : Nat) : V → Option V
 | .ptr k o => some (.ptr k (o + off))
 | .dptr ds => if off ≤ ds.length then some (.dptr (ds.drop off)) else none
 | _ => none
def z82 (off n : Nat) (ag : Bool) : V → Option V
 | .agg cs => if off + n ≤ cs.length then ofCells ag ((cs.drop off).take n) else none
 | .d (.agg ds) => if off + n ≤ ds.length then ofCellsD ag ((ds.drop off).take n) else none
 | _ => none
def z0a (es : Nat) (x : V) (i : Int) : Option V :=
 match x with
 | .arr k es' _ off len => if 0 ≤ i ∧ i < (len : Int) ∧ es' = es then some (.ptr k (off + i.toNat * es)) else none
 | .d (.sl l) => if 0 ≤ i then (match l[i.toNat]? with | some y => if (cellsD y).length = es then some (.dptr (cellsD y)) else none | none => none) else none
 | _ => none
def z1j (len es : Nat) (x : V) (i : Int) : Option V :=
 if 0 ≤ i ∧ i < (len : Int) then
  match x with
  | .ptr k off => some (.ptr k (off + i.toNat * es))
  | .dptr ds => if i.toNat * es ≤ ds.length then some (.dptr (ds.drop (i.toNat * es))) else none
  | _ => none
 else none
def z73 (len es : Nat) (ag : Bool) (x : V) (i : Int) : Option V :=
 if 0 ≤ i ∧ i < (len : Int) then z82 (i.toNat * es) es ag x else none
def z45 (s : List Nat) (i : Int) : Option V :=
 if 0 ≤ i then (match s[i.toNat]? with | some b => some (.d (.int .u8 (b : Int))) | none => none) else none
def z1s : List (D × V) → D → Option V
 | [], _ => none
 | (a, v) :: r, k => if D.beq a k then some v else z1s r k
def z22 : List (D × V) → D → V → List (D × V)
 | [], k, v => [(k, v)]
 | (a, u) :: r, k, v => if D.beq a k then (a, v) :: r else (a, u) :: z22 r k v
def z1w (st : St) (kt : Nat) (ag : Bool) (sh : List Kc) (ok : Bool) (zero : V) (m k : V) : Option V :=
 match k with
 | .d kd =>
  if z2g ag sh kd then
   match m with
   | .nilM => some (if ok then .tup [zero, .d (.bool false)] else zero)
   | .map j =>
    match st.get j with
    | some (.map kt' es) =>
     if kt' = kt then
      match z1s es kd with
      | some v => some (if ok then .tup [v, .d (.bool true)] else v)
      | none => some (if ok then .tup [zero, .d (.bool false)] else zero)
     else none
    | _ => none
   | _ => none
  else none
 | _ => none
def z54 (st : St) (kt : Nat) (ag : Bool) (sh : List Kc) (m k x : V) : Option St :=
 match k with
 | .d kd =>
  if z2g ag sh kd then
   match m with
   | .map j =>
    match st.get j with
    | some (.map kt' es) => if kt' = kt then some (st.set j (.map kt (z22 es kd x))) else none
    | _ => none
   | _ => none
  else none
 | _ => none
def opLen : Bool → V → Option Nat
 | true, .d (.str s) => some s.length
 | false, .d (.sl l) => some l.length
 | false, .nilS => some 0
 | false, .emp => some 0
 | false, .arr _ _ _ _ len => some len
 | _, _ => none
def z4k (st : St) : V → Option Nat
 | .nilM => some 0
 | .map k => match st.get k with
  | some (.map _ es) => some es.length
  | _ => none
 | _ => none
def rdSl (st : St) (es : Nat) : V → Option (List V × Nat)
 | .nilS => some ([], 0)
 | .emp => some ([], 0)
 | .d (.sl l) => if (l.flatMap cellsD).length = l.length * es then some ((l.flatMap cellsD).map V.d, l.length) else none
 | .arr k es' _ off len =>
  match st.cells? k with
  | some cs => if off + len * es ≤ cs.length ∧ es' = es then some ((cs.drop off).take (len * es), len) else none
  | none => none
 | _ => none
def z12 (st : St) (key es : Nat) (ag : Bool) (ebytes : Nat) (x y : V) : Option (V × St) :=
 match rdSl st es y with
 | none => none
 | some (ys, n) =>
  match x with
  | .nilS =>
   if n = 0 then some (.nilS, st) else
   if n * ebytes ≤ 70368744177664 ∧ n ≤ 70368744177664 ∧ ys.all V.isCell then some (.arr key es ag 0 n, st.ins key (.cells ys)) else none
  | .arr k es' ag' off len =>
   match st.get k with
   | some (.cells cs) =>
    if es' = es ∧ ag' = ag ∧ (len + n) * ebytes ≤ 70368744177664 ∧ len + n ≤ 70368744177664 ∧ ys.all V.isCell then
     if off = 0 ∧ len * es = cs.length then
      some (.arr key es ag 0 (len + n), (st.del k).ins key (.cells (cs ++ ys)))
     else if off + (len + n) * es ≤ cs.length then
      some (.arr key es ag off (len + n), (st.del k).ins key (.cells (splice cs (off + len * es) ys)))
     else if off + len * es = cs.length then
      some (.arr key es ag 0 (len + n), (st.del k).ins key (.cells (cs.drop off ++ ys)))
     else none
    else none
   | _ => none
  | _ => none
def z8l (st : St) (es : Nat) (x y : V) : Option (V × St) :=
 match rdSl st es y with
 | none => none
 | some (ys, n) =>
  match x with
  | .nilS => some (.d (.int .i64 0), st)
  | .emp => some (.d (.int .i64 0), st)
  | .arr k es' _ off len =>
   match st.get k with
   | some (.cells cs) =>
    if es' = es ∧ off + len * es ≤ cs.length ∧ ys.all V.isCell then
     some (.d (.int .i64 (Nat.min n len : Nat)), st.set k (.cells (splice cs off (ys.take (Nat.min n len * es)))))
    else none
   | _ => none
  | _ => none
def z74 (st : St) (es : Nat) (zero : List V) (x : V) : Option St :=
 match x with
 | .nilS => some st
 | .emp => some st
 | .d (.sl []) => some st
 | .arr k es' _ off len =>
  if len = 0 then some st else
  match st.get k with
  | some (.cells cs) =>
   if es' = es ∧ off + len * es ≤ cs.length ∧ zero.length = es ∧ zero.all V.isCell then
    some (st.set k (.cells (splice cs off (List.replicate len zero).flatten)))
   else none
  | _ => none
 | _ => none
def z49 (isMax : Bool) : List V → Option V
 | [] => none
 | [.d (.int k n)] => some (.d (.int k n))
 | .d (.int k n) :: .d (.int j m) :: r =>
  if k = j then z49 isMax (.d (.int k (if isMax then (if m > n then m else n) else (if m < n then m else n))) :: r) else none
 | _ => none
termination_by l => l.length
def zwx (es : Nat) : List D → Bool
 | [] => true
 | x :: _ => (cellsD x).length == es
def evalOp (base : Nat) (env : List V) (st : St) : IK → Option (V × St)
 | .mv x => some (evO env x, st)
 | .pick c a b => match evO env c with
  | .d (.bool t) => some (if t then evO env a else evO env b, st)
  | _ => none
 | .alloc ai zero => some (.ptr (base + ai) 0, st.ins (base + ai) (.cells zero))
 | .box ai x => if (cellsV (evO env x)).all V.isCell then some (.ptr (base + ai) 0, st.ins (base + ai) (.cells (cellsV (evO env x)))) else none
 | .build zero parts => match fillP zero (parts.map fun (o, s, x) => (o, s, evO env x)) with
  | some cs => some (mkAgg cs, st)
  | none => none
 | .mkSl ai es ag nofz zero len parts =>
  match (if nofz then some (parts.map fun (i, x) => (i, evO env x), st) else frzP env st parts) with
  | none => none
  | some (ps, st1) =>
   if len * es ≤ 16777216 ∧ zero.length = es then
    match fillP (List.replicate len zero).flatten (ps.map fun (i, v) => (i * es, es, v)) with
    | some cs => if cs.all V.isCell then some (.arr (base + ai) es ag 0 len, st1.ins (base + ai) (.cells cs)) else none
    | none => none
   else none
 | .load n ag a => match z1r st n ag (evO env a) with
  | some v => some (v, st)
  | none => none
 | .store n a x => match opStore st n (evO env a) (evO env x) with
  | some st' => some (.undef, st')
  | none => none
 | .nilck x => match evO env x with
  | .ptr k o => some (.ptr k o, st)
  | .dptr ds => some (.dptr ds, st)
  | .fn f a b => some (.fn f a b, st)
  | _ => none
 | .bin op x y => match binV op (evO env x) (evO env y) with
  | some v => some (v, st)
  | none => none
 | .eqB neg x y => match evO env x, evO env y with
  | .d (.bool a), .d (.bool b) => some (.d (.bool ((a == b) != neg)), st)
  | _, _ => none
 | .eqA neg sh x y => match evO env x, evO env y with
  | .d a, .d b => if z2g true sh a && z2g true sh b then some (.d (.bool (D.beq a b != neg)), st) else none
  | _, _ => none
 | .eqNil neg kd x => match zfs kd (evO env x) with
  | some b => some (.d (.bool (b != neg)), st)
  | none => none
 | .un op x => match unV op (evO env x) with
  | some v => some (v, st)
  | none => none
 | .convI k x => match asI (evO env x) with
  | some n => some (.d (.int k (k.wrap n)), st)
  | none => none
 | .convS x => match asI (evO env x) with
  | some n => if 0 ≤ n ∧ n < 128 then some (.d (.str [n.toNat]), st) else none
  | none => none
 | .mkf f first cap => some (.fn f (first.map (evO env)) (cap.map (evO env)), st)
 | .mkmap ai kt => some (.map (base + ai), st.ins (base + ai) (.map kt []))
 | .mkslice ai es ag ebytes zero len cap => match asI (evO env len), asI (evO env cap) with
  | some l, some c =>
   if 0 ≤ l ∧ l ≤ c ∧ c * ebytes ≤ 70368744177664 ∧ c ≤ 70368744177664 ∧ zero.length = es ∧ zero.all V.isCell then
    some (.arr (base + ai) es ag 0 l.toNat, st.ins (base + ai) (.cells (List.replicate c.toNat zero).flatten))
   else none
  | _, _ => none
 | .sliceS x lo hi => match evO env x with
  | .d (.str s) => match z3d (lo.map (evO env)) (hi.map (evO env)) s.length s.length with
   | some (l, h) => some (.d (.str ((s.drop l).take (h - l))), st)
   | none => none
  | _ => none
 | .sliceL es x lo hi => match evO env x with
  | .d (.sl l) => match z3d (lo.map (evO env)) (hi.map (evO env)) l.length l.length with
   | some (a, b) => if zwx es l then some (.d (.sl ((l.drop a).take (b - a))), st) else none
   | none => none
  | .nilS => match z3d (lo.map (evO env)) (hi.map (evO env)) 0 0 with
   | some _ => some (.nilS, st)
   | none => none
  | .emp => match z3d (lo.map (evO env)) (hi.map (evO env)) 0 0 with
   | some _ => some (.emp, st)
   | none => none
  | .arr k es' ag off len =>
   match st.cells? k with
   | some cs =>
    match z3d (lo.map (evO env)) (hi.map (evO env)) len (if es = 0 then len else (cs.length - off) / es) with
    | some (a, b) => if es' = es ∧ off + len * es ≤ cs.length then some (.arr k es ag (off + a * es) (b - a), st) else none
    | none => none
   | none => none
  | _ => none
 | .sliceA n es ag x lo hi => match evO env x with
  | .ptr k off =>
   match st.cells? k with
   | some cs =>
    match z3d (lo.map (evO env)) (hi.map (evO env)) n n with
    | some (a, b) => if off + n * es = cs.length then some (.arr k es ag (off + a * es) (b - a), st) else none
    | none => none
   | none => none
  | _ => none
 | .faddr off x => match opFaddr off (evO env x) with
  | some v => some (v, st)
  | none => none
 | .field off n ag x => match z82 off n ag (evO env x) with
  | some v => some (v, st)
  | none => none
 | .iaddrS es x i => match asI (evO env i) with
  | some i => match z0a es (evO env x) i with
   | some v => some (v, st)
   | none => none
  | none => none
 | .iaddrA len es x i => match asI (evO env i) with
  | some i => match z1j len es (evO env x) i with
   | some v => some (v, st)
   | none => none
  | none => none
 | .indexA len es ag x i => match asI (evO env i) with
  | some i => match z73 len es ag (evO env x) i with
   | some v => some (v, st)
   | none => none
  | none => none
 | .indexS x i => match evO env x, asI (evO env i) with
  | .d (.str s), some i => match z45 s i with
   | some v => some (v, st)
   | none => none
  | _, _ => none
 | .lookup kt ag sh ok zero m k => match z1w st kt ag sh ok zero (evO env m) (evO env k) with
  | some v => some (v, st)
  | none => none
 | .mapUpd kt ag sh m k x => match z54 st kt ag sh (evO env m) (evO env k) (evO env x) with
  | some st' => some (.undef, st')
  | none => none
 | .ext i x => match evO env x with
  | .tup vs => match vs[i]? with
   | some v => some (v, st)
   | none => none
  | _ => none
 | .len s x => match opLen s (evO env x) with
  | some n => some (.d (.int .i64 (n : Nat)), st)
  | none => none
 | .lenM x => match z4k st (evO env x) with
  | some n => some (.d (.int .i64 (n : Nat)), st)
  | none => none
 | .lenK n => some (.d (.int .i64 (n : Nat)), st)
 | .capK x => match evO env x with
  | .nilS => some (.d (.int .i64 0), st)
  | _ => none
 | .append ai es ag ebytes x y => z12 st (base + ai) es ag ebytes (evO env x) (evO env y)
 | .copy es x y => z8l st es (evO env x) (evO env y)
 | .clearS es zero x => match z74 st es zero (evO env x) with
  | some st' => some (.undef, st')
  | none => none
 | .mm isMax xs => match z49 isMax (xs.map (evO env)) with
  | some v => some (v, st)
  | none => none
 | .rangeS ai x => match evO env x with
  | .d (.str s) => some (.ptr (base + ai) 0, st.ins (base + ai) (.iter s 0))
  | _ => none
 | .nextS x => match evO env x with
  | .ptr k 0 => match st.get k with
   | some (.iter s pos) =>
    match s[pos]? with
    | none => some (.tup [.d (.bool false)], st)
    | some b => if b < 128 then some (.tup [.d (.bool true), .d (.int .i64 (pos : Nat)), .d (.int .i32 (b : Nat))], st.set k (.iter s (pos + 1))) else none
   | _ => none
  | _ => none
 | .call _ _ => none
 | .bad => none
def kept (env : List V) (a b : St) : List Nat → Bool
 | [] => true
 | t :: r =>
  (match env.getD t .undef with
   | .ptr k _ => match a.get k, b.get k with
    | some o, some p => Obj.beq o p
    | _, _ => false
   | .map k => match a.get k, b.get k with
    | some o, some p => Obj.beq o p
    | _, _ => false
   | .arr k _ _ _ _ => match a.get k, b.get k with
    | some o, some p => Obj.beq o p
    | _, _ => false
   | _ => true) && kept env a b r
def wantedE (env : List V) : Option (Nat × Bool) → Bool
 | none => true
 | some (t, want) => match env.getD t .undef with
  | .d (.bool b) => b == want
  | _ => false
abbrev z11 := V → List V → St → Option (V × St)
def calV (env : List V) : Cal → V
 | .f n => .fn n [] []
 | .o x => evO env x
def evalIOp (call : z11) (base : Nat) (env : List V) (st : St) (o : IOp) : Option (V × St) :=
 match o.op with
 | .call f args => call (calV env f) (args.map (evO env)) st
 | op => evalOp base env st op
def z0k (call : z11) (base : Nat) : List IOp → List V → St → Option (List V × St)
 | [], env, st => some (env, st)
 | o :: r, env, st =>
  if wantedE env o.gd then
   match evalIOp call base env st o with
   | none => none
   | some (v, st') => if kept env st st' o.keep then z0k call base r (setE env o.dst v) st' else none
  else z0k call base r (setE env o.dst .undef) st
def z9u (env : List V) : List Nat → List V → Option (List V)
 | [], [] => some env
 | p :: ps, v :: vs => z9u (env.set p v) ps vs
 | _, _ => none
def rounds (f : List V → St → Option (Ex × List V × St)) : Nat → List V → St → Option (Ex × List V × St)
 | 0, _, _ => none
 | n + 1, env, st =>
  match f env st with
  | some (.nrm, env', st') => rounds f n env' st'
  | r => r
def okRd (st : St) : Option Nat → Bool
 | none => true
 | some k => match st.get k with
  | some (.loop _ _ _ _ _ _) => true
  | _ => false
def z18 (call : z11) (n : Nat) (rd : Option Nat) : IC → List V → St → Option (Ex × List V × St)
 | .skip, env, st => some (.nrm, env, st)
 | .reg na ops, env, st =>
  match z0k call st.next ops env { st with next := st.next + na } with
  | some (env', st') => some (.nrm, env', st')
  | none => none
 | .seq a b, env, st =>
  match z18 call n rd a env st with
  | some (.nrm, env', st') => z18 call n rd b env' st'
  | r => r
 | .cond c a b, env, st =>
  match evO env c with
  | .d (.bool t) => if t then z18 call n rd a env st else z18 call n rd b env st
  | _ => none
 | .block id b, env, st =>
  match z18 call n rd b env st with
  | some (.brk j, env', st') => some (if j = id then .nrm else .brk j, env', st')
  | r => r
 | .loop b, env, st => rounds (z18 call n rd b) n env st
 | .exit id, env, st => some (.brk id, env, st)
 | .ret, env, st => some (.ret, env, st)
 | .bad, _, _ => none
 | .rf f ps asg body, env, st =>
  if okRd st rd then
   match evO env f with
   | .fn fn first cap =>
    match call (.fn fn first cap) [.yld st.next] { s := (st.next, .loop env ps asg body .ready none) :: st.s, next := st.next + 1, low := st.low } with
    | none => none
    | some (_, st') =>
     match st'.get st.next with
     | some (.loop _ _ _ _ ls pend) =>
      match ls with
      | .busy => none
      | _ =>
       match pend with
       | none => some (.nrm, env, st'.del st.next)
       | some x => some (x, env, st'.del st.next)
     | _ => none
   | _ => none
  else none
def resV (st : St) (env : List V) : IR → Option V
 | .t n => some (env.getD n .undef)
 | .cell t n ag => z1r st n ag (env.getD t .undef)
def z28 (st : St) (env : List V) : List IR → Option (List V)
 | [] => some []
 | r :: rs => match resV st env r with
  | none => none
  | some v => match z28 st env rs with
   | none => none
   | some vs => some (v :: vs)
def tupV : List V → V
 | [v] => v
 | vs => .tup vs
def z0p (s : List (Nat × Obj)) (b : Nat) : List V → Option (List D)
 | [] => some []
 | v :: r => match snap s b z09 v with
  | none => none
  | some x => (z0p s b r).map (x :: ·)
def z3g (call : z11) (n : Nat) (F : IFun) (args : List V) (st : St) : Option (List V × St) :=
 match z18 call n none F.body (args ++ List.replicate (F.nt - args.length) .undef) st with
 | some (.brk _, _, _) => none
 | some (_, env', st') => match z28 st' env' F.res with
  | some vs => some (vs, st')
  | none => none
 | none => none
def outV (s : List (Nat × Obj)) (b : Nat) (v : V) : Option V :=
 if v.under b then some v else (snap s b z09 v).map V.d
def z6b (s : List (Nat × Obj)) (b : Nat) : List V → Option (List V)
 | [] => some []
 | v :: r => match outV s b v with
  | none => none
  | some x => (z6b s b r).map (x :: ·)
def z3j (call : z11) (n : Nat) (k : Nat) (args : List V) (st : St) : Option (V × St) :=
 match st.get k with
 | some (.loop env ps asg body .ready none) =>
  match z9u env ps args with
  | none => none
  | some env1 =>
   match z18 call n (some k) asg env1 st with
   | some (.nrm, env2, st2) =>
    match st2.get k with
    | some (.loop e2 p2 a2 b2 .ready none) =>
     match z18 call n (some k) body env2 (st2.set k (.loop e2 p2 a2 b2 .busy none)) with
     | some (x, _, st3) =>
      match st3.get k with
      | some (.loop e3 p3 a3 b3 .busy none) =>
       match x with
       | .nrm => some (.d (.bool true), st3.set k (.loop e3 p3 a3 b3 .ready none))
       | x => some (.d (.bool false), st3.set k (.loop e3 p3 a3 b3 .done (some x)))
      | _ => none
     | none => none
    | _ => none
   | _ => none
 | _ => none
def zjw : List V → Bool
 | [.d (.sl [])] => true
 | _ => false
def call (G : Nat → Option IFun) : Nat → z11
 | 0, _, _, _ => none
 | n + 1, .fn f first cap, args, st =>
  match G f with
  | none => none
  | some F =>
   if F.nil2 && zjw (first ++ args ++ cap) then
    match z3g (call G n) n F [.nilS] { s := [], next := 0, low := 0 }, z3g (call G n) n F [.emp] { s := [], next := 0, low := 0 } with
    | some (vs1, st1), some (vs2, st2) =>
     match z0p st1.s 0 vs1, z0p st2.s 0 vs2 with
     | some rs1, some rs2 => if rs1.all D.flat && D.beqL rs1 rs2 then some (tupV (rs1.map V.d), st) else none
     | _, _ => none
    | _, _ => none
   else
   if F.pure then
    match z0p st.s 0 (first ++ args ++ cap) with
    | none => none
    | some ds =>
     match z3g (call G n) n F (ds.map V.d) { s := [], next := 0, low := 0 } with
     | none => none
     | some (vs, st1) =>
      match z0p st1.s 0 vs with
      | none => none
      | some rs =>
       if rs.all D.flat then some (tupV (rs.map V.d), st) else
       match frzL (frz z09) st (first ++ args ++ cap) with
       | none => none
       | some (ys, st2) =>
        match z0p [] 0 ys with
        | none => none
        | some es => if D.beqL es ds then some (tupV (rs.map V.d), st2) else none
   else
    match z3g (call G n) n F (first ++ args ++ cap) { s := st.s, next := st.next, low := st.next } with
    | none => none
    | some (vs, st1) =>
     if F.pop && decide (st.next ≤ st1.low) then
      match z6b st1.s st.next vs with
      | none => none
      | some us => some (tupV us, st)
     else some (tupV vs, { s := st1.s, next := st1.next, low := Nat.min st.low st1.low })
 | n + 1, .yld k, args, st => z3j (call G n) n k args st
 | _ + 1, _, _, _ => none
end Go.Lift
namespace Go.Lift
open Go
def optL {α : Type} : Option α → List α
 | none => []
 | some x => [x]
def z0q : IK → List Opd
 | .mv x => [x]
 | .pick c a b => [c, a, b]
 | .alloc _ _ => []
 | .box _ x => [x]
 | .build _ parts => parts.map fun p => p.2.2
 | .mkSl _ _ _ _ _ _ parts => parts.map Prod.snd
 | .load _ _ a => [a]
 | .store _ a x => [a, x]
 | .nilck x => [x]
 | .bin _ x y => [x, y]
 | .eqB _ x y => [x, y]
 | .eqA _ _ x y => [x, y]
 | .eqNil _ _ x => [x]
 | .un _ x => [x]
 | .convI _ x => [x]
 | .convS x => [x]
 | .mkf _ first cap => first ++ cap
 | .mkmap _ _ => []
 | .mkslice _ _ _ _ _ len cap => [len, cap]
 | .sliceS x lo hi => x :: (optL lo ++ optL hi)
 | .sliceL _ x lo hi => x :: (optL lo ++ optL hi)
 | .sliceA _ _ _ x lo hi => x :: (optL lo ++ optL hi)
 | .faddr _ x => [x]
 | .field _ _ _ x => [x]
 | .iaddrS _ x i => [x, i]
 | .iaddrA _ _ x i => [x, i]
 | .indexA _ _ _ x i => [x, i]
 | .indexS x i => [x, i]
 | .lookup _ _ _ _ _ m k => [m, k]
 | .mapUpd _ _ _ m k x => [m, k, x]
 | .ext _ x => [x]
 | .len _ x => [x]
 | .lenM x => [x]
 | .lenK _ => []
 | .capK x => [x]
 | .append _ _ _ _ x y => [x, y]
 | .copy _ x y => [x, y]
 | .clearS _ _ x => [x]
 | .mm _ xs => xs
 | .rangeS _ x => [x]
 | .nextS x => [x]
 | .call f args => match f with
  | .f _ => args
  | .o x => x :: args
 | .bad => []
def Agree (env env' : List V) (l : List Opd) : Prop := ∀ x ∈ l, evO env x = evO env' x
theorem Agree.map {env env' : List V} {l : List Opd} (h : Agree env env' l) : l.map (evO env) = l.map (evO env') := List.map_congr_left h
theorem Agree.opt {env env' : List V} {x : Option Opd} (h : Agree env env' (optL x)) : x.map (evO env) = x.map (evO env') := by
 cases x with
 | none => rfl
 | some x => simp only [Option.map_some]; rw [h x (by simp [optL])]
theorem zcb {env env' : List V} : ∀ {ps : List (Nat × Opd)} {st : St}, Agree env env' (ps.map Prod.snd) → frzP env st ps = frzP env' st ps
 | [], _, _ => rfl
 | (i, x) :: ps, st, h => by
  have hx := h x (by simp)
  have hr : Agree env env' (ps.map Prod.snd) := fun y hy => h y (by simp at hy ⊢; exact .inr hy)
  simp only [frzP, hx]
  split
  ·rfl
  ·rw [zcb hr]
theorem zg0 {env env' : List V} {base : Nat} {st : St} (k : IK) (h : Agree env env' (z0q k)) : evalOp base env st k = evalOp base env' st k := by
 cases k with
 | build z parts =>
  have : parts.map (fun (o, s, x) => (o, s, evO env x)) = parts.map (fun (o, s, x) => (o, s, evO env' x)) := List.map_congr_left fun p hp => by
   have := h p.2.2 (List.mem_map.2 ⟨p, hp, rfl⟩)
   obtain ⟨o, s, x⟩ := p
   simp only at this ⊢
   rw [this]
  simp only [evalOp, this]
 | mkSl ai es ag nofz z len parts =>
  have h1 : parts.map (fun (i, x) => (i, evO env x)) = parts.map (fun (i, x) => (i, evO env' x)) := List.map_congr_left fun p hp => by
   have := h p.2 (List.mem_map.2 ⟨p, hp, rfl⟩)
   obtain ⟨o, x⟩ := p
   simp only at this ⊢
   rw [this]
  have h2 := zcb (st := st) h
  simp only [evalOp, h1, h2]
 | mkf f first cap =>
  have h1 : Agree env env' first := fun x hx => h x (by simp [z0q, hx])
  have h2 : Agree env env' cap := fun x hx => h x (by simp [z0q, hx])
  simp only [evalOp, h1.map, h2.map]
 | mm isMax xs =>
  have h1 : Agree env env' xs := h
  simp only [evalOp, h1.map]
 | sliceS x lo hi =>
  have h0 := h x (by simp [z0q])
  have h1 : Agree env env' (optL lo) := fun y hy => h y (by simp [z0q, hy])
  have h2 : Agree env env' (optL hi) := fun y hy => h y (by simp [z0q, hy])
  simp only [evalOp, h0, h1.opt, h2.opt]
 | sliceL es x lo hi =>
  have h0 := h x (by simp [z0q])
  have h1 : Agree env env' (optL lo) := fun y hy => h y (by simp [z0q, hy])
  have h2 : Agree env env' (optL hi) := fun y hy => h y (by simp [z0q, hy])
  simp only [evalOp, h0, h1.opt, h2.opt]
 | sliceA n es ag x lo hi =>
  have h0 := h x (by simp [z0q])
  have h1 : Agree env env' (optL lo) := fun y hy => h y (by simp [z0q, hy])
  have h2 : Agree env env' (optL hi) := fun y hy => h y (by simp [z0q, hy])
  simp only [evalOp, h0, h1.opt, h2.opt]
 | alloc ai z => rfl
 | mkmap ai kt => rfl
 | lenK n => rfl
 | call f args => rfl
 | bad => rfl
 | mv x => simp only [evalOp, h x (by simp [z0q])]
 | box ai x => simp only [evalOp, h x (by simp [z0q])]
 | nilck x => simp only [evalOp, h x (by simp [z0q])]
 | eqNil n k x => simp only [evalOp, h x (by simp [z0q])]
 | un o x => simp only [evalOp, h x (by simp [z0q])]
 | convI k x => simp only [evalOp, h x (by simp [z0q])]
 | convS x => simp only [evalOp, h x (by simp [z0q])]
 | load n ag x => simp only [evalOp, h x (by simp [z0q])]
 | faddr o x => simp only [evalOp, h x (by simp [z0q])]
 | field o n ag x => simp only [evalOp, h x (by simp [z0q])]
 | ext i x => simp only [evalOp, h x (by simp [z0q])]
 | len s x => simp only [evalOp, h x (by simp [z0q])]
 | lenM x => simp only [evalOp, h x (by simp [z0q])]
 | capK x => simp only [evalOp, h x (by simp [z0q])]
 | clearS es z x => simp only [evalOp, h x (by simp [z0q])]
 | rangeS ai x => simp only [evalOp, h x (by simp [z0q])]
 | nextS x => simp only [evalOp, h x (by simp [z0q])]
 | store n x y => simp only [evalOp, h x (by simp [z0q]), h y (by simp [z0q])]
 | bin o x y => simp only [evalOp, h x (by simp [z0q]), h y (by simp [z0q])]
 | eqB n x y => simp only [evalOp, h x (by simp [z0q]), h y (by simp [z0q])]
 | eqA n s x y => simp only [evalOp, h x (by simp [z0q]), h y (by simp [z0q])]
 | mkslice ai es ag eb z x y => simp only [evalOp, h x (by simp [z0q]), h y (by simp [z0q])]
 | iaddrS es x y => simp only [evalOp, h x (by simp [z0q]), h y (by simp [z0q])]
 | iaddrA l es x y => simp only [evalOp, h x (by simp [z0q]), h y (by simp [z0q])]
 | indexA l es ag x y => simp only [evalOp, h x (by simp [z0q]), h y (by simp [z0q])]
 | indexS x y => simp only [evalOp, h x (by simp [z0q]), h y (by simp [z0q])]
 | lookup kt ag sh ok z x y => simp only [evalOp, h x (by simp [z0q]), h y (by simp [z0q])]
 | append ai es ag eb x y => simp only [evalOp, h x (by simp [z0q]), h y (by simp [z0q])]
 | copy es x y => simp only [evalOp, h x (by simp [z0q]), h y (by simp [z0q])]
 | pick x y z => simp only [evalOp, h x (by simp [z0q]), h y (by simp [z0q]), h z (by simp [z0q])]
 | mapUpd kt ag sh x y z => simp only [evalOp, h x (by simp [z0q]), h y (by simp [z0q]), h z (by simp [z0q])]
theorem zmk {env env' : List V} {f : Cal} {args : List Opd} (h : Agree env env' (z0q (.call f args))) : calV env f = calV env' f ∧ args.map (evO env) = args.map (evO env') := by
 cases f with
 | f n => exact ⟨rfl, Agree.map h⟩
 | o x =>
  refine ⟨h x (by simp [z0q]), Agree.map fun y hy => h y (by simp [z0q, hy])⟩
theorem z7n {cl : z11} {env env' : List V} {base : Nat} {st : St} (o : IOp) (h : Agree env env' (z0q o.op)) : evalIOp cl base env st o = evalIOp cl base env' st o := by
 unfold evalIOp
 split
 ·rename_i f args e
  rw [e] at h
  obtain ⟨h1, h2⟩ := zmk h
  rw [h1, h2]
 ·exact zg0 _ h
def z6g (o : IOp) : List Nat :=
 (z0q o.op).filterMap (fun | .t n => some n | .c _ => none) ++ (match o.gd with | some (t, _) => [t] | none => [])
def looks (o : IOp) : List Nat := z6g o ++ o.keep
theorem zsd {env : List V} {l : List Opd} {dst : Option Nat} {v : V} (h : ∀ d, dst = some d → d ∉ l.filterMap (fun | .t n => some n | .c _ => none)) : Agree (setE env dst v) env l := by
 intro x hx
 cases dst with
 | none => rfl
 | some d =>
  cases x with
  | c v => rfl
  | t n =>
   have hne : d ≠ n := fun e => h d rfl (List.mem_filterMap.2 ⟨.t n, hx, by simp [e]⟩)
   simp only [evO, setE, List.getD, List.getElem?_set, hne, if_false]
theorem zla {env : List V} {gd : Option (Nat × Bool)} {dst : Option Nat} {v : V} (h : ∀ d, dst = some d → ∀ t w, gd = some (t, w) → d ≠ t) : wantedE (setE env dst v) gd = wantedE env gd := by
 cases gd with
 | none => rfl
 | some p =>
  obtain ⟨t, w⟩ := p
  cases dst with
  | none => rfl
  | some d =>
   have hne := h d rfl t w rfl
   simp only [wantedE, setE, List.getD, List.getElem?_set, hne, if_false]
theorem zjs {env : List V} {a b : St} {dst : Option Nat} {v : V} : ∀ {ks : List Nat}, (∀ d, dst = some d → d ∉ ks) → kept (setE env dst v) a b ks = kept env a b ks
 | [], _ => rfl
 | t :: ks, h => by
  have hg : (setE env dst v).getD t .undef = env.getD t .undef := by
   cases dst with
   | none => rfl
   | some d =>
    have hne : d ≠ t := fun e => h d rfl (by simp [e])
    simp only [setE, List.getD, List.getElem?_set, hne, if_false]
  simp only [kept, hg]
  rw [zjs fun d hd hm => h d hd (by simp [hm])]
theorem znz {env : List V} {d e : Option Nat} {v u : V} (h : ∀ x, d = some x → e ≠ some x) : setE (setE env d v) e u = setE (setE env e u) d v := by
 cases d with
 | none => rfl
 | some x =>
  cases e with
  | none => rfl
  | some y =>
   have hne : x ≠ y := fun e => h x rfl (by rw [e])
   simp only [setE]
   exact List.set_comm _ _ hne
end Go.Lift
namespace Go.Lift
open Go
def cvC : Value → Option V
 | .bool b => some (.d (.bool b))
 | .int k n => some (.d (.int k n))
 | .string s => some (.d (.str (s.data.toList.map UInt8.toNat)))
 | .pointer none => some .nilP
 | .slice none 0 0 => some .nilS
 | .map none => some .nilM
 | .nilFunc => some .nilF
 | _ => none
def mapO {α β : Type} (f : α → Option β) : List α → Option (List β)
 | [] => some []
 | x :: r => match f x with
  | none => none
  | some y => match mapO f r with
   | none => none
   | some ys => some (y :: ys)
def z8h (P : Program) (t : TypeId) : Option (List V) :=
 match P.info? t with
 | some i => match i.zero with
  | some z => mapO cvC z.cells.toList
  | none => none
 | none => none
def zval (P : Program) (t : TypeId) : Option V :=
 match P.info? t with
 | some i => match i.zero with
  | some (.agg cs) => (mapO cvC cs.toList).map mkAgg
  | some z => cvC z
  | none => none
 | none => none
def z4b (P : Program) (t : TypeId) : Option Nat := (P.info? t).map (·.size)
def zni (P : Program) (t : TypeId) : Option Nat := (P.info? t).map (·.bytes)
def tagg (P : Program) (t : TypeId) : Option Bool :=
 match P.underlying t with
 | some (.struct _) => some true
 | some (.array _ _) => some true
 | some _ => some false
 | none => none
def zbi (P : Program) (t : TypeId) : Option TypeId :=
 match P.underlying t with
 | some (.slice e) => some e
 | _ => none
mutual
def zdv (P : Program) : Nat → TypeId → Option (List Kc)
 | 0, _ => none
 | n + 1, t =>
  match P.underlying t with
  | some (.int k) => some [.i k]
  | some .bool => some [.b]
  | some .string => some [.s]
  | some (.struct fs) => zfy P n 0 fs.toList
  | some (.array m e) => match zdv P n e with
   | some l => if P.cellsOf e = l.length then some (List.replicate m l).flatten else none
   | none => none
  | _ => none
def zfy (P : Program) : Nat → Nat → List Field → Option (List Kc)
 | 0, _, _ => none
 | _ + 1, _, [] => some []
 | n + 1, off, f :: fs =>
  match zdv P n f.type with
  | some l => if f.name != "_" && f.offset == off && P.cellsOf f.type == l.length then (match zfy P n (off + l.length) fs with
   | some m => some (l ++ m)
   | none => none) else none
  | none => none
end
def z2d : Nat := 24
def keyT (P : Program) (t : TypeId) : Option (Bool × List Kc) :=
 match tagg P t, zdv P z2d t with
 | some g, some l => if P.keyType t && P.keyTypeAt z2d t && P.tiled z2d t && decide (P.cellsOf t = l.length) then some (g, l) else none
 | _, _ => none
def cOpd : Operand → Option Opd
 | .tmp t => some (.t t)
 | .const v => (cvC v).map Opd.c
 | .func f => some (.c (.fn f [] []))
 | .global _ => none
def zec (l : List Operand) : Option (List Opd) := mapO cOpd l
def cOpt : Option Operand → Option (Option Opd)
 | none => some none
 | some x => (cOpd x).map some
def z85 : Operand → Option Nat
 | .const (.slice none 0 0) => some 0
 | .const (.map none) => some 1
 | .const .nilFunc => some 2
 | .const (.pointer none) => some 3
 | _ => none
def fieldAt? (P : Program) (t : TypeId) (i : Nat) : Option (Nat × Nat × TypeId) :=
 match P.underlying t with
 | some (.struct fs) => match fs[i]? with
  | some f => match z4b P f.type with
   | some n => some (f.offset, n, f.type)
   | none => none
  | none => none
 | _ => none
def z9g (P : Program) (fs : Array Field) : Bool := fs.toList.all fun f => (z4b P f.type).isSome
def zry (P : Program) (t : TypeId) : Bool :=
 match P.underlying t with
 | some (.struct fs) => z9g P fs
 | some (.array _ e) => (z4b P e).isSome
 | _ => false
def zcm (P : Program) (t : TypeId) : List (Nat × Operand) → Option (List (Nat × Nat × Opd))
 | [] => some []
 | (i, x) :: r =>
  match P.underlying t, cOpd x, zcm P t r with
  | some (.struct fs), some y, some ys =>
   if z9g P fs then match fieldAt? P t i with
    | some (off, n, _) => some ((off, n, y) :: ys)
    | none => none
   else none
  | some (.array _ e), some y, some ys => match z4b P e with
   | some n => some ((i * n, n, y) :: ys)
   | none => none
  | _, _, _ => none
def cIxs : List (Nat × Operand) → Option (List (Nat × Opd))
 | [] => some []
 | (i, x) :: r => match cOpd x, cIxs r with
  | some y, some ys => some ((i, y) :: ys)
  | _, _ => none
def y2b (P : Program) (t : TypeId) : Bool :=
 match P.underlying t with
 | some (.int _) => true
 | some .string => true
 | _ => false
def z8a (P : Program) (t : TypeId) : Bool :=
 match P.underlying t with
 | some .bool => true
 | _ => false
def zgz (P : Program) (t : TypeId) : Option Nat :=
 match P.underlying t with
 | some (.slice _) => some 0
 | some (.map _ _) => some 1
 | some (.func _ _ _) => some 2
 | some (.pointer _) => some 3
 | _ => none
def cNil (P : Program) (neg : Bool) (t : TypeId) (x y : Operand) (a b : Opd) : Option IK :=
 match zgz P t with
 | none => none
 | some k => if z85 y = some k then some (.eqNil neg k a) else if z85 x = some k then some (.eqNil neg k b) else none
def cBin (P : Program) (op : BinOp) (t : TypeId) (x y : Operand) : Option IK :=
 match cOpd x, cOpd y with
 | some a, some b =>
  if y2b P t then some (.bin op a b) else
  match op with
  | .eql =>
   match keyT P t with
   | some (true, sh) => if P.eqGuardType P.depth t then none else some (.eqA false sh a b)
   | _ => if z8a P t then some (.eqB false a b)
   else cNil P false t x y a b
  | .neq =>
   match keyT P t with
   | some (true, sh) => if P.eqGuardType P.depth t then none else some (.eqA true sh a b)
   | _ => if z8a P t then some (.eqB true a b)
   else cNil P true t x y a b
  | _ => none
 | _, _ => none
def z41 (P : Program) (e : TypeId) : Option (Nat × Bool × Nat × List V) :=
 match z4b P e, tagg P e, zni P e, z8h P e with
 | some n, some a, some b, some z => if 0 < n ∧ z.length = n ∧ b ≤ 65536 then some (n, a, b, z) else none
 | _, _, _, _ => none
def zgd (P : Program) (ai : Nat) (c : Call) : Option IK :=
 match c.callee with
 | .value f => match f, zec c.args.toList with
  | .func g, some xs => some (.call (.f g) xs)
  | f, some xs => (cOpd f).map fun y => .call (.o y) xs
  | _, none => none
 | .invoke _ _ => none
 | .builtin b =>
  match b, c.argTypes.toList, c.args.toList with
  | .len, [t], [x] =>
   match P.underlying t with
   | some (.array n _) => some (.lenK n)
   | some (.pointer p) => match P.underlying p with
    | some (.array n _) => some (.lenK n)
    | _ => none
   | some .string => (cOpd x).map (.len true)
   | some (.slice _) => (cOpd x).map (.len false)
   | some (.map _ _) => (cOpd x).map .lenM
   | _ => none
  | .cap, [t], [x] => match P.underlying t with
   | some (.slice _) => (cOpd x).map .capK
   | _ => none
  | .append, [t, u], [x, y] =>
   match P.underlying u with
   | some (.slice _) => match zbi P t with
    | some e => match z41 P e, cOpd x, cOpd y with
     | some (n, a, b, _), some p, some q => some (.append ai n a b p q)
     | _, _, _ => none
    | none => none
   | _ => none
  | .copy, [t, u], [x, y] =>
   match P.underlying u with
   | some (.slice _) => match zbi P t with
    | some e => match z41 P e, cOpd x, cOpd y with
     | some (n, _, _, _), some p, some q => some (.copy n p q)
     | _, _, _ => none
    | none => none
   | _ => none
  | .clear, [t], [x] => match zbi P t with
   | some e => match z41 P e, cOpd x with
    | some (n, _, _, z), some p => some (.clearS n z p)
    | _, _ => none
   | none => none
  | .max, _, xs => (zec xs).map (.mm true)
  | .min, _, xs => (zec xs).map (.mm false)
  | _, _, _ => none
def cOp? (P : Program) (ai : Nat) (o : Oper) : Option IK :=
 match o.op with
  | .move x => (cOpd x).map .mv
  | .assign x => (cOpd x).map .mv
  | .pick c a b => match cOpd c, cOpd a, cOpd b with
   | some c, some a, some b => some (.pick c a b)
   | _, _, _ => none
  | .alloc t => (z8h P t).map (.alloc ai)
  | .box _ x => (cOpd x).map (.box ai)
  | .build t parts => match z8h P t, zcm P t parts.toList with
   | some z, some ps => if zry P t then some (.build z ps) else none
   | _, _ => none
  | .buildSlice t len parts => match zbi P t with
   | some e => match z41 P e, cIxs parts.toList with
    | some (n, a, _, z), some ps => some (.mkSl ai n a false z len ps)
    | _, _ => none
   | none => none
  | .load t a => match z4b P t, tagg P t, cOpd a with
   | some n, some g, some x => if g || n == 1 then some (.load n g x) else none
   | _, _, _ => none
  | .store t a x => match z4b P t, cOpd a, cOpd x with
   | some n, some a, some x => some (.store n a x)
   | _, _, _ => none
  | .nilCheck x => (cOpd x).map .nilck
  | .binOp op t x y _ => cBin P op t x y
  | .unOp op _ x => (cOpd x).map (.un op)
  | .convert s d x => match P.underlying s, P.underlying d, cOpd x with
   | some (.int _), some (.int k), some y => some (.convI k y)
   | some (.int _), some .string, some y => some (.convS y)
   | _, _, _ => none
  | .makeFunc (.func f) first captured => match zec first.toList, zec captured.toList with
   | some a, some c => some (.mkf f a c)
   | _, _ => none
  | .makeMap t none => match P.underlying t with
   | some (.map k _) => some (.mkmap ai k)
   | _ => none
  | .makeSlice t l c => match zbi P t with
   | some e => match z41 P e, cOpd l, cOpd c with
    | some (n, a, b, z), some l, some c => some (.mkslice ai n a b z l c)
    | _, _, _ => none
   | none => none
  | .slice t x lo hi none => match cOpd x, cOpt lo, cOpt hi with
   | some x, some lo, some hi =>
    match P.underlying t with
    | some .string => some (.sliceS x lo hi)
    | some (.slice e) => match z41 P e with
     | some (n, _, _, _) => some (.sliceL n x lo hi)
     | none => none
    | some (.array k e) => match z41 P e with
     | some (n, a, _, _) => some (.sliceA k n a x lo hi)
     | none => none
    | _ => none
   | _, _, _ => none
  | .fieldAddr t x i => match fieldAt? P t i, cOpd x with
   | some (off, n, _), some x => if 0 < n then some (.faddr off x) else none
   | _, _ => none
  | .field t x i => match fieldAt? P t i, cOpd x with
   | some (off, n, u), some x => match tagg P u with
    | some g => if g || n == 1 then some (.field off n g x) else none
    | none => none
   | _, _ => none
  | .indexAddr t x i => match cOpd x, cOpd i with
   | some x, some i =>
    match P.underlying t with
    | some (.array k e) => match z41 P e with
     | some (n, _, _, _) => some (.iaddrA k n x i)
     | none => none
    | some (.slice e) => match z41 P e with
     | some (n, _, _, _) => some (.iaddrS n x i)
     | none => none
    | _ => none
   | _, _ => none
  | .index t x i => match cOpd x, cOpd i with
   | some x, some i =>
    match P.underlying t with
    | some (.array k e) => match z41 P e with
     | some (n, g, _, _) => if g || n == 1 then some (.indexA k n g x i) else none
     | none => none
    | some .string => some (.indexS x i)
    | _ => none
   | _, _ => none
  | .lookup t x i ok => match P.underlying t, cOpd x, cOpd i with
   | some (.map k e), some x, some i =>
    match keyT P k with
    | some (ga, sh) =>
     match zval P e with
     | some zv => some (.lookup k ga sh ok zv x i)
     | none => none
    | none => none
   | _, _, _ => none
  | .mapUpdate t m k x => match P.underlying t, cOpd m, cOpd k, cOpd x with
   | some (.map kt _), some m, some k, some x => match keyT P kt with
    | some (ga, sh) => some (.mapUpd kt ga sh m k x)
    | none => none
   | _, _, _, _ => none
  | .insert t m k x => match P.underlying t, cOpd m, cOpd k, cOpd x with
   | some (.map kt _), some m, some k, some x => match keyT P kt with
    | some (ga, sh) => some (.mapUpd kt ga sh m k x)
    | none => none
   | _, _, _, _ => none
  | .range t x => match P.underlying t, cOpd x with
   | some .string, some x => some (.rangeS ai x)
   | _, _ => none
  | .next x true => (cOpd x).map .nextS
  | .extract x i => (cOpd x).map (.ext i)
  | .call c => zgd P ai c
  | _ => none
def cOp (P : Program) (ai : Nat) (o : Oper) : IK := (cOp? P ai o).getD .bad
inductive Cls where
 | p | r | e | a
 deriving DecidableEq
def z1h : IK → Cls
 | .alloc _ _ => .a
 | .box _ _ => .a
 | .mkSl _ _ _ _ _ _ _ => .a
 | .mkmap _ _ => .a
 | .mkslice _ _ _ _ _ _ _ => .a
 | .rangeS _ _ => .a
 | .load _ _ _ => .r
 | .lookup _ _ _ _ _ _ _ => .r
 | .sliceL _ _ _ _ => .r
 | .sliceA _ _ _ _ _ _ => .r
 | .lenM _ => .r
 | .store _ _ _ => .e
 | .mapUpd _ _ _ _ _ _ => .e
 | .append _ _ _ _ _ _ => .e
 | .copy _ _ _ => .e
 | .clearS _ _ _ => .e
 | .nextS _ => .e
 | .call _ _ => .e
 | .bad => .e
 | _ => .p
def ze0 (o : Oper) : List Nat := (o.after.toList.filter fun e => Region.binds .any e).map (·.on)
def zxo : List Nat → List Nat → List Nat
 | [], acc => acc
 | x :: l, acc => zxo l (cond (acc.any fun y => Nat.beq x y) acc (x :: acc))
def zeg : List Oper → List (List Nat) → List (List Nat)
 | [], acc => acc
 | o :: r, acc => zeg r (acc ++ [zxo ((ze0 o).flatMap fun e => e :: acc.getD e []) []])
def prio : Cls → Nat
 | .p => 0
 | .r => 0
 | .e => 1
 | .a => 2
def zy5 (B : List (List Nat)) (done left : List Nat) : List Nat := left.filter fun i => (B.getD i []).all fun j => done.contains j
def zqx (cl : List Cls) : List Nat → Option Nat
 | [] => none
 | i :: r => match zqx cl r with
  | none => some i
  | some j => if prio (cl.getD i .p) ≤ prio (cl.getD j .p) then some i else some j
def zh4 (B : List (List Nat)) (cl : List Cls) : Nat → List Nat → List Nat → List Nat
 | 0, _, _ => []
 | n + 1, done, left =>
  match zqx cl (zy5 B done left) with
  | none => []
  | some i => i :: zh4 B cl n (i :: done) (left.filter (· != i))
def y2a : IK → Bool
 | .mkSl _ _ _ _ _ _ _ => true
 | _ => false
def z2b : IK → IK
 | .mkSl ai es ag _ z len ps => .mkSl ai es ag true z len ps
 | x => x
def zf7 : IK → Option Nat
 | .load _ _ (.t n) => some n
 | .lookup _ _ _ _ _ (.t n) _ => some n
 | .sliceL _ (.t n) _ _ => some n
 | .sliceA _ _ _ (.t n) _ _ => some n
 | .lenM (.t n) => some n
 | _ => none
def y0u (B : List (List Nat)) (i j : Nat) : Bool := !((B.getD j []).contains i) && !((B.getD i []).contains j)
def zwq (B : List (List Nat)) (iks : List IK) (j : Nat) : List Nat → Option (List Nat)
 | [] => some []
 | i :: r => match zwq B iks j r with
  | none => none
  | some ks =>
   if y0u B i j then
    match z1h (iks.getD i .bad), z1h (iks.getD j .bad) with
    | .p, _ => some ks
    | _, .p => some ks
    | .r, .r => some ks
    | .r, .e => (zf7 (iks.getD i .bad)).map (· :: ks)
    | .r, .a => if y2a (iks.getD j .bad) then (zf7 (iks.getD i .bad)).map (· :: ks) else some ks
    | .e, .a => some ks
    | .a, .a => some ks
    | .e, .e => none
    | .e, .r => none
    | .a, .e => none
    | .a, .r => none
   else some ks
def y1m (B : List (List Nat)) (iks : List IK) (j : Nat) (pre : List Nat) : Bool :=
 pre.any fun i => y0u B i j && (z1h (iks.getD i .bad) == .e || z1h (iks.getD i .bad) == .a)
def zcn (ops : List Oper) : Option (Nat × Bool) → Option (Option (Nat × Bool))
 | none => some none
 | some (j, w) => match ops[j]? with
  | some o => match o.dst with
   | some t => some (some (t, w))
   | none => none
  | none => none
def cOrd (nf : Bool) (P : Program) (draw : Bool) (ops : List Oper) (B : List (List Nat)) (iks : List IK) (cnt : Nat) (pre : List Nat) : List Nat → Option (Nat × List IOp)
 | [] => some (cnt, [])
 | j :: r =>
  match ops[j]? with
  | none => none
  | some o =>
   match zcn ops o.guard, (if draw then zwq B iks j pre else some []) with
   | some g, some ks =>
    match cOrd nf P draw ops B iks (cnt + 1) (j :: pre) r with
    | some (n, l) => some (n, { dst := o.dst, op := if nf || (draw && y1m B iks j pre) then z2b (cOp P cnt o) else cOp P cnt o, gd := g, keep := ks } :: l)
    | none => none
   | _, _ => none
def z36 : IK → Bool
 | .mkSl _ _ _ false _ _ _ => true
 | _ => false
def zhm (a b : IOp) : Bool :=
 (match a.dst with | some d => !(z6g b).contains d && decide (b.dst ≠ some d) | none => true) &&
 (match b.dst with | some d => !(looks a).contains d | none => true)
def zf8 (k : IK) (ks : List Nat) : Bool :=
 match zf7 k with
 | some t => ks.contains t
 | none => false
def zha (a b : IOp) : Bool :=
 match z1h a.op, z1h b.op with
 | .p, _ => true
 | _, .p => true
 | .r, .r => true
 | .r, .e => zf8 a.op b.keep
 | .r, .a => !z36 b.op || zf8 a.op b.keep
 | .e, .a => !z36 b.op
 | .a, .a => !z36 b.op
 | _, _ => false
def z8q (a b : IOp) : Bool :=
 match zf7 a.op with
 | some t => decide (b.dst ≠ some t)
 | none => true
def zc3 (B : List (List Nat)) (x y : Nat × IOp) : Bool :=
 !(B.getD x.1 []).contains y.1 && z8q x.2 y.2 && ((B.getD y.1 []).contains x.1 || (zhm x.2 y.2 && zha x.2 y.2))
def zdc (B : List (List Nat)) : List (Nat × IOp) → Bool
 | [] => true
 | x :: l => l.all (zc3 B x) && zdc B l
def z60 (B : List (List Nat)) (ops : List Oper) : Bool :=
 (List.range ops.length).all fun j =>
  let D := match ops[j]? with | some o => ze0 o | none => []
  (B.getD j []).all (fun k => D.contains k || D.any fun d => (B.getD d []).contains k) && D.all fun d => (B.getD j []).contains d && decide (d < ops.length) && decide (d ≠ j)
def zp2 (o : IOp) : Bool :=
 match z1h o.op with
 | .p => o.keep.isEmpty
 | .r => o.keep.isEmpty && z8q o o
 | _ => true
def y1k (B : List (List Nat)) (ops : List Oper) (ord : List Nat) (l : List IOp) : Bool :=
 zdc B (ord.zip l) && z60 B ops && decide ord.Nodup && (List.range ops.length).all (fun j => ord.contains j) && ord.all (fun j => decide (j < ops.length)) && l.all zp2 && decide (ord.length = l.length)
def cReg (nf : Bool) (P : Program) (ops : List Oper) (draw : Bool) : IC :=
 let r : Option (Nat × List IOp) :=
  if draw then
   let iks := ops.map (cOp P 0)
   let B := zeg ops []
   let ord := zh4 B (iks.map z1h) ops.length [] (List.range ops.length)
   match cOrd nf P true ops B iks 0 [] ord with
   | some (n, l) => if y1k B ops ord l then some (n, l) else none
   | none => none
  else cOrd nf P false ops [] [] 0 [] (List.range ops.length)
 match r with
 | some (n, l) => .reg n l
 | none => .bad
def z0d (nf : Bool) (P : Program) : Code → IC
 | .skip => .skip
 | .region _ ops draw => cReg nf P ops.toList draw
 | .seq a b => .seq (z0d nf P a) (z0d nf P b)
 | .cond c a b => match cOpd c with
  | some c => .cond c (z0d nf P a) (z0d nf P b)
  | none => .bad
 | .block id b => .block id (z0d nf P b)
 | .loop b => .loop (z0d nf P b)
 | .rangeFunc f ps asg body => match cOpd f with
  | some f => .rf f ps.toList (z0d nf P asg) (z0d nf P body)
  | none => .bad
 | .exit id => .exit id
 | .scope b => z0d nf P b
 | .label _ => .skip
 | .goto _ => .bad
 | .ret => .ret
 | .refuse _ => .bad
def cRes (P : Program) : List ResultVar → Option (List IR)
 | [] => some []
 | .tmp t :: r => (cRes P r).map (.t t :: ·)
 | .cell a t :: r => match z4b P t, tagg P t, cRes P r with
  | some n, some g, some l => if g || n == 1 then some (.cell a n g :: l) else none
  | _, _, _ => none
def Comp (P : Program) (f : Func) (F : IFun) : Prop :=
 f.ntmps = F.nt ∧ cRes P f.results.toList = some F.res ∧ f.body.map (z0d F.nf P) = some F.body
end Go.Lift
namespace Go.Lift
open Go
abbrev Still := Nat → Nat → Option Value
mutual
def RepD (H : Still) : D → Value → Prop
 | .bool b, v => v = .bool b
 | .int k n, v => v = .int k n
 | .str s, v => ∃ b : ByteArray, v = .string b ∧ b.data.toList.map UInt8.toNat = s
 | .sl l, v => ∃ (a : Option Addr) (cap : Nat), v = .slice a l.length cap ∧ (l.length ≤ cap ∧ (a = none → cap = 0)) ∧ (l = [] ∨ ∃ b off es, a = some ⟨b, off, none⟩ ∧ 0 < es ∧ RepL H b es l off)
 | .agg l, v => ∃ vs : Array Value, v = .agg vs ∧ RepC H l vs.toList
def RepL (H : Still) (b es : Nat) : List D → Nat → Prop
 | [], _ => True
 | x :: l, off => (∃ u, RepD H x u ∧ u.cells.size = es ∧ ∀ j, j < es → ∃ y, u.cells[j]? = some y ∧ H b (off + j) = some y) ∧ RepL H b es l (off + es)
def RepC (H : Still) : List D → List Value → Prop
 | [], vs => vs = []
 | x :: l, vs => ∃ v ws, vs = v :: ws ∧ RepD H x v ∧ RepC H l ws
end
structure Gh where
 H : Still
 blk : Nat → Option Nat
 sz : Nat → Nat
 tot : Nat → Nat
 sh : Nat → Nat
mutual
def RepV (g : Gh) : V → Value → Prop
 | .d x, v => RepD g.H x v
 | .nilS, v => v = .slice none 0 0
 | .emp, v => ∃ a cap, v = .slice (some a) 0 cap
 | .arr k es _ off len, v => ∃ b, g.blk k = some b ∧ ∃ o cap, v = .slice (some ⟨b, o, none⟩) len cap ∧ g.sz k ≤ off + cap * es ∧ off + cap * es ≤ g.tot k ∧ (o = g.sh k + off ∨ (len = 0 ∧ cap = 0))
 | .ptr k off, v => ∃ b, g.blk k = some b ∧ v = .pointer (some ⟨b, g.sh k + off, none⟩)
 | .dptr ds, v => ∃ b off, v = .pointer (some ⟨b, off, none⟩) ∧ RepP g.H b ds off
 | .nilP, v => v = .pointer none
 | .map k, v => ∃ b, g.blk k = some b ∧ v = .map (some b)
 | .nilM, v => v = .map none
 | .fn f a c, v => ∃ vs ws : Array Value, v = .func (.func f) vs ws ∧ RepVs g a vs.toList ∧ RepVs g c ws.toList
 | .yld k, v => ∃ b, g.blk k = some b ∧ v = .func (.yield b) #[] #[]
 | .nilF, v => v = .nilFunc
 | .agg l, v => ∃ vs : Array Value, v = .agg vs ∧ RepVs g l vs.toList
 | .tup l, v => ∃ vs : Array Value, v = .tuple vs ∧ RepVs g l vs.toList
def RepVs (g : Gh) : List V → List Value → Prop
 | [], vs => vs = []
 | x :: l, vs => ∃ v ws, vs = v :: ws ∧ RepV g x v ∧ RepVs g l ws
def RepP (H : Still) (b : Nat) : List D → Nat → Prop
 | [], _ => True
 | x :: l, off => (∃ y, H b off = some y ∧ RepD H x y) ∧ RepP H b l (off + 1)
end
theorem z1q {H : Still} {x : D} {l : List D} {v : Value} {ws : List Value} : RepC H (x :: l) (v :: ws) ↔ RepD H x v ∧ RepC H l ws := by
 simp only [RepC]
 exact ⟨fun ⟨_, _, e, h⟩ => by cases e; exact h, fun h => ⟨_, _, rfl, h⟩⟩
theorem z0u {g : Gh} {x : V} {l : List V} {v : Value} {ws : List Value} : RepVs g (x :: l) (v :: ws) ↔ RepV g x v ∧ RepVs g l ws := by
 simp only [RepVs]
 exact ⟨fun ⟨_, _, e, h⟩ => by cases e; exact h, fun h => ⟨_, _, rfl, h⟩⟩
theorem z7z {H : Still} : RepC H [] [] := by simp [RepC]
theorem z1c {g : Gh} : RepVs g [] [] := by simp [RepVs]
theorem RepC.length {H : Still} : ∀ {l : List D} {vs : List Value}, RepC H l vs → vs.length = l.length
 | [], vs, h => by simp only [RepC] at h; simp [h]
 | x :: l, vs, h => by
  simp only [RepC] at h
  obtain ⟨v, ws, rfl, _, h⟩ := h
  simp [RepC.length h]
theorem RepVs.length {g : Gh} : ∀ {l : List V} {vs : List Value}, RepVs g l vs → vs.length = l.length
 | [], vs, h => by simp only [RepVs] at h; simp [h]
 | x :: l, vs, h => by
  simp only [RepVs] at h
  obtain ⟨v, ws, rfl, _, h⟩ := h
  simp [RepVs.length h]
theorem RepC.get {H : Still} : ∀ {l : List D} {vs : List Value}, RepC H l vs → ∀ {i : Nat} {x : D}, l[i]? = some x → ∃ v, vs[i]? = some v ∧ RepD H x v
 | [], vs, _, i, x, hx => by simp at hx
 | y :: l, vs, h, i, x, hx => by
  simp only [RepC] at h
  obtain ⟨v, ws, rfl, h1, h⟩ := h
  cases i with
  | zero => simp at hx; subst hx; exact ⟨v, by simp, h1⟩
  | succ i => simpa using RepC.get h (by simpa using hx)
theorem RepVs.get {g : Gh} : ∀ {l : List V} {vs : List Value}, RepVs g l vs → ∀ {i : Nat} {x : V}, l[i]? = some x → ∃ v, vs[i]? = some v ∧ RepV g x v
 | [], vs, _, i, x, hx => by simp at hx
 | y :: l, vs, h, i, x, hx => by
  simp only [RepVs] at h
  obtain ⟨v, ws, rfl, h1, h⟩ := h
  cases i with
  | zero => simp at hx; subst hx; exact ⟨v, by simp, h1⟩
  | succ i => simpa using RepVs.get h (by simpa using hx)
theorem RepVs.of_get {g : Gh} : ∀ {l : List V} {vs : List Value}, vs.length = l.length → (∀ (i : Nat) x v, l[i]? = some x → vs[i]? = some v → RepV g x v) → RepVs g l vs
 | [], vs, hl, _ => by simp only [RepVs]; exact List.eq_nil_of_length_eq_zero hl
 | x :: l, [], hl, _ => by simp at hl
 | x :: l, v :: ws, hl, h => z0u.2 ⟨h 0 x v (by simp) (by simp), RepVs.of_get (by simpa using hl) fun i y u h1 h2 => h (i + 1) y u (by simpa using h1) (by simpa using h2)⟩
theorem RepVs.append {g : Gh} : ∀ {l m : List V} {vs ws : List Value}, RepVs g l vs → RepVs g m ws → RepVs g (l ++ m) (vs ++ ws)
 | [], m, vs, ws, h, k => by simp only [RepVs] at h; subst h; simpa using k
 | x :: l, m, vs, ws, h, k => by
  simp only [RepVs] at h
  obtain ⟨v, us, rfl, h1, h⟩ := h
  exact z0u.2 ⟨h1, RepVs.append h k⟩
theorem RepVs.take {g : Gh} : ∀ {l : List V} {vs : List Value} (n : Nat), RepVs g l vs → RepVs g (l.take n) (vs.take n)
 | [], vs, n, h => by simp only [RepVs] at h; subst h; simp [RepVs]
 | x :: l, vs, n, h => by
  simp only [RepVs] at h
  obtain ⟨v, us, rfl, h1, h⟩ := h
  cases n with
  | zero => simp [RepVs]
  | succ n => simpa using z0u.2 ⟨h1, RepVs.take n h⟩
theorem RepVs.drop {g : Gh} : ∀ {l : List V} {vs : List Value} (n : Nat), RepVs g l vs → RepVs g (l.drop n) (vs.drop n)
 | [], vs, n, h => by simp only [RepVs] at h; subst h; simp [RepVs]
 | x :: l, vs, n, h => by
  simp only [RepVs] at h
  obtain ⟨v, us, rfl, h1, h⟩ := h
  cases n with
  | zero => simpa using z0u.2 ⟨h1, h⟩
  | succ n => simpa using RepVs.drop n h
theorem RepC.take {H : Still} : ∀ {l : List D} {vs : List Value} (n : Nat), RepC H l vs → RepC H (l.take n) (vs.take n)
 | [], vs, n, h => by simp only [RepC] at h; subst h; simp [RepC]
 | x :: l, vs, n, h => by
  simp only [RepC] at h
  obtain ⟨v, us, rfl, h1, h⟩ := h
  cases n with
  | zero => simp [RepC]
  | succ n => simpa using z1q.2 ⟨h1, RepC.take n h⟩
theorem RepC.drop {H : Still} : ∀ {l : List D} {vs : List Value} (n : Nat), RepC H l vs → RepC H (l.drop n) (vs.drop n)
 | [], vs, n, h => by simp only [RepC] at h; subst h; simp [RepC]
 | x :: l, vs, n, h => by
  simp only [RepC] at h
  obtain ⟨v, us, rfl, h1, h⟩ := h
  cases n with
  | zero => simpa using z1q.2 ⟨h1, h⟩
  | succ n => simpa using RepC.drop n h
def Still.le (H H' : Still) : Prop := ∀ b o v, H b o = some v → H' b o = some v
mutual
theorem RepD.mono {H H' : Still} (hle : H.le H') : ∀ {x : D} {v : Value}, RepD H x v → RepD H' x v
 | .bool b, v, h => by simpa only [RepD] using h
 | .int k n, v, h => by simpa only [RepD] using h
 | .str s, v, h => by simpa only [RepD] using h
 | .sl l, v, h => by
  simp only [RepD] at h ⊢
  obtain ⟨a, cap, e, hc, h⟩ := h
  refine ⟨a, cap, e, hc, h.imp id ?_⟩
  rintro ⟨b, off, es, e, h0, h⟩
  exact ⟨b, off, es, e, h0, RepL.mono hle h⟩
 | .agg l, v, h => by
  simp only [RepD] at h ⊢
  obtain ⟨vs, e, h⟩ := h
  exact ⟨vs, e, RepC.mono hle h⟩
theorem RepL.mono {H H' : Still} (hle : H.le H') {b es : Nat} : ∀ {l : List D} {off : Nat}, RepL H b es l off → RepL H' b es l off
 | [], _, _ => by simp only [RepL]
 | x :: l, off, h => by
  simp only [RepL] at h ⊢
  obtain ⟨⟨u, h1, h2, h3⟩, h⟩ := h
  exact ⟨⟨u, RepD.mono hle h1, h2, fun j hj => let ⟨y, a, c⟩ := h3 j hj; ⟨y, a, hle _ _ _ c⟩⟩, RepL.mono hle h⟩
theorem RepC.mono {H H' : Still} (hle : H.le H') : ∀ {l : List D} {vs : List Value}, RepC H l vs → RepC H' l vs
 | [], _, h => by simpa only [RepC] using h
 | x :: l, vs, h => by
  simp only [RepC] at h ⊢
  obtain ⟨v, ws, e, h1, h⟩ := h
  exact ⟨v, ws, e, RepD.mono hle h1, RepC.mono hle h⟩
end
theorem RepP.mono {H H' : Still} (hle : H.le H') {b : Nat} : ∀ {l : List D} {off : Nat}, RepP H b l off → RepP H' b l off
 | [], _, _ => by simp only [RepP]
 | x :: l, off, h => by
  simp only [RepP] at h ⊢
  obtain ⟨⟨y, h1, h2⟩, h⟩ := h
  exact ⟨⟨y, hle _ _ _ h1, RepD.mono hle h2⟩, RepP.mono hle h⟩
structure Ext (g g' : Gh) : Prop where
 H : g.H.le g'.H
 blk : ∀ k b, g.blk k = some b → g'.blk k = some b ∧ g'.sz k = g.sz k ∧ g'.tot k = g.tot k
 sh : ∀ k b, g.blk k = some b → g'.sh k = g.sh k
theorem Ext.refl (g : Gh) : Ext g g := ⟨fun _ _ _ h => h, fun _ _ h => ⟨h, rfl, rfl⟩, fun _ _ _ => rfl⟩
theorem Ext.trans {a b c : Gh} (h : Ext a b) (k : Ext b c) : Ext a c :=
 ⟨fun _ _ _ e => k.H _ _ _ (h.H _ _ _ e), fun i x hx =>
  have h1 := h.blk i x hx
  have h2 := k.blk i x h1.1
  ⟨h2.1, h2.2.1.trans h1.2.1, h2.2.2.trans h1.2.2⟩, fun i x hx => (k.sh i x (h.blk i x hx).1).trans (h.sh i x hx)⟩
mutual
theorem RepV.mono {g g' : Gh} (hx : Ext g g') : ∀ {x : V} {v : Value}, RepV g x v → RepV g' x v
 | .d x, v, h => by simp only [RepV] at h ⊢; exact RepD.mono hx.H h
 | .nilS, v, h => by simpa only [RepV] using h
 | .emp, v, h => by simpa only [RepV] using h
 | .arr k es ag off len, v, h => by
  simp only [RepV] at h ⊢
  obtain ⟨b, hk, o, cap, e, h⟩ := h
  have h2 := hx.blk k b hk
  exact ⟨b, h2.1, o, cap, e, by rw [h2.2.1, h2.2.2, hx.sh k b hk]; exact h⟩
 | .ptr k off, v, h => by
  simp only [RepV] at h ⊢
  obtain ⟨b, hk, e⟩ := h
  exact ⟨b, (hx.blk k b hk).1, by rw [hx.sh k b hk]; exact e⟩
 | .dptr ds, v, h => by
  simp only [RepV] at h ⊢
  obtain ⟨b, off, e, h⟩ := h
  exact ⟨b, off, e, RepP.mono hx.H h⟩
 | .nilP, v, h => by simpa only [RepV] using h
 | .map k, v, h => by
  simp only [RepV] at h ⊢
  obtain ⟨b, hk, e⟩ := h
  exact ⟨b, (hx.blk k b hk).1, e⟩
 | .nilM, v, h => by simpa only [RepV] using h
 | .fn f a c, v, h => by
  simp only [RepV] at h ⊢
  obtain ⟨vs, ws, e, h1, h2⟩ := h
  exact ⟨vs, ws, e, RepVs.mono hx h1, RepVs.mono hx h2⟩
 | .yld k, v, h => by
  simp only [RepV] at h ⊢
  obtain ⟨b, hk, e⟩ := h
  exact ⟨b, (hx.blk k b hk).1, e⟩
 | .nilF, v, h => by simpa only [RepV] using h
 | .agg l, v, h => by
  simp only [RepV] at h ⊢
  obtain ⟨vs, e, h⟩ := h
  exact ⟨vs, e, RepVs.mono hx h⟩
 | .tup l, v, h => by
  simp only [RepV] at h ⊢
  obtain ⟨vs, e, h⟩ := h
  exact ⟨vs, e, RepVs.mono hx h⟩
theorem RepVs.mono {g g' : Gh} (hx : Ext g g') : ∀ {l : List V} {vs : List Value}, RepVs g l vs → RepVs g' l vs
 | [], _, h => by simpa only [RepVs] using h
 | x :: l, vs, h => by
  simp only [RepVs] at h ⊢
  obtain ⟨v, ws, e, h1, h⟩ := h
  exact ⟨v, ws, e, RepV.mono hx h1, RepVs.mono hx h⟩
end
def RepM (P : Program) (kt : TypeId) (g : Gh) : List (D × V) → List MapEntry → Prop
 | [], es => es = []
 | (k, x) :: l, es => ∃ e r, es = e :: r ∧ ((∃ ag sh, keyT P kt = some (ag, sh) ∧ z2g ag sh k = true) ∧ RepD g.H k e.key ∧ RepV g x e.val) ∧ RepM P kt g l r
def zx3 : Ex → Option Code
 | .nrm => none
 | .brk id => some (.exit id)
 | .ret => some .ret
def ObjRep (P : Program) (C : Bool → Program → Code → IC) (g : Gh) (w : World) (b k : Nat) : Obj → Prop
 | .cells cs => g.sz k = cs.length ∧ (∀ j, g.H b j = none) ∧ ∃ (arr : Array Value) (ty : TypeId), w.heap[b]? = some (.cells arr ty (0, 0)) ∧ cs.length ≤ g.tot k ∧ g.sh k + g.tot k ≤ arr.size ∧ RepVs g cs ((arr.toList.drop (g.sh k)).take cs.length)
 | .fz ds => g.sz k = ds.length ∧ ds.length ≤ g.tot k ∧ RepP g.H b ds (g.sh k)
 | .map kt es => (es.map Prod.fst).Nodup ∧ ∃ (en : Array MapEntry) (clock : Nat), w.heap[b]? = some (.map en clock) ∧ RepM P kt g es en.toList
 | .loop env ps asg body ls pend => ∃ L : Loop, w.heap[b]? = some (.loop L) ∧ RepVs g env L.tmps.toList ∧ L.params.toList = ps ∧ (∃ nf, C nf P L.assign = asg ∧ C nf P L.body = body) ∧ L.state = ls ∧ (∀ x, pend = some x → L.pending = zx3 x ∧ x ≠ .nrm) ∧ (pend = none → L.pending = none)
 | .iter s pos => g.sh k = 0 ∧ ∃ bs : ByteArray, w.heap[b]? = some (.stringIter bs pos) ∧ bs.data.toList.map UInt8.toNat = s
 | .dfr => True
structure Inv (P : Program) (C : Bool → Program → Code → IC) (st : St) (g : Gh) (w : World) : Prop where
 u : ∀ k b, g.blk k = some b → k < st.next ∧ b < w.heap.size
 H : ∀ b o v, g.H b o = some v → w.cell? ⟨b, o, none⟩ = some v
 inj : ∀ k j b o x, sget st.s k = some o → sget st.s j = some x → g.blk k = some b → g.blk j = some b → k = j
 obj : ∀ k o, sget st.s k = some o → ∃ b, g.blk k = some b ∧ ObjRep P C g w b k o
def Live (st : St) (g : Gh) (b : Nat) : Prop := ∃ k o, sget st.s k = some o ∧ g.blk k = some b
structure Step (st : St) (g : Gh) (w : World) (st' : St) (g' : Gh) (w' : World) : Prop where
 ext : Ext g g'
 next : st.next ≤ st'.next
 size : w.heap.size ≤ w'.heap.size
 os : w'.os = w.os
 tape : w'.tape = w.tape
 output : w'.output = w.output
 same : ∀ b, b < w.heap.size → ¬ Live st g b → w'.heap[b]? = w.heap[b]?
 Hn : ∀ b o v, g'.H b o = some v → g.H b o = some v ∨ w.heap.size ≤ b ∨ Live st g b
 live : ∀ b, Live st' g' b → w.heap.size ≤ b ∨ Live st g b
theorem Step.refl (st : St) (g : Gh) (w : World) : Step st g w st g w :=
 ⟨Ext.refl g, Nat.le_refl _, Nat.le_refl _, rfl, rfl, rfl, fun _ _ _ => rfl, fun _ _ _ h => .inl h, fun _ h => .inr h⟩
theorem Step.trans {st st' st'' : St} {g g' g'' : Gh} {w w' w'' : World} (h : Step st g w st' g' w') (k : Step st' g' w' st'' g'' w'') : Step st g w st'' g'' w'' := by
 refine ⟨h.ext.trans k.ext, Nat.le_trans h.next k.next, Nat.le_trans h.size k.size, k.os.trans h.os, k.tape.trans h.tape, k.output.trans h.output, fun b hb hn => ?_, fun b o v hv => ?_, fun b hb => ?_⟩
 ·rw [k.same b (Nat.lt_of_lt_of_le hb h.size) fun hl => ?_, h.same b hb hn]
  rcases h.live b hl with h1 | h1
  ·omega
  ·exact hn h1
 ·rcases k.Hn b o v hv with h1 | h1 | h1
  ·exact h.Hn b o v h1
  ·exact .inr (.inl (Nat.le_trans h.size h1))
  ·exact .inr (h.live b h1)
 ·rcases k.live b hb with h1 | h1
  ·exact .inl (Nat.le_trans h.size h1)
  ·exact h.live b h1
theorem Inv.drew {P : Program} {C : Bool → Program → Code → IC} {st : St} {g : Gh} {w : World} (h : Inv P C st g w) (n : Nat) : Inv P C st g { w with drawn := n } :=
 ⟨h.u, h.H, h.inj, fun k o ho => by
  obtain ⟨b, h2, h5⟩ := h.obj k o ho
  exact ⟨b, h2, by cases o <;> exact h5⟩⟩
theorem Step.drew (st : St) (g : Gh) (w : World) (n : Nat) : Step st g w st g { w with drawn := n } :=
 ⟨Ext.refl g, Nat.le_refl _, Nat.le_refl _, rfl, rfl, rfl, fun _ _ _ => rfl, fun _ _ _ h => .inl h, fun _ h => .inr h⟩
end Go.Lift
namespace Go.Lift
open Go
variable {P : Program} {C : Bool → Program → Code → IC} {st : St} {g : Gh} {w : World}
theorem z04 : ∀ {s : List (Nat × Obj)} {k : Nat} {o x : Obj}, sget s k = some x → sget (sset s k o) k = some o
 | [], _, _, _, h => by simp [sget] at h
 | (j, y) :: s, k, o, x, h => by
  simp only [sget] at h
  by_cases e : j = k
  ·simp [sset, e, sget]
  ·simp only [e, if_false] at h
   simp [sset, e, sget, z04 h]
theorem z0m : ∀ {s : List (Nat × Obj)} {k j : Nat} {o : Obj}, j ≠ k → sget (sset s k o) j = sget s j
 | [], _, _, _, _ => rfl
 | (i, y) :: s, k, j, o, h => by
  by_cases e : i = k
  ·subst e
   simp [sset, sget, Ne.symm h]
  ·simp only [sset, e, if_false, sget, z0m h]
theorem z2l : ∀ {s : List (Nat × Obj)} {k : Nat}, sget (sdel s k) k = none
 | [], _ => rfl
 | (i, y) :: s, k => by
  by_cases e : i = k
  ·simp only [sdel, e, if_true]; exact z2l
  ·simp only [sdel, e, if_false, sget, z2l]
theorem z1n : ∀ {s : List (Nat × Obj)} {k j : Nat}, j ≠ k → sget (sdel s k) j = sget s j
 | [], _, _, _ => rfl
 | (i, y) :: s, k, j, h => by
  by_cases e : i = k
  ·subst e
   simp [sdel, sget, Ne.symm h, z1n h]
  ·simp only [sdel, e, if_false, sget, z1n h]
theorem zeb {b o : Nat} {v : Value} (h : w.cell? ⟨b, o, none⟩ = some v) : b < w.heap.size := by
 unfold World.cell? at h
 split at h
 ·rename_i hx
  exact (Array.getElem?_eq_some_iff.1 hx).1
 ·cases h
theorem z4v {w' : World} {b o : Nat} (h : w'.heap[b]? = w.heap[b]?) : w'.cell? ⟨b, o, none⟩ = w.cell? ⟨b, o, none⟩ := by
 unfold World.cell?
 simp only [h]
theorem z5s {b o : Nat} {arr : Array Value} {ty : TypeId} {fr : Nat × Nat} (h : w.heap[b]? = some (.cells arr ty fr)) : w.cell? ⟨b, o, none⟩ = arr[o]? := by
 simp [World.cell?, h]
def World.add (w : World) (o : Go.Obj) : World := { w with heap := w.heap.push o }
theorem z34 {o : Go.Obj} {b : Nat} (h : b < w.heap.size) : (World.add w o).heap[b]? = w.heap[b]? := by
 show (w.heap.push o)[b]? = w.heap[b]?
 rw [Array.getElem?_push, if_neg (Nat.ne_of_lt h)]
theorem z2t {o : Go.Obj} : (World.add w o).heap[w.heap.size]? = some o := by
 show (w.heap.push o)[w.heap.size]? = some o
 rw [Array.getElem?_push, if_pos rfl]
theorem z68 {o : Go.Obj} : (World.add w o).heap.size = w.heap.size + 1 := Array.size_push _
def World.put (w : World) (b : Nat) (o : Go.Obj) : World := { w with heap := w.heap.setIfInBounds b o }
theorem z1e {o : Go.Obj} {b c : Nat} (h : c ≠ b) : (World.put w b o).heap[c]? = w.heap[c]? := by
 simp [World.put, Array.getElem?_setIfInBounds, Ne.symm h]
theorem z3k {o : Go.Obj} {b : Nat} (h : b < w.heap.size) : (World.put w b o).heap[b]? = some o := by
 simp [World.put, h]
theorem z53 {o : Go.Obj} {b : Nat} : (World.put w b o).heap.size = w.heap.size := by simp [World.put]
theorem RepM.mono {kt : TypeId} {g g' : Gh} (hx : Ext g g') : ∀ {l : List (D × V)} {es : List MapEntry}, RepM P kt g l es → RepM P kt g' l es
 | [], _, h => by simpa only [RepM] using h
 | (k, x) :: l, es, h => by
  simp only [RepM] at h ⊢
  obtain ⟨e, r, e1, ⟨h1, h2, h3⟩, h⟩ := h
  exact ⟨e, r, e1, ⟨h1, RepD.mono hx.H h2, RepV.mono hx h3⟩, RepM.mono hx h⟩
theorem ObjRep.mono {g' : Gh} {w' : World} {b k : Nat} {o : Obj} (h : ObjRep P C g w b k o) (hx : Ext g g') (hsz : g'.sz k = g.sz k ∧ g'.tot k = g.tot k) (hsh : g'.sh k = g.sh k) (hb : w'.heap[b]? = w.heap[b]?)
  (hH : (∀ j, g.H b j = none) → ∀ j, g'.H b j = none) : ObjRep P C g' w' b k o := by
 cases o with
 | cells cs =>
  obtain ⟨h1, h2, arr, ty, h3, h4, h4', h5⟩ := h
  exact ⟨hsz.1.trans h1, hH h2, arr, ty, hb.trans h3, hsz.2 ▸ h4, by rw [hsz.2, hsh]; exact h4', by rw [hsh]; exact RepVs.mono hx h5⟩
 | fz ds =>
  obtain ⟨h1, h1', h2⟩ := h
  exact ⟨hsz.1.trans h1, hsz.2 ▸ h1', by rw [hsh]; exact RepP.mono hx.H h2⟩
 | map kt es =>
  obtain ⟨h0, en, cl, h1, h2⟩ := h
  exact ⟨h0, en, cl, hb.trans h1, RepM.mono hx h2⟩
 | loop env ps asg body ls pend =>
  obtain ⟨L, h1, h2, h3⟩ := h
  exact ⟨L, hb.trans h1, RepVs.mono hx h2, h3⟩
 | iter s pos =>
  obtain ⟨h0, bs, h1, h2⟩ := h
  exact ⟨hsh.trans h0, bs, hb.trans h1, h2⟩
 | dfr => trivial
theorem Inv.Hnew (h : Inv P C st g w) (o : Nat) : g.H w.heap.size o = none := by
 cases e : g.H w.heap.size o with
 | none => rfl
 | some v => exact absurd (zeb (h.H _ _ _ e)) (Nat.lt_irrefl _)
theorem Inv.fresh (h : Inv P C st g w) {k : Nat} (hk : g.blk k = none) : sget st.s k = none := by
 cases e : sget st.s k with
 | none => rfl
 | some o => obtain ⟨b, hb, _⟩ := h.obj k o e; rw [hk] at hb; cases hb
def Gh.asg (g : Gh) (k b n m : Nat) : Gh :=
 { H := g.H, blk := fun j => if j = k then some b else g.blk j, sz := fun j => if j = k then n else g.sz j, tot := fun j => if j = k then m else g.tot j, sh := fun j => if j = k then 0 else g.sh j }
def Gh.asgS (g : Gh) (k b n m s : Nat) : Gh :=
 { H := g.H, blk := fun j => if j = k then some b else g.blk j, sz := fun j => if j = k then n else g.sz j, tot := fun j => if j = k then m else g.tot j, sh := fun j => if j = k then s else g.sh j }
theorem Ext.asgS {k b n m s : Nat} (hk : g.blk k = none) : Ext g (g.asgS k b n m s) :=
 ⟨fun _ _ _ h => h, fun j c hj => by
  have hne : j ≠ k := fun e => by rw [e, hk] at hj; cases hj
  simp [Gh.asgS, hne, hj], fun j c hj => by
  have hne : j ≠ k := fun e => by rw [e, hk] at hj; cases hj
  simp [Gh.asgS, hne]⟩
theorem Ext.asg {k b n m : Nat} (hk : g.blk k = none) : Ext g (g.asg k b n m) :=
 ⟨fun _ _ _ h => h, fun j c hj => by
  have hne : j ≠ k := fun e => by rw [e, hk] at hj; cases hj
  simp [Gh.asg, hne, hj], fun j c hj => by
  have hne : j ≠ k := fun e => by rw [e, hk] at hj; cases hj
  simp [Gh.asg, hne]⟩
theorem z66 {k b n m s : Nat} : (g.asgS k b n m s).blk k = some b := by simp [Gh.asgS]
theorem zii {k b n m s : Nat} : (g.asgS k b n m s).sz k = n ∧ (g.asgS k b n m s).tot k = m := by simp [Gh.asgS]
theorem zs8 {k b n m s : Nat} : (g.asgS k b n m s).sh k = s := by simp [Gh.asgS]
theorem z2i {k b n m s j : Nat} (h : j ≠ k) : (g.asgS k b n m s).blk j = g.blk j ∧ (g.asgS k b n m s).sz j = g.sz j ∧ (g.asgS k b n m s).tot j = g.tot j := by simp [Gh.asgS, h]
theorem zvq {k b n m s j : Nat} (h : j ≠ k) : (g.asgS k b n m s).sh j = g.sh j := by simp [Gh.asgS, h]
theorem z42 {k b n m : Nat} : (g.asg k b n m).sh k = 0 := by simp [Gh.asg]
theorem y0a {k b n m j : Nat} (h : j ≠ k) : (g.asg k b n m).sh j = g.sh j := by simp [Gh.asg, h]
theorem z1z {k b n m : Nat} : (g.asg k b n m).blk k = some b := by simp [Gh.asg]
theorem z3e {k b n m : Nat} : (g.asg k b n m).sz k = n ∧ (g.asg k b n m).tot k = m := by simp [Gh.asg]
theorem z1p {k b n m j : Nat} (h : j ≠ k) : (g.asg k b n m).blk j = g.blk j ∧ (g.asg k b n m).sz j = g.sz j ∧ (g.asg k b n m).tot j = g.tot j := by simp [Gh.asg, h]
theorem Inv.assign (h : Inv P C st g w) {k n m : Nat} (hk : g.blk k = none) (hlt : k < st.next) (ob : Go.Obj) :
  Inv P C st (g.asg k w.heap.size n m) (World.add w ob) ∧ Step st g w st (g.asg k w.heap.size n m) (World.add w ob) := by
 have hno := h.fresh hk
 refine ⟨⟨fun j b hj => ?_, fun b o v hv => ?_, fun i j b o x hi hj hbi hbj => ?_, fun j x hx => ?_⟩, ⟨Ext.asg hk, Nat.le_refl _, by rw [z68]; omega, rfl, rfl, rfl, fun b hb _ => z34 hb, fun b o v hv => .inl hv, fun b hb => ?_⟩⟩
 ·rw [z68]
  by_cases e : j = k
  ·subst e
   rw [z1z] at hj
   cases hj
   exact ⟨hlt, by omega⟩
  ·rw [(z1p e).1] at hj
   have := h.u j b hj
   exact ⟨this.1, by omega⟩
 ·have := h.H b o v hv
  rw [z4v (z34 (zeb this))]; exact this
 ·have e1 : i ≠ k := fun e => by rw [e, hno] at hi; cases hi
  have e2 : j ≠ k := fun e => by rw [e, hno] at hj; cases hj
  rw [(z1p e1).1] at hbi
  rw [(z1p e2).1] at hbj
  exact h.inj i j b o x hi hj hbi hbj
 ·obtain ⟨b, h2, h5⟩ := h.obj j x hx
  have e : j ≠ k := fun e => by rw [e, hno] at hx; cases hx
  exact ⟨b, by rw [(z1p e).1]; exact h2, h5.mono (Ext.asg hk) (z1p e).2 (y0a e) (z34 (h.u j b h2).2) fun hh => hh⟩
 ·obtain ⟨j, o, h1, h2⟩ := hb
  have e : j ≠ k := fun e => by rw [e, hno] at h1; cases h1
  rw [(z1p e).1] at h2
  exact .inr ⟨j, o, h1, h2⟩
theorem Inv.put (h : Inv P C st g w) {k b : Nat} (hb : g.blk k = some b) (hl : ¬ Live st g b) {o : Obj} (hrep : ObjRep P C g w b k o) : Inv P C (st.ins k o) g w := by
 refine ⟨h.u, h.H, fun i j c y z hi hj hbi hbj => ?_, fun j x hx => ?_⟩
 ·simp only [St.ins, sget] at hi hj
  by_cases e1 : k = i <;> by_cases e2 : k = j
  ·exact e1.symm.trans e2
  ·subst e1
   simp only [e2, if_false] at hj
   rw [hb] at hbi; cases hbi
   exact absurd ⟨j, z, hj, hbj⟩ hl
  ·subst e2
   simp only [e1, if_false] at hi
   rw [hb] at hbj; cases hbj
   exact absurd ⟨i, y, hi, hbi⟩ hl
  ·simp only [e1, if_false] at hi
   simp only [e2, if_false] at hj
   exact h.inj i j c y z hi hj hbi hbj
 ·simp only [St.ins, sget] at hx
  by_cases e : k = j
  ·subst e
   simp only [if_true, Option.some.injEq] at hx
   subst hx
   exact ⟨b, hb, hrep⟩
  ·simp only [e, if_false] at hx
   exact h.obj j x hx
theorem Step.put {st0 : St} {g0 : Gh} {w0 : World} (h : Step st0 g0 w0 st g w) {k b : Nat} (hb : g.blk k = some b) (hn : w0.heap.size ≤ b ∨ Live st0 g0 b) (o : Obj) : Step st0 g0 w0 (st.ins k o) g w := by
 refine ⟨h.ext, h.next, h.size, h.os, h.tape, h.output, h.same, h.Hn, fun c hc => ?_⟩
 obtain ⟨j, x, h1, h2⟩ := hc
 simp only [St.ins, sget] at h1
 by_cases e : k = j
 ·subst e
  rw [hb] at h2; cases h2
  exact hn
 ·simp only [e, if_false] at h1
  exact h.live c ⟨j, x, h1, h2⟩
theorem Inv.notLive (h : Inv P C st g w) : ¬ Live st g w.heap.size := fun ⟨k, _, _, hb⟩ => Nat.lt_irrefl _ (h.u k _ hb).2
theorem Inv.ins (h : Inv P C st g w) {k n m : Nat} (hk : g.blk k = none) (hlt : k < st.next) {o : Obj} {ob : Go.Obj}
  (hrep : ObjRep P C (g.asg k w.heap.size n m) (World.add w ob) w.heap.size k o) :
  Inv P C (st.ins k o) (g.asg k w.heap.size n m) (World.add w ob) ∧ Step st g w (st.ins k o) (g.asg k w.heap.size n m) (World.add w ob) :=
 have h1 := h.assign (n := n) (m := m) hk hlt ob
 have hn : ¬ Live st (g.asg k w.heap.size n m) w.heap.size := fun ⟨j, x, h2, h3⟩ => by
  have e : j ≠ k := fun e => by rw [e, h.fresh hk] at h2; cases h2
  rw [(z1p e).1] at h3
  exact h.notLive ⟨j, x, h2, h3⟩
 ⟨h1.1.put z1z hn hrep, h1.2.put z1z (.inl (Nat.le_refl _)) o⟩
theorem z98 {k j : Nat} {o o' y : Obj} (ho : sget st.s k = some o) (h : sget (st.set k o').s j = some y) : ∃ x, sget st.s j = some x := by
 by_cases e : j = k
 ·subst e; exact ⟨o, ho⟩
 ·simp only [St.set] at h
  rw [z0m e] at h
  exact ⟨y, h⟩
theorem Inv.write (h : Inv P C st g w) {k b : Nat} {o o' : Obj} (ho : sget st.s k = some o) (hb : g.blk k = some b) {w' : World} (hs : w'.heap.size = w.heap.size)
  (hos : w'.os = w.os) (htp : w'.tape = w.tape) (hout : w'.output = w.output)
  (hother : ∀ c, c ≠ b → w'.heap[c]? = w.heap[c]?) (hH : ∀ j v, g.H b j = some v → w'.cell? ⟨b, j, none⟩ = some v) (hrep : ObjRep P C g w' b k o') :
  Inv P C (st.set k o') g w' ∧ Step st g w (st.set k o') g w' := by
 refine ⟨⟨fun j c hj => by rw [hs]; exact h.u j c hj, fun c j v hv => ?_, fun i j c y z hi hj hbi hbj => ?_, fun j x hx => ?_⟩, ⟨Ext.refl g, Nat.le_refl _, by omega, hos, htp, hout, fun c _ hn => hother c fun e => hn ⟨k, o, ho, e ▸ hb⟩, fun _ _ _ hv => .inl hv, fun c hc => ?_⟩⟩
 ·by_cases e : c = b
  ·subst e; exact hH j v hv
  ·rw [z4v (hother c e)]; exact h.H c j v hv
 ·obtain ⟨y', hy⟩ := z98 ho hi
  obtain ⟨z', hz⟩ := z98 ho hj
  exact h.inj i j c _ _ hy hz hbi hbj
 ·simp only [St.set] at hx
  by_cases e : j = k
  ·subst e
   rw [z04 ho] at hx
   cases hx
   exact ⟨b, hb, hrep⟩
  ·rw [z0m e] at hx
   obtain ⟨c, h2, h5⟩ := h.obj j x hx
   refine ⟨c, h2, h5.mono (Ext.refl g) ⟨rfl, rfl⟩ rfl (hother c fun e' => e (h.inj j k b _ _ hx ho (e' ▸ h2) hb)) fun hh => hh⟩
 ·obtain ⟨j, x, h1, h2⟩ := hc
  simp only [St.set] at h1
  by_cases e : j = k
  ·subst e; exact .inr ⟨j, o, ho, h2⟩
  ·rw [z0m e] at h1
   exact .inr ⟨j, x, h1, h2⟩
theorem Inv.del (h : Inv P C st g w) (k : Nat) : Inv P C (st.del k) g w ∧ Step st g w (st.del k) g w := by
 have hsub : ∀ {j x}, sget (st.del k).s j = some x → sget st.s j = some x := fun {j x} hx => by
  simp only [St.del] at hx
  by_cases e : j = k
  ·subst e; rw [z2l] at hx; cases hx
  ·rw [z1n e] at hx; exact hx
 refine ⟨⟨h.u, h.H, fun i j c y z hi hj => h.inj i j c y z (hsub hi) (hsub hj), fun j x hx => ?_⟩, ⟨Ext.refl g, Nat.le_refl _, Nat.le_refl _, rfl, rfl, rfl, fun _ _ _ => rfl, fun _ _ _ hv => .inl hv, fun c hc => ?_⟩⟩
 ·exact h.obj j x (hsub hx)
 ·obtain ⟨j, x, h1, h2⟩ := hc
  exact .inr ⟨j, x, hsub h1, h2⟩
def Gh.still (g : Gh) (b s : Nat) (vs : List Value) : Gh := { H := fun c j => if c = b then (if s ≤ j then vs[j - s]? else none) else g.H c j, blk := g.blk, sz := g.sz, tot := g.tot, sh := g.sh }
theorem Ext.still {b s : Nat} {vs : List Value} (hb : ∀ j, g.H b j = none) : Ext g (g.still b s vs) :=
 ⟨fun c j v h => by
  by_cases e : c = b
  ·subst e; rw [hb j] at h; cases h
  ·simpa [Gh.still, e] using h, fun _ _ h => ⟨h, rfl, rfl⟩, fun _ _ _ => rfl⟩
theorem RepP.of_get {H : Still} {b : Nat} : ∀ {l : List D} {vs : List Value} {off : Nat}, RepC H l vs → (∀ (j : Nat) v, vs[j]? = some v → H b (off + j) = some v) → RepP H b l off
 | [], _, _, _, _ => by simp only [RepP]
 | x :: l, vs, off, h, hv => by
  simp only [RepC] at h
  obtain ⟨v, ws, rfl, h1, h⟩ := h
  simp only [RepP]
  refine ⟨⟨v, by simpa using hv 0 v (by simp), h1⟩, RepP.of_get h fun j u hu => ?_⟩
  have := hv (j + 1) u (by simpa using hu)
  rwa [show off + (j + 1) = off + 1 + j from by omega] at this
theorem Inv.freeze (h : Inv P C st g w) {k b : Nat} {cs : List V} {ds : List D} (ho : sget st.s k = some (.cells cs)) (hb : g.blk k = some b)
  {vs : List Value} (hvs : ∀ j v, vs[j]? = some v → w.cell? ⟨b, g.sh k + j, none⟩ = some v) (hlen : ds.length = cs.length) (hrep : RepC (g.still b (g.sh k) vs).H ds vs) :
  Inv P C (st.set k (.fz ds)) (g.still b (g.sh k) vs) w ∧ Step st g w (st.set k (.fz ds)) (g.still b (g.sh k) vs) w := by
 obtain ⟨c, h2, hsz, hHn, arr, ty, hheap, hle, _, hcs⟩ := h.obj k _ ho
 rw [hb] at h2; cases h2
 have hx : Ext g (g.still b (g.sh k) vs) := Ext.still hHn
 refine ⟨⟨h.u, fun c j v hv => ?_, fun i j c y z hi hj hbi hbj => ?_, fun j x hx' => ?_⟩, ⟨hx, Nat.le_refl _, Nat.le_refl _, rfl, rfl, rfl, fun _ _ _ => rfl, fun c j v hv => ?_, fun c hc => ?_⟩⟩
 ·simp only [Gh.still] at hv
  by_cases e : c = b
  ·subst e
   simp only [if_true] at hv
   split at hv
   ·rename_i hj
    have := hvs _ v hv
    rwa [show g.sh k + (j - g.sh k) = j from by omega] at this
   ·cases hv
  ·simp only [e, if_false] at hv; exact h.H c j v hv
 ·obtain ⟨y', hy⟩ := z98 ho hi
  obtain ⟨z', hz⟩ := z98 ho hj
  exact h.inj i j c _ _ hy hz hbi hbj
 ·simp only [St.set] at hx'
  by_cases e : j = k
  ·subst e
   rw [z04 ho] at hx'
   cases hx'
   refine ⟨b, hb, by simp only [Gh.still]; omega, by simp only [Gh.still]; omega, RepP.of_get hrep fun i v hv => ?_⟩
   simp only [Gh.still, if_true]
   rw [if_pos (by omega), show g.sh j + i - g.sh j = i from by omega]; exact hv
  ·rw [z0m e] at hx'
   obtain ⟨c, h6, h9⟩ := h.obj j x hx'
   refine ⟨c, h6, h9.mono hx ⟨rfl, rfl⟩ rfl rfl fun hh i => ?_⟩
   have hne : c ≠ b := fun e' => e (h.inj j k b _ _ hx' ho (e' ▸ h6) hb)
   simp [Gh.still, hne, hh i]
 ·simp only [Gh.still] at hv
  by_cases e : c = b
  ·subst e; exact .inr (.inr ⟨k, _, ho, hb⟩)
  ·simp only [e, if_false] at hv; exact .inl hv
 ·obtain ⟨j, x, h1, h2'⟩ := hc
  simp only [St.set] at h1
  by_cases e : j = k
  ·subst e; exact .inr ⟨j, _, ho, h2'⟩
  ·rw [z0m e] at h1
   exact .inr ⟨j, x, h1, h2'⟩
end Go.Lift
namespace Go.Lift
open Go
variable {P : Program} {C : Bool → Program → Code → IC} {st : St} {g : Gh} {w : World}
theorem z35 {α : Type} {l : List α} {n j : Nat} {u : α} (h : (l.take n)[j]? = some u) : l[j]? = some u ∧ j < n := by
 rw [List.getElem?_take] at h
 split at h
 ·rename_i hj; exact ⟨h, hj⟩
 ·cases h
theorem z3m {t : TypeId} {n : Nat} (h : z4b P t = some n) : ∃ i, P.info? t = some i ∧ i.size = n := by
 unfold z4b at h
 cases e : P.info? t with
 | none => rw [e] at h; cases h
 | some i => rw [e] at h; exact ⟨i, rfl, by simpa using h⟩
theorem z1t {t : TypeId} {n : Nat} (h : z4b P t = some n) : (sizeOf t).run P w = .ok n w := by
 obtain ⟨i, hi, hn⟩ := z3m h
 simp [sizeOf, typeInfo, hi, hn]
theorem z05 {t : TypeId} {d : TypeDesc} (h : P.underlying t = some d) : (underlying t).run P w = .ok d w := by
 simp [underlying, h]
theorem z5y {t : TypeId} {b : Bool} (h : tagg P t = some b) : (isAgg t).run P w = .ok b w := by
 unfold tagg at h
 unfold isAgg
 split at h
 ·rename_i d hd; cases h; simp [z05 hd]
 ·rename_i d hd; cases h; simp [z05 hd]
 ·rename_i d h1 h2 hd
  cases h
  cases d <;> first | (exact absurd rfl (h1 _)) | (exact absurd rfl (h2 _ _)) | simp [z05 hd]
 ·cases h
theorem zri {v : Value} {x : V} (h : cvC v = some x) : RepV g x v := by
 unfold cvC at h
 split at h <;> first | (cases h; done) | (cases h; simp [RepV, RepD])
theorem zhy : ∀ {l : List Value} {m : List V}, mapO cvC l = some m → RepVs g m l
 | [], m, h => by simp [mapO] at h; subst h; simp [RepVs]
 | x :: l, m, h => by
  simp only [mapO] at h
  split at h
  ·cases h
  ·rename_i y hy
   split at h
   ·cases h
   ·rename_i ys hys
    cases h
    exact z0u.2 ⟨zri hy, zhy hys⟩
theorem z50 : RepV g .undef Go.undef := by simp [RepV, RepVs, Go.undef]
theorem z0t {a : Act} {env : List V} (henv : RepVs g env a.tmps.toList) {x : Operand} {y : Opd} (h : cOpd x = some y) : RepV g (evO env y) (a.eval x) := by
 cases x with
 | tmp t =>
  simp only [cOpd, Option.some.injEq] at h
  subst h
  simp only [evO, Act.eval]
  by_cases ht : t < env.length
  ·have hl := henv.length
   obtain ⟨v, hv, hr⟩ := henv.get (i := t) (x := env[t]) (by simp [ht])
   have hv' : a.tmps[t]? = some v := by simpa using hv
   simp only [List.getD, ht, List.getElem?_eq_getElem, Option.getD_some, Array.getD_eq_getD_getElem?, hv']
   exact hr
  ·have hl := henv.length
   have h1 : env[t]? = none := List.getElem?_eq_none (Nat.le_of_not_lt ht)
   have h2 : a.tmps[t]? = none := by
    simp only [Array.length_toList] at hl
    exact Array.getElem?_eq_none (by rw [hl]; exact Nat.le_of_not_lt ht)
   simp only [List.getD, h1, Option.getD_none, Array.getD_eq_getD_getElem?, h2]
   exact z50
 | const v =>
  simp only [cOpd, Option.map_eq_some_iff] at h
  obtain ⟨x, hx, rfl⟩ := h
  exact zri hx
 | func f =>
  simp only [cOpd, Option.some.injEq] at h
  subst h
  simp [evO, Act.eval, RepV, RepVs]
 | global g => simp [cOpd] at h
theorem z8c {a : Act} {env : List V} (henv : RepVs g env a.tmps.toList) : ∀ {l : List Operand} {m : List Opd}, zec l = some m → RepVs g (m.map (evO env)) (l.map a.eval)
 | [], m, h => by simp [zec, mapO] at h; subst h; simp [RepVs]
 | x :: l, m, h => by
  simp only [zec, mapO] at h
  split at h
  ·cases h
  ·rename_i y hy
   split at h
   ·cases h
   ·rename_i ys hys
    cases h
    exact z0u.2 ⟨z0t henv hy, z8c henv hys⟩
theorem zbf : ∀ {cs : List V} {ds : List D}, allD cs = some ds → cs = ds.map V.d
 | [], ds, h => by simp [allD] at h; simp [← h]
 | .d x :: cs, ds, h => by
  simp only [allD, Option.map_eq_some_iff] at h
  obtain ⟨ys, hy, rfl⟩ := h
  simp [zbf hy]
 | .nilS :: _, _, h => by simp [allD] at h
 | .emp :: _, _, h => by simp [allD] at h
 | .arr _ _ _ _ _ :: _, _, h => by simp [allD] at h
 | .ptr _ _ :: _, _, h => by simp [allD] at h
 | .dptr _ :: _, _, h => by simp [allD] at h
 | .nilP :: _, _, h => by simp [allD] at h
 | .map _ :: _, _, h => by simp [allD] at h
 | .nilM :: _, _, h => by simp [allD] at h
 | .fn _ _ _ :: _, _, h => by simp [allD] at h
 | .yld _ :: _, _, h => by simp [allD] at h
 | .nilF :: _, _, h => by simp [allD] at h
 | .agg _ :: _, _, h => by simp [allD] at h
 | .tup _ :: _, _, h => by simp [allD] at h
theorem z10 : ∀ {ds : List D} {vs : List Value}, RepVs g (ds.map V.d) vs ↔ RepC g.H ds vs
 | [], vs => by simp [RepVs, RepC]
 | x :: ds, vs => by
  simp only [List.map_cons, RepVs, RepC, RepV]
  exact ⟨fun ⟨v, ws, e, h1, h2⟩ => ⟨v, ws, e, h1, z10.1 h2⟩, fun ⟨v, ws, e, h1, h2⟩ => ⟨v, ws, e, h1, z10.2 h2⟩⟩
theorem z95 {cs : List V} {vs : Array Value} (h : RepVs g cs vs.toList) : RepV g (mkAgg cs) (.agg vs) := by
 unfold mkAgg
 split
 ·rename_i ds hds
  have := zbf hds
  subst this
  simp only [RepV, RepD]
  exact ⟨vs, rfl, z10.1 h⟩
 ·simp only [RepV]
  exact ⟨vs, rfl, h⟩
theorem zc4 {ag : Bool} {cs : List V} {y : V} (h : ofCells ag cs = some y) {vs : List Value} (hr : RepVs g cs vs) :
  (ag = true → RepV g y (.agg vs.toArray)) ∧ (ag = false → ∃ u, vs = [u] ∧ RepV g y u) := by
 unfold ofCells at h
 cases ag with
 | true => simp only [if_true, Option.some.injEq] at h; subst h; exact ⟨fun _ => z95 (by simpa using hr), fun e => (by cases e)⟩
 | false =>
  simp only [Bool.false_eq_true, if_false] at h
  refine ⟨fun e => (by cases e), fun _ => ?_⟩
  split at h
  ·cases h
   obtain ⟨v, ws, rfl, h1, h2⟩ := by simpa only [RepVs] using hr
   exact ⟨v, by rw [h2], h1⟩
  ·cases h
theorem za7 {ag : Bool} {cs : List D} {y : V} (h : ofCellsD ag cs = some y) {vs : List Value} (hr : RepC g.H cs vs) :
  (ag = true → RepV g y (.agg vs.toArray)) ∧ (ag = false → ∃ u, vs = [u] ∧ RepV g y u) := by
 unfold ofCellsD at h
 cases ag with
 | true => simp only [if_true, Option.some.injEq] at h; subst h; exact ⟨fun _ => by simp only [RepV, RepD]; exact ⟨_, rfl, by simpa using hr⟩, fun e => (by cases e)⟩
 | false =>
  simp only [Bool.false_eq_true, if_false] at h
  refine ⟨fun e => (by cases e), fun _ => ?_⟩
  split at h
  ·cases h
   obtain ⟨v, ws, rfl, h1, h2⟩ := by simpa only [RepC] using hr
   exact ⟨v, by rw [h2], by simpa only [RepV] using h1⟩
  ·cases h
theorem RepD.cells {H : Still} {x : D} {v : Value} (h : RepD H x v) : RepC H (cellsD x) v.cells.toList := by
 cases x with
 | agg l =>
  simp only [RepD] at h
  obtain ⟨vs, rfl, h⟩ := h
  simpa [cellsD, Value.cells] using h
 | bool b => have h0 := h; simp only [RepD] at h; subst h; simpa [cellsD, Value.cells, RepC] using h0
 | int k n => have h0 := h; simp only [RepD] at h; subst h; simpa [cellsD, Value.cells, RepC] using h0
 | str s => have h0 := h; simp only [RepD] at h; obtain ⟨b, rfl, h⟩ := h; simpa [cellsD, Value.cells, RepC] using h0
 | sl l => have h0 := h; simp only [RepD] at h; obtain ⟨a, cap, rfl, h⟩ := h; simpa [cellsD, Value.cells, RepC] using h0
theorem z0x {x : V} {v : Value} (h : RepV g x v) (hv : v.cells = #[v]) (hc : cellsV x = [x]) : RepVs g (cellsV x) v.cells.toList := by
 rw [hc, hv]
 exact z0u.2 ⟨h, z1c⟩
theorem RepV.cells {x : V} {v : Value} (h : RepV g x v) : RepVs g (cellsV x) v.cells.toList := by
 cases x with
 | d x =>
  cases x with
  | agg l =>
   simp only [RepV, RepD] at h
   obtain ⟨vs, rfl, h⟩ := h
   simpa [cellsV, Value.cells, z10] using h
  | bool b => exact z0x h (by simp only [RepV, RepD] at h; subst h; rfl) rfl
  | int k n => exact z0x h (by simp only [RepV, RepD] at h; subst h; rfl) rfl
  | str s => exact z0x h (by simp only [RepV, RepD] at h; obtain ⟨b, rfl, h⟩ := h; rfl) rfl
  | sl l => exact z0x h (by simp only [RepV, RepD] at h; obtain ⟨a, cap, rfl, h⟩ := h; rfl) rfl
 | agg l =>
  simp only [RepV] at h
  obtain ⟨vs, rfl, h⟩ := h
  simpa [cellsV, Value.cells] using h
 | nilS => exact z0x h (by simp only [RepV] at h; subst h; rfl) rfl
 | emp => exact z0x h (by simp only [RepV] at h; obtain ⟨a, c, rfl⟩ := h; rfl) rfl
 | arr k es ag off len => exact z0x h (by simp only [RepV] at h; obtain ⟨_, _, _, _, rfl, _⟩ := h; rfl) rfl
 | ptr k off => exact z0x h (by simp only [RepV] at h; obtain ⟨_, _, rfl⟩ := h; rfl) rfl
 | dptr ds => exact z0x h (by simp only [RepV] at h; obtain ⟨b, o, rfl, _⟩ := h; rfl) rfl
 | nilP => exact z0x h (by simp only [RepV] at h; subst h; rfl) rfl
 | map k => exact z0x h (by simp only [RepV] at h; obtain ⟨_, _, rfl⟩ := h; rfl) rfl
 | nilM => exact z0x h (by simp only [RepV] at h; subst h; rfl) rfl
 | fn f a c => exact z0x h (by simp only [RepV] at h; obtain ⟨_, _, rfl, _⟩ := h; rfl) rfl
 | yld k => exact z0x h (by simp only [RepV] at h; obtain ⟨_, _, rfl⟩ := h; rfl) rfl
 | nilF => exact z0x h (by simp only [RepV] at h; subst h; rfl) rfl
 | tup l => exact z0x h (by simp only [RepV] at h; obtain ⟨vs, rfl, _⟩ := h; rfl) rfl
theorem RepD.oneCell {H : Still} {x : D} {v : Value} (hc : x.isCell = true) (h : RepD H x v) : v.oneCell' = true := by
 cases x with
 | agg l => simp [D.isCell] at hc
 | bool b => simp only [RepD] at h; subst h; rfl
 | int k n => simp only [RepD] at h; subst h; rfl
 | str s => simp only [RepD] at h; obtain ⟨b, rfl, h⟩ := h; rfl
 | sl l => simp only [RepD] at h; obtain ⟨a, cap, rfl, h⟩ := h; rfl
theorem RepV.oneCell {x : V} {v : Value} (hc : x.isCell = true) (h : RepV g x v) : v.oneCell' = true := by
 cases x with
 | d x => simp only [RepV] at h; exact RepD.oneCell (by simpa [V.isCell] using hc) h
 | agg l => simp [V.isCell] at hc
 | tup l => simp [V.isCell] at hc
 | nilS => simp only [RepV] at h; subst h; rfl
 | emp => simp only [RepV] at h; obtain ⟨a, c, rfl⟩ := h; rfl
 | arr k es ag off len => simp only [RepV] at h; obtain ⟨_, _, _, _, rfl, _⟩ := h; rfl
 | ptr k off => simp only [RepV] at h; obtain ⟨_, _, rfl⟩ := h; rfl
 | dptr ds => simp only [RepV] at h; obtain ⟨b, o, rfl, _⟩ := h; rfl
 | nilP => simp only [RepV] at h; subst h; rfl
 | map k => simp only [RepV] at h; obtain ⟨_, _, rfl⟩ := h; rfl
 | nilM => simp only [RepV] at h; subst h; rfl
 | fn f a c => simp only [RepV] at h; obtain ⟨_, _, rfl, _⟩ := h; rfl
 | yld k => simp only [RepV] at h; obtain ⟨_, _, rfl⟩ := h; rfl
 | nilF => simp only [RepV] at h; subst h; rfl
theorem RepVs.oneCells : ∀ {l : List V} {vs : List Value}, l.all V.isCell = true → RepVs g l vs → ∀ v ∈ vs, v.oneCell' = true
 | [], vs, _, h => by simp only [RepVs] at h; subst h; simp
 | x :: l, vs, hc, h => by
  simp only [RepVs] at h
  obtain ⟨v, ws, rfl, h1, h⟩ := h
  simp only [List.all_cons, Bool.and_eq_true] at hc
  intro u hu
  rcases List.mem_cons.1 hu with rfl | hu
  ·exact h1.oneCell hc.1
  ·exact RepVs.oneCells hc.2 h u hu
theorem z51 (hi : Inv P C st g w) {k : Nat} {cs : List V} (h : scells st.s k = some cs) :
  ∃ b vs, g.blk k = some b ∧ g.sz k = cs.length ∧ g.sz k ≤ g.tot k ∧ RepVs g cs vs ∧ ∀ (j : Nat) u, vs[j]? = some u → w.cell? ⟨b, g.sh k + j, none⟩ = some u := by
 unfold scells at h
 split at h
 ·rename_i cs' ho
  cases h
  obtain ⟨b, hb, hsz, _, arr, ty, hheap, hle, _, hr⟩ := hi.obj k _ ho
  refine ⟨b, _, hb, hsz, by omega, hr, fun j u hu => ?_⟩
  rw [z5s hheap]
  have := (z35 hu).1
  rw [List.getElem?_drop] at this
  simpa using this
 ·rename_i ds ho
  cases h
  obtain ⟨b, hb, hsz, htot, hr⟩ := hi.obj k _ ho
  have key : ∀ (l : List D) (off : Nat), RepP g.H b l off → ∃ vs, RepC g.H l vs ∧ ∀ (j : Nat) u, vs[j]? = some u → g.H b (off + j) = some u := by
   intro l
   induction l with
   | nil => intro off _; exact ⟨[], z7z, fun j u hu => by simp at hu⟩
   | cons x l ih =>
    intro off h
    simp only [RepP] at h
    obtain ⟨⟨y, h1, h2⟩, h⟩ := h
    obtain ⟨vs, h3, h4⟩ := ih _ h
    refine ⟨y :: vs, z1q.2 ⟨h2, h3⟩, fun j u hu => ?_⟩
    cases j with
    | zero => simp at hu; subst hu; exact h1
    | succ j => have := h4 j u (by simpa using hu); rwa [show off + 1 + j = off + (j + 1) by omega] at this
  obtain ⟨vs, h1, h2⟩ := key ds _ hr
  exact ⟨b, vs, hb, by simpa using hsz, by omega, z10.2 h1, fun j u hu => hi.H _ _ _ (h2 j u hu)⟩
 ·cases h
theorem z5w (b o j : Nat) : (⟨b, o, none⟩ : Addr).add j = ⟨b, o + j, none⟩ := by unfold Addr.add; split <;> simp_all
theorem z8j {t : TypeId} {n : Nat} {ag : Bool} (hn : z4b P t = some n) (ha : tagg P t = some ag) (hag : (ag || n == 1) = true) {b o : Nat} {us : List Value} (hl : us.length = n)
  (h : ∀ (j : Nat) u, us[j]? = some u → w.cell? ⟨b, o + j, none⟩ = some u) :
  ∃ u, (loadVar t ⟨b, o, none⟩).run P w = .ok u w ∧ (ag = true → u = .agg us.toArray) ∧ (ag = false → us = [u]) := by
 cases ag with
 | true =>
  refine ⟨.agg us.toArray, ?_, fun _ => rfl, fun e => (by cases e)⟩
  have hlc := run_loadCells_list (P := P) w ⟨b, o, none⟩ us (fun j v hv => by rw [z5w]; exact h j v hv)
  simp [loadVar, z5y ha, z1t hn, ← hl, hlc]
 | false =>
  simp only [Bool.false_or, beq_iff_eq] at hag
  obtain ⟨u, rfl⟩ := List.length_eq_one_iff.1 (hl.trans hag)
  refine ⟨u, ?_, fun e => (by cases e), fun _ => rfl⟩
  have := h 0 u (by simp)
  simp only [Nat.add_zero] at this
  simp [loadVar, z5y ha, this]
theorem RepP.cells {H : Still} {b : Nat} : ∀ {l : List D} {off : Nat}, RepP H b l off → ∃ vs, RepC H l vs ∧ ∀ (j : Nat) u, vs[j]? = some u → H b (off + j) = some u
 | [], _, _ => ⟨[], z7z, fun j u hu => by simp at hu⟩
 | x :: l, off, h => by
  simp only [RepP] at h
  obtain ⟨⟨y, h1, h2⟩, h⟩ := h
  obtain ⟨vs, h3, h4⟩ := RepP.cells h
  refine ⟨y :: vs, z1q.2 ⟨h2, h3⟩, fun j u hu => ?_⟩
  cases j with
  | zero => simp at hu; subst hu; exact h1
  | succ j => have := h4 j u (by simpa using hu); rwa [show off + 1 + j = off + (j + 1) by omega] at this
theorem zpp (hi : Inv P C st g w) {t : TypeId} {n : Nat} {ag : Bool} (hn : z4b P t = some n) (ha : tagg P t = some ag) (hag : (ag || n == 1) = true) {x y : V} {v : Value}
  (h : z1r st n ag x = some y) (hx : RepV g x v) : ∃ u, (Instr.loadAt t v).run P w = .ok u w ∧ RepV g y u := by
 cases x <;> simp only [z1r] at h <;> try (cases h; done)
 case ptr k off =>
  simp only [RepV] at hx
  obtain ⟨b', hb', hv⟩ := hx
  split at h
  ·rename_i cs hcs
   split at h
   ·rename_i hle
    obtain ⟨b, vs, hb, _, _, hr, hc⟩ := z51 hi hcs
    obtain rfl : b = b' := Option.some.inj (hb.symm.trans hb')
    subst hv
    have hl := hr.length
    obtain ⟨u, hu, h1, h2⟩ := z8j (P := P) (w := w) hn ha hag (b := b) (o := g.sh k + off) (us := (vs.drop off).take n) (by simp; omega) (fun j u hu => by
     have h3 := (z35 hu).1
     rw [List.getElem?_drop] at h3
     rw [Nat.add_assoc]
     exact hc _ _ h3)
    refine ⟨u, by simpa [Instr.loadAt, Instr.sureAddr] using hu, ?_⟩
    have hk := zc4 h (RepVs.take n (RepVs.drop off hr))
    cases ag with
    | true => rw [h1 rfl]; exact hk.1 rfl
    | false =>
     obtain ⟨u', e, h3⟩ := hk.2 rfl
     rw [h2 rfl] at e
     cases e
     exact h3
   ·cases h
  ·cases h
 case dptr ds =>
  simp only [RepV] at hx
  obtain ⟨b, off, rfl, hp⟩ := hx
  split at h
  ·rename_i hle
   obtain ⟨vs, hr, hc⟩ := RepP.cells hp
   have hl := hr.length
   obtain ⟨u, hu, h1, h2⟩ := z8j (P := P) (w := w) hn ha hag (b := b) (o := off) (us := vs.take n) (by simp; omega) (fun j u hu => by
     have h3 := (z35 hu).1
     exact hi.H _ _ _ (hc _ _ h3))
   refine ⟨u, by simpa [Instr.loadAt, Instr.sureAddr] using hu, ?_⟩
   have hk := za7 h (RepC.take n hr)
   cases ag with
   | true => rw [h1 rfl]; exact hk.1 rfl
   | false =>
    obtain ⟨u', e, h3⟩ := hk.2 rfl
    rw [h2 rfl] at e
    cases e
    exact h3
  ·cases h
end Go.Lift
namespace Go.Lift
open Go
variable {P : Program} {C : Bool → Program → Code → IC} {st : St} {g : Gh} {w : World}
theorem toList_eq (b : ByteArray) : b.toList = b.data.toList := ByteArray.toList_eq b
theorem zc6 : ∀ (x y : List UInt8), z5k (x.map UInt8.toNat) (y.map UInt8.toNat) = Op.bytesLess x y
 | _, [] => by cases ‹List UInt8› <;> rfl
 | [], _ :: _ => rfl
 | a :: x, b :: y => by
  simp only [List.map_cons, z5k, Op.bytesLess, zc6 x y]
  congr 1
  congr 1
  by_cases h : a = b
  ·simp [h]
  ·have : a.toNat ≠ b.toNat := fun e => h (UInt8.toNat_inj.1 e)
   simp [h, this]
theorem z7a {a b : List UInt8} (h : a.map UInt8.toNat = b.map UInt8.toNat) : a = b :=
 (List.map_inj_right (fun _ _ e => UInt8.toNat_inj.1 e)).1 h
theorem z57 (op : BinOp) (t : TypeId) (x y : Operand) (k j : IntKind) (m n : Int) : (eqGuard op t x y (.int k m) (.int j n)).run P w = .ok () w := by
 cases op <;> simp [eqGuard]
theorem zb1 (op : BinOp) (t : TypeId) (x y : Operand) (m n : ByteArray) : (eqGuard op t x y (.string m) (.string n)).run P w = .ok () w := by
 cases op <;> simp [eqGuard]
theorem y36 {op : BinOp} {t : TypeId} {x y : Operand} {a b r : V} {va vb : Value} (h : binV op a b = some r) (ha : RepV g a va) (hb : RepV g b vb) :
  ∃ u, ((do eqGuard op t x y va vb; binOp op t va vb : Sem Value)).run P w = .ok u w ∧ RepV g r u := by
 unfold binV at h
 split at h
 ·rename_i k m j n
  simp only [RepV, RepD] at ha hb
  subst ha; subst hb
  cases hs : z1y op with
  | true =>
   simp only [hs, if_true, Option.map_eq_some_iff] at h
   obtain ⟨d, hd, rfl⟩ := h
   unfold zew at hd
   split at hd
   ·cases hd
   ·rename_i hn
    cases op <;> simp only [z1y] at hs <;> try (cases hs; done)
    all_goals
     simp only [Option.some.injEq] at hd
     subst hd
     simp only [Sem.run_bind, z57, Result.andThen_ok, binOp, Op.shift, hn, if_false, Sem.run_pure]
     exact ⟨_, rfl, by simp only [RepV, RepD] <;> rfl⟩
  | false =>
   simp only [hs, Bool.false_eq_true, if_false] at h
   split at h
   ·rename_i hkj
    subst hkj
    simp only [Option.map_eq_some_iff] at h
    obtain ⟨d, hd, rfl⟩ := h
    cases op <;> simp only [z1y] at hs <;> simp only [binI] at hd <;> try (cases hs; done)
    case quo =>
     split at hd
     ·cases hd
     ·rename_i h0
      cases hd
      exact ⟨_, by simp [z57, binOp, Op.intDiv, h0]; rfl, by simp [RepV, RepD]⟩
    case rem =>
     split at hd
     ·cases hd
     ·rename_i h0
      cases hd
      exact ⟨_, by simp [z57, binOp, Op.intDiv, h0]; rfl, by simp [RepV, RepD]⟩
    all_goals
     cases hd
     simp only [Sem.run_bind, z57, Result.andThen_ok, binOp, Op.intArith, Op.intBits, Op.intCmp, not_true_eq_false, ne_eq, if_false, Sem.run_pure]
     exact ⟨_, rfl, by simp only [RepV, RepD] <;> rfl⟩
   ·cases h
 ·rename_i m n
  simp only [RepV, RepD] at ha hb
  obtain ⟨bm, rfl, hm⟩ := ha
  obtain ⟨bn, rfl, hn⟩ := hb
  simp only [Option.map_eq_some_iff] at h
  obtain ⟨d, hd, rfl⟩ := h
  have hl : z5k m n = Op.bytesLess bm.toList bn.toList := by rw [toList_eq, toList_eq, ← hm, ← hn, zc6]
  have he : decide (m = n) = (bm.toList == bn.toList) := by
   rw [toList_eq, toList_eq, Bool.eq_iff_iff]
   simp only [decide_eq_true_eq, beq_iff_eq, ← hm, ← hn]
   exact ⟨z7a, fun e => by rw [e]⟩
  have hsz : m.length = bm.size ∧ n.length = bn.size := ⟨by rw [← hm, List.length_map, Array.length_toList]; rfl, by rw [← hn, List.length_map, Array.length_toList]; rfl⟩
  cases op <;> simp only [binS] at hd <;> try (cases hd; done)
  case add =>
   split at hd
   ·rename_i hle
    cases hd
    have h1 : ¬ (((bm.size + bn.size : Nat) : Int) > IntKind.i64.max) := by
     have : IntKind.i64.max = 9223372036854775807 := by decide
     rw [this]; omega
    refine ⟨_, by simp only [Sem.run_bind, zb1, Result.andThen_ok, binOp, Op.stringOp, h1, if_false, Sem.run_pure]; rfl, ?_⟩
    simp only [RepV, RepD]
    exact ⟨_, rfl, by rw [← hm, ← hn, ← List.map_append]; congr 1⟩
   ·cases hd
  all_goals
   cases hd
   simp only [Sem.run_bind, zb1, Result.andThen_ok, binOp, Op.stringOp, Sem.run_pure]
   exact ⟨_, rfl, by simp only [RepV, RepD, hl, he]⟩
 ·cases h
theorem y3m {op : UnOp} {x r : V} {v : Value} (h : unV op x = some r) (hx : RepV g x v) : ∃ u, (Op.unary op v).run P w = .ok u w ∧ RepV g r u := by
 unfold unV at h
 split at h
 ·simp only [RepV, RepD] at hx
  subst hx
  cases op <;> simp only at h <;> try (cases h; done)
  cases h
  exact ⟨_, by simp [Op.unary]; rfl, by simp [RepV, RepD]⟩
 ·simp only [RepV, RepD] at hx
  subst hx
  cases op <;> simp only at h <;> try (cases h; done)
  ·cases h
   exact ⟨_, by simp [Op.unary, Op.intArith]; rfl, by simp [RepV, RepD]⟩
  ·cases h
   exact ⟨_, by simp [Op.unary, Op.intBits]; rfl, by simp [RepV, RepD]⟩
 ·cases h
theorem z5v {x : V} {v : Value} {n : Int} (h : asI x = some n) (hx : RepV g x v) : ∃ k, v = .int k n := by
 unfold asI at h
 split at h
 ·cases h; simp only [RepV, RepD] at hx; exact ⟨_, hx⟩
 ·cases h
end Go.Lift
