/- Part P0 of the proof. -/
import GoSem.Core.View
import GoSem.Core.Code
import GoSem.Core.Utf8
import GoSem.Core.Region
import Derived.DeepKeys2
import Derived.Calls
import GoSem.ClaimKeys
import Derived.Laws.Cells
import Derived.Laws.CopyRow
import Derived.Laws.StructEq
set_option linter.all false
set_option maxHeartbeats 4000000
set_option maxRecDepth 100000
namespace Go.Lift
open Go
theorem ω {p:Prop} (h:p:=by omega):p:=h
theorem ψ {p:Prop} (h:p:=by simp):p:=h
theorem aI {a b:Prop} (x:a) (y:b):a∧b:=⟨x,y⟩
inductive D where
 |bool (b:Bool)
 |int (k:IntKind) (n:Int)
 |str (s:List Nat)
 |sl (l:List D)
 |agg (cs:List D)
inductive V where
 |d (x:D)
 |nilS
 |emp
 |arr (k es:Nat) (ag:Bool) (off len:Nat)
 |ptr (k off:Nat)
 |dptr (cs:List D)
 |nilP
 |map (k:Nat)
 |nilM
 |fn (f:Nat) (first cap:List V)
 |yld (k:Nat)
 |nilF
 |agg (cs:List V)
 |tup (vs:List V)
abbrev V.undef:V:= .tup []
inductive Kc where
 |b
 |s
 |i (k:IntKind)
inductive Opd where
 |t (n:Nat)
 |c (v:V)
inductive Cal where
 |f (n:Nat)
 |o (x:Opd)
inductive IK where
 |mv (x:Opd)
 |pick (c a b:Opd)
 |alloc (ai:Nat) (zero:List V)
 |box (ai:Nat) (x:Opd)
 |build (zero:List V) (parts:List (Nat×Nat×Opd))
 |mkSl (ai es:Nat) (ag nofz:Bool) (zero:List V) (len:Nat) (parts:List (Nat×Opd))
 |load (n:Nat) (ag:Bool) (a:Opd)
 |store (n:Nat) (a x:Opd)
 |nilck (x:Opd)
 |bin (op:BinOp) (x y:Opd)
 |eqB (neg:Bool) (x y:Opd)
 |eqA (neg:Bool) (sh:List Kc) (x y:Opd)
 |eqNil (neg:Bool) (kd:Nat) (x:Opd)
 |un (op:UnOp) (x:Opd)
 |convI (k:IntKind) (x:Opd)
 |convS (x:Opd)
 |mkf (f:Nat) (first cap:List Opd)
 |mkmap (ai kt:Nat)
 |mkslice (ai es:Nat) (ag:Bool) (ebytes:Nat) (zero:List V) (len cap:Opd)
 |sliceS (x:Opd) (lo hi:Option Opd)
 |sliceL (es:Nat) (x:Opd) (lo hi:Option Opd)
 |sliceA (n es:Nat) (ag:Bool) (x:Opd) (lo hi:Option Opd)
 |faddr (off:Nat) (x:Opd)
 |field (off n:Nat) (ag:Bool) (x:Opd)
 |iaddrS (es:Nat) (x i:Opd)
 |iaddrA (len es:Nat) (x i:Opd)
 |indexA (len es:Nat) (ag:Bool) (x i:Opd)
 |indexS (x i:Opd)
 |lookup (kt:Nat) (ag:Bool) (sh:List Kc) (ok:Bool) (zero:V) (m k:Opd)
 |mapUpd (kt:Nat) (ag:Bool) (sh:List Kc) (m k x:Opd)
 |ext (i:Nat) (x:Opd)
 |len (str:Bool) (x:Opd)
 |lenM (x:Opd)
 |lenK (n:Nat)
 |capK (x:Opd)
 |append (ai es:Nat) (ag:Bool) (ebytes:Nat) (x y:Opd)
 |copy (es:Nat) (x y:Opd)
 |clearS (es:Nat) (zero:List V) (x:Opd)
 |mm (isMax:Bool) (xs:List Opd)
 |rangeS (ai:Nat) (x:Opd)
 |nextS (x:Opd)
 |call (f:Cal) (args:List Opd)
 |bad
structure IOp where
 dst:Option Nat
 op:IK
 gd:Option (Nat×Bool)
 keep:List Nat
inductive IC where
 |skip
 |reg (na:Nat) (ops:List IOp)
 |seq (a b:IC)
 |cond (c:Opd) (a b:IC)
 |block (id:Nat) (b:IC)
 |loop (b:IC)
 |rf (f:Opd) (ps:List Nat) (asg body:IC)
 |exit (id:Nat)
 |ret
 |bad
inductive Ex where
 |nrm
 |brk (id:Nat)
 |ret
 deriving DecidableEq
inductive Obj where
 |cells (cs:List V)
 |fz (ds:List D)
 |map (kt:Nat) (es:List (D×V))
 |loop (env:List V) (ps:List Nat) (asg body:IC) (st:LoopState) (pend:Option Ex)
 |iter (s:List Nat) (pos:Nat)
 |dfr
inductive IR where
 |t (n:Nat)
 |cell (t n:Nat) (ag:Bool)
structure IFun where
 nt:Nat
 body:IC
 res:List IR
 pure:Bool
 pop:Bool
 nf:Bool:=false
 nil2:Bool:=false
mutual
def D.beq:D→D→Bool
 | .bool a,.bool b=>a==b
 | .int k n,.int j m=>decide (k=j)&&decide (n=m)
 | .str s,.str t=>decide (s=t)
 | .sl l,.sl m=>D.beqL l m
 | .agg l,.agg m=>D.beqL l m
 |_,_=>false
def D.beqL:List D→List D→Bool
 | [],[]=>true
 |x::l,y::m=>D.beq x y&&D.beqL l m
 |_,_=>false
end
mutual
def V.beq:V→V→Bool
 | .d x,.d y=>D.beq x y
 | .nilS,.nilS=>true
 | .emp,.emp=>true
 | .arr k es ag off len,.arr k' es' ag' off' len' =>decide (k=k')&&decide (es=es')&& (ag==ag')&&decide (off=off')&&decide (len=len')
 | .ptr k off,.ptr k' off' =>decide (k=k')&&decide (off=off')
 | .dptr l,.dptr m=>D.beqL l m
 | .nilP,.nilP=>true
 | .map k,.map k' =>decide (k=k')
 | .nilM,.nilM=>true
 | .fn f a b,.fn g c e=>decide (f=g)&&V.beqL a c&&V.beqL b e
 | .yld k,.yld k' =>decide (k=k')
 | .nilF,.nilF=>true
 | .agg l,.agg m=>V.beqL l m
 | .tup l,.tup m=>V.beqL l m
 |_,_=>false
def V.beqL:List V→List V→Bool
 | [],[]=>true
 |x::l,y::m=>V.beq x y&&V.beqL l m
 |_,_=>false
end
def beqM:List (D×V)→List (D×V)→Bool
 | [],[]=>true
 | (a,x)::l,(b,y)::m=>D.beq a b&&V.beq x y&&beqM l m
 |_,_=>false
def Obj.beq:Obj→Obj→Bool
 | .cells a,.cells b=>V.beqL a b
 | .fz a,.fz b=>D.beqL a b
 | .map j a,.map k b=>decide (j=k)&&beqM a b
 | .iter s p,.iter t q=>decide (s=t)&&decide (p=q)
 |_,_=>false
def z8y:Kc→D→Bool
 | .b,.bool _=>true
 | .s,.str t=>decide (t.length≤4611686018427387904)
 | .i k,.int j n=>decide (k=j)&&decide (k.min≤n)&&decide (n≤k.max)
 |_,_=>false
def conf:List Kc→List D→Bool
 | [],[]=>true
 |c::cs,x::xs=>z8y c x&&conf cs xs
 |_,_=>false
def z2v (ag:Bool) (sh:List Kc):D→Bool
 | .agg ds=>ag&&conf sh ds
 |x=> !ag&&conf sh [x]
abbrev Sto:=List (Nat×Obj)
abbrev Lv:=List V
abbrev Ld:=List D
abbrev Ln:=List Nat
abbrev Lb:=List Bool
abbrev Li:=List Int
structure St where
 s:List (Nat×Obj)
 next:Nat
 low:Nat
variable{env env':Lv}{v:V}{b k n m s j:Nat}{o:Obj}
def sget:List (Nat×Obj)→Nat→Option Obj
 | [],_=>none
 | (k,o)::r,j=>if k=j then some o else sget r j
def sset:List (Nat×Obj)→Nat→Obj→List (Nat×Obj)
 | [],_,_=> []
 | (k,o)::r,j,x=>if k=j then (k,x)::r else (k,o)::sset r j x
def sdel:List (Nat×Obj)→Nat→List (Nat×Obj)
 | [],_=> []
 | (k,o)::r,j=>if k=j then sdel r j else (k,o)::sdel r j
def scells (s:List (Nat×Obj)) (k:Nat):Option (List V):=
 match sget s k with
 |some (.cells cs)=>some cs
 |some (.fz ds)=>some (ds.map V.d)
 |_=>none
def St.cells? (st:St) (k:Nat):Option (List V):=scells st.s k
def St.get (st:St) (k:Nat):Option Obj:=sget st.s k
def St.ins (st:St) (k:Nat) (o:Obj):St:= {st with s:= (k,o)::st.s}
def St.set (st:St) (k:Nat) (o:Obj):St:= {s:=sset st.s k o,next:=st.next,low:=Nat.min st.low k}
def St.del (st:St) (k:Nat):St:= {s:=sdel st.s k,next:=st.next,low:=Nat.min st.low k}
def allD:List V→Option (List D)
 | []=>some []
 | .d x::r=> (allD r).map (x:: ·)
 |_::_=>none
def mkAgg (cs:List V):V:=
 match allD cs with
 |some ds=> .d (.agg ds)
 |none=> .agg cs
def cellsD:D→List D
 | .agg ds=>ds
 |x=> [x]
def cellsV:V→List V
 | .agg vs=>vs
 | .d (.agg ds)=>ds.map V.d
 |x=> [x]
def D.isCell:D→Bool
 | .agg _=>false
 |_=>true
def V.isCell:V→Bool
 | .agg _=>false
 | .tup _=>false
 | .d x=>x.isCell
 |_=>true
def splice (cs:List V) (off:Nat) (xs:List V):List V:=cs.take off++xs++cs.drop (off+xs.length)
def ofCells (ag:Bool) (cs:List V):Option V:=
 if ag then some (mkAgg cs) else match cs with
  | [x]=>some x
  |_=>none
def ofCellsD (ag:Bool) (cs:List D):Option V:=
 if ag then some (.d (.agg cs)) else match cs with
  | [x]=>some (.d x)
  |_=>none
def z4z (es:Nat) (ag:Bool):Nat→List D→Option (List D)
 |0,[]=>some []
 |0,_::_=>none
 |n+1,l=>
  if l.length<es then none else
  match (if ag then some (D.agg (l.take es)) else match l.take es with| [x]=>some x|_=>none) with
  |none=>none
  |some x=> (z4z es ag n (l.drop es)).map (x:: ·)
def snap (s:List (Nat×Obj)) (b:Nat):Nat→V→Option D
 |0,_=>none
 |_+1,.d x=>some x
 |_+1,.nilS=>some (.sl [])
 |_+1,.emp=>some (.sl [])
 |n+1,.arr k es ag off len=>
  if k<b then none else
  match scells s k with
  |some cs=>
   if 0<es∧off+len*es≤cs.length then
    match ((cs.drop off).take (len*es)).mapM (snap s b n) with
    |some ds=>if ds.all D.isCell then (z4z es ag len ds).map D.sl else none
    |none=>none
   else none
  |none=>none
 |n+1,.agg vs=>
  match vs.mapM (snap s b n) with
  |some ds=>if ds.all D.isCell then some (.agg ds) else none
  |none=>none
 |_+1,_=>none
def z0e:Nat:=12
def D.flatC:D→Bool
 | .sl (_::_)=>false
 | .agg _=>false
 |_=>true
def D.flat:D→Bool
 | .sl (_::_)=>false
 | .agg cs=>cs.all D.flatC
 |_=>true
mutual
def V.under (b:Nat):V→Bool
 | .arr k _ _ _ _=>decide (k<b)
 | .ptr k _=>decide (k<b)
 | .map k=>decide (k<b)
 | .yld k=>decide (k<b)
 | .fn _ a c=>V.underL b a&&V.underL b c
 | .agg l=>V.underL b l
 | .tup l=>V.underL b l
 |_=>true
def V.underL (b:Nat):List V→Bool
 | []=>true
 |x::l=>V.under b x&&V.underL b l
end
def frzL (f:St→V→Option (V×St)):St→List V→Option (List V×St)
 |st,[]=>some ([],st)
 |st,x::r=>
  match f st x with
  |none=>none
  |some (y,st1)=>
   match frzL f st1 r with
   |none=>none
   |some (ys,st2)=>some (y::ys,st2)
def toDs:List V→Option (List D)
 | []=>some []
 | .d x::r=> (toDs r).map (x:: ·)
 | .nilS::r=> (toDs r).map (.sl []:: ·)
 | .emp::r=> (toDs r).map (.sl []:: ·)
 |_::_=>none
def frz:Nat→St→V→Option (V×St)
 |0,_,_=>none
 |n+1,st,.arr k es ag off len=>
  match st.get k with
  |some (.cells cs)=>
   if 0<es∧off+len*es≤cs.length then
    match frzL (frz n) st cs with
    |none=>none
    |some (ys,st')=>
     match toDs ys with
     |none=>none
     |some ds=>
      if ds.all D.isCell then
       match z4z es ag len ((ds.drop off).take (len*es)),st'.get k with
       |some l,some (.cells _)=>some (.d (.sl l),st'.set k (.fz ds))
       |_,_=>none
      else none
   else none
  |some (.fz ds)=>
   if 0<es∧off+len*es≤ds.length∧ds.all D.isCell then
    match z4z es ag len ((ds.drop off).take (len*es)) with
    |none=>none
    |some l=>some (.d (.sl l),st)
   else none
  |_=>none
 |n+1,st,.agg vs=>
  match frzL (frz n) st vs with
  |none=>none
  |some (ys,st')=>some (mkAgg ys,st')
 |_+1,st,v=>some (v,st)
def evO (env:List V):Opd→V
 | .t n=>env.getD n .undef
 | .c v=>v
def setE (env:List V) (dst:Option Nat) (v:V):List V:=
 match dst with
 |some n=>env.set n v
 |none=>env
def z6h:List Nat→List Nat→Bool
 |_,[]=>false
 | [],_::_=>true
 |a::x,b::y=>decide (a<b)|| (decide (a=b)&&z6h x y)
def binI (op:BinOp) (k:IntKind) (a b:Int):Option D:=
 match op with
 | .add=>some (.int k (k.wrap (a+b)))
 | .sub=>some (.int k (k.wrap (a-b)))
 | .mul=>some (.int k (k.wrap (a*b)))
 | .quo=>if b=0 then none else some (.int k (k.wrap (a.tdiv b)))
 | .rem=>if b=0 then none else some (.int k (a.tmod b))
 | .and=>some (.int k (k.wrap (BitVec.ofInt k.bits a&&&BitVec.ofInt k.bits b).toNat))
 | .or=>some (.int k (k.wrap (BitVec.ofInt k.bits a|||BitVec.ofInt k.bits b).toNat))
 | .xor=>some (.int k (k.wrap (BitVec.ofInt k.bits a^^^BitVec.ofInt k.bits b).toNat))
 | .andNot=>some (.int k (k.wrap (BitVec.ofInt k.bits a&&& ~~~ BitVec.ofInt k.bits b).toNat))
 | .eql=>some (.bool (decide (a=b)))
 | .neq=>some (.bool (!decide (a=b)))
 | .lss=>some (.bool (decide (a<b)))
 | .leq=>some (.bool (decide (a≤b)))
 | .gtr=>some (.bool (decide (b<a)))
 | .geq=>some (.bool (decide (b≤a)))
 | .shl=>none
 | .shr=>none
def binS (op:BinOp) (a b:List Nat):Option D:=
 match op with
 | .add=>if a.length+b.length≤4611686018427387904 then some (.str (a++b)) else none
 | .eql=>some (.bool (decide (a=b)))
 | .neq=>some (.bool (!decide (a=b)))
 | .lss=>some (.bool (z6h a b))
 | .leq=>some (.bool (z6h a b||decide (a=b)))
 | .gtr=>some (.bool (!(z6h a b||decide (a=b))))
 | .geq=>some (.bool (!z6h a b))
 |_=>none
def zh3 (op:BinOp) (k:IntKind) (a b:Int):Option D:=
 if b<0 then none else
 match op with
 | .shl=>some (.int k (k.wrap (a*2^ (Nat.min b.toNat k.bits))))
 | .shr=>some (.int k (a.fdiv (2^ (Nat.min b.toNat k.bits))))
 |_=>none
def z1r:BinOp→Bool
 | .shl=>true
 | .shr=>true
 |_=>false
def binV (op:BinOp):V→V→Option V
 | .d (.int k a),.d (.int j b)=>
  if z1r op then (zh3 op k a b).map V.d else if k=j then (binI op k a b).map V.d else none
 | .d (.str a),.d (.str b)=> (binS op a b).map V.d
 |_,_=>none
def zi1:Nat→V→Option Bool
 |0,.nilS=>some true
 |0,.arr _ _ _ _ _=>some false
 |0,.d (.sl (_::_))=>some false
 |0,.emp=>some false
 |1,.map _=>some false
 |1,.nilM=>some true
 |2,.fn _ _ _=>some false
 |2,.yld _=>some false
 |2,.nilF=>some true
 |3,.ptr _ _=>some false
 |3,.dptr _=>some false
 |3,.nilP=>some true
 |_,_=>none
def unV (op:UnOp):V→Option V
 | .d (.bool b)=>match op with
  | .not=>some (.d (.bool (!b)))
  |_=>none
 | .d (.int k n)=>match op with
  | .neg=>some (.d (.int k (k.wrap (0-n))))
  | .xor=>some (.d (.int k (k.wrap (BitVec.ofInt k.bits (if k.signed then -1 else k.max)^^^BitVec.ofInt k.bits n).toNat)))
  |_=>none
 |_=>none
def asI:V→Option Int
 | .d (.int _ n)=>some n
 |_=>none
def z3t (lo hi:Option V) (len most:Nat):Option (Nat×Nat):=
 match hi with
 |none=>
  match lo with
  |none=>some (0,len)
  |some l=>match asI l with
   |some l=>if 0≤l∧l≤(len:Int) then some (l.toNat,len) else none
   |none=>none
 |some h=>match asI h with
  |none=>none
  |some h=>
   if 0≤h∧h≤(most:Int) then
    match lo with
    |none=>some (0,h.toNat)
    |some l=>match asI l with
     |some l=>if 0≤l∧l≤h then some (l.toNat,h.toNat) else none
     |none=>none
   else none
def fillP:List V→List (Nat×Nat×V)→Option (List V)
 |cs,[]=>some cs
 |cs,(off,size,v)::r=>
  if (cellsV v).length=size∧off+size≤cs.length then fillP (splice cs off (cellsV v)) r else none
def frzP (env:List V):St→List (Nat×Opd)→Option (List (Nat×V)×St)
 |st,[]=>some ([],st)
 |st,(i,x)::r=>
  match frz z0e st (evO env x) with
  |none=>none
  |some (y,st1)=>
   match frzP env st1 r with
   |none=>none
   |some (ys,st2)=>some ((i,y)::ys,st2)
def z1s (st:St) (n:Nat) (ag:Bool):V→Option V
 | .ptr k off=>
  match st.cells? k with
  |some cs=>if off+n≤cs.length then ofCells ag ((cs.drop off).take n) else none
  |none=>none
 | .dptr ds=>if n≤ds.length then ofCellsD ag (ds.take n) else none
 |_=>none
def opStore (st:St) (n:Nat) (a x:V):Option St:=
 match a with
 | .ptr k off=>
  match st.get k with
  |some (.cells cs)=>
   if (cellsV x).length=n∧off+n≤cs.length∧(cellsV x).all V.isCell then some (st.set k (.cells (splice cs off (cellsV x)))) else none
  |_=>none
 |_=>none
def opFaddr (off:Nat):V→Option V
 | .ptr k o=>some (.ptr k (o+off))
 | .dptr ds=>if off≤ds.length then some (.dptr (ds.drop off)) else none
 |_=>none
def z97 (off n:Nat) (ag:Bool):V→Option V
 | .agg cs=>if off+n≤cs.length then ofCells ag ((cs.drop off).take n) else none
 | .d (.agg ds)=>if off+n≤ds.length then ofCellsD ag ((ds.drop off).take n) else none
 |_=>none
def z08 (es:Nat) (x:V) (i:Int):Option V:=
 match x with
 | .arr k es' _ off len=>if 0≤i∧i< (len:Int)∧es' =es then some (.ptr k (off+i.toNat*es)) else none
 | .d (.sl l)=>if 0≤i then (match l[i.toNat]? with|some y=>if (cellsD y).length=es then some (.dptr (cellsD y)) else none|none=>none) else none
 |_=>none
def z1i (len es:Nat) (x:V) (i:Int):Option V:=
 if 0≤i∧i< (len:Int) then
  match x with
  | .ptr k off=>some (.ptr k (off+i.toNat*es))
  | .dptr ds=>if i.toNat*es≤ds.length then some (.dptr (ds.drop (i.toNat*es))) else none
  |_=>none
 else none
def z87 (len es:Nat) (ag:Bool) (x:V) (i:Int):Option V:=
 if 0≤i∧i< (len:Int) then z97 (i.toNat*es) es ag x else none
def z4t (s:List Nat) (i:Int):Option V:=
 if 0≤i then (match s[i.toNat]? with|some b=>some (.d (.int .u8 (b:Int)))|none=>none) else none
def z22:List (D×V)→D→Option V
 | [],_=>none
 | (a,v)::r,k=>if D.beq a k then some v else z22 r k
def z2c:List (D×V)→D→V→List (D×V)
 | [],k,v=> [(k,v)]
 | (a,u)::r,k,v=>if D.beq a k then (a,v)::r else (a,u)::z2c r k v
def z27 (st:St) (kt:Nat) (ag:Bool) (sh:List Kc) (ok:Bool) (zero:V) (m k:V):Option V:=
 match k with
 | .d kd=>
  if z2v ag sh kd then
   match m with
   | .nilM=>some (if ok then .tup [zero,.d (.bool false)] else zero)
   | .map j=>
    match st.get j with
    |some (.map kt' es)=>
     if kt' =kt then
      match z22 es kd with
      |some v=>some (if ok then .tup [v,.d (.bool true)] else v)
      |none=>some (if ok then .tup [zero,.d (.bool false)] else zero)
     else none
    |_=>none
   |_=>none
  else none
 |_=>none
def z5w (st:St) (kt:Nat) (ag:Bool) (sh:List Kc) (m k x:V):Option St:=
 match k with
 | .d kd=>
  if z2v ag sh kd then
   match m with
   | .map j=>
    match st.get j with
    |some (.map kt' es)=>if kt' =kt then some (st.set j (.map kt (z2c es kd x))) else none
    |_=>none
   |_=>none
  else none
 |_=>none
def opLen:Bool→V→Option Nat
 |true,.d (.str s)=>some s.length
 |false,.d (.sl l)=>some l.length
 |false,.nilS=>some 0
 |false,.emp=>some 0
 |false,.arr _ _ _ _ len=>some len
 |_,_=>none
def z5c (st:St):V→Option Nat
 | .nilM=>some 0
 | .map k=>match st.get k with
  |some (.map _ es)=>some es.length
  |_=>none
 |_=>none
def rdSl (st:St) (es:Nat):V→Option (List V×Nat)
 | .nilS=>some ([],0)
 | .emp=>some ([],0)
 | .d (.sl l)=>if (l.flatMap cellsD).length=l.length*es then some ((l.flatMap cellsD).map V.d,l.length) else none
 | .arr k es' _ off len=>
  match st.cells? k with
  |some cs=>if off+len*es≤cs.length∧es' =es then some ((cs.drop off).take (len*es),len) else none
  |none=>none
 |_=>none
def z0v (st:St) (key es:Nat) (ag:Bool) (ebytes:Nat) (x y:V):Option (V×St):=
 match rdSl st es y with
 |none=>none
 |some (ys,n)=>
  match x with
  | .nilS=>
   if n=0 then some (.nilS,st) else
   if n*ebytes≤70368744177664∧n≤70368744177664∧ys.all V.isCell then some (.arr key es ag 0 n,st.ins key (.cells ys)) else none
  | .arr k es' ag' off len=>
   match st.get k with
   |some (.cells cs)=>
    if es' =es∧ag' =ag∧(len+n)*ebytes≤70368744177664∧len+n≤70368744177664∧ys.all V.isCell then
     if off=0∧len*es=cs.length then
      some (.arr key es ag 0 (len+n),(st.del k).ins key (.cells (cs++ys)))
     else if off+ (len+n)*es≤cs.length then
      some (.arr key es ag off (len+n),(st.del k).ins key (.cells (splice cs (off+len*es) ys)))
     else if off+len*es=cs.length then
      some (.arr key es ag 0 (len+n),(st.del k).ins key (.cells (cs.drop off++ys)))
     else none
    else none
   |_=>none
  |_=>none
def z5d (st:St) (es:Nat) (x y:V):Option (V×St):=
 match rdSl st es y with
 |none=>none
 |some (ys,n)=>
  match x with
  | .nilS=>some (.d (.int .i64 0),st)
  | .emp=>some (.d (.int .i64 0),st)
  | .arr k es' _ off len=>
   match st.get k with
   |some (.cells cs)=>
    if es' =es∧off+len*es≤cs.length∧ys.all V.isCell then
     some (.d (.int .i64 (Nat.min n len:Nat)),st.set k (.cells (splice cs off (ys.take (Nat.min n len*es)))))
    else none
   |_=>none
  |_=>none
def z88 (st:St) (es:Nat) (zero:List V) (x:V):Option St:=
 match x with
 | .nilS=>some st
 | .emp=>some st
 | .d (.sl [])=>some st
 | .arr k es' _ off len=>
  if len=0 then some st else
  match st.get k with
  |some (.cells cs)=>
   if es' =es∧off+len*es≤cs.length∧zero.length=es∧zero.all V.isCell then
    some (st.set k (.cells (splice cs off (List.replicate len zero).flatten)))
   else none
  |_=>none
 |_=>none
def z3a (isMax:Bool):List V→Option V
 | []=>none
 | [.d (.int k n)]=>some (.d (.int k n))
 | .d (.int k n):: .d (.int j m)::r=>
  if k=j then z3a isMax (.d (.int k (if isMax then (if m>n then m else n) else (if m<n then m else n)))::r) else none
 |_=>none
termination_by l=>l.length
def y13 (es:Nat):List D→Bool
 | []=>true
 |x::_=> (cellsD x).length==es
def evalOp (base:Nat) (env:List V) (st:St):IK→Option (V×St)
 | .mv x=>some (evO env x,st)
 | .pick c a b=>match evO env c with
  | .d (.bool t)=>some (if t then evO env a else evO env b,st)
  |_=>none
 | .alloc ai zero=>some (.ptr (base+ai) 0,st.ins (base+ai) (.cells zero))
 | .box ai x=>if (cellsV (evO env x)).all V.isCell then some (.ptr (base+ai) 0,st.ins (base+ai) (.cells (cellsV (evO env x)))) else none
 | .build zero parts=>match fillP zero (parts.map fun (o,s,x)=> (o,s,evO env x)) with
  |some cs=>some (mkAgg cs,st)
  |none=>none
 | .mkSl ai es ag nofz zero len parts=>
  match (if nofz then some (parts.map fun (i,x)=> (i,evO env x),st) else frzP env st parts) with
  |none=>none
  |some (ps,st1)=>
   if len*es≤16777216∧zero.length=es then
    match fillP (List.replicate len zero).flatten (ps.map fun (i,v)=> (i*es,es,v)) with
    |some cs=>if cs.all V.isCell then some (.arr (base+ai) es ag 0 len,st1.ins (base+ai) (.cells cs)) else none
    |none=>none
   else none
 | .load n ag a=>match z1s st n ag (evO env a) with
  |some v=>some (v,st)
  |none=>none
 | .store n a x=>match opStore st n (evO env a) (evO env x) with
  |some st' =>some (.undef,st')
  |none=>none
 | .nilck x=>match evO env x with
  | .ptr k o=>some (.ptr k o,st)
  | .dptr ds=>some (.dptr ds,st)
  | .fn f a b=>some (.fn f a b,st)
  |_=>none
 | .bin op x y=>match binV op (evO env x) (evO env y) with
  |some v=>some (v,st)
  |none=>none
 | .eqB neg x y=>match evO env x,evO env y with
  | .d (.bool a),.d (.bool b)=>some (.d (.bool ((a==b) !=neg)),st)
  |_,_=>none
 | .eqA neg sh x y=>match evO env x,evO env y with
  | .d a,.d b=>if z2v true sh a&&z2v true sh b then some (.d (.bool (D.beq a b !=neg)),st) else none
  |_,_=>none
 | .eqNil neg kd x=>match zi1 kd (evO env x) with
  |some b=>some (.d (.bool (b !=neg)),st)
  |none=>none
 | .un op x=>match unV op (evO env x) with
  |some v=>some (v,st)
  |none=>none
 | .convI k x=>match asI (evO env x) with
  |some n=>some (.d (.int k (k.wrap n)),st)
  |none=>none
 | .convS x=>match asI (evO env x) with
  |some n=>if 0≤n∧n<128 then some (.d (.str [n.toNat]),st) else none
  |none=>none
 | .mkf f first cap=>some (.fn f (first.map (evO env)) (cap.map (evO env)),st)
 | .mkmap ai kt=>some (.map (base+ai),st.ins (base+ai) (.map kt []))
 | .mkslice ai es ag ebytes zero len cap=>match asI (evO env len),asI (evO env cap) with
  |some l,some c=>
   if 0≤l∧l≤c∧c*ebytes≤70368744177664∧c≤70368744177664∧zero.length=es∧zero.all V.isCell then
    some (.arr (base+ai) es ag 0 l.toNat,st.ins (base+ai) (.cells (List.replicate c.toNat zero).flatten))
   else none
  |_,_=>none
 | .sliceS x lo hi=>match evO env x with
  | .d (.str s)=>match z3t (lo.map (evO env)) (hi.map (evO env)) s.length s.length with
   |some (l,h)=>some (.d (.str ((s.drop l).take (h-l))),st)
   |none=>none
  |_=>none
 | .sliceL es x lo hi=>match evO env x with
  | .d (.sl l)=>match z3t (lo.map (evO env)) (hi.map (evO env)) l.length l.length with
   |some (a,b)=>if y13 es l then some (.d (.sl ((l.drop a).take (b-a))),st) else none
   |none=>none
  | .nilS=>match z3t (lo.map (evO env)) (hi.map (evO env)) 0 0 with
   |some _=>some (.nilS,st)
   |none=>none
  | .emp=>match z3t (lo.map (evO env)) (hi.map (evO env)) 0 0 with
   |some _=>some (.emp,st)
   |none=>none
  | .arr k es' ag off len=>
   match st.cells? k with
   |some cs=>
    match z3t (lo.map (evO env)) (hi.map (evO env)) len (if es=0 then len else (cs.length-off)/es) with
    |some (a,b)=>if es' =es∧off+len*es≤cs.length then some (.arr k es ag (off+a*es) (b-a),st) else none
    |none=>none
   |none=>none
  |_=>none
 | .sliceA n es ag x lo hi=>match evO env x with
  | .ptr k off=>
   match st.cells? k with
   |some cs=>
    match z3t (lo.map (evO env)) (hi.map (evO env)) n n with
    |some (a,b)=>if off+n*es=cs.length then some (.arr k es ag (off+a*es) (b-a),st) else none
    |none=>none
   |none=>none
  |_=>none
 | .faddr off x=>match opFaddr off (evO env x) with
  |some v=>some (v,st)
  |none=>none
 | .field off n ag x=>match z97 off n ag (evO env x) with
  |some v=>some (v,st)
  |none=>none
 | .iaddrS es x i=>match asI (evO env i) with
  |some i=>match z08 es (evO env x) i with
   |some v=>some (v,st)
   |none=>none
  |none=>none
 | .iaddrA len es x i=>match asI (evO env i) with
  |some i=>match z1i len es (evO env x) i with
   |some v=>some (v,st)
   |none=>none
  |none=>none
 | .indexA len es ag x i=>match asI (evO env i) with
  |some i=>match z87 len es ag (evO env x) i with
   |some v=>some (v,st)
   |none=>none
  |none=>none
 | .indexS x i=>match evO env x,asI (evO env i) with
  | .d (.str s),some i=>match z4t s i with
   |some v=>some (v,st)
   |none=>none
  |_,_=>none
 | .lookup kt ag sh ok zero m k=>match z27 st kt ag sh ok zero (evO env m) (evO env k) with
  |some v=>some (v,st)
  |none=>none
 | .mapUpd kt ag sh m k x=>match z5w st kt ag sh (evO env m) (evO env k) (evO env x) with
  |some st' =>some (.undef,st')
  |none=>none
 | .ext i x=>match evO env x with
  | .tup vs=>match vs[i]? with
   |some v=>some (v,st)
   |none=>none
  |_=>none
 | .len s x=>match opLen s (evO env x) with
  |some n=>some (.d (.int .i64 (n:Nat)),st)
  |none=>none
 | .lenM x=>match z5c st (evO env x) with
  |some n=>some (.d (.int .i64 (n:Nat)),st)
  |none=>none
 | .lenK n=>some (.d (.int .i64 (n:Nat)),st)
 | .capK x=>match evO env x with
  | .nilS=>some (.d (.int .i64 0),st)
  |_=>none
 | .append ai es ag ebytes x y=>z0v st (base+ai) es ag ebytes (evO env x) (evO env y)
 | .copy es x y=>z5d st es (evO env x) (evO env y)
 | .clearS es zero x=>match z88 st es zero (evO env x) with
  |some st' =>some (.undef,st')
  |none=>none
 | .mm isMax xs=>match z3a isMax (xs.map (evO env)) with
  |some v=>some (v,st)
  |none=>none
 | .rangeS ai x=>match evO env x with
  | .d (.str s)=>some (.ptr (base+ai) 0,st.ins (base+ai) (.iter s 0))
  |_=>none
 | .nextS x=>match evO env x with
  | .ptr k 0=>match st.get k with
   |some (.iter s pos)=>
    match s[pos]? with
    |none=>some (.tup [.d (.bool false)],st)
    |some b=>if b<128 then some (.tup [.d (.bool true),.d (.int .i64 (pos:Nat)),.d (.int .i32 (b:Nat))],st.set k (.iter s (pos+1))) else none
   |_=>none
  |_=>none
 | .call _ _=>none
 | .bad=>none
def kept (env:List V) (a b:St):List Nat→Bool
 | []=>true
 |t::r=>
  (match env.getD t .undef with
   | .ptr k _=>match a.get k,b.get k with
    |some o,some p=>Obj.beq o p
    |_,_=>false
   | .map k=>match a.get k,b.get k with
    |some o,some p=>Obj.beq o p
    |_,_=>false
   | .arr k _ _ _ _=>match a.get k,b.get k with
    |some o,some p=>Obj.beq o p
    |_,_=>false
   |_=>true)&&kept env a b r
def wantedE (env:List V):Option (Nat×Bool)→Bool
 |none=>true
 |some (t,want)=>match env.getD t .undef with
  | .d (.bool b)=>b==want
  |_=>false
abbrev z12:=V→List V→St→Option (V×St)
def calV (env:List V):Cal→V
 | .f n=> .fn n [] []
 | .o x=>evO env x
def evalIOp (call:z12) (base:Nat) (env:List V) (st:St) (o:IOp):Option (V×St):=
 match o.op with
 | .call f args=>call (calV env f) (args.map (evO env)) st
 |op=>evalOp base env st op
def z0m (call:z12) (base:Nat):List IOp→List V→St→Option (List V×St)
 | [],env,st=>some (env,st)
 |o::r,env,st=>
  if wantedE env o.gd then
   match evalIOp call base env st o with
   |none=>none
   |some (v,st')=>if kept env st st' o.keep then z0m call base r (setE env o.dst v) st' else none
  else z0m call base r (setE env o.dst .undef) st
def zbd (env:List V):List Nat→List V→Option (List V)
 | [],[]=>some env
 |p::ps,v::vs=>zbd (env.set p v) ps vs
 |_,_=>none
def rounds (f:List V→St→Option (Ex×List V×St)):Nat→List V→St→Option (Ex×List V×St)
 |0,_,_=>none
 |n+1,env,st=>
  match f env st with
  |some (.nrm,env',st')=>rounds f n env' st'
  |r=>r
def okRd (st:St):Option Nat→Bool
 |none=>true
 |some k=>match st.get k with
  |some (.loop _ _ _ _ _ _)=>true
  |_=>false
def z1f (call:z12) (n:Nat) (rd:Option Nat):IC→List V→St→Option (Ex×List V×St)
 | .skip,env,st=>some (.nrm,env,st)
 | .reg na ops,env,st=>
  match z0m call st.next ops env {st with next:=st.next+na} with
  |some (env',st')=>some (.nrm,env',st')
  |none=>none
 | .seq a b,env,st=>
  match z1f call n rd a env st with
  |some (.nrm,env',st')=>z1f call n rd b env' st'
  |r=>r
 | .cond c a b,env,st=>
  match evO env c with
  | .d (.bool t)=>if t then z1f call n rd a env st else z1f call n rd b env st
  |_=>none
 | .block id b,env,st=>
  match z1f call n rd b env st with
  |some (.brk j,env',st')=>some (if j=id then .nrm else .brk j,env',st')
  |r=>r
 | .loop b,env,st=>rounds (z1f call n rd b) n env st
 | .exit id,env,st=>some (.brk id,env,st)
 | .ret,env,st=>some (.ret,env,st)
 | .bad,_,_=>none
 | .rf f ps asg body,env,st=>
  if okRd st rd then
   match evO env f with
   | .fn fn first cap=>
    match call (.fn fn first cap) [.yld st.next] {s:= (st.next,.loop env ps asg body .ready none)::st.s,next:=st.next+1,low:=st.low} with
    |none=>none
    |some (_,st')=>
     match st'.get st.next with
     |some (.loop _ _ _ _ ls pend)=>
      match ls with
      | .busy=>none
      |_=>
       match pend with
       |none=>some (.nrm,env,st'.del st.next)
       |some x=>some (x,env,st'.del st.next)
     |_=>none
   |_=>none
  else none
def resV (st:St) (env:List V):IR→Option V
 | .t n=>some (env.getD n .undef)
 | .cell t n ag=>z1s st n ag (env.getD t .undef)
def z2h (st:St) (env:List V):List IR→Option (List V)
 | []=>some []
 |r::rs=>match resV st env r with
  |none=>none
  |some v=>match z2h st env rs with
   |none=>none
   |some vs=>some (v::vs)
def tupV:List V→V
 | [v]=>v
 |vs=> .tup vs
def z0p (s:Sto) (b:Nat):List V→Option (List D)
 | []=>some []
 |v::r=>match snap s b z0e v with
  |none=>none
  |some x=> (z0p s b r).map (x:: ·)
def z3v (call:z12) (n:Nat) (F:IFun) (args:List V) (st:St):Option (List V×St):=
 match z1f call n none F.body (args++List.replicate (F.nt-args.length) .undef) st with
 |some (.brk _,_,_)=>none
 |some (_,env',st')=>match z2h st' env' F.res with
  |some vs=>some (vs,st')
  |none=>none
 |none=>none
def outV (s:Sto) (b:Nat) (v:V):Option V:=
 if v.under b then some v else (snap s b z0e v).map V.d
def z7a (s:Sto) (b:Nat):List V→Option (List V)
 | []=>some []
 |v::r=>match outV s b v with
  |none=>none
  |some x=> (z7a s b r).map (x:: ·)
def z3y (call:z12) (n:Nat) (k:Nat) (args:List V) (st:St):Option (V×St):=
 match st.get k with
 |some (.loop env ps asg body .ready none)=>
  match zbd env ps args with
  |none=>none
  |some env1=>
   match z1f call n (some k) asg env1 st with
   |some (.nrm,env2,st2)=>
    match st2.get k with
    |some (.loop e2 p2 a2 b2 .ready none)=>
     match z1f call n (some k) body env2 (st2.set k (.loop e2 p2 a2 b2 .busy none)) with
     |some (x,_,st3)=>
      match st3.get k with
      |some (.loop e3 p3 a3 b3 .busy none)=>
       match x with
       | .nrm=>some (.d (.bool true),st3.set k (.loop e3 p3 a3 b3 .ready none))
       |x=>some (.d (.bool false),st3.set k (.loop e3 p3 a3 b3 .done (some x)))
      |_=>none
     |none=>none
    |_=>none
   |_=>none
 |_=>none
def ze8:List V→Bool
 | [.d (.sl [])]=>true
 |_=>false
def call (G:Nat→Option IFun):Nat→z12
 |0,_,_,_=>none
 |n+1,.fn f first cap,args,st=>
  match G f with
  |none=>none
  |some F=>
   if F.nil2&&ze8 (first++args++cap) then
    match z3v (call G n) n F [.nilS] {s:= [],next:=0,low:=0},z3v (call G n) n F [.emp] {s:= [],next:=0,low:=0} with
    |some (vs1,st1),some (vs2,st2)=>
     match z0p st1.s 0 vs1,z0p st2.s 0 vs2 with
     |some rs1,some rs2=>if rs1.all D.flat&&D.beqL rs1 rs2 then some (tupV (rs1.map V.d),st) else none
     |_,_=>none
    |_,_=>none
   else
   if F.pure then
    match z0p st.s 0 (first++args++cap) with
    |none=>none
    |some ds=>
     match z3v (call G n) n F (ds.map V.d) {s:= [],next:=0,low:=0} with
     |none=>none
     |some (vs,st1)=>
      match z0p st1.s 0 vs with
      |none=>none
      |some rs=>
       if rs.all D.flat then some (tupV (rs.map V.d),st) else
       match frzL (frz z0e) st (first++args++cap) with
       |none=>none
       |some (ys,st2)=>
        match z0p [] 0 ys with
        |none=>none
        |some es=>if D.beqL es ds then some (tupV (rs.map V.d),st2) else none
   else
    match z3v (call G n) n F (first++args++cap) {s:=st.s,next:=st.next,low:=st.next} with
    |none=>none
    |some (vs,st1)=>
     if F.pop&&decide (st.next≤st1.low) then
      match z7a st1.s st.next vs with
      |none=>none
      |some us=>some (tupV us,st)
     else some (tupV vs,{s:=st1.s,next:=st1.next,low:=Nat.min st.low st1.low})
 |n+1,.yld k,args,st=>z3y (call G n) n k args st
 |_+1,_,_,_=>none
def optL {α:Type} :Option α→List α
 |none=> []
 |some x=> [x]
def z0s:IK→List Opd
 | .mv x=> [x]
 | .pick c a b=> [c,a,b]
 | .alloc _ _=> []
 | .box _ x=> [x]
 | .build _ parts=>parts.map fun p=>p.2.2
 | .mkSl _ _ _ _ _ _ parts=>parts.map Prod.snd
 | .load _ _ a=> [a]
 | .store _ a x=> [a,x]
 | .nilck x=> [x]
 | .bin _ x y=> [x,y]
 | .eqB _ x y=> [x,y]
 | .eqA _ _ x y=> [x,y]
 | .eqNil _ _ x=> [x]
 | .un _ x=> [x]
 | .convI _ x=> [x]
 | .convS x=> [x]
 | .mkf _ first cap=>first++cap
 | .mkmap _ _=> []
 | .mkslice _ _ _ _ _ len cap=> [len,cap]
 | .sliceS x lo hi=>x:: (optL lo++optL hi)
 | .sliceL _ x lo hi=>x:: (optL lo++optL hi)
 | .sliceA _ _ _ x lo hi=>x:: (optL lo++optL hi)
 | .faddr _ x=> [x]
 | .field _ _ _ x=> [x]
 | .iaddrS _ x i=> [x,i]
 | .iaddrA _ _ x i=> [x,i]
 | .indexA _ _ _ x i=> [x,i]
 | .indexS x i=> [x,i]
 | .lookup _ _ _ _ _ m k=> [m,k]
 | .mapUpd _ _ _ m k x=> [m,k,x]
 | .ext _ x=> [x]
 | .len _ x=> [x]
 | .lenM x=> [x]
 | .lenK _=> []
 | .capK x=> [x]
 | .append _ _ _ _ x y=> [x,y]
 | .copy _ x y=> [x,y]
 | .clearS _ _ x=> [x]
 | .mm _ xs=>xs
 | .rangeS _ x=> [x]
 | .nextS x=> [x]
 | .call f args=>match f with
  | .f _=>args
  | .o x=>x::args
 | .bad=> []
def Agree (env env' :List V) (l:List Opd):Prop:=∀x∈l,evO env x=evO env' x
def Agree.map  {l:List Opd} (h:Agree env env' l):l.map (evO env)=l.map (evO env'):=List.map_congr_left h
def Agree.opt  {x:Option Opd} (h:Agree env env' (optL x)):x.map (evO env)=x.map (evO env'):=by
 cases x with
 |none=>rfl
 |some x=>simp only[Option.map_some];rw[h x (by simp[optL])]
theorem zec {env env' :List V} :∀{ps:List (Nat×Opd)} {st:St},Agree env env' (ps.map Prod.snd)→frzP env st ps=frzP env' st ps
 | [],_,_=>rfl
 | (i,x)::ps,st,h=>by
  have hx:=h x ψ
  have hr:Agree env env' (ps.map Prod.snd):=fun y hy=>h y (by simp at hy⊢;exact .inr hy)
  simp only[frzP,hx]
  split
  ·rfl
  ·rw[zec hr]
def zi9  {base:Nat} {st:St} (k:IK) (h:Agree env env' (z0s k)):evalOp base env st k=evalOp base env' st k:=by
 cases k with
 |build z parts=>
  have:parts.map (fun (o,s,x)=> (o,s,evO env x))=parts.map (fun (o,s,x)=> (o,s,evO env' x)):=List.map_congr_left fun p hp=>by
   have:=h p.2.2 (List.mem_map.2 ⟨p,hp,rfl⟩)
   obtain⟨o,s,x⟩:=p
   simp only at this⊢
   rw[this]
  simp only[evalOp,this]
 |mkSl ai es ag nofz z len parts=>
  have h1:parts.map (fun (i,x)=> (i,evO env x))=parts.map (fun (i,x)=> (i,evO env' x)):=List.map_congr_left fun p hp=>by
   have:=h p.2 (List.mem_map.2 ⟨p,hp,rfl⟩)
   obtain⟨o,x⟩:=p
   simp only at this⊢
   rw[this]
  have h2:=zec (st:=st) h
  simp only[evalOp,h1,h2]
 |mkf f first cap=>
  have h1:Agree env env' first:=fun x hx=>h x (by simp[z0s,hx])
  have h2:Agree env env' cap:=fun x hx=>h x (by simp[z0s,hx])
  simp only[evalOp,h1.map,h2.map]
 |mm isMax xs=>
  have h1:Agree env env' xs:=h
  simp only[evalOp,h1.map]
 |sliceS x lo hi=>
  have h0:=h x (by simp[z0s])
  have h1:Agree env env' (optL lo):=fun y hy=>h y (by simp[z0s,hy])
  have h2:Agree env env' (optL hi):=fun y hy=>h y (by simp[z0s,hy])
  simp only[evalOp,h0,h1.opt,h2.opt]
 |sliceL es x lo hi=>
  have h0:=h x (by simp[z0s])
  have h1:Agree env env' (optL lo):=fun y hy=>h y (by simp[z0s,hy])
  have h2:Agree env env' (optL hi):=fun y hy=>h y (by simp[z0s,hy])
  simp only[evalOp,h0,h1.opt,h2.opt]
 |sliceA n es ag x lo hi=>
  have h0:=h x (by simp[z0s])
  have h1:Agree env env' (optL lo):=fun y hy=>h y (by simp[z0s,hy])
  have h2:Agree env env' (optL hi):=fun y hy=>h y (by simp[z0s,hy])
  simp only[evalOp,h0,h1.opt,h2.opt]
 |alloc ai z=>rfl
 |mkmap ai kt=>rfl
 |lenK n=>rfl
 |call f args=>rfl
 |bad=>rfl
 |mv x=>simp only[evalOp,h x (by simp[z0s])]
 |box ai x=>simp only[evalOp,h x (by simp[z0s])]
 |nilck x=>simp only[evalOp,h x (by simp[z0s])]
 |eqNil n k x=>simp only[evalOp,h x (by simp[z0s])]
 |un o x=>simp only[evalOp,h x (by simp[z0s])]
 |convI k x=>simp only[evalOp,h x (by simp[z0s])]
 |convS x=>simp only[evalOp,h x (by simp[z0s])]
 |load n ag x=>simp only[evalOp,h x (by simp[z0s])]
 |faddr o x=>simp only[evalOp,h x (by simp[z0s])]
 |field o n ag x=>simp only[evalOp,h x (by simp[z0s])]
 |ext i x=>simp only[evalOp,h x (by simp[z0s])]
 |len s x=>simp only[evalOp,h x (by simp[z0s])]
 |lenM x=>simp only[evalOp,h x (by simp[z0s])]
 |capK x=>simp only[evalOp,h x (by simp[z0s])]
 |clearS es z x=>simp only[evalOp,h x (by simp[z0s])]
 |rangeS ai x=>simp only[evalOp,h x (by simp[z0s])]
 |nextS x=>simp only[evalOp,h x (by simp[z0s])]
 |store n x y=>simp only[evalOp,h x (by simp[z0s]),h y (by simp[z0s])]
 |bin o x y=>simp only[evalOp,h x (by simp[z0s]),h y (by simp[z0s])]
 |eqB n x y=>simp only[evalOp,h x (by simp[z0s]),h y (by simp[z0s])]
 |eqA n s x y=>simp only[evalOp,h x (by simp[z0s]),h y (by simp[z0s])]
 |mkslice ai es ag eb z x y=>simp only[evalOp,h x (by simp[z0s]),h y (by simp[z0s])]
 |iaddrS es x y=>simp only[evalOp,h x (by simp[z0s]),h y (by simp[z0s])]
 |iaddrA l es x y=>simp only[evalOp,h x (by simp[z0s]),h y (by simp[z0s])]
 |indexA l es ag x y=>simp only[evalOp,h x (by simp[z0s]),h y (by simp[z0s])]
 |indexS x y=>simp only[evalOp,h x (by simp[z0s]),h y (by simp[z0s])]
 |lookup kt ag sh ok z x y=>simp only[evalOp,h x (by simp[z0s]),h y (by simp[z0s])]
 |append ai es ag eb x y=>simp only[evalOp,h x (by simp[z0s]),h y (by simp[z0s])]
 |copy es x y=>simp only[evalOp,h x (by simp[z0s]),h y (by simp[z0s])]
 |pick x y z=>simp only[evalOp,h x (by simp[z0s]),h y (by simp[z0s]),h z (by simp[z0s])]
 |mapUpd kt ag sh x y z=>simp only[evalOp,h x (by simp[z0s]),h y (by simp[z0s]),h z (by simp[z0s])]
def zpr  {f:Cal} {args:List Opd} (h:Agree env env' (z0s (.call f args))):calV env f=calV env' f∧args.map (evO env)=args.map (evO env'):=by
 cases f with
 |f n=>exact⟨rfl,Agree.map h⟩
 |o x=>
  refine⟨h x (by simp[z0s]),Agree.map fun y hy=>h y (by simp[z0s,hy])⟩
def z8s {cl:z12}  {base:Nat} {st:St} (o:IOp) (h:Agree env env' (z0s o.op)):evalIOp cl base env st o=evalIOp cl base env' st o:=by
 unfold evalIOp
 split
 ·rename_i f args e
  rw[e] at h
  obtain⟨h1,h2⟩:=zpr h
  rw[h1,h2]
 ·exact zi9 _ h
def z7g (o:IOp):List Nat:=
 (z0s o.op).filterMap (fun| .t n=>some n| .c _=>none)++ (match o.gd with|some (t,_)=> [t]|none=> [])
def looks (o:IOp):List Nat:=z7g o++o.keep
def zvy  {l:List Opd} {dst:Option Nat}  (h:∀d,dst=some d→d∉l.filterMap (fun| .t n=>some n| .c _=>none)):Agree (setE env dst v) env l:=by
 intro x hx
 cases dst with
 |none=>rfl
 |some d=>
  cases x with
  |c v=>rfl
  |t n=>
   have hne:d≠n:=fun e=>h d rfl (List.mem_filterMap.2 ⟨.t n,hx,by simp[e]⟩)
   simp only[evO,setE,List.getD,List.getElem?_set,hne,if_false]
def zo8  {gd:Option (Nat×Bool)} {dst:Option Nat}  (h:∀d,dst=some d→∀t w,gd=some (t,w)→d≠t):wantedE (setE env dst v) gd=wantedE env gd:=by
 cases gd with
 |none=>rfl
 |some p=>
  obtain⟨t,w⟩:=p
  cases dst with
  |none=>rfl
  |some d=>
   have hne:=h d rfl t w rfl
   simp only[wantedE,setE,List.getD,List.getElem?_set,hne,if_false]
def zmj {env:List V} {a b:St} {dst:Option Nat} {v:V} :∀{ks:List Nat},(∀d,dst=some d→d∉ks)→kept (setE env dst v) a b ks=kept env a b ks
 | [],_=>rfl
 |t::ks,h=>by
  have hg: (setE env dst v).getD t .undef=env.getD t .undef:=by
   cases dst with
   |none=>rfl
   |some d=>
    have hne:d≠t:=fun e=>h d rfl (by simp[e])
    simp only[setE,List.getD,List.getElem?_set,hne,if_false]
  simp only[kept,hg]
  rw[zmj fun d hd hm=>h d hd (by simp[hm])]
def zrd  {d e:Option Nat} {u:V} (h:∀x,d=some x→e≠some x):setE (setE env d v) e u=setE (setE env e u) d v:=by
 cases d with
 |none=>rfl
 |some x=>
  cases e with
  |none=>rfl
  |some y=>
   have hne:x≠y:=fun e=>h x rfl (by rw[e])
   simp only[setE]
   exact List.set_comm _ _ hne
def cvC:Value→Option V
 | .bool b=>some (.d (.bool b))
 | .int k n=>some (.d (.int k n))
 | .string s=>some (.d (.str (s.data.toList.map UInt8.toNat)))
 | .pointer none=>some .nilP
 | .slice none 0 0=>some .nilS
 | .map none=>some .nilM
 | .nilFunc=>some .nilF
 |_=>none
def mapO {α β:Type} (f:α→Option β):List α→Option (List β)
 | []=>some []
 |x::r=>match f x with
  |none=>none
  |some y=>match mapO f r with
   |none=>none
   |some ys=>some (y::ys)
def z9p (P:Program) (t:TypeId):Option (List V):=
 match P.info? t with
 |some i=>match i.zero with
  |some z=>mapO cvC z.cells.toList
  |none=>none
 |none=>none
def zval (P:Program) (t:TypeId):Option V:=
 match P.info? t with
 |some i=>match i.zero with
  |some (.agg cs)=> (mapO cvC cs.toList).map mkAgg
  |some z=>cvC z
  |none=>none
 |none=>none
def z52 (P:Program) (t:TypeId):Option Nat:= (P.info? t).map (·.size)
def zqs (P:Program) (t:TypeId):Option Nat:= (P.info? t).map (·.bytes)
def tagg (P:Program) (t:TypeId):Option Bool:=
 match P.underlying t with
 |some (.struct _)=>some true
 |some (.array _ _)=>some true
 |some _=>some false
 |none=>none
def zdc (P:Program) (t:TypeId):Option TypeId:=
 match P.underlying t with
 |some (.slice e)=>some e
 |_=>none
mutual
def zg0 (P:Program):Nat→TypeId→Option (List Kc)
 |0,_=>none
 |n+1,t=>
  match P.underlying t with
  |some (.int k)=>some [.i k]
  |some .bool=>some [.b]
  |some .string=>some [.s]
  |some (.struct fs)=>zi7 P n 0 fs.toList
  |some (.array m e)=>match zg0 P n e with
   |some l=>if P.cellsOf e=l.length then some (List.replicate m l).flatten else none
   |none=>none
  |_=>none
def zi7 (P:Program):Nat→Nat→List Field→Option (List Kc)
 |0,_,_=>none
 |_+1,_,[]=>some []
 |n+1,off,f::fs=>
  match zg0 P n f.type with
  |some l=>if f.name != "_" &&f.offset==off&&P.cellsOf f.type==l.length then (match zi7 P n (off+l.length) fs with
   |some m=>some (l++m)
   |none=>none) else none
  |none=>none
end
def z2p:Nat:=24
def keyT (P:Program) (t:TypeId):Option (Bool×List Kc):=
 match tagg P t,zg0 P z2p t with
 |some g,some l=>if P.keyType t&&P.keyTypeAt z2p t&&P.tiled z2p t&&decide (P.cellsOf t=l.length) then some (g,l) else none
 |_,_=>none
def cOpd:Operand→Option Opd
 | .tmp t=>some (.t t)
 | .const v=> (cvC v).map Opd.c
 | .func f=>some (.c (.fn f [] []))
 | .global _=>none
def zgg (l:List Operand):Option (List Opd):=mapO cOpd l
def cOpt:Option Operand→Option (Option Opd)
 |none=>some none
 |some x=> (cOpd x).map some
def z9a:Operand→Option Nat
 | .const (.slice none 0 0)=>some 0
 | .const (.map none)=>some 1
 | .const .nilFunc=>some 2
 | .const (.pointer none)=>some 3
 |_=>none
def fieldAt? (P:Program) (t:TypeId) (i:Nat):Option (Nat×Nat×TypeId):=
 match P.underlying t with
 |some (.struct fs)=>match fs[i]? with
  |some f=>match z52 P f.type with
   |some n=>some (f.offset,n,f.type)
   |none=>none
  |none=>none
 |_=>none
def zaz (P:Program) (fs:Array Field):Bool:=fs.toList.all fun f=> (z52 P f.type).isSome
def zvf (P:Program) (t:TypeId):Bool:=
 match P.underlying t with
 |some (.struct fs)=>zaz P fs
 |some (.array _ e)=> (z52 P e).isSome
 |_=>false
def zem (P:Program) (t:TypeId):List (Nat×Operand)→Option (List (Nat×Nat×Opd))
 | []=>some []
 | (i,x)::r=>
  match P.underlying t,cOpd x,zem P t r with
  |some (.struct fs),some y,some ys=>
   if zaz P fs then match fieldAt? P t i with
    |some (off,n,_)=>some ((off,n,y)::ys)
    |none=>none
   else none
  |some (.array _ e),some y,some ys=>match z52 P e with
   |some n=>some ((i*n,n,y)::ys)
   |none=>none
  |_,_,_=>none
def cIxs:List (Nat×Operand)→Option (List (Nat×Opd))
 | []=>some []
 | (i,x)::r=>match cOpd x,cIxs r with
  |some y,some ys=>some ((i,y)::ys)
  |_,_=>none
def y74 (P:Program) (t:TypeId):Bool:=
 match P.underlying t with
 |some (.int _)=>true
 |some .string=>true
 |_=>false
def z9g (P:Program) (t:TypeId):Bool:=
 match P.underlying t with
 |some .bool=>true
 |_=>false
def zjl (P:Program) (t:TypeId):Option Nat:=
 match P.underlying t with
 |some (.slice _)=>some 0
 |some (.map _ _)=>some 1
 |some (.func _ _ _)=>some 2
 |some (.pointer _)=>some 3
 |_=>none
def cNil (P:Program) (neg:Bool) (t:TypeId) (x y:Operand) (a b:Opd):Option IK:=
 match zjl P t with
 |none=>none
 |some k=>if z9a y=some k then some (.eqNil neg k a) else if z9a x=some k then some (.eqNil neg k b) else none
def cBin (P:Program) (op:BinOp) (t:TypeId) (x y:Operand):Option IK:=
 match cOpd x,cOpd y with
 |some a,some b=>
  if y74 P t then some (.bin op a b) else
  match op with
  | .eql=>
   match keyT P t with
   |some (true,sh)=>if P.eqGuardType P.depth t then none else some (.eqA false sh a b)
   |_=>if z9g P t then some (.eqB false a b)
   else cNil P false t x y a b
  | .neq=>
   match keyT P t with
   |some (true,sh)=>if P.eqGuardType P.depth t then none else some (.eqA true sh a b)
   |_=>if z9g P t then some (.eqB true a b)
   else cNil P true t x y a b
  |_=>none
 |_,_=>none
def z4l (P:Program) (e:TypeId):Option (Nat×Bool×Nat×List V):=
 match z52 P e,tagg P e,zqs P e,z9p P e with
 |some n,some a,some b,some z=>if 0<n∧z.length=n∧b≤65536 then some (n,a,b,z) else none
 |_,_,_,_=>none
def zir (P:Program) (ai:Nat) (c:Call):Option IK:=
 match c.callee with
 | .value f=>match f,zgg c.args.toList with
  | .func g,some xs=>some (.call (.f g) xs)
  |f,some xs=> (cOpd f).map fun y=> .call (.o y) xs
  |_,none=>none
 | .invoke _ _=>none
 | .builtin b=>
  match b,c.argTypes.toList,c.args.toList with
  | .len,[t],[x]=>
   match P.underlying t with
   |some (.array n _)=>some (.lenK n)
   |some (.pointer p)=>match P.underlying p with
    |some (.array n _)=>some (.lenK n)
    |_=>none
   |some .string=> (cOpd x).map (.len true)
   |some (.slice _)=> (cOpd x).map (.len false)
   |some (.map _ _)=> (cOpd x).map .lenM
   |_=>none
  | .cap,[t],[x]=>match P.underlying t with
   |some (.slice _)=> (cOpd x).map .capK
   |_=>none
  | .append,[t,u],[x,y]=>
   match P.underlying u with
   |some (.slice _)=>match zdc P t with
    |some e=>match z4l P e,cOpd x,cOpd y with
     |some (n,a,b,_),some p,some q=>some (.append ai n a b p q)
     |_,_,_=>none
    |none=>none
   |_=>none
  | .copy,[t,u],[x,y]=>
   match P.underlying u with
   |some (.slice _)=>match zdc P t with
    |some e=>match z4l P e,cOpd x,cOpd y with
     |some (n,_,_,_),some p,some q=>some (.copy n p q)
     |_,_,_=>none
    |none=>none
   |_=>none
  | .clear,[t],[x]=>match zdc P t with
   |some e=>match z4l P e,cOpd x with
    |some (n,_,_,z),some p=>some (.clearS n z p)
    |_,_=>none
   |none=>none
  | .max,_,xs=> (zgg xs).map (.mm true)
  | .min,_,xs=> (zgg xs).map (.mm false)
  |_,_,_=>none
def cOp? (P:Program) (ai:Nat) (o:Oper):Option IK:=
 match o.op with
  | .move x=> (cOpd x).map .mv
  | .assign x=> (cOpd x).map .mv
  | .pick c a b=>match cOpd c,cOpd a,cOpd b with
   |some c,some a,some b=>some (.pick c a b)
   |_,_,_=>none
  | .alloc t=> (z9p P t).map (.alloc ai)
  | .box _ x=> (cOpd x).map (.box ai)
  | .build t parts=>match z9p P t,zem P t parts.toList with
   |some z,some ps=>if zvf P t then some (.build z ps) else none
   |_,_=>none
  | .buildSlice t len parts=>match zdc P t with
   |some e=>match z4l P e,cIxs parts.toList with
    |some (n,a,_,z),some ps=>some (.mkSl ai n a false z len ps)
    |_,_=>none
   |none=>none
  | .load t a=>match z52 P t,tagg P t,cOpd a with
   |some n,some g,some x=>if g||n==1 then some (.load n g x) else none
   |_,_,_=>none
  | .store t a x=>match z52 P t,cOpd a,cOpd x with
   |some n,some a,some x=>some (.store n a x)
   |_,_,_=>none
  | .nilCheck x=> (cOpd x).map .nilck
  | .binOp op t x y _=>cBin P op t x y
  | .unOp op _ x=> (cOpd x).map (.un op)
  | .convert s d x=>match P.underlying s,P.underlying d,cOpd x with
   |some (.int _),some (.int k),some y=>some (.convI k y)
   |some (.int _),some .string,some y=>some (.convS y)
   |_,_,_=>none
  | .makeFunc (.func f) first captured=>match zgg first.toList,zgg captured.toList with
   |some a,some c=>some (.mkf f a c)
   |_,_=>none
  | .makeMap t none=>match P.underlying t with
   |some (.map k _)=>some (.mkmap ai k)
   |_=>none
  | .makeSlice t l c=>match zdc P t with
   |some e=>match z4l P e,cOpd l,cOpd c with
    |some (n,a,b,z),some l,some c=>some (.mkslice ai n a b z l c)
    |_,_,_=>none
   |none=>none
  | .slice t x lo hi none=>match cOpd x,cOpt lo,cOpt hi with
   |some x,some lo,some hi=>
    match P.underlying t with
    |some .string=>some (.sliceS x lo hi)
    |some (.slice e)=>match z4l P e with
     |some (n,_,_,_)=>some (.sliceL n x lo hi)
     |none=>none
    |some (.array k e)=>match z4l P e with
     |some (n,a,_,_)=>some (.sliceA k n a x lo hi)
     |none=>none
    |_=>none
   |_,_,_=>none
  | .fieldAddr t x i=>match fieldAt? P t i,cOpd x with
   |some (off,n,_),some x=>if 0<n then some (.faddr off x) else none
   |_,_=>none
  | .field t x i=>match fieldAt? P t i,cOpd x with
   |some (off,n,u),some x=>match tagg P u with
    |some g=>if g||n==1 then some (.field off n g x) else none
    |none=>none
   |_,_=>none
  | .indexAddr t x i=>match cOpd x,cOpd i with
   |some x,some i=>
    match P.underlying t with
    |some (.array k e)=>match z4l P e with
     |some (n,_,_,_)=>some (.iaddrA k n x i)
     |none=>none
    |some (.slice e)=>match z4l P e with
     |some (n,_,_,_)=>some (.iaddrS n x i)
     |none=>none
    |_=>none
   |_,_=>none
  | .index t x i=>match cOpd x,cOpd i with
   |some x,some i=>
    match P.underlying t with
    |some (.array k e)=>match z4l P e with
     |some (n,g,_,_)=>if g||n==1 then some (.indexA k n g x i) else none
     |none=>none
    |some .string=>some (.indexS x i)
    |_=>none
   |_,_=>none
  | .lookup t x i ok=>match P.underlying t,cOpd x,cOpd i with
   |some (.map k e),some x,some i=>
    match keyT P k with
    |some (ga,sh)=>
     match zval P e with
     |some zv=>some (.lookup k ga sh ok zv x i)
     |none=>none
    |none=>none
   |_,_,_=>none
  | .mapUpdate t m k x=>match P.underlying t,cOpd m,cOpd k,cOpd x with
   |some (.map kt _),some m,some k,some x=>match keyT P kt with
    |some (ga,sh)=>some (.mapUpd kt ga sh m k x)
    |none=>none
   |_,_,_,_=>none
  | .insert t m k x=>match P.underlying t,cOpd m,cOpd k,cOpd x with
   |some (.map kt _),some m,some k,some x=>match keyT P kt with
    |some (ga,sh)=>some (.mapUpd kt ga sh m k x)
    |none=>none
   |_,_,_,_=>none
  | .range t x=>match P.underlying t,cOpd x with
   |some .string,some x=>some (.rangeS ai x)
   |_,_=>none
  | .next x true=> (cOpd x).map .nextS
  | .extract x i=> (cOpd x).map (.ext i)
  | .call c=>zir P ai c
  |_=>none
def cOp (P:Program) (ai:Nat) (o:Oper):IK:= (cOp? P ai o).getD .bad
inductive Cls where
 |p|r|e|a
 deriving DecidableEq
def z1l:IK→Cls
 | .alloc _ _=> .a
 | .box _ _=> .a
 | .mkSl _ _ _ _ _ _ _=> .a
 | .mkmap _ _=> .a
 | .mkslice _ _ _ _ _ _ _=> .a
 | .rangeS _ _=> .a
 | .load _ _ _=> .r
 | .lookup _ _ _ _ _ _ _=> .r
 | .sliceL _ _ _ _=> .r
 | .sliceA _ _ _ _ _ _=> .r
 | .lenM _=> .r
 | .store _ _ _=> .e
 | .mapUpd _ _ _ _ _ _=> .e
 | .append _ _ _ _ _ _=> .e
 | .copy _ _ _=> .e
 | .clearS _ _ _=> .e
 | .nextS _=> .e
 | .call _ _=> .e
 | .bad=> .e
 |_=> .p
def zg3 (o:Oper):List Nat:= (o.after.toList.filter fun e=>Region.binds .any e).map (·.on)
def y1v:List Nat→List Nat→List Nat
 | [],acc=>acc
 |x::l,acc=>y1v l (cond (acc.any fun y=>Nat.beq x y) acc (x::acc))
def zgm:List Oper→List (List Nat)→List (List Nat)
 | [],acc=>acc
 |o::r,acc=>zgm r (acc++ [y1v ((zg3 o).flatMap fun e=>e::acc.getD e []) []])
def prio:Cls→Nat
 | .p=>0
 | .r=>0
 | .e=>1
 | .a=>2
def y2f (B:List (List Nat)) (done left:List Nat):List Nat:=left.filter fun i=> (B.getD i []).all fun j=>done.contains j
def zuc (cl:List Cls):List Nat→Option Nat
 | []=>none
 |i::r=>match zuc cl r with
  |none=>some i
  |some j=>if prio (cl.getD i .p)≤prio (cl.getD j .p) then some i else some j
def zjq (B:List (List Nat)) (cl:List Cls):Nat→List Nat→List Nat→List Nat
 |0,_,_=> []
 |n+1,done,left=>
  match zuc cl (y2f B done left) with
  |none=> []
  |some i=>i::zjq B cl n (i::done) (left.filter (· !=i))
def y73:IK→Bool
 | .mkSl _ _ _ _ _ _ _=>true
 |_=>false
def z2o:IK→IK
 | .mkSl ai es ag _ z len ps=> .mkSl ai es ag true z len ps
 |x=>x
def zhe:IK→Option Nat
 | .load _ _ (.t n)=>some n
 | .lookup _ _ _ _ _ (.t n) _=>some n
 | .sliceL _ (.t n) _ _=>some n
 | .sliceA _ _ _ (.t n) _ _=>some n
 | .lenM (.t n)=>some n
 |_=>none
def y5k (B:List (List Nat)) (i j:Nat):Bool:= !((B.getD j []).contains i)&& !((B.getD i []).contains j)
def y0w (B:List (List Nat)) (iks:List IK) (j:Nat):List Nat→Option (List Nat)
 | []=>some []
 |i::r=>match y0w B iks j r with
  |none=>none
  |some ks=>
   if y5k B i j then
    match z1l (iks.getD i .bad),z1l (iks.getD j .bad) with
    | .p,_=>some ks
    |_,.p=>some ks
    | .r,.r=>some ks
    | .r,.e=> (zhe (iks.getD i .bad)).map (· ::ks)
    | .r,.a=>if y73 (iks.getD j .bad) then (zhe (iks.getD i .bad)).map (· ::ks) else some ks
    | .e,.a=>some ks
    | .a,.a=>some ks
    | .e,.e=>none
    | .e,.r=>none
    | .a,.e=>none
    | .a,.r=>none
   else some ks
def y6e (B:List (List Nat)) (iks:List IK) (j:Nat) (pre:List Nat):Bool:=
 pre.any fun i=>y5k B i j&& (z1l (iks.getD i .bad)== .e||z1l (iks.getD i .bad)== .a)
def zen (ops:List Oper):Option (Nat×Bool)→Option (Option (Nat×Bool))
 |none=>some none
 |some (j,w)=>match ops[j]? with
  |some o=>match o.dst with
   |some t=>some (some (t,w))
   |none=>none
  |none=>none
def cOrd (nf:Bool) (P:Program) (draw:Bool) (ops:List Oper) (B:List (List Nat)) (iks:List IK) (cnt:Nat) (pre:List Nat):List Nat→Option (Nat×List IOp)
 | []=>some (cnt,[])
 |j::r=>
  match ops[j]? with
  |none=>none
  |some o=>
   match zen ops o.guard,(if draw then y0w B iks j pre else some []) with
   |some g,some ks=>
    match cOrd nf P draw ops B iks (cnt+1) (j::pre) r with
    |some (n,l)=>some (n,{dst:=o.dst,op:=if nf|| (draw&&y6e B iks j pre) then z2o (cOp P cnt o) else cOp P cnt o,gd:=g,keep:=ks} ::l)
    |none=>none
   |_,_=>none
def z3l:IK→Bool
 | .mkSl _ _ _ false _ _ _=>true
 |_=>false
def zk9 (a b:IOp):Bool:=
 (match a.dst with|some d=> !(z7g b).contains d&&decide (b.dst≠some d)|none=>true)&&
 (match b.dst with|some d=> !(looks a).contains d|none=>true)
def zhf (k:IK) (ks:List Nat):Bool:=
 match zhe k with
 |some t=>ks.contains t
 |none=>false
def zjw (a b:IOp):Bool:=
 match z1l a.op,z1l b.op with
 | .p,_=>true
 |_,.p=>true
 | .r,.r=>true
 | .r,.e=>zhf a.op b.keep
 | .r,.a=> !z3l b.op||zhf a.op b.keep
 | .e,.a=> !z3l b.op
 | .a,.a=> !z3l b.op
 |_,_=>false
def za5 (a b:IOp):Bool:=
 match zhe a.op with
 |some t=>decide (b.dst≠some t)
 |none=>true
def ze1 (B:List (List Nat)) (x y:Nat×IOp):Bool:=
 !(B.getD x.1 []).contains y.1&&za5 x.2 y.2&& ((B.getD y.1 []).contains x.1|| (zk9 x.2 y.2&&zjw x.2 y.2))
def zfi (B:List (List Nat)):List (Nat×IOp)→Bool
 | []=>true
 |x::l=>l.all (ze1 B x)&&zfi B l
def z6z (B:List (List Nat)) (ops:List Oper):Bool:=
 (List.range ops.length).all fun j=>
  let D:=match ops[j]? with|some o=>zg3 o|none=> []
  (B.getD j []).all (fun k=>D.contains k||D.any fun d=> (B.getD d []).contains k)&&D.all fun d=> (B.getD j []).contains d&&decide (d<ops.length)&&decide (d≠j)
def zsc (o:IOp):Bool:=
 match z1l o.op with
 | .p=>o.keep.isEmpty
 | .r=>o.keep.isEmpty&&za5 o o
 |_=>true
def y6b (B:List (List Nat)) (ops:List Oper) (ord:List Nat) (l:List IOp):Bool:=
 zfi B (ord.zip l)&&z6z B ops&&decide ord.Nodup&& (List.range ops.length).all (fun j=>ord.contains j)&&ord.all (fun j=>decide (j<ops.length))&&l.all zsc&&decide (ord.length=l.length)
def cReg (nf:Bool) (P:Program) (ops:List Oper) (draw:Bool):IC:=
 let r:Option (Nat×List IOp):=
  if draw then
   let iks:=ops.map (cOp P 0)
   let B:=zgm ops []
   let ord:=zjq B (iks.map z1l) ops.length [] (List.range ops.length)
   match cOrd nf P true ops B iks 0 [] ord with
   |some (n,l)=>if y6b B ops ord l then some (n,l) else none
   |none=>none
  else cOrd nf P false ops [] [] 0 [] (List.range ops.length)
 match r with
 |some (n,l)=> .reg n l
 |none=> .bad
def z0i (nf:Bool) (P:Program):Code→IC
 | .skip=> .skip
 | .region _ ops draw=>cReg nf P ops.toList draw
 | .seq a b=> .seq (z0i nf P a) (z0i nf P b)
 | .cond c a b=>match cOpd c with
  |some c=> .cond c (z0i nf P a) (z0i nf P b)
  |none=> .bad
 | .block id b=> .block id (z0i nf P b)
 | .loop b=> .loop (z0i nf P b)
 | .rangeFunc f ps asg body=>match cOpd f with
  |some f=> .rf f ps.toList (z0i nf P asg) (z0i nf P body)
  |none=> .bad
 | .exit id=> .exit id
 | .scope b=>z0i nf P b
 | .label _=> .skip
 | .goto _=> .bad
 | .ret=> .ret
 | .refuse _=> .bad
def cRes (P:Program):List ResultVar→Option (List IR)
 | []=>some []
 | .tmp t::r=> (cRes P r).map (.t t:: ·)
 | .cell a t::r=>match z52 P t,tagg P t,cRes P r with
  |some n,some g,some l=>if g||n==1 then some (.cell a n g::l) else none
  |_,_,_=>none
def Comp (P:Program) (f:Func) (F:IFun):Prop:=
 f.ntmps=F.nt∧cRes P f.results.toList=some F.res∧f.body.map (z0i F.nf P)=some F.body
abbrev Still:=Nat→Nat→Option Value
mutual
def RepD (H:Still):D→Value→Prop
 | .bool b,v=>v= .bool b
 | .int k n,v=>v= .int k n
 | .str s,v=>∃b:ByteArray,v= .string b∧b.data.toList.map UInt8.toNat=s
 | .sl l,v=>∃(a:Option Addr) (cap:Nat),v= .slice a l.length cap∧(l.length≤cap∧(a=none→cap=0))∧(l= []∨∃b off es,a=some ⟨b,off,none⟩∧0<es∧RepL H b es l off)
 | .agg l,v=>∃vs:Array Value,v= .agg vs∧RepC H l vs.toList
def RepL (H:Still) (b es:Nat):List D→Nat→Prop
 | [],_=>True
 |x::l,off=> (∃u,RepD H x u∧u.cells.size=es∧∀j,j<es→∃y,u.cells[j]?=some y∧H b (off+j)=some y)∧RepL H b es l (off+es)
def RepC (H:Still):List D→List Value→Prop
 | [],vs=>vs= []
 |x::l,vs=>∃v ws,vs=v::ws∧RepD H x v∧RepC H l ws
end
structure Gh where
 H:Still
 blk:Nat→Option Nat
 sz:Nat→Nat
 tot:Nat→Nat
 sh:Nat→Nat
mutual
def RepV (g:Gh):V→Value→Prop
 | .d x,v=>RepD g.H x v
 | .nilS,v=>v= .slice none 0 0
 | .emp,v=>∃a cap,v= .slice (some a) 0 cap
 | .arr k es _ off len,v=>∃b,g.blk k=some b∧∃o cap,v= .slice (some ⟨b,o,none⟩) len cap∧g.sz k≤off+cap*es∧off+cap*es≤g.tot k∧(o=g.sh k+off∨(len=0∧cap=0))
 | .ptr k off,v=>∃b,g.blk k=some b∧v= .pointer (some ⟨b,g.sh k+off,none⟩)
 | .dptr ds,v=>∃b off,v= .pointer (some ⟨b,off,none⟩)∧RepP g.H b ds off
 | .nilP,v=>v= .pointer none
 | .map k,v=>∃b,g.blk k=some b∧v= .map (some b)
 | .nilM,v=>v= .map none
 | .fn f a c,v=>∃vs ws:Array Value,v= .func (.func f) vs ws∧RepVs g a vs.toList∧RepVs g c ws.toList
 | .yld k,v=>∃b,g.blk k=some b∧v= .func (.yield b) #[] #[]
 | .nilF,v=>v= .nilFunc
 | .agg l,v=>∃vs:Array Value,v= .agg vs∧RepVs g l vs.toList
 | .tup l,v=>∃vs:Array Value,v= .tuple vs∧RepVs g l vs.toList
def RepVs (g:Gh):List V→List Value→Prop
 | [],vs=>vs= []
 |x::l,vs=>∃v ws,vs=v::ws∧RepV g x v∧RepVs g l ws
def RepP (H:Still) (b:Nat):List D→Nat→Prop
 | [],_=>True
 |x::l,off=> (∃y,H b off=some y∧RepD H x y)∧RepP H b l (off+1)
end
def z21 {H:Still} {x:D} {l:Ld} {v:Value} {ws:List Value} :RepC H (x::l) (v::ws)↔RepD H x v∧RepC H l ws:=by
 simp only[RepC]
 exact⟨fun⟨_,_,e,h⟩=>by cases e;exact h,fun h=>⟨_,_,rfl,h⟩⟩
def z0w {g:Gh} {x:V} {l:Lv} {v:Value} {ws:List Value} :RepVs g (x::l) (v::ws)↔RepV g x v∧RepVs g l ws:=by
 simp only[RepVs]
 exact⟨fun⟨_,_,e,h⟩=>by cases e;exact h,fun h=>⟨_,_,rfl,h⟩⟩
def z94 {H:Still} :RepC H [] []:=by simp[RepC]
def z1h {g:Gh} :RepVs g [] []:=by simp[RepVs]
theorem RepC.length {H:Still} :∀{l:List D} {vs:List Value},RepC H l vs→vs.length=l.length
 | [],vs,h=>by simp only[RepC] at h;simp[h]
 |x::l,vs,h=>by
  simp only[RepC] at h
  obtain⟨v,ws,rfl,_,h⟩:=h
  simp[RepC.length h]
theorem RepVs.length {g:Gh} :∀{l:List V} {vs:List Value},RepVs g l vs→vs.length=l.length
 | [],vs,h=>by simp only[RepVs] at h;simp[h]
 |x::l,vs,h=>by
  simp only[RepVs] at h
  obtain⟨v,ws,rfl,_,h⟩:=h
  simp[RepVs.length h]
theorem RepC.get {H:Still} :∀{l:List D} {vs:List Value},RepC H l vs→∀{i:Nat} {x:D},l[i]?=some x→∃v,vs[i]?=some v∧RepD H x v
 | [],vs,_,i,x,hx=>by simp at hx
 |y::l,vs,h,i,x,hx=>by
  simp only[RepC] at h
  obtain⟨v,ws,rfl,h1,h⟩:=h
  cases i with
  |zero=>simp at hx;subst hx;exact⟨v,by simp,h1⟩
  |succ i=>simpa using RepC.get h (by simpa using hx)
theorem RepVs.get {g:Gh} :∀{l:List V} {vs:List Value},RepVs g l vs→∀{i:Nat} {x:V},l[i]?=some x→∃v,vs[i]?=some v∧RepV g x v
 | [],vs,_,i,x,hx=>by simp at hx
 |y::l,vs,h,i,x,hx=>by
  simp only[RepVs] at h
  obtain⟨v,ws,rfl,h1,h⟩:=h
  cases i with
  |zero=>simp at hx;subst hx;exact⟨v,by simp,h1⟩
  |succ i=>simpa using RepVs.get h (by simpa using hx)
def RepVs.of_get {g:Gh} :∀{l:List V} {vs:List Value},vs.length=l.length→(∀(i:Nat) x v,l[i]?=some x→vs[i]?=some v→RepV g x v)→RepVs g l vs
 | [],vs,hl,_=>by simp only[RepVs];exact List.eq_nil_of_length_eq_zero hl
 |x::l,[],hl,_=>by simp at hl
 |x::l,v::ws,hl,h=>z0w.2 ⟨h 0 x v ψ ψ,RepVs.of_get (by simpa using hl) fun i y u h1 h2=>h (i+1) y u (by simpa using h1) (by simpa using h2)⟩
theorem RepVs.append {g:Gh} :∀{l m:List V} {vs ws:List Value},RepVs g l vs→RepVs g m ws→RepVs g (l++m) (vs++ws)
 | [],m,vs,ws,h,k=>by simp only[RepVs] at h;subst h;simpa using k
 |x::l,m,vs,ws,h,k=>by
  simp only[RepVs] at h
  obtain⟨v,us,rfl,h1,h⟩:=h
  exact z0w.2 ⟨h1,RepVs.append h k⟩
theorem RepVs.take {g:Gh} :∀{l:List V} {vs:List Value} (n:Nat),RepVs g l vs→RepVs g (l.take n) (vs.take n)
 | [],vs,n,h=>by simp only[RepVs] at h;subst h;simp[RepVs]
 |x::l,vs,n,h=>by
  simp only[RepVs] at h
  obtain⟨v,us,rfl,h1,h⟩:=h
  cases n with
  |zero=>simp[RepVs]
  |succ n=>simpa using z0w.2 ⟨h1,RepVs.take n h⟩
theorem RepVs.drop {g:Gh} :∀{l:List V} {vs:List Value} (n:Nat),RepVs g l vs→RepVs g (l.drop n) (vs.drop n)
 | [],vs,n,h=>by simp only[RepVs] at h;subst h;simp[RepVs]
 |x::l,vs,n,h=>by
  simp only[RepVs] at h
  obtain⟨v,us,rfl,h1,h⟩:=h
  cases n with
  |zero=>simpa using z0w.2 ⟨h1,h⟩
  |succ n=>simpa using RepVs.drop n h
theorem RepC.take {H:Still} :∀{l:List D} {vs:List Value} (n:Nat),RepC H l vs→RepC H (l.take n) (vs.take n)
 | [],vs,n,h=>by simp only[RepC] at h;subst h;simp[RepC]
 |x::l,vs,n,h=>by
  simp only[RepC] at h
  obtain⟨v,us,rfl,h1,h⟩:=h
  cases n with
  |zero=>simp[RepC]
  |succ n=>simpa using z21.2 ⟨h1,RepC.take n h⟩
theorem RepC.drop {H:Still} :∀{l:List D} {vs:List Value} (n:Nat),RepC H l vs→RepC H (l.drop n) (vs.drop n)
 | [],vs,n,h=>by simp only[RepC] at h;subst h;simp[RepC]
 |x::l,vs,n,h=>by
  simp only[RepC] at h
  obtain⟨v,us,rfl,h1,h⟩:=h
  cases n with
  |zero=>simpa using z21.2 ⟨h1,h⟩
  |succ n=>simpa using RepC.drop n h
def Still.le (H H' :Still):Prop:=∀b o v,H b o=some v→H' b o=some v
mutual
theorem RepD.mono {H H' :Still} (hle:H.le H'):∀{x:D} {v:Value},RepD H x v→RepD H' x v
 | .bool b,v,h=>by simpa only[RepD] using h
 | .int k n,v,h=>by simpa only[RepD] using h
 | .str s,v,h=>by simpa only[RepD] using h
 | .sl l,v,h=>by
  simp only[RepD] at h⊢
  obtain⟨a,cap,e,hc,h⟩:=h
  refine⟨a,cap,e,hc,h.imp id ?_⟩
  rintro⟨b,off,es,e,h0,h⟩
  exact⟨b,off,es,e,h0,RepL.mono hle h⟩
 | .agg l,v,h=>by
  simp only[RepD] at h⊢
  obtain⟨vs,e,h⟩:=h
  exact⟨vs,e,RepC.mono hle h⟩
theorem RepL.mono {H H' :Still} (hle:H.le H') {b es:Nat} :∀{l:List D} {off:Nat},RepL H b es l off→RepL H' b es l off
 | [],_,_=>by simp only[RepL]
 |x::l,off,h=>by
  simp only[RepL] at h⊢
  obtain⟨⟨u,h1,h2,h3⟩,h⟩:=h
  exact⟨⟨u,RepD.mono hle h1,h2,fun j hj=>let ⟨y,a,c⟩:=h3 j hj;⟨y,a,hle _ _ _ c⟩⟩,RepL.mono hle h⟩
theorem RepC.mono {H H' :Still} (hle:H.le H'):∀{l:List D} {vs:List Value},RepC H l vs→RepC H' l vs
 | [],_,h=>by simpa only[RepC] using h
 |x::l,vs,h=>by
  simp only[RepC] at h⊢
  obtain⟨v,ws,e,h1,h⟩:=h
  exact⟨v,ws,e,RepD.mono hle h1,RepC.mono hle h⟩
end
def RepP.mono {H H' :Still} (hle:H.le H') {b:Nat} :∀{l:List D} {off:Nat},RepP H b l off→RepP H' b l off
 | [],_,_=>by simp only[RepP]
 |x::l,off,h=>by
  simp only[RepP] at h⊢
  obtain⟨⟨y,h1,h2⟩,h⟩:=h
  exact⟨⟨y,hle _ _ _ h1,RepD.mono hle h2⟩,RepP.mono hle h⟩
structure Ext (g g' :Gh):Prop where
 H:g.H.le g'.H
 blk:∀k b,g.blk k=some b→g'.blk k=some b∧g'.sz k=g.sz k∧g'.tot k=g.tot k
 sh:∀k b,g.blk k=some b→g'.sh k=g.sh k
theorem Ext.refl (g:Gh):Ext g g:=⟨fun _ _ _ h=>h,fun _ _ h=>⟨h,rfl,rfl⟩,fun _ _ _=>rfl⟩
def Ext.trans {a b c:Gh} (h:Ext a b) (k:Ext b c):Ext a c:=
 ⟨fun _ _ _ e=>k.H _ _ _ (h.H _ _ _ e),fun i x hx=>
  have h1:=h.blk i x hx
  have h2:=k.blk i x h1.1
  ⟨h2.1,h2.2.1.trans h1.2.1,h2.2.2.trans h1.2.2⟩,fun i x hx=> (k.sh i x (h.blk i x hx).1).trans (h.sh i x hx)⟩
mutual
theorem RepV.mono {g g' :Gh} (hx:Ext g g'):∀{x:V} {v:Value},RepV g x v→RepV g' x v
 | .d x,v,h=>by simp only[RepV] at h⊢;exact RepD.mono hx.H h
 | .nilS,v,h=>by simpa only[RepV] using h
 | .emp,v,h=>by simpa only[RepV] using h
 | .arr k es ag off len,v,h=>by
  simp only[RepV] at h⊢
  obtain⟨b,hk,o,cap,e,h⟩:=h
  have h2:=hx.blk k b hk
  exact⟨b,h2.1,o,cap,e,by rw[h2.2.1,h2.2.2,hx.sh k b hk];exact h⟩
 | .ptr k off,v,h=>by
  simp only[RepV] at h⊢
  obtain⟨b,hk,e⟩:=h
  exact⟨b,(hx.blk k b hk).1,by rw[hx.sh k b hk];exact e⟩
 | .dptr ds,v,h=>by
  simp only[RepV] at h⊢
  obtain⟨b,off,e,h⟩:=h
  exact⟨b,off,e,RepP.mono hx.H h⟩
 | .nilP,v,h=>by simpa only[RepV] using h
 | .map k,v,h=>by
  simp only[RepV] at h⊢
  obtain⟨b,hk,e⟩:=h
  exact⟨b,(hx.blk k b hk).1,e⟩
 | .nilM,v,h=>by simpa only[RepV] using h
 | .fn f a c,v,h=>by
  simp only[RepV] at h⊢
  obtain⟨vs,ws,e,h1,h2⟩:=h
  exact⟨vs,ws,e,RepVs.mono hx h1,RepVs.mono hx h2⟩
 | .yld k,v,h=>by
  simp only[RepV] at h⊢
  obtain⟨b,hk,e⟩:=h
  exact⟨b,(hx.blk k b hk).1,e⟩
 | .nilF,v,h=>by simpa only[RepV] using h
 | .agg l,v,h=>by
  simp only[RepV] at h⊢
  obtain⟨vs,e,h⟩:=h
  exact⟨vs,e,RepVs.mono hx h⟩
 | .tup l,v,h=>by
  simp only[RepV] at h⊢
  obtain⟨vs,e,h⟩:=h
  exact⟨vs,e,RepVs.mono hx h⟩
theorem RepVs.mono {g g' :Gh} (hx:Ext g g'):∀{l:List V} {vs:List Value},RepVs g l vs→RepVs g' l vs
 | [],_,h=>by simpa only[RepVs] using h
 |x::l,vs,h=>by
  simp only[RepVs] at h⊢
  obtain⟨v,ws,e,h1,h⟩:=h
  exact⟨v,ws,e,RepV.mono hx h1,RepVs.mono hx h⟩
end
def RepM (P:Program) (kt:TypeId) (g:Gh):List (D×V)→List MapEntry→Prop
 | [],es=>es= []
 | (k,x)::l,es=>∃e r,es=e::r∧((∃ag sh,keyT P kt=some (ag,sh)∧z2v ag sh k=true)∧RepD g.H k e.key∧RepV g x e.val)∧RepM P kt g l r
def y19:Ex→Option Code
 | .nrm=>none
 | .brk id=>some (.exit id)
 | .ret=>some .ret
def ObjRep (P:Program) (C:Bool→Program→Code→IC) (g:Gh) (w:World) (b k:Nat):Obj→Prop
 | .cells cs=>g.sz k=cs.length∧(∀j,g.H b j=none)∧∃(arr:Array Value) (ty:TypeId),w.heap[b]?=some (.cells arr ty (0,0))∧cs.length≤g.tot k∧g.sh k+g.tot k≤arr.size∧RepVs g cs ((arr.toList.drop (g.sh k)).take cs.length)
 | .fz ds=>g.sz k=ds.length∧ds.length≤g.tot k∧RepP g.H b ds (g.sh k)
 | .map kt es=> (es.map Prod.fst).Nodup∧∃(en:Array MapEntry) (clock:Nat),w.heap[b]?=some (.map en clock)∧RepM P kt g es en.toList
 | .loop env ps asg body ls pend=>∃L:Loop,w.heap[b]?=some (.loop L)∧RepVs g env L.tmps.toList∧L.params.toList=ps∧(∃nf,C nf P L.assign=asg∧C nf P L.body=body)∧L.state=ls∧(∀x,pend=some x→L.pending=y19 x∧x≠ .nrm)∧(pend=none→L.pending=none)
 | .iter s pos=>g.sh k=0∧∃bs:ByteArray,w.heap[b]?=some (.stringIter bs pos)∧bs.data.toList.map UInt8.toNat=s
 | .dfr=>True
structure Inv (P:Program) (C:Bool→Program→Code→IC) (st:St) (g:Gh) (w:World):Prop where
 u:∀k b,g.blk k=some b→k<st.next∧b<w.heap.size
 H:∀b o v,g.H b o=some v→w.cell? ⟨b,o,none⟩=some v
 inj:∀k j b o x,sget st.s k=some o→sget st.s j=some x→g.blk k=some b→g.blk j=some b→k=j
 obj:∀k o,sget st.s k=some o→∃b,g.blk k=some b∧ObjRep P C g w b k o
def Live (st:St) (g:Gh) (b:Nat):Prop:=∃k o,sget st.s k=some o∧g.blk k=some b
structure Step (st:St) (g:Gh) (w:World) (st' :St) (g' :Gh) (w' :World):Prop where
 ext:Ext g g'
 next:st.next≤st'.next
 size:w.heap.size≤w'.heap.size
 os:w'.os=w.os
 tape:w'.tape=w.tape
 output:w'.output=w.output
 same:∀b,b<w.heap.size→¬Live st g b→w'.heap[b]?=w.heap[b]?
 Hn:∀b o v,g'.H b o=some v→g.H b o=some v∨w.heap.size≤b∨Live st g b
 live:∀b,Live st' g' b→w.heap.size≤b∨Live st g b
theorem Step.refl (st:St) (g:Gh) (w:World):Step st g w st g w:=
 ⟨Ext.refl g,Nat.le_refl _,Nat.le_refl _,rfl,rfl,rfl,fun _ _ _=>rfl,fun _ _ _ h=> .inl h,fun _ h=> .inr h⟩
def Step.trans {st st' st'' :St} {g g' g'' :Gh} {w w' w'' :World} (h:Step st g w st' g' w') (k:Step st' g' w' st'' g'' w''):Step st g w st'' g'' w'' :=by
 refine⟨h.ext.trans k.ext,Nat.le_trans h.next k.next,Nat.le_trans h.size k.size,k.os.trans h.os,k.tape.trans h.tape,k.output.trans h.output,fun b hb hn=> ?_,fun b o v hv=> ?_,fun b hb=> ?_⟩
 ·rw[k.same b (Nat.lt_of_lt_of_le hb h.size) fun hl=> ?_,h.same b hb hn]
  rcases h.live b hl with h1|h1
  ·omega
  ·exact hn h1
 ·rcases k.Hn b o v hv with h1|h1|h1
  ·exact h.Hn b o v h1
  ·exact .inr (.inl (Nat.le_trans h.size h1))
  ·exact .inr (h.live b h1)
 ·rcases k.live b hb with h1|h1
  ·exact .inl (Nat.le_trans h.size h1)
  ·exact h.live b h1
def Inv.drew {P:Program} {C:Bool→Program→Code→IC} {st:St} {g:Gh} {w:World} (h:Inv P C st g w) (n:Nat):Inv P C st g {w with drawn:=n} :=
 ⟨h.u,h.H,h.inj,fun k o ho=>by
  obtain⟨b,h2,h5⟩:=h.obj k o ho
  exact⟨b,h2,by cases o<;>exact h5⟩⟩
theorem Step.drew (st:St) (g:Gh) (w:World) (n:Nat):Step st g w st g {w with drawn:=n} :=
 ⟨Ext.refl g,Nat.le_refl _,Nat.le_refl _,rfl,rfl,rfl,fun _ _ _=>rfl,fun _ _ _ h=> .inl h,fun _ h=> .inr h⟩
variable {P:Program} {C:Bool→Program→Code→IC} {st:St} {g:Gh} {w:World}
theorem z05:∀{s:Sto} {k:Nat} {o x:Obj},sget s k=some x→sget (sset s k o) k=some o
 | [],_,_,_,h=>by simp[sget] at h
 | (j,y)::s,k,o,x,h=>by
  simp only[sget] at h
  by_cases e:j=k
  ·simp[sset,e,sget]
  ·simp only[e,if_false] at h
   simp[sset,e,sget,z05 h]
theorem z0n:∀{s:Sto} {k j:Nat} {o:Obj},j≠k→sget (sset s k o) j=sget s j
 | [],_,_,_,_=>rfl
 | (i,y)::s,k,j,o,h=>by
  by_cases e:i=k
  ·subst e
   simp[sset,sget,Ne.symm h]
  ·simp only[sset,e,if_false,sget,z0n h]
theorem z30:∀{s:Sto} {k:Nat},sget (sdel s k) k=none
 | [],_=>rfl
 | (i,y)::s,k=>by
  by_cases e:i=k
  ·simp only[sdel,e,if_true];exact z30
  ·simp only[sdel,e,if_false,sget,z30]
theorem z1x:∀{s:Sto} {k j:Nat},j≠k→sget (sdel s k) j=sget s j
 | [],_,_,_=>rfl
 | (i,y)::s,k,j,h=>by
  by_cases e:i=k
  ·subst e
   simp[sdel,sget,Ne.symm h,z1x h]
  ·simp only[sdel,e,if_false,sget,z1x h]
def zgf {o:Nat} {v:Value} (h:w.cell? ⟨b,o,none⟩=some v):b<w.heap.size:=by
 unfold World.cell? at h
 split at h
 ·rename_i hx
  exact (Array.getElem?_eq_some_iff.1 hx).1
 ·cases h
def z5m {w' :World} {o:Nat} (h:w'.heap[b]?=w.heap[b]?):w'.cell? ⟨b,o,none⟩=w.cell? ⟨b,o,none⟩:=by
 unfold World.cell?
 simp only[h]
def z6p {o:Nat} {arr:Array Value} {ty:TypeId} {fr:Nat×Nat} (h:w.heap[b]?=some (.cells arr ty fr)):w.cell? ⟨b,o,none⟩=arr[o]?:=by
 simp[World.cell?,h]
def World.add (w:World) (o:Go.Obj):World:= {w with heap:=w.heap.push o}
def z3j {o:Go.Obj}  (h:b<w.heap.size): (World.add w o).heap[b]?=w.heap[b]?:=by
 show (w.heap.push o)[b]?=w.heap[b]?
 rw[Array.getElem?_push,if_neg (Nat.ne_of_lt h)]
def z36 {o:Go.Obj} : (World.add w o).heap[w.heap.size]?=some o:=by
 show (w.heap.push o)[w.heap.size]?=some o
 rw[Array.getElem?_push,if_pos rfl]
theorem z76 {o:Go.Obj} : (World.add w o).heap.size=w.heap.size+1:=Array.size_push _
def World.put (w:World) (b:Nat) (o:Go.Obj):World:= {w with heap:=w.heap.setIfInBounds b o}
def z1j {o:Go.Obj} {c:Nat} (h:c≠b): (World.put w b o).heap[c]?=w.heap[c]?:=by
 simp[World.put,Array.getElem?_setIfInBounds,Ne.symm h]
def z3z {o:Go.Obj}  (h:b<w.heap.size): (World.put w b o).heap[b]?=some o:=by
 simp[World.put,h]
theorem z5v {o:Go.Obj}  : (World.put w b o).heap.size=w.heap.size:=by simp[World.put]
def RepM.mono {kt:TypeId} {g g' :Gh} (hx:Ext g g'):∀{l:List (D×V)} {es:List MapEntry},RepM P kt g l es→RepM P kt g' l es
 | [],_,h=>by simpa only[RepM] using h
 | (k,x)::l,es,h=>by
  simp only[RepM] at h⊢
  obtain⟨e,r,e1,⟨h1,h2,h3⟩,h⟩:=h
  exact⟨e,r,e1,⟨h1,RepD.mono hx.H h2,RepV.mono hx h3⟩,RepM.mono hx h⟩
def ObjRep.mono {g' :Gh} {w' :World}   (h:ObjRep P C g w b k o) (hx:Ext g g') (hsz:g'.sz k=g.sz k∧g'.tot k=g.tot k) (hsh:g'.sh k=g.sh k) (hb:w'.heap[b]?=w.heap[b]?)
  (hH: (∀j,g.H b j=none)→∀j,g'.H b j=none):ObjRep P C g' w' b k o:=by
 cases o with
 |cells cs=>
  obtain⟨h1,h2,arr,ty,h3,h4,h4',h5⟩:=h
  exact⟨hsz.1.trans h1,hH h2,arr,ty,hb.trans h3,hsz.2▸h4,by rw[hsz.2,hsh];exact h4',by rw[hsh];exact RepVs.mono hx h5⟩
 |fz ds=>
  obtain⟨h1,h1',h2⟩:=h
  exact⟨hsz.1.trans h1,hsz.2▸h1',by rw[hsh];exact RepP.mono hx.H h2⟩
 |map kt es=>
  obtain⟨h0,en,cl,h1,h2⟩:=h
  exact⟨h0,en,cl,hb.trans h1,RepM.mono hx h2⟩
 |loop env ps asg body ls pend=>
  obtain⟨L,h1,h2,h3⟩:=h
  exact⟨L,hb.trans h1,RepVs.mono hx h2,h3⟩
 |iter s pos=>
  obtain⟨h0,bs,h1,h2⟩:=h
  exact⟨hsh.trans h0,bs,hb.trans h1,h2⟩
 |dfr=>trivial
def Inv.Hnew (h:Inv P C st g w) (o:Nat):g.H w.heap.size o=none:=by
 cases e:g.H w.heap.size o with
 |none=>rfl
 |some v=>exact absurd (zgf (h.H _ _ _ e)) (Nat.lt_irrefl _)
def Inv.fresh (h:Inv P C st g w)  (hk:g.blk k=none):sget st.s k=none:=by
 cases e:sget st.s k with
 |none=>rfl
 |some o=>obtain⟨b,hb,_⟩:=h.obj k o e;rw[hk] at hb;cases hb
def Gh.asg (g:Gh) (k b n m:Nat):Gh:=
 {H:=g.H,blk:=fun j=>if j=k then some b else g.blk j,sz:=fun j=>if j=k then n else g.sz j,tot:=fun j=>if j=k then m else g.tot j,sh:=fun j=>if j=k then 0 else g.sh j}
def Gh.asgS (g:Gh) (k b n m s:Nat):Gh:=
 {H:=g.H,blk:=fun j=>if j=k then some b else g.blk j,sz:=fun j=>if j=k then n else g.sz j,tot:=fun j=>if j=k then m else g.tot j,sh:=fun j=>if j=k then s else g.sh j}
def Ext.asgS  (hk:g.blk k=none):Ext g (g.asgS k b n m s):=
 ⟨fun _ _ _ h=>h,fun j c hj=>by
  have hne:j≠k:=fun e=>by rw[e,hk] at hj;cases hj
  simp[Gh.asgS,hne,hj],fun j c hj=>by
  have hne:j≠k:=fun e=>by rw[e,hk] at hj;cases hj
  simp[Gh.asgS,hne]⟩
def Ext.asg  (hk:g.blk k=none):Ext g (g.asg k b n m):=
 ⟨fun _ _ _ h=>h,fun j c hj=>by
  have hne:j≠k:=fun e=>by rw[e,hk] at hj;cases hj
  simp[Gh.asg,hne,hj],fun j c hj=>by
  have hne:j≠k:=fun e=>by rw[e,hk] at hj;cases hj
  simp[Gh.asg,hne]⟩
theorem z74  : (g.asgS k b n m s).blk k=some b:=by simp[Gh.asgS]
def zl7 {k b n m s:Nat} : (g.asgS k b n m s).sz k=n∧(g.asgS k b n m s).tot k=m:=by simp[Gh.asgS]
theorem zvs {k b n m s:Nat} : (g.asgS k b n m s).sh k=s:=by simp[Gh.asgS]
theorem z2w  (h:j≠k): (g.asgS k b n m s).blk j=g.blk j∧(g.asgS k b n m s).sz j=g.sz j∧(g.asgS k b n m s).tot j=g.tot j:=by simp[Gh.asgS,h]
def zzw  (h:j≠k): (g.asgS k b n m s).sh j=g.sh j:=by simp[Gh.asgS,h]
theorem z4n  : (g.asg k b n m).sh k=0:=by simp[Gh.asg]
def y4x  (h:j≠k): (g.asg k b n m).sh j=g.sh j:=by simp[Gh.asg,h]
theorem z29  : (g.asg k b n m).blk k=some b:=by simp[Gh.asg]
def z3u {k b n m:Nat} : (g.asg k b n m).sz k=n∧(g.asg k b n m).tot k=m:=by simp[Gh.asg]
theorem z20  (h:j≠k): (g.asg k b n m).blk j=g.blk j∧(g.asg k b n m).sz j=g.sz j∧(g.asg k b n m).tot j=g.tot j:=by simp[Gh.asg,h]
def Inv.assign (h:Inv P C st g w)  (hk:g.blk k=none) (hlt:k<st.next) (ob:Go.Obj):
  Inv P C st (g.asg k w.heap.size n m) (World.add w ob)∧Step st g w st (g.asg k w.heap.size n m) (World.add w ob):=by
 have hno:=h.fresh hk
 refine⟨⟨fun j b hj=> ?_,fun b o v hv=> ?_,fun i j b o x hi hj hbi hbj=> ?_,fun j x hx=> ?_⟩,⟨Ext.asg hk,Nat.le_refl _,by rw[z76];omega,rfl,rfl,rfl,fun b hb _=>z3j hb,fun b o v hv=> .inl hv,fun b hb=> ?_⟩⟩
 ·rw[z76]
  by_cases e:j=k
  ·subst e
   rw[z29] at hj
   cases hj
   exact⟨hlt,ω⟩
  ·rw[(z20 e).1] at hj
   have:=h.u j b hj
   exact⟨this.1,ω⟩
 ·have:=h.H b o v hv
  rw[z5m (z3j (zgf this))];exact this
 ·have e1:i≠k:=fun e=>by rw[e,hno] at hi;cases hi
  have e2:j≠k:=fun e=>by rw[e,hno] at hj;cases hj
  rw[(z20 e1).1] at hbi
  rw[(z20 e2).1] at hbj
  exact h.inj i j b o x hi hj hbi hbj
 ·obtain⟨b,h2,h5⟩:=h.obj j x hx
  have e:j≠k:=fun e=>by rw[e,hno] at hx;cases hx
  exact⟨b,by rw[(z20 e).1];exact h2,h5.mono (Ext.asg hk) (z20 e).2 (y4x e) (z3j (h.u j b h2).2) fun hh=>hh⟩
 ·obtain⟨j,o,h1,h2⟩:=hb
  have e:j≠k:=fun e=>by rw[e,hno] at h1;cases h1
  rw[(z20 e).1] at h2
  exact .inr ⟨j,o,h1,h2⟩
def Inv.put (h:Inv P C st g w)  (hb:g.blk k=some b) (hl:¬Live st g b)  (hrep:ObjRep P C g w b k o):Inv P C (st.ins k o) g w:=by
 refine⟨h.u,h.H,fun i j c y z hi hj hbi hbj=> ?_,fun j x hx=> ?_⟩
 ·simp only[St.ins,sget] at hi hj
  by_cases e1:k=i<;>by_cases e2:k=j
  ·exact e1.symm.trans e2
  ·subst e1
   simp only[e2,if_false] at hj
   rw[hb] at hbi;cases hbi
   exact absurd ⟨j,z,hj,hbj⟩ hl
  ·subst e2
   simp only[e1,if_false] at hi
   rw[hb] at hbj;cases hbj
   exact absurd ⟨i,y,hi,hbi⟩ hl
  ·simp only[e1,if_false] at hi
   simp only[e2,if_false] at hj
   exact h.inj i j c y z hi hj hbi hbj
 ·simp only[St.ins,sget] at hx
  by_cases e:k=j
  ·subst e
   simp only[if_true,Option.some.injEq] at hx
   subst hx
   exact⟨b,hb,hrep⟩
  ·simp only[e,if_false] at hx
   exact h.obj j x hx
def Step.put {st0:St} {g0:Gh} {w0:World} (h:Step st0 g0 w0 st g w)  (hb:g.blk k=some b) (hn:w0.heap.size≤b∨Live st0 g0 b) (o:Obj):Step st0 g0 w0 (st.ins k o) g w:=by
 refine⟨h.ext,h.next,h.size,h.os,h.tape,h.output,h.same,h.Hn,fun c hc=> ?_⟩
 obtain⟨j,x,h1,h2⟩:=hc
 simp only[St.ins,sget] at h1
 by_cases e:k=j
 ·subst e
  rw[hb] at h2;cases h2
  exact hn
 ·simp only[e,if_false] at h1
  exact h.live c ⟨j,x,h1,h2⟩
def Inv.notLive (h:Inv P C st g w):¬Live st g w.heap.size:=fun⟨k,_,_,hb⟩=>Nat.lt_irrefl _ (h.u k _ hb).2
def Inv.ins (h:Inv P C st g w)  (hk:g.blk k=none) (hlt:k<st.next)  {ob:Go.Obj}
  (hrep:ObjRep P C (g.asg k w.heap.size n m) (World.add w ob) w.heap.size k o):
  Inv P C (st.ins k o) (g.asg k w.heap.size n m) (World.add w ob)∧Step st g w (st.ins k o) (g.asg k w.heap.size n m) (World.add w ob):=
 have h1:=h.assign (n:=n) (m:=m) hk hlt ob
 have hn:¬Live st (g.asg k w.heap.size n m) w.heap.size:=fun⟨j,x,h2,h3⟩=>by
  have e:j≠k:=fun e=>by rw[e,h.fresh hk] at h2;cases h2
  rw[(z20 e).1] at h3
  exact h.notLive ⟨j,x,h2,h3⟩
 ⟨h1.1.put z29 hn hrep,h1.2.put z29 (.inl (Nat.le_refl _)) o⟩
def zap  {o' y:Obj} (ho:sget st.s k=some o) (h:sget (st.set k o').s j=some y):∃x,sget st.s j=some x:=by
 by_cases e:j=k
 ·subst e;exact⟨o,ho⟩
 ·simp only[St.set] at h
  rw[z0n e] at h
  exact⟨y,h⟩
def Inv.write (h:Inv P C st g w)  {o':Obj} (ho:sget st.s k=some o) (hb:g.blk k=some b) {w' :World} (hs:w'.heap.size=w.heap.size)
  (hos:w'.os=w.os) (htp:w'.tape=w.tape) (hout:w'.output=w.output)
  (hother:∀c,c≠b→w'.heap[c]?=w.heap[c]?) (hH:∀j v,g.H b j=some v→w'.cell? ⟨b,j,none⟩=some v) (hrep:ObjRep P C g w' b k o'):
  Inv P C (st.set k o') g w' ∧Step st g w (st.set k o') g w' :=by
 refine⟨⟨fun j c hj=>by rw[hs];exact h.u j c hj,fun c j v hv=> ?_,fun i j c y z hi hj hbi hbj=> ?_,fun j x hx=> ?_⟩,⟨Ext.refl g,Nat.le_refl _,ω,hos,htp,hout,fun c _ hn=>hother c fun e=>hn ⟨k,o,ho,e▸hb⟩,fun _ _ _ hv=> .inl hv,fun c hc=> ?_⟩⟩
 ·by_cases e:c=b
  ·subst e;exact hH j v hv
  ·rw[z5m (hother c e)];exact h.H c j v hv
 ·obtain⟨y',hy⟩:=zap ho hi
  obtain⟨z',hz⟩:=zap ho hj
  exact h.inj i j c _ _ hy hz hbi hbj
 ·simp only[St.set] at hx
  by_cases e:j=k
  ·subst e
   rw[z05 ho] at hx
   cases hx
   exact⟨b,hb,hrep⟩
  ·rw[z0n e] at hx
   obtain⟨c,h2,h5⟩:=h.obj j x hx
   refine⟨c,h2,h5.mono (Ext.refl g) ⟨rfl,rfl⟩ rfl (hother c fun e' =>e (h.inj j k b _ _ hx ho (e' ▸h2) hb)) fun hh=>hh⟩
 ·obtain⟨j,x,h1,h2⟩:=hc
  simp only[St.set] at h1
  by_cases e:j=k
  ·subst e;exact .inr ⟨j,o,ho,h2⟩
  ·rw[z0n e] at h1
   exact .inr ⟨j,x,h1,h2⟩
def Inv.del (h:Inv P C st g w) (k:Nat):Inv P C (st.del k) g w∧Step st g w (st.del k) g w:=by
 have hsub:∀{j x},sget (st.del k).s j=some x→sget st.s j=some x:=fun {j x} hx=>by
  simp only[St.del] at hx
  by_cases e:j=k
  ·subst e;rw[z30] at hx;cases hx
  ·rw[z1x e] at hx;exact hx
 refine⟨⟨h.u,h.H,fun i j c y z hi hj=>h.inj i j c y z (hsub hi) (hsub hj),fun j x hx=> ?_⟩,⟨Ext.refl g,Nat.le_refl _,Nat.le_refl _,rfl,rfl,rfl,fun _ _ _=>rfl,fun _ _ _ hv=> .inl hv,fun c hc=> ?_⟩⟩
 ·exact h.obj j x (hsub hx)
 ·obtain⟨j,x,h1,h2⟩:=hc
  exact .inr ⟨j,x,hsub h1,h2⟩
def Gh.still (g:Gh) (b s:Nat) (vs:List Value):Gh:= {H:=fun c j=>if c=b then (if s≤j then vs[j-s]? else none) else g.H c j,blk:=g.blk,sz:=g.sz,tot:=g.tot,sh:=g.sh}
theorem Ext.still  {vs:List Value} (hb:∀j,g.H b j=none):Ext g (g.still b s vs):=
 ⟨fun c j v h=>by
  by_cases e:c=b
  ·subst e;rw[hb j] at h;cases h
  ·simpa [Gh.still,e] using h,fun _ _ h=>⟨h,rfl,rfl⟩,fun _ _ _=>rfl⟩
theorem RepP.of_get {H:Still} {b:Nat} :∀{l:List D} {vs:List Value} {off:Nat},RepC H l vs→(∀(j:Nat) v,vs[j]?=some v→H b (off+j)=some v)→RepP H b l off
 | [],_,_,_,_=>by simp only[RepP]
 |x::l,vs,off,h,hv=>by
  simp only[RepC] at h
  obtain⟨v,ws,rfl,h1,h⟩:=h
  simp only[RepP]
  refine⟨⟨v,by simpa using hv 0 v ψ,h1⟩,RepP.of_get h fun j u hu=> ?_⟩
  have:=hv (j+1) u (by simpa using hu)
  rwa [show off+ (j+1)=off+1+j from by omega] at this
def Inv.freeze (h:Inv P C st g w)  {cs:Lv} {ds:Ld} (ho:sget st.s k=some (.cells cs)) (hb:g.blk k=some b)
  {vs:List Value} (hvs:∀j v,vs[j]?=some v→w.cell? ⟨b,g.sh k+j,none⟩=some v) (hlen:ds.length=cs.length) (hrep:RepC (g.still b (g.sh k) vs).H ds vs):
  Inv P C (st.set k (.fz ds)) (g.still b (g.sh k) vs) w∧Step st g w (st.set k (.fz ds)) (g.still b (g.sh k) vs) w:=by
 obtain⟨c,h2,hsz,hHn,arr,ty,hheap,hle,_,hcs⟩:=h.obj k _ ho
 rw[hb] at h2;cases h2
 have hx:Ext g (g.still b (g.sh k) vs):=Ext.still hHn
 refine⟨⟨h.u,fun c j v hv=> ?_,fun i j c y z hi hj hbi hbj=> ?_,fun j x hx' => ?_⟩,⟨hx,Nat.le_refl _,Nat.le_refl _,rfl,rfl,rfl,fun _ _ _=>rfl,fun c j v hv=> ?_,fun c hc=> ?_⟩⟩
 ·simp only[Gh.still] at hv
  by_cases e:c=b
  ·subst e
   simp only[if_true] at hv
   split at hv
   ·rename_i hj
    have:=hvs _ v hv
    rwa [show g.sh k+ (j-g.sh k)=j from by omega] at this
   ·cases hv
  ·simp only[e,if_false] at hv;exact h.H c j v hv
 ·obtain⟨y',hy⟩:=zap ho hi
  obtain⟨z',hz⟩:=zap ho hj
  exact h.inj i j c _ _ hy hz hbi hbj
 ·simp only[St.set] at hx'
  by_cases e:j=k
  ·subst e
   rw[z05 ho] at hx'
   cases hx'
   refine⟨b,hb,by simp only[Gh.still];omega,by simp only[Gh.still];omega,RepP.of_get hrep fun i v hv=> ?_⟩
   simp only[Gh.still,if_true]
   rw[if_pos ω,show g.sh j+i-g.sh j=i from by omega];exact hv
  ·rw[z0n e] at hx'
   obtain⟨c,h6,h9⟩:=h.obj j x hx'
   refine⟨c,h6,h9.mono hx ⟨rfl,rfl⟩ rfl rfl fun hh i=> ?_⟩
   have hne:c≠b:=fun e' =>e (h.inj j k b _ _ hx' ho (e' ▸h6) hb)
   simp[Gh.still,hne,hh i]
 ·simp only[Gh.still] at hv
  by_cases e:c=b
  ·subst e;exact .inr (.inr ⟨k,_,ho,hb⟩)
  ·simp only[e,if_false] at hv;exact .inl hv
 ·obtain⟨j,x,h1,h2'⟩:=hc
  simp only[St.set] at h1
  by_cases e:j=k
  ·subst e;exact .inr ⟨j,_,ho,h2'⟩
  ·rw[z0n e] at h1
   exact .inr ⟨j,x,h1,h2'⟩
end Go.Lift
namespace Go.Lift
open Go
variable{n:Nat}{x y:V}{cs:Lv}{ag:Bool}
variable {P:Program} {C:Bool→Program→Code→IC} {st:St} {g:Gh} {w:World}
def z3k {α:Type} {l:List α} {j:Nat} {u:α} (h: (l.take n)[j]?=some u):l[j]?=some u∧j<n:=by
 rw[List.getElem?_take] at h
 split at h
 ·rename_i hj;exact⟨h,hj⟩
 ·cases h
def z41 {t:TypeId}  (h:z52 P t=some n):∃i,P.info? t=some i∧i.size=n:=by
 unfold z52 at h
 cases e:P.info? t with
 |none=>rw[e] at h;cases h
 |some i=>rw[e] at h;exact⟨i,rfl,by simpa using h⟩
def z24 {t:TypeId}  (h:z52 P t=some n): (sizeOf t).run P w= .ok n w:=by
 obtain⟨i,hi,hn⟩:=z41 h
 simp[sizeOf,typeInfo,hi,hn]
def z0a {t:TypeId} {d:TypeDesc} (h:P.underlying t=some d): (underlying t).run P w= .ok d w:=by
 simp[underlying,h]
def z6x {t:TypeId} {b:Bool} (h:tagg P t=some b): (isAgg t).run P w= .ok b w:=by
 unfold tagg at h
 unfold isAgg
 split at h
 ·rename_i d hd;cases h;simp[z0a hd]
 ·rename_i d hd;cases h;simp[z0a hd]
 ·rename_i d h1 h2 hd
  cases h
  cases d<;>first| (exact absurd rfl (h1 _))| (exact absurd rfl (h2 _ _))|simp[z0a hd]
 ·cases h
def zuz {v:Value}  (h:cvC v=some x):RepV g x v:=by
 unfold cvC at h
 split at h<;>first| (cases h;done)| (cases h;simp[RepV,RepD])
def zkm:∀{l:List Value} {m:List V},mapO cvC l=some m→RepVs g m l
 | [],m,h=>by simp[mapO] at h;subst h;simp[RepVs]
 |x::l,m,h=>by
  simp only[mapO] at h
  split at h
  ·cases h
  ·rename_i y hy
   split at h
   ·cases h
   ·rename_i ys hys
    cases h
    exact z0w.2 ⟨zuz hy,zkm hys⟩
def z5s:RepV g .undef Go.undef:=by simp[RepV,RepVs,Go.undef]
def z0u {a:Act} {env:Lv} (henv:RepVs g env a.tmps.toList) {x:Operand} {y:Opd} (h:cOpd x=some y):RepV g (evO env y) (a.eval x):=by
 cases x with
 |tmp t=>
  simp only[cOpd,Option.some.injEq] at h
  subst h
  simp only[evO,Act.eval]
  by_cases ht:t<env.length
  ·have hl:=henv.length
   obtain⟨v,hv,hr⟩:=henv.get (i:=t) (x:=env[t]) (by simp[ht])
   have hv' :a.tmps[t]?=some v:=by simpa using hv
   simp only[List.getD,ht,List.getElem?_eq_getElem,Option.getD_some,Array.getD_eq_getD_getElem?,hv']
   exact hr
  ·have hl:=henv.length
   have h1:env[t]?=none:=List.getElem?_eq_none (Nat.le_of_not_lt ht)
   have h2:a.tmps[t]?=none:=by
    simp only[Array.length_toList] at hl
    exact Array.getElem?_eq_none (by rw[hl];exact Nat.le_of_not_lt ht)
   simp only[List.getD,h1,Option.getD_none,Array.getD_eq_getD_getElem?,h2]
   exact z5s
 |const v=>
  simp only[cOpd,Option.map_eq_some_iff] at h
  obtain⟨x,hx,rfl⟩:=h
  exact zuz hx
 |func f=>
  simp only[cOpd,Option.some.injEq] at h
  subst h
  simp[evO,Act.eval,RepV,RepVs]
 |global g=>simp[cOpd] at h
def z9i {a:Act} {env:List V} (henv:RepVs g env a.tmps.toList):∀{l:List Operand} {m:List Opd},zgg l=some m→RepVs g (m.map (evO env)) (l.map a.eval)
 | [],m,h=>by simp[zgg,mapO] at h;subst h;simp[RepVs]
 |x::l,m,h=>by
  simp only[zgg,mapO] at h
  split at h
  ·cases h
  ·rename_i y hy
   split at h
   ·cases h
   ·rename_i ys hys
    cases h
    exact z0w.2 ⟨z0u henv hy,z9i henv hys⟩
theorem zd8:∀{cs:List V} {ds:List D},allD cs=some ds→cs=ds.map V.d
 | [],ds,h=>by simp[allD] at h;simp[←h]
 | .d x::cs,ds,h=>by
  simp only[allD,Option.map_eq_some_iff] at h
  obtain⟨ys,hy,rfl⟩:=h
  simp[zd8 hy]
 | .nilS::_,_,h=>by simp[allD] at h
 | .emp::_,_,h=>by simp[allD] at h
 | .arr _ _ _ _ _::_,_,h=>by simp[allD] at h
 | .ptr _ _::_,_,h=>by simp[allD] at h
 | .dptr _::_,_,h=>by simp[allD] at h
 | .nilP::_,_,h=>by simp[allD] at h
 | .map _::_,_,h=>by simp[allD] at h
 | .nilM::_,_,h=>by simp[allD] at h
 | .fn _ _ _::_,_,h=>by simp[allD] at h
 | .yld _::_,_,h=>by simp[allD] at h
 | .nilF::_,_,h=>by simp[allD] at h
 | .agg _::_,_,h=>by simp[allD] at h
 | .tup _::_,_,h=>by simp[allD] at h
theorem z11:∀{ds:List D} {vs:List Value},RepVs g (ds.map V.d) vs↔RepC g.H ds vs
 | [],vs=>by simp[RepVs,RepC]
 |x::ds,vs=>by
  simp only[List.map_cons,RepVs,RepC,RepV]
  exact⟨fun⟨v,ws,e,h1,h2⟩=>⟨v,ws,e,h1,z11.1 h2⟩,fun⟨v,ws,e,h1,h2⟩=>⟨v,ws,e,h1,z11.2 h2⟩⟩
def zan  {vs:Array Value} (h:RepVs g cs vs.toList):RepV g (mkAgg cs) (.agg vs):=by
 unfold mkAgg
 split
 ·rename_i ds hds
  have:=zd8 hds
  subst this
  simp only[RepV,RepD]
  exact⟨vs,rfl,z11.1 h⟩
 ·simp only[RepV]
  exact⟨vs,rfl,h⟩
def ze2    (h:ofCells ag cs=some y) {vs:List Value} (hr:RepVs g cs vs):
  (ag=true→RepV g y (.agg vs.toArray))∧(ag=false→∃u,vs= [u]∧RepV g y u):=by
 unfold ofCells at h
 cases ag with
 |true=>simp only[if_true,Option.some.injEq] at h;subst h;exact⟨fun _=>zan (by simpa using hr),fun e=> (by cases e)⟩
 |false=>
  simp only[Bool.false_eq_true,if_false] at h
  refine⟨fun e=> (by cases e),fun _=> ?_⟩
  split at h
  ·cases h
   obtain⟨v,ws,rfl,h1,h2⟩:=by simpa only[RepVs] using hr
   exact⟨v,by rw[h2],h1⟩
  ·cases h
def zbr  {cs:Ld}  (h:ofCellsD ag cs=some y) {vs:List Value} (hr:RepC g.H cs vs):
  (ag=true→RepV g y (.agg vs.toArray))∧(ag=false→∃u,vs= [u]∧RepV g y u):=by
 unfold ofCellsD at h
 cases ag with
 |true=>simp only[if_true,Option.some.injEq] at h;subst h;exact⟨fun _=>by simp only[RepV,RepD];exact⟨_,rfl,by simpa using hr⟩,fun e=> (by cases e)⟩
 |false=>
  simp only[Bool.false_eq_true,if_false] at h
  refine⟨fun e=> (by cases e),fun _=> ?_⟩
  split at h
  ·cases h
   obtain⟨v,ws,rfl,h1,h2⟩:=by simpa only[RepC] using hr
   exact⟨v,by rw[h2],by simpa only[RepV] using h1⟩
  ·cases h
def RepD.cells {H:Still} {x:D} {v:Value} (h:RepD H x v):RepC H (cellsD x) v.cells.toList:=by
 cases x with
 |agg l=>
  simp only[RepD] at h
  obtain⟨vs,rfl,h⟩:=h
  simpa [cellsD,Value.cells] using h
 |bool b=>have h0:=h;simp only[RepD] at h;subst h;simpa [cellsD,Value.cells,RepC] using h0
 |int k n=>have h0:=h;simp only[RepD] at h;subst h;simpa [cellsD,Value.cells,RepC] using h0
 |str s=>have h0:=h;simp only[RepD] at h;obtain⟨b,rfl,h⟩:=h;simpa [cellsD,Value.cells,RepC] using h0
 |sl l=>have h0:=h;simp only[RepD] at h;obtain⟨a,cap,rfl,h⟩:=h;simpa [cellsD,Value.cells,RepC] using h0
def z0x  {v:Value} (h:RepV g x v) (hv:v.cells= #[v]) (hc:cellsV x= [x]):RepVs g (cellsV x) v.cells.toList:=by
 rw[hc,hv]
 exact z0w.2 ⟨h,z1h⟩
def RepV.cells  {v:Value} (h:RepV g x v):RepVs g (cellsV x) v.cells.toList:=by
 cases x with
 |d x=>
  cases x with
  |agg l=>
   simp only[RepV,RepD] at h
   obtain⟨vs,rfl,h⟩:=h
   simpa [cellsV,Value.cells,z11] using h
  |bool b=>exact z0x h (by simp only[RepV,RepD] at h;subst h;rfl) rfl
  |int k n=>exact z0x h (by simp only[RepV,RepD] at h;subst h;rfl) rfl
  |str s=>exact z0x h (by simp only[RepV,RepD] at h;obtain⟨b,rfl,h⟩:=h;rfl) rfl
  |sl l=>exact z0x h (by simp only[RepV,RepD] at h;obtain⟨a,cap,rfl,h⟩:=h;rfl) rfl
 |agg l=>
  simp only[RepV] at h
  obtain⟨vs,rfl,h⟩:=h
  simpa [cellsV,Value.cells] using h
 |nilS=>exact z0x h (by simp only[RepV] at h;subst h;rfl) rfl
 |emp=>exact z0x h (by simp only[RepV] at h;obtain⟨a,c,rfl⟩:=h;rfl) rfl
 |arr k es ag off len=>exact z0x h (by simp only[RepV] at h;obtain⟨_,_,_,_,rfl,_⟩:=h;rfl) rfl
 |ptr k off=>exact z0x h (by simp only[RepV] at h;obtain⟨_,_,rfl⟩:=h;rfl) rfl
 |dptr ds=>exact z0x h (by simp only[RepV] at h;obtain⟨b,o,rfl,_⟩:=h;rfl) rfl
 |nilP=>exact z0x h (by simp only[RepV] at h;subst h;rfl) rfl
 |map k=>exact z0x h (by simp only[RepV] at h;obtain⟨_,_,rfl⟩:=h;rfl) rfl
 |nilM=>exact z0x h (by simp only[RepV] at h;subst h;rfl) rfl
 |fn f a c=>exact z0x h (by simp only[RepV] at h;obtain⟨_,_,rfl,_⟩:=h;rfl) rfl
 |yld k=>exact z0x h (by simp only[RepV] at h;obtain⟨_,_,rfl⟩:=h;rfl) rfl
 |nilF=>exact z0x h (by simp only[RepV] at h;subst h;rfl) rfl
 |tup l=>exact z0x h (by simp only[RepV] at h;obtain⟨vs,rfl,_⟩:=h;rfl) rfl
def RepD.oneCell {H:Still} {x:D} {v:Value} (hc:x.isCell=true) (h:RepD H x v):v.oneCell' =true:=by
 cases x with
 |agg l=>simp[D.isCell] at hc
 |bool b=>simp only[RepD] at h;subst h;rfl
 |int k n=>simp only[RepD] at h;subst h;rfl
 |str s=>simp only[RepD] at h;obtain⟨b,rfl,h⟩:=h;rfl
 |sl l=>simp only[RepD] at h;obtain⟨a,cap,rfl,h⟩:=h;rfl
def RepV.oneCell  {v:Value} (hc:x.isCell=true) (h:RepV g x v):v.oneCell' =true:=by
 cases x with
 |d x=>simp only[RepV] at h;exact RepD.oneCell (by simpa [V.isCell] using hc) h
 |agg l=>simp[V.isCell] at hc
 |tup l=>simp[V.isCell] at hc
 |nilS=>simp only[RepV] at h;subst h;rfl
 |emp=>simp only[RepV] at h;obtain⟨a,c,rfl⟩:=h;rfl
 |arr k es ag off len=>simp only[RepV] at h;obtain⟨_,_,_,_,rfl,_⟩:=h;rfl
 |ptr k off=>simp only[RepV] at h;obtain⟨_,_,rfl⟩:=h;rfl
 |dptr ds=>simp only[RepV] at h;obtain⟨b,o,rfl,_⟩:=h;rfl
 |nilP=>simp only[RepV] at h;subst h;rfl
 |map k=>simp only[RepV] at h;obtain⟨_,_,rfl⟩:=h;rfl
 |nilM=>simp only[RepV] at h;subst h;rfl
 |fn f a c=>simp only[RepV] at h;obtain⟨_,_,rfl,_⟩:=h;rfl
 |yld k=>simp only[RepV] at h;obtain⟨_,_,rfl⟩:=h;rfl
 |nilF=>simp only[RepV] at h;subst h;rfl
theorem RepVs.oneCells:∀{l:List V} {vs:List Value},l.all V.isCell=true→RepVs g l vs→∀v∈vs,v.oneCell' =true
 | [],vs,_,h=>by simp only[RepVs] at h;subst h;simp
 |x::l,vs,hc,h=>by
  simp only[RepVs] at h
  obtain⟨v,ws,rfl,h1,h⟩:=h
  simp only[List.all_cons,Bool.and_eq_true] at hc
  intro u hu
  rcases List.mem_cons.1 hu with rfl|hu
  ·exact h1.oneCell hc.1
  ·exact RepVs.oneCells hc.2 h u hu
def z5u (hi:Inv P C st g w) {k:Nat}  (h:scells st.s k=some cs):
  ∃b vs,g.blk k=some b∧g.sz k=cs.length∧g.sz k≤g.tot k∧RepVs g cs vs∧∀(j:Nat) u,vs[j]?=some u→w.cell? ⟨b,g.sh k+j,none⟩=some u:=by
 unfold scells at h
 split at h
 ·rename_i cs' ho
  cases h
  obtain⟨b,hb,hsz,_,arr,ty,hheap,hle,_,hr⟩:=hi.obj k _ ho
  refine⟨b,_,hb,hsz,ω,hr,fun j u hu=> ?_⟩
  rw[z6p hheap]
  have:= (z3k hu).1
  rw[List.getElem?_drop] at this
  simpa using this
 ·rename_i ds ho
  cases h
  obtain⟨b,hb,hsz,htot,hr⟩:=hi.obj k _ ho
  have key:∀(l:Ld) (off:Nat),RepP g.H b l off→∃vs,RepC g.H l vs∧∀(j:Nat) u,vs[j]?=some u→g.H b (off+j)=some u:=by
   intro l
   induction l with
   |nil=>intro off _;exact⟨[],z94,fun j u hu=>by simp at hu⟩
   |cons x l ih=>
    intro off h
    simp only[RepP] at h
    obtain⟨⟨y,h1,h2⟩,h⟩:=h
    obtain⟨vs,h3,h4⟩:=ih _ h
    refine⟨y::vs,z21.2 ⟨h2,h3⟩,fun j u hu=> ?_⟩
    cases j with
    |zero=>simp at hu;subst hu;exact h1
    |succ j=>have:=h4 j u (by simpa using hu);rwa [show off+1+j=off+ (j+1) by omega] at this
  obtain⟨vs,h1,h2⟩:=key ds _ hr
  exact⟨b,vs,hb,by simpa using hsz,ω,z11.2 h1,fun j u hu=>hi.H _ _ _ (h2 j u hu)⟩
 ·cases h
theorem z6t (b o j:Nat): (⟨b,o,none⟩:Addr).add j=⟨b,o+j,none⟩:=by unfold Addr.add;split<;>simp_all
def z9s {t:TypeId}   (hn:z52 P t=some n) (ha:tagg P t=some ag) (hag: (ag||n==1)=true) {b o:Nat} {us:List Value} (hl:us.length=n)
  (h:∀(j:Nat) u,us[j]?=some u→w.cell? ⟨b,o+j,none⟩=some u):
  ∃u,(loadVar t ⟨b,o,none⟩).run P w= .ok u w∧(ag=true→u= .agg us.toArray)∧(ag=false→us= [u]):=by
 cases ag with
 |true=>
  refine⟨.agg us.toArray,?_,fun _=>rfl,fun e=> (by cases e)⟩
  have hlc:=run_loadCells_list (P:=P) w ⟨b,o,none⟩ us (fun j v hv=>by rw[z6t];exact h j v hv)
  simp[loadVar,z6x ha,z24 hn,←hl,hlc]
 |false=>
  simp only[Bool.false_or,beq_iff_eq] at hag
  obtain⟨u,rfl⟩:=List.length_eq_one_iff.1 (hl.trans hag)
  refine⟨u,?_,fun e=> (by cases e),fun _=>rfl⟩
  have:=h 0 u ψ
  simp only[Nat.add_zero] at this
  simp[loadVar,z6x ha,this]
def RepP.cells {H:Still} {b:Nat} :∀{l:List D} {off:Nat},RepP H b l off→∃vs,RepC H l vs∧∀(j:Nat) u,vs[j]?=some u→H b (off+j)=some u
 | [],_,_=>⟨[],z94,fun j u hu=>by simp at hu⟩
 |x::l,off,h=>by
  simp only[RepP] at h
  obtain⟨⟨y,h1,h2⟩,h⟩:=h
  obtain⟨vs,h3,h4⟩:=RepP.cells h
  refine⟨y::vs,z21.2 ⟨h2,h3⟩,fun j u hu=> ?_⟩
  cases j with
  |zero=>simp at hu;subst hu;exact h1
  |succ j=>have:=h4 j u (by simpa using hu);rwa [show off+1+j=off+ (j+1) by omega] at this
def zt1 (hi:Inv P C st g w) {t:TypeId}   (hn:z52 P t=some n) (ha:tagg P t=some ag) (hag: (ag||n==1)=true)  {v:Value}
  (h:z1s st n ag x=some y) (hx:RepV g x v):∃u,(Instr.loadAt t v).run P w= .ok u w∧RepV g y u:=by
 cases x<;>simp only[z1s] at h<;>try (cases h;done)
 case ptr k off=>
  simp only[RepV] at hx
  obtain⟨b',hb',hv⟩:=hx
  split at h
  ·rename_i cs hcs
   split at h
   ·rename_i hle
    obtain⟨b,vs,hb,_,_,hr,hc⟩:=z5u hi hcs
    obtain rfl:b=b' :=Option.some.inj (hb.symm.trans hb')
    subst hv
    have hl:=hr.length
    obtain⟨u,hu,h1,h2⟩:=z9s (P:=P) (w:=w) hn ha hag (b:=b) (o:=g.sh k+off) (us:= (vs.drop off).take n) (by simp;omega) (fun j u hu=>by
     have h3:= (z3k hu).1
     rw[List.getElem?_drop] at h3
     rw[Nat.add_assoc]
     exact hc _ _ h3)
    refine⟨u,by simpa [Instr.loadAt,Instr.sureAddr] using hu,?_⟩
    have hk:=ze2 h (RepVs.take n (RepVs.drop off hr))
    cases ag with
    |true=>rw[h1 rfl];exact hk.1 rfl
    |false=>
     obtain⟨u',e,h3⟩:=hk.2 rfl
     rw[h2 rfl] at e
     cases e
     exact h3
   ·cases h
  ·cases h
 case dptr ds=>
  simp only[RepV] at hx
  obtain⟨b,off,rfl,hp⟩:=hx
  split at h
  ·rename_i hle
   obtain⟨vs,hr,hc⟩:=RepP.cells hp
   have hl:=hr.length
   obtain⟨u,hu,h1,h2⟩:=z9s (P:=P) (w:=w) hn ha hag (b:=b) (o:=off) (us:=vs.take n) (by simp;omega) (fun j u hu=>by
     have h3:= (z3k hu).1
     exact hi.H _ _ _ (hc _ _ h3))
   refine⟨u,by simpa [Instr.loadAt,Instr.sureAddr] using hu,?_⟩
   have hk:=zbr h (RepC.take n hr)
   cases ag with
   |true=>rw[h1 rfl];exact hk.1 rfl
   |false=>
    obtain⟨u',e,h3⟩:=hk.2 rfl
    rw[h2 rfl] at e
    cases e
    exact h3
  ·cases h
end Go.Lift
namespace Go.Lift
open Go
variable {P:Program} {C:Bool→Program→Code→IC} {st:St} {g:Gh} {w:World}
theorem toList_eq (b:ByteArray):b.toList=b.data.toList:=ByteArray.toList_eq b
theorem ze4:∀(x y:List UInt8),z6h (x.map UInt8.toNat) (y.map UInt8.toNat)=Op.bytesLess x y
 |_,[]=>by cases ‹List UInt8›<;>rfl
 | [],_::_=>rfl
 |a::x,b::y=>by
  simp only[List.map_cons,z6h,Op.bytesLess,ze4 x y]
  congr 1
  congr 1
  by_cases h:a=b
  ·simp[h]
  ·have:a.toNat≠b.toNat:=fun e=>h (UInt8.toNat_inj.1 e)
   simp[h,this]
def z8f {a b:List UInt8} (h:a.map UInt8.toNat=b.map UInt8.toNat):a=b:=
 (List.map_inj_right (fun _ _ e=>UInt8.toNat_inj.1 e)).1 h
def z5z (op:BinOp) (t:TypeId) (x y:Operand) (k j:IntKind) (m n:Int): (eqGuard op t x y (.int k m) (.int j n)).run P w= .ok () w:=by
 cases op<;>simp[eqGuard]
def zcr (op:BinOp) (t:TypeId) (x y:Operand) (m n:ByteArray): (eqGuard op t x y (.string m) (.string n)).run P w= .ok () w:=by
 cases op<;>simp[eqGuard]
def y83 {op:BinOp} {t:TypeId} {x y:Operand} {a b r:V} {va vb:Value} (h:binV op a b=some r) (ha:RepV g a va) (hb:RepV g b vb):
  ∃u,((do eqGuard op t x y va vb;binOp op t va vb:Sem Value)).run P w= .ok u w∧RepV g r u:=by
 unfold binV at h
 split at h
 ·rename_i k m j n
  simp only[RepV,RepD] at ha hb
  subst ha;subst hb
  cases hs:z1r op with
  |true=>
   simp only[hs,if_true,Option.map_eq_some_iff] at h
   obtain⟨d,hd,rfl⟩:=h
   unfold zh3 at hd
   split at hd
   ·cases hd
   ·rename_i hn
    cases op<;>simp only[z1r] at hs<;>try (cases hs;done)
    all_goals
     simp only[Option.some.injEq] at hd
     subst hd
     simp only[Sem.run_bind,z5z,Result.andThen_ok,binOp,Op.shift,hn,if_false,Sem.run_pure]
     exact⟨_,rfl,by simp only[RepV,RepD]<;>rfl⟩
  |false=>
   simp only[hs,Bool.false_eq_true,if_false] at h
   split at h
   ·rename_i hkj
    subst hkj
    simp only[Option.map_eq_some_iff] at h
    obtain⟨d,hd,rfl⟩:=h
    cases op<;>simp only[z1r] at hs<;>simp only[binI] at hd<;>try (cases hs;done)
    case quo=>
     split at hd
     ·cases hd
     ·rename_i h0
      cases hd
      exact⟨_,by simp[z5z,binOp,Op.intDiv,h0];rfl,by simp[RepV,RepD]⟩
    case rem=>
     split at hd
     ·cases hd
     ·rename_i h0
      cases hd
      exact⟨_,by simp[z5z,binOp,Op.intDiv,h0];rfl,by simp[RepV,RepD]⟩
    all_goals
     cases hd
     simp only[Sem.run_bind,z5z,Result.andThen_ok,binOp,Op.intArith,Op.intBits,Op.intCmp,not_true_eq_false,ne_eq,if_false,Sem.run_pure]
     exact⟨_,rfl,by simp only[RepV,RepD]<;>rfl⟩
   ·cases h
 ·rename_i m n
  simp only[RepV,RepD] at ha hb
  obtain⟨bm,rfl,hm⟩:=ha
  obtain⟨bn,rfl,hn⟩:=hb
  simp only[Option.map_eq_some_iff] at h
  obtain⟨d,hd,rfl⟩:=h
  have hl:z6h m n=Op.bytesLess bm.toList bn.toList:=by rw[toList_eq,toList_eq,←hm,←hn,ze4]
  have he:decide (m=n)= (bm.toList==bn.toList):=by
   rw[toList_eq,toList_eq,Bool.eq_iff_iff]
   simp only[decide_eq_true_eq,beq_iff_eq,←hm,←hn]
   exact⟨z8f,fun e=>by rw[e]⟩
  have hsz:m.length=bm.size∧n.length=bn.size:=⟨by rw[←hm,List.length_map,Array.length_toList];rfl,by rw[←hn,List.length_map,Array.length_toList];rfl⟩
  cases op<;>simp only[binS] at hd<;>try (cases hd;done)
  case add=>
   split at hd
   ·rename_i hle
    cases hd
    have h1:¬(((bm.size+bn.size:Nat):Int)>IntKind.i64.max):=by
     have:IntKind.i64.max=9223372036854775807:=by decide
     rw[this];omega
    refine⟨_,by simp only[Sem.run_bind,zcr,Result.andThen_ok,binOp,Op.stringOp,h1,if_false,Sem.run_pure];rfl,?_⟩
    simp only[RepV,RepD]
    exact⟨_,rfl,by rw[←hm,←hn,←List.map_append];congr 1⟩
   ·cases hd
  all_goals
   cases hd
   simp only[Sem.run_bind,zcr,Result.andThen_ok,binOp,Op.stringOp,Sem.run_pure]
   exact⟨_,rfl,by simp only[RepV,RepD,hl,he]⟩
 ·cases h
def y8i {op:UnOp} {x r:V} {v:Value} (h:unV op x=some r) (hx:RepV g x v):∃u,(Op.unary op v).run P w= .ok u w∧RepV g r u:=by
 unfold unV at h
 split at h
 ·simp only[RepV,RepD] at hx
  subst hx
  cases op<;>simp only at h<;>try (cases h;done)
  cases h
  exact⟨_,by simp[Op.unary];rfl,by simp[RepV,RepD]⟩
 ·simp only[RepV,RepD] at hx
  subst hx
  cases op<;>simp only at h<;>try (cases h;done)
  ·cases h
   exact⟨_,by simp[Op.unary,Op.intArith];rfl,by simp[RepV,RepD]⟩
  ·cases h
   exact⟨_,by simp[Op.unary,Op.intBits];rfl,by simp[RepV,RepD]⟩
 ·cases h
def z6s {x:V} {v:Value} {n:Int} (h:asI x=some n) (hx:RepV g x v):∃k,v= .int k n:=by
 unfold asI at h
 split at h
 ·cases h;simp only[RepV,RepD] at hx;exact⟨_,hx⟩
 ·cases h
end Go.Lift
namespace Go.Lift
open Go
variable{new:Nat→Prop}{off n es eb:Nat}{ag:Bool}{x y:V}{i:Int}{z:Lv}
variable {P:Program} {st:St} {g:Gh} {w:World}
def Does (P:Program) (s:Sem Next) (st:St) (g:Gh) (w:World) (v:V) (st' :St) (new:Nat→Prop):Prop:=
 ∃u w' g',(s.run P w= .ok (.value u) w' ∨(s.run P w= .ok .skip w' ∧u=Go.undef))∧RepV g' v u∧Inv P z0i st' g' w' ∧Step st g w st' g' w' ∧∀k b,g'.blk k=some b→g.blk k=some b∨new k
def Does.val  (hi:Inv P z0i st g w) {s:Sem Value} {v:V} {u:Value} (h:s.run P w= .ok u w) (hr:RepV g v u):
  Does P (do pure (.value (←s))) st g w v st new:=
 ⟨u,w,g,.inl (by simp[h]),hr,hi,Step.refl st g w,fun _ _ h=> .inl h⟩
def Does.made  {s:Sem Value} {v:V} {u:Value} {w' :World} {g' :Gh} {st' :St} (h:s.run P w= .ok u w') (hr:RepV g' v u) (hi:Inv P z0i st' g' w') (hs:Step st g w st' g' w')
  (hn:∀k b,g'.blk k=some b→g.blk k=some b∨new k):Does P (do pure (.value (←s))) st g w v st' new:=
 ⟨u,w',g',.inl (by simp[h]),hr,hi,hs,hn⟩
theorem Does.done  {s:Sem Unit} {w' :World} {g' :Gh} {st' :St} (h:s.run P w= .ok () w') (hi:Inv P z0i st' g' w') (hs:Step st g w st' g' w')
  (hn:∀k b,g'.blk k=some b→g.blk k=some b∨new k):Does P (do s;pure .skip) st g w .undef st' new:=
 ⟨Go.undef,w',g',.inr ⟨by simp[h],rfl⟩,z5s,hi,hs,hn⟩
def zms   {t:TypeId}  {v:Value} (hn:z52 P t=some n) (ha:tagg P t=some ag) (hag: (ag||n==1)=true)
  (h:z97 off n ag x=some y) (hx:RepV g x v):∃cs u,v= .agg cs∧(part t cs off).run P w= .ok u w∧RepV g y u:=by
 have key:∀(cs:Array Value) (us:List Value),us= (cs.toList.drop off).take n→us.length=n→
   ∃u,(part t cs off).run P w= .ok u w∧(ag=true→u= .agg us.toArray)∧(ag=false→us= [u]):=by
  intro cs us hu hl
  cases ag with
  |true=>
   refine⟨.agg us.toArray,?_,fun _=>rfl,fun e=> (by cases e)⟩
   simp only[part,Sem.run_bind,z6x ha,Result.andThen_ok,if_true,z24 hn,Sem.run_pure]
   congr 2
   apply Array.ext'
   rw[hu]
   simp[Array.toList_extract,List.extract_eq_take_drop]
  |false=>
   simp only[Bool.false_or,beq_iff_eq] at hag
   obtain⟨u,rfl⟩:=List.length_eq_one_iff.1 (hl.trans hag)
   refine⟨u,?_,fun e=> (by cases e),fun _=>rfl⟩
   have h1:cs[off]?=some u:=by
    have: ([u]:List Value)[0]?=some u:=by simp
    rw[hu] at this
    have:= (z3k this).1
    rw[List.getElem?_drop] at this
    simpa using this
   simp[part,z6x ha,h1]
 unfold z97 at h
 split at h
 ·rename_i l
  simp only[RepV] at hx
  obtain⟨cs,rfl,hr⟩:=hx
  split at h
  ·rename_i hle
   have hl:=hr.length
   obtain⟨u,hu,h1,h2⟩:=key cs _ rfl (by simp at hl⊢;omega)
   refine⟨cs,u,rfl,hu,?_⟩
   have hk:=ze2 h (RepVs.take n (RepVs.drop off hr))
   cases ag with
   |true=>rw[h1 rfl];exact hk.1 rfl
   |false=>
    obtain⟨u',e,h3⟩:=hk.2 rfl
    rw[h2 rfl] at e
    cases e
    exact h3
  ·cases h
 ·rename_i l
  simp only[RepV,RepD] at hx
  obtain⟨cs,rfl,hr⟩:=hx
  split at h
  ·rename_i hle
   have hl:=hr.length
   obtain⟨u,hu,h1,h2⟩:=key cs _ rfl (by simp at hl⊢;omega)
   refine⟨cs,u,rfl,hu,?_⟩
   have hk:=zbr h (RepC.take n (RepC.drop off hr))
   cases ag with
   |true=>rw[h1 rfl];exact hk.1 rfl
   |false=>
    obtain⟨u',e,h3⟩:=hk.2 rfl
    rw[h2 rfl] at e
    cases e
    exact h3
  ·cases h
 ·cases h
def RepP.drop {H:Still} {b:Nat} :∀{l:List D} {o:Nat} (n:Nat),RepP H b l o→RepP H b (l.drop n) (o+n)
 | [],_,n,_=>by simp[RepP]
 |x::l,o,0,h=>by simpa using h
 |x::l,o,n+1,h=>by
  simp only[RepP] at h
  have:=RepP.drop n h.2
  simpa [Nat.add_assoc,Nat.add_comm 1 n] using this
def z7z {t:TypeId} {i:Nat} {u:TypeId} (hf:fieldAt? P t i=some (off,n,u)):∃fs f,P.underlying t=some (.struct fs)∧fs[i]?=some f∧f.offset=off∧f.type=u∧z52 P u=some n:=by
 unfold fieldAt? at hf
 split at hf
 ·rename_i fs hu
  split at hf
  ·rename_i f hfi
   split at hf
   ·rename_i m hm
    cases hf
    exact⟨fs,f,hu,hfi,rfl,rfl,hm⟩
   ·cases hf
  ·cases hf
 ·cases hf
def zyw   {v:Value} {t:TypeId} {i:Nat} {u:TypeId} (hf:fieldAt? P t i=some (off,n,u)) (h0:0<n)
  (h:opFaddr off x=some y) (hx:RepV g x v):∃u,(Instr.fieldAt t v i).run P w= .ok u w∧RepV g y u:=by
 obtain⟨fs,f,hu,hfi,rfl,rfl,hm⟩:=z7z hf
 have hrun:∀(b o:Nat),(Instr.fieldAt t (.pointer (some ⟨b,o,none⟩)) i).run P w= .ok (.pointer (some ⟨b,o+f.offset,none⟩)) w:=by
  intro b o
  have hne:¬n=0:=ω
  simp[Instr.fieldAt,z0a hu,hfi,Instr.sureAddr,fieldPlace,z24 hm,hne,z6t]
 unfold opFaddr at h
 split at h
 ·rename_i k o
  cases h
  simp only[RepV] at hx
  obtain⟨b,hb,rfl⟩:=hx
  exact⟨_,hrun b _,by simp only[RepV];exact⟨b,hb,by rw[Nat.add_assoc]⟩⟩
 ·rename_i ds
  split at h
  ·rename_i hle
   cases h
   simp only[RepV] at hx
   obtain⟨b,o,rfl,hp⟩:=hx
   exact⟨_,hrun b o,by simp only[RepV];exact⟨b,_,rfl,hp.drop f.offset⟩⟩
  ·cases h
 ·cases h
def z3c {e:TypeId} {b:Nat} {a:Bool}  (h:z4l P e=some (n,a,b,z)):z52 P e=some n∧tagg P e=some a∧zqs P e=some b∧z9p P e=some z∧0<n∧z.length=n∧b≤65536:=by
 unfold z4l at h
 split at h
 ·split at h
  ·cases h
   rename_i h1 h2 h3 h4 h5
   exact⟨h1,h2,h3,h4,h5⟩
  ·cases h
 ·cases h
def RepL.get {H:Still} {b es:Nat} :∀{l:List D} {off:Nat},RepL H b es l off→∀{i:Nat} {x:D},l[i]?=some x→∃u,RepD H x u∧u.cells.size=es∧∀j,j<es→∃y,u.cells[j]?=some y∧H b (off+i*es+j)=some y
 | [],_,_,i,x,hx=>by simp at hx
 |y::l,off,h,i,x,hx=>by
  simp only[RepL] at h
  cases i with
  |zero=>simp at hx;subst hx;simpa using h.1
  |succ i=>
   obtain⟨u,h1,h2,h3⟩:=RepL.get h.2 (i:=i) (x:=x) (by simpa using hx)
   refine⟨u,h1,h2,fun j hj=> ?_⟩
   obtain⟨y,h4,h5⟩:=h3 j hj
   exact⟨y,h4,by rw[show off+ (i+1)*es+j=off+es+i*es+j by rw[Nat.add_mul];omega];exact h5⟩
def ztu     {t e:TypeId} (ht:P.underlying t=some (.slice e)) (he:z4l P e=some (es,ag,eb,z))  {v:Value} {k:IntKind} 
  (h:z08 es x i=some y) (hx:RepV g x v):∃u,(Instr.indexAt t v (.int k i)).run P w= .ok u w∧RepV g y u:=by
 have hes:= (z3c he).1
 have hrun:∀(b o len cap:Nat),0≤i→i< (len:Int)→(Instr.indexAt t (.slice (some ⟨b,o,none⟩) len cap) (.int k i)).run P w= .ok (.pointer (some ⟨b,o+i.toNat*es,none⟩)) w:=by
  intro b o len cap h0 h1
  by_cases hl:len≤1<;>simp[Instr.indexAt,z0a ht,asIntOf,hl,h0,h1,z24 hes,z6t]
 unfold z08 at h
 split at h
 ·rename_i k' es' ag' off len
  split at h
  ·rename_i hc
   cases h
   simp only[RepV] at hx
   obtain⟨b,hb,o,cap,rfl,_,_,ho⟩:=hx
   obtain rfl:o=g.sh k' +off:=by
    rcases ho with ho|ho
    ·exact ho
    ·omega
   exact⟨_,hrun b _ len cap hc.1 hc.2.1,by simp only[RepV];exact⟨b,hb,by rw[Nat.add_assoc]⟩⟩
  ·cases h
 ·rename_i l
  split at h
  ·rename_i h0
   split at h
   ·rename_i y' hy
    split at h
    ·rename_i hlen
     cases h
     simp only[RepV,RepD] at hx
     obtain⟨a,cap,rfl,_,hl⟩:=hx
     have hlt:= (List.getElem?_eq_some_iff.1 hy).1
     rcases hl with rfl|⟨b,off,es',rfl,hes0,hl⟩
     ·simp at hy
     ·obtain⟨u,h1,h2,h3⟩:=hl.get hy
      have hc:= (RepD.cells h1).length
      obtain rfl:es' =es:=by rw[←h2,←hlen,←hc];simp
      refine⟨_,hrun b off l.length cap h0 ω,?_⟩
      simp only[RepV]
      refine⟨b,_,rfl,RepP.of_get (RepD.cells h1) fun j w' hj=> ?_⟩
      have hj' :u.cells[j]?=some w' :=by simpa using hj
      obtain⟨y,h4,h5⟩:=h3 j (by rw[←h2];exact (Array.getElem?_eq_some_iff.1 hj').1)
      rw[hj'] at h4
      cases h4
      exact h5
    ·cases h
   ·cases h
  ·cases h
 ·cases h
def ztx {len:Nat}    {t e:TypeId} (ht:P.underlying t=some (.array len e)) (he:z4l P e=some (es,ag,eb,z))  {v:Value} {k:IntKind} 
  (h:z1i len es x i=some y) (hx:RepV g x v):∃u,(Instr.indexAt t v (.int k i)).run P w= .ok u w∧RepV g y u:=by
 have hes:= (z3c he).1
 have hrun:∀(b o:Nat),0≤i→i< (len:Int)→(Instr.indexAt t (.pointer (some ⟨b,o,none⟩)) (.int k i)).run P w= .ok (.pointer (some ⟨b,o+i.toNat*es,none⟩)) w:=by
  intro b o h0 h1
  by_cases hl:len≤1<;>simp[Instr.indexAt,z0a ht,asIntOf,hl,h0,h1,z24 hes,z6t,Instr.sureAddr]
 unfold z1i at h
 split at h
 ·rename_i hc
  split at h
  ·rename_i k' off
   cases h
   simp only[RepV] at hx
   obtain⟨b,hb,rfl⟩:=hx
   exact⟨_,hrun b _ hc.1 hc.2,by simp only[RepV];exact⟨b,hb,by rw[Nat.add_assoc]⟩⟩
  ·rename_i ds
   split at h
   ·cases h
    simp only[RepV] at hx
    obtain⟨b,o,rfl,hp⟩:=hx
    exact⟨_,hrun b o hc.1 hc.2,by simp only[RepV];exact⟨b,_,rfl,hp.drop _⟩⟩
   ·cases h
  ·cases h
 ·cases h
def ztq {len:Nat}    {t e:TypeId} (ht:P.underlying t=some (.array len e)) (he:z4l P e=some (es,ag,eb,z)) (hag: (ag||es==1)=true)  {v:Value} {k:IntKind} 
  (h:z87 len es ag x i=some y) (hx:RepV g x v):∃u,(Instr.index t v (.int k i)).run P w= .ok u w∧RepV g y u:=by
 unfold z87 at h
 split at h
 ·rename_i hc
  obtain⟨h1,h2,_⟩:=z3c he
  obtain⟨cs,u,rfl,hu,hr⟩:=zms (w:=w) h1 h2 hag h hx
  exact⟨u,by simp[Instr.index,z0a ht,asIntOf,hc.1,hc.2,z24 h1,hu],hr⟩
 ·cases h
def zto {t:TypeId} (ht:P.underlying t=some .string) {s:Ln}  {v:Value} {k:IntKind} 
  (h:z4t s i=some y) (hx:RepV g (.d (.str s)) v):∃u,(Instr.index t v (.int k i)).run P w= .ok u w∧RepV g y u:=by
 unfold z4t at h
 simp only[RepV,RepD] at hx
 obtain⟨b,rfl,hb⟩:=hx
 split at h
 ·rename_i h0
  split at h
  ·rename_i c hc
   cases h
   rw[←hb,List.getElem?_map,Option.map_eq_some_iff] at hc
   obtain⟨c',hc',rfl⟩:=hc
   have hg:b[i.toNat]?=some c' :=by
    rw[←hc']
    simp only[Array.getElem?_toList]
    have hsz:b.size=b.data.size:=rfl
    by_cases hlt:i.toNat<b.size
    ·rw[getElem?_pos b i.toNat hlt,getElem?_pos b.data i.toNat (hsz▸hlt)];rfl
    ·rw[getElem?_neg b i.toNat hlt,getElem?_neg b.data i.toNat (hsz▸hlt)]
   exact⟨.int .u8 (c'.toNat:Int),by simp[Instr.index,z0a ht,asIntOf,h0,hg],by simp[RepV,RepD]⟩
  ·cases h
 ·cases h
end Go.Lift
namespace Go.Lift
open Go
variable{x:V}{n:Nat}
variable {P:Program} {st:St} {g:Gh} {w:World}
def zk8 {t:TypeId} (h:z9g P t=true):P.underlying t=some .bool:=by
 unfold z9g at h
 split at h
 ·assumption
 ·cases h
def zdd {t:TypeId} (ht:P.underlying t=some .bool) (a b:Bool): (Op.equal t (.bool a) (.bool b)).run P w= .ok (a==b) w:=by
 unfold Op.equal Op.maxDepth
 rw[show (10000:Nat)=9999+1 from rfl,Op.equalIn]
 simp[z0a ht]
def y7i {t:TypeId} {x y:Operand} (ht:z9g P t=true) {a b neg:Bool} {va vb:Value} (ha:RepV g (.d (.bool a)) va) (hb:RepV g (.d (.bool b)) vb):
  ((do eqGuard (if neg then .neq else .eql) t x y va vb;binOp (if neg then .neq else .eql) t va vb:Sem Value)).run P w= .ok (.bool ((a==b) !=neg)) w:=by
 simp only[RepV,RepD] at ha hb
 subst ha;subst hb
 have:=fun a b=>zdd (w:=w) (zk8 ht) a b
 cases neg<;>simp[eqGuard,binOp,this]
def zn5 {t:TypeId} {kd:Nat} (ht:zjl P t=some kd)  {v:Value} {b neg:Bool} (h:zi1 kd x=some b) (hx:RepV g x v) {y:Operand} {c:Value} (hy:z9a y=some kd) (hc:y= .const c) (p q:Operand):
  ((do eqGuard (if neg then .neq else .eql) t p q v c;binOp (if neg then .neq else .eql) t v c:Sem Value)).run P w= .ok (.bool (b !=neg)) w∧
  ((do eqGuard (if neg then .neq else .eql) t p q c v;binOp (if neg then .neq else .eql) t c v:Sem Value)).run P w= .ok (.bool (b !=neg)) w:=by
 subst hc
 have key: ((Op.equal t v c).run P w= .ok b w∧(Op.equal t c v).run P w= .ok b w)∧((∃a,c= .pointer a)∧(∃a,v= .pointer a)∨(∃a m n,c= .slice a m n)∧(∃a m n,v= .slice a m n)∨(∃a,c= .map a)∧(∃a,v= .map a)∨c= .nilFunc∧(v= .nilFunc∨∃a m n,v= .func a m n)):=by
  unfold zjl at ht
  unfold Op.equal Op.maxDepth
  rw[show (10000:Nat)=9999+1 from rfl,Op.equalIn,Op.equalIn]
  unfold z9a at hy
  split at ht<;>cases ht<;>rename_i ht<;>split at hy<;>cases hy<;>rename_i hy<;>cases hy<;>unfold zi1 at h<;>split at h<;>rename_i e<;>cases h<;>try (cases e;done)
  all_goals simp only[RepV,RepD] at hx
  ·subst hx;simp[z0a ht]
  ·obtain⟨b,_,o,cap,rfl,_⟩:=hx;simp[z0a ht]
  ·obtain⟨a,cap,rfl,_,hx⟩:=hx
   rcases hx with hx|⟨b,off,es,rfl,_⟩
   ·cases hx
   ·simp[z0a ht]
  ·obtain⟨a,c,rfl⟩:=hx;simp[z0a ht]
  ·obtain⟨b,_,rfl⟩:=hx;simp[z0a ht]
  ·subst hx;simp[z0a ht]
  ·obtain⟨a,c,rfl,_⟩:=hx;simp[z0a ht]
  ·obtain⟨b,_,rfl⟩:=hx;simp[z0a ht]
  ·subst hx;simp[z0a ht]
  ·obtain⟨b,_,rfl⟩:=hx;simp[z0a ht]
  ·obtain⟨b,o,rfl,_⟩:=hx;simp[z0a ht]
  ·subst hx;simp[z0a ht]
 obtain⟨⟨h1,h2⟩,h3⟩:=key
 rcases h3 with⟨⟨a,rfl⟩,⟨a',rfl⟩⟩|⟨⟨a,m,n,rfl⟩,⟨a',m',n',rfl⟩⟩|⟨⟨a,rfl⟩,⟨a',rfl⟩⟩|⟨rfl,rfl|⟨a,m,n,rfl⟩⟩<;>cases neg<;>simp[eqGuard,binOp,h1,h2]
def zzi {s d:TypeId} {j k:IntKind} (hs:P.underlying s=some (.int j)) (hd:P.underlying d=some (.int k))  {v:Value} {n:Int} (h:asI x=some n) (hx:RepV g x v):
  (convert s d v).run P w= .ok (.int k (k.wrap n)) w:=by
 obtain⟨i,rfl⟩:=z6s h hx
 simp[convert,z0a hs,z0a hd,Conv.intToInt]
def zzh {s d:TypeId} {j:IntKind} (hs:P.underlying s=some (.int j)) (hd:P.underlying d=some .string)  {v:Value} {n:Int} (h:asI x=some n) (hx:RepV g x v) (h0:0≤n) (h1:n<128):
  ∃u,(convert s d v).run P w= .ok u w∧RepV g (.d (.str [n.toNat])) u:=by
 obtain⟨i,rfl⟩:=z6s h hx
 refine⟨_,by simp[convert,z0a hs,z0a hd,Conv.intToString];rfl,?_⟩
 simp only[RepV,RepD]
 refine⟨_,rfl,?_⟩
 have hv:Utf8.valid n=true:=by simp[Utf8.valid];omega
 have hn:n.toNat<128:=ω
 unfold Utf8.encode
 simp only[hv,if_true,hn,List.map_cons,List.map_nil]
 congr 1
 exact UInt8.toNat_ofNat_of_lt' (by show n.toNat<256;omega)
def y7b {l:Lv} {v:Value} {i:Nat}  (h:l[i]?=some x) (hx:RepV g (.tup l) v):∃u,(Instr.extract v i).run P w= .ok u w∧RepV g x u:=by
 simp only[RepV] at hx
 obtain⟨vs,rfl,hr⟩:=hx
 obtain⟨u,hu,hr⟩:=hr.get h
 have hu' :vs[i]?=some u:=by simpa using hu
 exact⟨u,by simp[Instr.extract,hu'],hr⟩
def y3i {t ty:TypeId}  {v:Value}  (ht:P.underlying t=some .string) (h:opLen true x=some n) (hx:RepV g x v): (Builtin.len_ #[t] ty #[v]).run P w= .ok (.int .i64 (n:Int)) w:=by
 unfold opLen at h
 split at h<;>rename_i e<;>cases h<;>try (cases e;done)
 simp only[RepV,RepD] at hx
 rename_i s
 obtain⟨b,rfl,hb⟩:=hx
 have:b.size=s.length:=by rw[←hb,List.length_map,Array.length_toList];rfl
 simp[Builtin.len_,z0a ht,goInt,this]
def y6z {t ty e:TypeId}  {v:Value}  (ht:P.underlying t=some (.slice e)) (h:opLen false x=some n) (hx:RepV g x v): (Builtin.len_ #[t] ty #[v]).run P w= .ok (.int .i64 (n:Int)) w:=by
 unfold opLen at h
 split at h<;>rename_i e<;>cases h<;>try (cases e;done)
 all_goals simp only[RepV,RepD] at hx
 ·obtain⟨a,cap,rfl,_⟩:=hx
  simp[Builtin.len_,z0a ht,goInt]
 ·subst hx
  simp[Builtin.len_,z0a ht,goInt]
 ·obtain⟨a,c,rfl⟩:=hx
  simp[Builtin.len_,z0a ht,goInt]
 ·obtain⟨b,_,o,cap,rfl,_⟩:=hx
  simp[Builtin.len_,z0a ht,goInt]
theorem RepM.length {kt:TypeId} :∀{l:List (D×V)} {es:List MapEntry},RepM P kt g l es→es.length=l.length
 | [],_,h=>by simp only[RepM] at h;simp[h]
 | (k,x)::l,es,h=>by
  simp only[RepM] at h
  obtain⟨e,r,rfl,_,h⟩:=h
  simp[RepM.length h]
def y3k (hi:Inv P z0i st g w) {t ty kt e:TypeId}  {v:Value}  (ht:P.underlying t=some (.map kt e))
  (h:z5c st x=some n) (hx:RepV g x v): (Builtin.len_ #[t] ty #[v]).run P w= .ok (.int .i64 (n:Int)) w:=by
 unfold z5c at h
 split at h
 ·cases h
  simp only[RepV] at hx
  subst hx
  simp[Builtin.len_,z0a ht,goInt]
 ·rename_i k
  simp only[RepV] at hx
  obtain⟨b,hb,rfl⟩:=hx
  split at h
  ·rename_i kt' es ho
   cases h
   obtain⟨b',hb',_,en,cl,hh,hr⟩:=hi.obj k _ ho
   obtain rfl:b=b' :=Option.some.inj (hb.symm.trans hb')
   have hl:=hr.length
   simp only[Array.length_toList] at hl
   have hg: (getObj b).run P w= .ok (.map en cl) w:=by simp[getObj,Sem.run,hh]
   simp[Builtin.len_,z0a ht,goInt,hg,hl]
  ·cases h
 ·cases h
def y4p {t ty e:TypeId}  {v:Value} (ht:P.underlying t=some (.slice e)) (h:x= .nilS) (hx:RepV g x v): (Builtin.cap_ #[t] ty #[v]).run P w= .ok (.int .i64 0) w:=by
 subst h
 simp only[RepV] at hx
 subst hx;simp[Builtin.cap_,z0a ht,goInt]
end Go.Lift
namespace Go.Lift
open Go
variable{lo:Option V}{l h:Nat}
variable {P:Program} {st:St} {g:Gh} {w:World}
def RepO (g:Gh):Option V→Option Value→Prop
 |none,v=>v=none
 |some x,v=>∃u,v=some u∧RepV g x u
def z5n {hi:Option V} {lv hv:Option Value} {len most cap:Nat} (isS:Bool) (hb:z3t lo hi len most=some (l,h)) (hlo:RepO g lo lv) (hhi:RepO g hi hv) (hm:most≤cap) (hlc:len≤most):
  (Instr.sliceBounds isS len cap lv hv none).run P w= .ok (l,h,cap) w∧l≤h∧h≤most:=by
 unfold z3t at hb
 split at hb
 ·simp only[RepO] at hhi
  subst hhi
  split at hb
  ·simp only[RepO] at hlo
   subst hlo
   cases hb
   simp[Instr.sliceBounds,hlc]
  ·rename_i x
   obtain⟨u,rfl,hu⟩:=hlo
   split at hb
   ·rename_i i hi
    obtain⟨k,rfl⟩:=z6s hi hu
    split at hb
    ·rename_i hc
     cases hb
     refine⟨by simp[Instr.sliceBounds,Instr.sliceBound,asIntOf,hc.1,hc.2],ω,hlc⟩
    ·cases hb
   ·cases hb
 ·rename_i y
  obtain⟨u,rfl,hu⟩:=hhi
  split at hb
  ·cases hb
  ·rename_i i hi
   obtain⟨k,rfl⟩:=z6s hi hu
   split at hb
   ·rename_i hc
    have hc2:i≤(cap:Int):=ω
    split at hb
    ·simp only[RepO] at hlo
     subst hlo
     cases hb
     refine⟨by simp[Instr.sliceBounds,Instr.sliceBound,asIntOf,hc.1,hc2],ω,ω⟩
    ·rename_i x
     obtain⟨u',rfl,hu'⟩:=hlo
     split at hb
     ·rename_i j hj
      obtain⟨k',rfl⟩:=z6s hj hu'
      split at hb
      ·rename_i hd
       cases hb
       have hd2:j≤(i.toNat:Int):=ω
       refine⟨by simp[Instr.sliceBounds,Instr.sliceBound,asIntOf,hc.1,hc2,hd.1];omega,ω,ω⟩
      ·cases hb
     ·cases hb
   ·cases hb
def zr6 {t:TypeId} (ht:P.underlying t=some .string) {s:Ln} {hi:Option V} {lv hv:Option Value}  {v:Value}
  (hb:z3t lo hi s.length s.length=some (l,h)) (hlo:RepO g lo lv) (hhi:RepO g hi hv) (hx:RepV g (.d (.str s)) v):
  ∃u,(Instr.sliceAt t v lv hv none).run P w= .ok u w∧RepV g (.d (.str ((s.drop l).take (h-l)))) u:=by
 simp only[RepV,RepD] at hx
 obtain⟨b,rfl,hs⟩:=hx
 have hsz:b.size=s.length:=by rw[←hs,List.length_map,Array.length_toList];rfl
 obtain⟨hr,h1,h2⟩:=z5n (P:=P) (w:=w) false hb hlo hhi (Nat.le_refl _) (Nat.le_refl _)
 refine⟨.string (b.extract l h),by simp[Instr.sliceAt,Instr.slice,z0a ht,hsz,hr],?_⟩
 simp only[RepV,RepD]
 refine⟨_,rfl,?_⟩
 have hd: (b.extract l h).data.toList= (b.data.toList.drop l).take (h-l):=by
  rw[ByteArray.data_extract,Array.toList_extract,List.extract_eq_take_drop]
 rw[hd,List.map_take,List.map_drop,hs]
def zr8 (hi:Inv P z0i st g w) {t e:TypeId} {n es eb:Nat} {ag:Bool} {z:Lv} (ht:P.underlying t=some (.array n e)) (he:z4l P e=some (es,ag,eb,z)) {k off:Nat} {cs:Lv} {hi':Option V} {lv hv:Option Value}  {v:Value}
  (hcs:st.cells? k=some cs) (hb:z3t lo hi' n n=some (l,h)) (hle:off+n*es=cs.length) (hlo:RepO g lo lv) (hhi:RepO g hi' hv) (hx:RepV g (.ptr k off) v):
  ∃u,(Instr.sliceAt t v lv hv none).run P w= .ok u w∧RepV g (.arr k es ag (off+l*es) (h-l)) u:=by
 simp only[RepV] at hx
 obtain⟨b,hbk,rfl⟩:=hx
 obtain⟨b',vs,hb',hsz,htot,_⟩:=z5u hi hcs
 obtain⟨hr,h1,h2⟩:=z5n (P:=P) (w:=w) false hb hlo hhi (Nat.le_refl _) (Nat.le_refl _)
 have hes:= (z3c he).1
 refine⟨_,by simp only[Instr.sliceAt,z0a ht,Sem.run_bind,Result.andThen_ok,Instr.sureAddr,Sem.run_pure,hr,z24 hes];rfl,?_⟩
 have hmul:n*es=l*es+ (n-l)*es:=by rw[←Nat.add_mul];congr 1;omega
 simp only[RepV]
 by_cases e:n=l
 ·simp only[e,if_true]
  refine⟨b,hbk,g.sh k+off,l-l,by rw[show h=l by omega],?_,?_,.inr ⟨ω,ω⟩⟩
  ·rw[hsz];subst e;omega
  ·subst e;omega
 ·simp only[e,if_false,z6t]
  refine⟨b,hbk,g.sh k+off+l*es,n-l,rfl,?_,?_,.inl (Nat.add_assoc _ _ _)⟩
  ·rw[hsz];omega
  ·omega
def RepL.drop {H:Still} {b es:Nat} :∀{l:List D} {off:Nat} (n:Nat),n≤l.length→RepL H b es l off→RepL H b es (l.drop n) (off+n*es)
 |l,off,0,_,h=>by simpa using h
 | [],_,n+1,hn,_=>by simp at hn
 |x::l,off,n+1,hn,h=>by
  simp only[RepL] at h
  have:=RepL.drop n (by simpa using hn) h.2
  rw[List.drop_succ_cons,show off+ (n+1)*es=off+es+n*es by rw[Nat.add_mul];omega]
  exact this
def RepL.take {H:Still} {b es:Nat} :∀{l:List D} {off:Nat} (n:Nat),RepL H b es l off→RepL H b es (l.take n) off
 |l,off,0,_=>by simp[RepL]
 | [],_,n+1,_=>by simp[RepL]
 |x::l,off,n+1,h=>by
  simp only[RepL,List.take_succ_cons] at h⊢
  exact⟨h.1,RepL.take n h.2⟩
def zr7 (hi:Inv P z0i st g w) {t e:TypeId} {es eb:Nat} {ag:Bool} {z:Lv} (ht:P.underlying t=some (.slice e)) (he:z4l P e=some (es,ag,eb,z)) {x y:V} {lo hi' :Opd} {env:Lv} {l h:Option Opd} {lv hv:Option Value} {v:Value} {base:Nat}
  {X:Opd} (hev:evO env X=x) (hy:evalOp base env st (.sliceL es X l h)=some (y,st)) (hlo:RepO g (l.map (evO env)) lv) (hhi:RepO g (h.map (evO env)) hv) (hx:RepV g x v):
  ∃u,(Instr.sliceAt t v lv hv none).run P w= .ok u w∧RepV g y u:=by
 have hes:= (z3c he).1
 have hes0:= (z3c he).2.2.2.2.1
 have hrun:∀(a:Option Addr) (len cap lo hi:Nat),(Instr.sliceBounds true len cap lv hv none).run P w= .ok (lo,hi,cap) w→
   (Instr.sliceAt t (.slice a len cap) lv hv none).run P w= .ok (.slice (if cap=lo then a else a.map (·.add (lo*es))) (hi-lo) (cap-lo)) w:=by
  intro a len cap lo hi hb
  simp[Instr.sliceAt,Instr.slice,z0a ht,hb,z24 hes]
 simp only[evalOp,hev] at hy
 split at hy
 ·rename_i L
  simp only[RepV,RepD] at hx
  obtain⟨a,cap,rfl,⟨hcap,hnn⟩,hL⟩:=hx
  split at hy
  ·rename_i p q hb
   split at hy
   case isFalse=>cases hy
   rename_i hc
   cases hy
   obtain⟨hr,h1,h2⟩:=z5n (P:=P) (w:=w) true hb hlo hhi hcap (Nat.le_refl _)
   refine⟨_,hrun _ _ _ _ _ hr,?_⟩
   simp only[RepV,RepD]
   refine⟨_,_,by rw[show ((L.drop p).take (q-p)).length=q-p by simp;omega],⟨by simp;omega,fun e=> ?_⟩,?_⟩
   ·split at e
    ·omega
    ·rw[Option.map_eq_none_iff] at e
     have:=hnn e
     omega
   rcases hL with rfl|⟨b,off,es',rfl,he0,hL⟩
   ·exact .inl ψ
   ·cases L with
    |nil=>exact .inl ψ
    |cons x L=>
     simp only[y13,beq_iff_eq] at hc
     have:es' =es:=by
      simp only[RepL] at hL
      obtain⟨⟨u,h3,h4,_⟩,_⟩:=hL
      have:= (RepD.cells h3).length
      rw[←h4,←hc,←this];simp
     subst this
     by_cases e:cap=p
     ·refine .inl ?_
      have:q-p=0:=ω
      rw[this,List.take_zero]
     ·refine .inr ⟨b,off+p*es',es',?_,he0,RepL.take _ (RepL.drop p ω hL)⟩
      simp only[e,if_false,Option.map_some,z6t]
  ·cases hy
 ·simp only[RepV] at hx
  subst hx
  split at hy
  ·rename_i p hb
   cases hy
   obtain⟨hr,h1,h2⟩:=z5n (P:=P) (w:=w) (cap:=0) true (l:=p.1) (h:=p.2) hb hlo hhi (Nat.le_refl _) (Nat.le_refl _)
   refine⟨_,hrun _ _ _ _ _ hr,?_⟩
   simp only[RepV]
   simp
   omega
  ·cases hy
 ·simp only[RepV] at hx
  obtain⟨a,c,rfl⟩:=hx
  split at hy
  ·rename_i p hb
   cases hy
   obtain⟨hr,h1,h2⟩:=z5n (P:=P) (w:=w) (cap:=c) true (l:=p.1) (h:=p.2) hb hlo hhi (Nat.zero_le _) (Nat.le_refl _)
   refine⟨_,hrun _ _ _ _ _ hr,?_⟩
   simp only[RepV]
   have e1:p.1=0:=ω
   have e2:p.2=0:=ω
   rw[e1,e2]
   by_cases e:c=0
   ·exact⟨a,c-0,by simp[e]⟩
   ·exact⟨a.add (0*es),c-0,by simp[e]⟩
  ·cases hy
 ·rename_i k es' ag' off len
  simp only[RepV] at hx
  obtain⟨b,hbk,o,cap,rfl,hsz,htot,ho⟩:=hx
  split at hy
  ·rename_i cs hcs
   split at hy
   ·rename_i p q hb
    split at hy
    ·rename_i hc
     obtain⟨rfl,hle⟩:=hc
     cases hy
     obtain⟨b',vs,hb',hsz',_⟩:=z5u hi hcs
     have h0:¬es' =0:=ω
     simp only[h0,if_false] at hb
     have hcap: (cs.length-off)/es' ≤cap:=by
      apply Nat.div_le_of_le_mul
      rw[Nat.mul_comm]
      omega
     have hlen:len≤(cs.length-off)/es' :=by
      rw[Nat.le_div_iff_mul_le ω];omega
     obtain⟨hr,h1,h2⟩:=z5n (P:=P) (w:=w) true hb hlo hhi hcap hlen
     refine⟨_,hrun _ _ _ _ _ hr,?_⟩
     have hmul:cap*es' =p*es' + (cap-p)*es' :=by rw[←Nat.add_mul];congr 1;omega
     simp only[RepV]
     by_cases e:cap=p
     ·simp only[e,if_true]
      refine⟨b,hbk,o,p-p,rfl,?_,?_,.inr ⟨ω,ω⟩⟩
      ·subst e;omega
      ·subst e;omega
     ·simp only[e,if_false,Option.map_some,z6t]
      refine⟨b,hbk,o+p*es',cap-p,rfl,ω,ω,?_⟩
      rcases ho with ho|ho
      ·exact .inl ω
      ·omega
    ·cases hy
   ·cases hy
  ·cases hy
 ·cases hy
theorem y38 {isMax:Bool} {ats:Array TypeId} {ty:TypeId} :∀{xs:List V} {vs:List Value} {y:V},z3a isMax xs=some y→RepVs g xs vs→
  ∃u,((if isMax then Builtin.max_ else Builtin.min_) ats ty vs.toArray).run P w= .ok u w∧RepV g y u
 | [],_,_,h,_=>by simp[z3a] at h
 | [x],vs,y,h,hx=>by
  unfold z3a at h
  split at h
  ·rename_i e;cases e
  ·rename_i k n e
   cases e
   cases h
   simp only[RepVs] at hx
   obtain⟨v,ws,rfl,h1,rfl⟩:=hx
   refine⟨v,?_,h1⟩
   cases isMax<;>simp[Builtin.max_,Builtin.min_]
  ·rename_i e;cases e
  ·cases h
 |x::x' ::xs,vs,y,h,hx=>by
  unfold z3a at h
  split at h
  ·rename_i e;cases e
  ·rename_i e;cases e
  ·rename_i k n j m r e
   cases e
   split at h
   ·rename_i hkj
    subst hkj
    simp only[RepVs] at hx
    obtain⟨v,ws,rfl,h1,v',ws',rfl,h2,hx⟩:=hx
    simp only[RepV,RepD] at h1 h2
    subst h1;subst h2
    obtain⟨u,hu,hr⟩:=y38 (ats:=ats) (ty:=ty) h (vs:= .int k (if isMax then (if m>n then m else n) else (if m<n then m else n))::ws') (by
     refine z0w.2 ⟨?_,hx⟩
     simp only[RepV,RepD])
    refine⟨u,?_,hr⟩
    cases isMax<;>simpa [Builtin.max_,Builtin.min_,Builtin.max2,Builtin.min2] using hu
   ·cases h
  ·cases h
termination_by xs=>xs.length
end Go.Lift
namespace Go.Lift
open Go
variable{cs news:Lv}{off key:Nat}
variable {P:Program} {st:St} {g:Gh} {w:World}
def RepVs.splice  {us vals:List Value}  (h1:RepVs g cs us) (h2:RepVs g news vals):RepVs g (splice cs off news) (us.take off++vals++us.drop (off+vals.length)):=by
 unfold Lift.splice
 rw[h2.length]
 exact RepVs.append (RepVs.append (RepVs.take off h1) h2) (RepVs.drop _ h1)
def z38   (h:off+news.length≤cs.length): (splice cs off news).length=cs.length:=by
 simp[splice];omega
def zb8 {arr:List Value} {vals:List Value} {n:Nat} (h:off+vals.length≤n) (hn:n≤arr.length):
  (arr.take off++vals++arr.drop (off+vals.length)).take n= (arr.take n).take off++vals++ (arr.take n).drop (off+vals.length):=by
 rw[List.take_append,List.take_of_length_le (by simp;omega)]
 congr 1
 ·rw[List.take_take,Nat.min_eq_left ω]
 ·rw[List.drop_take]
  congr 1
  simp
  omega
def zcs {arr:List Value} {vals:List Value} {s:Nat} (h:s+off≤arr.length):
  (arr.take (s+off)++vals++arr.drop (s+off+vals.length)).drop s= (arr.drop s).take off++vals++ (arr.drop s).drop (off+vals.length):=by
 rw[List.append_assoc,List.drop_append_of_le_length (by simp;omega),List.drop_take,List.drop_drop,←List.append_assoc,show s+off-s=off from by omega,show s+ (off+vals.length)=s+off+vals.length from by omega]
def zb2 (hi:Inv P z0i st g w) {k b:Nat}  {vals:List Value} (ho:sget st.s k=some (.cells cs)) (hb:g.blk k=some b) (hle:off+news.length≤cs.length)
  (hc:news.all V.isCell=true) (hr:RepVs g news vals):
  ∃w',(storeCells ⟨b,g.sh k+off,none⟩ vals).run P w= .ok () w' ∧Inv P z0i (st.set k (.cells (splice cs off news))) g w' ∧Step st g w (st.set k (.cells (splice cs off news))) g w' :=by
 obtain⟨b',hb',hsz,hHn,arr,ty,hheap,hle1,hle2,hcs⟩:=hi.obj k _ ho
 obtain rfl:b=b' :=Option.some.inj (hb.symm.trans hb')
 have hl:=hr.length
 have hst:=run_storeCells_at P b (g.sh k+off) ty vals 0 arr w hheap ω (RepVs.oneCells hc hr)
 simp only[Nat.add_zero] at hst
 have hh:=setRow_heap w b arr (arr.toList.take (g.sh k+off)++vals++arr.toList.drop (g.sh k+off+vals.length)).toArray ty (0,0) hheap
 refine⟨_,hst,?_⟩
 refine hi.write ho hb ψ rfl rfl rfl (fun c hc=>setRow_other w b c _ hc) (fun j v hv=>by rw[hHn j] at hv;cases hv) ?_
 refine⟨hsz.trans (z38 hle).symm,hHn,_,ty,hh,?_,?_,?_⟩
 ·rw[z38 hle];exact hle1
 ·simp;omega
 ·rw[z38 hle]
  show RepVs g _ (List.take cs.length ((arr.toList.take (g.sh k+off)++vals++arr.toList.drop (g.sh k+off+vals.length)).drop (g.sh k)))
  rw[zcs (by simp;omega),zb8 ω (by simp;omega)]
  exact RepVs.splice hcs hr
def zwp (hi:Inv P z0i st g w) {t:TypeId} {n:Nat} (hn:z52 P t=some n) {a x:V} {va vx:Value} {st' :St} (h:opStore st n a x=some st') (ha:RepV g a va) (hx:RepV g x vx):
  ∃w',(Instr.storeAt t va vx).run P w= .ok () w' ∧Inv P z0i st' g w' ∧Step st g w st' g w' :=by
 unfold opStore at h
 split at h
 ·rename_i k off
  simp only[RepV] at ha
  obtain⟨b,hb,rfl⟩:=ha
  split at h
  ·rename_i cs ho
   split at h
   ·rename_i hc
    cases h
    have hrc:=RepV.cells hx
    have hl:=hrc.length
    obtain⟨w',h1,h2,h3⟩:=zb2 (off:=off) hi ho hb ω hc.2.2 hrc
    refine⟨w',?_,h2,h3⟩
    have hsz:vx.cells.size=n:=by simpa [hc.1] using hl
    simp[Instr.storeAt,Instr.sureAddr,storeVar,z24 hn,hsz,h1]
   ·cases h
  ·cases h
 ·cases h
theorem zdb (w:World) (o:Go.Obj):World.add w o=w.alloc o:=rfl
def Mk (P:Program) (s:Sem Value) (g:Gh) (w:World) (key:Nat) (v:V) (obj:Obj):Prop:=
 ∃(ob:Go.Obj) (n m:Nat) (u:Value),s.run P w= .ok u (World.add w ob)∧RepV (g.asg key w.heap.size n m) v u∧
  ∀(g' :Gh) (w' :World) (b:Nat),Ext (g.asg key w.heap.size n m) g' →(∀j,g'.H b j=none)→w'.heap[b]?=some ob→ObjRep P z0i g' w' b key obj
def Mk.does {s:Sem Value}  {v:V} {obj:Obj} (h:Mk P s g w key v obj) (hi:Inv P z0i st g w) (hk:g.blk key=none) (hlt:key<st.next) {new:Nat→Prop} (hnew:new key):
  Does P (do pure (.value (←s))) st g w v (st.ins key obj) new:=by
 obtain⟨ob,n,m,u,hr,hv,ho⟩:=h
 obtain⟨h1,h2⟩:=hi.ins (n:=n) (m:=m) hk hlt (o:=obj) (ob:=ob) (ho _ _ _ (Ext.refl _) (fun j=>hi.Hnew j) z36)
 exact Does.made hr hv h1 h2 fun k b hb=>by
  by_cases e:k=key
  ·subst e;exact .inr hnew
  ·rw[(z20 e).1] at hb;exact .inl hb
def z8e   {arr:Array Value} {ty:TypeId} (hk:g.blk key=none) (hr:RepVs g cs arr.toList) (n m:Nat) (hn:n=cs.length) (hm:m=cs.length):
  ∀(g' :Gh) (w' :World) (b:Nat),Ext (g.asg key w.heap.size n m) g' →(∀j,g'.H b j=none)→w'.heap[b]?=some (.cells arr ty (0,0))→ObjRep P z0i g' w' b key (.cells cs):=by
 intro g' w' b hx hH hw
 have hl:=hr.length
 have h1:=hx.blk key _ z29
 have h2:= @z3u g key w.heap.size n m
 have h3:g'.sh key=0:= (hx.sh key _ z29).trans z4n
 refine⟨ω,hH,arr,ty,hw,ω,by simp at hl;omega,?_⟩
 rw[h3,List.drop_zero,←hl,List.take_length]
 exact RepVs.mono ((Ext.asg hk).trans hx) hr
def z7j {t:TypeId} {z:Lv} (h:z9p P t=some z):∃i zv,P.info? t=some i∧i.zero=some zv∧∀g,RepVs g z zv.cells.toList:=by
 unfold z9p at h
 split at h
 ·rename_i i hi
  split at h
  ·rename_i zv hz
   exact⟨i,zv,hi,hz,fun g=>zkm h⟩
  ·cases h
 ·cases h
def zai {t:TypeId} {i:TypeInfo} {zv:Value} (hi:P.info? t=some i) (hz:i.zero=some zv): (zeroValue t).run P w= .ok zv w:=by
 simp[zeroValue,typeInfo,hi,hz]
def y01 {t:TypeId} {z:Lv}  (hk:g.blk key=none) (h:z9p P t=some z):Mk P (Instr.alloc t true (.tuple #[])) g w key (.ptr key 0) (.cells z):=by
 obtain⟨i,zv,hi,hz,hr⟩:=z7j h
 refine⟨.cells zv.cells t (0,0),z.length,z.length,.pointer (some ⟨w.heap.size,0,none⟩),?_,?_,z8e hk (hr g) _ _ rfl rfl⟩
 ·simp[Instr.alloc,zai hi hz,newVar,newRow,zdb]
 ·simp only[RepV];exact⟨_,z29,by first|rfl|rw[z4n]⟩
def y81 {t:TypeId} {x:V} {v:Value}  (hk:g.blk key=none) (hx:RepV g x v):Mk P (Instr.box t v) g w key (.ptr key 0) (.cells (cellsV x)):=by
 refine⟨.cells v.cells t (0,0),(cellsV x).length,(cellsV x).length,.pointer (some ⟨w.heap.size,0,none⟩),?_,?_,z8e hk (RepV.cells hx) _ _ rfl rfl⟩
 ·simp[Instr.box,newVar,newRow,zdb]
 ·simp only[RepV];exact⟨_,z29,by first|rfl|rw[z4n]⟩
def zxp {t:TypeId} {kt:Nat}  (hk:g.blk key=none):Mk P (Instr.makeMap t none) g w key (.map key) (.map kt []):=by
 refine⟨.map #[] 0,0,0,.map (some w.heap.size),?_,?_,fun g' w' b _ _ hw=>⟨by simp,#[],0,hw,by simp[RepM]⟩⟩
 ·simp[Instr.makeMap,zdb]
 ·simp only[RepV];exact⟨_,z29,by first|rfl|rw[z4n]⟩
def zrr {t:TypeId} (ht:P.underlying t=some .string) {s:Ln} {v:Value}  (hx:RepV g (.d (.str s)) v):Mk P (Instr.range t v) g w key (.ptr key 0) (.iter s 0):=by
 simp only[RepV,RepD] at hx
 obtain⟨b,rfl,hb⟩:=hx
 refine⟨.stringIter b 0,0,0,.pointer (some ⟨w.heap.size,0,none⟩),?_,?_,fun g' w' _ hx _ hw=>⟨(hx.sh key _ z29).trans z4n,b,hw,hb⟩⟩
 ·simp[Instr.range,z0a ht,zdb]
 ·simp only[RepV];exact⟨_,z29,by first|rfl|rw[z4n]⟩
theorem z6d (z:Array Value):∀n:Nat,(List.range (n*z.size)).map (z[· %z.size]!)= (List.replicate n z.toList).flatten
 |0=>by simp
 |n+1=>by
  rw[Nat.add_mul,Nat.one_mul,Nat.add_comm,List.range_add,List.map_append,List.replicate_succ,List.flatten_cons,←z6d z n,List.map_map]
  congr 1
  ·apply List.ext_getElem?
   intro i
   by_cases h:i<z.size
   ·simp[h,Nat.mod_eq_of_lt h]
   ·simp[h]
  ·apply List.map_congr_left
   intro i _
   simp[Nat.add_mod_left]
def z96 (z:Array Value) (n:Nat): ((Array.range (n*z.size)).map (z[· %z.size]!)).toList= (List.replicate n z.toList).flatten:=by
 rw[Array.toList_map,Array.toList_range,z6d]
def RepVs.flatten_replicate {z:List V} {zv:List Value} (h:RepVs g z zv):∀n:Nat,RepVs g (List.replicate n z).flatten (List.replicate n zv).flatten
 |0=>by simpa using z1h
 |n+1=>by simpa [List.replicate_succ] using RepVs.append h (RepVs.flatten_replicate h n)
theorem z1z {α:Type} {z:List α} (n:Nat): (List.replicate n z).flatten.length=n*z.length:=by simp
end Go.Lift
