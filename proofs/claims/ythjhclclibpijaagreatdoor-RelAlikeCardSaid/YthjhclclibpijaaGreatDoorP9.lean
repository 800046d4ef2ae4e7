/- Part P9 of the proof. -/
import Derived.Test.YthjhclclibpijaaGreatDoorP8
set_option linter.all false
set_option maxHeartbeats 4000000
set_option maxRecDepth 100000
namespace Go.Lift
open Go
variable{es x k1 eb m j f kt:Nat}{ag:Bool}{o:Ln}{G:Nat→Option IFun}{F:IFun}{cs:Lv}
def nlS (v:V):Prop:=v= .nilS∨v= .emp∨v= .d (.sl [])
def PK (R:Nat→Nat→Prop) (es:Nat) (v:V):Prop:=nlS v∨∃k es' ag n,v= .arr k es' ag 0 n∧n≤9223372036854775807∧(0<n→es' =es∧R k n)
def tcs (E:List V→Prop):Nat→List V→Prop
 |0,cs=>cs= []
 |n+1,cs=>∃a r,cs=a++r∧E a∧tcs E n r
def E0 (cs:List V):Prop:=∃x,cs= [.d (.str x)]
def E1 (R:Nat→Nat→Prop) (cs:List V):Prop:=∃x b,cs= [.d (.str x),b]∧PK R 1 b
def E3 (cs:List V):Prop:=∃x k i k' j,cs= [.d (.str x),.d (.int k i),.d (.int k' j)]
theorem zlc {E:List V→Prop} {es:Nat} (hE:∀a,E a→a.length=es):∀{n:Nat} {cs:List V},tcs E n cs→∀{i:Nat},i<n→E ((cs.drop (i*es)).take es)∧i*es+es≤cs.length
 |0,_,_,i,hi=>ω
 |n+1,cs,⟨a,r,h1,h2,h3⟩,0,_=>by
  have:=hE a h2
  subst this
  rw[h1,Nat.zero_mul,List.drop_zero,List.take_left']
  ·exact⟨h2,by simp⟩
  ·rfl
 |n+1,cs,⟨a,r,h1,h2,h3⟩,i+1,hi=>by
  have hl:=hE a h2
  have h4:=zlc hE h3 (i:=i) ω
  have e: (i+1)*es=a.length+i*es:=by rw[hl,Nat.add_mul,Nat.one_mul,Nat.add_comm]
  rw[h1,e,List.drop_append,List.drop_eq_nil_of_le ω,List.nil_append,Nat.add_sub_cancel_left,List.length_append]
  exact⟨h4.1,ω⟩
theorem y6i {R:Nat→Nat→Prop}  :PK R es .nilS:= .inl (.inl rfl)
theorem z0:E0 [.d (.str [])]:=⟨_,rfl⟩
theorem z1 {R:Nat→Nat→Prop} :E1 R [.d (.str []),.nilS]:=⟨_,_,rfl,y6i⟩
theorem z3:E3 [.d (.str []),.d (.int .i64 0),.d (.int .i64 0)]:=⟨_,_,_,_,_,rfl⟩
section
variable {s0 s:Sto} {S:Nat→Prop} {k n:Nat}
end
section
variable {s0 s:Sto} {S:Nat→Prop} {nx lw:Nat} {v:V} {K:V→St→Prop} {k:Dm K}
end
def za4 {s:Sto} {lv:Bool} {S:Nat→Prop} {n:Nat} {v:V} {k:IntKind} {x:Int} (h:CQ s lv S n v (.int k x)):v= .d (.int k x):=by
 cases n with
 |zero=>exact h.1
 |succ n=>
  rcases h with h|⟨_,h⟩|⟨k,es,ag,cs,ds,_,h,_⟩
  ·exact h.1
  ·cases h
  ·cases h
def D.sc:D→Bool
 | .bool _=>true
 | .int _ _=>true
 | .str _=>true
 |_=>false
def scs (ds:List D):List V:=ds.map V.d
def zjf {x:D} (h:x.sc=true):x.isCell=true∧cellsD x= [x]∧x.flatC=true:=by
 cases x<;>first|exact⟨rfl,rfl,rfl⟩|cases h
def z83 {ds:Ld} (h:ds.all D.sc=true):ds.flatMap cellsD=ds∧ds.all D.isCell=true:=by
 induction ds with
 |nil=>exact⟨rfl,rfl⟩
 |cons x ds ih=>
  simp only[List.all_cons,Bool.and_eq_true] at h
  obtain⟨h1,h2⟩:=ih h.2
  obtain⟨k1,k2,_⟩:=zjf h.1
  exact⟨by rw[List.flatMap_cons,k2,h1];rfl,by simp[k1,h2]⟩
theorem y0b {x:D} (h:x.sc=true):Elt 1 false x:= .inr ⟨rfl,rfl,(zjf h).1⟩
section
variable {ds:List D} {i:Nat}
theorem z54: (scs ds).length=ds.length:=by simp[scs]
def z9r (h:i<ds.length): (i+1≤(scs ds).length)=True∧((scs ds).drop i).take 1= [.d ds[i]]:=by
 refine⟨by rw[z54];exact eq_true ω,?_⟩
 have h' :i< (scs ds).length:=by rw[z54];exact h
 rw[List.drop_eq_getElem_cons h',List.take_succ_cons,List.take_zero]
 simp[scs]
def z6b {x:D} (h:i<ds.length): (i+1≤(scs ds).length)=True∧(scs ds).take i++ [.d x]++ (scs ds).drop (i+1)=scs (ds.set i x):=by
 refine⟨by rw[z54];exact eq_true ω,?_⟩
 unfold scs
 rw[List.map_set,List.set_eq_take_append_cons_drop,if_pos (by simpa using h)]
 simp
end
def z2f {k n i:Nat}  (h:i<n):z08 1 (.arr k 1 ag 0 n) (i:Int)=some (.ptr k i):=by
 simp only[z08]
 rw[if_pos ⟨ω,ω,trivial⟩]
 simp
def zlj {s:Sto} {nx lw k:Nat} {ds:Ld} (h:sget s k=some (.cells (scs ds))):rdSl {s:=s,next:=nx,low:=lw} 1 (.arr k 1 false 0 ds.length)=some (scs ds,ds.length):=by
 simp only[rdSl,St.cells?,scells,h,z54]
 rw[if_pos ⟨ω,trivial⟩,List.drop_zero,List.take_of_length_le (by rw[z54];omega)]
def zrf {s:Sto} {nx lw key k n:Nat} {ds es:Ld} (h1:sget s k=some (.cells (scs ds))) (h2:sget s k1=some (.cells (scs es))) (hs:ds.all D.sc=true) (hs2:es.all D.sc=true)
  (hn:n=ds.length) (hm:m=es.length) (hb: (ds.length+es.length)*eb≤70368744177664) (hb2:ds.length+es.length≤70368744177664):
  z0v {s:=s,next:=nx,low:=lw} key 1 false eb (.arr k 1 false 0 n) (.arr k1 1 false 0 m)=some (.arr key 1 false 0 (n+m),{s:= (key,.cells (scs (ds++es)))::sdel s k,next:=nx,low:=Nat.min lw k}):=by
 subst hn hm
 have hr:=zlj (nx:=nx) (lw:=lw) h2
 have hc: (scs es).all V.isCell=true:=by
  unfold scs
  rw[List.all_map]
  exact (z83 hs2).2
 simp only[z0v,hr,St.get,h1]
 rw[if_pos ⟨trivial,trivial,hb,hb2,hc⟩,if_pos ⟨trivial,by rw[z54];omega⟩]
 simp[St.ins,St.del,scs]
def zlk {s:Sto} {nx lw key:Nat} {es:Ld} (h2:sget s k1=some (.cells (scs es))) (hs2:es.all D.sc=true) (h0:0<es.length) (hm:m=es.length) (hb:es.length*eb≤70368744177664) (hb2:es.length≤70368744177664):
  z0v {s:=s,next:=nx,low:=lw} key 1 false eb .nilS (.arr k1 1 false 0 m)=some (.arr key 1 false 0 m,{s:= (key,.cells (scs es))::s,next:=nx,low:=lw}):=by
 subst hm
 have hr:=zlj (nx:=nx) (lw:=lw) h2
 have hc: (scs es).all V.isCell=true:=by
  unfold scs
  rw[List.all_map]
  exact (z83 hs2).2
 simp only[z0v,hr]
 rw[if_neg ω,if_pos ⟨hb,hb2,hc⟩]
 simp[St.ins]
def zje {s:Sto} {k:Nat} (h: (k=j)=False):sget (sdel s k) j=sget s j:=z10 (fun e=>by rw[←h];exact e)
def zdq {key n:Nat} {x:D} {st:St} (hx:x.sc=true) (h1:n*eb≤70368744177664) (h2:n≤70368744177664):
  z4v key 1 false eb [.d x] (.d (.int .i64 n)) (.d (.int .i64 n)) st=some (.arr key 1 false 0 n,st.ins key (.cells (scs (List.replicate n x)))):=by
 rw[z8d (es:=1) (zero:= [V.d x]) h1 h2 rfl (by simp[(zjf hx).1,V.isCell])]
 have:∀n,(List.replicate n [V.d x]).flatten=scs (List.replicate n x):=by
  intro n
  induction n with
  |zero=>rfl
  |succ n ih=>rw[List.replicate_succ,List.replicate_succ,List.flatten_cons,ih];rfl
 rw[this]
def y0a {s:Sto} {S:Nat→Prop} {k:Nat} {ds:Ld} (hk:S k) (h:sget s k=some (.cells (scs ds))) (hs:ds.all D.sc=true):CQ s false S 1 (.arr k 1 false 0 ds.length) (.sl ds):=by
 refine znc ds hk h ω (fun x hx=>y0b (List.all_eq_true.1 hs x hx)) rfl ?_
 obtain⟨h1,h2⟩:=z83 hs
 rw[h1]
 exact z95 h2
def zf4 {s:Sto} {k:Nat} {ds:Ld} (h:sget s k=some (.cells (scs ds))) (hs:ds.all D.sc=true):snap s 0 z0e (.arr k 1 false 0 ds.length)=some (.sl ds):=
 CQ.snap (b:=0) (S:=fun _=>True) (fun _ _=>Nat.zero_le _) (n:=1) (m:=12) (by decide) (y0a trivial h hs)
def zfm {f:List V→St→Option (Ex×List V×St)} {env0:Lv} {st0:St} {Q:Ex→List V→St→Prop} {q:Dm (f,env0,st0,Q)}
  (h:PC (f env0 st0) (onN (fun env st=>LP f env st Q .mk) Q) .mk):LP f env0 st0 Q q:=by
 unfold LP
 rw[zdt]
 obtain⟨e,env,st,h1,h2⟩:=h
 rw[h1]
 cases e with
 |nrm=>exact h2
 |_=>exact⟨_,_,_,rfl,h2⟩
def mbs (n:Nat) (o:List Nat):List D:= (List.range n).map fun x=>D.bool (decide (x∈o))
theorem z7s {n:Nat}  : (mbs n o).length=n:=by simp[mbs]
def y3c {n:Nat} :List.replicate n (D.bool false)=mbs n []:=by
 unfold mbs
 apply List.ext_getElem
 ·simp
 ·intro i h1 h2;simp
theorem zhr {n:Nat}  (h:x<n): (mbs n o)[x]'(by rw[z7s];exact h)= .bool (decide (x∈o)):=by simp[mbs]
def zss {n:Nat}  (h:x<n): (mbs n o).set x (.bool true)=mbs n (o++ [x]):=by
 apply List.ext_getElem
 ·simp[z7s]
 ·intro i h1 h2
  have hi:i<n:=by simpa [z7s] using h1
  rw[List.getElem_set,zhr hi,zhr hi]
  by_cases e:x=i
  ·subst e;simp
  ·rw[if_neg e]
   congr 1
   rw[decide_eq_decide]
   simp[Ne.symm e]
def zg1 {cl:z12} {base:Nat} {env:Lv} {st:St} {dst:Option Nat} {g:Option (Nat×Bool)} {kp:Ln} {x:Opd} :evalIOp cl base env st ⟨dst,.lenM x,g,kp⟩=zy3 (z5c st (evO env x)) st:=by
 simp only[evalIOp,evalOp,zy3]
 cases z5c st (evO env x)<;>rfl
def zmd {s:Sto} {nx lw:Nat} {es:List (D×V)} (ho:sget s j=some (.map kt es)):z5c {s:=s,next:=nx,low:=lw} (.map j)=some es.length:=by
 simp only[z5c,St.get,ho]
def z7t {s:Sto} {nx lw:Nat}  {sh:List Kc} {zero v:V} {kd:D} {es:List (D×V)} (hc:z2v ag sh kd=true) (ho:sget s j=some (.map kt es)) (h:z22 es kd=some v):
  z27 {s:=s,next:=nx,low:=lw} kt ag sh true zero (.map j) (.d kd)=some (.tup [v,.d (.bool true)]):=by
 simp only[z27,hc,St.get,ho,h,if_true]
def z7u {s:Sto} {nx lw:Nat}  {sh:List Kc} {zero:V} {kd:D} {es:List (D×V)} (hc:z2v ag sh kd=true) (ho:sget s j=some (.map kt es)) (h:z22 es kd=none):
  z27 {s:=s,next:=nx,low:=lw} kt ag sh true zero (.map j) (.d kd)=some (.tup [zero,.d (.bool false)]):=by
 simp only[z27,hc,St.get,ho,h,if_true]
def zm2 (x:V) (st:St):Option (V×St):=match x with
 | .ptr k o=>some (.ptr k o,st)
 | .dptr ds=>some (.dptr ds,st)
 | .fn f a b=>some (.fn f a b,st)
 |_=>none
theorem zul {cl:z12} {base:Nat} {env:Lv} {st:St} {dst:Option Nat} {g:Option (Nat×Bool)} {kp:Ln} {x:Opd} :evalIOp cl base env st ⟨dst,.nilck x,g,kp⟩=zm2 (evO env x) st:=rfl
theorem zsk {k o:Nat} {st:St} :zm2 (.ptr k o) st=some (.ptr k o,st):=rfl
theorem zov {ds:Ld} {st:St} :zm2 (.dptr ds) st=some (.dptr ds,st):=rfl
theorem zxl {f:Nat} {a b:Lv} {st:St} :zm2 (.fn f a b) st=some (.fn f a b,st):=rfl
theorem zu7 {n:Nat} {st:St} :∀{ds:List D},frzL (frz (n+1)) st (ds.map V.d)=some (ds.map V.d,st)
 | []=>rfl
 |x::ds=>by simp only[List.map_cons,frzL,frz,zu7]
theorem zqp:∀{ds:List D},toDs (ds.map V.d)=some ds
 | []=>rfl
 |x::ds=>by simp only[List.map_cons,toDs,zqp,Option.map_some]
def zyq {s:Sto} {nx lw k:Nat}  {l:Ld} (h0:0<es) (he:∀x∈l,Elt es ag x) (ho:sget s k=some (.cells ((l.flatMap cellsD).map V.d))):
  frz z0e {s:=s,next:=nx,low:=lw} (.arr k es ag 0 l.length)=some (.d (.sl l),{s:=sset s k (.fz (l.flatMap cellsD)),next:=nx,low:=Nat.min lw k}):=by
 obtain⟨h1,h2⟩:=z15 he
 simp only[z0e,frz,St.get,ho]
 rw[if_pos ⟨h0,by simp only[List.length_map];omega⟩]
 simp only[zu7,zqp,h1,if_true,ho]
 have:z4z es ag l.length (((l.flatMap cellsD).drop 0).take (l.length*es))=some l:=by
  rw[List.drop_zero,List.take_of_length_le ω]
  exact z35 h0 he
 rw[this]
 rfl
theorem zdn {s:Sto} {v:V} {d:D} (h:snap s 0 z0e v=some d) {ys:List D} :∀{xs:List D},z0p s 0 (xs.map V.d++v::ys.map V.d)=some (xs++d::ys)
 | []=>by simp only[List.map_nil,List.nil_append,z0p,h,z1a];rfl
 |x::xs=>by
  have:=zdn h (ys:=ys) (xs:=xs)
  simp only[List.map_cons,List.cons_append,z0p,this,z0e,snap];rfl
theorem zmq {st st' :St} {v:V} {d:D} (h:frz z0e st v=some (.d d,st')) {ys:List D} :∀{xs:List D},frzL (frz z0e) st (xs.map V.d++v::ys.map V.d)=some ((xs++d::ys).map V.d,st')
 | []=>by simp only[List.map_nil,List.nil_append,frzL,h,z39];rfl
 |x::xs=>by
  have:=zmq h (ys:=ys) (xs:=xs)
  simp only[z0e] at this
  simp only[List.map_cons,List.cons_append,frzL,z0e,frz,this]
theorem zeu:∀{rs' rs:Ld},tupV (rs'.map V.d)=tupV (rs.map V.d)→rs' =rs
 | [],[],_=>rfl
 | [a],[b],e=>by simp[tupV] at e;rw[e]
 | [],[b],e=>by simp[tupV] at e
 | [],b::c::r,e=>by simp[tupV] at e
 | [a],[],e=>by simp[tupV] at e
 | [a],b::c::r,e=>by simp[tupV] at e
 |a::b::r,[],e=>by simp[tupV] at e
 |a::b::r,[c],e=>by simp[tupV] at e
 |a::b::r,c::d::q,e=>by
  simp only[List.map_cons,tupV,V.tup.injEq,List.cons.injEq,V.d.injEq] at e
  obtain⟨rfl,rfl,e⟩:=e
  congr 2
  exact (List.map_inj_right (by intro x y h;cases h;rfl)).1 e
def zp4    (hG:G f=some F) (hp:F.pure=true) (hn:F.nil2=false) {xs ys:Ld} {k:Nat}  {l rs:Ld} {s:Sto} {nx lw:Nat} (h0:0<es) (he:∀x∈l,Elt es ag x) (ho:sget s k=some (.cells ((l.flatMap cellsD).map V.d)))
  (hf:rs.all D.flat=false)
  (h:z06 G (.fn f [] []) ((xs++ .sl l::ys).map V.d) {s:= [],next:=0,low:=0} =some (tupV (rs.map V.d),{s:= [],next:=0,low:=0})):
  z06 G (.fn f [] []) (xs.map V.d++ .arr k es ag 0 l.length::ys.map V.d) {s:=s,next:=nx,low:=lw} =some (tupV (rs.map V.d),{s:=sset s k (.fz (l.flatMap cellsD)),next:=nx,low:=Nat.min lw k}):=by
 have hsn:snap s 0 z0e (.arr k es ag 0 l.length)=some (.sl l):=
  CQ.snap (b:=0) (S:=fun _=>True) (fun _ _=>Nat.zero_le _) (n:=1) (m:=12) (by decide) (znc l trivial ho h0 he rfl (z95 (z15 he).1))
 have ha:=zdn (xs:=xs) (ys:=ys) hsn
 have hfz:=zmq (xs:=xs) (ys:=ys) (zyq (nx:=nx) (lw:=lw) h0 he ho)
 rw[z1m] at h⊢
 simp only[z13,hG,hp,hn,List.nil_append,List.append_nil,Bool.false_and,Bool.false_eq_true,if_false,if_true,z1a,ha,hfz] at h⊢
 cases hb:z4r G F ((xs++ .sl l::ys).map V.d) {s:= [],next:=0,low:=0} with
 |none=>rw[hb] at h;simp at h
 |some p=>
  obtain⟨vs,st1⟩:=p
  rw[hb] at h
  simp only at h⊢
  cases hr' :z0p st1.s 0 vs with
  |none=>rw[hr'] at h;simp at h
  |some rs' =>
   rw[hr'] at h
   have ht:z0p [] 0 ((xs++ .sl l::ys).map V.d)=some (xs++ .sl l::ys):=z1a _
   simp only[z39,ht,D.beqL_refl,if_true,ite_self,Option.some.injEq,Prod.mk.injEq,and_true] at h
   have e:=zeu h
   subst e
   simp only[hf,Bool.false_eq_true,if_false,D.beqL_refl,if_true]
def zgd {s:Sto} {nx lw k n:Nat} {ag:Bool}  (h:sget s k=some (.cells cs)) (hn:cs.length=n*es):rdSl {s:=s,next:=nx,low:=lw} es (.arr k es ag 0 n)=some (cs,n):=by
 simp only[rdSl,St.cells?,scells,h]
 rw[if_pos ⟨ω,trivial⟩,List.drop_zero,List.take_of_length_le ω]
def zio {s:Sto} {nx lw key k n:Nat} {ag:Bool} {ds:Lv} (h1:sget s k=some (.cells cs)) (h2:sget s k1=some (.cells ds)) (hn:cs.length=n*es) (hm:ds.length=m*es) (hc:ds.all V.isCell=true)
  (hb: (n+m)*eb≤70368744177664) (hb2:n+m≤70368744177664):
  z0v {s:=s,next:=nx,low:=lw} key es ag eb (.arr k es ag 0 n) (.arr k1 es ag 0 m)=some (.arr key es ag 0 (n+m),{s:= (key,.cells (cs++ds))::sdel s k,next:=nx,low:=Nat.min lw k}):=by
 have hr:=zgd (nx:=nx) (lw:=lw) (ag:=ag) h2 hm
 simp only[z0v,hr,St.get,h1]
 rw[if_pos ⟨trivial,trivial,hb,hb2,hc⟩,if_pos ⟨trivial,ω⟩]
 rfl
def zge {s:Sto} {nx lw key k n off:Nat} {ag:Bool} {ds:Lv} (h1:sget s k=some (.cells cs)) (h2:sget s k1=some (.cells ds)) (hn:cs.length=off+n*es) (hm:ds.length=m*es) (hes:0<es) (h0:0<m) (hc:ds.all V.isCell=true)
  (hb: (n+m)*eb≤70368744177664) (hb2:n+m≤70368744177664):
  z0v {s:=s,next:=nx,low:=lw} key es ag eb (.arr k es ag off n) (.arr k1 es ag 0 m)=some (.arr key es ag 0 (n+m),{s:= (key,.cells (cs.drop off++ds))::sdel s k,next:=nx,low:=Nat.min lw k}):=by
 have hr:=zgd (nx:=nx) (lw:=lw) (ag:=ag) h2 hm
 have h3:0<m*es:=Nat.mul_pos h0 hes
 have h4: (n+m)*es=n*es+m*es:=Nat.add_mul _ _ _
 simp only[z0v,hr,St.get,h1]
 rw[if_pos ⟨trivial,trivial,hb,hb2,hc⟩]
 by_cases ho:off=0
 ·subst ho
  rw[if_pos ⟨rfl,ω⟩]
  simp[St.ins,St.del]
 ·rw[if_neg ω,if_neg ω,if_pos ω]
  rfl
def y2r    (hG:G f=some F) (hp:F.pure=true) (hn:F.nil2=false) {ds:Ld} {P:List D→Prop}
  (h:∀e:List V,e.length= (ds.map V.d).length+ (F.nt-(ds.map V.d).length)→(∀i,i<ds.length→e.getD i .undef= (ds.map V.d).getD i .undef)→PC (z0j (z06 G) z0g none F.body e {s:= [],next:=0,low:=0}) (fun x env st=>x.fin∧∃vs,z2h st env F.res=some vs∧∃rs,z0p st.s 0 vs=some rs∧P rs) .mk):
  ∃rs,P rs∧∀st,z06 G (.fn f [] []) (ds.map V.d) st=some (tupV (rs.map V.d),st):=by
 have h1:=h (ds.map V.d++List.replicate (F.nt-(ds.map V.d).length) .undef) ψ (fun i hi=>by
  simp only[List.getD_eq_getElem?_getD]
  rw[List.getElem?_append_left (by simpa using hi)])
 obtain⟨x,env,st1,h2,h3,vs,h4,rs,h5,h6⟩:=h1
 refine⟨rs,h6,fun st=> ?_⟩
 refine z7p hG hp hn ?_ st
 exact⟨x,env,st1,h2,h3,vs,h4,h5⟩
def RX (res:List IR) (P:List D→Prop) (_:Dm P) (e:Ex) (env:List V) (st:St):Prop:=e.fin∧∃vs,z2h st env res=some vs∧∃rs,z0p st.s 0 vs=some rs∧P rs
def RXQ (o:Option (List V)) (s:Sto) (P:List D→Prop):Prop:=∃vs,o=some vs∧∃rs,z0p s 0 vs=some rs∧P rs
def y5s {res:List IR} {P:List D→Prop} {d:Dm P} {env:Lv} {st:St} :RX res P d .ret env st=RXQ (z2h st env res) st.s P:=by simp[RX,RXQ]
def y5t {res:List IR} {P:List D→Prop} {d:Dm P} {env:Lv} {st:St} :RX res P d .nrm env st=RXQ (z2h st env res) st.s P:=by simp[RX,RXQ]
def zlq    (hG:G f=some F) (hp:F.pure=true) (hn:F.nil2=false) {ds:Ld} {P:List D→Prop}
  (h:∀e:List V,e.length= (ds.map V.d).length+ (F.nt-(ds.map V.d).length)→(∀i,i<ds.length→e.getD i .undef= (ds.map V.d).getD i .undef)→PC (z0j (z06 G) z0g none F.body e {s:= [],next:=0,low:=0}) (RX F.res P .mk) .mk):
  ∃rs,P rs∧∀st,z06 G (.fn f [] []) (ds.map V.d) st=some (tupV (rs.map V.d),st):=y2r hG hp hn h
def ZA0:=aI @y0n (aI @y0p (aI @y0k (aI @po_s (aI @po_n (aI @y64 (aI @y65 (aI @y62 (aI @y63 (aI @y0l (aI @y0m (aI @zju (aI @zjt (aI @zjv (aI @zff (aI @zfe (aI @zs6 (aI @zs5 (aI @zlx (aI @zry (aI @zs0 (aI @zrx (aI @zrz (aI @y0o (aI @y0f (aI @y0g (aI @y0h (aI @y0i (aI @y0d (aI @y0e (aI @y7d (aI @zuk (aI @zn3 (aI @y1f (aI @zum (aI @zmw (aI @y1g (aI @y7c (aI @y1e (@y1d)))))))))))))))))))))))))))))))))))))))
def ZA1:=aI @zn0 (aI @y1a (aI @zmz (aI @zmy (aI @zif (aI @zig (aI @zid (aI @y1b (aI @zuq (aI @y1c (aI @zn2 (aI @zih (aI @zun (aI @zn1 (aI @y4a (aI @zpe (aI @zia (aI @zuj (aI @zmx (aI @zic (aI @zib (aI @zz2 (aI @zz3 (@zyy)))))))))))))))))))))))
def ZA:=aI ZA0 (ZA1)
def ZB0:=aI @zv0 (aI @y7w (aI @y7x (aI @pv_some (aI @zrg (aI @zeh (aI @zhb (aI @zrj (aI @zdv (aI @y7e (aI @y7f (aI @zch (aI @z7w (aI @List.length_set.{0} (aI @zb3 (aI @zdi (aI @ze7 (aI @zlv (aI @zlw (aI @zrw (aI @zea (aI @zcd (aI @zc8 (aI @znp (aI @znl (aI @znn (aI @ziu (aI @zvh (aI @zvi (aI @znm (aI @zno (aI @zit (aI @zij (aI @zc7 (aI @zmu (aI @zd1 (aI @z9q (aI @zm8 (aI @zc0 (@fillP.eq_1)))))))))))))))))))))))))))))))))))))))
def ZB1:=aI @fillP.eq_2 (aI @nat0 (aI @zqc (aI @zqb (aI @cond_true.{1} (aI @cond_false.{1} (aI @zvm (aI @zvn (aI @zvo (aI @zvp (aI @y1p (aI @y1t (aI @y1r (aI @y1s (aI @ziv (aI @zl1 (aI @zl2 (aI @zl3 (aI @zl4 (aI @zl5 (aI @zgk (aI @zl6 (aI @zkz (aI @zgj (aI @zgi (aI @zqf (aI @zt6 (aI @zmc (aI @zt7 (aI @zt8 (aI @zk6 (aI @y18 (aI @zmt (aI @zug (aI @zmh (aI @zmg (aI @y7z (aI @y7y (aI @List.map_cons.{0,0} (@List.map_nil.{0,0})))))))))))))))))))))))))))))))))))))))
def ZB2:=aI @decide_true (aI @decide_false (aI @Bool.not_true (aI @Bool.not_false (aI @Bool.false_eq_true (aI @zik (aI @decide_eq_true_eq (aI @ze5 (aI @ze6 (aI @List.length_cons.{0} (aI @List.length_nil.{0} (aI @List.length_map.{0,0} (aI @Nat.zero_add (aI @Nat.add_zero (aI @St.ins.eq_1 (aI @St.set.eq_1 (aI @St.get.eq_1 (aI @zfn (aI @scells.eq_1 (aI @sget.eq_1 (aI @sget.eq_2 (aI @sset.eq_1 (aI @sset.eq_2 (aI @opStore.eq_1 (aI @opStore.eq_2 (aI @splice.eq_1 (aI @ofCells.eq_1 (aI @ofCells.eq_2 (aI @ofCellsD.eq_1 (aI @ofCellsD.eq_2 (aI @cellsV.eq_1 (aI @cellsV.eq_2 (aI @cellsV.eq_3 (aI @cellsD.eq_1 (aI @cellsD.eq_2 (aI @mkAgg.eq_1 (aI @allD.eq_1 (aI @allD.eq_2 (aI @allD.eq_3 (@List.drop_zero.{0})))))))))))))))))))))))))))))))))))))))
def ZB3:=aI @List.drop_succ_cons.{0} (aI @List.take_succ_cons.{0} (aI @List.take_zero.{0} (aI @List.nil_append.{0} (aI @List.append_nil.{0} (aI @List.cons_append.{0} (aI @List.all_cons.{0} (aI @List.all_nil.{0} (aI @V.isCell.eq_1 (aI @V.isCell.eq_2 (aI @V.isCell.eq_3 (aI @V.isCell.eq_4 (aI @D.isCell.eq_1 (aI @D.isCell.eq_2 (aI @Bool.and_self (aI @Bool.and_true (aI @Bool.true_and (aI @Option.map_some.{0,0} (aI @Option.map_none.{0,0} (aI @Nat.le_refl (aI @and_self (aI @and_true (aI @true_and (aI @not_false_eq_true (aI @not_true_eq_false (aI @if_false.{1} (aI @if_true.{1} (aI @tupV.eq_1 (aI @tupV.eq_2 (aI @Nat.add_eq_left (@Nat.add_one_ne_zero))))))))))))))))))))))))))))))
def ZB:=aI ZB0 (aI ZB1 (aI ZB2 (ZB3)))
def LA0:=aI @y0n (aI @y0p (aI @y0k (aI @po_s (aI @po_n (aI @y64 (aI @y65 (aI @y62 (aI @y63 (aI @y0l (aI @y0m (aI @zju (aI @zjt (aI @zjv (aI @zff (aI @zfe (aI @zs6 (aI @zs5 (aI @zlx (aI @zry (aI @zs0 (aI @zrx (aI @zrz (aI @y0o (aI @y0f (aI @y0g (aI @y0h (aI @y0i (aI @y0d (aI @y0e (aI @y7d (aI @zuk (aI @zn3 (aI @y1f (aI @zum (aI @zmw (aI @y1g (aI @y7c (aI @y1e (@y1d)))))))))))))))))))))))))))))))))))))))
def LA1:=aI @zn0 (aI @y1a (aI @zmz (aI @zmy (aI @zif (aI @zig (aI @zid (aI @y1b (aI @zuq (aI @y1c (aI @zn2 (aI @zih (aI @zun (aI @zn1 (aI @zz1 (aI @zz0 (aI @zkg (aI @zia (aI @zpd (aI @zmx (aI @zic (aI @zib (aI @zuo (aI @zup (aI @zul (aI @zg1 (aI @y5s (@y5t)))))))))))))))))))))))))))
def LA:=aI LA0 (LA1)
def LB0:=aI @zv0 (aI @y7w (aI @y7x (aI @pv_some (aI @zrg (aI @zeh (aI @zhb (aI @zrj (aI @zdv (aI @y77 (aI @y94 (aI @y93 (aI @zpn (aI @zsk (aI @zov (aI @zxl (aI @y7e (aI @y7f (aI @zch (aI @z7w (aI @List.length_set.{0} (aI @zb3 (aI @zdi (aI @ze7 (aI @zlv (aI @zlw (aI @zrw (aI @zea (aI @zcd (aI @zc8 (aI @znp (aI @znl (aI @znn (aI @ziu (aI @zvh (aI @zvi (aI @znm (aI @zno (aI @zit (@zij)))))))))))))))))))))))))))))))))))))))
def LB1:=aI @zc7 (aI @zmu (aI @zd1 (aI @z9q (aI @zm8 (aI @zc0 (aI @fillP.eq_1 (aI @fillP.eq_2 (aI @nat0 (aI @zqc (aI @zqb (aI @cond_true.{1} (aI @cond_false.{1} (aI @zvm (aI @zvn (aI @zvo (aI @zvp (aI @y1p (aI @y1t (aI @y1r (aI @y1s (aI @ziv (aI @zl1 (aI @zl2 (aI @zl3 (aI @zl4 (aI @zl5 (aI @zgk (aI @zl6 (aI @zkz (aI @zgj (aI @zgi (aI @zqf (aI @zt6 (aI @zmc (aI @zt7 (aI @zt8 (aI @zk6 (aI @y18 (@zmt)))))))))))))))))))))))))))))))))))))))
def LB2:=aI @zug (aI @zmh (aI @zmg (aI @y7z (aI @y7y (aI @List.map_cons.{0,0} (aI @List.map_nil.{0,0} (aI @decide_true (aI @decide_false (aI @Bool.not_true (aI @Bool.not_false (aI @Bool.false_eq_true (aI @zik (aI @decide_eq_true_eq (aI @ze5 (aI @ze6 (aI @List.length_cons.{0} (aI @List.length_nil.{0} (aI @List.length_map.{0,0} (aI @Nat.zero_add (aI @Nat.add_zero (aI @St.ins.eq_1 (aI @St.set.eq_1 (aI @St.get.eq_1 (aI @zfn (aI @scells.eq_1 (aI @sget.eq_1 (aI @sget.eq_2 (aI @sset.eq_1 (aI @sset.eq_2 (aI @opStore.eq_1 (aI @opStore.eq_2 (aI @splice.eq_1 (aI @ofCells.eq_1 (aI @ofCells.eq_2 (aI @ofCellsD.eq_1 (aI @ofCellsD.eq_2 (aI @cellsD.eq_1 (aI @cellsD.eq_2 (@y7o)))))))))))))))))))))))))))))))))))))))
def LB3:=aI @y7q (aI @y4i (aI @y9c (aI @y7t (aI @y4h (aI @y7r (aI @y7s (aI @y7p (aI @y9d (aI @zxu (aI @zxt (aI @zxs (aI @zxr (aI @z6o (aI @zya (aI @ztg (aI @zth (aI @zti (aI @zp9 (aI @y3u (aI @zjy (aI @zer (aI @z4p (aI @zgr (aI @zw1 (aI @z5q (aI @z4o (aI @D.beq_refl (aI @mkSlV.eq_1 (aI @mkSlV.eq_2 (aI @ztm (aI @zpa (aI @zpb (aI @ztn (aI @List.replicate.eq_1.{0} (aI @List.replicate.eq_2.{0} (aI @List.flatten_cons.{0} (aI @List.flatten_nil.{0} (aI @zh4 (@Option.isSome_some.{0})))))))))))))))))))))))))))))))))))))))
def LB4:=aI @zu0 (aI @zwx (aI @zre (aI @Nat.zero_mul (aI @Nat.zero_le (aI @Nat.le_add_left (aI @Nat.add_assoc (aI @Nat.left_eq_add (aI @nat1 (aI @nat2 (aI @List.drop_zero.{0} (aI @List.drop_succ_cons.{0} (aI @List.take_succ_cons.{0} (aI @List.take_zero.{0} (aI @List.nil_append.{0} (aI @List.append_nil.{0} (aI @List.cons_append.{0} (aI @List.all_cons.{0} (aI @List.all_nil.{0} (aI @ze9 (aI @zi4 (aI @y42 (aI @y8z (aI @y41 (aI @y76 (aI @y11 (aI @y75 (aI @y90 (aI @D.isCell.eq_1 (aI @D.isCell.eq_2 (aI @Bool.and_self (aI @Bool.and_true (aI @Bool.true_and (aI @Option.map_some.{0,0} (aI @Option.map_none.{0,0} (aI @Nat.le_refl (aI @and_self (aI @and_true (aI @true_and (@not_false_eq_true)))))))))))))))))))))))))))))))))))))))
def LB5:=aI @not_true_eq_false (aI @if_false.{1} (aI @if_true.{1} (aI @tupV.eq_1 (aI @tupV.eq_2 (aI @Nat.add_eq_left (@Nat.add_one_ne_zero))))))
def LB:=aI LB0 (aI LB1 (aI LB2 (aI LB3 (aI LB4 (LB5)))))
def zf {b n:Nat} (h:b+n≤x) (h0:0<n): (∀a,(x+a=b)=False)∧(∀a,(b=x+a)=False)∧(x=b)=False∧(b=x)=False∧(∀j,j<n→(x=b+j)=False)∧∀j,j<n→(b+j=x)=False:=by
 refine⟨fun a=> ?_,fun a=> ?_,?_,?_,fun j hj=> ?_,fun j hj=> ?_⟩<;>simp<;>omega
def zf0 {n:Nat} (h:n≤x):∀j,j<n→(x=j)=False:=fun j hj=>by simp;omega
def cf1 {a:Nat} (h:a<x): (x=a)=False∧∀j,(x+j=a)=False:=by
 refine⟨?_,fun j=> ?_⟩<;>simp<;>omega
def cf2 {a:Nat} {s:Sto} {o:Obj} (h:a<x) (hc:sget s a=some o):a<x∧∀o',sget (sset s a o') a=some o' :=⟨h,fun _=>z05 hc⟩
end Go.Lift
namespace Go.Lift.K
open Go Go.Lift
variable{l:List (List Nat)}{s:Sto}{n0 k:Nat}{r:RulesT}{x:NodeT}{fv:V}{t:TreeT}
def y2w {name:Ln} {l:List RelT}   (hk:k<n0) (ho:sget s k=some (.cells [.d (.str name)])):TellsT G (.fn 58 [] [.ptr k 0]) s n0 RelT.d (· ∈l) (isR name):=by
 intro x _ s' nx lw hs hn
 have hne: (nx=k)=False:=by simp;omega
 have ho' :sget s' k=_:= (hs k hk).trans ho
 refine z5b (first:= []) (args:= [.d x.d]) (cap:= [.ptr k 0]) (us:= [.d (.bool (isR name x))]) T1.g58 rfl rfl rfl (fun e w_len harg=> ?_)
 have w_len:e.length=8:=w_len
 have w_0:e.getD 0 .undef= .d x.d:=harg 0 ψ
 have w_1:e.getD 1 .undef= .ptr k 0:=harg 1 ψ
 clear harg
 simp only[T1.i58,RelT.d,hne,ho',w_len,w_0,w_1,↓ZA,ZB,simprocAttr]
 exact ru1 (by first|exact Nat.le_refl _|exact z02 (Nat.le_refl _) ω|exact z02 (z02 (Nat.le_refl _) ω) ω) rfl
def z6g  (hr:LOk r.rels) {name:Ln} (st:St):z06 G (.fn 33 [] []) [.d r.d,.d (.str name)] st=some (.d (.int .i64 (z2i r.rels name)),st):=by
 unfold LOk at hr
 refine z19 (ds:= [r.d,.str name]) (rs:= [.int .i64 (z2i r.rels name)]) T1.g33 rfl rfl (fun e w_len harg=> ?_) st
 have w_len:e.length=10:=w_len
 have w_0:=harg 0 ψ
 have w_1:=harg 1 ψ
 clear harg
 simp only[List.map_cons,List.map_nil,List.getD_cons_zero,List.getD_cons_succ] at w_0 w_1
 have hc:∀s nx lw,sget s 1=some (.cells [.d (.str name)])→1<nx→z06 G (.fn 57 [] []) [.d (.sl (r.rels.map RelT.d)),.fn 58 [] [.ptr 1 0]] {s:=s,next:=nx,low:=lw} =_:=fun s nx lw h1 h2=>
  ztr T1.g57 ω (fun a _=>z61) (y2w h2 h1)
 simp only[T1.i33,RulesT.d,hc,w_len,w_0,w_1,↓ZA,ZB,simprocAttr]
 exact rq1 (by rfl)
def y2s  (hr:r.ok) {i:Nat} (hi:i<r.rels.length) (st:St):z06 G (.fn 55 [] []) [.d r.d,.d (.int .i64 i)] st=some (.d (.int .i64 (z18 r i r.rels[i])),st):=by
 have hx:=hr.1.2 _ (List.getElem_mem hi)
 have hN:∀(n:Ln) (st:St),z06 G (.fn 33 [] []) [.d (.agg [.sl (r.rels.map RelT.d),.sl (r.clauses.map ClauseT.d)]),.d (.str n)] st=_:=fun n st=>z6g hr.1.1 st
 have hM:=fun st=>zbt hx.1 st
 refine z19 (ds:= [r.d,.int .i64 i]) (rs:= [.int .i64 (z18 r i r.rels[i])]) T1.g55 rfl rfl (fun e w_len harg=> ?_) st
 have w_len:e.length=42:=w_len
 have w_0:=harg 0 ψ
 have w_1:=harg 1 ψ
 clear harg
 simp only[List.map_cons,List.map_nil,List.getD_cons_zero,List.getD_cons_succ] at w_0 w_1
 simp only[T1.i55,RulesT.d,z2e hi,hM,w_len,w_0,w_1,↓ZA,ZB,simprocAttr]
 cases h1:z0z r.rels[i].name with
 |false=>
  simp (maxDischargeDepth:=60) only[w_len,↓ZA,ZB,simprocAttr]
  exact rq1 (by rw[z18,if_pos h1])
 |true=>
  have h1' :¬z0z r.rels[i].name=false:=by simp[h1]
  simp only[w_len,↓ZA,ZB,simprocAttr]
  by_cases h2:r.rels[i].arity<1
  ·simp only[h2,w_len,↓ZA,ZB,simprocAttr]
   exact rq1 (by rw[z18,if_neg h1',if_pos (.inl h2)])
  ·by_cases h2' :3<r.rels[i].arity
   ·simp only[h2,h2',w_len,↓ZA,ZB,simprocAttr]
    exact rq1 (by rw[z18,if_neg h1',if_pos (.inr h2')])
   ·have k2:¬(r.rels[i].arity<1∨3<r.rels[i].arity):=fun h=>h.elim h2 h2'
    by_cases h3:r.rels[i].rank<0
    ·simp only[h2,h2',h3,w_len,↓ZA,ZB,simprocAttr]
     exact rq1 (by rw[z18,if_neg h1',if_neg k2,if_pos (.inl h3)])
    ·by_cases h3' :3<r.rels[i].rank
     ·simp only[h2,h2',h3,h3',w_len,↓ZA,ZB,simprocAttr]
      exact rq1 (by rw[z18,if_neg h1',if_neg k2,if_pos (.inr h3')])
     ·have k3:¬(r.rels[i].rank<0∨3<r.rels[i].rank):=fun h=>h.elim h3 h3'
      by_cases h4:z2i r.rels r.rels[i].name<i
      ·simp only[h2,h2',h3,h3',hN,h4,w_len,w_1,↓ZA,ZB,simprocAttr]
       exact rq1 (by rw[z18,if_neg h1',if_neg k2,if_neg k3,if_pos h4])
      ·simp only[h2,h2',h3,h3',hN,h4,w_len,w_1,↓ZA,ZB,simprocAttr]
       exact rq1 (by rw[z18,if_neg h1',if_neg k2,if_neg k3,if_neg h4])
def y49 {x:PatT} (hx:x.ok) (st:St):z06 G (.fn 81 [] []) [.d x.d] st=some (.d (.bool (few x)),st):=by
 have hl:=hx.2.1
 unfold LOk at hl
 refine z19 (ds:= [x.d]) (rs:= [.bool (few x)]) T1.g81 rfl rfl (fun e w_len harg=> ?_) st
 have w_len:e.length=18:=w_len
 have w_0:=harg 0 ψ
 clear harg
 simp only[List.map_cons,List.map_nil,List.getD_cons_zero] at w_0
 simp only[T1.i81,PatT.d,w_len,w_0,↓ZA,ZB]
 by_cases h1: (x.vars.length:Int)≤4
 ·have h1' :x.vars.length≤4:=ω
  by_cases h2:x.name= []
  ·simp only[h1,h2,w_len,↓ZA,ZB,simprocAttr]
   exact rq1 (by simp[few,h1',h2];omega)
  ·simp only[h1,h2,w_len,↓ZA,ZB,simprocAttr]
   exact rq1 (by simp[few,h1',h2])
 ·have h1' :¬x.vars.length≤4:=ω
  simp only[h1,w_len,↓ZA,ZB,simprocAttr]
  exact rq1 (by simp[few,h1'])
def zsl  (hl:SsOk l) (st:St):z06 G (.fn 83 [] []) [.d (.sl (l.map D.str))] st=some (.d (.bool (l.all z0z)),st):=by
 have hll:=hl.1
 unfold LOk at hll
 have hE:∀s nx lw,z06 G (.fn 84 [] []) [.d (.sl (l.map D.str)),.fn 62 [] []] {s:=s,next:=nx,low:=lw} =_:=fun s nx lw=>
  z4k (enc:=D.str) (p:=z0z) (es:=1) (ag:=false) T1.g84 T1.g109 T1.g135 (.inr T1.g110) rfl rfl ω (fun a _=> .inr ⟨rfl,rfl,rfl⟩) (z4e fun a ha st=>zbt (hl.2 a ha) st)
 refine z19 (ds:= [.sl (l.map D.str)]) (rs:= [.bool (l.all z0z)]) T1.g83 rfl rfl (fun e w_len harg=> ?_) st
 have w_len:e.length=5:=w_len
 have w_0:=harg 0 ψ
 clear harg
 simp only[List.map_cons,List.map_nil,List.getD_cons_zero] at w_0
 simp only[T1.i83,hE,w_len,w_0,↓ZA,ZB,simprocAttr]
 exact rq1 (by rfl)
def y31 {l:List PatT} (hl:∀x∈l,x.ok)   (hk:k<n0) (ho:sget s k=some (.cells [.fn 83 [] []])):TellsT G (.fn 85 [] [.ptr k 0]) s n0 PatT.d (· ∈l) nmd:=by
 intro x hx s' nx lw hs hn
 have hne: (nx=k)=False:=by simp;omega
 have ho' :sget s' k=_:= (hs k hk).trans ho
 have hM:=fun st=>zbt (hl x hx).1 st
 have hC:=fun st=>zsl (hl x hx).2 st
 refine z5b (first:= []) (args:= [.d x.d]) (cap:= [.ptr k 0]) (us:= [.d (.bool (nmd x))]) T1.g85 rfl rfl rfl (fun e w_len harg=> ?_)
 have w_len:e.length=18:=w_len
 have w_0:e.getD 0 .undef= .d x.d:=harg 0 ψ
 have w_1:e.getD 1 .undef= .ptr k 0:=harg 1 ψ
 clear harg
 by_cases h2:x.name= []
 ·simp only[T1.i85,PatT.d,hne,ho',hC,h2,w_len,w_0,w_1,↓ZA,ZB,simprocAttr]
  exact ru1 (by first|exact Nat.le_refl _|exact z02 (Nat.le_refl _) ω|exact z02 (z02 (Nat.le_refl _) ω) ω) (by simp[nmd,h2])
 ·cases h3:z0z x.name with
  |true=>
   simp only[T1.i85,PatT.d,hne,ho',hM,hC,h2,h3,w_len,w_0,w_1,↓ZA,ZB,simprocAttr]
   exact ru1 (by first|exact Nat.le_refl _|exact z02 (Nat.le_refl _) ω|exact z02 (z02 (Nat.le_refl _) ω) ω) (by simp[nmd,h2,h3])
  |false=>
   simp only[T1.i85,PatT.d,hM,h2,h3,w_len,w_0,↓ZA,ZB,simprocAttr]
   exact ru1 (by first|exact Nat.le_refl _|exact z02 (Nat.le_refl _) ω|exact z02 (z02 (Nat.le_refl _) ω) ω) (by simp[nmd,h2,h3])
def zoc {l:List PatT} (hl:∀x∈l,x.ok) {v:Ln}   (hk:k<n0) (ho:sget s k=some (.cells [.d (.str v)])):TellsT G (.fn 88 [] [.ptr k 0]) s n0 PatT.d (· ∈l) (fun x=>x.vars.any fun y=>decide (y=v)):=by
 intro x hx s' nx lw hs hn
 have hne: (nx=k)=False:=by simp;omega
 have ho' :sget s' k=_:= (hs k hk).trans ho
 have hxl:= (hl x hx).2.1
 unfold LOk at hxl
 have hC:∀st,z06 G (.fn 89 [] []) [.d (.sl (x.vars.map D.str)),.d (.str v)] st=some (.d (.bool (x.vars.any fun y=>decide (y=v))),st):=fun st=>by
  rw[y9g T1.g89 T1.g112 (by simp;omega) (fun y hy=>by obtain⟨a,_,rfl⟩:=List.mem_map.1 hy;rfl) st]
  rw[List.any_map]
  simp only[Function.comp_def,zjc,eq_comm]
 refine z5b (first:= []) (args:= [.d x.d]) (cap:= [.ptr k 0]) (us:= [.d (.bool (x.vars.any fun y=>decide (y=v)))]) T1.g88 rfl rfl rfl (fun e w_len harg=> ?_)
 have w_len:e.length=8:=w_len
 have w_0:e.getD 0 .undef= .d x.d:=harg 0 ψ
 have w_1:e.getD 1 .undef= .ptr k 0:=harg 1 ψ
 clear harg
 simp only[T1.i88,PatT.d,hne,ho',hC,w_len,w_0,w_1,↓ZA,ZB,simprocAttr]
 exact ru1 (by first|exact Nat.le_refl _|exact z02 (Nat.le_refl _) ω|exact z02 (z02 (Nat.le_refl _) ω) ω) rfl
def zqr {c:ClauseT} (hc:zo4 c.head)    (hk:k<n0) (ho:sget s k=some (.cells [.d (.str c.rel),.d (.sl (c.head.map PatT.d)),.d (.sl (c.body.map PatT.d))])):TellsT G (.fn 86 [] [.ptr k 0]) s n0 D.str (· ∈l) (z5a c.head):=by
 intro v _ s' nx lw hs hn
 have hne: (nx=k)=False:=by simp;omega
 have ho' :sget s' k=_:= (hs k hk).trans ho
 have hl:=hc.1
 unfold LOk at hl
 have hC:∀s nx' lw,sget s nx=some (.cells [.d (.str v)])→nx<nx' →z06 G (.fn 87 [] []) [.d (.sl (c.head.map PatT.d)),.fn 88 [] [.ptr nx 0]] {s:=s,next:=nx',low:=lw} =some (.d (.bool (z5a c.head v)),{s:=s,next:=nx',low:=lw}):=fun s nx' lw h1 h2=>
  y4l (p:=fun x:PatT=>x.vars.any fun y=>decide (y=v)) T1.g87 T1.g111 ω (fun a _=>z6l) (zoc hc.2 h2 h1)
 have hlt:nx<nx+2+5:=ω
 refine z5b (first:= []) (args:= [.d (.str v)]) (cap:= [.ptr k 0]) (us:= [.d (.bool (z5a c.head v))]) T1.g86 rfl rfl rfl (fun e w_len harg=> ?_)
 have w_len:e.length=8:=w_len
 have w_0:e.getD 0 .undef= .d (.str v):=harg 0 ψ
 have w_1:e.getD 1 .undef= .ptr k 0:=harg 1 ψ
 clear harg
 simp only[T1.i86,hne,ho',hC,hlt,w_len,w_0,w_1,↓ZA,ZB,simprocAttr]
 exact ru1 (by first|exact Nat.le_refl _|exact z02 (Nat.le_refl _) ω|exact z02 (z02 (Nat.le_refl _) ω) ω) rfl
def zoq  (hr:r.ok) {c:ClauseT} (hc:c.ok) (st:St):z06 G (.fn 56 [] []) [.d r.d,.d c.d] st=some (.d (.int .i64 (z0y r c)),st):=by
 have hrl:=hr.1.1
 have hhl:=hc.2.1.1
 have hbl:=hc.2.2.1
 unfold LOk at hhl hbl
 have hN:∀(n:Ln) (st:St),z06 G (.fn 33 [.d (.agg [.sl (r.rels.map RelT.d),.sl (r.clauses.map ClauseT.d)])] []) [.d (.str n)] st=some (.d (.int .i64 (z2i r.rels n)),st):=fun n st=>
  (zdx T1.g33 rfl rfl rfl).trans (z6g hr.1.1 st)
 have hE1:∀st,z06 G (.fn 82 [] []) [.d (.sl (c.head.map PatT.d)),.fn 81 [] []] st=some (.d (.bool (c.head.all few)),st):=fun st=>
  z4k (enc:=PatT.d) (p:=few) (es:=2) (ag:=true) T1.g82 T1.g87 T1.g111 (.inl T1.g108) rfl rfl ω (fun a _=>z6l) (z4e fun a ha st=>y49 (hc.2.1.2 a ha) st)
 have hE2:∀s nx lw k,sget s k=some (.cells [.fn 83 [] []])→k<nx→z06 G (.fn 82 [] []) [.d (.sl (c.head.map PatT.d)),.fn 85 [] [.ptr k 0]] {s:=s,next:=nx,low:=lw} =some (.d (.bool (c.head.all nmd)),{s:=s,next:=nx,low:=lw}):=fun s nx lw k h1 h2=>
  z4k (enc:=PatT.d) (p:=nmd) (es:=2) (ag:=true) T1.g82 T1.g87 T1.g111 (.inl T1.g108) rfl rfl ω (fun a _=>z6l) (y31 hc.2.1.2 h2 h1)
 refine z19 (ds:= [r.d,c.d]) (rs:= [.int .i64 (z0y r c)]) T1.g56 rfl rfl (fun e w_len harg=> ?_) st
 have w_len:e.length=84:=w_len
 have w_0:=harg 0 ψ
 have w_1:=harg 1 ψ
 clear harg
 simp only[List.map_cons,List.map_nil,List.getD_cons_zero,List.getD_cons_succ] at w_0 w_1
 simp (maxDischargeDepth:=60) only[T1.i56,RulesT.d,ClauseT.d,hN,w_len,w_0,w_1,↓ZA,ZB,simprocAttr]
 unfold z2i
 rcases z8m (p:=isR c.rel) (l:=r.rels) with⟨e1,e2⟩|⟨n,hn,e1,e2⟩
 ·have hlt: (-1:Int)<0:=ω
  simp (maxDischargeDepth:=60) only[e1,hlt,w_len,↓ZA,ZB,simprocAttr]
  exact rq1 (by rw[z0y,e2])
 ·have hlt:¬(n:Int)<0:=ω
  have hS:z0y r c=if (c.head.length:Int)≠r.rels[n].arity∨(4:Int)<c.body.length∨c.head.all few=false then 2 else if c.head.all nmd=false then 4 else z0r (z2r r c.head) c.body:=by rw[z0y,e2]
  by_cases h1: (c.head.length:Int)=r.rels[n].arity
  ·by_cases h2: (4:Int)<c.body.length
   ·simp (maxDischargeDepth:=60) only[e1,hlt,z2e hn,h1,h2,w_len,↓ZA,ZB,simprocAttr]
    exact rq1 (by rw[hS,if_pos (.inr (.inl h2))])
   ·cases h3:c.head.all few with
    |false=>
     simp (maxDischargeDepth:=60) only[e1,hlt,z2e hn,h1,h2,hE1,h3,w_len,↓ZA,ZB,simprocAttr]
     exact rq1 (by rw[hS,if_pos (.inr (.inr h3))])
    |true=>
     have k1' :¬((c.head.length:Int)≠r.rels[n].arity∨(4:Int)<c.body.length∨c.head.all few=false):=by
      rw[h3]
      simp only[h1,h2]
      simp
     rw[if_neg k1'] at hS
     cases h4:c.head.all nmd with
     |false=>
      simp (maxDischargeDepth:=60) only[e1,hlt,z2e hn,h1,h2,hE1,h3,hE2,h4,w_len,↓ZA,ZB,simprocAttr]
      exact rq1 (by rw[hS,if_pos h4])
     |true=>
      rw[if_neg (by rw[h4];simp)] at hS
      simp (maxDischargeDepth:=60) only[e1,hlt,z2e hn,h1,h2,hE1,h3,hE2,h4,w_len,↓ZA,ZB,simprocAttr]
      refine z0b (fun e0 s0 m env st=>∃(i nxi lwi:Nat) (si:Sto),m=c.body.length-i∧(i≤c.body.length)∧(∀a∈c.body.take i,z2r r c.head a=0)∧sget si (0)=some (.cells [.d (.sl (r.rels.map RelT.d)),.d (.sl (r.clauses.map ClauseT.d))])∧sget si (1)=some (.cells [.d (.str c.rel),.d (.sl (c.head.map PatT.d)),.d (.sl (c.body.map PatT.d))])∧2≤nxi∧0≤lwi∧env.length=84∧env.getD 53 .undef= .d (.int .i64 i)∧env.getD 2 .undef= .ptr 0 0∧env.getD 3 .undef= .ptr 1 0∧env.getD 5 .undef= .fn 33 [.d (.agg [.sl (r.rels.map RelT.d),.sl (r.clauses.map ClauseT.d)])] []∧env.getD 51 .undef= .d (.sl (c.body.map PatT.d))∧env.getD 52 .undef= .d (.int .i64 c.body.length)∧st= {s:=si,next:=nxi,low:=lwi}) ?_ (c.body.length) (by refine⟨0,_,_,_,rfl,ω,by simp,?_,?_,ω,Nat.zero_le _,?_,?_,?_,?_,?_,?_,?_,rfl⟩<;>simp (maxDischargeDepth:=60) only[w_len,ZB,simprocAttr])
      rintro m env st ⟨i,nxi,lwi,si,hm,b_0,b_1,w_bc0,w_bc1,w_bb,w_blo,w_len,w_53,w_2,w_3,w_5,w_51,w_52,rfl⟩
      have w_bN:=aI (cf1 (x:=nxi) (a:=0) ω) (cf1 (x:=nxi) (a:=1) ω)
      have w_bS:=aI (cf2 (x:=nxi) ω w_bc0) (cf2 (x:=nxi) ω w_bc1)
      have w_bZ:=zf0 (x:=nxi) (n:=2) ω
      by_cases hi:i<c.body.length
      ·have hal:=hc.2.2.2 _ (List.getElem_mem hi)
       have hall:=hal.2.1
       unfold LOk at hall
       rcases z8m (p:=isR c.body[i].name) (l:=r.rels) with⟨f1,f2⟩|⟨m,hm',f1,f2⟩
       ·have hA:z2r r c.head c.body[i]=1:=by rw[z2r,f2]
        have hlt: (-1:Int)<0:=ω
        simp (maxDischargeDepth:=60) only[hi,z3r hi,hN,z2i,f1,hlt,w_len,w_53,w_3,w_5,w_51,w_52,↓ZA,ZB,simprocAttr]
        exact rq1 (by rw[hS,z34 hi b_1 (by rw[hA];omega),hA])
       ·have hA:z2r r c.head c.body[i]=if (c.body[i].vars.length:Int)≠r.rels[m].arity then 2 else if c.body[i].vars.all (z5a c.head)=false then 6 else 0:=by rw[z2r,f2]
        have hlt:¬(m:Int)<0:=ω
        by_cases h7: (c.body[i].vars.length:Int)=r.rels[m].arity
        ·have hE3:∀s nx lw,sget s 1=some (.cells [.d (.str c.rel),.d (.sl (c.head.map PatT.d)),.d (.sl (c.body.map PatT.d))])→1<nx→z06 G (.fn 84 [] []) [.d (.sl (c.body[i].vars.map D.str)),.fn 86 [] [.ptr 1 0]] {s:=s,next:=nx,low:=lw} =some (.d (.bool (c.body[i].vars.all (z5a c.head))),{s:=s,next:=nx,low:=lw}):=fun s nx lw h1 h2=>
          z4k (enc:=D.str) (p:=z5a c.head) (es:=1) (ag:=false) T1.g84 T1.g109 T1.g135 (.inr T1.g110) rfl rfl ω (fun a _=> .inr ⟨rfl,rfl,rfl⟩) (zqr hc.2.1 h2 h1)
         rw[if_neg (not_not_intro h7)] at hA
         have h12:∀a,1<nxi+ (a+2):=fun a=>ω
         cases h8:c.body[i].vars.all (z5a c.head) with
         |false=>
          rw[if_pos h8] at hA
          simp (maxDischargeDepth:=60) only[hi,z3r hi,z2e hm',hN,z2i,f1,hlt,h7,hE3,h8,w_len,w_53,w_2,w_3,w_5,w_51,w_52,w_bc0,w_bc1,w_bS,↓ZA,ZB,simprocAttr]
          exact rq1 (by rw[hS,z34 hi b_1 (by rw[hA];omega),hA])
         |true=>
          rw[if_neg (by rw[h8];simp)] at hA
          simp (maxDischargeDepth:=60) only[hi,z3r hi,z2e hm',hN,z2i,f1,hlt,h7,hE3,h8,z07 hi ω,w_len,w_53,w_2,w_3,w_5,w_51,w_52,w_bc0,w_bc1,w_bS,↓ZA,ZB,simprocAttr]
          exact z09 (by refine⟨_,ω,i+1,_,_,_,rfl,ω,zba hi b_1 hA,?_,?_,ω,Nat.zero_le _,?_,?_,?_,?_,?_,?_,?_,rfl⟩<;>simp (maxDischargeDepth:=60) only[w_len,w_2,w_3,w_5,w_51,w_52,w_bc0,w_bc1,ZB,simprocAttr])
        ·rw[if_pos h7] at hA
         simp (maxDischargeDepth:=60) only[hi,z3r hi,z2e hm',hN,z2i,f1,hlt,h7,w_len,w_53,w_2,w_3,w_5,w_51,w_52,w_bc0,↓ZA,ZB,simprocAttr]
         exact rq1 (by rw[hS,z34 hi b_1 (by rw[hA];omega),hA])
      ·simp (maxDischargeDepth:=60) only[hi,w_len,w_53,w_52,↓ZA,ZB,simprocAttr]
       exact rq1 (by rw[hS,z17 (zb9 hi b_1)])
  ·simp (maxDischargeDepth:=60) only[e1,hlt,z2e hn,h1,w_len,↓ZA,ZB,simprocAttr]
   exact rq1 (by rw[hS,if_pos (.inl h1)])
def zbo  (hr:r.ok) (st:St):z06 G (.fn 32 [] []) [.d r.d] st=some (.d (.int .i64 (z0l r)),st):=by
 have hrl:=hr.1.1
 have hcl:=hr.2.1
 unfold LOk at hrl hcl
 have hA:∀{i:Nat} (hi:i<r.rels.length) (st:St),z06 G (.fn 55 [] []) [.d (.agg [.sl (r.rels.map RelT.d),.sl (r.clauses.map ClauseT.d)]),.d (.int .i64 i)] st=_:=fun hi st=>y2s hr hi st
 have hB:∀{i:Nat} (hi:i<r.clauses.length) (st:St),z06 G (.fn 56 [] []) [.d (.agg [.sl (r.rels.map RelT.d),.sl (r.clauses.map ClauseT.d)]),.d (.agg [.str r.clauses[i].rel,.sl (r.clauses[i].head.map PatT.d),.sl (r.clauses[i].body.map PatT.d)])] st=_:=fun hi st=>zoq hr (hr.2.2 _ (List.getElem_mem hi)) st
 refine z19 (ds:= [r.d]) (rs:= [.int .i64 (z0l r)]) T1.g32 rfl rfl (fun e w_len harg=> ?_) st
 have w_len:e.length=53:=w_len
 have w_0:=harg 0 ψ
 clear harg
 simp only[List.map_cons,List.map_nil,List.getD_cons_zero] at w_0
 by_cases h1: (r.rels.length:Int)<1
 ·simp only[T1.i32,RulesT.d,h1,w_len,w_0,↓ZA,ZB,simprocAttr]
  exact rq1 (by rw[z0l,if_pos (.inl (.inl h1))])
 by_cases h2: (8:Int)<r.rels.length
 ·simp only[T1.i32,RulesT.d,h1,h2,w_len,w_0,↓ZA,ZB,simprocAttr]
  exact rq1 (by rw[z0l,if_pos (.inl (.inr h2))])
 by_cases h3: (24:Int)<r.clauses.length
 ·simp only[T1.i32,RulesT.d,h1,h2,h3,w_len,w_0,↓ZA,ZB,simprocAttr]
  exact rq1 (by rw[z0l,if_pos (.inr h3)])
 have hS:z0l r=_:=if_neg (fun h=>h.elim (fun h=>h.elim h1 h2) h3)
 simp only[T1.i32,RulesT.d,h1,h2,h3,w_len,w_0,↓ZA,ZB,simprocAttr]
 refine z0b (fun e0 s0 m env st=>∃(i nxi:Nat),m=r.rels.length-i∧(i≤r.rels.length)∧(∀j,j<i→z18 r j (r.rels.getD j ⟨[],0,0⟩)=0)∧env.length=53∧env.getD 27 .undef= .d (.int .i64 i)∧env.getD 1 .undef= .ptr 0 0∧env.getD 26 .undef= .d (.int .i64 r.rels.length)∧st= {s:=s0.s,next:=nxi,low:=s0.low}) ?_ (r.rels.length) (by refine⟨0,_,rfl,ω,ω,?_,?_,?_,?_,rfl⟩<;>simp (maxDischargeDepth:=60) only[w_len,ZB,simprocAttr])
 rintro m env st ⟨i,nxi,hm,a_0,a_1,w_len,w_27,w_1,w_26,rfl⟩
 by_cases hi:i<r.rels.length
 ·simp only[hi,hA hi,w_len,w_27,w_1,w_26,↓ZA,ZB,simprocAttr]
  by_cases he:z18 r i r.rels[i]=0
  ·simp only[he,z07 hi ω,w_len,w_27,↓ZA,ZB,simprocAttr]
   exact z09 (by refine⟨_,ω,i+1,_,rfl,ω,y3f a_1 (by rw[zkd hi];exact he),?_,?_,?_,?_,rfl⟩<;>simp only[w_len,w_1,w_26,ZB,simprocAttr])
  ·have he' :z18 r i (r.rels.getD i ⟨[],0,0⟩)≠0:=by rw[zkd hi];exact he
   have hf:=zud (f:=fun i=>z18 r i (r.rels.getD i ⟨[],0,0⟩)) hi a_1 he'
   simp only[he,w_len,↓ZA,ZB,simprocAttr]
   exact rq1 (by rw[hS,hf,if_pos he',zkd hi])
 ·have hf:=z7x (f:=fun i=>z18 r i (r.rels.getD i ⟨[],0,0⟩)) (n:=r.rels.length) fun j hj=>a_1 j ω
  rw[hf,if_neg (not_not_intro rfl)] at hS
  simp only[hi,w_len,w_27,w_1,w_26,↓ZA,ZB,simprocAttr]
  refine z0b (fun e0 s0 m env st=>∃(j nxj lwj:Nat) (sj:Sto),m=r.clauses.length-j∧(j≤r.clauses.length)∧(∀c∈r.clauses.take j,z0y r c=0)∧sget sj (0)=some (.cells [.d (.sl (r.rels.map RelT.d)),.d (.sl (r.clauses.map ClauseT.d))])∧1≤nxj∧0≤lwj∧env.length=53∧env.getD 41 .undef= .d (.int .i64 j)∧env.getD 1 .undef= .ptr 0 0∧env.getD 39 .undef= .d (.sl (r.clauses.map ClauseT.d))∧env.getD 40 .undef= .d (.int .i64 r.clauses.length)∧st= {s:=sj,next:=nxj,low:=lwj}) ?_ (r.clauses.length) (by refine⟨0,_,_,_,rfl,ω,by simp,?_,ω,Nat.zero_le _,?_,?_,?_,?_,?_,rfl⟩<;>simp only[w_len,w_1,ZB,simprocAttr])
  rintro m env st ⟨j,nxj,lwj,sj,hm,b_0,b_1,w_bc0,w_bb,w_blo,w_len,w_41,w_1,w_39,w_40,rfl⟩
  have w_bN:=cf1 (x:=nxj) (a:=0) ω
  have w_bS:=cf2 (x:=nxj) ω w_bc0
  have w_bZ:=zf0 (x:=nxj) (n:=1) ω
  by_cases hj:j<r.clauses.length
  ·simp only[hj,z6j hj,hB hj,w_len,w_41,w_1,w_39,w_40,w_bc0,↓ZA,ZB,simprocAttr]
   by_cases he:z0y r r.clauses[j]=0
   ·simp only[he,z07 hj ω,w_len,w_41,↓ZA,ZB,simprocAttr]
    exact z09 (by refine⟨_,ω,j+1,_,_,_,rfl,ω,zba hj b_1 he,?_,ω,Nat.zero_le _,?_,?_,?_,?_,?_,rfl⟩<;>simp only[w_len,w_1,w_39,w_40,w_bc0,ZB,simprocAttr])
   ·simp only[he,w_len,↓ZA,ZB,simprocAttr]
    exact rq1 (by rw[hS,z34 hj b_1 he])
  ·simp only[hj,w_len,w_41,w_40,↓ZA,ZB,simprocAttr]
   exact rq1 (by rw[hS,z17 (zb9 hj b_1)])
def evTN {l:Lk} {p:NodeT→Bool}   {nx lw:Nat} (hl:l.length≤9223372036854775807) (hc:fv.isCell=true) (hv:cellsV fv= [fv]) (h:TellsT G fv s nx NodeT.d (· ∈l) p):
  z06 G (.fn 121 [] []) [.d (.sl (l.map NodeT.d)),fv] {s:=s,next:=nx,low:=lw} =some (.d (.bool (l.all p)),{s:=s,next:=nx,low:=lw}):=
 z4k (es:=2) (ag:=true) T1.g121 T1.g140 T1.g148 (.inl T1.g141) hc hv hl (fun a _=>z62) h
def evTI {l:Li} {p:Int→Bool}   {nx lw:Nat} (hl:l.length≤9223372036854775807) (hc:fv.isCell=true) (hv:cellsV fv= [fv]) (h:TellsT G fv s nx (D.int .i64) (· ∈l) p):
  z06 G (.fn 126 [] []) [.d (.sl (l.map (D.int .i64))),fv] {s:=s,next:=nx,low:=lw} =some (.d (.bool (l.all p)),{s:=s,next:=nx,low:=lw}):=
 z4k (es:=1) (ag:=false) T1.g126 T1.g142 T1.g149 (.inr T1.g143) hc hv hl (fun a _=>z63) h
def fewK (x:NodeT):Bool:=decide (x.kids.length≤4)
def zqk  (hx:x.ok) (st:St):z06 G (.fn 122 [] []) [.d x.d] st=some (.d (.bool (fewK x)),st):=by
 have hl:=hx.2.1
 unfold LOk at hl
 refine z19 (ds:= [x.d]) (rs:= [.bool (fewK x)]) T1.g122 rfl rfl (fun e w_len harg=> ?_) st
 have w_len:e.length=7:=w_len
 have w_0:=harg 0 ψ
 clear harg
 simp only[List.map_cons,List.map_nil,List.getD_cons_zero] at w_0
 simp only[T1.i122,NodeT.d,w_len,w_0,↓ZA,ZB,simprocAttr]
 exact rq1 (by simp[fewK];omega)
def zqj  (hx:x.ok) (st:St):z06 G (.fn 123 [] []) [.d x.d] st=some (.d (.bool (z0z x.name)),st):=by
 have hM:=fun st=>zow hx.1 st
 refine z19 (ds:= [x.d]) (rs:= [.bool (z0z x.name)]) T1.g123 rfl rfl (fun e w_len harg=> ?_) st
 have w_len:e.length=6:=w_len
 have w_0:=harg 0 ψ
 clear harg
 simp only[List.map_cons,List.map_nil,List.getD_cons_zero] at w_0
 simp only[T1.i123,NodeT.d,hM,w_len,w_0,↓ZA,ZB,simprocAttr]
 exact rq1 (by rfl)
def zh0  {dom:Int→Prop}   (hk:k<n0) (ho:sget s k=some (.cells [.d (.sl (t.nodes.map NodeT.d)),.d (.int .i64 t.root)])):TellsT G (.fn 120 [] [.ptr k 0]) s n0 (D.int .i64) dom (inR t.nodes.length):=by
 intro x _ s' nx lw hs hn
 have ho' :sget s' k=_:= (hs k hk).trans ho
 refine z5b (first:= []) (args:= [.d (.int .i64 x)]) (cap:= [.ptr k 0]) (us:= [.d (.bool (inR t.nodes.length x))]) T1.g120 rfl rfl rfl (fun e w_len harg=> ?_)
 have w_len:e.length=13:=w_len
 have w_0:e.getD 0 .undef= .d (.int .i64 x):=harg 0 ψ
 have w_1:e.getD 1 .undef= .ptr k 0:=harg 1 ψ
 clear harg
 by_cases h1:0≤x
 ·simp only[T1.i120,ho',h1,w_len,w_0,w_1,↓ZA,ZB,simprocAttr]
  exact ru1 (by first|exact Nat.le_refl _|exact z02 (Nat.le_refl _) ω|exact z02 (z02 (Nat.le_refl _) ω) ω) (by simp[inR,h1])
 ·simp only[T1.i120,h1,w_len,w_0,↓ZA,ZB,simprocAttr]
  exact ru1 (by first|exact Nat.le_refl _|exact z02 (Nat.le_refl _) ω|exact z02 (z02 (Nat.le_refl _) ω) ω) (by simp[inR,h1])
def zqi  {l:Lk} (hl:∀x∈l,x.ok)  {j:Nat} (hk:k<n0) (hj:j<n0) (ho:sget s k=some (.cells [.d (.sl (t.nodes.map NodeT.d)),.d (.int .i64 t.root)])) (hf:sget s j=some (.cells [.fn 120 [] [.ptr k 0]])):
  TellsT G (.fn 125 [] [.ptr j 0]) s n0 NodeT.d (· ∈l) (fun x=>x.kids.all (inR t.nodes.length)):=by
 intro x hx s' nx lw hs hn
 have hkl:= (hl x hx).2.1
 unfold LOk at hkl
 have hne: (nx=j)=False:=by simp;omega
 have ho' :sget s' k=_:= (hs k hk).trans ho
 have hf' :sget s' j=_:= (hs j hj).trans hf
 have hnk: (nx=k)=False:=by simp;omega
 have hkx:k<nx:=ω
 have hC:∀s nx lw,sget s k=some (.cells [.d (.sl (t.nodes.map NodeT.d)),.d (.int .i64 t.root)])→k<nx→z06 G (.fn 126 [] []) [.d (.sl (x.kids.map (D.int .i64))),.fn 120 [] [.ptr k 0]] {s:=s,next:=nx,low:=lw} =some (.d (.bool (x.kids.all (inR t.nodes.length))),{s:=s,next:=nx,low:=lw}):=fun s nx lw h1 h2=>
  evTI ω rfl rfl (zh0 h2 h1)
 refine z5b (first:= []) (args:= [.d x.d]) (cap:= [.ptr j 0]) (us:= [.d (.bool (x.kids.all (inR t.nodes.length)))]) T1.g125 rfl rfl rfl (fun e w_len harg=> ?_)
 have w_len:e.length=8:=w_len
 have w_0:e.getD 0 .undef= .d x.d:=harg 0 ψ
 have w_1:e.getD 1 .undef= .ptr j 0:=harg 1 ψ
 clear harg
 simp (maxDischargeDepth:=60) only[T1.i125,NodeT.d,hne,hnk,ho',hf',hkx,hC,w_len,w_0,w_1,↓ZA,ZB,simprocAttr]
 exact ru1 (by first|exact Nat.le_refl _|exact z02 (Nat.le_refl _) ω|exact z02 (z02 (Nat.le_refl _) ω) ω) rfl
def zfd  (ht:t.ok) (st:St):z06 G (.fn 95 [] []) [.d t.d] st=some (.d (.int .i64 (z0f t)),st):=by
 have hl:=ht.1.1
 unfold LOk at hl
 have hE1:∀st,z06 G (.fn 121 [] []) [.d (.sl (t.nodes.map NodeT.d)),.fn 122 [] []] st=some (.d (.bool (t.nodes.all fewK)),st):=fun st=>
  evTN ω rfl rfl (z4e fun a ha st=>zqk (ht.1.2 a ha) st)
 have hE2:∀st,z06 G (.fn 121 [] []) [.d (.sl (t.nodes.map NodeT.d)),.fn 123 [] []] st=some (.d (.bool (t.nodes.all fun x=>z0z x.name)),st):=fun st=>
  evTN ω rfl rfl (z4e fun a ha st=>zqj (ht.1.2 a ha) st)
 have hE3:∀s nx lw,sget s 0=some (.cells [.d (.sl (t.nodes.map NodeT.d)),.d (.int .i64 t.root)])→sget s 3=some (.cells [.fn 120 [] [.ptr 0 0]])→3<nx→z06 G (.fn 121 [] []) [.d (.sl (t.nodes.map NodeT.d)),.fn 125 [] [.ptr 3 0]] {s:=s,next:=nx,low:=lw} =some (.d (.bool (t.nodes.all fun x=>x.kids.all (inR t.nodes.length))),{s:=s,next:=nx,low:=lw}):=fun s nx lw h1 h2 h3=>
  evTN ω rfl rfl (zqi ht.1.2 ω h3 h1 h2)
 have hC1:∀s nx lw,sget s 0=some (.cells [.d (.sl (t.nodes.map NodeT.d)),.d (.int .i64 t.root)])→0<nx→z06 G (.fn 120 [] [.ptr 0 0]) [.d (.int .i64 t.root)] {s:=s,next:=nx,low:=lw} =some (.d (.bool (inR t.nodes.length t.root)),{s:=s,next:=nx,low:=lw}):=fun s nx lw h1 h2=>
  zh0 (dom:=fun _=>True) h2 h1 _ trivial s nx lw (Sub.refl _ _) (Nat.le_refl _)
 refine z19 (ds:= [t.d]) (rs:= [.int .i64 (z0f t)]) T1.g95 rfl rfl (fun e w_len harg=> ?_) st
 have w_len:e.length=40:=w_len
 have w_0:=harg 0 ψ
 clear harg
 simp only[List.map_cons,List.map_nil,List.getD_cons_zero] at w_0
 by_cases h1: (t.nodes.length:Int)<1
 ·simp only[T1.i95,TreeT.d,h1,w_len,w_0,↓ZA,ZB,simprocAttr]
  exact rq1 (by rw[z0f,if_pos (.inl (.inl h1))])
 by_cases h2: (60:Int)<t.nodes.length
 ·simp only[T1.i95,TreeT.d,h1,h2,w_len,w_0,↓ZA,ZB,simprocAttr]
  exact rq1 (by rw[z0f,if_pos (.inl (.inr h2))])
 cases h3:t.nodes.all fewK with
 |false=>
  simp only[T1.i95,TreeT.d,h1,h2,hE1,h3,w_len,w_0,↓ZA,ZB,simprocAttr]
  exact rq1 (by rw[z0f,if_pos (.inr h3)])
 |true=>
  have k1:¬(((t.nodes.length:Int)<1∨(60:Int)<t.nodes.length)∨t.nodes.all (fun x=>decide (x.kids.length≤4))=false):=fun h=>h.elim (fun h=>h.elim h1 h2) (by have:=h3;unfold fewK at this;rw[this];simp)
  cases h4:t.nodes.all fun x=>z0z x.name with
  |false=>
   simp only[T1.i95,TreeT.d,h1,h2,hE1,h3,hE2,h4,w_len,w_0,↓ZA,ZB,simprocAttr]
   exact rq1 (by rw[z0f,if_neg k1,if_pos h4])
  |true=>
   have k2:¬(t.nodes.all fun x=>z0z x.name)=false:=by rw[h4];simp
   cases h5:inR t.nodes.length t.root with
   |false=>
    simp only[T1.i95,TreeT.d,h1,h2,hE1,h3,hE2,h4,hC1,h5,w_len,w_0,↓ZA,ZB,simprocAttr]
    exact rq1 (by rw[z0f,if_neg k1,if_neg k2,if_pos (.inl h5)])
   |true=>
    cases h6:t.nodes.all fun x=>x.kids.all (inR t.nodes.length) with
    |false=>
     simp only[T1.i95,TreeT.d,h1,h2,hE1,h3,hE2,h4,hC1,h5,hE3,h6,w_len,w_0,↓ZA,ZB,simprocAttr]
     exact rq1 (by rw[z0f,if_neg k1,if_neg k2,if_pos (.inr h6)])
    |true=>
     simp only[T1.i95,TreeT.d,h1,h2,hE1,h3,hE2,h4,hC1,h5,hE3,h6,w_len,w_0,↓ZA,ZB,simprocAttr]
     exact rq1 (by rw[z0f,if_neg k1,if_neg k2,if_neg (by rw[h5,h6];simp)])
def zxb  (hr:r.ok) {g:GoalT} (hg:g.ok) (st:St):z06 G (.fn 70 [] []) [.d r.d,.d g.d] st=some (.d (.int .i64 (z0q r g)),st):=by
 have hgl:=hg.2.1
 unfold LOk at hgl
 have hC:∀(st:St),z06 G (.fn 32 [] []) [.d (.agg [.sl (r.rels.map RelT.d),.sl (r.clauses.map ClauseT.d)])] st=_:=fun st=>zbo hr st
 have hR:∀(n:Ln) (st:St),z06 G (.fn 33 [] []) [.d (.agg [.sl (r.rels.map RelT.d),.sl (r.clauses.map ClauseT.d)]),.d (.str n)] st=_:=fun n st=>z6g hr.1.1 st
 have hT:∀{i:Nat} (hi:i<g.args.length) (st:St),z06 G (.fn 95 [] []) [.d (.agg [.sl (g.args[i].nodes.map NodeT.d),.int .i64 g.args[i].root])] st=_:=fun hi st=>zfd (hg.2.2 _ (List.getElem_mem hi)) st
 refine z19 (ds:= [r.d,g.d]) (rs:= [.int .i64 (z0q r g)]) T1.g70 rfl rfl (fun e w_len harg=> ?_) st
 have w_len:e.length=47:=w_len
 have w_0:=harg 0 ψ
 have w_1:=harg 1 ψ
 clear harg
 simp only[List.map_cons,List.map_nil,List.getD_cons_zero,List.getD_cons_succ] at w_0 w_1
 by_cases h1:z0l r=0
 ·have hS:z0q r g=_:=if_neg (not_not_intro h1)
  rcases z8m (p:=isR g.rel) (l:=r.rels) with⟨e1,e2⟩|⟨n,hn,e1,e2⟩
  ·have hlt: (-1:Int)<0:=ω
   simp only[T1.i70,RulesT.d,GoalT.d,hC,hR,z2i,h1,e1,hlt,w_len,w_0,w_1,↓ZA,ZB,simprocAttr]
   exact rq1 (by rw[hS,e2])
  ·have hlt:¬(n:Int)<0:=ω
   simp only[e2] at hS
   by_cases h2: (g.args.length:Int)=r.rels[n].arity
   ·rw[if_neg (not_not_intro h2)] at hS
    have h2d:=h2.symm
    simp only[T1.i70,RulesT.d,GoalT.d,hC,hR,z2i,h1,e1,hlt,z2e hn,h2d,w_len,w_0,w_1,↓ZA,ZB,simprocAttr]
    refine z0b (fun e0 s0 m env st=>∃(i nxi lwi:Nat) (si:Sto),m=g.args.length-i∧(i≤g.args.length)∧(∀x∈g.args.take i,z0f x=0)∧0≤nxi∧0≤lwi∧env.length=47∧env.getD 37 .undef= .d (.int .i64 i)∧env.getD 35 .undef= .d (.sl (g.args.map TreeT.d))∧env.getD 36 .undef= .d (.int .i64 g.args.length)∧st= {s:=si,next:=nxi,low:=lwi}) ?_ (g.args.length) (by refine⟨0,_,_,_,rfl,ω,by simp,ω,Nat.zero_le _,?_,?_,?_,?_,rfl⟩<;>simp (maxDischargeDepth:=60) only[w_len,ZB,simprocAttr])
    rintro m env st ⟨i,nxi,lwi,si,hm,a_0,a_1,w_ab,w_alo,w_len,w_37,w_35,w_36,rfl⟩
    by_cases hi:i<g.args.length
    ·simp only[hi,z5j hi,hT hi,w_len,w_37,w_35,w_36,↓ZA,ZB,simprocAttr]
     by_cases he:z0f g.args[i]=0
     ·simp only[he,z07 hi ω,w_len,w_37,↓ZA,ZB,simprocAttr]
      exact z09 (by refine⟨_,ω,i+1,_,_,_,rfl,ω,zba hi a_1 he,ω,Nat.zero_le _,?_,?_,?_,?_,rfl⟩<;>simp only[w_len,w_35,w_36,ZB,simprocAttr])
     ·simp only[he,w_len,↓ZA,ZB,simprocAttr]
      exact rq1 (by rw[hS,z34 hi a_1 he])
    ·simp only[hi,w_len,w_37,w_36,↓ZA,ZB,simprocAttr]
     exact rq1 (by rw[hS,z17 (zb9 hi a_1)])
   ·rw[if_pos h2] at hS
    simp only[T1.i70,RulesT.d,GoalT.d,hC,hR,z2i,h1,e1,hlt,z2e hn,h2,w_len,w_0,w_1,↓ZA,ZB,simprocAttr]
    exact rq1 (by rw[hS])
 ·have hS:z0q r g=_:=if_pos h1
  simp only[T1.i70,RulesT.d,GoalT.d,hC,h1,w_len,w_0,w_1,↓ZA,ZB,simprocAttr]
  exact rq1 (by rw[hS])
def z8b {x:Ln} (h:z0z x=true):x.length≤8:=by
 simp[z0z] at h
 omega
theorem zo1:∀{l m:List D},all2 D.beq l m=D.beqL l m
 | [],[]=>rfl
 | [],_::_=>rfl
 |_::_,[]=>rfl
 |x::l,y::m=>by simp only[all2,D.beqL,zo1]
def zut {f es:Nat} {ag:Bool} {z:Lv} (hG:G f=some (zpg es ag z)) (hz:z.length=es) {α:Type} {enc:α→D}  {l m:List α} (hl:LOk l) (he:∀a,Elt es ag (enc a))
  (hf:∀a∈l,∀b∈m,∀st,z06 G fv [.d (enc a),.d (enc b)] st=some (.d (.bool (D.beq (enc a) (enc b))),st)) (st:St):
  z06 G (.fn f [] []) [.d (.sl (l.map enc)),.d (.sl (m.map enc)),fv] st=some (.d (.bool (D.beqL (l.map enc) (m.map enc))),st):=by
 unfold LOk at hl
 rw[←zo1]
 exact y7m hG hz (by simpa using hl) (fun x hx=>by obtain⟨a,_,rfl⟩:=List.mem_map.1 hx;exact he a) (fun x hx=>by obtain⟨a,_,rfl⟩:=List.mem_map.1 hx;exact he a) (fun x y ⟨hx,hy⟩ s' nx lw _ _=>by
  obtain⟨a,ha,rfl⟩:=List.mem_map.1 hx
  obtain⟨b,hb,rfl⟩:=List.mem_map.1 hy
  exact hf a ha b hb _)
def y33 {x y:Int} :binV .neq (.d (.int .i64 x)) (.d (.int .i64 y))=some (.d (.bool (!D.beq (.int .i64 x) (.int .i64 y)))):=by rw[zgk];simp[D.beq]
theorem zz5 {l m:Li} (hl:LOk l) (st:St):z06 G (.fn 41 [] []) [.d (.sl (l.map (D.int .i64))),.d (.sl (m.map (D.int .i64)))] st=some (.d (.bool (D.beqL (l.map (D.int .i64)) (m.map (D.int .i64)))),st):=
 y9a T1.g41 (by unfold LOk at hl;simpa using hl) (fun x hx=>by obtain⟨a,_,rfl⟩:=List.mem_map.1 hx;exact z63) (fun x hx=>by obtain⟨a,_,rfl⟩:=List.mem_map.1 hx;exact z63) (fun x hx y hy=>by
  obtain⟨a,_,rfl⟩:=List.mem_map.1 hx
  obtain⟨b,_,rfl⟩:=List.mem_map.1 hy
  exact y33) st
def zjh {y:NodeT} (hx:x.ok) (st:St):z06 G (.fn 54 [] []) [.d x.d,.d y.d] st=some (.d (.bool (D.beq x.d y.d)),st):=by
 have hC:=fun st=>zz5 (m:=y.kids) hx.2.1 st
 refine z19 (ds:= [x.d,y.d]) (rs:= [.bool (D.beq x.d y.d)]) T1.g54 rfl rfl (fun e w_len harg=> ?_) st
 have w_len:e.length=17:=w_len
 have w_0:=harg 0 ψ
 have w_1:=harg 1 ψ
 clear harg
 simp only[List.map_cons,List.map_nil,List.getD_cons_zero,List.getD_cons_succ] at w_0 w_1
 by_cases h1:x.name=y.name
 ·simp only[T1.i54,NodeT.d,h1,hC,w_len,w_0,w_1,↓ZA,ZB,simprocAttr]
  exact rq1 (by simp[D.beq,D.beqL])
 ·simp only[T1.i54,NodeT.d,h1,w_len,w_0,w_1,↓ZA,ZB,simprocAttr]
  exact rq1 (by simp[D.beq,D.beqL,h1])
def zjg {x y:TreeT} (hx:x.ok) (st:St):z06 G (.fn 31 [] []) [.d x.d,.d y.d] st=some (.d (.bool (D.beq x.d y.d)),st):=by
 have hC:=fun st=>zut (l:=x.nodes) (m:=y.nodes) T1.g53 rfl hx.1.1 (fun a=>z62) (fun a ha b _ st=>zjh (hx.1.2 a ha) st) st
 refine z19 (ds:= [x.d,y.d]) (rs:= [.bool (D.beq x.d y.d)]) T1.g31 rfl rfl (fun e w_len harg=> ?_) st
 have w_len:e.length=17:=w_len
 have w_0:=harg 0 ψ
 have w_1:=harg 1 ψ
 clear harg
 simp only[List.map_cons,List.map_nil,List.getD_cons_zero,List.getD_cons_succ] at w_0 w_1
 by_cases h1:x.root=y.root
 ·simp only[T1.i31,TreeT.d,h1,hC,w_len,w_0,w_1,↓ZA,ZB,simprocAttr]
  exact rq1 (by simp[D.beq,D.beqL])
 ·simp only[T1.i31,TreeT.d,h1,w_len,w_0,w_1,↓ZA,ZB,simprocAttr]
  exact rq1 (by simp[D.beq,D.beqL,h1])
def zji {x y:GoalT} (hx:x.ok) (st:St):z06 G (.fn 30 [] []) [.d x.d,.d y.d] st=some (.d (.bool (D.beq x.d y.d)),st):=by
 have hC:=fun st=>zut (l:=x.args) (m:=y.args) T1.g26 rfl hx.2.1 (fun a=>z1t) (fun a ha b _ st=>zjg (hx.2.2 a ha) st) st
 refine z19 (ds:= [x.d,y.d]) (rs:= [.bool (D.beq x.d y.d)]) T1.g30 rfl rfl (fun e w_len harg=> ?_) st
 have w_len:e.length=17:=w_len
 have w_0:=harg 0 ψ
 have w_1:=harg 1 ψ
 clear harg
 simp only[List.map_cons,List.map_nil,List.getD_cons_zero,List.getD_cons_succ] at w_0 w_1
 by_cases h1:x.rel=y.rel
 ·simp only[T1.i30,GoalT.d,h1,hC,w_len,w_0,w_1,↓ZA,ZB,simprocAttr]
  exact rq1 (by simp[D.beq,D.beqL])
 ·simp only[T1.i30,GoalT.d,h1,w_len,w_0,w_1,↓ZA,ZB,simprocAttr]
  exact rq1 (by simp[D.beq,D.beqL,h1])
def zh5 {x y:Lh} (hl:LOk x) (hx:∀g∈x,g.ok) (st:St):z06 G (.fn 11 [] []) [.d (.sl (x.map GoalT.d)),.d (.sl (y.map GoalT.d))] st=some (.d (.bool (D.beqL (x.map GoalT.d) (y.map GoalT.d))),st):=by
 have hC:=fun st=>zut (l:=x) (m:=y) T1.g29 rfl hl (fun a=>z8v) (fun a ha b _ st=>zji (hx a ha) st) st
 refine z19 (ds:= [.sl (x.map GoalT.d),.sl (y.map GoalT.d)]) (rs:= [.bool (D.beqL (x.map GoalT.d) (y.map GoalT.d))]) T1.g11 rfl rfl (fun e w_len harg=> ?_) st
 have w_len:e.length=8:=w_len
 have w_0:=harg 0 ψ
 have w_1:=harg 1 ψ
 clear harg
 simp only[List.map_cons,List.map_nil,List.getD_cons_zero,List.getD_cons_succ] at w_0 w_1
 simp only[T1.i11,hC,w_len,w_0,w_1,↓ZA,ZB,simprocAttr]
 exact rq1 (by rfl)
def z2m {α:Type} {l:List α} {i:Nat} (hi:i<l.length):l.take (i+1)=l.take i++ [l[i]]:=by
 rw[List.take_add_one,List.getElem?_eq_getElem hi]
 rfl
theorem z0c {α:Type} {enc:α→D} {l:List α} {es:Nat} {ag:Bool} (h:∀a,Elt es ag (enc a)):∀x∈l.map enc,Elt es ag x:=fun x hx=>by
 obtain⟨a,_,rfl⟩:=List.mem_map.1 hx
 exact h a
def zly (x:PatT):Prop:=x.vars.length≤1000000
def zbp (l:List PatT):Prop:=l.length≤1000000∧∀x∈l,zly x
def z43 (r:RulesT):Prop:=r.rels.length≤1000000∧r.clauses.length≤1000000∧∀c∈r.clauses,zbp c.head∧zbp c.body
def zcy  (hl:l.length≤1000000) (st:St):z06 G (.fn 61 [] []) [.d (.sl (l.map D.str))] st=some (.d (.sl (l.map D.str)),st):=by
 have he:∀x∈l.map D.str,Elt 1 false x:=fun x hx=>by obtain⟨a,_,rfl⟩:=List.mem_map.1 hx;exact zkh
 cases l with
 |nil=>
  refine y32 (rs:= [.sl []]) T1.g61 rfl rfl (fun v hv e w_len w_0=> ?_) st
  have w_len:e.length=8:=w_len
  rcases hv with rfl|rfl
  ·simp only[w_len,w_0,T1.i61,↓LA,LB,simprocAttr]
   exact rql1 rfl rfl
  ·have hA:∀s nx lw,sget s 3=some (.cells [])→z0v {s:=s,next:=nx,low:=lw} 5 1 false 16 (.arr 3 1 false 0 0) .emp=_:=fun s nx lw h=>zzx h rfl
   simp only[w_len,w_0,T1.i61,hA,↓LA,LB,simprocAttr]
   refine rql1 (x:= .sl []) ?_ rfl
   simp[snap,z0e,scells,sget,z4z]
 |cons a l=>
  have hA:∀s nx lw,sget s 3=some (.cells [])→z0v {s:=s,next:=nx,low:=lw} 5 1 false 16 (.arr 3 1 false 0 0) (.d (.sl ((a::l).map D.str)))=_:=fun s nx lw h=>zzy h he (by simp at hl⊢;omega) (by simp at hl⊢;omega)
  simp only[List.map_cons] at hA
  refine zx7 (ds:= [.sl ((a::l).map D.str)]) (rs:= [.sl ((a::l).map D.str)]) T1.g61 rfl rfl (fun e w_len harg=> ?_) st
  have w_len:e.length=8:=w_len
  have w_0:=harg 0 ψ
  clear harg
  simp only[List.map_cons,List.map_nil,List.getD_cons_zero] at w_0
  simp only[T1.i61,List.map_cons,hA,w_len,w_0,↓LA,LB,simprocAttr]
  have hc:=zkl (s:= [(5,.cells (((a::l).map D.str).flatMap cellsD|>.map V.d))]) (lo:=0) (hi:=6) (k:=5) (es:=1) (ag:=false) (l:= (a::l).map D.str) ω ω (by simp[sget]) ω he
  have hs:=CV.snap (b:=0) (m:=z0e) ω (by decide) hc
  simp only[List.map_cons,List.length_cons,List.length_map] at hs
  exact rql1 hs rfl
def z2y (l:List RulesT):List RelT:=l.flatMap RulesT.rels
def z1e (l:List RulesT):List ClauseT:=l.flatMap RulesT.clauses
def zj0 {l:List RulesT} {p:Nat} (hp:p<l.length):z2y (l.take (p+1))=z2y (l.take p)++l[p].rels:=by
 rw[z2m hp,z2y,List.flatMap_append]
 simp[z2y]
def zd9 {l:List RulesT} {p:Nat} (hp:p<l.length):z1e (l.take (p+1))=z1e (l.take p)++l[p].clauses:=by
 rw[z2m hp,z1e,List.flatMap_append]
 simp[z1e]
def zhd {s:Sto} {lv:Bool} {S:Nat→Prop} {n:Nat} :∀{l:List RelT},CVs (CQ s lv S n) (((l.map RelT.d).flatMap cellsD).map V.d) ((l.map RelT.d).flatMap cellsD)
 | []=>trivial
 |x::l=>⟨CQ.str,CQ.int,CQ.int,zhd (l:=l)⟩
def zxe {l:List RulesT} (hk:∀r∈l,z43 r∧0<r.rels.length) (hm:l.length≤2) (hlen1:∀p,(z2y (l.take p)).length≤2000000) (hlen2:∀p,(z1e (l.take p)).length≤2000000) (st:St):
  z06 G (.fn 36 [] []) [.d (.sl (l.map RulesT.d))] st=some (.d (RulesT.mk (z2y l) (z1e l)).d,st):=by
 refine z19 (ds:= [.sl (l.map RulesT.d)]) (rs:= [(RulesT.mk (z2y l) (z1e l)).d]) T1.g36 rfl rfl (fun e w_len harg=> ?_) st
 have w_len:e.length=90:=w_len
 have w_0:=harg 0 ψ
 clear harg
 simp only[List.map_cons,List.map_nil,List.getD_cons_zero] at w_0
 simp only[T1.i36,List.length_map,w_len,w_0,↓LA,LB,simprocAttr]
 refine z0b (fun e0 s0 m env st=>∃(p nxp lwp:Nat) (sp:Sto) (xr xc:V),m=l.length-p∧(p≤l.length)∧(GP sp false (fun q=>2≤q∧q<nxp∧¬away xr q) 0 3 true xr ((z2y (l.take p)).map RelT.d))∧(GP sp false (fun q=>2≤q∧q<nxp∧away xr q) 1 3 true xc ((z1e (l.take p)).map ClauseT.d))∧sget sp (0)=some (.cells [.nilS,.nilS])∧sget sp (1)=some (.cells [xr,xc])∧5≤nxp∧0≤lwp∧env.length=90∧env.getD 16 .undef= .d (.int .i64 p)∧env.getD 2 .undef= .ptr 0 0∧env.getD 3 .undef= .ptr 1 0∧env.getD 14 .undef= .d (.sl (l.map RulesT.d))∧env.getD 15 .undef= .d (.int .i64 l.length)∧st= {s:=sp,next:=nxp,low:=lwp}) ?_ (l.length) (by refine⟨0,_,_,_,.nilS,.nilS,rfl,ω,GP.nil,GP.nil,?_,?_,ω,Nat.zero_le _,?_,?_,?_,?_,?_,?_,rfl⟩<;>simp (maxDischargeDepth:=60) only[w_len,LB,simprocAttr])
 rintro m env st ⟨p,nxp,lwp,sp,xr,xc,hm,p_0,p_1,p_2,w_pc0,w_pc1,w_pb,w_plo,w_len,w_16,w_2,w_3,w_14,w_15,rfl⟩
 have w_pN:=aI (cf1 (x:=nxp) (a:=0) ω) (cf1 (x:=nxp) (a:=1) ω)
 have w_pS:=aI (cf2 (x:=nxp) ω w_pc0) (cf2 (x:=nxp) ω w_pc1)
 have w_pZ:=zf0 (x:=nxp) (n:=5) ω
 have w_p_1V:=aI (p_1.away (j:=0) ω) (aI (p_1.away (j:=1) ω) (aI (p_1.away (j:=nxp+3) ω) (p_1.away (j:=nxp+8) ω)))
 have w_p_1c:=p_1.cell.1
 have w_p_1d:=p_1.cell.2
 have w_p_1e:=p_1.beq
 have w_p_2V:=aI (p_2.away (j:=0) ω) (aI (p_2.away (j:=1) ω) (aI (p_2.away (j:=nxp+3) ω) (p_2.away (j:=nxp+8) ω)))
 have w_p_2c:=p_2.cell.1
 have w_p_2d:=p_2.cell.2
 have w_p_2e:=p_2.beq
 by_cases hp:p<l.length
 ·obtain⟨A,hA⟩:∃A,A=l[p]:=⟨_,rfl⟩
  have hr:=hk _ (List.getElem_mem hp)
  have q1:=zj0 hp
  have q2:=zd9 hp
  rw[←hA] at hr q1 q2
  have hrn:=hr.2
  have hrs:=hr.1.1
  have hrc:=hr.1.2.1
  have hl1:=hlen1 p
  have hl2' :=hlen2 (p+1)
  rw[q2,List.length_append] at hl2'
  have hia:z08 2 (.d (.sl (l.map RulesT.d))) (p:Int)=some (.dptr [.sl (A.rels.map RelT.d),.sl (A.clauses.map ClauseT.d)]):=by rw[hA];exact z1p hp rfl
  have hmk:=fun (key:Nat) (st:St)=>z8d (key:=key) (es:=3) (eb:=32) (n:=A.rels.length) (ag:=true) (zero:= [.d (.str []),.d (.int .i64 0),.d (.int .i64 0)]) (st:=st) ω ω rfl rfl
  have hcp:∀z nx' lw,sget z (nxp+8)=some (.cells (List.replicate A.rels.length [V.d (.str []),V.d (.int .i64 0),V.d (.int .i64 0)]).flatten)→z5d {s:=z,next:=nx',low:=lw} 3 (.arr (nxp+8) 3 true 0 A.rels.length) (.d (.sl (A.rels.map RelT.d)))=some (.d (.int .i64 A.rels.length),{s:=sset z (nxp+8) (.cells (((A.rels.map RelT.d).flatMap cellsD).map V.d)),next:=nx',low:=Nat.min lw (nxp+8)}):=fun z nx' lw h=>by
   have:=znd (nx:=nx') (lw:=lw) (ag:=true) (l:=A.rels.map RelT.d) h (by rw[zyu (es:=3) rfl,List.length_map]) (z0c fun a=>z61)
   simpa using this
  simp only[hp,hia,hmk,hcp,w_len,w_16,w_3,w_14,w_15,w_pc1,w_pN,↓LA,LB,simprocAttr]
  refine z4g p_1 ?_ (z0c fun a=>z61) z03 ?_ ?_ ?_ ?_ ?_ fun chcr hcr=> ?_
  ·intro j hj;obtain⟨h1,h2,h3⟩:=hj;simp (disch:=omega) only[z00]
  ·rw[List.length_map,(z15 (z0c fun a=>z61)).2,List.length_map]
  ·omega
  ·simp;omega
  ·simp;omega
  ·rw[List.all_map];exact (z15 (z0c fun a=>z61)).1
  simp only[List.length_map,w_len,w_3,w_pc1,w_pN,w_p_1V,↓LA,LB,simprocAttr]
  obtain⟨N,hN⟩:∃N,N= (z2y (l.take p)).length+A.rels.length:=⟨_,rfl⟩
  rw[←hN]
  refine z0b (fun e0 s0 m env st=>∃(i nxi lwi:Nat) (si:Sto) (xc:V),m=A.clauses.length-i∧(i≤A.clauses.length)∧(GP si false (fun q=>2≤q∧q<nxi∧nxp+17=q) 0 3 true (.arr (nxp+17) 3 true 0 N) ((z2y (l.take (p+1))).map RelT.d))∧(GP si false (fun q=>2≤q∧q<nxi∧nxp+17≠q) 1 3 true xc ((z1e (l.take p)++A.clauses.take i).map ClauseT.d))∧sget si (0)=some (.cells [.nilS,.nilS])∧sget si (1)=some (.cells [.arr (nxp+17) 3 true 0 N,xc])∧nxp+24≤nxi∧0≤lwi∧env.length=90∧env.getD 36 .undef= .d (.int .i64 i)∧env.getD 2 .undef= .ptr 0 0∧env.getD 3 .undef= .ptr 1 0∧env.getD 14 .undef= .d (.sl (l.map RulesT.d))∧env.getD 15 .undef= .d (.int .i64 l.length)∧env.getD 16 .undef= .d (.int .i64 p)∧env.getD 34 .undef= .d (.sl (A.clauses.map ClauseT.d))∧env.getD 35 .undef= .d (.int .i64 A.clauses.length)∧st= {s:=si,next:=nxi,low:=lwi}) ?_ (A.clauses.length) (by refine⟨0,_,_,_,xc,rfl,ω,zar (A.rels.map RelT.d) hcr (by exact⟨ω,ω,rfl⟩) z03 (by simp[hN]) (by rw[q1,List.map_append]) zhd,by simpa using (p_2.frame (by intro q hq;obtain⟨h1,h2,h3⟩:=hq;simp (disch:=omega) only[z00,z01,z04 (h3)])).mono (fun q hq=>⟨hq.1,by have:=hq.2.1;omega,by have:=hq.2.1;omega⟩),?_,?_,ω,Nat.zero_le _,?_,?_,?_,?_,?_,?_,?_,?_,?_,rfl⟩<;>simp only[w_len,w_16,w_2,w_3,w_14,w_15,w_pc0,w_pc1,w_pN,w_p_1V,LB,simprocAttr])
  rintro m env st ⟨i,nxi,lwi,si,xc,hm,i_0,i_1,i_2,w_ic0,w_ic1,w_ib,w_ilo,w_len,w_36,w_2,w_3,w_14,w_15,w_16,w_34,w_35,rfl⟩
  have w_iN:=aI (cf1 (x:=nxi) (a:=0) ω) (cf1 (x:=nxi) (a:=1) ω)
  have w_iS:=aI (cf2 (x:=nxi) ω w_ic0) (cf2 (x:=nxi) ω w_ic1)
  have w_iZ:=aI (zf (x:=nxi) (b:=nxp) (n:=24) ω ω) (zf0 (x:=nxi) (n:=5) ω)
  have w_i_2V:=aI (i_2.away (j:=0) ω) (aI (i_2.away (j:=1) ω) (aI (i_2.away (j:=nxp+17) ω) (aI (i_2.away (j:=nxi+3) ω) (i_2.away (j:=nxi+8) ω))))
  have w_i_2c:=i_2.cell.1
  have w_i_2d:=i_2.cell.2
  have w_i_2e:=i_2.beq
  by_cases hi:i<A.clauses.length
  ·have hs:=hr.1.2.2 _ (List.getElem_mem hi)
   have hic:=z6j hi
   obtain⟨C,hC⟩:∃C,C=A.clauses[i]:=⟨_,rfl⟩
   rw[←hC] at hs hic
   have hs1:=hs.1.1
   have hs2:=hs.2.1
   simp only[hi,hic,w_len,w_36,w_34,w_35,↓LA,LB,simprocAttr]
   refine z0b (fun e0 s0 m env st=>∃(k nxk lwk:Nat) (sk:Sto) (xw:V),m=C.head.length-k∧(k≤C.head.length)∧(Gr sk false (nxi+14) 0 nxk 2 true xw ((C.head.take k).map PatT.d))∧(GP sk false (fun q=>2≤q∧q<nxi∧nxp+17=q) 0 3 true (.arr (nxp+17) 3 true 0 N) ((z2y (l.take (p+1))).map RelT.d))∧(GP sk false (fun q=>2≤q∧q<nxi∧nxp+17≠q) 1 3 true xc ((z1e (l.take p)++A.clauses.take i).map ClauseT.d))∧sget sk (0)=some (.cells [.nilS,.nilS])∧sget sk (1)=some (.cells [.arr (nxp+17) 3 true 0 N,xc])∧sget sk (nxi+3)=some (.cells [.d (.str C.rel),.d (.sl (C.head.map PatT.d)),.d (.sl (C.body.map PatT.d))])∧sget sk (nxi+8)=some (.cells [.d (.str C.rel),xw,.nilS])∧nxi+14≤nxk∧0≤lwk∧env.length=90∧env.getD 46 .undef= .d (.int .i64 k)∧env.getD 2 .undef= .ptr 0 0∧env.getD 3 .undef= .ptr 1 0∧env.getD 14 .undef= .d (.sl (l.map RulesT.d))∧env.getD 15 .undef= .d (.int .i64 l.length)∧env.getD 16 .undef= .d (.int .i64 p)∧env.getD 34 .undef= .d (.sl (A.clauses.map ClauseT.d))∧env.getD 35 .undef= .d (.int .i64 A.clauses.length)∧env.getD 36 .undef= .d (.int .i64 i)∧env.getD 8 .undef= .ptr (nxi+3) 0∧env.getD 9 .undef= .ptr (nxi+8) 0∧env.getD 44 .undef= .d (.sl (C.head.map PatT.d))∧env.getD 45 .undef= .d (.int .i64 C.head.length)∧st= {s:=sk,next:=nxk,low:=lwk}) ?_ (C.head.length) (by refine⟨0,_,_,_,.nilS,rfl,ω,Gr.nil,i_1.frame (by intro q hq;obtain⟨h1,h2,h3⟩:=hq;simp (disch:=omega) only[z00]),i_2.frame (by intro q hq;obtain⟨h1,h2,h3⟩:=hq;simp (disch:=omega) only[z00]),?_,?_,?_,?_,ω,Nat.zero_le _,?_,?_,?_,?_,?_,?_,?_,?_,?_,?_,?_,?_,?_,?_,rfl⟩<;>simp only[w_len,w_36,w_2,w_3,w_14,w_15,w_16,w_34,w_35,w_ic0,w_ic1,w_iN,LB,simprocAttr])
   rintro m env st ⟨k,nxk,lwk,sk,xw,hm,k_0,k_1,k_2,k_3,w_kc0,w_kc1,w_kc2,w_kc3,w_kb,w_klo,w_len,w_46,w_2,w_3,w_14,w_15,w_16,w_34,w_35,w_36,w_8,w_9,w_44,w_45,rfl⟩
   have w_kN:=aI (cf1 (x:=nxk) (a:=0) ω) (aI (cf1 (x:=nxk) (a:=1) ω) (aI (cf1 (x:=nxk) (a:=nxi+3) ω) (cf1 (x:=nxk) (a:=nxi+8) ω)))
   have w_kS:=aI (cf2 (x:=nxk) ω w_kc0) (aI (cf2 (x:=nxk) ω w_kc1) (aI (cf2 (x:=nxk) ω w_kc2) (cf2 (x:=nxk) ω w_kc3)))
   have w_kZ:=aI (zf (x:=nxk) (b:=nxi) (n:=14) ω ω) (aI (zf (x:=nxk) (b:=nxp) (n:=24) ω ω) (zf0 (x:=nxk) (n:=5) ω))
   have w_k_1V:=aI (k_1.away (j:=0) ω) (aI (k_1.away (j:=1) ω) (aI (k_1.away (j:=nxi+3) ω) (k_1.away (j:=nxi+8) ω)))
   have w_k_1c:=k_1.cell.1
   have w_k_1d:=k_1.cell.2
   have w_k_1e:=k_1.beq
   have w_k_3V:=aI (k_3.away (j:=0) ω) (aI (k_3.away (j:=1) ω) (aI (k_3.away (j:=nxi+3) ω) (k_3.away (j:=nxi+8) ω)))
   have w_k_3c:=k_3.cell.1
   have w_k_3d:=k_3.cell.2
   have w_k_3e:=k_3.beq
   by_cases hk:k<C.head.length
   ·have hD:=fun st=>zcy (hs.1.2 _ (List.getElem_mem hk)) st
    simp only[hk,z3r hk,hD,w_len,w_46,w_9,w_44,w_45,w_kc3,w_kN,w_k_1e,↓LA,LB,simprocAttr]
    refine z4h k_1 ?_ (z0c fun a=>z6l) z03 ?_ ?_ ?_ ?_ ?_ fun chc0 hc0=> ?_
    ·intro j h1 h2;simp (disch:=omega) only[z00]
    ·rfl
    ·omega
    ·simp;omega
    ·simp;omega
    ·exact rfl
    simp only[z07 hk ω,w_len,w_46,w_9,w_kc3,w_kN,w_k_1V,↓LA,LB,simprocAttr]
    have hn: (C.head.take (k+1)).map PatT.d= (C.head.take k).map PatT.d++ [C.head[k].d]:=by rw[z2m hk,List.map_append];rfl
    exact z09 (by refine⟨_,ω,k+1,_,_,_,.arr (nxk+14) 2 true 0 (((C.head.take k).map PatT.d).length+1),rfl,ω,(by rw[hn];exact z4j hc0 (by intro j h1 h2 h3;simp (disch:=omega) only[z00,z01,z04 h3]) ω ω ω z03 rfl ⟨CV.str,CV.data,trivial⟩),k_2.frame (by intro q hq;obtain⟨h1,h2,h3⟩:=hq;simp (disch:=omega) only[z00,z01,z04 (k_1.away (j:=q) ω)]),k_3.frame (by intro q hq;obtain⟨h1,h2,h3⟩:=hq;simp (disch:=omega) only[z00,z01,z04 (k_1.away (j:=q) ω)]),?_,?_,?_,?_,ω,Nat.zero_le _,?_,?_,?_,?_,?_,?_,?_,?_,?_,?_,?_,?_,?_,?_,rfl⟩<;>simp only[w_len,w_2,w_3,w_14,w_15,w_16,w_34,w_35,w_36,w_8,w_9,w_44,w_45,w_kc0,w_kc1,w_kc2,w_kc3,w_kN,w_iN,w_k_1V,LB,simprocAttr])
   ·have ht:C.head.take k=C.head:=List.take_of_length_le ω
    rw[ht] at k_1
    simp only[hk,w_len,w_46,w_8,w_45,w_kc2,↓LA,LB,simprocAttr]
    refine z0b (fun e0 s0 m env st=>∃(z nxz lwz:Nat) (sz:Sto) (xz:V),m=C.body.length-z∧(z≤C.body.length)∧(Gr sz false (nxk+5) 0 nxz 2 true xz ((C.body.take z).map PatT.d))∧(GP sz false (fun q=>2≤q∧q<nxi∧nxp+17=q) 0 3 true (.arr (nxp+17) 3 true 0 N) ((z2y (l.take (p+1))).map RelT.d))∧(GP sz false (fun q=>2≤q∧q<nxi∧nxp+17≠q) 1 3 true xc ((z1e (l.take p)++A.clauses.take i).map ClauseT.d))∧(Gr sz false (nxi+14) 0 nxk 2 true xw (C.head.map PatT.d))∧sget sz (0)=some (.cells [.nilS,.nilS])∧sget sz (1)=some (.cells [.arr (nxp+17) 3 true 0 N,xc])∧sget sz (nxi+3)=some (.cells [.d (.str C.rel),.d (.sl (C.head.map PatT.d)),.d (.sl (C.body.map PatT.d))])∧sget sz (nxi+8)=some (.cells [.d (.str C.rel),xw,xz])∧nxk+5≤nxz∧0≤lwz∧env.length=90∧env.getD 65 .undef= .d (.int .i64 z)∧env.getD 2 .undef= .ptr 0 0∧env.getD 3 .undef= .ptr 1 0∧env.getD 14 .undef= .d (.sl (l.map RulesT.d))∧env.getD 15 .undef= .d (.int .i64 l.length)∧env.getD 16 .undef= .d (.int .i64 p)∧env.getD 34 .undef= .d (.sl (A.clauses.map ClauseT.d))∧env.getD 35 .undef= .d (.int .i64 A.clauses.length)∧env.getD 36 .undef= .d (.int .i64 i)∧env.getD 8 .undef= .ptr (nxi+3) 0∧env.getD 9 .undef= .ptr (nxi+8) 0∧env.getD 63 .undef= .d (.sl (C.body.map PatT.d))∧env.getD 64 .undef= .d (.int .i64 C.body.length)∧st= {s:=sz,next:=nxz,low:=lwz}) ?_ (C.body.length) (by refine⟨0,_,_,_,.nilS,rfl,ω,Gr.nil,k_2,k_3,k_1,?_,?_,?_,?_,ω,Nat.zero_le _,?_,?_,?_,?_,?_,?_,?_,?_,?_,?_,?_,?_,?_,?_,rfl⟩<;>simp only[w_len,w_2,w_3,w_14,w_15,w_16,w_34,w_35,w_36,w_8,w_9,w_kc0,w_kc1,w_kc2,w_kc3,LB,simprocAttr])
    rintro m env st ⟨z,nxz,lwz,sz,xz,hm,z_0,z_1,z_2,z_3,z_4,w_zc0,w_zc1,w_zc2,w_zc3,w_zb,w_zlo,w_len,w_65,w_2,w_3,w_14,w_15,w_16,w_34,w_35,w_36,w_8,w_9,w_63,w_64,rfl⟩
    have w_zN:=aI (cf1 (x:=nxz) (a:=0) ω) (aI (cf1 (x:=nxz) (a:=1) ω) (aI (cf1 (x:=nxz) (a:=nxi+3) ω) (cf1 (x:=nxz) (a:=nxi+8) ω)))
    have w_zS:=aI (cf2 (x:=nxz) ω w_zc0) (aI (cf2 (x:=nxz) ω w_zc1) (aI (cf2 (x:=nxz) ω w_zc2) (cf2 (x:=nxz) ω w_zc3)))
    have w_zZ:=aI (zf (x:=nxz) (b:=nxk) (n:=5) ω ω) (aI (zf (x:=nxz) (b:=nxi) (n:=14) ω ω) (aI (zf (x:=nxz) (b:=nxp) (n:=24) ω ω) (zf0 (x:=nxz) (n:=5) ω)))
    have w_z_1V:=aI (z_1.away (j:=0) ω) (aI (z_1.away (j:=1) ω) (aI (z_1.away (j:=nxi+3) ω) (z_1.away (j:=nxi+8) ω)))
    have w_z_1c:=z_1.cell.1
    have w_z_1d:=z_1.cell.2
    have w_z_1e:=z_1.beq
    have w_z_3V:=aI (z_3.away (j:=0) ω) (aI (z_3.away (j:=1) ω) (aI (z_3.away (j:=nxi+3) ω) (z_3.away (j:=nxi+8) ω)))
    have w_z_3c:=z_3.cell.1
    have w_z_3d:=z_3.cell.2
    have w_z_3e:=z_3.beq
    have w_z_4V:=aI (z_4.away (j:=0) ω) (aI (z_4.away (j:=1) ω) (aI (z_4.away (j:=nxi+3) ω) (z_4.away (j:=nxi+8) ω)))
    have w_z_4c:=z_4.cell.1
    have w_z_4d:=z_4.cell.2
    have w_z_4e:=z_4.beq
    by_cases hz:z<C.body.length
    ·have hD:=fun st=>zcy (hs.2.2 _ (List.getElem_mem hz)) st
     simp only[hz,z3r hz,hD,w_len,w_65,w_9,w_63,w_64,w_zc3,w_zN,w_z_1e,w_z_4e,↓LA,LB,simprocAttr]
     refine z4h z_1 ?_ (z0c fun a=>z6l) z03 ?_ ?_ ?_ ?_ ?_ fun chc0 hc0=> ?_
     ·intro j h1 h2;simp (disch:=omega) only[z00]
     ·rfl
     ·omega
     ·simp;omega
     ·simp;omega
     ·exact rfl
     simp only[z07 hz ω,w_len,w_65,w_9,w_zc3,w_zN,w_z_1V,↓LA,LB,simprocAttr]
     have hn: (C.body.take (z+1)).map PatT.d= (C.body.take z).map PatT.d++ [C.body[z].d]:=by rw[z2m hz,List.map_append];rfl
     exact z09 (by refine⟨_,ω,z+1,_,_,_,.arr (nxz+14) 2 true 0 (((C.body.take z).map PatT.d).length+1),rfl,ω,(by rw[hn];exact z4j hc0 (by intro j h1 h2 h3;simp (disch:=omega) only[z00,z01,z04 h3]) ω ω ω z03 rfl ⟨CV.str,CV.data,trivial⟩),z_2.frame (by intro q hq;obtain⟨h1,h2,h3⟩:=hq;simp (disch:=omega) only[z00,z01,z04 (z_1.away (j:=q) ω)]),z_3.frame (by intro q hq;obtain⟨h1,h2,h3⟩:=hq;simp (disch:=omega) only[z00,z01,z04 (z_1.away (j:=q) ω)]),z_4.frame (by intro j h1 h2;simp (disch:=omega) only[z00,z01,z04 (z_1.away (j:=j) ω)]),?_,?_,?_,?_,ω,Nat.zero_le _,?_,?_,?_,?_,?_,?_,?_,?_,?_,?_,?_,?_,?_,?_,rfl⟩<;>simp only[w_len,w_2,w_3,w_14,w_15,w_16,w_34,w_35,w_36,w_8,w_9,w_63,w_64,w_zc0,w_zc1,w_zc2,w_zc3,w_zN,w_iN,w_z_1V,LB,simprocAttr])
    ·have ht:C.body.take z=C.body:=List.take_of_length_le ω
     rw[ht] at z_1
     have hl3: (A.clauses.take i).length≤A.clauses.length:=by rw[List.length_take];omega
     simp only[hz,w_len,w_65,w_3,w_9,w_64,w_zc1,w_zc3,w_z_1c,w_z_4c,↓LA,LB,simprocAttr]
     refine z4g z_3 ?_ (z0c fun a=>z72) z03 ?_ ?_ ?_ ?_ ?_ fun chcc hcc=> ?_
     ·intro j hj;obtain⟨h1,h2,h3⟩:=hj;simp (disch:=omega) only[z00]
     ·rfl
     ·omega
     ·simp;omega
     ·simp;omega
     ·simp only[List.all_cons,List.all_nil,ze9,w_z_1c,w_z_4c,Bool.and_self]
     simp only[z07 hi ω,List.length_map,w_len,w_3,w_36,w_zc1,w_zN,w_z_3V,↓LA,LB,simprocAttr]
     exact z09 (by refine⟨_,ω,i+1,_,_,_,.arr (nxz+5) 3 true 0 ((z1e (l.take p)++A.clauses.take i).length+1),rfl,ω,(z_2.frame (by intro q hq;obtain⟨h1,h2,h3⟩:=hq;simp (disch:=omega) only[z00,z01,z04 (z_3.away (j:=q) ω)])).mono (fun q hq=>⟨hq.1,by have:=hq.2.1;omega,hq.2.2⟩),y44 [ClauseT.d C] (ys:= [.d (.str C.rel),xw,xz]) hcc (by intro q hq h4;obtain⟨h1,h2,h3⟩:=hq;simp (disch:=omega) only[z00,z01,z04 h4]) (by intro q hq;exact⟨hq.1,by have:=hq.2.1;omega,hq.2.2⟩) (by exact⟨ω,ω,ω⟩) (by intro hq;have:=hq.2.1;omega) z03 ψ (by rw[z2m hi,←hC];simp only[List.map_append,List.map_cons,List.map_nil,List.append_assoc]) (by exact⟨CQ.str,CQ.mono (fun q hq=>⟨⟨by have:=hq.1;omega,by have:=hq.2;omega,by have:=hq.1;omega⟩,by have:=hq.2;omega⟩) ((z_4.frame (by intro j h1 h2;simp (disch:=omega) only[z00,z01,z04 (z_3.away (j:=j) ω)])).cv ω (z0c fun a=>z6l)),CQ.mono (fun q hq=>⟨⟨by have:=hq.1;omega,by have:=hq.2;omega,by have:=hq.1;omega⟩,by have:=hq.2;omega⟩) ((z_1.frame (by intro j h1 h2;simp (disch:=omega) only[z00,z01,z04 (z_3.away (j:=j) ω)])).cv ω (z0c fun a=>z6l)),trivial⟩),?_,?_,ω,Nat.zero_le _,?_,?_,?_,?_,?_,?_,?_,?_,?_,rfl⟩<;>simp only[w_len,w_2,w_3,w_14,w_15,w_16,w_34,w_35,w_zc0,w_zc1,w_zN,w_z_3V,LB,simprocAttr])
  ·have ht:A.clauses.take i=A.clauses:=List.take_of_length_le ω
   rw[ht,←q2] at i_2
   simp only[hi,z07 hp ω,w_len,w_36,w_16,w_35,↓LA,LB,simprocAttr]
   exact z09 (by refine⟨_,ω,p+1,_,_,_,.arr (nxp+17) 3 true 0 N,xc,rfl,ω,i_1.mono (fun q hq=>⟨hq.1,by have:=hq.2.1;omega,fun h=>h hq.2.2⟩),i_2.mono (fun q hq=>⟨hq.1,by have:=hq.2.1;omega,hq.2.2⟩),?_,?_,ω,Nat.zero_le _,?_,?_,?_,?_,?_,?_,rfl⟩<;>simp only[w_len,w_2,w_3,w_14,w_15,w_ic0,w_ic1,LB,simprocAttr])
 ·have ht:l.take p=l:=List.take_of_length_le ω
  rw[ht] at p_1 p_2
  simp only[hp,w_len,w_16,w_2,w_3,w_15,w_pc0,w_pc1,w_pS,w_p_1c,w_p_2c,↓LA,LB,simprocAttr]
  refine rql1 (x:= (RulesT.mk (z2y l) (z1e l)).d) (zez (b:=0) (n:=2) (m:=11) (fun _ _=>Nat.zero_le _) (by decide) ⟨((p_1.frame (by intro q hq;obtain⟨h1,h2,h3⟩:=hq;simp (disch:=omega) only[z01])).cv ω (z0c fun a=>z61)).dep ω|>.mono fun q hq=>trivial,((p_2.frame (by intro q hq;obtain⟨h1,h2,h3⟩:=hq;simp (disch:=omega) only[z01])).cv ω (z0c fun a=>z72)).mono fun q hq=>trivial,trivial⟩) rfl
end Go.Lift.K
namespace Go.Lift
open Go
variable{s:Sto}{S:Nat→Prop}{d:D}{v:V}
def CZ (s:Sto): (Nat→Prop)→Nat→V→D→Prop
 |_,0,v,d=>v= .d d
 |S,n+1,v,d=>v= .d d∨((v= .nilS∨v= .emp)∧d= .sl [])∨
  ∃k es ag ds,v= .arr k es ag 0 ds.length∧d= .sl ds∧S k∧0<es∧(∀x∈ds,Elt es ag x)∧
   ((∃cs,sget s k=some (.cells cs)∧CVs (CZ s (fun j=>S j∧j≠k) n) cs (ds.flatMap cellsD))∨sget s k=some (.fz (ds.flatMap cellsD)))
def CZ.ofD   {n:Nat}  :CZ s S n (.d d) d:=by
 cases n with
 |zero=>rfl
 |succ n=>exact .inl rfl
def CZ.mono {s:Sto} :∀{n m:Nat} {S S' :Nat→Prop} {v:V} {d:D},n≤m→(∀j,S j→S' j)→CZ s S n v d→CZ s S' m v d
 |0,m,_,_,v,d,_,_,h=>by
  have h:v= .d d:=h
  subst h
  exact CZ.ofD
 |n+1,0,_,_,_,_,hm,_,_=>ω
 |n+1,m+1,S,S',v,d,hm,hS,h=>by
  refine h.imp id fun h=>h.imp id ?_
  rintro⟨k,es,ag,ds,e1,e2,e3,e4,e5,e6⟩
  refine⟨k,es,ag,ds,e1,e2,hS _ e3,e4,e5,e6.imp ?_ id⟩
  rintro⟨cs,f1,f2⟩
  exact⟨cs,f1,CVs.imp (fun v d h=>CZ.mono ω (fun j hj=>⟨hS _ hj.1,hj.2⟩) h) f2⟩
theorem CVs.fun_ {R R' :V→D→Prop} (h:∀v d d',R v d→R' v d' →d=d'):∀{vs:List V} {ds ds' :List D},CVs R vs ds→CVs R' vs ds' →ds=ds'
 | [],[],[],_,_=>rfl
 | [],_::_,_,a,_=>a.elim
 | [],[],_::_,_,b=>b.elim
 |_::_,[],_,a,_=>a.elim
 |_::_,_::_,[],_,b=>b.elim
 |_::_,_::_,_::_,a,b=>by rw[h _ _ _ a.1 b.1,CVs.fun_ h a.2 b.2]
def zyv {es es' :Nat} {ag:Bool} {ds ds' :Ld} (h0:0<es) (he:∀x∈ds,Elt es ag x) (he' :∀x∈ds',Elt es ag x) (hl:ds.length=ds'.length) (h:ds.flatMap cellsD=ds'.flatMap cellsD):ds=ds' :=by
 have a:=z35 (ag:=ag) h0 he
 have b:=z35 (ag:=ag) h0 he'
 rw[h,hl,b] at a
 exact (Option.some.inj a).symm
theorem CZ.uniq {s:Sto} :∀{n m:Nat} {S S' :Nat→Prop} {v:V} {d d' :D},CZ s S n v d→CZ s S' m v d' →d=d'
 |0,0,_,_,v,d,d',h,h' =>by
  have h:v= .d d:=h
  have h' :v= .d d' :=h'
  rw[h] at h'
  injection h'
 |0,m+1,_,_,v,d,d',h,h' =>by
  have h:v= .d d:=h
  subst h
  rcases h' with e|⟨e|e,_⟩|⟨_,_,_,_,e,_⟩
  ·injection e
  ·cases e
  ·cases e
  ·cases e
 |n+1,0,_,_,v,d,d',h,h' =>by
  have h' :v= .d d' :=h'
  subst h'
  rcases h with e|⟨e|e,_⟩|⟨_,_,_,_,e,_⟩
  ·injection e with e;exact e.symm
  ·cases e
  ·cases e
  ·cases e
 |n+1,m+1,S,S',v,d,d',h,h' =>by
  rcases h with rfl|⟨hv,rfl⟩|⟨k,es,ag,ds,rfl,rfl,e3,e4,e5,e6⟩
  ·rcases h' with e|⟨e|e,_⟩|⟨_,_,_,_,e,_⟩
   ·injection e
   ·cases e
   ·cases e
   ·cases e
  ·rcases h' with rfl|⟨_,rfl⟩|⟨_,_,_,_,rfl,_⟩
   ·rcases hv with e|e<;>cases e
   ·rfl
   ·rcases hv with e|e<;>cases e
  ·rcases h' with e|⟨e|e,_⟩|⟨k',es',ag',ds',e,rfl,g3,g4,g5,g6⟩
   ·cases e
   ·cases e
   ·cases e
   ·injection e with e1 e2 e3' e4' e5'
    subst e1;subst e2;subst e3'
    congr 1
    refine zyv (es' :=es) e4 e5 g5 e5' ?_
    rcases e6 with⟨cs,f1,f2⟩|f1<;>rcases g6 with⟨cs',f1',f2'⟩|f1'
    ·rw[f1] at f1'
     injection f1' with f1'
     injection f1' with f1'
     subst f1'
     exact CVs.fun_ (R:=CZ s (fun j=>S j∧j≠k) n) (R' :=CZ s (fun j=>S' j∧j≠k) m) (fun v d d' a b=>CZ.uniq a b) f2 f2'
    ·rw[f1] at f1';injection f1' with f1';cases f1'
    ·rw[f1] at f1';injection f1' with f1';cases f1'
    ·rw[f1] at f1';injection f1' with f1';injection f1'
def Pz (s s' :Sto):Prop:=∀(S:Nat→Prop) n v d,CZ s S n v d→CZ s' S n v d
def Pz.refl  :Pz s s:=fun _ _ _ _ h=>h
def Pz.trans {a b c:Sto} (h:Pz a b) (h' :Pz b c):Pz a c:=fun S n v d x=>h' S n v d (h S n v d x)
def y8o  {k n0:Nat} {S0:Nat→Prop} {cs:Lv} {l:Ld} (hk:sget s k=some (.cells cs)) (hc:CVs (CZ s S0 n0) cs l):Pz s (sset s k (.fz l)):=by
 intro S n
 induction n generalizing S with
 |zero=>exact fun v d h=>h
 |succ n ih=>
  intro v d h
  refine h.imp id fun h=>h.imp id ?_
  rintro⟨k',es,ag,ds,e1,e2,e3,e4,e5,e6⟩
  refine⟨k',es,ag,ds,e1,e2,e3,e4,e5,?_⟩
  by_cases e:k' =k
  ·subst e
   refine .inr ?_
   rw[z05 hk]
   rcases e6 with⟨cs',f1,f2⟩|f1
   ·rw[hk] at f1
    injection f1 with f1
    injection f1 with f1
    subst f1
    rw[CVs.fun_ (R:=CZ s S0 n0) (R' :=CZ s (fun j=>S j∧j≠k') n) (fun v d d' a b=>CZ.uniq a b) hc f2]
   ·rw[hk] at f1;injection f1 with f1;cases f1
  ·rw[z0n e]
   exact e6.imp (fun⟨cs',f1,f2⟩=>⟨cs',f1,CVs.imp (fun v d h=>ih _ v d h) f2⟩) id
def Yd (y:V) (d:D):Prop:=y= .d d∨((y= .nilS∨y= .emp)∧d= .sl [])
theorem zqo:∀{ys:List V} {ds:List D},CVs Yd ys ds→toDs ys=some ds
 | [],[],_=>rfl
 | [],_::_,h=>h.elim
 |_::_,[],h=>h.elim
 |y::ys,d::ds,h=>by
  have e:=zqo h.2
  rcases h.1 with rfl|⟨rfl|rfl,rfl⟩<;>simp[toDs,e]
def zr3  {b m:Nat} {y:V}  (h:Yd y d):snap s b (m+1) y=some d:=by
 rcases h with rfl|⟨rfl|rfl,rfl⟩<;>rfl
def Fz1 (S:Nat→Prop) (s s' :Sto):Prop:=Pz s s' ∧∀q,¬S q→sget s' q=sget s q
theorem zke {S:Nat→Prop} {n m nx:Nat} (ih:∀{v:V} {d:D} {s:Sto} {lw:Nat},CZ s S n v d→∃y s' lw',frz m {s:=s,next:=nx,low:=lw} v=some (y,{s:=s',next:=nx,low:=lw' })∧Yd y d∧Fz1 S s s'):
  ∀{cs:List V} {ds:List D} {s:Sto} {lw:Nat},CVs (CZ s S n) cs ds→∃ys s' lw',frzL (frz m) {s:=s,next:=nx,low:=lw} cs=some (ys,{s:=s',next:=nx,low:=lw' })∧CVs Yd ys ds∧Fz1 S s s'
 | [],[],s,lw,_=>⟨[],s,lw,rfl,trivial,Pz.refl,fun _ _=>rfl⟩
 | [],_::_,_,_,h=>h.elim
 |_::_,[],_,_,h=>h.elim
 |v::cs,d::ds,s,lw,h=>by
  obtain⟨y,s1,l1,a1,a2,a3,a4⟩:=ih (lw:=lw) h.1
  obtain⟨ys,s2,l2,b1,b2,b3,b4⟩:=zke ih (cs:=cs) (ds:=ds) (s:=s1) (lw:=l1) (CVs.imp (fun v d h=>a3 _ _ _ _ h) h.2)
  exact⟨y::ys,s2,l2,by simp only[frzL,a1,b1],⟨a2,b2⟩,a3.trans b3,fun q hq=> (b4 q hq).trans (a4 q hq)⟩
theorem zu4:∀{n m:Nat} {S:Nat→Prop} {v:V} {d:D} {s:Sto} {nx lw:Nat},n<m→CZ s S n v d→∃y s' lw',frz m {s:=s,next:=nx,low:=lw} v=some (y,{s:=s',next:=nx,low:=lw' })∧Yd y d∧Fz1 S s s'
 |0,m+1,S,v,d,s,nx,lw,_,h=>by
  have h:v= .d d:=h
  subst h
  exact⟨_,s,lw,rfl,.inl rfl,Pz.refl,fun _ _=>rfl⟩
 |n+1,0,_,_,_,_,_,_,hm,_=>ω
 |n+1,m+1,S,v,d,s,nx,lw,hm,h=>by
  rcases h with rfl|⟨rfl|rfl,rfl⟩|⟨k,es,ag,ds,rfl,rfl,e3,e4,e5,e6⟩
  ·exact⟨_,s,lw,rfl,.inl rfl,Pz.refl,fun _ _=>rfl⟩
  ·exact⟨_,s,lw,rfl,.inr ⟨.inl rfl,rfl⟩,Pz.refl,fun _ _=>rfl⟩
  ·exact⟨_,s,lw,rfl,.inr ⟨.inr rfl,rfl⟩,Pz.refl,fun _ _=>rfl⟩
  ·obtain⟨h1,h2⟩:=z15 e5
   have hc:=z35 (ag:=ag) e4 e5
   have ht: ((ds.flatMap cellsD).drop 0).take (ds.length*es)=ds.flatMap cellsD:=by rw[List.drop_zero,List.take_of_length_le ω]
   rcases e6 with⟨cs,f1,f2⟩|f1
   ·obtain⟨ys,s1,l1,b1,b2,b3,b4⟩:=zke (m:=m) (nx:=nx) (fun h=>zu4 ω h) (lw:=lw) f2
    have hk1:sget s1 k=some (.cells cs):=by rw[b4 k (fun h=>h.2 rfl)];exact f1
    have hl:cs.length= (ds.flatMap cellsD).length:=CVs.length f2
    refine⟨.d (.sl ds),sset s1 k (.fz (ds.flatMap cellsD)),Nat.min l1 k,?_,.inl rfl,?_⟩
    ·have g1: ({s:=s,next:=nx,low:=lw} :St).get k=some (.cells cs):=f1
     have g2: ({s:=s1,next:=nx,low:=l1} :St).get k=some (.cells cs):=hk1
     simp only[frz,g1]
     rw[if_pos ⟨e4,ω⟩]
     simp only[b1,zqo b2,h1,if_true,ht,hc,g2]
     rfl
    ·refine⟨b3.trans (y8o hk1 (CVs.imp (fun v d h=>b3 _ _ _ _ h) f2)),fun q hq=> ?_⟩
     rw[z0n (fun e=>hq (by rw[e];exact e3))]
     exact b4 q (fun h=>hq h.1)
   ·refine⟨.d (.sl ds),s,lw,?_,.inl rfl,Pz.refl,fun _ _=>rfl⟩
    have g1: ({s:=s,next:=nx,low:=lw} :St).get k=some (.fz (ds.flatMap cellsD)):=f1
    simp only[frz,g1]
    rw[if_pos ⟨e4,ω,h1⟩,ht,hc]
theorem zzf:∀{ds:List D},CVs (fun v d=>v=V.d d) (ds.map V.d) ds
 | []=>trivial
 |_::_=>⟨rfl,zzf⟩
def CZ.snap {s:Sto} :∀{n m:Nat} {S:Nat→Prop} {v:V} {d:D},n<m→CZ s S n v d→Go.Lift.snap s 0 m v=some d
 |0,m+1,_,v,d,_,h=>by
  have h:v= .d d:=h
  subst h
  rfl
 |n+1,0,_,_,_,hm,_=>ω
 |n+1,m+1,S,v,d,hm,h=>by
  rcases h with rfl|⟨rfl|rfl,rfl⟩|⟨k,es,ag,ds,rfl,rfl,e3,e4,e5,e6⟩
  ·rfl
  ·rfl
  ·rfl
  ·obtain⟨h1,h2⟩:=z15 e5
   have hc:=z35 (ag:=ag) e4 e5
   obtain⟨cs,f1,f2,f3⟩:∃cs,scells s k=some cs∧cs.length=ds.length*es∧cs.mapM (Go.Lift.snap s 0 m)=some (ds.flatMap cellsD):=by
    rcases e6 with⟨cs,f1,f2⟩|f1
    ·exact⟨cs,by simp[scells,f1],by rw[CVs.length f2,h2],z40 (fun v d h=>CZ.snap ω h) f2⟩
    ·refine⟨(ds.flatMap cellsD).map V.d,by simp[scells,f1],by rw[List.length_map,h2],?_⟩
     obtain⟨m',rfl⟩:∃m',m=m' +1:=⟨m-1,ω⟩
     exact z40 (R:=fun v d=>v=V.d d) (fun v d hv=>by subst hv;rfl) zzf
   have ht: (cs.drop 0).take (ds.length*es)=cs:=by rw[List.drop_zero,List.take_of_length_le ω]
   simp only[Go.Lift.snap,f1,Nat.not_lt_zero,if_false]
   rw[if_pos ⟨e4,ω⟩,ht,f3]
   simp only[h1,if_true,hc,Option.map_some]
def AZ (s:Sto) (S:Nat→Prop) (v:V) (d:D):Prop:=CZ s S 9 v d∨∃cs ds,v=mkAgg cs∧d= .agg ds∧CVs (CZ s S 9) cs ds∧ds.all D.isCell=true
def AZ.ofD    :AZ s S (.d d) d:= .inl CZ.ofD
def AZ.step {s':Sto}    (h:AZ s S v d) (hp:Pz s s'):AZ s' S v d:=
 h.imp (fun h=>hp _ _ _ _ h) fun⟨cs,ds,a,b,c,e⟩=>⟨cs,ds,a,b,CVs.imp (fun v d h=>hp _ _ _ _ h) c,e⟩
def z7r (cs:Lv): (∃ds,cs=ds.map V.d∧mkAgg cs= .d (.agg ds))∨mkAgg cs= .agg cs:=by
 unfold mkAgg
 split
 ·rename_i ds h
  refine .inl ⟨ds,?_,rfl⟩
  exact zd8 h
 ·exact .inr rfl
def AZ.snap     (h:AZ s S v d):Go.Lift.snap s 0 z0e v=some d:=by
 rcases h with h|⟨cs,ds,rfl,rfl,h,hc⟩
 ·exact CZ.snap (by decide) h
 ·have hm:=z40 (fun v d h=>CZ.snap (m:=11) ω h) h
  rcases z7r cs with⟨ds',e,e2⟩|e
  ·rw[e2]
   have:ds' =ds:=by
    subst e
    have hd:=z40 (R:=fun v d=>v=V.d d) (f:=Go.Lift.snap s 0 11) (fun v d hv=>by subst hv;rfl) (zzf (ds:=ds'))
    rw[hm] at hd
    injection hd with hd
    exact hd.symm
   rw[this];rfl
  ·rw[e]
   show Go.Lift.snap s 0 (11+1) (.agg cs)=_
   simp only[Go.Lift.snap,hm,hc,if_true]
def AZ.frz     {nx lw:Nat} (h:AZ s S v d):∃y s' lw',Go.Lift.frz z0e {s:=s,next:=nx,low:=lw} v=some (y,{s:=s',next:=nx,low:=lw' })∧Go.Lift.snap [] 0 z0e y=some d∧Fz1 S s s' :=by
 rcases h with h|⟨cs,ds,rfl,rfl,h,hc⟩
 ·obtain⟨y,s',lw',a,b,c⟩:=zu4 (m:=z0e) (nx:=nx) (lw:=lw) (by decide) h
  exact⟨y,s',lw',a,zr3 b,c⟩
 ·rcases z7r cs with⟨ds',e,e2⟩|e
  ·refine⟨.d (.agg ds'),s,lw,by rw[e2];rfl,?_,Pz.refl,fun _ _=>rfl⟩
   have:=AZ.snap (.inr ⟨cs,ds,rfl,rfl,h,hc⟩:AZ s S (mkAgg cs) (.agg ds))
   rw[e2] at this
   exact this
  ·obtain⟨ys,s',lw',a,b,c⟩:=zke (m:=11) (nx:=nx) (fun h=>zu4 ω h) (lw:=lw) h
   refine⟨mkAgg ys,s',lw',?_,?_,c⟩
   ·rw[e]
    show Go.Lift.frz (11+1) _ (.agg cs)=_
    simp only[Go.Lift.frz,a]
   ·have hm:ys.mapM (Go.Lift.snap [] 0 11)=some ds:=z40 (fun v d h=>zr3 h) b
    rcases z7r ys with⟨ds',e,e2⟩|e
    ·rw[e2]
     have:ds' =ds:=by
      subst e
      have hd:=z40 (R:=fun v d=>v=V.d d) (f:=Go.Lift.snap [] 0 11) (fun v d hv=>by subst hv;rfl) (zzf (ds:=ds'))
      rw[hm] at hd
      injection hd with hd
      exact hd.symm
     rw[this];rfl
    ·rw[e]
     show Go.Lift.snap [] 0 (11+1) (.agg ys)=_
     simp only[Go.Lift.snap,hm,hc,if_true]
theorem zu8 {S:Nat→Prop} {nx:Nat} :∀{vs:List V} {ds:List D} {s:Sto} {lw:Nat},CVs (AZ s S) vs ds→∃ys s' lw',frzL (frz z0e) {s:=s,next:=nx,low:=lw} vs=some (ys,{s:=s',next:=nx,low:=lw' })∧z0p [] 0 ys=some ds∧Fz1 S s s'
 | [],[],s,lw,_=>⟨[],s,lw,rfl,rfl,Pz.refl,fun _ _=>rfl⟩
 | [],_::_,_,_,h=>h.elim
 |_::_,[],_,_,h=>h.elim
 |v::vs,d::ds,s,lw,h=>by
  obtain⟨y,s1,l1,a1,a2,a3,a4⟩:=AZ.frz (nx:=nx) (lw:=lw) h.1
  obtain⟨ys,s2,l2,b1,b2,b3,b4⟩:=zu8 (nx:=nx) (vs:=vs) (ds:=ds) (s:=s1) (lw:=l1) (CVs.imp (fun v d h=>AZ.step h a3) h.2)
  exact⟨y::ys,s2,l2,by simp only[frzL,a1,b1],by simp[z0p,a2,b2],a3.trans b3,fun q hq=> (b4 q hq).trans (a4 q hq)⟩
theorem zb7 {s:Sto} {S:Nat→Prop} :∀{vs:List V} {ds:List D},CVs (AZ s S) vs ds→z0p s 0 vs=some ds
 | [],[],_=>rfl
 | [],_::_,h=>h.elim
 |_::_,[],h=>h.elim
 |v::vs,d::ds,h=>by simp[z0p,AZ.snap h.1,zb7 h.2]
def z2u {G:Nat→Option IFun} {f:Nat} {F:IFun} (hG:G f=some F) (hp:F.pure=true) (hn:F.nil2=false) {vs:Lv} {ds rs:Ld}   {nx lw:Nat} (ha:CVs (AZ s S) vs ds)
  (h:z06 G (.fn f [] []) (ds.map V.d) {s:= [],next:=0,low:=0} =some (tupV (rs.map V.d),{s:= [],next:=0,low:=0})):
  PostV (z06 G (.fn f [] []) vs {s:=s,next:=nx,low:=lw}) (fun v st=>v=tupV (rs.map V.d)∧st.next=nx∧Fz1 S s st.s):=by
 cases hf:rs.all D.flat with
 |true=>exact⟨_,_,z5h hG hp hn (zb7 ha) hf h,rfl,rfl,Pz.refl,fun _ _=>rfl⟩
 |false=>
  obtain⟨ys,s',lw',a,b,c⟩:=zu8 (nx:=nx) (lw:=lw) ha
  refine⟨_,{s:=s',next:=nx,low:=lw' },?_,rfl,rfl,c⟩
  have hd:=zb7 ha
  rw[z1m] at h⊢
  simp only[z13,hG,hp,hn,List.nil_append,List.append_nil,Bool.false_and,Bool.false_eq_true,if_false,if_true,z1a,hd] at h⊢
  cases hb:z4r G F (ds.map V.d) {s:= [],next:=0,low:=0} with
  |none=>rw[hb] at h;simp at h
  |some p=>
   obtain⟨ws,st1⟩:=p
   rw[hb] at h
   simp only at h⊢
   cases hr' :z0p st1.s 0 ws with
   |none=>rw[hr'] at h;simp at h
   |some rs' =>
    rw[hr'] at h
    have ht:z0p [] 0 (ds.map V.d)=some ds:=z1a _
    simp only[z39,ht,D.beqL_refl,if_true,ite_self,Option.some.injEq,Prod.mk.injEq,and_true] at h
    have e:=zeu h
    subst e
    simp only[hf,Bool.false_eq_true,if_false,a,b,D.beqL_refl,if_true]
end Go.Lift
namespace Go.Lift.K
open Go Go.Lift
variable{r:RulesT}
def noRules:RulesT:=⟨[],[]⟩
def fresh (r q:RulesT):Bool:=q.rels.all fun x=>decide (z2i r.rels x.name<0)
def z7m  (h:z0l r=0):1≤r.rels.length∧r.rels.length≤8∧r.clauses.length≤24:=by
 unfold z0l at h
 split at h
 ·cases h
 ·rename_i h1
  simp only[not_or] at h1
  omega
def evRR {l:List RelT} {p:RelT→Bool} {fv:V} {s:Sto} {nx lw:Nat} (hl:l.length≤9223372036854775807) (hc:fv.isCell=true) (hv:cellsV fv= [fv]) (h:TellsT G fv s nx RelT.d (· ∈l) p):
  z06 G (.fn 34 [] []) [.d (.sl (l.map RelT.d)),fv] {s:=s,next:=nx,low:=lw} =some (.d (.bool (l.all p)),{s:=s,next:=nx,low:=lw}):=
 z4k (es:=3) (ag:=true) T1.g34 T1.g59 T1.g57 (.inl T1.g60) hc hv hl (fun a _=>z61) h
def zye  (hr:LOk r.rels) {l:List RelT} {s:Sto} {n0 k:Nat} (hk:k<n0) (ho:sget s k=some (.cells [.fn 33 [.d r.d] []])):TellsT G (.fn 35 [] [.ptr k 0]) s n0 RelT.d (· ∈l) (fun x=>decide (z2i r.rels x.name<0)):=by
 intro x _ s' nx lw hs hn
 have hne: (nx=k)=False:=by simp;omega
 have ho' :sget s' k=_:= (hs k hk).trans ho
 have hN:∀(n:Ln) (st:St),z06 G (.fn 33 [.d r.d] []) [.d (.str n)] st=some (.d (.int .i64 (z2i r.rels n)),st):=fun n st=>
  (zdx T1.g33 rfl rfl rfl).trans (z6g hr st)
 refine z5b (first:= []) (args:= [.d x.d]) (cap:= [.ptr k 0]) (us:= [.d (.bool (decide (z2i r.rels x.name<0)))]) T1.g35 rfl rfl rfl (fun e w_len harg=> ?_)
 have w_len:e.length=9:=w_len
 have w_0:e.getD 0 .undef= .d x.d:=harg 0 ψ
 have w_1:e.getD 1 .undef= .ptr k 0:=harg 1 ψ
 clear harg
 simp only[T1.i35,RelT.d,hne,ho',hN,w_len,w_0,w_1,↓LA,LB,simprocAttr]
 exact ru1 (by first|exact Nat.le_refl _|exact z02 (Nat.le_refl _) ω|exact z02 (z02 (Nat.le_refl _) ω) ω) rfl
def zld {α:Type} {a b:α} {p:Nat} : [a,b].take p= []∨ [a,b].take p= [a]∨ [a,b].take p= [a,b]:=by
 match p with
 |0=>exact .inl rfl
 |1=>exact .inr (.inl rfl)
 |p+2=>exact .inr (.inr ψ)
def zi0 (r q:RulesT):RulesT×Int:=if fresh r q=false then (noRules,5) else (⟨r.rels++q.rels,r.clauses++q.clauses⟩,0)
def zlu {q:RulesT} (hr:r.ok) (hq:q.ok) (sr:z43 r) (sq:z43 q) (hr0:z0l r=0) (hq0:z0l q=0) (hfew:fresh r q=true→r.rels.length+q.rels.length≤8∧r.clauses.length+q.clauses.length≤24) (st:St):z06 G (.fn 12 [] []) [.d r.d,.d q.d] st=some (tupV [.d (zi0 r q).1.d,.d (.int .i64 (zi0 r q).2)],st):=by
 have hC1:∀(st:St),z06 G (.fn 32 [] []) [.d (.agg [.sl (r.rels.map RelT.d),.sl (r.clauses.map ClauseT.d)])] st=_:=fun st=>zbo hr st
 have hC2:∀(st:St),z06 G (.fn 32 [] []) [.d (.agg [.sl (q.rels.map RelT.d),.sl (q.clauses.map ClauseT.d)])] st=_:=fun st=>zbo hq st
 rw[hr0] at hC1
 rw[hq0] at hC2
 have rr:=z7m hr0
 have rq:=z7m hq0
 refine z19 (ds:= [r.d,q.d]) (rs:= [(zi0 r q).1.d,.int .i64 (zi0 r q).2]) T1.g12 rfl rfl (fun e w_len harg=> ?_) st
 have w_len:e.length=59:=w_len
 have w_0:=harg 0 ψ
 have w_1:=harg 1 ψ
 clear harg
 simp only[List.map_cons,List.map_nil,List.getD_cons_zero,List.getD_cons_succ] at w_0 w_1
 simp only[T1.i12,RulesT.d,w_len,w_0,w_1,↓LA,LB,simprocAttr]
 refine z0b (fun e0 s0 m env st=>∃(i nxi lwi:Nat) (si:Sto),m=2-i∧(i≤2)∧sget si (0)=some (.cells [.d (.sl (r.rels.map RelT.d)),.d (.sl (r.clauses.map ClauseT.d))])∧sget si (1)=some (.cells [.d (.sl (q.rels.map RelT.d)),.d (.sl (q.clauses.map ClauseT.d))])∧sget si (2)=some (.cells [.nilS,.nilS])∧sget si (6)=some (.cells [.d (.sl (r.rels.map RelT.d)),.d (.sl (r.clauses.map ClauseT.d)),.d (.sl (q.rels.map RelT.d)),.d (.sl (q.clauses.map ClauseT.d))])∧9≤nxi∧0≤lwi∧env.length=59∧env.getD 14 .undef= .d (.int .i64 i)∧env.getD 2 .undef= .ptr 0 0∧env.getD 3 .undef= .ptr 1 0∧env.getD 4 .undef= .ptr 2 0∧env.getD 12 .undef= .arr 6 2 true 0 2∧env.getD 13 .undef= .d (.int .i64 2)∧st= {s:=si,next:=nxi,low:=lwi}) ?_ (2) (by refine⟨0,_,_,_,rfl,ω,?_,?_,?_,?_,ω,Nat.zero_le _,?_,?_,?_,?_,?_,?_,?_,rfl⟩<;>simp (maxDischargeDepth:=60) only[w_len,LB,simprocAttr])
 rintro m env st ⟨i,nxi,lwi,si,hm,a_0,w_ac0,w_ac1,w_ac2,w_ac3,w_ab,w_alo,w_len,w_14,w_2,w_3,w_4,w_12,w_13,rfl⟩
 have w_aN:=aI (cf1 (x:=nxi) (a:=0) ω) (aI (cf1 (x:=nxi) (a:=1) ω) (aI (cf1 (x:=nxi) (a:=2) ω) (cf1 (x:=nxi) (a:=6) ω)))
 have w_aS:=aI (cf2 (x:=nxi) ω w_ac0) (aI (cf2 (x:=nxi) ω w_ac1) (aI (cf2 (x:=nxi) ω w_ac2) (cf2 (x:=nxi) ω w_ac3)))
 have w_aZ:=zf0 (x:=nxi) (n:=9) ω
 have hwa:IntKind.i64.wrap (1:Int)=1:=z23 ω ω
 have hwb:IntKind.i64.wrap (2:Int)=2:=z23 ω ω
 by_cases h0:i=0
 ·subst h0
  simp only[hC1,hwa,w_len,w_14,w_12,w_13,w_ac3,↓LA,LB,simprocAttr]
  exact z09 (by refine⟨_,ω,0+1,_,_,_,rfl,ω,?_,?_,?_,?_,ω,Nat.zero_le _,?_,?_,?_,?_,?_,?_,?_,rfl⟩<;>simp only[w_len,w_2,w_3,w_4,w_12,w_13,w_ac0,w_ac1,w_ac2,w_ac3,w_aN,LB,simprocAttr])
 by_cases h1:i=1
 ·subst h1
  simp only[hC2,hwb,w_len,w_14,w_12,w_13,w_ac3,↓LA,LB,simprocAttr]
  exact z09 (by refine⟨_,ω,1+1,_,_,_,rfl,ω,?_,?_,?_,?_,ω,Nat.zero_le _,?_,?_,?_,?_,?_,?_,?_,rfl⟩<;>simp only[w_len,w_2,w_3,w_4,w_12,w_13,w_ac0,w_ac1,w_ac2,w_ac3,w_aN,LB,simprocAttr])
 have hi2' :¬(i:Int)<2:=ω
 have hE:∀z lw,sget z (nxi+4)=some (.cells [.fn 33 [.d (.agg [.sl (r.rels.map RelT.d),.sl (r.clauses.map ClauseT.d)])] []])→z06 G (.fn 34 [] []) [.d (.sl (q.rels.map RelT.d)),.fn 35 [] [.ptr (nxi+4) 0]] {s:=z,next:=nxi+12,low:=lw} =some (.d (.bool (q.rels.all fun x=>decide (z2i r.rels x.name<0))),{s:=z,next:=nxi+12,low:=lw}):=fun z lw h=>
  evRR ω rfl rfl (zye hr.1.1 ω h)
 cases hf:fresh r q with
 |false=>
  have hS:zi0 r q= (noRules,5):=if_pos hf
  unfold fresh at hf
  simp only[hi2',hE,hf,w_len,w_14,w_2,w_3,w_4,w_13,w_ac0,w_ac1,w_ac2,w_aN,w_aS,↓LA,LB,simprocAttr]
  rw[hS]
  exact rql2 (x:=noRules.d) (y:= .int .i64 5) rfl rfl rfl
 |true=>
  have hS:zi0 r q= (⟨r.rels++q.rels,r.clauses++q.clauses⟩,0):=if_neg (by rw[hf];simp)
  obtain⟨f1,f2⟩:=hfew hf
  unfold fresh at hf
  have hw1:IntKind.i64.wrap ((r.rels.length:Int)+q.rels.length)= (r.rels.length:Int)+q.rels.length:=z23 ω ω
  have hw2:IntKind.i64.wrap ((r.clauses.length:Int)+q.clauses.length)= (r.clauses.length:Int)+q.clauses.length:=z23 ω ω
  have h8:¬(8:Int)< (r.rels.length:Int)+q.rels.length:=ω
  have h24:¬(24:Int)< (r.clauses.length:Int)+q.clauses.length:=ω
  simp only[hi2',hE,hf,hw1,hw2,h8,h24,w_len,w_14,w_2,w_3,w_13,w_ac0,w_ac1,w_aN,↓LA,LB,simprocAttr]
  have hown:=zxe (l:= [r,q]) (by
   intro x hx
   simp at hx
   rcases hx with rfl|rfl
   ·exact⟨sr,ω⟩
   ·exact⟨sq,ω⟩) (Nat.le_refl _) (by
   intro p
   rcases zld (a:=r) (b:=q) (p:=p) with h|h|h<;>rw[h]<;>simp[z2y]<;>omega) (by
   intro p
   rcases zld (a:=r) (b:=q) (p:=p) with h|h|h<;>rw[h]<;>simp[z1e]<;>omega) {s:= [],next:=0,low:=0}
  have e1:z2y [r,q]=r.rels++q.rels:=by simp[z2y]
  have e2:z1e [r,q]=r.clauses++q.clauses:=by simp[z1e]
  rw[e1,e2] at hown
  refine z0d (z2u (nx:=nxi+37) T1.g36 rfl rfl (vs:= [.arr (nxi+33) 2 true 0 2]) (ds:= [.sl ([r,q].map RulesT.d)]) (rs:= [(RulesT.mk (r.rels++q.rels) (r.clauses++q.clauses)).d]) (S:= (· =nxi+33)) ⟨.inl (.inr (.inr ⟨nxi+33,2,true,[r,q].map RulesT.d,rfl,rfl,rfl,ω,(fun x hx=>by obtain⟨y,_,rfl⟩:=List.mem_map.1 hx;exact .inl ⟨rfl,_,rfl,rfl,rfl⟩),.inl ⟨_,z03,⟨CZ.ofD,CZ.ofD,CZ.ofD,CZ.ofD,trivial⟩⟩⟩)),trivial⟩ hown) fun v st hR=> ?_
  obtain⟨rfl,hn,hz⟩:=hR
  obtain⟨s2,n2,lw2⟩:=st
  have w_z2:sget s2 2=some (.cells [.nilS,.nilS]):= (hz.2 2 ω).trans ((z00 ω).trans ((z00 ω).trans w_ac2))
  simp only[List.map_cons,List.map_nil,tupV,RulesT.d,w_len,w_4,w_z2,↓LA,LB,simprocAttr]
  rw[hS]
  exact rql2 (x:= (RulesT.mk (r.rels++q.rels) (r.clauses++q.clauses)).d) (y:= .int .i64 0) rfl rfl rfl
end Go.Lift.K
namespace Go.Lift
open Go
variable{G:Nat→Option IFun}{f:Nat}{F:IFun}{ds rs:Ld}
abbrev Ent:=Nat×List D×List D
def St.nul:St:= {s:= [],next:=0,low:=0}
def Good (G:Nat→Option IFun) (e:Ent):Prop:=∃F,G e.1=some F∧F.pure=true∧F.nil2=false∧z06 G (.fn e.1 [] []) (e.2.1.map V.d) St.nul=some (tupV (e.2.2.map V.d),St.nul)
def zp1:List Ent→Nat→List D→Option (List D)
 | [],_,_=>none
 | (f',ds',rs)::T,f,ds=>cond (Nat.beq f f') (cond (D.beqL ds ds') (some rs) (zp1 T f ds)) (zp1 T f ds)
def hasF:List Ent→Nat→Bool
 | [],_=>false
 | (f',_,_)::T,f=>cond (Nat.beq f f') true (hasF T f)
def zsr (T:List Ent):y57:=fun f=>cond (hasF T f) (some fun first args cap st=>match first,cap with
 | [],[]=>match z0p st.s 0 args with
  |none=>none
  |some ds=>match zp1 T f ds with
   |none=>none
   |some rs=>cond (rs.all D.flat) (some (tupV (rs.map V.d),st)) (match frzL (frz z0e) st args with
    |none=>none
    |some (ys,st2)=>match z0p [] 0 ys with
     |none=>none
     |some es=>cond (D.beqL es ds) (some (tupV (rs.map V.d),st2)) none)
 |_,_=>none) none
def zc1:∀{T:List Ent} {f:Nat} {ds rs:List D},zp1 T f ds=some rs→(f,ds,rs)∈T
 | [],_,_,_,h=>by cases h
 | (f',ds',rs')::T,f,ds,rs,h=>by
  simp only[zp1] at h
  cases h1:Nat.beq f f' with
  |false=>rw[h1] at h;exact List.mem_cons_of_mem _ (zc1 h)
  |true=>
   rw[h1] at h
   cases h2:D.beqL ds ds' with
   |false=>rw[h2] at h;exact List.mem_cons_of_mem _ (zc1 h)
   |true=>
    rw[h2] at h
    cases h
    rw[Nat.eq_of_beq_eq_true h1,D.eq_of_beqL h2]
    exact List.mem_cons_self
def zqg:∀{rs rs' :Ld},tupV (rs'.map V.d)=tupV (rs.map V.d)→rs' =rs:=by
 intro rs rs' e
 match rs',rs,e with
 | [],[],_=>rfl
 | [a],[b],e=>simp[tupV] at e;rw[e]
 | [],[b],e=>simp[tupV] at e
 | [],b::c::r,e=>simp[tupV] at e
 | [a],[],e=>simp[tupV] at e
 | [a],b::c::r,e=>simp[tupV] at e
 |a::b::r,[],e=>simp[tupV] at e
 |a::b::r,[c],e=>simp[tupV] at e
 |a::b::r,c::d::q,e=>
  simp only[List.map_cons,tupV,V.tup.injEq,List.cons.injEq,V.d.injEq] at e
  obtain⟨rfl,rfl,e⟩:=e
  congr 2
  exact (List.map_inj_right (by intro x y h;cases h;rfl)).1 e
def zak    (hG:G f=some F) (hp:F.pure=true) (hn:F.nil2=false)  {st:St}
  (h:z06 G (.fn f [] []) (ds.map V.d) St.nul=some (tupV (rs.map V.d),St.nul)):
  z06 G (.fn f [] []) (ds.map V.d) st=some (tupV (rs.map V.d),st):=by
 unfold St.nul at h
 rw[z1m] at h⊢
 simp only[z13,hG,hp,hn,List.nil_append,List.append_nil,Bool.false_and,Bool.false_eq_true,if_false,if_true,z1a] at h⊢
 cases hb:z4r G F (ds.map V.d) {s:= [],next:=0,low:=0} with
 |none=>rw[hb] at h;simp at h
 |some p=>
  obtain⟨vs,st1⟩:=p
  rw[hb] at h
  simp only at h⊢
  cases hr:z0p st1.s 0 vs with
  |none=>rw[hr] at h;simp at h
  |some rs' =>
   rw[hr] at h
   simp only[z39,z1a,D.beqL_refl,if_true,ite_self,Option.some.injEq,Prod.mk.injEq,and_true] at h⊢
   exact h
def zy1    (hG:G f=some F) (hp:F.pure=true) (hn:F.nil2=false) {args ys:Lv} {es:Ld} {st st2:St} (ha:z0p st.s 0 args=some ds) (hfl:rs.all D.flat=false)
  (hz:frzL (frz z0e) st args=some (ys,st2)) (he:z0p [] 0 ys=some es) (hb:D.beqL es ds=true) (h:z06 G (.fn f [] []) (ds.map V.d) St.nul=some (tupV (rs.map V.d),St.nul)):
  z06 G (.fn f [] []) args st=some (tupV (rs.map V.d),st2):=by
 unfold St.nul at h
 rw[z1m] at h⊢
 simp only[z13,hG,hp,hn,List.nil_append,List.append_nil,Bool.false_and,Bool.false_eq_true,if_false,if_true,z1a,ha] at h⊢
 cases hb' :z4r G F (ds.map V.d) {s:= [],next:=0,low:=0} with
 |none=>rw[hb'] at h;simp at h
 |some p=>
  obtain⟨vs,st1⟩:=p
  rw[hb'] at h
  simp only at h⊢
  cases hr:z0p st1.s 0 vs with
  |none=>rw[hr] at h;simp at h
  |some rs' =>
   rw[hr] at h
   have ht:z0p [] 0 (ds.map V.d)=some ds:=z1a ds
   simp only[z39,ht,D.beqL_refl,if_true,ite_self,Option.some.injEq,Prod.mk.injEq,and_true] at h
   have e:rs' =rs:=zqg h
   rw[e]
   simp only[hfl,Bool.false_eq_true,if_false,hz,he,hb,if_true]
def y39  {T:List Ent} (hT:∀e∈T,Good G e):∀f g first args cap st r,zsr T f=some g→g first args cap st=some r→z06 G (.fn f first cap) args st=some r:=by
 intro f g first args cap st r hg h
 unfold zsr at hg
 cases hf:hasF T f with
 |false=>rw[hf] at hg;cases hg
 |true=>
  rw[hf] at hg
  cases hg
  match first,cap with
  | [],[]=>
   simp only at h
   cases hd:z0p st.s 0 args with
   |none=>rw[hd] at h;cases h
   |some ds=>
    rw[hd] at h
    simp only at h
    cases hl:zp1 T f ds with
    |none=>rw[hl] at h;cases h
    |some rs=>
     rw[hl] at h
     simp only at h
     obtain⟨F,h1,h2,h3,h4⟩:=hT _ (zc1 hl)
     cases hfl:rs.all D.flat with
     |true=>
      rw[hfl] at h
      cases h
      exact z5h h1 h2 h3 hd hfl h4
     |false=>
      rw[hfl] at h
      simp only[cond_false] at h
      cases hz:frzL (frz z0e) st args with
      |none=>rw[hz] at h;cases h
      |some p=>
       obtain⟨ys,st2⟩:=p
       rw[hz] at h
       simp only at h
       cases he:z0p [] 0 ys with
       |none=>rw[he] at h;cases h
       |some es=>
        rw[he] at h
        simp only at h
        cases hb:D.beqL es ds with
        |false=>rw[hb] at h;cases h
        |true=>
         rw[hb] at h
         cases h
         exact zy1 h1 h2 h3 hd hfl hz he hb h4
  |_::_,_=>cases h
  | [],_::_=>cases h
def z5x  {T:List Ent} (hT:∀e∈T,Good G e) {m n:Nat}   (h1:G f=some F) (h2:F.pure=true) (h3:F.nil2=false)
  (h:zde G (zsr T) m n (.fn f [] []) (ds.map V.d) St.nul=some (tupV (rs.map V.d),St.nul)):Good G (f,ds,rs):=
 ⟨F,h1,h2,h3,zzl (y39 hT) n _ _ _ _ h⟩
theorem all_nil  :∀e∈([]:List Ent),Good G e:=fun _ h=>by cases h
theorem all_cons  {e:Ent} {T:List Ent} (h:Good G e) (hT:∀e∈T,Good G e):∀x∈e::T,Good G x:=fun x hx=> (List.mem_cons.1 hx).elim (fun h' =>h' ▸h) (hT x)
end Go.Lift
namespace Go.Lift.K
open Go Go.Lift T1
def itoS (n:Nat):List Nat:=if n<10 then [48+n] else [48+n/10,48+n%10]
def itx {n:Nat} {st:St} (h:zde T1.G (zsr []) 1000 100 (.fn 127 [] []) [.d (.int .i64 (n:Nat))] St.nul=some (.d (.str (itoS n)),St.nul):=by kernel_rfl):z06 T1.G (.fn 127 [] []) [.d (.int .i64 (n:Nat))] st=some (.d (.str (itoS n)),st):=by
 obtain⟨F,h1,h2,h3,h4⟩:=z5x (T:= []) all_nil (ds:= [.int .i64 (n:Nat)]) (rs:= [.str (itoS n)]) T1.g127 rfl rfl h
 exact zak (ds:= [_]) (rs:= [_]) h1 h2 h3 h4
def y3x {n:Nat} (h:n<60) (st:St):z06 T1.G (.fn 127 [] []) [.d (.int .i64 (n:Nat))] st=some (.d (.str (itoS n)),st):=by
 match n,h with
 |0,_=>exact itx
 |1,_=>exact itx
 |2,_=>exact itx
 |3,_=>exact itx
 |4,_=>exact itx
 |5,_=>exact itx
 |6,_=>exact itx
 |7,_=>exact itx
 |8,_=>exact itx
 |9,_=>exact itx
 |10,_=>exact itx
 |11,_=>exact itx
 |12,_=>exact itx
 |13,_=>exact itx
 |14,_=>exact itx
 |15,_=>exact itx
 |16,_=>exact itx
 |17,_=>exact itx
 |18,_=>exact itx
 |19,_=>exact itx
 |20,_=>exact itx
 |21,_=>exact itx
 |22,_=>exact itx
 |23,_=>exact itx
 |24,_=>exact itx
 |25,_=>exact itx
 |26,_=>exact itx
 |27,_=>exact itx
 |28,_=>exact itx
 |29,_=>exact itx
 |30,_=>exact itx
 |31,_=>exact itx
 |32,_=>exact itx
 |33,_=>exact itx
 |34,_=>exact itx
 |35,_=>exact itx
 |36,_=>exact itx
 |37,_=>exact itx
 |38,_=>exact itx
 |39,_=>exact itx
 |40,_=>exact itx
 |41,_=>exact itx
 |42,_=>exact itx
 |43,_=>exact itx
 |44,_=>exact itx
 |45,_=>exact itx
 |46,_=>exact itx
 |47,_=>exact itx
 |48,_=>exact itx
 |49,_=>exact itx
 |50,_=>exact itx
 |51,_=>exact itx
 |52,_=>exact itx
 |53,_=>exact itx
 |54,_=>exact itx
 |55,_=>exact itx
 |56,_=>exact itx
 |57,_=>exact itx
 |58,_=>exact itx
 |59,_=>exact itx
 |n+60,h=>omega
def zyg {n m:Nat} (hn:n<100) (hm:m<100) (h:itoS n=itoS m):n=m:=by
 unfold itoS at h
 by_cases h1:n<10<;>by_cases h2:m<10<;>simp[h1,h2] at h<;>omega
end Go.Lift.K
namespace Go.Lift.K
open Go Go.Lift
variable{i x y k:Nat}{a b:Lk}{o ks l:Ln}
def nd (ns:List NodeT) (i:Nat):NodeT:=ns.getD i ⟨[],[]⟩
def kds (ns:List NodeT) (i:Nat):List Nat:= (nd ns i).kids.map Int.toNat
def kid (ns:List NodeT) (i j:Nat):Nat:= (kds ns i).getD j 0
theorem z2j {ns:Lk}  (h:i<ns.length):nd ns i=ns[i]:=by simp[nd,h]
theorem z3g {ns:Lk}  : (kds ns i).length= (nd ns i).kids.length:=by simp[kds]
def ap (a b:List NodeT):Nat→Nat→Nat→Prop
 |0,_,_=>True
 |n+1,x,y=> (nd a x).name= (nd b y).name∧(nd a x).kids.length= (nd b y).kids.length∧∀j,j< (nd a x).kids.length→ap a b n (kid a x j) (kid b y j)
def bis (a b:List NodeT) (x y:Nat):Prop:=∀n,ap a b n x y
theorem z9n {a:List NodeT} :∀{n x:Nat},ap a a n x x
 |0,_=>trivial
 |_+1,_=>⟨rfl,rfl,fun _ _=>z9n⟩
def zl9 {a b:List NodeT} :∀{n x y:Nat},ap a b n x y→ap b a n y x
 |0,_,_,_=>trivial
 |_+1,_,_,⟨h1,h2,h3⟩=>⟨h1.symm,h2.symm,fun j hj=>zl9 (h3 j (h2▸hj))⟩
def zgn {a b c:List NodeT} :∀{n x y z:Nat},ap a b n x y→ap b c n y z→ap a c n x z
 |0,_,_,_,_,_=>trivial
 |_+1,_,_,_,⟨h1,h2,h3⟩,⟨k1,k2,k3⟩=>⟨h1.trans k1,h2.trans k2,fun j hj=>zgn (h3 j hj) (k3 j (h2▸hj))⟩
def zd7 {a b:List NodeT} :∀{n x y:Nat},ap a b (n+1) x y→ap a b n x y
 |0,_,_,_=>trivial
 |_+1,_,_,⟨h1,h2,h3⟩=>⟨h1,h2,fun j hj=>zd7 (h3 j hj)⟩
def z42   :bis a a x x:=fun _=>z9n
def z3m   (h:bis a b x y):bis b a y x:=fun n=>zl9 (h n)
def z2g {c:Lk} {z:Nat} (h:bis a b x y) (k:bis b c y z):bis a c x z:=fun n=>zgn (h n) (k n)
def z67   (h:bis a b x y): (nd a x).name= (nd b y).name∧(nd a x).kids.length= (nd b y).kids.length∧∀j,j< (nd a x).kids.length→bis a b (kid a x j) (kid b y j):=
 ⟨(h 1).1,(h 1).2.1,fun j hj n=> (h (n+1)).2.2 j hj⟩
def znt  {R:Nat→Nat→Prop} (hR:∀x y,R x y→(nd a x).name= (nd b y).name∧(nd a x).kids.length= (nd b y).kids.length∧∀j,j< (nd a x).kids.length→R (kid a x j) (kid b y j))  (h:R x y):bis a b x y:=by
 intro n
 induction n generalizing x y with
 |zero=>trivial
 |succ n ih=>exact⟨(hR x y h).1,(hR x y h).2.1,fun j hj=>ih ((hR x y h).2.2 j hj)⟩
open Classical in
noncomputable def addE (E:Nat→Nat→Prop):List Nat→List Nat→List Nat
 |o,[]=>o
 |o,k::ks=>addE E (if ∃r∈o,E r k then o else o++ [k]) ks
section
variable {E:Nat→Nat→Prop}
theorem z2z   (h:∃r∈o,E r k):addE E o (k::ks)=addE E o ks:=by rw[addE,if_pos h]
theorem z1v   (h:¬∃r∈o,E r k):addE E o (k::ks)=addE E (o++ [k]) ks:=by rw[addE,if_neg h]
theorem z2b:∀{o ks ms:List Nat},addE E o (ks++ms)=addE E (addE E o ks) ms
 |_,[],_=>rfl
 |o,k::ks,ms=>by
  rw[List.cons_append,addE,addE]
  exact z2b
theorem zj3   :addE E o (ks++ [k])=addE E (addE E o ks) [k]:=z2b
def z2a:∀{o ks:List Nat},∃m,addE E o ks=o++m
 |o,[]=>⟨[],by simp[addE]⟩
 |o,k::ks=>by
  by_cases h:∃r∈o,E r k
  ·rw[z2z h];exact z2a
  ·rw[z1v h]
   obtain⟨m,hm⟩:=z2a (o:=o++ [k]) (ks:=ks)
   exact⟨[k]++m,by rw[hm,List.append_assoc]⟩
def z78:∀{o ks:List Nat} {x:Nat},x∈addE E o ks→x∈o∨x∈ks
 |_,[],_,h=> .inl h
 |o,k::ks,x,h=>by
  by_cases hk:∃r∈o,E r k
  ·rw[z2z hk] at h
   exact (z78 h).imp id (fun h=>by simp[h])
  ·rw[z1v hk] at h
   rcases z78 h with h|h
   ·rw[List.mem_append,List.mem_singleton] at h
    exact h.imp id (fun h=>by simp[h])
   ·exact .inr (by simp[h])
def zb1   (h:x∈o):x∈addE E o ks:=by
 obtain⟨m,hm⟩:=z2a (E:=E) (o:=o) (ks:=ks)
 rw[hm];simp[h]
theorem z4a (hr:∀x,E x x):∀{o ks:List Nat} {x:Nat},x∈ks→∃r∈addE E o ks,E r x
 |o,k::ks,x,h=>by
  by_cases hk:∃r∈o,E r k
  ·rw[z2z hk]
   rcases List.mem_cons.1 h with rfl|h
   ·obtain⟨r,h1,h2⟩:=hk;exact⟨r,zb1 h1,h2⟩
   ·exact z4a hr h
  ·rw[z1v hk]
   rcases List.mem_cons.1 h with rfl|h
   ·exact⟨x,zb1 ψ,hr x⟩
   ·exact z4a hr h
def zgp:∀{o ks:List Nat},o.Pairwise (fun x y=>¬E x y)→(addE E o ks).Pairwise (fun x y=>¬E x y)
 |_,[],h=>h
 |o,k::ks,h=>by
  by_cases hk:∃r∈o,E r k
  ·rw[z2z hk];exact zgp h
  ·rw[z1v hk]
   refine zgp (List.pairwise_append.2 ⟨h,by simp,fun a ha b hb=> ?_⟩)
   rw[List.mem_singleton] at hb
   subst hb
   exact fun e=>hk ⟨a,ha,e⟩
theorem zgq:∀{o ks:List Nat},(∀k∈ks,∃r∈o,E r k)→addE E o ks=o
 |_,[],_=>rfl
 |o,k::ks,h=>by rw[z2z (h k ψ)];exact zgq fun x hx=>h x (by simp[hx])
end
noncomputable def reps (E:Nat→Nat→Prop) (l:List Nat):List Nat:=addE E [] l
theorem zf8 {E:Nat→Nat→Prop} (hr:∀x,E x x):∀{ks o:List Nat},reps E (addE Eq o ks)=addE E (reps E o) ks
 | [],_=>rfl
 |k::ks,o=>by
  by_cases h:k∈o
  ·rw[z2z (E:=Eq) ⟨k,h,rfl⟩,z2z (E:=E) (o:=reps E o) (z4a hr h)]
   exact zf8 hr
  ·rw[z1v (E:=Eq) (by rintro⟨r,h1,rfl⟩;exact h h1),zf8 hr]
   have h1:reps E (o++ [k])=addE E (reps E o) [k]:=z2b
   rw[h1,←z2b]
   rfl
def zjk {E:Nat→Nat→Prop}  : (reps E l).Pairwise (fun x y=>¬E x y):=zgp ψ
def zaj {E:Nat→Nat→Prop}   (h:x∈reps E l):x∈l:= (z78 h).resolve_left ψ
def z2s {E:Nat→Nat→Prop} (hr:∀x,E x x)   (h:x∈l):∃r∈reps E l,E r x:=z4a hr h
inductive Run (E:Nat→Nat→Prop) (ns:List NodeT):Nat→List Nat→List Nat→Prop
 |stop {o:List Nat} :Run E ns o.length o o
 |step {i:Nat} {o l:List Nat} (h:i<o.length) (r:Run E ns (i+1) (addE E o (kds ns o[i])) l):Run E ns i o l
def Run.end_ {E:Nat→Nat→Prop} {ns:Lk}   (h:Run E ns i o l) (hi:¬i<o.length):l=o:=by
 cases h with
 |stop=>rfl
 |step h _=>exact absurd h hi
def Run.next {E:Nat→Nat→Prop} {ns:Lk}   (h:Run E ns i o l) (hi:i<o.length):Run E ns (i+1) (addE E o (kds ns o[i])) l:=by
 cases h with
 |stop=>exact absurd hi (Nat.lt_irrefl _)
 |step _ r=>exact r
def Run.pre {E:Nat→Nat→Prop} {ns:Lk}   (h:Run E ns i o l):∃m,l=o++m:=by
 induction h with
 |stop=>exact⟨[],by simp⟩
 | @step i o l h r ih=>
  obtain⟨m,hm⟩:=ih
  obtain⟨m',hm'⟩:=z2a (E:=E) (o:=o) (ks:=kds ns o[i])
  exact⟨m' ++m,by rw[hm,hm',List.append_assoc]⟩
def z4u:∀{n:Nat} {l:List Nat},l.Nodup→(∀x∈l,x<n)→l.length≤n
 |0,l,_,h=>by
  cases l with
  |nil=>simp
  |cons a l=>exact absurd (h a ψ) (Nat.not_lt_zero _)
 |n+1,l,hd,h=>by
  have h1: (l.erase n).length≤n:=z4u (hd.erase n) fun x hx=>by
   have:= (hd.mem_erase_iff).1 hx
   have:=h x this.2
   have:=this
   omega
  have h2:l.length≤(l.erase n).length+1:=by
   rw[List.length_erase];split<;>omega
  omega
def z99  (h:o.Nodup): (addE Eq o ks).Nodup:=zgp (E:=Eq) h
def Rt (ns:List NodeT):Prop:=∀i,i<ns.length→∀k∈kds ns i,k<ns.length
def y0c {ns:List NodeT} (hn:Rt ns):∀{f i:Nat} {o:List Nat},o.Nodup→(∀x∈o,x<ns.length)→i≤o.length→ns.length<f+i→∃l,Run Eq ns i o l
 |0,i,o,h1,h2,h3,h4=>by have:=z4u h1 h2;omega
 |f+1,i,o,h1,h2,h3,h4=>by
  by_cases hi:i<o.length
  ·have hx:=h2 o[i] (List.getElem_mem hi)
   obtain⟨l,hl⟩:=y0c hn (f:=f) (i:=i+1) (o:=addE Eq o (kds ns o[i])) (z99 h1) (fun x hx' => (z78 hx').elim (h2 x) (hn _ hx x)) (by obtain⟨m,hm⟩:=z2a (E:=Eq) (o:=o) (ks:=kds ns o[i]);rw[hm,List.length_append];omega) ω
   exact⟨l,.step hi hl⟩
  ·have:i=o.length:=ω
   subst this
   exact⟨o,.stop⟩
open Classical in
noncomputable def z3e (ns:List NodeT) (r:Nat):List Nat:=if h:∃l,Run Eq ns 0 [r] l then h.choose else []
def zbl {ns:Lk} (hn:Rt ns) {r:Nat} (hr:r<ns.length):Run Eq ns 0 [r] (z3e ns r):=by
 have h:∃l,Run Eq ns 0 [r] l:=y0c hn (f:=ns.length+1) ψ (by simpa using hr) ψ ω
 unfold z3e
 rw[dif_pos h]
 exact h.choose_spec
def y2d {ns:Lk} (hn:Rt ns)   (h:Run Eq ns i o l):o.Nodup→(∀x∈o,x<ns.length)→(∀j (hj:j<o.length),j<i→∀k∈kds ns o[j],k∈o)→
  l.Nodup∧(∀x∈l,x<ns.length)∧∀x∈l,∀k∈kds ns x,k∈l:=by
 induction h with
 | @stop o=>
  intro h1 h2 h3
  refine⟨h1,h2,fun x hx k hk=> ?_⟩
  obtain⟨j,hj,rfl⟩:=List.mem_iff_getElem.1 hx
  exact h3 j hj hj k hk
 | @step i o l hi r ih=>
  intro h1 h2 h3
  obtain⟨m,hm⟩:=z2a (E:=Eq) (o:=o) (ks:=kds ns o[i])
  refine ih (z99 h1) (fun x hx=> (z78 hx).elim (h2 x) (hn _ (h2 _ (List.getElem_mem hi)) x)) fun j hj hji k hk=> ?_
  have hjo:j<o.length:=ω
  have e: (addE Eq o (kds ns o[i]))[j]=o[j]:=by simp only[hm];exact List.getElem_append_left hjo
  rw[e] at hk
  by_cases hj' :j<i
  ·exact zb1 (h3 j hjo hj' k hk)
  ·have:j=i:=ω
   subst this
   obtain⟨r,h1,rfl⟩:=z4a (E:=Eq) (fun _=>rfl) (o:=o) hk
   exact h1
section
variable {ns:List NodeT} {r:Nat}
def z26 (hn:Rt ns) (hr:r<ns.length): (z3e ns r).Nodup∧(∀x∈z3e ns r,x<ns.length)∧(∀x∈z3e ns r,∀k∈kds ns x,k∈z3e ns r)∧∃m,z3e ns r=r::m:=by
 have h:=zbl hn hr
 obtain⟨h1,h2,h3⟩:=y2d hn h ψ (by simpa using hr) (fun j hj h=>ω)
 obtain⟨m,hm⟩:=h.pre
 exact⟨h1,h2,h3,m,hm⟩
def zhg (hn:Rt ns) (hr:r<ns.length): (z3e ns r).length≤ns.length:=z4u (z26 hn hr).1 (z26 hn hr).2.1
end
end Go.Lift.K
namespace Go.Lift.K
open Go Go.Lift Classical
variable{i n:Nat}{a b:Lk}{F:Nat→Nat→Prop}
structure Cg (ns:List NodeT) (E:Nat→Nat→Prop):Prop where
 refl:∀x,E x x
 symm:∀{x y},E x y→E y x
 trans:∀{x y z},E x y→E y z→E x z
 low:∀{x y},E x y→∀k∈kds ns y,∃j∈kds ns x,E j k
def z3w {ns:Lk} {x j:Nat} (h:j< (nd ns x).kids.length):kid ns x j∈kds ns x:=by
 have h' :j< (kds ns x).length:=by rw[z3g];exact h
 unfold kid
 rw[List.getD_eq_getElem?_getD,List.getElem?_eq_getElem h',Option.getD_some]
 exact List.getElem_mem h'
def y3a {ns:Lk} {x k:Nat} (h:k∈kds ns x):∃j,j< (nd ns x).kids.length∧kid ns x j=k:=by
 obtain⟨j,hj,rfl⟩:=List.mem_iff_getElem.1 h
 exact⟨j,by rw[←z3g];exact hj,by unfold kid;rw[List.getD_eq_getElem?_getD,List.getElem?_eq_getElem hj,Option.getD_some]⟩
def y82 {ns:Lk} :Cg ns (bis ns ns) where
 refl _:=z42
 symm:=z3m
 trans:=z2g
 low {x y} h k hk:=by
  obtain⟨h1,h2,h3⟩:=z67 h
  obtain⟨j,hj,rfl⟩:=y3a hk
  exact⟨kid ns x j,z3w (h2▸hj),h3 j (h2▸hj)⟩
def zwz {ns:Lk} {E:Nat→Nat→Prop} (c:Cg ns E)  {o l:Ln} (h:Run Eq ns i o l): (∀j (hj:j<o.length),j<i→∀k∈kds ns o[j],k∈o)→Run E ns (reps E (o.take i)).length (reps E o) (reps E l):=by
 induction h with
 | @stop o=>intro _;rw[List.take_length];exact .stop
 | @step i o l hi r ih=>
  intro h3
  obtain⟨m,hm⟩:=z2a (E:=Eq) (o:=o) (ks:=kds ns o[i])
  have hcl:∀j (hj:j< (addE Eq o (kds ns o[i])).length),j<i+1→∀k∈kds ns (addE Eq o (kds ns o[i]))[j],k∈addE Eq o (kds ns o[i]):=by
   intro j hj hji k hk
   have hjo:j<o.length:=ω
   have e: (addE Eq o (kds ns o[i]))[j]=o[j]:=by simp only[hm];exact List.getElem_append_left hjo
   rw[e] at hk
   by_cases hj' :j<i
   ·exact zb1 (h3 j hjo hj' k hk)
   ·have:j=i:=ω
    subst this
    obtain⟨r,h1,rfl⟩:=z4a (E:=Eq) (fun _=>rfl) (o:=o) hk
    exact h1
  have ih' :=ih hcl
  rw[zf8 c.refl] at ih'
  have ht: (addE Eq o (kds ns o[i])).take (i+1)=o.take i++ [o[i]]:=by
   rw[hm,List.take_append_of_le_length ω,List.take_add_one,List.getElem?_eq_getElem hi];rfl
  rw[ht] at ih'
  by_cases hx:∃r∈reps E (o.take i),E r o[i]
  ·
   have e1:reps E (o.take i++ [o[i]])=reps E (o.take i):=by
    unfold reps
    rw[z2b]
    exact zgq (fun k hk=>by rw[List.mem_singleton] at hk;subst hk;exact hx)
   have e2:addE E (reps E o) (kds ns o[i])=reps E o:=zgq fun k hk=>by
    obtain⟨r,hr,he⟩:=hx
    have hr' :=zaj hr
    obtain⟨j,hj,rfl⟩:=List.mem_iff_getElem.1 hr'
    have hj2:j<i:=by rw[List.length_take] at hj;omega
    have hj3:j<o.length:=ω
    rw[List.getElem_take] at he
    obtain⟨q,hq,hqe⟩:=c.low he k hk
    obtain⟨p,hp,hpe⟩:=z2s c.refl (h3 j hj3 hj2 q hq)
    exact⟨p,hp,c.trans hpe hqe⟩
   rw[e1,e2] at ih'
   exact ih'
  ·have e1:reps E (o.take i++ [o[i]])=reps E (o.take i)++ [o[i]]:=by
    unfold reps at hx⊢
    rw[z2b,z1v hx];rfl
   obtain⟨m',hm'⟩:=z2a (E:=E) (o:=reps E (o.take i++ [o[i]])) (ks:=o.drop (i+1))
   have e2:reps E o=reps E (o.take i)++o[i]::m' :=by
    have:o=o.take i++ [o[i]]++o.drop (i+1):=by simp
    have h4:reps E o=reps E (o.take i++ [o[i]]++o.drop (i+1)):=by rw[←this]
    rw[h4]
    unfold reps at hm' ⊢
    rw[z2b,hm']
    unfold reps at e1
    rw[e1];simp
   have hlt: (reps E (o.take i)).length< (reps E o).length:=by rw[e2];simp
   have hat: (reps E o)[(reps E (o.take i)).length]=o[i]:=by simp only[e2];simp
   rw[e1,List.length_append,List.length_singleton] at ih'
   refine .step hlt ?_
   rw[hat]
   exact ih'
def al (a b:List NodeT) (l m:List Nat):Prop:=l.length=m.length∧∀i (h1:i<l.length) (h2:i<m.length),bis a b l[i] m[i]
def zla  {x y:Nat} {l m:Ln} :al a b (x::l) (y::m)↔bis a b x y∧al a b l m:=by
 constructor
 ·intro⟨h1,h2⟩
  refine⟨h2 0 ψ ψ,by simpa using h1,fun i h3 h4=> ?_⟩
  exact h2 (i+1) (by simp;omega) (by simp;omega)
 ·intro⟨h1,h2,h3⟩
  refine⟨by simp[h2],fun i h4 h5=> ?_⟩
  cases i with
  |zero=>exact h1
  |succ i=>exact h3 i (by simp at h4;omega) (by simp at h5;omega)
def y51  {x y:Nat} {l m:Ln} (h:al a b l m) (hx:bis a b x y):al a b (l++ [x]) (m++ [y]):=by
 refine⟨by simp[h.1],fun i h1 h2=> ?_⟩
 by_cases hi:i<l.length
 ·have hj:i<m.length:=by rw[←h.1];exact hi
  rw[List.getElem_append_left hi,List.getElem_append_left hj]
  exact h.2 i hi hj
 ·have e:i=l.length:=by simp at h1;omega
  subst e
  have e2:=h.1
  have: (m++ [y])[l.length]=y:=by simp[e2]
  rw[this]
  simpa using hx
def y87  {x y:Nat} {l m:Ln} (h:al a b l m) (hx:bis a b x y) (he:∃r∈l,bis a a r x):∃r∈m,bis b b r y:=by
 obtain⟨r,hr,h1⟩:=he
 obtain⟨i,hi,rfl⟩:=List.mem_iff_getElem.1 hr
 have hj:i<m.length:=by rw[←h.1];exact hi
 exact⟨m[i],List.getElem_mem hj,z2g (z3m (h.2 i hi hj)) (z2g h1 hx)⟩
def y50  {l m:Ln} (h:al a b l m):al b a m l:=⟨h.1.symm,fun i h1 h2=>z3m (h.2 i h2 h1)⟩
def zvx {a b:List NodeT} :∀{ks ms o p:List Nat},al a b ks ms→al a b o p→al a b (addE (bis a a) o ks) (addE (bis b b) p ms)
 | [],[],_,_,_,h=>h
 | [],_::_,_,_,h,_=>by simp[al] at h
 |_::_,[],_,_,h,_=>by simp[al] at h
 |k::ks,m::ms,o,p,h,ho=>by
  rw[zla] at h
  by_cases hk:∃r∈o,bis a a r k
  ·rw[z2z hk,z2z (y87 ho h.1 hk)]
   exact zvx h.2 ho
  ·have hm:¬∃r∈p,bis b b r m:=fun e=>hk (y87 (y50 ho) (z3m h.1) e)
   rw[z1v hk,z1v hm]
   exact zvx h.2 (y51 ho h.1)
def y1u  {x y:Nat} (h:bis a b x y):al a b (kds a x) (kds b y):=by
 obtain⟨h1,h2,h3⟩:=z67 h
 refine⟨by rw[z3g,z3g,h2],fun i hi hj=> ?_⟩
 have:=h3 i (by rw[←z3g];exact hi)
 unfold kid at this
 simpa [List.getD_eq_getElem?_getD,hi,hj] using this
def y86   {o l:Ln} (h:Run (bis a a) a i o l):∀{p m:Ln},Run (bis b b) b i p m→al a b o p→al a b l m:=by
 induction h with
 | @stop o=>
  intro p m hm ho
  rw[hm.end_ (by rw[ho.1];omega)]
  exact ho
 | @step i o l hi r ih=>
  intro p m hm ho
  have hj:i<p.length:=by rw[←ho.1];exact hi
  exact ih (hm.next hj) (zvx (y1u (ho.2 i hi hj)) ho)
noncomputable def cls (E:Nat→Nat→Prop) (R:List Nat) (x:Nat):Nat:=R.findIdx fun r=>decide (E r x)
noncomputable def z28 (ns:List NodeT) (r:Nat):List Nat:=reps (bis ns ns) (z3e ns r)
noncomputable def z3x (ns:List NodeT) (R:List Nat) (x:Nat):NodeT:=⟨(nd ns x).name,(kds ns x).map fun k=> ((cls (bis ns ns) R k:Nat):Int)⟩
noncomputable def z0t (ns:List NodeT) (r:Nat):List NodeT:= (z28 ns r).map (z3x ns (z28 ns r))
noncomputable def z1o (t:TreeT):TreeT:=⟨z0t t.nodes t.root.toNat,0⟩
def z8g {ns:Lk} (hn:Rt ns) {r:Nat} (hr:r<ns.length):Run (bis ns ns) ns 0 [r] (z28 ns r):=by
 have:=zwz y82 (zbl hn hr) (fun j hj h=>ω)
 have e:reps (bis ns ns) [r]= [r]:=by
  unfold reps
  rw[z1v ψ];rfl
 rw[e] at this
 exact this
def y7v  {x y:Nat} {l m:Ln} (h:al a b l m) (hx:bis a b x y):cls (bis a a) l x=cls (bis b b) m y:=by
 have key:∀{l m:Ln},al a b l m→cls (bis a a) l x=cls (bis b b) m y:=by
  intro l
  induction l with
  |nil=>
   intro m h
   have:m= []:=List.length_eq_zero_iff.1 (by rw[←h.1];rfl)
   subst this;rfl
  |cons r l ih=>
   intro m h
   cases m with
   |nil=>simp[al] at h
   |cons s m=>
    rw[zla] at h
    have ih' :=ih h.2
    unfold cls at ih' ⊢
    rw[List.findIdx_cons,List.findIdx_cons,ih']
    have e:decide (bis a a r x)=decide (bis b b s y):=by
     rw[decide_eq_decide]
     exact⟨fun h2=>z2g (z3m h.1) (z2g h2 hx),fun h2=>z2g h.1 (z2g h2 (z3m hx))⟩
    rw[e]
 exact key h
def zfq  (ha:Rt a) (hb:Rt b) {x y:Nat} (hx:x<a.length) (hy:y<b.length) (h:bis a b x y):z0t a x=z0t b y:=by
 have hl:al a b (z28 a x) (z28 b y):=y86 (z8g ha hx) (z8g hb hy) (zla.2 ⟨h,rfl,fun i h1 _=>by simp at h1⟩)
 unfold z0t
 apply List.ext_getElem
 ·simp[hl.1]
 ·intro i h1 h2
  simp only[List.getElem_map]
  rw[List.length_map] at h1 h2
  have hb:=hl.2 i h1 h2
  obtain⟨k1,k2,k3⟩:=z67 hb
  unfold z3x
  rw[k1]
  congr 1
  have hk:=y1u hb
  apply List.ext_getElem
  ·simp[hk.1]
  ·intro j g1 g2
   simp only[List.getElem_map]
   rw[List.length_map] at g1 g2
   rw[y7v hl (hk.2 j g1 g2)]
def zej {E:Nat→Nat→Prop} {R:Ln} {x:Nat} (h:∃r∈R,E r x):∃h:cls E R x<R.length,E R[cls E R x] x:=by
 obtain⟨r,hr,he⟩:=h
 have h1:cls E R x<R.length:=List.findIdx_lt_length_of_exists ⟨r,hr,by simpa using he⟩
 refine⟨h1,?_⟩
 have:=List.findIdx_getElem (xs:=R) (p:=fun r=>decide (E r x)) (w:=h1)
 exact of_decide_eq_true this
section
variable {ns:List NodeT} {r:Nat}
def z4i (hn:Rt ns) (hr:r<ns.length) {x:Nat} (h:x∈z28 ns r):x∈z3e ns r∧x<ns.length:=⟨zaj h,(z26 hn hr).2.1 x (zaj h)⟩
def z8i (hn:Rt ns) (hr:r<ns.length):1≤(z0t ns r).length∧(z0t ns r).length≤ns.length:=by
 unfold z0t
 rw[List.length_map]
 constructor
 ·obtain⟨m,hm⟩:= (z8g hn hr).pre
  rw[hm];simp
 ·refine z4u ?_ fun x hx=> (z4i hn hr hx).2
  exact (zjk (E:=bis ns ns) (l:=z3e ns r)).imp fun {a b} h e=>h (by rw[e];exact z42)
def zam  (hi:i< (z28 ns r).length):nd (z0t ns r) i=z3x ns (z28 ns r) (z28 ns r)[i]:=by
 rw[z2j (by unfold z0t;rw[List.length_map];exact hi)]
 unfold z0t
 rw[List.getElem_map]
def zhz  (hi:i< (z28 ns r).length):kds (z0t ns r) i= (kds ns (z28 ns r)[i]).map (cls (bis ns ns) (z28 ns r)):=by
 unfold kds
 rw[zam hi]
 unfold z3x
 rw[List.map_map]
 unfold kds
 apply List.map_congr_left
 intro k _
 simp
def zfp (hn:Rt ns) (hr:r<ns.length):Rt (z0t ns r):=by
 intro i hi k hk
 have hi' :i< (z28 ns r).length:=by unfold z0t at hi;rwa [List.length_map] at hi
 rw[zhz hi'] at hk
 obtain⟨q,hq,rfl⟩:=List.mem_map.1 hk
 have hx:=z4i hn hr (List.getElem_mem hi')
 obtain⟨h1,_⟩:=zej (z2s (E:=bis ns ns) (fun _=>z42) ((z26 hn hr).2.2.1 _ hx.1 q hq))
 unfold z0t
 rw[List.length_map]
 exact h1
def z8j (hn:Rt ns) (hr:r<ns.length)  (hi:i< (z28 ns r).length):bis (z0t ns r) ns i (z28 ns r)[i]:=by
 refine znt (R:=fun c x=>∃h:c< (z28 ns r).length,x∈z3e ns r∧bis ns ns (z28 ns r)[c] x) ?_ ⟨hi,(z4i hn hr (List.getElem_mem hi)).1,z42⟩
 rintro c x ⟨hc,hx,hb⟩
 obtain⟨k1,k2,k3⟩:=z67 hb
 rw[zam hc]
 refine⟨by unfold z3x;exact k1,by unfold z3x;rw[List.length_map,z3g];exact k2,fun j hj=> ?_⟩
 have hj' :j< (nd ns (z28 ns r)[c]).kids.length:=by unfold z3x at hj;rw[List.length_map,z3g] at hj;exact hj
 have hq:kid ns (z28 ns r)[c] j∈z3e ns r:= (z26 hn hr).2.2.1 _ (z4i hn hr (List.getElem_mem hc)).1 _ (z3w hj')
 obtain⟨h1,h2⟩:=zej (z2s (E:=bis ns ns) (fun _=>z42) hq)
 have e:kid (z0t ns r) c j=cls (bis ns ns) (z28 ns r) (kid ns (z28 ns r)[c] j):=by
  unfold kid
  rw[zhz hc]
  have hj2:j< (kds ns (z28 ns r)[c]).length:=by rw[z3g];exact hj'
  simp[List.getD_eq_getElem?_getD,hj2]
 rw[e]
 exact⟨h1,(z26 hn hr).2.2.1 _ hx _ (z3w (k2▸hj')),z2g h2 (k3 j hj')⟩
def zp0 (hn:Rt ns) (hr:r<ns.length):∃h:0< (z28 ns r).length,(z28 ns r)[0]=r:=by
 obtain⟨m,hm⟩:= (z8g hn hr).pre
 refine⟨by rw[hm];simp,?_⟩
 simp only[hm];rfl
def z9f (hn:Rt ns) (hr:r<ns.length):bis (z0t ns r) ns 0 r:=by
 obtain⟨h,e⟩:=zp0 hn hr
 have:=z8j hn hr h
 rwa [e] at this
def zta (hn:Rt ns) (hr:r<ns.length) {c d:Nat} (hc:c< (z0t ns r).length) (hd:d< (z0t ns r).length) (h:bis (z0t ns r) (z0t ns r) c d):c=d:=by
 have hc' :c< (z28 ns r).length:=by unfold z0t at hc;rwa [List.length_map] at hc
 have hd' :d< (z28 ns r).length:=by unfold z0t at hd;rwa [List.length_map] at hd
 have hb:bis ns ns (z28 ns r)[c] (z28 ns r)[d]:=z2g (z3m (z8j hn hr hc')) (z2g h (z8j hn hr hd'))
 have hp:=List.pairwise_iff_getElem.1 (zjk (E:=bis ns ns) (l:=z3e ns r))
 rcases Nat.lt_trichotomy c d with h1|h1|h1
 ·exact absurd hb (hp c d hc' hd' h1)
 ·exact h1
 ·exact absurd (z3m hb) (hp d c hd' hc' h1)
def zk7 (hn:Rt ns) (hr:r<ns.length):z0t (z0t ns r) 0=z0t ns r:=
 zfq (zfp hn hr) hn (z8i hn hr).1 hr (z9f hn hr)
end
def zhv  (ha:Rt a) (hb:Rt b) {x y:Nat} (hx:x<a.length) (hy:y<b.length):z0t a x=z0t b y↔bis a b x y:=by
 refine⟨fun h=> ?_,zfq ha hb hx hy⟩
 have h1:=z9f ha hx
 rw[h] at h1
 exact z2g (z3m h1) (z9f hb hy)
section
variable {E:Nat→Nat→Prop} {R m:List Nat} {x y:Nat}
def z64 {r:Nat} :cls E (r::R) x=if E r x then 0 else cls E R x+1:=by
 unfold cls
 rw[List.findIdx_cons]
 by_cases h:E r x
 ·simp[h]
 ·simp[h]
def zkr (h:∃r∈R,E r x):cls E (R++m) x=cls E R x:=by
 induction R with
 |nil=>obtain⟨r,hr,_⟩:=h;cases hr
 |cons a R ih=>
  rw[List.cons_append,z64,z64]
  by_cases ha:E a x
  ·rw[if_pos ha,if_pos ha]
  ·rw[if_neg ha,if_neg ha,ih]
   obtain⟨r,hr,he⟩:=h
   rcases List.mem_cons.1 hr with rfl|hr
   ·exact absurd he ha
   ·exact⟨r,hr,he⟩
def zv4 (h:¬∃r∈R,E r x) (hx:E x x):cls E (R++ [x]) x=R.length:=by
 induction R with
 |nil=>rw[List.nil_append,z64,if_pos hx];rfl
 |cons a R ih=>
  rw[List.cons_append,z64,if_neg (fun e=>h ⟨a,by simp,e⟩),ih fun⟨r,hr,he⟩=>h ⟨r,by simp[hr],he⟩]
  simp
end
structure Eqv (E:Nat→Nat→Prop):Prop where
 refl:∀x,E x x
 symm:∀{x y},E x y→E y x
 trans:∀{x y z},E x y→E y z→E x z
theorem z7i {ns:Lk}  :Eqv (ap ns ns n):=⟨fun _=>z9n,zl9,zgn⟩
def zd4 {ns:Lk} :Eqv (bis ns ns):=⟨fun _=>z42,z3m,z2g⟩
section
variable {E:Nat→Nat→Prop} (c:Eqv E) {l:List Nat} {x y:Nat}
def zgc (c:Eqv E) {R:Ln} (h:E x y):cls E R x=cls E R y:=by
 unfold cls
 congr 1
 funext r
 rw[decide_eq_decide]
 exact⟨fun k=>c.trans k h,fun k=>c.trans k (c.symm h)⟩
def y4n (c:Eqv E) (hx:x∈l) (hy:y∈l):cls E (reps E l) x=cls E (reps E l) y↔E x y:=by
 refine⟨fun h=> ?_,zgc c⟩
 obtain⟨h1,h2⟩:=zej (z2s c.refl hx)
 obtain⟨h3,h4⟩:=zej (z2s c.refl hy)
 simp only[←h] at h4
 exact c.trans (c.symm h2) h4
def z7o: (reps E l).length≤l.length:=by
 have:∀(ks o:Ln),(addE E o ks).length≤o.length+ks.length:=by
  intro ks
  induction ks with
  |nil=>intro o;simp[addE]
  |cons k ks ih=>
   intro o
   by_cases h:∃r∈o,E r k
   ·rw[z2z h];have:=ih o;simp;omega
   ·rw[z1v h];have:=ih (o++ [k]);simp at this⊢;omega
 have:=this l []
 simpa [reps] using this
def z3p (c:Eqv E)  (hi:i<l.length):reps E (l.take (i+1))=if ∃r∈reps E (l.take i),E r l[i] then reps E (l.take i) else reps E (l.take i)++ [l[i]]:=by
 rw[List.take_add_one,List.getElem?_eq_getElem hi]
 unfold reps
 rw[z2b]
 simp only[Option.toList_some,addE]
def zf7  :∃m,reps E l=reps E (l.take i)++m:=by
 have:reps E l=addE E (reps E (l.take i)) (l.drop i):=by
  unfold reps
  rw[←z2b,List.take_append_drop]
 rw[this]
 exact z2a
end
def zhc {E:Nat→Nat→Prop} (cE:Eqv E) (cF:Eqv F) (hEF:∀{x y},F x y→E x y) {l:Ln} (hlen: (reps F l).length≤(reps E l).length) {x y:Nat} (hx:x∈l) (hy:y∈l) (h:E x y):F x y:=by
 have sub:∀(ks o p:Ln),o.Sublist p→(∀q∈p,∃r∈o,E r q)→(addE E o ks).Sublist (addE F p ks):=by
  intro ks
  induction ks with
  |nil=>intro o p h _;exact h
  |cons k ks ih=>
   intro o p hs hc
   by_cases h1:∃r∈p,F r k
   ·obtain⟨q,hq,hqk⟩:=h1
    obtain⟨r,hr,hrq⟩:=hc q hq
    rw[z2z (E:=F) ⟨q,hq,hqk⟩,z2z (E:=E) ⟨r,hr,cE.trans hrq (hEF hqk)⟩]
    exact ih o p hs hc
   ·rw[z1v h1]
    by_cases h2:∃r∈o,E r k
    ·rw[z2z h2]
     refine ih o _ (hs.trans (List.sublist_append_left p [k])) fun q hq=> ?_
     rcases List.mem_append.1 hq with hq|hq
     ·exact hc q hq
     ·rw[List.mem_singleton] at hq;subst hq;exact h2
    ·rw[z1v h2]
     refine ih _ _ (hs.append (List.Sublist.refl [k])) fun q hq=> ?_
     rcases List.mem_append.1 hq with hq|hq
     ·obtain⟨r,hr,hrq⟩:=hc q hq
      exact⟨r,by simp[hr],hrq⟩
     ·rw[List.mem_singleton] at hq;subst hq
      exact⟨q,by simp,cE.refl q⟩
 have hsub: (reps E l).Sublist (reps F l):=sub l [] [] (List.Sublist.refl _) (fun q hq=>by cases hq)
 have e:reps E l=reps F l:=hsub.eq_of_length_le hlen
 obtain⟨p,hp,hpx⟩:=z2s cF.refl hx
 obtain⟨q,hq,hqy⟩:=z2s cF.refl hy
 have hpq:E p q:=cE.trans (hEF hpx) (cE.trans h (cE.symm (hEF hqy)))
 rw[←e] at hp hq
 obtain⟨i,hi,rfl⟩:=List.mem_iff_getElem.1 hp
 obtain⟨j,hj,rfl⟩:=List.mem_iff_getElem.1 hq
 have hw:=List.pairwise_iff_getElem.1 (zjk (E:=E) (l:=l))
 have:i=j:=by
  rcases Nat.lt_trichotomy i j with h1|h1|h1
  ·exact absurd hpq (hw i j hi hj h1)
  ·exact h1
  ·exact absurd (cE.symm hpq) (hw j i hj hi h1)
 subst this
 exact cF.trans (cF.symm hpx) hqy
def zdw {E:Nat→Nat→Prop} {l:Ln} (h:∀x∈l,∀y∈l,E x y↔F x y):reps E l=reps F l:=by
 have:∀(ks o:Ln),(∀x∈o,x∈l)→(∀x∈ks,x∈l)→addE E o ks=addE F o ks:=by
  intro ks
  induction ks with
  |nil=>intro o _ _;rfl
  |cons k ks ih=>
   intro o ho hk
   have e: (∃r∈o,E r k)↔∃r∈o,F r k:=⟨fun⟨r,hr,he⟩=>⟨r,hr,(h r (ho r hr) k (hk k ψ)).1 he⟩,fun⟨r,hr,he⟩=>⟨r,hr,(h r (ho r hr) k (hk k ψ)).2 he⟩⟩
   by_cases h1:∃r∈o,E r k
   ·rw[z2z h1,z2z (e.1 h1)]
    exact ih o ho fun x hx=>hk x (by simp[hx])
   ·rw[z1v h1,z1v fun k=>h1 (e.2 k)]
    refine ih _ (fun x hx=> ?_) fun x hx=>hk x (by simp[hx])
    rcases List.mem_append.1 hx with hx|hx
    ·exact ho x hx
    ·rw[List.mem_singleton] at hx;subst hx;exact hk x ψ
 exact this l [] ψ fun x hx=>hx
def zv5 {E:Nat→Nat→Prop} {l R:Ln} (h:∀x∈l,∀y∈l,E x y↔F x y) (hR:∀x∈R,x∈l) {x:Nat} (hx:x∈l):cls E R x=cls F R x:=by
 induction R with
 |nil=>rfl
 |cons r R ih=>
  rw[z64,z64,ih fun y hy=>hR y (by simp[hy])]
  by_cases h1:E r x
  ·rw[if_pos h1,if_pos ((h r (hR r ψ) x hx).1 h1)]
  ·rw[if_neg h1,if_neg fun k=>h1 ((h r (hR r ψ) x hx).2 k)]
def zvu {ns:Lk} {l:Ln} (hc:∀x∈l,∀k∈kds ns x,k∈l)  (h:∀x∈l,∀y∈l,ap ns ns n x y→ap ns ns (n+1) x y) {x y:Nat} (hx:x∈l) (hy:y∈l) (hxy:ap ns ns n x y):bis ns ns x y:=by
 refine znt (R:=fun x y=>x∈l∧y∈l∧ap ns ns n x y) ?_ ⟨hx,hy,hxy⟩
 rintro x y ⟨hx,hy,hxy⟩
 obtain⟨h1,h2,h3⟩:=h x hx y hy hxy
 exact⟨h1,h2,fun j hj=>⟨hc x hx _ (z3w hj),hc y hy _ (z3w (h2▸hj)),h3 j hj⟩⟩
def zkt {ns:Lk} {l:Ln} (hc:∀x∈l,∀k∈kds ns x,k∈l)  (hlen: (reps (ap ns ns (n+1)) l).length= (reps (ap ns ns n) l).length):
  reps (ap ns ns (n+1)) l=reps (bis ns ns) l∧∀x∈l,cls (ap ns ns (n+1)) (reps (ap ns ns (n+1)) l) x=cls (bis ns ns) (reps (bis ns ns) l) x:=by
 have hf:∀x∈l,∀y∈l,ap ns ns n x y→ap ns ns (n+1) x y:=fun x hx y hy h=>zhc z7i z7i (fun h=>zd7 h) (Nat.le_of_eq hlen) hx hy h
 have he:∀x∈l,∀y∈l,ap ns ns (n+1) x y↔bis ns ns x y:=fun x hx y hy=>⟨fun h=>zvu hc hf hx hy (zd7 h),fun h=>h (n+1)⟩
 have e1:=zdw he
 refine⟨e1,fun x hx=> ?_⟩
 rw[e1]
 exact zv5 he (fun y hy=>zaj hy) hx
def zrl {ns:Lk} {l:Ln}  : (reps (ap ns ns n) l).length≤(reps (ap ns ns (n+1)) l).length:=by
 apply Classical.byContradiction
 intro h
 have hf:∀x∈l,∀y∈l,ap ns ns n x y↔ap ns ns (n+1) x y:=fun x hx y hy=>⟨fun k=>zhc z7i z7i (fun h=>zd7 h) ω hx hy k,zd7⟩
 rw[zdw hf] at h
 exact h (Nat.le_refl _)
end Go.Lift.K
namespace Go.Lift.K
open Go Go.Lift
variable{l:Ln}{i x k:Nat}{s:Sto}{ns:Lk}
def dis (l:List Nat):List D:=l.map fun x=>D.int .i64 (x:Nat)
theorem dis_len  : (dis l).length=l.length:=by simp[dis]
def zuv  : (dis l).all D.sc=true:=by simp[dis,D.sc]
theorem y7n   (h:i<l.length): (dis l)[i]'(by rw[dis_len];exact h)= .int .i64 (l[i]:Nat):=by simp[dis]
def zz7   :dis (l++ [x])=dis l++ [.int .i64 (x:Nat)]:=by simp[dis]
theorem z8n   (h:i<l.length):z08 1 (.d (.sl (dis l))) (i:Int)=some (.dptr [.int .i64 (l[i]:Nat)]):=z1p (enc:=fun x:Nat=>D.int .i64 (x:Nat)) h rfl
theorem ceq {a b:Nat} (h:a=b): ((a:Int)= (b:Int))=True:=by simp[h]
theorem cne {a b:Nat} (h:¬a=b): ((a:Int)= (b:Int))=False:=by simp;omega
def zr5  {x:D} :snap s 0 z0e (.d x)=some x:=by simp[snap,z0e]
def zz8    (h:sget s k=some (.cells (scs (dis l)))):snap s 0 z0e (.arr k 1 false 0 l.length)=some (.sl (dis l)):=by
 have:=zf4 h zuv
 rwa [dis_len] at this
def y4f  {nx lw key k1:Nat}  (h1:sget s k=some (.cells (scs (dis l)))) (h2:sget s k1=some (.cells [.d (.int .i64 (x:Nat))])) (hl:l.length≤1000000):
  z0v {s:=s,next:=nx,low:=lw} key 1 false 8 (.arr k 1 false 0 l.length) (.arr k1 1 false 0 1)=some (.arr key 1 false 0 (l++ [x]).length,{s:= (key,.cells (scs (dis (l++ [x]))))::sdel s k,next:=nx,low:=Nat.min lw k}):=by
 rw[zrf (n:=l.length) (m:=1) (ds:=dis l) (es:= [.int .i64 (x:Nat)]) h1 h2 zuv rfl dis_len.symm rfl (by simp[dis_len];omega) (by simp[dis_len];omega),←zz7]
 simp
structure Gd (ns:List NodeT):Prop where
 len:ns.length≤60
 kids:∀i,i<ns.length→(nd ns i).kids.length≤4
 low:∀i,i<ns.length→∀k∈(nd ns i).kids,0≤k∧k<ns.length
def Gd.rt  (h:Gd ns):Rt ns:=by
 intro i hi k hk
 unfold kds at hk
 obtain⟨q,hq,rfl⟩:=List.mem_map.1 hk
 have:=h.low i hi q hq
 omega
def Gd.at_  (h:Gd ns) {j:Nat} (hi:i<ns.length) (hj:j<ns[i].kids.length):ns[i].kids[j]= (kid ns i j:Nat)∧kid ns i j<ns.length:=by
 have hj' :j< (nd ns i).kids.length:=by rw[z2j hi];exact hj
 have e:kid ns i j=ns[i].kids[j].toNat:=by
  unfold Go.Lift.K.kid kds
  rw[List.getD_eq_getElem?_getD,List.getElem?_eq_getElem (by rw[List.length_map];exact hj'),Option.getD_some,List.getElem_map]
  simp only[z2j hi]
 have hm:ns[i].kids[j]∈(nd ns i).kids:=by rw[z2j hi];exact List.getElem_mem hj
 have:=h.low i hi _ hm
 rw[e]
 omega
def zyc   (hx:x<ns.length) (hk:k<ns[x].kids.length): (kds ns x).take (k+1)= (kds ns x).take k++ [kid ns x k]:=by
 have:k< (kds ns x).length:=by rw[z3g,z2j hx];exact hk
 rw[z2m this]
 unfold kid
 rw[List.getD_eq_getElem?_getD,List.getElem?_eq_getElem this,Option.getD_some]
end Go.Lift.K
