/- Part P8 of the proof. -/
import Derived.Test.YthjhclclibpijaaGreatDoorP7
import Derived.KernelRfl
import Derived.Test.YthjhclclibpijaaGreatDoorP4
set_option linter.all false
set_option maxHeartbeats 4000000
set_option maxRecDepth 100000
namespace Go.Lift
open Go
variable{F:IFun}{args vs first cap:Lv}{f n i es:Nat}{st1:St}{s:Sto}{p:D→Bool}{l:Ld}{ag:Bool}
universe u
variable {G:Nat→Option IFun}
def y4r   {st:St} {ex:Ex} {env' :Lv} {st' :St}  (he:zuh G none F.body (args++List.replicate (F.nt-args.length) .undef) st=some (ex,env',st')) (hx:∀id,ex≠ .brk id) (hr:z2h st' env' F.res=some vs):
  z4r G F args st=some (vs,st'):=by
 unfold z4r zad
 have he' :z0j (z06 G) z0g none F.body (args++List.replicate (F.nt-args.length) .undef) st=some (ex,env',st'):=he
 rw[he']
 cases ex with
 |brk id=>exact absurd rfl (hx id)
 |nrm=>simp only[hr]
 |ret=>simp only[hr]
def zhh   (hG:G f=some F) (hp:F.pure=true) (hn:F.nil2=false) {ds rs:Ld}   (hb:z4r G F (ds.map V.d) {s:= [],next:=0,low:=0} =some (vs,st1)) (hr:z0p st1.s 0 vs=some rs) (st:St):
  z06 G (.fn f [] []) (ds.map V.d) st=some (tupV (rs.map V.d),st):=by
 rw[z1m]
 simp only[z13,hG,hn,Bool.false_and,Bool.false_eq_true,if_false,hp,if_true,List.nil_append,List.append_nil,z1a,hb,hr,z39,D.beqL_refl,ite_self]
def zx9   (hG:G f=some F) (hn:F.nil2=false) (hp:F.pure=false) (hpop:F.pop=true)  {st:St} {us:Lv}  (hb:z4r G F (first++args++cap) {s:=st.s,next:=st.next,low:=st.next} =some (vs,st1))
  (hl:st.next≤st1.low) (ho:z7a st1.s st.next vs=some us):z06 G (.fn f first cap) args st=some (tupV us,st):=by
 rw[z1m]
 simp only[z13,hG,hn,hp,Bool.false_and,Bool.false_eq_true,if_false,hb,hpop,Bool.true_and,decide_eq_true_eq,hl,if_true,ho]
def zqw   (hG:G f=some F) (hn:F.nil2=false) (hp:F.pure=false) (hpop:F.pop=false)  {st:St}   (hb:z4r G F (first++args++cap) {s:=st.s,next:=st.next,low:=st.next} =some (vs,st1)):
  z06 G (.fn f first cap) args st=some (tupV vs,{s:=st1.s,next:=st1.next,low:=Nat.min st.low st1.low}):=by
 rw[z1m]
 simp only[z13,hG,hn,hp,Bool.false_and,Bool.false_eq_true,if_false,hb,hpop,Bool.false_and]
theorem zs4 {s:Sto} {b:Nat} :∀{rs:List D},z7a s b (rs.map V.d)=some (rs.map V.d)
 | []=>rfl
 |x::rs=>by simp only[List.map_cons,z7a,outV,V.under,if_true,zs4];rfl
def Post (x:Option (Ex×List V×St)) (Q:Ex→List V→St→Prop):Prop:=∃e env st,x=some (e,env,st)∧Q e env st
def zdg (x:Option (List V×St)) (Q:List V→St→Prop):Prop:=∃env st,x=some (env,st)∧Q env st
def PostV (x:Option (V×St)) (Q:V→St→Prop):Prop:=∃v st,x=some (v,st)∧Q v st
@[simp] theorem zbn {e:Ex} {env:List V} {st:St} {Q:Ex→List V→St→Prop} :Post (some (e,env,st)) Q↔Q e env st:=⟨fun⟨_,_,_,h,q⟩=> (by cases h;exact q),fun q=>⟨_,_,_,rfl,q⟩⟩
@[simp] theorem z6e {Q:Ex→List V→St→Prop} :Post none Q↔False:=⟨fun⟨_,_,_,h,_⟩=> (by cases h),fun h=>h.elim⟩
@[simp] theorem zoo {env:List V} {st:St} {Q:List V→St→Prop} :zdg (some (env,st)) Q↔Q env st:=⟨fun⟨_,_,h,q⟩=> (by cases h;exact q),fun q=>⟨_,_,rfl,q⟩⟩
@[simp] theorem zdy {Q:List V→St→Prop} :zdg none Q↔False:=⟨fun⟨_,_,h,_⟩=> (by cases h),fun h=>h.elim⟩
@[simp] theorem z6y {v:V} {st:St} {Q:V→St→Prop} :PostV (some (v,st)) Q↔Q v st:=⟨fun⟨_,_,h,q⟩=> (by cases h;exact q),fun q=>⟨_,_,rfl,q⟩⟩
@[simp] theorem zon {Q:V→St→Prop} :PostV none Q↔False:=⟨fun⟨_,_,h,_⟩=> (by cases h),fun h=>h.elim⟩
def PostV.mono {x:Option (V×St)} {Q R:V→St→Prop} (h:PostV x Q) (hq:∀v st,Q v st→R v st):PostV x R:=by
 obtain⟨v,st,h1,h2⟩:=h
 exact⟨v,st,h1,hq _ _ h2⟩
def Wr {α:Sort u} (x:α):α:=x
def z14 {α:Sort u} (x:α):Wr x=x:=by
 have h:Wr x=Wr x:=Eq.symm (Eq.symm rfl)
 exact h
def zop {x y:Option (Ex×List V×St)} {Q:Ex→List V→St→Prop} (h:Wr x=y):Post x Q=Post y Q:=by rw[←h,z14]
def zjo {x y:Option (List V×St)} {Q:List V→St→Prop} (h:Wr x=y):zdg x Q=zdg y Q:=by rw[←h,z14]
def zjn {x y:Option (V×St)} {Q:V→St→Prop} (h:Wr x=y):PostV x Q=PostV y Q:=by rw[←h,z14]
def onN (K:List V→St→Prop) (Q:Ex→List V→St→Prop):Ex→List V→St→Prop
 | .nrm,env,st=>K env st
 |e,env,st=>Q e env st
theorem zsa {K:List V→St→Prop} {Q:Ex→List V→St→Prop} {e e' :Ex} {env:Lv} {st:St} (h:Wr e=e'):onN K Q e env st=onN K Q e' env st:=by rw[←h,z14]
@[simp] theorem zju {K:List V→St→Prop} {Q:Ex→List V→St→Prop} {env:Lv} {st:St} :onN K Q .nrm env st↔K env st:=Iff.rfl
@[simp] theorem zjt {K:List V→St→Prop} {Q:Ex→List V→St→Prop} {env:Lv} {st:St} :onN K Q .ret env st↔Q .ret env st:=Iff.rfl
@[simp] theorem zjv {K:List V→St→Prop} {Q:Ex→List V→St→Prop} {env:Lv} {st:St} {id:Nat} :onN K Q (.brk id) env st↔Q (.brk id) env st:=Iff.rfl
def outB (id:Nat) (Q:Ex→List V→St→Prop):Ex→List V→St→Prop
 | .brk j,env,st=>Q (if j=id then .nrm else .brk j) env st
 |e,env,st=>Q e env st
theorem zor {id:Nat} {Q:Ex→List V→St→Prop} {e e' :Ex} {env:Lv} {st:St} (h:Wr e=e'):outB id Q e env st=outB id Q e' env st:=by rw[←h,z14]
@[simp] theorem zff {id:Nat} {Q:Ex→List V→St→Prop} {env:Lv} {st:St} :outB id Q .nrm env st↔Q .nrm env st:=Iff.rfl
@[simp] theorem zfe {id:Nat} {Q:Ex→List V→St→Prop} {env:Lv} {st:St} :outB id Q .ret env st↔Q .ret env st:=Iff.rfl
@[simp] theorem zxf {id j:Nat} {Q:Ex→List V→St→Prop} {env:Lv} {st:St} :outB id Q (.brk j) env st↔Q (if j=id then .nrm else .brk j) env st:=Iff.rfl
def onE (env:List V) (K:List V→Prop):Prop:=K env
def zsb {x y:Lv} {K:List V→Prop} (h:Wr x=y):onE x K=onE y K:=by rw[←h,z14]
theorem zxg {v:V} {l:Lv} {K:List V→Prop} :onE (v::l) K↔K (v::l):=Iff.rfl
def zpo (v:V) (A B:Prop):Prop:=
 match v with
 | .d (.bool t)=>if t=true then A else B
 |_=>False
def zko {v w:V} {A B:Prop} (h:Wr v=w):zpo v A B=zpo w A B:=by rw[←h,z14]
theorem zei {t:Bool} {A B:Prop} :zpo (.d (.bool t)) A B↔if t=true then A else B:=Iff.rfl
section
variable {cl:z12} {lp: (List V→St→Option (Ex×List V×St))→List V→St→Option (Ex×List V×St)} {rd:Option Nat} {env:List V} {st:St} {Q:Ex→List V→St→Prop}
@[simp] theorem zhj:Post (z0j cl lp rd .skip env st) Q↔Q .nrm env st:=by simp[z0j]
@[simp] theorem zhk {id:Nat} :Post (z0j cl lp rd (.exit id) env st) Q↔Q (.brk id) env st:=by simp[z0j]
@[simp] theorem zls:Post (z0j cl lp rd .ret env st) Q↔Q .ret env st:=by simp[z0j]
@[simp] theorem zlr {a b:IC} :Post (z0j cl lp rd (.seq a b) env st) Q↔Post (z0j cl lp rd a env st) (onN (fun env st=>Post (z0j cl lp rd b env st) Q) Q):=by
 simp only[z0j]
 cases h:z0j cl lp rd a env st with
 |none=>simp only[z6e]
 |some p=>
  obtain⟨e,env1,st1⟩:=p
  cases e<;>simp only[zbn]<;>rfl
@[simp] theorem zdz {id:Nat} {b:IC} :Post (z0j cl lp rd (.block id b) env st) Q↔Post (z0j cl lp rd b env st) (outB id Q):=by
 simp only[z0j]
 cases h:z0j cl lp rd b env st with
 |none=>simp only[z6e]
 |some p=>
  obtain⟨e,env1,st1⟩:=p
  cases e<;>simp only[zbn]<;>rfl
def zhl {c:Opd} {a b:IC} :Post (z0j cl lp rd (.cond c a b) env st) Q↔zpo (evO env c) (Post (z0j cl lp rd a env st) Q) (Post (z0j cl lp rd b env st) Q):=by
 simp only[z0j]
 unfold zpo
 generalize evO env c=v
 cases v<;>try exact z6e
 case d x=>
  cases x<;>try exact z6e
  case bool t=>cases t<;>simp
@[simp] theorem zlt {na:Nat} {ops:List IOp} :Post (z0j cl lp rd (.reg na ops) env st) Q↔zdg (z0m cl st.next ops env {s:=st.s,next:=st.next+na,low:=st.low}) (fun env st=>Q .nrm env st):=by
 simp only[z0j]
 cases h:z0m cl st.next ops env {s:=st.s,next:=st.next+na,low:=st.low} with
 |none=>simp only[z6e,zdy]
 |some p=>obtain⟨env1,st1⟩:=p;simp only[zbn,zoo]
@[simp] theorem zrv {b:IC} :Post (z0j cl lp rd (.loop b) env st) Q↔Post (lp (z0j cl lp rd b) env st) Q:=Iff.rfl
@[simp] theorem zhi {base:Nat} {R:List V→St→Prop} :zdg (z0m cl base [] env st) R↔R env st:=by simp[z0m]
def z2t {base:Nat} {o:IOp} {l:List IOp} {R:List V→St→Prop} :zdg (z0m cl base (o::l) env st) R↔
  if wantedE env o.gd then PostV (evalIOp cl base env st o) (fun v st' =>kept env st st' o.keep=true∧onE (setE env o.dst v) (fun env' =>zdg (z0m cl base l env' st') R)) else onE (setE env o.dst .undef) (fun env' =>zdg (z0m cl base l env' st) R):=by
 simp only[z0m,onE]
 split
 ·cases h:evalIOp cl base env st o with
  |none=>simp only[zdy,zon]
  |some p=>
   obtain⟨v,st1⟩:=p
   simp only[z6y]
   cases hk:kept env st st1 o.keep with
   |true=>simp
   |false=>simp
 ·rfl
end
attribute [congr] zop zjo zjn zsa zor zko zsb
def z33 {f:List V→St→Option (Ex×List V×St)} {Q:Ex→List V→St→Prop} (I:Nat→List V→St→Prop) (h:∀m env st,I m env st→Post (f env st) (onN (fun env' st' =>∃m',m' <m∧I m' env' st') Q)):
  ∀(m:Nat) {env:Lv} {st:St},I m env st→Post (z0g f env st) Q:=by
 intro m
 induction m using Nat.strongRecOn with
 |_ m ih=>
  intro env st hI
  rw[zdt]
  obtain⟨e,env1,st1,h1,h2⟩:=h m env st hI
  rw[h1]
  cases e with
  |nrm=>
   obtain⟨m',hm,hI'⟩:=h2
   exact ih m' hm hI'
  |brk id=>simpa using h2
  |ret=>simpa using h2
def Ex.fin:Ex→Prop
 | .brk _=>False
 |_=>True
@[simp] theorem y98:Ex.fin .nrm↔True:=Iff.rfl
@[simp] theorem y97:Ex.fin .ret↔True:=Iff.rfl
@[simp] theorem y99 {id:Nat} :Ex.fin (.brk id)↔False:=Iff.rfl
def z5o   {st:St} {R:List V→St→Prop} (h:onE (args++List.replicate (F.nt-args.length) .undef) (fun env=>Post (zuh G none F.body env st) (fun e env st' =>e.fin∧∃vs,z2h st' env F.res=some vs∧R vs st'))):
  ∃vs st',z4r G F args st=some (vs,st')∧R vs st' :=by
 obtain⟨e,env,st',h1,h2,vs,h3,h4⟩:=h
 refine⟨vs,st',y4r h1 (fun id e' => ?_) h3,h4⟩
 subst e'
 exact h2
def z7p   (hG:G f=some F) (hp:F.pure=true) (hn:F.nil2=false) {ds rs:Ld} (h:onE (ds.map V.d++List.replicate (F.nt-(ds.map V.d).length) .undef) (fun env=>Post (zuh G none F.body env {s:= [],next:=0,low:=0}) (fun e env st' =>e.fin∧∃vs,z2h st' env F.res=some vs∧z0p st'.s 0 vs=some rs))) (st:St):
  z06 G (.fn f [] []) (ds.map V.d) st=some (tupV (rs.map V.d),st):=by
 obtain⟨vs,st1,h1,h2⟩:=z5o h
 exact zhh hG hp hn h1 h2 st
def z7f   (hG:G f=some F) (hn:F.nil2=false) (hp:F.pure=false) (hpop:F.pop=true) {us:Lv} {st:St}
  (h:onE (first++args++cap++List.replicate (F.nt-(first++args++cap).length) .undef) (fun env=>Post (zuh G none F.body env {s:=st.s,next:=st.next,low:=st.next}) (fun e env st' =>e.fin∧∃vs,z2h st' env F.res=some vs∧st.next≤st'.low∧z7a st'.s st.next vs=some us))):
  z06 G (.fn f first cap) args st=some (tupV us,st):=by
 obtain⟨vs,st1,h1,h2,h3⟩:=z5o h
 exact zx9 hG hn hp hpop h1 h2 h3
def z23 {n:Int} (h1: -9223372036854775808≤n) (h2:n≤9223372036854775807):IntKind.i64.wrap n=n:=by
 unfold IntKind.wrap
 simp only[IntKind.bits,IntKind.signed,Bool.true_and,decide_eq_true_eq,ge_iff_le,Int.reducePow,Nat.reduceSub]
 split<;>omega
section
variable {k:IntKind} {a b:Int} {x y:List Nat}
theorem zvm: (true==true)=true:=rfl
theorem zvn: (true==false)=false:=rfl
theorem zvo: (false==true)=false:=rfl
theorem zvp: (false==false)=true:=rfl
theorem y5l {b:Bool} :unV .not (.d (.bool b))=some (.d (.bool (!b))):=rfl
def zl1:binV .lss (.d (.int k a)) (.d (.int k b))=some (.d (.bool (decide (a<b)))):=by simp[binV,z1r,binI]
def zl2:binV .leq (.d (.int k a)) (.d (.int k b))=some (.d (.bool (decide (a≤b)))):=by simp[binV,z1r,binI]
def zl3:binV .gtr (.d (.int k a)) (.d (.int k b))=some (.d (.bool (decide (b<a)))):=by simp[binV,z1r,binI]
def zl4:binV .geq (.d (.int k a)) (.d (.int k b))=some (.d (.bool (decide (b≤a)))):=by simp[binV,z1r,binI]
def zl5:binV .eql (.d (.int k a)) (.d (.int k b))=some (.d (.bool (decide (a=b)))):=by simp[binV,z1r,binI]
theorem zgk:binV .neq (.d (.int k a)) (.d (.int k b))=some (.d (.bool (!decide (a=b)))):=by simp[binV,z1r,binI]
def zl6:binV .add (.d (.int k a)) (.d (.int k b))=some (.d (.int k (k.wrap (a+b)))):=by simp[binV,z1r,binI]
def zkz:binV .sub (.d (.int k a)) (.d (.int k b))=some (.d (.int k (k.wrap (a-b)))):=by simp[binV,z1r,binI]
def zgj:binV .eql (.d (.str x)) (.d (.str y))=some (.d (.bool (decide (x=y)))):=by simp[binV,binS]
def zgi:binV .neq (.d (.str x)) (.d (.str y))=some (.d (.bool (!decide (x=y)))):=by simp[binV,binS]
end
theorem zfn {st:St} {n:Nat} {ag:Bool} {k off:Nat} :z1s st n ag (.ptr k off)=match scells st.s k with
  |some cs=>if off+n≤cs.length then ofCells ag ((cs.drop off).take n) else none
  |none=>none:=rfl
def Elt (es:Nat) (ag:Bool) (x:D):Prop:= (ag=true∧∃cs,x= .agg cs∧cs.length=es∧cs.all D.isCell=true)∨(ag=false∧es=1∧x.isCell=true)
def Sub (n:Nat) (s s' :Sto):Prop:=∀k,k<n→sget s' k=sget s k
theorem Sub.refl (n:Nat) (s:Sto):Sub n s s:=fun _ _=>rfl
def Sub.trans {m:Nat} {s1 s2:Sto} (h:Sub n s s1) (k:Sub m s1 s2) (hnm:n≤m):Sub n s s2:=fun j hj=> (k j (Nat.lt_of_lt_of_le hj hnm)).trans (h j hj)
theorem Sub.cons {k:Nat}  {o:Obj} (hk:n≤k):Sub n s ((k,o)::s):=fun j hj=>by
 have:k≠j:=ω
 simp only[sget,this,if_false]
def Tells (G:Nat→Option IFun) (fv:V) (s:Sto) (n0:Nat) (dom:D→Prop) (p:D→Bool):Prop:=
 ∀x,dom x→∀s' nx lw,Sub n0 s s' →n0≤nx→z06 G fv [.d x] {s:=s',next:=nx,low:=lw} =some (.d (.bool (p x)),{s:=s',next:=nx,low:=lw})
def Tells.sub {fv:V} {s':Sto} {m:Nat} {dom:D→Prop}  (h:Tells G fv s n dom p) (hs:Sub n s s') (hnm:n≤m):Tells G fv s' m dom p:=
 fun x hx s'' nx lw h1 h2=>h x hx s'' nx lw (hs.trans h1 hnm) (Nat.le_trans hnm h2)
def idxP (p:D→Bool) (l:List D):Int:=match l.findIdx? p with
 |some i=>i
 |none=> -1
def zi3   (h:∀x∈l,p x=false):idxP p l= -1:=by
 unfold idxP
 rw[List.findIdx?_eq_none_iff.2 h]
def zi2    (hi:i<l.length) (h:∀x∈l.take i,p x=false) (hp:p l[i]=true):idxP p l=i:=by
 unfold idxP
 have:l.findIdx? p=some i:=by
  rw[List.findIdx?_eq_some_iff_getElem]
  refine⟨hi,hp,fun j hj=> ?_⟩
  have:=h l[j] (List.mem_iff_getElem.2 ⟨j,by simp;omega,by simp⟩)
  simp[this]
 rw[this]
def zle    (hi:i<l.length) (h:∀x∈l.take i,p x=false) (hp:p l[i]=false):∀x∈l.take (i+1),p x=false:=fun x hx=>by
 rw[List.take_add_one,List.getElem?_eq_getElem hi] at hx
 rcases List.mem_append.1 hx with h1|h1
 ·exact h x h1
 ·simp at h1;rw[h1];exact hp
def Elt.len   {x:D} (h:Elt es ag x): (cellsD x).length=es:=by
 rcases h with⟨_,cs,rfl,h,_⟩|⟨_,rfl,h⟩
 ·exact h
 ·cases x<;>first|rfl|simp[D.isCell] at h
def z5k    (hi:i<l.length) (he:Elt es ag l[i]):z08 es (.d (.sl l)) (i:Int)=some (.dptr (cellsD l[i])):=by
 simp only[z08]
 rw[if_pos ω]
 simp[hi,he.len]
def z70 {st:St}   {x:D} (h:Elt es ag x):z1s st es ag (.dptr (cellsD x))=some (.d x):=by
 have hl:=h.len
 simp only[z1s]
 rw[if_pos ω,←hl,List.take_length]
 rcases h with⟨rfl,cs,rfl,h,_⟩|⟨rfl,rfl,h⟩
 ·rfl
 ·cases x<;>first|rfl|simp[D.isCell] at h
def zkx   {x:D} (h:Elt es ag x): (cellsV (.d x)).all V.isCell=true∧ofCells ag (((cellsV (.d x)).drop 0).take es)=some (.d x)∧(cellsV (.d x)).length=es:=by
 rcases h with⟨rfl,cs,rfl,h,h2⟩|⟨rfl,rfl,h⟩
 ·have h3:∀l:List D,allD (l.map V.d)=some l:=by
   intro l
   induction l with
   |nil=>rfl
   |cons y l ih=>simp only[List.map_cons,allD,ih];rfl
  refine⟨?_,?_,by simpa [cellsV] using h⟩
  ·simp only[cellsV,List.all_map]
   rw[List.all_eq_true] at h2⊢
   exact fun y hy=>h2 y hy
  ·simp only[cellsV,List.drop_zero,ofCells,if_true]
   rw[List.take_of_length_le (by simp;omega)]
   simp only[mkAgg,h3]
 ·cases x<;>first| (exact⟨rfl,rfl,rfl⟩)|simp[D.isCell] at h
def zbb  {k nx lw:Nat}  {z:Lv} {x:D} (hx:Elt es ag x) (hz:z.length=es):
  opStore {s:= (k,.cells z)::s,next:=nx,low:=lw} es (.ptr k 0) (.d x)=some {s:= (k,.cells (cellsV (.d x)))::s,next:=nx,low:=Nat.min lw k} :=by
 obtain⟨h1,_,h3⟩:=zkx hx
 simp only[opStore,St.get,sget,if_true,St.set,sset]
 rw[if_pos ⟨h3,ω,h1⟩]
 congr 3
 unfold splice
 rw[List.take_zero,h3,Nat.zero_add,List.drop_eq_nil_of_le ω]
 simp
def zzo   {x:D} (hx:Elt es ag x): (if 0+es≤(cellsV (.d x)).length then ofCells ag (((cellsV (.d x)).drop 0).take es) else none)=some (.d x):=by
 obtain⟨_,h2,h3⟩:=zkx hx
 rw[if_pos ω,h2]
def zis   {x:D} (hx:Elt es ag x): (if es≤(cellsV (.d x)).length then ofCells ag (((cellsV (.d x)).drop 0).take es) else none)=some (.d x):=by
 have:=zzo hx
 rwa [Nat.zero_add] at this
end Go.Lift
namespace Go.Lift
open Go
variable{f es nx c:Nat}{ag:Bool}{fv hv:V}{s:Sto}{p:D→Bool}{l m:Ld}{x:Ln}
def XA:=aI @zlr (aI @zlt (aI @z2t (aI @zhi (aI @z6y (aI @zju (aI @zjt (aI @zjv (aI @zff (aI @zfe (aI @zxf (aI @zdz (aI @zrv (aI @zhl (aI @zei (aI @zhj (aI @zhk (@zls)))))))))))))))))
def XB0:=aI @evalIOp.eq_1 (aI @evalOp.eq_1 (aI @evalOp.eq_2 (aI @evalOp.eq_3 (aI @evalOp.eq_4 (aI @evalOp.eq_5 (aI @evalOp.eq_6 (aI @evalOp.eq_7 (aI @evalOp.eq_8 (aI @evalOp.eq_9 (aI @evalOp.eq_10 (aI @evalOp.eq_11 (aI @evalOp.eq_12 (aI @evalOp.eq_13 (aI @evalOp.eq_14 (aI @evalOp.eq_15 (aI @evalOp.eq_16 (aI @evalOp.eq_17 (aI @evalOp.eq_18 (aI @evalOp.eq_19 (aI @evalOp.eq_20 (aI @evalOp.eq_21 (aI @evalOp.eq_22 (aI @evalOp.eq_23 (aI @evalOp.eq_24 (aI @evalOp.eq_25 (aI @evalOp.eq_26 (aI @evalOp.eq_27 (aI @evalOp.eq_28 (aI @evalOp.eq_29 (aI @evalOp.eq_30 (aI @evalOp.eq_31 (aI @evalOp.eq_32 (aI @evalOp.eq_33 (aI @evalOp.eq_34 (aI @evalOp.eq_35 (aI @evalOp.eq_36 (aI @evalOp.eq_37 (aI @evalOp.eq_38 (@evalOp.eq_39)))))))))))))))))))))))))))))))))))))))
def XB1:=aI @evalOp.eq_40 (aI @evalOp.eq_41 (aI @evalOp.eq_42 (aI @evalOp.eq_43 (aI @wantedE.eq_1 (aI @wantedE.eq_2 (aI @kept.eq_1 (aI @kept.eq_2 (aI @setE.eq_1 (aI @setE.eq_2 (aI @evO.eq_1 (aI @evO.eq_2 (aI @z6y (aI @zxg (aI @true_and (aI @List.set.eq_1.{0} (aI @List.set.eq_2.{0} (aI @List.set.eq_3.{0} (aI @List.getD_cons_zero.{0} (aI @List.getD_cons_succ.{0} (aI @zl1 (aI @zl2 (aI @zl3 (aI @zl4 (aI @zl5 (aI @zgk (aI @zl6 (aI @zkz (aI @zgj (aI @zgi (aI @Bool.false_eq_true (aI @asI.eq_1 (aI @asI.eq_2 (aI @calV.eq_1 (aI @calV.eq_2 (aI @List.map_cons.{0,0} (aI @List.map_nil.{0,0} (aI @opLen.eq_1 (aI @opLen.eq_2 (@opLen.eq_3)))))))))))))))))))))))))))))))))))))))
def XB2:=aI @opLen.eq_4 (aI @opLen.eq_5 (aI @opLen.eq_6 (aI @decide_true (aI @decide_false (aI @Bool.not_true (aI @Bool.not_false (aI @zvm (aI @zvn (aI @zvo (aI @zvp (aI @y5l (aI @List.nil_append.{0} (aI @List.append_nil.{0} (aI @List.cons_append.{0} (aI @List.length_cons.{0} (aI @List.length_nil.{0} (aI @List.replicate.eq_1.{0} (aI @List.replicate.eq_2.{0} (aI @St.ins.eq_1 (aI @St.set.eq_1 (aI @St.get.eq_1 (aI @opFaddr.eq_1 (aI @opFaddr.eq_2 (aI @opFaddr.eq_3 (aI @zfn (aI @scells.eq_1 (aI @sget.eq_1 (aI @sget.eq_2 (aI @Nat.add_zero (aI @Nat.zero_add (aI @Nat.add_eq_left (@Nat.add_one_ne_zero))))))))))))))))))))))))))))))))
def XB:=aI XB0 (aI XB1 (XB2))
variable {G:Nat→Option IFun}
def ztt (es:Nat) (ag:Bool):IC:= (.seq (.reg 1 [⟨(.some 9),.bin .lss (.t 8) (.t 7),.none,[]⟩])
 (.seq (.cond (.t 9) .skip
 (.exit 0))
 (.seq (.block 1 (.seq (.reg 2 [⟨(.some 10),.mv (.t 8),.none,[]⟩,
 ⟨(.some 5),.mv (.t 10),.none,[]⟩])
 (.seq (.reg 6 [⟨(.some 11),.mv (.t 1),.none,[]⟩,
 ⟨(.some 12),.mv (.t 0),.none,[]⟩,
 ⟨(.some 13),.mv (.t 5),.none,[]⟩,
 ⟨(.some 14),.iaddrS es (.t 12) (.t 13),.none,[]⟩,
 ⟨(.some 15),.load es ag (.t 14),.none,[]⟩,
 ⟨(.some 16),.call (.o (.t 11)) [(.t 15)],.none,[]⟩])
 (.cond (.t 16) (.seq (.reg 2 [⟨(.some 17),.mv (.t 5),.none,[]⟩,
 ⟨(.some 4),.mv (.t 17),.none,[]⟩])
 .ret)
 .skip))))
 (.reg 2 [⟨(.some 18),.bin .add (.t 8) (.c (.d (.int .i64 1))),.none,[]⟩,
 ⟨(.some 8),.mv (.t 18),.none,[]⟩]))))
def z5i (es:Nat) (ag:Bool):IFun:= {nt:=19,res:= [.t 4],pure:=false,pop:=true,body:= (.seq (.reg 1 [⟨(.some 4),.mv (.c (.d (.int .i64 0))),.none,[]⟩])
 (.seq (.seq (.reg 3 [⟨(.some 6),.mv (.t 0),.none,[]⟩,
 ⟨(.some 7),.len false (.t 6),.none,[]⟩,
 ⟨(.some 8),.mv (.c (.d (.int .i64 0))),.none,[]⟩])
 (.block 0 (.loop (ztt es ag))))
 (.seq (.reg 1 [⟨(.some 4),.mv (.c (.d (.int .i64 (-1)))),.none,[]⟩])
 .ret)))}
def y10   (hG:G f=some (z5i es ag))   {lw:Nat}   (hl:l.length≤9223372036854775807) (he:∀x∈l,Elt es ag x) (hf:Tells G fv s nx (· ∈l) p):
  z06 G (.fn f [] []) [.d (.sl l),fv] {s:=s,next:=nx,low:=lw} =some (.d (.int .i64 (idxP p l)),{s:=s,next:=nx,low:=lw}):=by
 refine z7f (us:= [.d (.int .i64 (idxP p l))]) hG rfl rfl rfl ?_
 simp only[z5i,↓XA,XB,z14,simprocAttr]
 refine z33 (fun m env st=>∃(i nx' :Nat) (t5 t9 t10 t11 t12 t13 t14 t15 t16 t17 t18:V),m=l.length-i∧i≤l.length∧(∀x∈l.take i,p x=false)∧nx≤nx' ∧
  env= [.d (.sl l),fv,.undef,.undef,.d (.int .i64 0),t5,.d (.sl l),.d (.int .i64 l.length),.d (.int .i64 i),t9,t10,t11,t12,t13,t14,t15,t16,t17,t18]∧st= {s:=s,next:=nx',low:=nx}) ?_ l.length
  ⟨0,nx+1+3,_,_,_,_,_,_,_,_,_,_,_,rfl,Nat.zero_le _,by simp,ω,rfl,rfl⟩
 rintro m env st ⟨i,nx',t5,t9,t10,t11,t12,t13,t14,t15,t16,t17,t18,hm,hi,hall,hn,rfl,rfl⟩
 simp only[ztt,↓XA,XB,z14,simprocAttr]
 by_cases hlt:i<l.length
 ·have hx:=he l[i] (List.getElem_mem hlt)
  have hc:decide ((i:Int)<l.length)=true:=by simp[hlt]
  simp only[hc,z5k hlt hx,z70 hx,↓XA,XB,z14,simprocAttr]
  rw[hf _ (List.getElem_mem hlt) _ _ _ (Sub.refl _ _) ω]
  simp only[↓XA,XB,z14,simprocAttr]
  cases hp:p l[i] with
  |true=>
   simp only[↓XA,XB,z14,simprocAttr]
   refine⟨trivial,_,rfl,Nat.le_refl _,?_⟩
   rw[zi2 hlt hall hp]
   rfl
  |false=>
   simp only[↓XA,XB,z14,simprocAttr]
   rw[z23 ω ω]
   exact⟨l.length-(i+1),ω,i+1,_,_,_,_,_,_,_,_,_,_,_,_,rfl,ω,zle hlt hall hp,ω,rfl,rfl⟩
 ·have hc:decide ((i:Int)<l.length)=false:=by simp;omega
  simp only[hc,↓XA,XB,z14,simprocAttr]
  have hil:i=l.length:=ω
  subst hil
  rw[List.take_length] at hall
  refine⟨trivial,_,rfl,Nat.le_refl _,?_⟩
  rw[zi3 hall]
  rfl
def zmn   :decide ((0:Int)≤idxP p l)=l.any p:=by
 unfold idxP
 cases h:l.findIdx? p with
 |none=>
  rw[List.findIdx?_eq_none_iff] at h
  simp only
  symm
  rw[Bool.eq_iff_iff]
  simp only[List.any_eq_true,decide_eq_true_eq]
  constructor
  ·rintro⟨x,h1,h2⟩
   rw[h x h1] at h2;cases h2
  ·intro h;omega
 |some i=>
  rw[List.findIdx?_eq_some_iff_getElem] at h
  obtain⟨h1,h2,_⟩:=h
  simp only
  rw[Bool.eq_iff_iff]
  simp only[List.any_eq_true,decide_eq_true_eq]
  exact⟨fun _=>⟨_,List.getElem_mem h1,h2⟩,fun _=>ω⟩
def z7h (idx:Nat):IFun:= {nt:=9,res:= [.t 4],pure:=false,pop:=true,body:= (.seq (.reg 1 [⟨(.some 4),.mv (.c (.d (.bool false))),.none,[]⟩])
 (.seq (.reg 5 [⟨(.some 5),.mv (.t 0),.none,[]⟩,
 ⟨(.some 6),.mv (.t 1),.none,[]⟩,
 ⟨(.some 7),.call (.f idx) [(.t 5),(.t 6)],.none,[]⟩,
 ⟨(.some 8),.bin .geq (.t 7) (.c (.d (.int .i64 0))),.none,[]⟩,
 ⟨(.some 4),.mv (.t 8),.none,[]⟩])
 .ret))}
def y1n {idx:Nat}  (hG:G f=some (z7h idx)) (hI:G idx=some (z5i es ag))   {lw:Nat}   (hl:l.length≤9223372036854775807) (he:∀x∈l,Elt es ag x) (hf:Tells G fv s nx (· ∈l) p):
  z06 G (.fn f [] []) [.d (.sl l),fv] {s:=s,next:=nx,low:=lw} =some (.d (.bool (l.any p)),{s:=s,next:=nx,low:=lw}):=by
 refine z7f (us:= [.d (.bool (l.any p))]) hG rfl rfl rfl ?_
 simp only[z7h,↓XA,XB,z14,simprocAttr]
 rw[y10 hI hl he (hf.sub (Sub.refl _ _) ω)]
 simp only[↓XA,XB,z14,simprocAttr]
 refine⟨trivial,_,rfl,Nat.le_refl _,?_⟩
 rw[zmn]
 rfl
def zii (con c:Nat):IFun:= {nt:=9,res:= [.t 4],pure:=false,pop:=true,body:= (.seq (.reg 2 [⟨(.some 3),.box 0 (.t 1),.none,[]⟩,
 ⟨(.some 4),.mv (.c (.d (.bool false))),.none,[]⟩])
 (.seq (.reg 5 [⟨(.some 5),.mv (.t 0),.none,[]⟩,
 ⟨(.some 6),.mkf c [] [(.t 3)],.none,[]⟩,
 ⟨(.some 7),.call (.f con) [(.t 5),(.t 6)],.none,[]⟩,
 ⟨(.some 8),.un .not (.t 7),.none,[]⟩,
 ⟨(.some 4),.mv (.t 8),.none,[]⟩])
 .ret))}
def evC (es:Nat) (ag:Bool):IFun:= {nt:=8,res:= [.t 3],pure:=false,pop:=true,body:= (.seq (.reg 2 [⟨(.some 2),.box 0 (.t 0),.none,[]⟩,
 ⟨(.some 3),.mv (.c (.d (.bool false))),.none,[]⟩])
 (.seq (.reg 5 [⟨(.some 4),.load 1 false (.t 1),.none,[]⟩,
 ⟨(.some 5),.load es ag (.t 2),.none,[]⟩,
 ⟨(.some 6),.call (.o (.t 4)) [(.t 5)],.none,[]⟩,
 ⟨(.some 7),.un .not (.t 6),.none,[]⟩,
 ⟨(.some 3),.mv (.t 7),.none,[]⟩])
 .ret))}
def y7g   (hG:G c=some (evC es ag))  {s1:Sto} {n0 n1 k:Nat} {dom:D→Prop}  (hh:Tells G hv s n0 dom p) (hd:∀x,dom x→Elt es ag x)
  (hs:Sub n0 s s1) (hn:n0≤n1) (hk:k<n1) (ho:sget s1 k=some (.cells [hv])):Tells G (.fn c [] [.ptr k 0]) s1 n1 dom (fun x=> !p x):=by
 intro x hx s' nx lw hsub hnx
 refine z7f (us:= [.d (.bool (!p x))]) hG rfl rfl rfl ?_
 obtain⟨h1,h2,h3⟩:=zkx (hd x hx)
 have hne:nx≠k:=ω
 have hok:sget s' k=some (.cells [hv]):= (hsub k hk).trans ho
 simp only[evC,h1,hne,hok,↓XA,XB,z14,simprocAttr]
 simp only[List.length_cons,List.length_nil,Nat.reduceAdd,Nat.le_refl,↓reduceIte,List.drop_zero,List.take_succ_cons,List.take_zero,ofCells,Bool.false_eq_true,↓XA,XB,z14,simprocAttr]
 have h2' :ofCells ag ((cellsV (.d x)).take es)=some (.d x):=by simpa using h2
 have h3' :es≤(cellsV (.d x)).length:=ω
 simp only[ofCells] at h2'
 simp only[h3',h2',↓XA,XB,z14,simprocAttr]
 rw[hh x hx _ _ _ (hs.trans (hsub.trans (Sub.cons hnx) (Nat.le_refl _)) hn) ω]
 simp only[↓XA,XB,z14,simprocAttr]
 exact⟨trivial,_,rfl,Nat.le_refl _,rfl⟩
def evC1:IFun:= {nt:=8,res:= [.t 3],pure:=false,pop:=true,body:= (.seq (.reg 1 [⟨(.some 3),.mv (.c (.d (.bool false))),.none,[]⟩])
 (.seq (.reg 5 [⟨(.some 4),.load 1 false (.t 1),.none,[]⟩,
 ⟨(.some 5),.mv (.t 0),.none,[]⟩,
 ⟨(.some 6),.call (.o (.t 4)) [(.t 5)],.none,[]⟩,
 ⟨(.some 7),.un .not (.t 6),.none,[]⟩,
 ⟨(.some 3),.mv (.t 7),.none,[]⟩])
 .ret))}
theorem y3h  : (if 1≤ [hv].length then ofCells false (([hv].drop 0).take 1) else none)=some hv:=rfl
def y4b  (hG:G c=some evC1)  {s1:Sto} {n0 n1 k:Nat} {dom:D→Prop}  (hh:Tells G hv s n0 dom p)
  (hs:Sub n0 s s1) (hn:n0≤n1) (hk:k<n1) (ho:sget s1 k=some (.cells [hv])):Tells G (.fn c [] [.ptr k 0]) s1 n1 dom (fun x=> !p x):=by
 intro x hx s' nx lw hsub hnx
 refine z7f (us:= [.d (.bool (!p x))]) hG rfl rfl rfl ?_
 have hok:sget s' k=some (.cells [hv]):= (hsub k hk).trans ho
 have hl:=y3h (hv:=hv)
 simp only[List.length_cons,List.length_nil,Nat.zero_add,simprocAttr] at hl
 simp only[evC1,hok,hl,↓XA,XB,z14,simprocAttr]
 rw[hh x hx _ _ _ (hs.trans hsub hn) ω]
 simp only[↓XA,XB,z14,simprocAttr]
 exact⟨trivial,_,rfl,Nat.le_refl _,rfl⟩
def y30   : (!(l.any fun x=> !p x))=l.all p:=by
 rw[List.not_any_eq_all_not]
 simp
def zyx {con idx:Nat}  (hG:G f=some (zii con c)) (hC:G con=some (z7h idx)) (hI:G idx=some (z5i es ag)) (hc:G c=some (evC es ag)∨G c=some evC1)   {lw:Nat}   (hcell:hv.isCell=true)
  (hcv:cellsV hv= [hv]) (hl:l.length≤9223372036854775807) (he:∀x∈l,Elt es ag x) (hf:Tells G hv s nx (· ∈l) p):
  z06 G (.fn f [] []) [.d (.sl l),hv] {s:=s,next:=nx,low:=lw} =some (.d (.bool (l.all p)),{s:=s,next:=nx,low:=lw}):=by
 refine z7f (us:= [.d (.bool (l.all p))]) hG rfl rfl rfl ?_
 simp only[zii,hcv,hcell,List.all_cons,List.all_nil,Bool.and_self,↓XA,XB,z14,simprocAttr]
 have htells:∀n1,nx<n1→Tells G (.fn c [] [.ptr nx 0]) ((nx,.cells [hv])::s) n1 (· ∈l) (fun x=> !p x):=fun n1 hn1=>by
  rcases hc with hc|hc
  ·exact y7g hc (s:=s) (n0:=nx) hf he (Sub.cons (Nat.le_refl _)) ω hn1 (by simp[sget])
  ·exact y4b hc (s:=s) (n0:=nx) hf (Sub.cons (Nat.le_refl _)) ω hn1 (by simp[sget])
 rw[y1n hC hI hl he (htells _ ω)]
 simp only[↓XA,XB,z14,simprocAttr]
 refine⟨trivial,_,rfl,Nat.le_refl _,?_⟩
 rw[y30]
 rfl
def y0y:IC:= (.seq (.reg 1 [⟨(.some 9),.bin .lss (.t 8) (.t 7),.none,[]⟩])
 (.seq (.cond (.t 9) .skip
 (.exit 0))
 (.seq (.block 1 (.seq (.reg 2 [⟨(.some 10),.mv (.t 8),.none,[]⟩,
 ⟨(.some 5),.mv (.t 10),.none,[]⟩])
 (.seq (.reg 6 [⟨(.some 11),.mv (.t 1),.none,[]⟩,
 ⟨(.some 12),.mv (.t 0),.none,[]⟩,
 ⟨(.some 13),.mv (.t 5),.none,[]⟩,
 ⟨(.some 14),.iaddrS 1 (.t 12) (.t 13),.none,[]⟩,
 ⟨(.some 15),.load 1 false (.t 14),.none,[]⟩,
 ⟨(.some 16),.bin .eql (.t 11) (.t 15),.none,[]⟩])
 (.cond (.t 16) (.seq (.reg 2 [⟨(.some 17),.mv (.t 5),.none,[]⟩,
 ⟨(.some 4),.mv (.t 17),.none,[]⟩])
 .ret)
 .skip))))
 (.reg 2 [⟨(.some 18),.bin .add (.t 8) (.c (.d (.int .i64 1))),.none,[]⟩,
 ⟨(.some 8),.mv (.t 18),.none,[]⟩]))))
def zyf:IFun:= {nt:=19,res:= [.t 4],pure:=true,pop:=false,body:= (.seq (.reg 1 [⟨(.some 4),.mv (.c (.d (.int .i64 0))),.none,[]⟩])
 (.seq (.seq (.reg 3 [⟨(.some 6),.mv (.t 0),.none,[]⟩,
 ⟨(.some 7),.len false (.t 6),.none,[]⟩,
 ⟨(.some 8),.mv (.c (.d (.int .i64 0))),.none,[]⟩])
 (.block 0 (.loop y0y)))
 (.seq (.reg 1 [⟨(.some 4),.mv (.c (.d (.int .i64 (-1)))),.none,[]⟩])
 .ret)))}
def y72:D→Bool
 | .str _=>true
 |_=>false
def zjc (x:List Nat):D→Bool
 | .str y=>decide (x=y)
 |_=>false
theorem zkh  :Elt 1 false (.str x):= .inr ⟨rfl,rfl,rfl⟩
theorem z63 {k:IntKind} {n:Int} :Elt 1 false (.int k n):= .inr ⟨rfl,rfl,rfl⟩
def y8x  (hG:G f=some zyf)   (hl:l.length≤9223372036854775807) (he:∀y∈l,y72 y=true) (st:St):
  z06 G (.fn f [] []) [.d (.sl l),.d (.str x)] st=some (.d (.int .i64 (idxP (zjc x) l)),st):=by
 refine z7p (ds:= [.sl l,.str x]) (rs:= [.int .i64 (idxP (zjc x) l)]) hG rfl rfl ?_ st
 simp only[zyf,↓XA,XB,z14,simprocAttr]
 refine z33 (fun m env st=>∃(i nx' :Nat) (t5 t9 t10 t11 t12 t13 t14 t15 t16 t17 t18:V),m=l.length-i∧i≤l.length∧(∀y∈l.take i,zjc x y=false)∧
  env= [.d (.sl l),.d (.str x),.undef,.undef,.d (.int .i64 0),t5,.d (.sl l),.d (.int .i64 l.length),.d (.int .i64 i),t9,t10,t11,t12,t13,t14,t15,t16,t17,t18]∧st= {s:= [],next:=nx',low:=0}) ?_ l.length
  ⟨0,_,_,_,_,_,_,_,_,_,_,_,_,rfl,Nat.zero_le _,by simp,rfl,rfl⟩
 rintro m env st ⟨i,nx',t5,t9,t10,t11,t12,t13,t14,t15,t16,t17,t18,hm,hi,hall,rfl,rfl⟩
 simp only[y0y,↓XA,XB,z14,simprocAttr]
 by_cases hlt:i<l.length
 ·have hs:=he l[i] (List.getElem_mem hlt)
  have hc:decide ((i:Int)<l.length)=true:=by simp[hlt]
  cases hy:l[i] with
  |str y=>
   have hx:Elt 1 false l[i]:=by rw[hy];exact zkh
   have hload:∀st,z1s st 1 false (.dptr (cellsD l[i]))=some (.d (.str y)):=fun st=>by rw[z70 hx,hy]
   simp only[hc,z5k hlt hx,hload,↓XA,XB,z14,simprocAttr]
   cases hp:zjc x l[i] with
   |true=>
    have hp' :decide (x=y)=true:=by rw[hy] at hp;exact hp
    simp only[hp',↓XA,XB,z14,simprocAttr]
    refine⟨trivial,_,rfl,?_⟩
    rw[zi2 hlt hall hp]
    rfl
   |false=>
    have hp' :decide (x=y)=false:=by rw[hy] at hp;exact hp
    simp only[hp',↓XA,XB,z14,simprocAttr]
    rw[z23 ω ω]
    exact⟨l.length-(i+1),ω,i+1,_,_,_,_,_,_,_,_,_,_,_,_,rfl,ω,zle hlt hall hp,rfl,rfl⟩
  |_=>rw[hy] at hs;cases hs
 ·have hc:decide ((i:Int)<l.length)=false:=by simp;omega
  simp only[hc,↓XA,XB,z14,simprocAttr]
  have hil:i=l.length:=ω
  subst hil
  rw[List.take_length] at hall
  refine⟨trivial,_,rfl,?_⟩
  rw[zi3 hall]
  rfl
def y4m (ix:Nat):IFun:= {nt:=9,res:= [.t 4],pure:=true,pop:=false,body:= (.seq (.reg 1 [⟨(.some 4),.mv (.c (.d (.bool false))),.none,[]⟩])
 (.seq (.reg 5 [⟨(.some 5),.mv (.t 0),.none,[]⟩,
 ⟨(.some 6),.mv (.t 1),.none,[]⟩,
 ⟨(.some 7),.call (.f ix) [(.t 5),(.t 6)],.none,[]⟩,
 ⟨(.some 8),.bin .geq (.t 7) (.c (.d (.int .i64 0))),.none,[]⟩,
 ⟨(.some 4),.mv (.t 8),.none,[]⟩])
 .ret))}
def y9g {ix:Nat} (hG:G f=some (y4m ix)) (hI:G ix=some zyf)   (hl:l.length≤9223372036854775807) (he:∀y∈l,y72 y=true) (st:St):
  z06 G (.fn f [] []) [.d (.sl l),.d (.str x)] st=some (.d (.bool (l.any (zjc x))),st):=by
 refine z7p (ds:= [.sl l,.str x]) (rs:= [.bool (l.any (zjc x))]) hG rfl rfl ?_ st
 simp only[y4m,↓XA,XB,z14,simprocAttr]
 rw[y8x hI hl he]
 simp only[↓XA,XB,z14,simprocAttr]
 refine⟨trivial,_,rfl,?_⟩
 rw[zmn]
 rfl
def zvq  (hlen:l.length=m.length):∀{i:Nat},i≤l.length→D.beqL (l.take i) (m.take i)=true→(hi:i<l.length)→(hi' :i<m.length)→D.beq l[i] m[i]=true→D.beqL (l.take (i+1)) (m.take (i+1))=true:=by
 intro i h1 h2 hi hi' h3
 have e1:=D.eq_of_beqL h2
 have e2:=D.eq_of_beq h3
 have:l.take (i+1)=m.take (i+1):=by
  rw[List.take_add_one,List.take_add_one,List.getElem?_eq_getElem hi,List.getElem?_eq_getElem hi',e1,e2]
 rw[this]
 exact D.beqL_refl _
def y4v  {i:Nat} (hi:i<l.length) (hi' :i<m.length) (h:D.beq l[i] m[i]=false):D.beqL l m=false:=by
 cases e:D.beqL l m with
 |false=>rfl
 |true=>
  have:=D.eq_of_beqL e
  subst this
  rw[D.beq_refl] at h
  cases h
def y1h (es:Nat) (ag:Bool):IC:= (.seq (.reg 1 [⟨(.some 14),.bin .lss (.t 13) (.t 12),.none,[]⟩])
 (.seq (.cond (.t 14) .skip
 (.exit 0))
 (.seq (.block 1 (.seq (.reg 2 [⟨(.some 15),.mv (.t 13),.none,[]⟩,
 ⟨(.some 5),.mv (.t 15),.none,[]⟩])
 (.seq (.reg 9 [⟨(.some 16),.mv (.t 0),.none,[]⟩,
 ⟨(.some 17),.mv (.t 5),.none,[]⟩,
 ⟨(.some 18),.iaddrS es (.t 16) (.t 17),.none,[]⟩,
 ⟨(.some 19),.load es ag (.t 18),.none,[]⟩,
 ⟨(.some 20),.mv (.t 1),.none,[]⟩,
 ⟨(.some 21),.mv (.t 5),.none,[]⟩,
 ⟨(.some 22),.iaddrS es (.t 20) (.t 21),.none,[]⟩,
 ⟨(.some 23),.load es ag (.t 22),.none,[]⟩,
 ⟨(.some 24),.bin .neq (.t 19) (.t 23),.none,[]⟩])
 (.cond (.t 24) (.seq (.reg 1 [⟨(.some 4),.mv (.c (.d (.bool false))),.none,[]⟩])
 .ret)
 .skip))))
 (.reg 2 [⟨(.some 25),.bin .add (.t 13) (.c (.d (.int .i64 1))),.none,[]⟩,
 ⟨(.some 13),.mv (.t 25),.none,[]⟩]))))
def y4c (es:Nat) (ag:Bool):IFun:= {nt:=26,res:= [.t 4],pure:=true,pop:=false,body:= (.seq (.reg 1 [⟨(.some 4),.mv (.c (.d (.bool false))),.none,[]⟩])
 (.seq (.seq (.reg 5 [⟨(.some 6),.mv (.t 0),.none,[]⟩,
 ⟨(.some 7),.len false (.t 6),.none,[]⟩,
 ⟨(.some 8),.mv (.t 1),.none,[]⟩,
 ⟨(.some 9),.len false (.t 8),.none,[]⟩,
 ⟨(.some 10),.bin .neq (.t 7) (.t 9),.none,[]⟩])
 (.cond (.t 10) (.seq (.reg 1 [⟨(.some 4),.mv (.c (.d (.bool false))),.none,[]⟩])
 .ret)
 .skip))
 (.seq (.seq (.reg 3 [⟨(.some 11),.mv (.t 0),.none,[]⟩,
 ⟨(.some 12),.len false (.t 11),.none,[]⟩,
 ⟨(.some 13),.mv (.c (.d (.int .i64 0))),.none,[]⟩])
 (.block 0 (.loop (y1h es ag))))
 (.seq (.reg 1 [⟨(.some 4),.mv (.c (.d (.bool true))),.none,[]⟩])
 .ret))))}
def y9a    (hG:G f=some (y4c es ag))  (hl:l.length≤9223372036854775807) (he:∀x∈l,Elt es ag x) (he' :∀x∈m,Elt es ag x)
  (hc:∀x∈l,∀y∈m,binV .neq (.d x) (.d y)=some (.d (.bool (!D.beq x y)))) (st:St):
  z06 G (.fn f [] []) [.d (.sl l),.d (.sl m)] st=some (.d (.bool (D.beqL l m)),st):=by
 refine z7p (ds:= [.sl l,.sl m]) (rs:= [.bool (D.beqL l m)]) hG rfl rfl ?_ st
 simp only[y4c,↓XA,XB,z14,simprocAttr]
 by_cases hlen:l.length=m.length
 ·have h1: (!decide ((l.length:Int)=m.length))=false:=by simp[hlen]
  simp only[h1,↓XA,XB,z14,simprocAttr]
  refine z33 (fun k env st=>∃(i nx' :Nat) (t5 t14 t15 t16 t17 t18 t19 t20 t21 t22 t23 t24 t25:V),k=l.length-i∧i≤l.length∧D.beqL (l.take i) (m.take i)=true∧
   env= [.d (.sl l),.d (.sl m),.undef,.undef,.d (.bool false),t5,.d (.sl l),.d (.int .i64 l.length),.d (.sl m),.d (.int .i64 m.length),.d (.bool false),.d (.sl l),.d (.int .i64 l.length),.d (.int .i64 i),t14,t15,t16,t17,t18,t19,t20,t21,t22,t23,t24,t25]∧st= {s:= [],next:=nx',low:=0}) ?_ l.length
   ⟨0,_,_,_,_,_,_,_,_,_,_,_,_,_,_,rfl,Nat.zero_le _,rfl,rfl,rfl⟩
  rintro k env st ⟨i,nx',t5,t14,t15,t16,t17,t18,t19,t20,t21,t22,t23,t24,t25,hm,hi,hall,rfl,rfl⟩
  simp only[y1h,↓XA,XB,z14,simprocAttr]
  by_cases hlt:i<l.length
  ·have hlt' :i<m.length:=ω
   have hx:=he l[i] (List.getElem_mem hlt)
   have hy:=he' m[i] (List.getElem_mem hlt')
   have hd:decide ((i:Int)<l.length)=true:=by simp[hlt]
   have hcmp:=hc l[i] (List.getElem_mem hlt) m[i] (List.getElem_mem hlt')
   simp only[hd,z5k hlt hx,z70 hx,z5k hlt' hy,z70 hy,hcmp,↓XA,XB,z14,simprocAttr]
   cases hp:D.beq l[i] m[i] with
   |false=>
    simp only[Bool.not_false,↓XA,XB,z14,simprocAttr]
    refine⟨trivial,_,rfl,?_⟩
    rw[y4v hlt hlt' hp]
    rfl
   |true=>
    simp only[Bool.not_true,↓XA,XB,z14,simprocAttr]
    rw[z23 ω ω]
    exact⟨l.length-(i+1),ω,i+1,_,_,_,_,_,_,_,_,_,_,_,_,_,_,rfl,ω,zvq hlen hi hall hlt hlt' hp,rfl,rfl⟩
  ·have hd:decide ((i:Int)<l.length)=false:=by simp;omega
   simp only[hd,↓XA,XB,z14,simprocAttr]
   have hil:i=l.length:=ω
   subst hil
   rw[List.take_length,hlen,List.take_length] at hall
   refine⟨trivial,_,rfl,?_⟩
   rw[hall]
   rfl
 ·have h1: (!decide ((l.length:Int)=m.length))=true:=by simp;omega
  simp only[h1,↓XA,XB,z14,simprocAttr]
  refine⟨trivial,_,rfl,?_⟩
  have:D.beqL l m=false:=by
   cases e:D.beqL l m with
   |false=>rfl
   |true=>exact absurd (congrArg List.length (D.eq_of_beqL e)) hlen
  rw[this]
  rfl
def y1j (es:Nat) (ag:Bool) (z:List V):IC:= (.seq (.reg 1 [⟨(.some 18),.bin .lss (.t 17) (.t 16),.none,[]⟩])
 (.seq (.cond (.t 18) .skip
 (.exit 0))
 (.seq (.block 1 (.seq (.reg 6 [⟨(.some 19),.mv (.t 17),.none,[]⟩,
 ⟨(.some 20),.iaddrS es (.t 15) (.t 17),.none,[]⟩,
 ⟨(.some 21),.load es ag (.t 20),.none,[]⟩,
 ⟨(.some 8),.alloc 3 z,.none,[]⟩,
 ⟨(.some 7),.mv (.t 19),.none,[]⟩,
 ⟨.none,.store es (.t 8) (.t 21),.none,[]⟩])
 (.seq (.reg 6 [⟨(.some 22),.mv (.t 1),.none,[]⟩,
 ⟨(.some 23),.mv (.t 7),.none,[]⟩,
 ⟨(.some 24),.iaddrS es (.t 22) (.t 23),.none,[]⟩,
 ⟨(.some 25),.load es ag (.t 24),.none,[]⟩,
 ⟨(.some 9),.alloc 4 z,.none,[]⟩,
 ⟨.none,.store es (.t 9) (.t 25),.none,[]⟩])
 (.seq (.reg 5 [⟨(.some 26),.mv (.t 2),.none,[]⟩,
 ⟨(.some 27),.load es ag (.t 8),.none,[]⟩,
 ⟨(.some 28),.load es ag (.t 9),.none,[]⟩,
 ⟨(.some 29),.call (.o (.t 26)) [(.t 27),(.t 28)],.none,[]⟩,
 ⟨(.some 30),.un .not (.t 29),.none,[]⟩])
 (.cond (.t 30) (.seq (.reg 1 [⟨(.some 6),.mv (.c (.d (.bool false))),.none,[]⟩])
 .ret)
 .skip)))))
 (.reg 2 [⟨(.some 31),.bin .add (.t 17) (.c (.d (.int .i64 1))),.none,[]⟩,
 ⟨(.some 17),.mv (.t 31),.none,[]⟩]))))
def zpg (es:Nat) (ag:Bool) (z:List V):IFun:= {nt:=32,res:= [.t 6],pure:=false,pop:=true,body:= (.seq (.reg 1 [⟨(.some 6),.mv (.c (.d (.bool false))),.none,[]⟩])
 (.seq (.seq (.reg 5 [⟨(.some 10),.mv (.t 0),.none,[]⟩,
 ⟨(.some 11),.len false (.t 10),.none,[]⟩,
 ⟨(.some 12),.mv (.t 1),.none,[]⟩,
 ⟨(.some 13),.len false (.t 12),.none,[]⟩,
 ⟨(.some 14),.bin .neq (.t 11) (.t 13),.none,[]⟩])
 (.cond (.t 14) (.seq (.reg 1 [⟨(.some 6),.mv (.c (.d (.bool false))),.none,[]⟩])
 .ret)
 .skip))
 (.seq (.seq (.reg 3 [⟨(.some 15),.mv (.t 0),.none,[]⟩,
 ⟨(.some 16),.len false (.t 15),.none,[]⟩,
 ⟨(.some 17),.mv (.c (.d (.int .i64 0))),.none,[]⟩])
 (.block 0 (.loop (y1j es ag z))))
 (.seq (.reg 1 [⟨(.some 6),.mv (.c (.d (.bool true))),.none,[]⟩])
 .ret))))}
def y8a (G:Nat→Option IFun) (fv:V) (s:Sto) (n0:Nat) (dom:D→D→Prop) (p:D→D→Bool):Prop:=
 ∀x y,dom x y→∀s' nx lw,Sub n0 s s' →n0≤nx→z06 G fv [.d x,.d y] {s:=s',next:=nx,low:=lw} =some (.d (.bool (p x y)),{s:=s',next:=nx,low:=lw})
def all2 (p:D→D→Bool):List D→List D→Bool
 | [],[]=>true
 |x::l,y::m=>p x y&&all2 p l m
 |_,_=>false
theorem zo0 {p:D→D→Bool} :∀{l m:List D},all2 p l m=true→l.length=m.length
 | [],[],_=>rfl
 |x::l,y::m,h=>by
  simp only[all2,Bool.and_eq_true] at h
  simp[zo0 h.2]
 | [],y::m,h=>by simp[all2] at h
 |x::l,[],h=>by simp[all2] at h
theorem zgo {p:D→D→Bool} :∀{l m:List D},l.length=m.length→(all2 p l m=true↔∀(i:Nat) (h:i<l.length) (h' :i<m.length),p l[i] m[i]=true)
 | [],[],_=>⟨fun _ i h=>by simp at h,fun _=>rfl⟩
 |x::l,y::m,hl=>by
  simp only[all2,Bool.and_eq_true,zgo (l:=l) (m:=m) (by simpa using hl)]
  constructor
  ·rintro⟨h1,h2⟩ i hi hi'
   cases i with
   |zero=>exact h1
   |succ i=>exact h2 i (by simpa using hi) (by simpa using hi')
  ·intro h
   exact⟨h 0 ψ ψ,fun i hi hi' =>h (i+1) (by simpa using hi) (by simpa using hi')⟩
 | [],y::m,hl=>by simp at hl
 |x::l,[],hl=>by simp at hl
def y7m   {z:Lv} (hG:G f=some (zpg es ag z)) (hz:z.length=es)   {lw:Nat} {p:D→D→Bool}  (hl:l.length≤9223372036854775807) (he:∀x∈l,Elt es ag x) (he' :∀x∈m,Elt es ag x)
  (hf:y8a G fv s nx (fun x y=>x∈l∧y∈m) p):
  z06 G (.fn f [] []) [.d (.sl l),.d (.sl m),fv] {s:=s,next:=nx,low:=lw} =some (.d (.bool (all2 p l m)),{s:=s,next:=nx,low:=lw}):=by
 refine z7f (us:= [.d (.bool (all2 p l m))]) hG rfl rfl rfl ?_
 simp only[zpg,↓XA,XB,z14,simprocAttr]
 by_cases hlen:l.length=m.length
 ·have h1: (!decide ((l.length:Int)=m.length))=false:=by simp[hlen]
  simp only[h1,↓XA,XB,z14,simprocAttr]
  refine z33 (fun k env st=>∃(i nx' lw' :Nat) (s' :Sto) (t7 t8 t9 t18 t19 t20 t21 t22 t23 t24 t25 t26 t27 t28 t29 t30 t31:V),k=l.length-i∧i≤l.length∧(∀(j:Nat) (h:j<l.length) (h' :j<m.length),j<i→p l[j] m[j]=true)∧nx≤nx' ∧nx≤lw' ∧Sub nx s s' ∧
   env= [.d (.sl l),.d (.sl m),fv,.undef,.undef,.undef,.d (.bool false),t7,t8,t9,.d (.sl l),.d (.int .i64 l.length),.d (.sl m),.d (.int .i64 m.length),.d (.bool false),.d (.sl l),.d (.int .i64 l.length),.d (.int .i64 i),t18,t19,t20,t21,t22,t23,t24,t25,t26,t27,t28,t29,t30,t31]∧st= {s:=s',next:=nx',low:=lw' }) ?_ l.length
   ⟨0,_,_,_,_,_,_,_,_,_,_,_,_,_,_,_,_,_,_,_,_,rfl,Nat.zero_le _,fun j _ _ h=>ω,ω,Nat.le_refl _,Sub.refl _ _,rfl,rfl⟩
  rintro k env st ⟨i,nx',lw',s',t7,t8,t9,t18,t19,t20,t21,t22,t23,t24,t25,t26,t27,t28,t29,t30,t31,hm,hi,hall,hn,hlw,hsub,rfl,rfl⟩
  simp only[y1j,↓XA,XB,z14,simprocAttr]
  by_cases hlt:i<l.length
  ·have hlt' :i<m.length:=ω
   have hx:=he l[i] (List.getElem_mem hlt)
   have hy:=he' m[i] (List.getElem_mem hlt')
   have hd:decide ((i:Int)<l.length)=true:=by simp[hlt]
   simp only[hd,z5k hlt hx,z70 hx,z5k hlt' hy,z70 hy,zbb hx hz,zbb hy hz,zis hx,zis hy,↓XA,XB,z14,simprocAttr]
   have hsub' :Sub nx s ((nx' +1+6+4,.cells (cellsV (.d m[i]))):: (nx' +1+3,.cells (cellsV (.d l[i])))::s'):=hsub.trans ((Sub.cons ω).trans (Sub.cons ω) (Nat.le_refl _)) (Nat.le_refl _)
   rw[hf _ _ ⟨List.getElem_mem hlt,List.getElem_mem hlt'⟩ _ _ _ hsub' ω]
   simp only[↓XA,XB,z14,simprocAttr]
   have hlw' :nx≤(lw'.min (nx' +1+3)).min (nx' +1+6+4):=Nat.le_min.2 ⟨Nat.le_min.2 ⟨hlw,ω⟩,ω⟩
   cases hp:p l[i] m[i] with
   |false=>
    simp only[Bool.not_false,↓XA,XB,z14,simprocAttr]
    refine⟨trivial,_,rfl,hlw',?_⟩
    have:all2 p l m=false:=by
     cases e:all2 p l m with
     |false=>rfl
     |true=>
      have:= (zgo hlen).1 e i hlt hlt'
      rw[hp] at this;cases this
    rw[this]
    rfl
   |true=>
    simp only[Bool.not_true,↓XA,XB,z14,simprocAttr]
    rw[z23 ω ω]
    refine⟨l.length-(i+1),ω,i+1,_,_,_,_,_,_,_,_,_,_,_,_,_,_,_,_,_,_,_,_,rfl,ω,fun j h h' hj=> ?_,ω,hlw',hsub',rfl,rfl⟩
    by_cases e:j=i
    ·subst e;exact hp
    ·exact hall j h h' ω
  ·have hd:decide ((i:Int)<l.length)=false:=by simp;omega
   simp only[hd,↓XA,XB,z14,simprocAttr]
   have hil:i=l.length:=ω
   subst hil
   refine⟨trivial,_,rfl,hlw,?_⟩
   rw[(zgo hlen).2 fun j h h' =>hall j h h' h]
   rfl
 ·have h1: (!decide ((l.length:Int)=m.length))=true:=by simp;omega
  simp only[h1,↓XA,XB,z14,simprocAttr]
  refine⟨trivial,_,rfl,Nat.le_refl _,?_⟩
  have:all2 p l m=false:=by
   cases e:all2 p l m with
   |false=>rfl
   |true=>exact absurd (zo0 e) hlen
  rw[this]
  rfl
end Go.Lift
namespace Go.Lift
open Go
variable{c f k con:Nat}{s:Sto}{x:Ln}
variable {G:Nat→Option IFun}
def isAz (c:Nat):Bool:=Nat.ble 97 c&&Nat.ble c 122
def azSet:List D:= (List.range 256).map fun c=> .bool (isAz c)
def ziy:azSet.length=256:=by simp[azSet]
def zzt  (h:c<256):azSet[c]?=some (.bool (isAz c)):=by
 simp[azSet,h]
def zpx:azSet.all D.isCell=true:=by
 simp only[azSet,List.all_map,List.all_eq_true]
 intro c _;rfl
theorem y7l:Elt 256 true (.agg azSet):= .inl ⟨rfl,azSet,rfl,ziy,zpx⟩
def zpz:IFun:= {nt:=10,res:= [.t 4],pure:=false,pop:=true,body:= (.seq (.reg 1 [⟨(.some 4),.mv (.c (.d (.bool false))),.none,[]⟩])
 (.seq (.reg 6 [⟨(.some 5),.mv (.t 0),.none,[]⟩,
 ⟨(.some 6),.mv (.t 1),.none,[]⟩,
 ⟨(.some 7),.nilck (.t 5),.none,[]⟩,
 ⟨(.some 8),.iaddrA 256 1 (.t 7) (.t 6),.none,[]⟩,
 ⟨(.some 9),.load 1 false (.t 8),.none,[]⟩,
 ⟨(.some 4),.mv (.t 9),.none,[]⟩])
 .ret))}
def y84  (hG:G f=some zpz)  {nx lw:Nat} (ho:sget s k=some (.cells (azSet.map V.d))) (hc:c<256):
  z06 G (.fn f [] []) [.ptr k 0,.d (.int .u8 c)] {s:=s,next:=nx,low:=lw} =some (.d (.bool (isAz c)),{s:=s,next:=nx,low:=lw}):=by
 refine z7f (us:= [.d (.bool (isAz c))]) hG rfl rfl rfl ?_
 have h1:z1i 256 1 (.ptr k 0) (c:Int)=some (.ptr k c):=by
  simp only[z1i]
  rw[if_pos ω]
  simp
 have h2: (if c+1≤(azSet.map V.d).length then ofCells false (((azSet.map V.d).drop c).take 1) else none)=some (.d (.bool (isAz c))):=by
  have hl:=ziy
  rw[if_pos (by simp;omega)]
  have h3: ((azSet.map V.d).drop c).take 1= [.d (.bool (isAz c))]:=by
   have h4:=zzt hc
   rw[List.take_one,List.head?_drop]
   simp[h4]
  rw[h3]
  rfl
 simp only[zpz,h1,ho,h2,↓XA,XB,z14,simprocAttr]
 exact⟨trivial,_,rfl,Nat.le_refl _,rfl⟩
def zqq (con:Nat):IC:= (.seq (.seq (.reg 3 [⟨(.some 5),.mv (.t 0),.none,[]⟩,
 ⟨(.some 6),.len true (.t 5),.none,[]⟩,
 ⟨(.some 7),.bin .gtr (.t 6) (.c (.d (.int .i64 0))),.none,[]⟩])
 (.cond (.t 7) .skip
 (.exit 0)))
 (.block 1 (.seq (.seq (.reg 5 [⟨(.some 8),.mv (.t 1),.none,[]⟩,
 ⟨(.some 9),.mv (.t 0),.none,[]⟩,
 ⟨(.some 10),.indexS (.t 9) (.c (.d (.int .i64 0))),.none,[]⟩,
 ⟨(.some 11),.call (.f con) [(.t 8),(.t 10)],.none,[]⟩,
 ⟨(.some 12),.un .not (.t 11),.none,[]⟩])
 (.cond (.t 12) (.exit 0)
 .skip))
 (.reg 3 [⟨(.some 13),.mv (.t 0),.none,[]⟩,
 ⟨(.some 14),.sliceS (.t 13) (.some (.c (.d (.int .i64 1)))) .none,.none,[]⟩,
 ⟨(.some 0),.mv (.t 14),.none,[]⟩]))))
def zwn (con:Nat):IFun:= {nt:=16,res:= [.t 4],pure:=false,pop:=true,body:= (.seq (.reg 1 [⟨(.some 4),.mv (.c (.d (.str []))),.none,[]⟩])
 (.seq (.block 0 (.loop (zqq con)))
 (.seq (.reg 2 [⟨(.some 15),.mv (.t 0),.none,[]⟩,
 ⟨(.some 4),.mv (.t 15),.none,[]⟩])
 .ret)))}
def zql (con:Nat):IC:= (.seq (.seq (.reg 3 [⟨(.some 5),.mv (.t 0),.none,[]⟩,
 ⟨(.some 6),.len true (.t 5),.none,[]⟩,
 ⟨(.some 7),.bin .gtr (.t 6) (.c (.d (.int .i64 0))),.none,[]⟩])
 (.cond (.t 7) .skip
 (.exit 0)))
 (.block 1 (.seq (.seq (.reg 8 [⟨(.some 8),.mv (.t 1),.none,[]⟩,
 ⟨(.some 9),.mv (.t 0),.none,[]⟩,
 ⟨(.some 10),.mv (.t 0),.none,[]⟩,
 ⟨(.some 11),.len true (.t 10),.none,[]⟩,
 ⟨(.some 12),.bin .sub (.t 11) (.c (.d (.int .i64 1))),.none,[]⟩,
 ⟨(.some 13),.indexS (.t 9) (.t 12),.none,[]⟩,
 ⟨(.some 14),.call (.f con) [(.t 8),(.t 13)],.none,[]⟩,
 ⟨(.some 15),.un .not (.t 14),.none,[]⟩])
 (.cond (.t 15) (.exit 0)
 .skip))
 (.reg 6 [⟨(.some 16),.mv (.t 0),.none,[]⟩,
 ⟨(.some 17),.mv (.t 0),.none,[]⟩,
 ⟨(.some 18),.len true (.t 17),.none,[]⟩,
 ⟨(.some 19),.bin .sub (.t 18) (.c (.d (.int .i64 1))),.none,[]⟩,
 ⟨(.some 20),.sliceS (.t 16) .none (.some (.t 19)),.none,[]⟩,
 ⟨(.some 0),.mv (.t 20),.none,[]⟩]))))
def zwg (con:Nat):IFun:= {nt:=22,res:= [.t 4],pure:=false,pop:=true,body:= (.seq (.reg 1 [⟨(.some 4),.mv (.c (.d (.str []))),.none,[]⟩])
 (.seq (.block 0 (.loop (zql con)))
 (.seq (.reg 2 [⟨(.some 21),.mv (.t 0),.none,[]⟩,
 ⟨(.some 4),.mv (.t 21),.none,[]⟩])
 .ret)))}
def y8l  (hG:G f=some (zwn con)) (hC:G con=some zpz)  {nx lw:Nat} (ho:sget s k=some (.cells (azSet.map V.d)))  (hx:∀c∈x,c<256) (hl:x.length≤9223372036854775807):
  z06 G (.fn f [] []) [.d (.str x),.ptr k 0] {s:=s,next:=nx,low:=lw} =some (.d (.str (x.dropWhile isAz)),{s:=s,next:=nx,low:=lw}):=by
 refine z7f (us:= [.d (.str (x.dropWhile isAz))]) hG rfl rfl rfl ?_
 simp only[zwn,↓XA,XB,z14,simprocAttr]
 refine z33 (fun m env st=>∃(r:Ln) (nx' :Nat) (t5 t6 t7 t8 t9 t10 t11 t12 t13 t14 t15:V),m=r.length∧r.length≤x.length∧(∀c∈r,c<256)∧r.dropWhile isAz=x.dropWhile isAz∧nx≤nx' ∧
  env= [.d (.str r),.ptr k 0,.undef,.undef,.d (.str []),t5,t6,t7,t8,t9,t10,t11,t12,t13,t14,t15]∧st= {s:=s,next:=nx',low:=nx}) ?_ x.length
  ⟨x,_,_,_,_,_,_,_,_,_,_,_,_,rfl,Nat.le_refl _,hx,rfl,ω,rfl,rfl⟩
 rintro m env st ⟨r,nx',t5,t6,t7,t8,t9,t10,t11,t12,t13,t14,t15,hm,hle,hr,hdw,hn,rfl,rfl⟩
 cases r with
 |nil=>
  have hd:decide ((0:Int)< ((0:Nat):Int))=false:=rfl
  simp only[zqq,hd,↓XA,XB,z14,simprocAttr]
  refine⟨trivial,_,rfl,Nat.le_refl _,?_⟩
  rw[←hdw]
  rfl
 |cons c r=>
  have hd:decide ((0:Int)< ((r.length+1:Nat):Int))=true:=by simp
  have hi:z4t (c::r) 0=some (.d (.int .u8 c)):=rfl
  have hb:z3t (some (.d (.int .i64 1))) none (r.length+1) (r.length+1)=some (1,r.length+1):=by
   simp only[z3t,asI]
   rw[if_pos ω]
   rfl
  have hc:c<256:=hr c ψ
  simp only[zqq,hd,hi,↓XA,XB,z14,simprocAttr]
  rw[y84 hC ho hc]
  simp only[↓XA,XB,z14,simprocAttr]
  cases hz:isAz c with
  |false=>
   simp only[Bool.not_false,↓XA,XB,z14,simprocAttr]
   refine⟨trivial,_,rfl,Nat.le_refl _,?_⟩
   rw[←hdw,List.dropWhile_cons,hz]
   rfl
  |true=>
   have hsl: ((c::r).drop 1).take r.length=r:=by simp
   simp only[Bool.not_true,Option.map_some,Option.map_none,hb,hsl,↓XA,XB,z14,simprocAttr]
   refine⟨r.length,by simp at hm;omega,r,_,_,_,_,_,_,_,_,_,_,_,_,rfl,by simp at hle;omega,fun d hd=>hr d (by simp[hd]),?_,ω,rfl,rfl⟩
   rw[←hdw,List.dropWhile_cons,hz]
   rfl
def z4f (x:List Nat):List Nat:= (x.reverse.dropWhile isAz).reverse
def z9u   :z4f (x++ [c])=if isAz c then z4f x else x++ [c]:=by
 unfold z4f
 rw[List.reverse_append,List.reverse_singleton,List.singleton_append,List.dropWhile_cons]
 split
 ·rfl
 ·simp
def y8j  (hG:G f=some (zwg con)) (hC:G con=some zpz)  {nx lw:Nat} (ho:sget s k=some (.cells (azSet.map V.d)))  (hx:∀c∈x,c<256) (hl:x.length≤9223372036854775807):
  z06 G (.fn f [] []) [.d (.str x),.ptr k 0] {s:=s,next:=nx,low:=lw} =some (.d (.str (z4f x)),{s:=s,next:=nx,low:=lw}):=by
 refine z7f (us:= [.d (.str (z4f x))]) hG rfl rfl rfl ?_
 simp only[zwg,↓XA,XB,z14,simprocAttr]
 refine z33 (fun m env st=>∃(r:Ln) (nx' :Nat) (t5 t6 t7 t8 t9 t10 t11 t12 t13 t14 t15 t16 t17 t18 t19 t20 t21:V),m=r.length∧r.length≤x.length∧(∀c∈r,c<256)∧z4f r=z4f x∧nx≤nx' ∧
  env= [.d (.str r),.ptr k 0,.undef,.undef,.d (.str []),t5,t6,t7,t8,t9,t10,t11,t12,t13,t14,t15,t16,t17,t18,t19,t20,t21]∧st= {s:=s,next:=nx',low:=nx}) ?_ x.length
  ⟨x,_,_,_,_,_,_,_,_,_,_,_,_,_,_,_,_,_,_,rfl,Nat.le_refl _,hx,rfl,ω,rfl,rfl⟩
 rintro m env st ⟨r,nx',t5,t6,t7,t8,t9,t10,t11,t12,t13,t14,t15,t16,t17,t18,t19,t20,t21,hm,hle,hr,hdw,hn,rfl,rfl⟩
 rcases List.eq_nil_or_concat r with rfl|⟨r',c,rfl⟩
 ·have hd:decide ((0:Int)< ((0:Nat):Int))=false:=rfl
  simp only[zql,hd,↓XA,XB,z14,simprocAttr]
  refine⟨trivial,_,rfl,Nat.le_refl _,?_⟩
  rw[←hdw]
  rfl
 ·simp only[List.concat_eq_append] at hm hle hr hdw⊢
  have hlen: (r' ++ [c]).length=r'.length+1:=by simp
  rw[hlen] at hle hm
  have hd:decide ((0:Int)< ((r'.length+1:Nat):Int))=true:=by simp
  have hw:IntKind.i64.wrap (((r'.length+1:Nat):Int)-1)= (r'.length:Int):=by
   rw[z23 ω ω]
   omega
  have hi:z4t (r' ++ [c]) (r'.length:Int)=some (.d (.int .u8 c)):=by
   simp[z4t]
  have hb:z3t none (some (.d (.int .i64 (r'.length:Int)))) (r'.length+1) (r'.length+1)=some (0,r'.length):=by
   simp only[z3t,asI]
   rw[if_pos ω]
   rfl
  have hc:c<256:=hr c ψ
  simp only[zql,hlen,hd,hw,hi,↓XA,XB,z14,simprocAttr]
  rw[y84 hC ho hc]
  simp only[↓XA,XB,z14,simprocAttr]
  cases hz:isAz c with
  |false=>
   simp only[Bool.not_false,↓XA,XB,z14,simprocAttr]
   refine⟨trivial,_,rfl,Nat.le_refl _,?_⟩
   rw[←hdw,z9u,hz]
   rfl
  |true=>
   have hsl: ((r' ++ [c]).drop 0).take (r'.length-0)=r' :=by simp
   simp only[Bool.not_true,Option.map_some,Option.map_none,hlen,hw,hb,hsl,↓XA,XB,z14,simprocAttr]
   refine⟨r'.length,ω,r',_,_,_,_,_,_,_,_,_,_,_,_,_,_,_,_,_,_,rfl,ω,fun d hd=>hr d (by simp[hd]),?_,ω,rfl,rfl⟩
   rw[←hdw,z9u,hz]
   rfl
def z256:List V:=List.replicate 256 (.d (.bool false))
def zxw:IFun:= {nt:=21,res:= [.cell 2 256 true,.t 3],pure:=true,pop:=false,body:= (.seq (.reg 2 [⟨(.some 2),.alloc 0 z256,.none,[]⟩,
 ⟨(.some 3),.mv (.c (.d (.bool false))),.none,[]⟩])
 (.seq (.seq (.reg 1 [⟨(.some 4),.mv (.c (.d (.int .i64 0))),.none,[]⟩])
 (.block 0 (.loop (.seq (.seq (.reg 4 [⟨(.some 6),.mv (.t 4),.none,[]⟩,
 ⟨(.some 7),.mv (.t 0),.none,[]⟩,
 ⟨(.some 8),.len true (.t 7),.none,[]⟩,
 ⟨(.some 9),.bin .lss (.t 6) (.t 8),.none,[]⟩])
 (.cond (.t 9) .skip
 (.exit 0)))
 (.seq (.block 1 (.seq (.reg 4 [⟨(.some 12),.mv (.t 0),.none,[]⟩,
 ⟨(.some 13),.mv (.t 4),.none,[]⟩,
 ⟨(.some 14),.indexS (.t 12) (.t 13),.none,[]⟩,
 ⟨(.some 5),.mv (.t 14),.none,[]⟩])
 (.seq (.seq (.reg 2 [⟨(.some 15),.mv (.t 5),.none,[]⟩,
 ⟨(.some 16),.bin .geq (.t 15) (.c (.d (.int .u8 128))),.none,[]⟩])
 (.cond (.t 16) (.seq (.reg 3 [⟨(.some 17),.load 256 true (.t 2),.none,[]⟩,
 ⟨.none,.store 256 (.t 2) (.t 17),.none,[]⟩,
 ⟨(.some 3),.mv (.c (.d (.bool false))),.none,[]⟩])
 .ret)
 .skip))
 (.reg 3 [⟨(.some 18),.mv (.t 5),.none,[]⟩,
 ⟨(.some 19),.iaddrA 256 1 (.t 2) (.t 18),.none,[]⟩,
 ⟨.none,.store 1 (.t 19) (.c (.d (.bool true))),.none,[]⟩]))))
 (.reg 3 [⟨(.some 10),.mv (.t 4),.none,[]⟩,
 ⟨(.some 11),.bin .add (.t 10) (.c (.d (.int .i64 1))),.none,[]⟩,
 ⟨(.some 4),.mv (.t 11),.none,[]⟩]))))))
 (.seq (.reg 3 [⟨(.some 20),.load 256 true (.t 2),.none,[]⟩,
 ⟨.none,.store 256 (.t 2) (.t 20),.none,[]⟩,
 ⟨(.some 3),.mv (.c (.d (.bool true))),.none,[]⟩])
 .ret)))}
def azStr:List Nat:= [97,98,99,100,101,102,103,104,105,106,107,108,109,110,111,112,113,114,115,116,117,118,119,120,121,122]
def zsi:z12:=fun _ _ _=>none
noncomputable def zvv (F:IFun) (args:List V) (m:Nat) (rs:List D):Bool:=
 match zpv zsi m F args {s:= [],next:=0,low:=0} with
 |some (vs,st1)=> (match z0p st1.s 0 vs with|some r=>D.beqL r rs|none=>false)
 |none=>false
def y9h {F:IFun} {args:Lv} {m:Nat} {rs:Ld} (h:zvv F args m rs=true):∃vs st1,z4r G F args {s:= [],next:=0,low:=0} =some (vs,st1)∧z0p st1.s 0 vs=some rs:=by
 unfold zvv at h
 split at h
 ·rename_i vs st1 hb
  split at h
  ·rename_i r hr
   refine⟨vs,st1,?_,by rw[hr,D.eq_of_beqL h]⟩
   have h1:=znq hb
   rw[←zgh] at h1
   have hle:LeC zsi (z06 G):=fun v a s r h=>by simp[zsi] at h
   have hll:LeL (fun f=>rounds f m) z0g:=fun f g hfg env st r h=>z32.2 ⟨m,z25 hfg (Nat.le_refl _) h⟩
   exact z49 hle hll h1
  ·cases h
 ·cases h
set_option maxRecDepth 100000 in
def y6u:zvv zxw [.d (.str azStr)] 40 [.agg azSet,.bool true]=true:=by kernel_rfl
def y8v  (hG:G f=some zxw) (st:St):z06 G (.fn f [] []) [.d (.str azStr)] st=some (.tup [.d (.agg azSet),.d (.bool true)],st):=by
 obtain⟨vs,st1,h1,h2⟩:=y9h (G:=G) y6u
 exact zhh (ds:= [.str azStr]) hG rfl rfl h1 h2 st
def zwm (b166 b167 ma tl tr b171 b172:Nat):IFun:= {nt:=43,res:= [.t 4],pure:=true,pop:=false,body:= (.seq (.reg 1 [⟨(.some 4),.mv (.c (.d (.str []))),.none,[]⟩])
 (.seq (.seq (.reg 6 [⟨(.some 7),.mv (.t 0),.none,[]⟩,
 ⟨(.some 8),.bin .eql (.t 7) (.c (.d (.str []))),.none,[]⟩,
 ⟨(.some 9),.mv (.t 8),.none,[]⟩,
 ⟨(.some 10),.mv (.t 1),(.some (9,false)),[]⟩,
 ⟨(.some 11),.bin .eql (.t 10) (.c (.d (.str []))),(.some (9,false)),[]⟩,
 ⟨(.some 12),.pick (.t 9) (.c (.d (.bool true))) (.t 11),.none,[]⟩])
 (.cond (.t 12) (.seq (.reg 2 [⟨(.some 13),.mv (.t 0),.none,[]⟩,
 ⟨(.some 4),.mv (.t 13),.none,[]⟩])
 .ret)
 .skip))
 (.seq (.seq (.reg 8 [⟨(.some 14),.mv (.t 1),.none,[]⟩,
 ⟨(.some 15),.len true (.t 14),.none,[]⟩,
 ⟨(.some 16),.bin .eql (.t 15) (.c (.d (.int .i64 1))),.none,[]⟩,
 ⟨(.some 17),.mv (.t 16),.none,[]⟩,
 ⟨(.some 18),.mv (.t 1),(.some (17,true)),[]⟩,
 ⟨(.some 19),.indexS (.t 18) (.c (.d (.int .i64 0))),(.some (17,true)),[]⟩,
 ⟨(.some 20),.bin .lss (.t 19) (.c (.d (.int .u8 128))),(.some (17,true)),[]⟩,
 ⟨(.some 21),.pick (.t 17) (.t 20) (.c (.d (.bool false))),.none,[]⟩])
 (.cond (.t 21) (.seq (.reg 8 [⟨(.some 22),.mv (.t 0),.none,[]⟩,
 ⟨(.some 23),.mv (.t 1),.none,[]⟩,
 ⟨(.some 24),.indexS (.t 23) (.c (.d (.int .i64 0))),.none,[]⟩,
 ⟨(.some 26),.mv (.t 1),.none,[]⟩,
 ⟨(.some 27),.indexS (.t 26) (.c (.d (.int .i64 0))),.none,[]⟩,
 ⟨(.some 25),.call (.f b167) [(.t 22),(.t 24)],.none,[]⟩,
 ⟨(.some 28),.call (.f b166) [(.t 25),(.t 27)],.none,[]⟩,
 ⟨(.some 4),.mv (.t 28),.none,[]⟩])
 .ret)
 .skip))
 (.seq (.seq (.reg 8 [⟨(.some 30),.mv (.t 1),.none,[]⟩,
 ⟨(.some 31),.call (.f ma) [(.t 30)],.none,[]⟩,
 ⟨(.some 29),.mv (.t 31),.none,[]⟩,
 ⟨(.some 32),.ext 0 (.t 29),.none,[]⟩,
 ⟨(.some 33),.ext 1 (.t 29),.none,[]⟩,
 ⟨(.some 5),.alloc 5 z256,.none,[]⟩,
 ⟨.none,.store 256 (.t 5) (.t 32),.none,[]⟩,
 ⟨(.some 6),.mv (.t 33),.none,[]⟩])
 (.seq (.reg 1 [⟨(.some 34),.mv (.t 6),.none,[]⟩])
 (.cond (.t 34) (.seq (.reg 4 [⟨(.some 35),.mv (.t 0),.none,[]⟩,
 ⟨(.some 36),.call (.f tr) [(.t 35),(.t 5)],.none,[]⟩,
 ⟨(.some 37),.call (.f tl) [(.t 36),(.t 5)],.none,[]⟩,
 ⟨(.some 4),.mv (.t 37),.none,[]⟩])
 .ret)
 .skip)))
 (.seq (.reg 6 [⟨(.some 38),.mv (.t 0),.none,[]⟩,
 ⟨(.some 39),.mv (.t 1),.none,[]⟩,
 ⟨(.some 40),.call (.f b172) [(.t 38),(.t 39)],.none,[]⟩,
 ⟨(.some 41),.mv (.t 1),.none,[]⟩,
 ⟨(.some 42),.call (.f b171) [(.t 40),(.t 41)],.none,[]⟩,
 ⟨(.some 4),.mv (.t 42),.none,[]⟩])
 .ret)))))}
def zx4  (hx:∀c∈x,c<256):∀c∈z4f x,c<256:=fun c hc=>by
 unfold z4f at hc
 exact hx c (List.mem_reverse.1 ((List.dropWhile_sublist _).subset (List.mem_reverse.1 hc)))
def zrp  : (z4f x).length≤x.length:=by
 unfold z4f
 rw[List.length_reverse]
 exact Nat.le_trans (List.Sublist.length_le (List.dropWhile_sublist _)) ψ
def y8k {b166 b167 ma tl tr b171 b172:Nat} (hG:G f=some (zwm b166 b167 ma tl tr b171 b172)) (hM:G ma=some zxw) (hL:G tl=some (zwn con)) (hR:G tr=some (zwg con)) (hC:G con=some zpz)
   (hx:∀c∈x,c<256) (hl:x.length≤9223372036854775807) (st:St):
  z06 G (.fn f [] []) [.d (.str x),.d (.str azStr)] st=some (.d (.str ((z4f x).dropWhile isAz)),st):=by
 refine z7p (ds:= [.str x,.str azStr]) (rs:= [.str ((z4f x).dropWhile isAz)]) hG rfl rfl ?_ st
 have haz:decide (azStr= [])=false:=rfl
 have hlen:azStr.length=26:=rfl
 have h26:decide (((26:Nat):Int)=1)=false:=rfl
 have haz' :∀k,sget [(k,Obj.cells (cellsV (.d (.agg azSet))))] k=some (.cells (azSet.map V.d)):=fun k=>by simp[sget,cellsV]
 have htr:∀k nx lw,z06 G (.fn tr [] []) [.d (.str x),.ptr k 0] {s:= [(k,.cells (cellsV (.d (.agg azSet))))],next:=nx,low:=lw} =some (.d (.str (z4f x)),{s:= [(k,.cells (cellsV (.d (.agg azSet))))],next:=nx,low:=lw}):=
  fun k nx lw=>y8j hR hC (haz' k) hx hl
 have htl:∀k nx lw,z06 G (.fn tl [] []) [.d (.str (z4f x)),.ptr k 0] {s:= [(k,.cells (cellsV (.d (.agg azSet))))],next:=nx,low:=lw} =some (.d (.str ((z4f x).dropWhile isAz)),{s:= [(k,.cells (cellsV (.d (.agg azSet))))],next:=nx,low:=lw}):=
  fun k nx lw=>y8l hL hC (haz' k) (zx4 hx) (Nat.le_trans zrp hl)
 have hst:∀k nx lw,opStore {s:= [(k,.cells z256)],next:=nx,low:=lw} 256 (.ptr k 0) (.d (.agg azSet))=some {s:= [(k,.cells (cellsV (.d (.agg azSet))))],next:=nx,low:=Nat.min lw k} :=
  fun k nx lw=>zbb y7l (by unfold z256;exact List.length_replicate)
 have hma:∀st,z06 G (.fn ma [] []) [.d (.str azStr)] st=some (.tup [.d (.agg azSet),.d (.bool true)],st):=y8v hM
 cases hx0:decide (x= []) with
 |true=>
  have hx' :x= []:=by simpa using hx0
  subst hx'
  simp only[zwm,↓XA,XB,z14,simprocAttr]
  exact⟨trivial,_,rfl,rfl⟩
 |false=>
  simp only[zwm,hx0,haz,hlen,h26,hma,htr,htl,hst,List.getElem?_cons_zero,List.getElem?_cons_succ,↓XA,XB,z14,simprocAttr]
  exact⟨trivial,_,rfl,rfl⟩
theorem zn6 {p:Nat→Bool} :∀{l:List Nat},l.dropWhile p= []↔∀x∈l,p x=true
 | []=>by simp
 |y::l=>by
  rw[List.dropWhile_cons]
  split
  ·rename_i h
   rw[zn6]
   exact⟨fun h1 x hx=> (List.mem_cons.1 hx).elim (fun e=>e▸h) (h1 x),fun h1 x hx=>h1 x (List.mem_cons_of_mem _ hx)⟩
  ·rename_i h
   exact⟨fun h1=> (by cases h1),fun h1=>absurd (h1 y ψ) h⟩
def zwe  :decide ((z4f x).dropWhile isAz= [])=x.all isAz:=by
 rw[Bool.eq_iff_iff,decide_eq_true_iff,List.all_eq_true]
 constructor
 ·intro h c hc
  have h1:∀c∈z4f x,isAz c=true:=fun c hc=>by
   have:=zn6.1 h
   exact this c hc
  unfold z4f at h1
  cases hd:x.reverse.dropWhile isAz with
  |nil=>exact zn6.1 hd c (List.mem_reverse.2 hc)
  |cons y l=>
   have h2:isAz y=true:=h1 y (by rw[hd];simp)
   have h3:=List.head_dropWhile_not isAz (l:=x.reverse) (by rw[hd];simp)
   simp only[hd,List.head_cons] at h3
   rw[h2] at h3;cases h3
 ·intro h
  have h1:x.reverse.dropWhile isAz= []:=zn6.2 fun c hc=>h c (List.mem_reverse.1 hc)
  unfold z4f
  rw[h1]
  rfl
def zou (tm:Nat):IFun:= {nt:=16,res:= [.t 2],pure:=true,pop:=false,body:= (.seq (.reg 1 [⟨(.some 2),.mv (.c (.d (.bool false))),.none,[]⟩])
 (.seq (.reg 14 [⟨(.some 3),.mv (.t 0),.none,[]⟩,
 ⟨(.some 4),.len true (.t 3),.none,[]⟩,
 ⟨(.some 5),.bin .gtr (.t 4) (.c (.d (.int .i64 0))),.none,[]⟩,
 ⟨(.some 6),.mv (.t 5),.none,[]⟩,
 ⟨(.some 7),.mv (.t 0),(.some (6,true)),[]⟩,
 ⟨(.some 8),.len true (.t 7),(.some (6,true)),[]⟩,
 ⟨(.some 9),.bin .leq (.t 8) (.c (.d (.int .i64 8))),(.some (6,true)),[]⟩,
 ⟨(.some 10),.pick (.t 6) (.t 9) (.c (.d (.bool false))),.none,[]⟩,
 ⟨(.some 11),.mv (.t 10),.none,[]⟩,
 ⟨(.some 12),.mv (.t 0),(.some (11,true)),[]⟩,
 ⟨(.some 13),.call (.f tm) [(.t 12),(.c (.d (.str azStr)))],(.some (11,true)),[]⟩,
 ⟨(.some 14),.bin .eql (.t 13) (.c (.d (.str []))),(.some (11,true)),[]⟩,
 ⟨(.some 15),.pick (.t 11) (.t 14) (.c (.d (.bool false))),.none,[]⟩,
 ⟨(.some 2),.mv (.t 15),.none,[]⟩])
 .ret))}
def z0z (x:List Nat):Bool:=decide (0<x.length)&&decide (x.length≤8)&&x.all isAz
def y6h {tm:Nat} (hG:G f=some (zou tm))  (hT:∀st,z06 G (.fn tm [] []) [.d (.str x),.d (.str azStr)] st=some (.d (.str ((z4f x).dropWhile isAz)),st)) (st:St):
  z06 G (.fn f [] []) [.d (.str x)] st=some (.d (.bool (z0z x)),st):=by
 refine z7p (ds:= [.str x]) (rs:= [.bool (z0z x)]) hG rfl rfl ?_ st
 cases h0:decide ((0:Int)< (x.length:Int)) with
 |false=>
  have hn:z0z x=false:=by
   have:¬0<x.length:=by simpa using h0
   simp[z0z,this]
  simp only[zou,h0,↓XA,XB,z14,simprocAttr]
  exact⟨trivial,_,rfl,by rw[hn];rfl⟩
 |true=>
  have h0' :0<x.length:=by simpa using h0
  cases h1:decide ((x.length:Int)≤8) with
  |false=>
   have hn:z0z x=false:=by
    have:¬x.length≤8:=by have:=of_decide_eq_false h1;omega
    simp[z0z,this]
   simp only[zou,h0,h1,↓XA,XB,z14,simprocAttr]
   exact⟨trivial,_,rfl,by rw[hn];rfl⟩
  |true=>
   have hn:z0z x=decide ((z4f x).dropWhile isAz= []):=by
    have:x.length≤8:=by have:=of_decide_eq_true h1;omega
    rw[zwe]
    simp[z0z,this,h0']
   simp only[zou,h0,h1,hT,↓XA,XB,z14,simprocAttr]
   exact⟨trivial,_,rfl,by rw[hn];rfl⟩
end Go.Lift
namespace Go.Lift.T1
open Go Go.Lift
theorem g3:G 3=some i3:=by kernel_rfl
theorem g4:G 4=some i4:=by kernel_rfl
theorem g5:G 5=some i5:=by kernel_rfl
def g6:G 6=some i6:=by kernel_rfl
def g7:G 7=some i7:=by kernel_rfl
def g8:G 8=some i8:=by kernel_rfl
def g9:G 9=some i9:=by kernel_rfl
def g10:G 10=some i10:=by kernel_rfl
def g11:G 11=some i11:=by kernel_rfl
def g12:G 12=some i12:=by kernel_rfl
def g13:G 13=some i13:=by kernel_rfl
def g14:G 14=some i14:=by kernel_rfl
def g15:G 15=some i15:=by kernel_rfl
def g16:G 16=some i16:=by kernel_rfl
def g17:G 17=some i17:=by kernel_rfl
def g18:G 18=some i18:=by kernel_rfl
def g20:G 20=some i20:=by kernel_rfl
def g21:G 21=some i21:=by kernel_rfl
def g22:G 22=some i22:=by kernel_rfl
def g23:G 23=some i23:=by kernel_rfl
def g24:G 24=some i24:=by kernel_rfl
def g25:G 25=some i25:=by kernel_rfl
def g26:G 26=some (zpg 2 true [.nilS,(.d (.int .i64 0))]):=by kernel_rfl
def g27:G 27=some i27:=by kernel_rfl
def g28:G 28=some i28:=by kernel_rfl
def g29:G 29=some (zpg 2 true [(.d (.str [])),.nilS]):=by kernel_rfl
def g30:G 30=some i30:=by kernel_rfl
def g31:G 31=some i31:=by kernel_rfl
def g32:G 32=some i32:=by kernel_rfl
def g33:G 33=some i33:=by kernel_rfl
def g34:G 34=some (zii 59 60):=by kernel_rfl
def g35:G 35=some i35:=by kernel_rfl
def g36:G 36=some i36:=by kernel_rfl
def g39:G 39=some i39:=by kernel_rfl
def g40:G 40=some i40:=by kernel_rfl
def g41:G 41=some (y4c 1 false):=by kernel_rfl
def g43:G 43=some i43:=by kernel_rfl
def g44:G 44=some i44:=by kernel_rfl
def g46:G 46=some i46:=by kernel_rfl
def g47:G 47=some i47:=by kernel_rfl
def g48:G 48=some i48:=by kernel_rfl
def g49:G 49=some i49:=by kernel_rfl
def g50:G 50=some i50:=by kernel_rfl
def g51:G 51=some i51:=by kernel_rfl
def g52:G 52=some i52:=by kernel_rfl
def g53:G 53=some (zpg 2 true [(.d (.str [])),.nilS]):=by kernel_rfl
def g54:G 54=some i54:=by kernel_rfl
def g55:G 55=some i55:=by kernel_rfl
def g56:G 56=some i56:=by kernel_rfl
def g57:G 57=some (z5i 3 true):=by kernel_rfl
def g58:G 58=some i58:=by kernel_rfl
def g59:G 59=some (z7h 57):=by kernel_rfl
def g60:G 60=some (evC 3 true):=by kernel_rfl
def g61:G 61=some i61:=by kernel_rfl
def g62:G 62=some (zou 90):=by kernel_rfl
def g70:G 70=some i70:=by kernel_rfl
def g71:G 71=some i71:=by kernel_rfl
def g72:G 72=some i72:=by kernel_rfl
def g73:G 73=some i73:=by kernel_rfl
def g74:G 74=some i74:=by kernel_rfl
def g75:G 75=some i75:=by kernel_rfl
def g76:G 76=some i76:=by kernel_rfl
def g77:G 77=some i77:=by kernel_rfl
def g79:G 79=some i79:=by kernel_rfl
def g80:G 80=some i80:=by kernel_rfl
def g81:G 81=some i81:=by kernel_rfl
def g82:G 82=some (zii 87 108):=by kernel_rfl
def g83:G 83=some i83:=by kernel_rfl
def g84:G 84=some (zii 109 110):=by kernel_rfl
def g85:G 85=some i85:=by kernel_rfl
def g86:G 86=some i86:=by kernel_rfl
def g87:G 87=some (z7h 111):=by kernel_rfl
def g88:G 88=some i88:=by kernel_rfl
theorem g89:G 89=some (y4m 112):=by kernel_rfl
def g90:G 90=some (zwm 113 114 115 116 117 118 119):=by kernel_rfl
def g95:G 95=some i95:=by kernel_rfl
def g96:G 96=some i96:=by kernel_rfl
def g97:G 97=some i97:=by kernel_rfl
def g98:G 98=some i98:=by kernel_rfl
def g99:G 99=some i99:=by kernel_rfl
def g100:G 100=some i100:=by kernel_rfl
def g101:G 101=some i101:=by kernel_rfl
def g104:G 104=some i104:=by kernel_rfl
def g105:G 105=some i105:=by kernel_rfl
def g106:G 106=some i106:=by kernel_rfl
def g107:G 107=some i107:=by kernel_rfl
def g108:G 108=some (evC 2 true):=by kernel_rfl
def g109:G 109=some (z7h 135):=by kernel_rfl
def g110:G 110=some (evC1):=by kernel_rfl
def g111:G 111=some (z5i 2 true):=by kernel_rfl
theorem g112:G 112=some (zyf):=by kernel_rfl
def g115:G 115=some (zxw):=by kernel_rfl
def g116:G 116=some (zwn 136):=by kernel_rfl
def g117:G 117=some (zwg 136):=by kernel_rfl
def g120:G 120=some i120:=by kernel_rfl
def g121:G 121=some (zii 140 141):=by kernel_rfl
def g122:G 122=some i122:=by kernel_rfl
def g123:G 123=some i123:=by kernel_rfl
def g124:G 124=some (zou 90):=by kernel_rfl
def g125:G 125=some i125:=by kernel_rfl
def g126:G 126=some (zii 142 143):=by kernel_rfl
def g127:G 127=some i127:=by kernel_rfl
def g128:G 128=some i128:=by kernel_rfl
def g129:G 129=some i129:=by kernel_rfl
def g130:G 130=some i130:=by kernel_rfl
def g131:G 131=some i131:=by kernel_rfl
def g132:G 132=some (z5i 2 true):=by kernel_rfl
def g135:G 135=some (z5i 1 false):=by kernel_rfl
def g136:G 136=some (zpz):=by kernel_rfl
def g140:G 140=some (z7h 148):=by kernel_rfl
def g141:G 141=some (evC 2 true):=by kernel_rfl
def g142:G 142=some (z7h 149):=by kernel_rfl
def g143:G 143=some (evC1):=by kernel_rfl
def g148:G 148=some (z5i 2 true):=by kernel_rfl
def g149:G 149=some (z5i 1 false):=by kernel_rfl
end Go.Lift.T1
namespace Go.Lift
open Go
variable{i n:Nat}{b:Int}{f:Nat→Int}
variable {G:Nat→Option IFun}
theorem y1p {b:Bool} : (b==true)=b:=by cases b<;>rfl
theorem y1t {b:Bool} : (b==false)= !b:=by cases b<;>rfl
def ziv {b:Bool} : ((!b)=true)= (b=false):=by cases b<;>simp
theorem y1r {b:Bool} : (b !=true)= !b:=by cases b<;>rfl
theorem y1s {b:Bool} : (b !=false)=b:=by cases b<;>rfl
def zik {p:Prop} [Decidable p]: (decide p=false)=¬p:=by simp
def ze5 {a b:Nat} : ((a:Int)< (b:Int))= (a<b):=by simp
def ze6 {a b:Nat} : ((a:Int)≤(b:Int))= (a≤b):=by simp
def z1p {α:Type} {enc:α→D} {l:List α} {es:Nat} (hi:i<l.length) (he: (cellsD (enc l[i])).length=es):z08 es (.d (.sl (l.map enc))) (i:Int)=some (.dptr (cellsD (enc l[i]))):=by
 simp only[z08]
 rw[if_pos ω]
 simp[hi,he]
theorem zcb {l:List (List Nat)}  (hi:i<l.length):z08 1 (.d (.sl (l.map D.str))) (i:Int)=some (.dptr [.str l[i]]):=z1p (enc:=D.str) hi rfl
theorem z3s {k:IntKind} {l:Li}  (hi:i<l.length):z08 1 (.d (.sl (l.map (D.int k)))) (i:Int)=some (.dptr [.int k l[i]]):=z1p (enc:=D.int k) hi rfl
def z07  (hi:i<n) (hn:n≤9223372036854775807):IntKind.i64.wrap ((i:Int)+1)= ((i+1:Nat):Int):=by
 rw[z23 ω ω]
 omega
def idxL {α:Type} (p:α→Bool) (l:List α):Int:=match l.findIdx? p with
 |some i=>i
 |none=> -1
def zts {α:Type} {p:α→Bool} {l:List α} (h:∀x∈l,p x=false):idxL p l= -1:=by
 unfold idxL
 rw[List.findIdx?_eq_none_iff.2 h]
def zca {α:Type} {p:α→Bool} {l:List α}  (hi:i<l.length) (h:∀x∈l.take i,p x=false) (hp:p l[i]=true):idxL p l=i:=by
 unfold idxL
 have:l.findIdx? p=some i:=by
  rw[List.findIdx?_eq_some_iff_getElem]
  refine⟨hi,hp,fun j hj=> ?_⟩
  have:=h l[j] (List.mem_iff_getElem.2 ⟨j,by simp;omega,by simp⟩)
  simp[this]
 rw[this]
def zyi {α:Type} {enc:α→D} {p:D→Bool} {l:List α} :idxP p (l.map enc)=idxL (fun x=>p (enc x)) l:=by
 unfold idxP idxL
 rw[List.findIdx?_map]
 rfl
def z0r {α:Type} (f:α→Int) (l:List α):Int:=match l.find? (fun x=>decide (f x≠0)) with
 |some x=>f x
 |none=>0
def z17 {α:Type} {f:α→Int} {l:List α} (h:∀x∈l,f x=0):z0r f l=0:=by
 unfold z0r
 have:l.find? (fun x=>decide (f x≠0))=none:=by
  rw[List.find?_eq_none]
  intro x hx
  simp[h x hx]
 rw[this]
def z8r {α:Type} {f:α→Int} {x:α} {l:List α} :z0r f (x::l)=if f x=0 then z0r f l else f x:=by
 unfold z0r
 rw[List.find?_cons]
 by_cases h:f x=0
 ·simp[h]
 ·simp[h]
theorem z34 {α:Type} {f:α→Int} :∀{l:List α} {i:Nat} (hi:i<l.length),(∀x∈l.take i,f x=0)→f l[i]≠0→z0r f l=f l[i]
 |x::l,0,_,_,h2=>by rw[z8r];exact if_neg h2
 |x::l,i+1,hi,h1,h2=>by
  rw[z8r,if_pos (h1 x ψ)]
  exact z34 (l:=l) (by simpa using hi) (fun y hy=>h1 y (by simp[hy])) (by simpa using h2)
def zba {α:Type} {f:α→Int} {l:List α}   (hi:i<l.length) (h:∀x∈l.take i,f x=b) (hp:f l[i]=b):∀x∈l.take (i+1),f x=b:=fun x hx=>by
 rw[List.take_add_one,List.getElem?_eq_getElem hi] at hx
 rcases List.mem_append.1 hx with h1|h1
 ·exact h x h1
 ·simp at h1;rw[h1];exact hp
def zb9 {α:Type} {f:α→Int} {l:List α}   (hi:¬i<l.length) (h:∀x∈l.take i,f x=b):∀x∈l,f x=b:=by
 rwa [List.take_of_length_le ω] at h
def z4x (f:Nat→Int) (n:Nat):Int:=z0r f (List.range n)
def z7x   (h:∀j,j<n→f j=0):z4x f n=0:=z17 fun x hx=>h x (by simpa using hx)
def zud   (hi:i<n) (h:∀j,j<i→f j=0) (h2:f i≠0):z4x f n=f i:=by
 have:=z34 (f:=f) (l:=List.range n) (i:=i) (by simpa using hi) (fun x hx=>h x (by
  rw[List.take_range] at hx
  have:=List.mem_range.1 hx
  omega)) (by simpa using h2)
 simpa [z4x] using this
def y3f    (h:∀j,j<i→f j=b) (h2:f i=b):∀j,j<i+1→f j=b:=fun j hj=>by
 by_cases e:j=i
 ·rw[e];exact h2
 ·exact h j ω
def z8m {α:Type} {p:α→Bool} {l:List α} : (idxL p l= -1∧l.find? p=none)∨∃(i:Nat) (hi:i<l.length),idxL p l=i∧l.find? p=some l[i]:=by
 unfold idxL
 cases h:l.findIdx? p with
 |none=>
  refine .inl ⟨rfl,?_⟩
  rw[List.findIdx?_eq_none_iff] at h
  rw[List.find?_eq_none]
  intro x hx
  simp[h x hx]
 |some i=>
  rw[List.findIdx?_eq_some_iff_getElem] at h
  obtain⟨h1,h2,h3⟩:=h
  refine .inr ⟨i,h1,rfl,?_⟩
  rw[List.find?_eq_some_iff_getElem]
  refine⟨h2,i,h1,rfl,fun j hj=> ?_⟩
  have:=h3 j hj
  simpa using this
def zch {e:Lv} {k:Nat} {v u:V} (h:k<e.length): (e.set k v).getD k u=v:=by simp[h]
def z7w {e:Lv} {k j:Nat} {v u:V} (h: (k=j)=False): (e.set k v).getD j u=e.getD j u:=by
 have h' :k≠j:=fun e=>by rw[h] at e;exact e
 simp[List.getElem?_set,h']
def zx6 {f:Nat} {F:IFun} (hG:G f=some F) (hp:F.pure=true) (hn:F.nil2=false) {ds rs:Ld}
  (h:∀e:List V,e.length= (ds.map V.d).length+ (F.nt-(ds.map V.d).length)→(∀i,i<ds.length→e.getD i .undef= (ds.map V.d).getD i .undef)→Post (zuh G none F.body e {s:= [],next:=0,low:=0}) (fun e env st' =>e.fin∧∃vs,z2h st' env F.res=some vs∧z0p st'.s 0 vs=some rs)) (st:St):
  z06 G (.fn f [] []) (ds.map V.d) st=some (tupV (rs.map V.d),st):=by
 refine z7p hG hp hn ?_ st
 refine h _ ?_ ?_
 ·rw[List.length_append,List.length_replicate]
 ·intro i hi
  simp only[List.getD_eq_getElem?_getD]
  rw[List.getElem?_append_left (by simpa using hi)]
def zj9:V→Bool→Bool
 | .d (.bool b),w=>b==w
 |_,_=>false
def z5r {env:Lv} {t:Nat} {w:Bool} :wantedE env (some (t,w))=zj9 (env.getD t .undef) w:=by
 simp only[wantedE]
 generalize env.getD t .undef=x
 cases x<;>try rfl
 case d x=>cases x<;>rfl
end Go.Lift
namespace Go.Lift
open Go
end Go.Lift
namespace Go.Lift.K
open Go Go.Lift
abbrev G:=T1.G
structure RelT where
 name:List Nat
 arity:Int
 rank:Int
def RelT.d (x:RelT):D:= .agg [.str x.name,.int .i64 x.arity,.int .i64 x.rank]
structure PatT where
 name:List Nat
 vars:List (List Nat)
def PatT.d (x:PatT):D:= .agg [.str x.name,.sl (x.vars.map D.str)]
structure ClauseT where
 rel:List Nat
 head:List PatT
 body:List PatT
def ClauseT.d (x:ClauseT):D:= .agg [.str x.rel,.sl (x.head.map PatT.d),.sl (x.body.map PatT.d)]
structure RulesT where
 rels:List RelT
 clauses:List ClauseT
def RulesT.d (x:RulesT):D:= .agg [.sl (x.rels.map RelT.d),.sl (x.clauses.map ClauseT.d)]
structure NodeT where
 name:List Nat
 kids:List Int
def NodeT.d (x:NodeT):D:= .agg [.str x.name,.sl (x.kids.map (D.int .i64))]
structure TreeT where
 nodes:List NodeT
 root:Int
def TreeT.d (x:TreeT):D:= .agg [.sl (x.nodes.map NodeT.d),.int .i64 x.root]
structure GoalT where
 rel:List Nat
 args:List TreeT
def GoalT.d (x:GoalT):D:= .agg [.str x.rel,.sl (x.args.map TreeT.d)]
abbrev Lh:=List GoalT
abbrev Lk:=List NodeT
abbrev Lt:=List TreeT
variable{x:Ln}{i:Nat}
structure SortT where
 rank:Int
 alts:List NodeT
structure TypeT where
 sorts:List SortT
 start:Int
def SOk (x:List Nat):Prop:= (∀c∈x,c<256)∧x.length≤9223372036854775807
def LOk {α:Type} (l:List α):Prop:=l.length≤9223372036854775807
def IOk (n:Int):Prop:= -9223372036854775808≤n∧n≤9223372036854775807
def SsOk (l:List (List Nat)):Prop:=LOk l∧∀v∈l,SOk v
def RelT.ok (x:RelT):Prop:=SOk x.name∧IOk x.arity∧IOk x.rank
def PatT.ok (x:PatT):Prop:=SOk x.name∧SsOk x.vars
def zo4 (l:List PatT):Prop:=LOk l∧∀x∈l,x.ok
def ClauseT.ok (x:ClauseT):Prop:=SOk x.rel∧zo4 x.head∧zo4 x.body
def y1y (l:List RelT):Prop:=LOk l∧∀x∈l,x.ok
def RulesT.ok (x:RulesT):Prop:=y1y x.rels∧LOk x.clauses∧∀c∈x.clauses,c.ok
def NodeT.ok (x:NodeT):Prop:=SOk x.name∧LOk x.kids∧∀k∈x.kids,IOk k
def y56 (l:List NodeT):Prop:=LOk l∧∀x∈l,x.ok
def TreeT.ok (x:TreeT):Prop:=y56 x.nodes∧IOk x.root
def GoalT.ok (x:GoalT):Prop:=SOk x.rel∧LOk x.args∧∀t∈x.args,t.ok
theorem z61 {x:RelT} :Elt 3 true x.d:= .inl ⟨rfl,_,rfl,rfl,rfl⟩
theorem z6l {x:PatT} :Elt 2 true x.d:= .inl ⟨rfl,_,rfl,rfl,rfl⟩
theorem z72 {x:ClauseT} :Elt 3 true x.d:= .inl ⟨rfl,_,rfl,rfl,rfl⟩
theorem z62 {x:NodeT} :Elt 2 true x.d:= .inl ⟨rfl,_,rfl,rfl,rfl⟩
theorem z1t {x:TreeT} :Elt 2 true x.d:= .inl ⟨rfl,_,rfl,rfl,rfl⟩
theorem z8v {x:GoalT} :Elt 2 true x.d:= .inl ⟨rfl,_,rfl,rfl,rfl⟩
theorem z2e {l:List RelT}  (hi:i<l.length):z08 3 (.d (.sl (l.map RelT.d))) (i:Int)=some (.dptr [.str l[i].name,.int .i64 l[i].arity,.int .i64 l[i].rank]):=z1p hi rfl
theorem z3r {l:List PatT}  (hi:i<l.length):z08 2 (.d (.sl (l.map PatT.d))) (i:Int)=some (.dptr [.str l[i].name,.sl (l[i].vars.map D.str)]):=z1p hi rfl
theorem z6j {l:List ClauseT}  (hi:i<l.length):z08 3 (.d (.sl (l.map ClauseT.d))) (i:Int)=some (.dptr [.str l[i].rel,.sl (l[i].head.map PatT.d),.sl (l[i].body.map PatT.d)]):=z1p hi rfl
theorem z3h {l:Lk}  (hi:i<l.length):z08 2 (.d (.sl (l.map NodeT.d))) (i:Int)=some (.dptr [.str l[i].name,.sl (l[i].kids.map (D.int .i64))]):=z1p hi rfl
theorem z5j {l:Lt}  (hi:i<l.length):z08 2 (.d (.sl (l.map TreeT.d))) (i:Int)=some (.dptr [.sl (l[i].nodes.map NodeT.d),.int .i64 l[i].root]):=z1p hi rfl
def isR (name:List Nat) (x:RelT):Bool:=decide (x.name=name)
def z2i (l:List RelT) (name:List Nat):Int:=idxL (isR name) l
def zqh  (hx:SOk x) (st:St):z06 G (.fn 90 [] []) [.d (.str x),.d (.str azStr)] st=some (.d (.str ((z4f x).dropWhile isAz)),st):=
 y8k T1.g90 T1.g115 T1.g116 T1.g117 T1.g136 hx.1 (by have:=hx.2;omega) st
def zbt  (hx:SOk x) (st:St):z06 G (.fn 62 [] []) [.d (.str x)] st=some (.d (.bool (z0z x)),st):=y6h T1.g62 (zqh hx) st
def zow  (hx:SOk x) (st:St):z06 G (.fn 124 [] []) [.d (.str x)] st=some (.d (.bool (z0z x)),st):=y6h T1.g124 (zqh hx) st
def z18 (r:RulesT) (i:Nat) (x:RelT):Int:=
 if z0z x.name=false then 4 else if x.arity<1∨3<x.arity then 2 else if x.rank<0∨3<x.rank then 3 else if z2i r.rels x.name<i then 5 else 0
def few (p:PatT):Bool:=decide (p.vars.length≤4)&& (!decide (p.name= [])||decide (p.vars.length=1))
def nmd (p:PatT):Bool:= (decide (p.name= [])||z0z p.name)&&p.vars.all z0z
def z5a (head:List PatT) (v:List Nat):Bool:=head.any fun p=>p.vars.any fun x=>decide (x=v)
def z2r (r:RulesT) (head:List PatT) (a:PatT):Int:=match r.rels.find? (isR a.name) with
 |none=>1
 |some x=>if (a.vars.length:Int)≠x.arity then 2 else if a.vars.all (z5a head)=false then 6 else 0
def z0y (r:RulesT) (c:ClauseT):Int:=match r.rels.find? (isR c.rel) with
 |none=>1
 |some x=>if (c.head.length:Int)≠x.arity∨(4:Int)<c.body.length∨c.head.all few=false then 2 else if c.head.all nmd=false then 4 else z0r (z2r r c.head) c.body
def z0l (r:RulesT):Int:=
 if ((r.rels.length:Int)<1∨(8:Int)<r.rels.length)∨(24:Int)<r.clauses.length then 2 else
 if z4x (fun i=>z18 r i (r.rels.getD i ⟨[],0,0⟩)) r.rels.length≠0 then z4x (fun i=>z18 r i (r.rels.getD i ⟨[],0,0⟩)) r.rels.length else z0r (z0y r) r.clauses
def inR (n:Nat) (k:Int):Bool:=decide (0≤k)&&decide (k<n)
def z0f (t:TreeT):Int:=
 if ((t.nodes.length:Int)<1∨(60:Int)<t.nodes.length)∨t.nodes.all (fun x=>decide (x.kids.length≤4))=false then 2 else
 if t.nodes.all (fun x=>z0z x.name)=false then 4 else
 if inR t.nodes.length t.root=false∨t.nodes.all (fun x=>x.kids.all (inR t.nodes.length))=false then 1 else 0
def z0q (r:RulesT) (g:GoalT):Int:=
 if z0l r≠0 then z0l r else match r.rels.find? (isR g.rel) with
 |none=>1
 |some x=>if (g.args.length:Int)≠x.arity then 2 else z0r z0f g.args
end Go.Lift.K
namespace Go.Lift
open Go
variable{f:Nat}{rs:Ld}{F:IFun}
universe u
inductive Dm {α:Sort u} (k:α):Type
 |mk
def PC (x:Option (Ex×List V×St)) (Q:Ex→List V→St→Prop) (_:Dm Q):Prop:=Post x Q
def PO (x:Option (List V×St)) (R:List V→St→Prop) (_:Dm R):Prop:=zdg x R
def PV (x:Option (V×St)) (K:V→St→Prop) (_:Dm K):Prop:=PostV x K
def CP (v:V) (A B:Prop) (_:Dm A) (_:Dm B):Prop:=zpo v A B
def CB (b:Bool) (A B:Prop) (_:Dm A) (_:Dm B):Prop:=if b=true then A else B
def LP (f:List V→St→Option (Ex×List V×St)) (env:List V) (st:St) (Q:Ex→List V→St→Prop) (_:Dm (f,env,st,Q)):Prop:=Post (z0g f env st) Q
section
variable {cl:z12} {rd:Option Nat} {env:List V} {st:St} {Q:Ex→List V→St→Prop} {q:Dm Q}
def zrx:PC (z0j cl z0g rd .skip env st) Q q=Q .nrm env st:=propext zhj
def zrz {id:Nat} :PC (z0j cl z0g rd (.exit id) env st) Q q=Q (.brk id) env st:=propext zhk
def y0o:PC (z0j cl z0g rd .ret env st) Q q=Q .ret env st:=propext zls
def y0n {a b:IC} :PC (z0j cl z0g rd (.seq a b) env st) Q q=PC (z0j cl z0g rd a env st) (onN (fun env st=>PC (z0j cl z0g rd b env st) Q .mk) Q) .mk:=propext zlr
def zlx {id:Nat} {b:IC} :PC (z0j cl z0g rd (.block id b) env st) Q q=PC (z0j cl z0g rd b env st) (outB id Q) .mk:=propext zdz
def zs0 {c:Opd} {a b:IC} :PC (z0j cl z0g rd (.cond c a b) env st) Q q=CP (evO env c) (PC (z0j cl z0g rd a env st) Q .mk) (PC (z0j cl z0g rd b env st) Q .mk) .mk .mk:=propext zhl
def y0p {na:Nat} {ops:List IOp} :PC (z0j cl z0g rd (.reg na ops) env st) Q q=PO (z0m cl st.next ops env {s:=st.s,next:=st.next+na,low:=st.low}) (fun env st=>Q .nrm env st) .mk:=propext zlt
theorem zry {b:IC} :PC (z0j cl z0g rd (.loop b) env st) Q q=LP (z0j cl z0g rd b) env st Q .mk:=rfl
def zv0 {t:Bool} {A B:Prop} {a:Dm A} {b:Dm B} :CP (.d (.bool t)) A B a b=CB t A B .mk .mk:=propext zei
def y7w {A B:Prop} {a:Dm A} {b:Dm B} :CB true A B a b=A:=by simp[CB]
def y7x {A B:Prop} {a:Dm A} {b:Dm B} :CB false A B a b=B:=by simp[CB]
theorem pv_some {v:V} {K:V→St→Prop} {k:Dm K} :PV (some (v,st)) K k=K v st:=propext z6y
def zs6 {id:Nat} :outB id Q (.brk id) env st=Q .nrm env st:=by simp[outB]
def zs5 {id j:Nat} (h: (j=id)=False):outB id Q (.brk j) env st=Q (.brk j) env st:=by simp[outB,h]
def NX (m:Nat) (J:Nat→List V→St→Prop) (_:Dm J) (env:List V) (st:St):Prop:=∃m',m' <m∧J m' env st
def z09 {m:Nat} {J:Nat→List V→St→Prop} {j:Dm J} (h:∃m',m' <m∧J m' env st):NX m J j env st:=h
def z0b {f:List V→St→Option (Ex×List V×St)} {env0:Lv} {st0:St} {q:Dm (f,env0,st0,Q)} (I:List V→St→Nat→List V→St→Prop)
  (h:∀m env st,I env0 st0 m env st→PC (f env st) (onN (NX m (I env0 st0) .mk) Q) .mk) (m:Nat) (h0:I env0 st0 m env0 st0):LP f env0 st0 Q q:=
 z33 (I env0 st0) h m h0
def RP (res:List IR) (rs:List D) (e:Ex) (env:List V) (st:St):Prop:=e.fin∧∃vs,z2h st env res=some vs∧z0p st.s 0 vs=some rs
def RQ (o:Option (List V)) (s:Sto) (rs:List D):Prop:=∃vs,o=some vs∧z0p s 0 vs=some rs
def y0f {res:List IR} {rs:Ld} :RP res rs .ret env st=RQ (z2h st env res) st.s rs:=by simp[RP,RQ]
def y0g {res:List IR} {rs:Ld} :RP res rs .nrm env st=RQ (z2h st env res) st.s rs:=by simp[RP,RQ]
theorem rq1 {s:Sto} {x:D}  (h: [x]=rs):RQ (some [.d x]) s rs:=⟨_,rfl,by rw[←h];rfl⟩
theorem rq2 {s:Sto} {x y:D}  (h: [x,y]=rs):RQ (some [.d x,.d y]) s rs:=⟨_,rfl,by rw[←h];rfl⟩
def RS (res:List IR) (R:V→St→Prop) (_:Dm R) (low:Nat) (e:Ex) (env:List V) (st:St):Prop:=e.fin∧∃vs,z2h st env res=some vs∧R (tupV vs) {s:=st.s,next:=st.next,low:=Nat.min low st.low}
def RT (o:Option (List V)) (low:Nat) (st:St) (R:V→St→Prop) (_:Dm R):Prop:=∃vs,o=some vs∧R (tupV vs) {s:=st.s,next:=st.next,low:=Nat.min low st.low}
def y0d {res:List IR} {R:V→St→Prop} {d:Dm R} {low:Nat} :RS res R d low .ret env st=RT (z2h st env res) low st R .mk:=by simp[RS,RT]
def y0e {res:List IR} {R:V→St→Prop} {d:Dm R} {low:Nat} :RS res R d low .nrm env st=RT (z2h st env res) low st R .mk:=by simp[RS,RT]
def zrg {vs:Lv} {R:V→St→Prop} {d:Dm R} {low:Nat} :RT (some vs) low st R d=R (tupV vs) {s:=st.s,next:=st.next,low:=Nat.min low st.low} :=by simp[RT]
def zv2 (v:Option V) (vs:Option (List V)):Option (List V):=match v,vs with
 |some v,some vs=>some (v::vs)
 |_,_=>none
theorem zeh {v:V} {vs:Lv} :zv2 (some v) (some vs)=some (v::vs):=rfl
theorem zhb:z2h st env []=some []:=rfl
def zrj {n:Nat} {rs:List IR} :z2h st env (.t n::rs)=zv2 (some (env.getD n .undef)) (z2h st env rs):=by
 simp only[z2h,resV,zv2];split<;>simp_all
def zdv {t n:Nat} {ag:Bool} {rs:List IR} :z2h st env (.cell t n ag::rs)=zv2 (z1s st n ag (env.getD t .undef)) (z2h st env rs):=by
 simp only[z2h,resV,zv2]
 cases z1s st n ag (env.getD t .undef)<;>cases z2h st env rs<;>rfl
end
def z4b (x:Option V) (st:St):Option (V×St):=match x with
 |some v=>some (v,st)
 |none=>none
theorem zb3 {v:V} {st:St} :z4b (some v) st=some (v,st):=rfl
def zwa (x:Option St):Option (V×St):=match x with
 |some st=>some (.undef,st)
 |none=>none
theorem zdi {st:St} :zwa (some st)=some (.undef,st):=rfl
def zy3 (x:Option Nat) (st:St):Option (V×St):=match x with
 |some n=>some (.d (.int .i64 (n:Nat)),st)
 |none=>none
theorem ze7 {n:Nat} {st:St} :zy3 (some n) st=some (.d (.int .i64 (n:Nat)),st):=rfl
def zxa (c a b:V) (st:St):Option (V×St):=match c with
 | .d (.bool t)=>some (if t then a else b,st)
 |_=>none
theorem zlv {a b:V} {st:St} :zxa (.d (.bool true)) a b st=some (a,st):=rfl
theorem zlw {a b:V} {st:St} :zxa (.d (.bool false)) a b st=some (b,st):=rfl
theorem zrw {c x y:Bool} {st:St} :zxa (.d (.bool c)) (.d (.bool x)) (.d (.bool y)) st=some (.d (.bool (bif c then x else y)),st):=by cases c<;>rfl
def y12 (es:Nat) (x i:V) (st:St):Option (V×St):=match asI i with
 |some i=>z4b (z08 es x i) st
 |none=>none
theorem zea {es:Nat} {x:V} {k:IntKind} {n:Int} {st:St} :y12 es x (.d (.int k n)) st=z4b (z08 es x n) st:=rfl
def zty (len es:Nat) (x i:V) (st:St):Option (V×St):=match asI i with
 |some i=>z4b (z1i len es x i) st
 |none=>none
theorem zcd {len es:Nat} {x:V} {k:IntKind} {n:Int} {st:St} :zty len es x (.d (.int k n)) st=z4b (z1i len es x n) st:=rfl
def ztp (x i:V) (st:St):Option (V×St):=match x,asI i with
 | .d (.str s),some i=>z4b (z4t s i) st
 |_,_=>none
theorem zc8 {s:Ln} {k:IntKind} {n:Int} {st:St} :ztp (.d (.str s)) (.d (.int k n)) st=z4b (z4t s n) st:=rfl
def boxV (k:Nat) (x:V) (st:St):Option (V×St):=if (cellsV x).all V.isCell then some (.ptr k 0,st.ins k (.cells (cellsV x))) else none
def znp {k:Nat} {ds:Ld} {st:St} (h:ds.all D.isCell=true):boxV k (.d (.agg ds)) st=some (.ptr k 0,st.ins k (.cells (ds.map V.d))):=by
 have: (ds.map V.d).all V.isCell=true:=by
  rw[List.all_map]
  exact h
 simp[boxV,cellsV,this]
theorem znl {k:Nat} {x:Ln} {st:St} :boxV k (.d (.str x)) st=some (.ptr k 0,st.ins k (.cells [.d (.str x)])):=rfl
theorem znn {k:Nat} {i:IntKind} {x:Int} {st:St} :boxV k (.d (.int i x)) st=some (.ptr k 0,st.ins k (.cells [.d (.int i x)])):=rfl
theorem ziu {k:Nat} {x:Bool} {st:St} :boxV k (.d (.bool x)) st=some (.ptr k 0,st.ins k (.cells [.d (.bool x)])):=rfl
theorem zvh {k:Nat} {l:Ld} {st:St} :boxV k (.d (.sl l)) st=some (.ptr k 0,st.ins k (.cells [.d (.sl l)])):=rfl
theorem zvi {k f:Nat} {a b:Lv} {st:St} :boxV k (.fn f a b) st=some (.ptr k 0,st.ins k (.cells [.fn f a b])):=rfl
theorem znm {k j o:Nat} {st:St} :boxV k (.ptr j o) st=some (.ptr k 0,st.ins k (.cells [.ptr j o])):=rfl
theorem zno {k j es off len:Nat} {ag:Bool} {st:St} :boxV k (.arr j es ag off len) st=some (.ptr k 0,st.ins k (.cells [.arr j es ag off len])):=rfl
theorem zit {k:Nat} {st:St} :boxV k .nilS st=some (.ptr k 0,st.ins k (.cells [.nilS])):=rfl
def eqAV (neg:Bool) (sh:List Kc) (x y:V) (st:St):Option (V×St):=match x,y with
 | .d a,.d b=>if z2v true sh a&&z2v true sh b then some (.d (.bool (D.beq a b !=neg)),st) else none
 |_,_=>none
def eqBV (neg:Bool) (x y:V) (st:St):Option (V×St):=match x,y with
 | .d (.bool a),.d (.bool b)=>some (.d (.bool ((a==b) !=neg)),st)
 |_,_=>none
theorem zij {neg a b:Bool} {st:St} :eqBV neg (.d (.bool a)) (.d (.bool b)) st=some (.d (.bool ((a==b) !=neg)),st):=rfl
def y0z (neg:Bool) (x:Option Bool) (st:St):Option (V×St):=match x with
 |some b=>some (.d (.bool (b !=neg)),st)
 |none=>none
theorem zc7 {neg b:Bool} {st:St} :y0z neg (some b) st=some (.d (.bool (b !=neg)),st):=rfl
def extV (i:Nat) (x:V) (st:St):Option (V×St):=match x with
 | .tup vs=>z4b vs[i]? st
 |_=>none
theorem zmu {i:Nat} {vs:Lv} {st:St} :extV i (.tup vs) st=z4b vs[i]? st:=rfl
def y1o (x:Option (List V)) (st:St):Option (V×St):=match x with
 |some cs=>some (mkAgg cs,st)
 |none=>none
theorem zd1 {cs:Lv} {st:St} :y1o (some cs) st=some (mkAgg cs,st):=rfl
section
variable {cl:z12} {base:Nat} {env:List V} {st:St} {dst:Option Nat} {g:Option (Nat×Bool)} {kp:List Nat}
theorem y7e {n:Nat} :evO env (.t n)=env.getD n .undef:=rfl
theorem y7f {v:V} :evO env (.c v)=v:=rfl
theorem y7d {x:Opd} :evalIOp cl base env st ⟨dst,.mv x,g,kp⟩=some (evO env x,st):=rfl
theorem zuk {a b c:Opd} :evalIOp cl base env st ⟨dst,.pick c a b,g,kp⟩=zxa (evO env c) (evO env a) (evO env b) st:=rfl
theorem zn3 {ai:Nat} {z:Lv} :evalIOp cl base env st ⟨dst,.alloc ai z,g,kp⟩=some (.ptr (base+ai) 0,st.ins (base+ai) (.cells z)):=rfl
theorem y1f {ai:Nat} {x:Opd} :evalIOp cl base env st ⟨dst,.box ai x,g,kp⟩=boxV (base+ai) (evO env x) st:=rfl
theorem zum {n:Nat} {ag:Bool} {a:Opd} :evalIOp cl base env st ⟨dst,.load n ag a,g,kp⟩=z4b (z1s st n ag (evO env a)) st:=rfl
theorem zmw {n:Nat} {a x:Opd} :evalIOp cl base env st ⟨dst,.store n a x,g,kp⟩=zwa (opStore st n (evO env a) (evO env x)):=rfl
theorem y1g {op:BinOp} {x y:Opd} :evalIOp cl base env st ⟨dst,.bin op x y,g,kp⟩=z4b (binV op (evO env x) (evO env y)) st:=rfl
theorem y7c {op:UnOp} {x:Opd} :evalIOp cl base env st ⟨dst,.un op x,g,kp⟩=z4b (unV op (evO env x)) st:=rfl
theorem y1e {neg:Bool} {sh:List Kc} {x y:Opd} :evalIOp cl base env st ⟨dst,.eqA neg sh x y,g,kp⟩=eqAV neg sh (evO env x) (evO env y) st:=rfl
theorem y1d {neg:Bool} {x y:Opd} :evalIOp cl base env st ⟨dst,.eqB neg x y,g,kp⟩=eqBV neg (evO env x) (evO env y) st:=rfl
theorem zn0 {neg:Bool} {kd:Nat} {x:Opd} :evalIOp cl base env st ⟨dst,.eqNil neg kd x,g,kp⟩=y0z neg (zi1 kd (evO env x)) st:=rfl
theorem y1a {f:Nat} {a b:List Opd} :evalIOp cl base env st ⟨dst,.mkf f a b,g,kp⟩=some (.fn f (a.map (evO env)) (b.map (evO env)),st):=rfl
theorem zmz {off:Nat} {x:Opd} :evalIOp cl base env st ⟨dst,.faddr off x,g,kp⟩=z4b (opFaddr off (evO env x)) st:=rfl
theorem zmy {off n:Nat} {ag:Bool} {x:Opd} :evalIOp cl base env st ⟨dst,.field off n ag x,g,kp⟩=z4b (z97 off n ag (evO env x)) st:=rfl
theorem zif {es:Nat} {x i:Opd} :evalIOp cl base env st ⟨dst,.iaddrS es x i,g,kp⟩=y12 es (evO env x) (evO env i) st:=rfl
theorem zig {len es:Nat} {x i:Opd} :evalIOp cl base env st ⟨dst,.iaddrA len es x i,g,kp⟩=zty len es (evO env x) (evO env i) st:=rfl
theorem zid {x i:Opd} :evalIOp cl base env st ⟨dst,.indexS x i,g,kp⟩=ztp (evO env x) (evO env i) st:=rfl
theorem y1b {s:Bool} {x:Opd} :evalIOp cl base env st ⟨dst,.len s x,g,kp⟩=zy3 (opLen s (evO env x)) st:=rfl
theorem zuq {f:Cal} {args:List Opd} :evalIOp cl base env st ⟨dst,.call f args,g,kp⟩=cl (calV env f) (args.map (evO env)) st:=rfl
theorem y1c {i:Nat} {x:Opd} :evalIOp cl base env st ⟨dst,.ext i x,g,kp⟩=extV i (evO env x) st:=rfl
theorem zn2 {z:Lv} {ps:List (Nat×Nat×Opd)} :evalIOp cl base env st ⟨dst,.build z ps,g,kp⟩=y1o (fillP z (ps.map fun (o,s,x)=> (o,s,evO env x))) st:=rfl
theorem zih {ai es eb:Nat} {ag:Bool} {x y:Opd} :evalIOp cl base env st ⟨dst,.append ai es ag eb x y,g,kp⟩=z0v st (base+ai) es ag eb (evO env x) (evO env y):=rfl
theorem zun {es:Nat} {x y:Opd} :evalIOp cl base env st ⟨dst,.copy es x y,g,kp⟩=z5d st es (evO env x) (evO env y):=rfl
theorem zn1 {es:Nat} {z:Lv} {x:Opd} :evalIOp cl base env st ⟨dst,.clearS es z x,g,kp⟩=zwa (z88 st es z (evO env x)):=rfl
theorem y4a {ai es len:Nat} {ag nofz:Bool} {z:Lv} {ps:List (Nat×Opd)} :evalIOp cl base env st ⟨dst,.mkSl ai es ag nofz z len ps,g,kp⟩=evalOp base env st (.mkSl ai es ag nofz z len ps):=rfl
theorem zpe {ai es eb:Nat} {ag:Bool} {z:Lv} {l c:Opd} :evalIOp cl base env st ⟨dst,.mkslice ai es ag eb z l c,g,kp⟩=evalOp base env st (.mkslice ai es ag eb z l c):=rfl
theorem zia {es:Nat} {x:Opd} {lo hi:Option Opd} :evalIOp cl base env st ⟨dst,.sliceL es x lo hi,g,kp⟩=evalOp base env st (.sliceL es x lo hi):=rfl
theorem zuj {x:Opd} {lo hi:Option Opd} :evalIOp cl base env st ⟨dst,.sliceS x lo hi,g,kp⟩=evalOp base env st (.sliceS x lo hi):=rfl
theorem zmx {ai kt:Nat} :evalIOp cl base env st ⟨dst,.mkmap ai kt,g,kp⟩=some (.map (base+ai),st.ins (base+ai) (.map kt [])):=rfl
theorem zic {kt:Nat} {ag:Bool} {sh:List Kc} {ok:Bool} {z:V} {m k:Opd} :evalIOp cl base env st ⟨dst,.lookup kt ag sh ok z m k,g,kp⟩=z4b (z27 st kt ag sh ok z (evO env m) (evO env k)) st:=rfl
theorem zib {kt:Nat} {ag:Bool} {sh:List Kc} {m k x:Opd} :evalIOp cl base env st ⟨dst,.mapUpd kt ag sh m k x,g,kp⟩=zwa (z5w st kt ag sh (evO env m) (evO env k) (evO env x)):=rfl
theorem zz2 {x:Opd} :evalIOp cl base env st ⟨dst,.convS x,g,kp⟩=evalOp base env st (.convS x):=rfl
theorem zz3 {k:IntKind} {x:Opd} :evalIOp cl base env st ⟨dst,.convI k x,g,kp⟩=evalOp base env st (.convI k x):=rfl
theorem zyy {x:Opd} :evalIOp cl base env st ⟨dst,.nilck x,g,kp⟩=evalOp base env st (.nilck x):=rfl
variable {R:List V→St→Prop} {r:Dm R} {l:List IOp} {op:IK} {t:Nat} {w:Bool} {k:Nat}
def y0k:PO (z0m cl base [] env st) R r=R env st:=propext zhi
def po_s:PO (z0m cl base (⟨some k,op,none,[]⟩::l) env st) R r=PV (evalIOp cl base env st ⟨some k,op,none,[]⟩) (fun v st' =>PO (z0m cl base l (env.set k v) st') R .mk) .mk:=by
 unfold PO PV;rw[z2t];simp[wantedE,kept,onE,setE]
def po_n:PO (z0m cl base (⟨none,op,none,[]⟩::l) env st) R r=PV (evalIOp cl base env st ⟨none,op,none,[]⟩) (fun _ st' =>PO (z0m cl base l env st') R .mk) .mk:=by
 unfold PO PV;rw[z2t];simp[wantedE,kept,onE,setE]
def y64:PO (z0m cl base (⟨some k,op,some (t,w),[]⟩::l) env st) R r=CB (zj9 (env.getD t .undef) w) (PV (evalIOp cl base env st ⟨some k,op,some (t,w),[]⟩) (fun v st' =>PO (z0m cl base l (env.set k v) st') R .mk) .mk) (PO (z0m cl base l (env.set k .undef) st) R .mk) .mk .mk:=by
 unfold PO PV;rw[z2t,z5r];simp[CB,kept,onE,setE]
def y65:PO (z0m cl base (⟨none,op,some (t,w),[]⟩::l) env st) R r=CB (zj9 (env.getD t .undef) w) (PV (evalIOp cl base env st ⟨none,op,some (t,w),[]⟩) (fun _ st' =>PO (z0m cl base l env st') R .mk) .mk) (PO (z0m cl base l env st) R .mk) .mk .mk:=by
 unfold PO PV;rw[z2t,z5r];simp[CB,kept,onE,setE]
def y62 {a:Nat} {kp:Ln} :PO (z0m cl base (⟨some k,op,none,a::kp⟩::l) env st) R r=PV (evalIOp cl base env st ⟨some k,op,none,a::kp⟩) (fun v st' =>CB (kept env st st' (a::kp)) (PO (z0m cl base l (env.set k v) st') R .mk) False .mk .mk) .mk:=by
 unfold PO PV;rw[z2t];simp[CB,wantedE,onE,setE]
def y63 {a:Nat} {kp:Ln} :PO (z0m cl base (⟨none,op,none,a::kp⟩::l) env st) R r=PV (evalIOp cl base env st ⟨none,op,none,a::kp⟩) (fun _ st' =>CB (kept env st st' (a::kp)) (PO (z0m cl base l env st') R .mk) False .mk .mk) .mk:=by
 unfold PO PV;rw[z2t];simp[CB,wantedE,onE,setE]
def y0l {a:Nat} {kp:Ln} :PO (z0m cl base (⟨some k,op,some (t,w),a::kp⟩::l) env st) R r=CB (zj9 (env.getD t .undef) w) (PV (evalIOp cl base env st ⟨some k,op,some (t,w),a::kp⟩) (fun v st' =>CB (kept env st st' (a::kp)) (PO (z0m cl base l (env.set k v) st') R .mk) False .mk .mk) .mk) (PO (z0m cl base l (env.set k .undef) st) R .mk) .mk .mk:=by
 unfold PO PV;rw[z2t,z5r];simp[CB,onE,setE]
def y0m {a:Nat} {kp:Ln} :PO (z0m cl base (⟨none,op,some (t,w),a::kp⟩::l) env st) R r=CB (zj9 (env.getD t .undef) w) (PV (evalIOp cl base env st ⟨none,op,some (t,w),a::kp⟩) (fun _ st' =>CB (kept env st st' (a::kp)) (PO (z0m cl base l env st') R .mk) False .mk .mk) .mk) (PO (z0m cl base l env st) R .mk) .mk .mk:=by
 unfold PO PV;rw[z2t,z5r];simp[CB,onE,setE]
end
theorem nat0: ((0:Nat):Int)=0:=rfl
theorem zqc {b w:Bool} :zj9 (.d (.bool b)) w= (b==w):=rfl
theorem zqb {w:Bool} :zj9 .undef w=false:=rfl
theorem zt6 {s:Ln} :opLen true (.d (.str s))=some s.length:=rfl
theorem zmc {l:Ld} :opLen false (.d (.sl l))=some l.length:=rfl
theorem zt7:opLen false .nilS=some 0:=rfl
theorem zt8:opLen false .emp=some 0:=rfl
theorem zk6 {k es off n:Nat} {ag:Bool} :opLen false (.arr k es ag off n)=some n:=rfl
theorem y18 {k o off:Nat} :opFaddr off (.ptr k o)=some (.ptr k (o+off)):=rfl
theorem zmt {ds:Ld} :opFaddr 0 (.dptr ds)=some (.dptr ds):=rfl
def zug {off:Nat} {x:D} {ds:Ld} :opFaddr (off+1) (.dptr (x::ds))=opFaddr off (.dptr ds):=by
 simp[opFaddr]
def zmh {st:St} {x:D} {ds:Ld} :z1s st 1 false (.dptr (x::ds))=some (.d x):=by simp[z1s,ofCellsD]
def zmg {st:St} {n:Nat} {ds:Ld} (h:ds.length=n):z1s st n true (.dptr ds)=some (.d (.agg ds)):=by
 simp[z1s,ofCellsD,←h]
theorem zqf {b:Bool} :unV .not (.d (.bool b))=some (.d (.bool (!b))):=rfl
theorem y7z {env:Lv} {n:Nat} :calV env (.f n)= .fn n [] []:=rfl
theorem y7y {env:Lv} {x:Opd} :calV env (.o x)=evO env x:=rfl
variable {G:Nat→Option IFun}
def z19   (hG:G f=some F) (hp:F.pure=true) (hn:F.nil2=false) {ds:Ld}
  (h:∀e:List V,e.length= (ds.map V.d).length+ (F.nt-(ds.map V.d).length)→(∀i,i<ds.length→e.getD i .undef= (ds.map V.d).getD i .undef)→PC (z0j (z06 G) z0g none F.body e {s:= [],next:=0,low:=0}) (RP F.res rs) .mk) (st:St):
  z06 G (.fn f [] []) (ds.map V.d) st=some (tupV (rs.map V.d),st):=zx6 hG hp hn h st
def y60   (hG:G f=some F) (hn:F.nil2=false) (hp:F.pure=false) (hpop:F.pop=true) {first cap args us:Lv} {st:St}
  (h:∀e:List V,e.length= (first++args++cap).length+ (F.nt-(first++args++cap).length)→(∀i,i< (first++args++cap).length→e.getD i .undef= (first++args++cap).getD i .undef)→PC (z0j (z06 G) z0g none F.body e {s:=st.s,next:=st.next,low:=st.next}) (fun e env st' =>e.fin∧∃vs,z2h st' env F.res=some vs∧st.next≤st'.low∧z7a st'.s st.next vs=some us) .mk):
  z06 G (.fn f first cap) args st=some (tupV us,st):=by
 refine z7f hG hn hp hpop (h _ ?_ ?_)
 ·rw[List.length_append,List.length_replicate]
 ·intro i hi
  simp only[List.getD_eq_getElem?_getD]
  rw[List.getElem?_append_left hi]
def z1b   (hG:G f=some F) (hn:F.nil2=false) (hp:F.pure=false) (hpop:F.pop=false) {first cap args:Lv} {st:St} {R:V→St→Prop}
  (h:∀e:List V,e.length= (first++args++cap).length+ (F.nt-(first++args++cap).length)→(∀i,i< (first++args++cap).length→e.getD i .undef= (first++args++cap).getD i .undef)→PC (z0j (z06 G) z0g none F.body e {s:=st.s,next:=st.next,low:=st.next}) (RS F.res R .mk st.low) .mk):
  PostV (z06 G (.fn f first cap) args st) R:=by
 have h' :=h (first++args++cap++List.replicate (F.nt-(first++args++cap).length) .undef) (by rw[List.length_append,List.length_replicate]) (fun i hi=>by
  simp only[List.getD_eq_getElem?_getD]
  rw[List.getElem?_append_left hi])
 obtain⟨vs,st1,h1,h2⟩:=z5o (R:=fun vs st' =>R (tupV vs) {s:=st'.s,next:=st'.next,low:=Nat.min st.low st'.low}) h'
 exact⟨_,_,zqw hG hn hp hpop h1,h2⟩
end Go.Lift
namespace Go.Lift
open Go
variable{f n0:Nat}{st:St}
variable {G:Nat→Option IFun}
def zdx  {F:IFun} (hG:G f=some F) (hp:F.pure=true) (hn:F.nil2=false) {first args cap xs:Lv}  (h:first++args++cap=xs):
  z06 G (.fn f first cap) args st=z06 G (.fn f [] []) xs st:=by
 subst h
 rw[z1m,z1m]
 simp only[z13,hG,hn,hp,List.nil_append,List.append_nil,Bool.false_and,Bool.false_eq_true,if_false,if_true]
def RO (res:List IR) (us:List V) (next:Nat) (e:Ex) (env:List V) (st:St):Prop:=e.fin∧∃vs,z2h st env res=some vs∧next≤st.low∧z7a st.s next vs=some us
def RU (o:Option (List V)) (st:St) (next:Nat) (us:List V):Prop:=∃vs,o=some vs∧next≤st.low∧z7a st.s next vs=some us
def y0h {res:List IR} {us:Lv} {next:Nat} {env:Lv} {st:St} :RO res us next .ret env st=RU (z2h st env res) st next us:=by simp[RO,RU]
def y0i {res:List IR} {us:Lv} {next:Nat} {env:Lv} {st:St} :RO res us next .nrm env st=RU (z2h st env res) st next us:=by simp[RO,RU]
theorem ru1  {next:Nat} {x y:D} (hl:next≤st.low) (h:x=y):RU (some [.d x]) st next [.d y]:=⟨_,rfl,hl,by rw[←h];exact zs4 (rs:= [x])⟩
def z5b  {F:IFun} (hG:G f=some F) (hn:F.nil2=false) (hp:F.pure=false) (hpop:F.pop=true) {first cap args us:Lv} 
  (h:∀e:List V,e.length= (first++args++cap).length+ (F.nt-(first++args++cap).length)→(∀i,i< (first++args++cap).length→e.getD i .undef= (first++args++cap).getD i .undef)→PC (z0j (z06 G) z0g none F.body e {s:=st.s,next:=st.next,low:=st.next}) (RO F.res us st.next) .mk):
  z06 G (.fn f first cap) args st=some (tupV us,st):=y60 hG hn hp hpop h
def zm8 {k n a:Nat} (h:k<n): (k<n+a)=True:=eq_true (Nat.lt_of_lt_of_le h (Nat.le_add_right _ _))
def zc0 {n a:Nat} (h:0<a): (n<n+a)=True:=eq_true ω
def z02 {a b c:Nat} (h:a≤b) (k:a≤c):a≤Nat.min b c:=Nat.le_min.2 ⟨h,k⟩
def TellsT (G:Nat→Option IFun) (fv:V) (s:Sto) (n0:Nat) {α:Type} (enc:α→D) (dom:α→Prop) (p:α→Bool):Prop:=
 ∀a,dom a→∀s' nx lw,Sub n0 s s' →n0≤nx→z06 G fv [.d (enc a)] {s:=s',next:=nx,low:=lw} =some (.d (.bool (p a)),{s:=s',next:=nx,low:=lw})
open Classical in
noncomputable def unT {α:Type} (enc:α→D) (dom:α→Prop) (p:α→Bool) (x:D):Bool:=decide (∃a,dom a∧enc a=x∧p a=true)
open Classical in
def TellsT.same {fv:V} {s:Sto}  {α:Type} {enc:α→D} {dom:α→Prop} {p:α→Bool} (h:TellsT G fv s n0 enc dom p) {a:α} (ha:dom a):unT enc dom p (enc a)=p a:=by
 unfold unT
 cases hp:p a with
 |true=>exact decide_eq_true ⟨a,ha,rfl,hp⟩
 |false=>
  refine decide_eq_false ?_
  rintro⟨b,hb,e,hq⟩
  have h1:=h a ha s n0 0 (Sub.refl _ _) (Nat.le_refl _)
  have h2:=h b hb s n0 0 (Sub.refl _ _) (Nat.le_refl _)
  rw[e,h1,hp,hq] at h2
  cases h2
def TellsT.tells {fv:V} {s:Sto}  {α:Type} {enc:α→D} {l:List α} {p:α→Bool} (h:TellsT G fv s n0 enc (· ∈l) p):Tells G fv s n0 (· ∈l.map enc) (unT enc (· ∈l) p):=by
 intro x hx s' nx lw h1 h2
 obtain⟨a,ha,rfl⟩:=List.mem_map.1 hx
 rw[h.same ha]
 exact h a ha s' nx lw h1 h2
def TellsT.sub {fv:V} {s s1:Sto} {n1:Nat} {α:Type} {enc:α→D} {dom:α→Prop} {p:α→Bool} (h:TellsT G fv s n0 enc dom p) (hs:Sub n0 s s1) (hn:n0≤n1):TellsT G fv s1 n1 enc dom p:=
 fun a ha s' nx lw h1 h2=>h a ha s' nx lw (hs.trans h1 hn) (Nat.le_trans hn h2)
def z4e {fv:V} {s:Sto}  {α:Type} {enc:α→D} {dom:α→Prop} {p:α→Bool} (h:∀a,dom a→∀st,z06 G fv [.d (enc a)] st=some (.d (.bool (p a)),st)):TellsT G fv s n0 enc dom p:=
 fun a ha _ _ _ _ _=>h a ha _
section
variable {α:Type} {enc:α→D} {l:List α} {p:α→Bool} {es:Nat} {ag:Bool} {fv:V} {s:Sto} {nx lw:Nat}
def zyj (h:∀a∈l,unT enc (· ∈l) p (enc a)=p a):idxP (unT enc (· ∈l) p) (l.map enc)=idxL p l:=by
 rw[zyi]
 unfold idxL
 have:l.findIdx? (fun x=>unT enc (· ∈l) p (enc x))=l.findIdx? p:=by
  have:∀(m:List α),(∀a∈m,a∈l)→m.findIdx? (fun x=>unT enc (· ∈l) p (enc x))=m.findIdx? p:=by
   intro m
   induction m with
   |nil=>intro _;rfl
   |cons a m ih=>
    intro hm
    rw[List.findIdx?_cons,List.findIdx?_cons,h a (hm a ψ),ih fun b hb=>hm b (by simp[hb])]
  exact this l fun a ha=>ha
 rw[this]
def ztr  (hG:G f=some (z5i es ag)) (hl:l.length≤9223372036854775807) (he:∀a∈l,Elt es ag (enc a)) (hf:TellsT G fv s nx enc (· ∈l) p):
  z06 G (.fn f [] []) [.d (.sl (l.map enc)),fv] {s:=s,next:=nx,low:=lw} =some (.d (.int .i64 (idxL p l)),{s:=s,next:=nx,low:=lw}):=by
 rw[y10 hG (by simpa using hl) (fun x hx=>by obtain⟨a,ha,rfl⟩:=List.mem_map.1 hx;exact he a ha) hf.tells,zyj fun a ha=>hf.same ha]
def y4l {idx:Nat} (hG:G f=some (z7h idx)) (hI:G idx=some (z5i es ag)) (hl:l.length≤9223372036854775807) (he:∀a∈l,Elt es ag (enc a)) (hf:TellsT G fv s nx enc (· ∈l) p):
  z06 G (.fn f [] []) [.d (.sl (l.map enc)),fv] {s:=s,next:=nx,low:=lw} =some (.d (.bool (l.any p)),{s:=s,next:=nx,low:=lw}):=by
 rw[y1n hG hI (by simpa using hl) (fun x hx=>by obtain⟨a,ha,rfl⟩:=List.mem_map.1 hx;exact he a ha) hf.tells]
 have: (l.map enc).any (unT enc (· ∈l) p)=l.any p:=by
  rw[List.any_map]
  rw[Bool.eq_iff_iff,List.any_eq_true,List.any_eq_true]
  exact⟨fun⟨a,ha,h⟩=>⟨a,ha,by rw[←hf.same ha];exact h⟩,fun⟨a,ha,h⟩=>⟨a,ha,by simp only[Function.comp];rw[hf.same ha];exact h⟩⟩
 rw[this]
def z4k {con idx c:Nat} (hG:G f=some (zii con c)) (hC:G con=some (z7h idx)) (hI:G idx=some (z5i es ag)) (hc:G c=some (evC es ag)∨G c=some evC1) (hcell:fv.isCell=true)
  (hcv:cellsV fv= [fv]) (hl:l.length≤9223372036854775807) (he:∀a∈l,Elt es ag (enc a)) (hf:TellsT G fv s nx enc (· ∈l) p):
  z06 G (.fn f [] []) [.d (.sl (l.map enc)),fv] {s:=s,next:=nx,low:=lw} =some (.d (.bool (l.all p)),{s:=s,next:=nx,low:=lw}):=by
 rw[zyx hG hC hI hc hcell hcv (by simpa using hl) (fun x hx=>by obtain⟨a,ha,rfl⟩:=List.mem_map.1 hx;exact he a ha) hf.tells]
 have: (l.map enc).all (unT enc (· ∈l) p)=l.all p:=by
  rw[List.all_map]
  rw[Bool.eq_iff_iff,List.all_eq_true,List.all_eq_true]
  exact⟨fun h a ha=>by rw[←hf.same ha];exact h a ha,fun h a ha=>by simp only[Function.comp];rw[hf.same ha];exact h a ha⟩
 rw[this]
end
def z9q {s:Sto} {k j:Nat} {o:Obj} (h: (k=j)=False):sget (sset s k o) j=sget s j:=z0n (fun e=>by rw[←h];exact e.symm)
theorem z5g {k k' :D} {x:V} :∀{es:List (D×V)},z22 (z2c es k x) k' =if D.beq k k' =true then some x else z22 es k'
 | []=>by simp[z2c,z22]
 | (a,u)::r=>by
  simp only[z2c]
  split
  ·rename_i h
   have e:=D.eq_of_beq h
   subst e
   simp only[z22]
   split<;>rfl
  ·rename_i h
   simp only[z22]
   split
   ·rename_i h2
    have e:=D.eq_of_beq h2
    subst e
    rw[if_neg (fun h3=>by rw[D.eq_of_beq h3] at h;exact h (D.beq_refl _))]
   ·exact z5g
def z9d {s:Sto} {nx lw j kt:Nat} {ag:Bool} {sh:List Kc} {zero:V} {kd:D} {es:List (D×V)} (hc:z2v ag sh kd=true) (ho:sget s j=some (.map kt es)):
  z27 {s:=s,next:=nx,low:=lw} kt ag sh false zero (.map j) (.d kd)=some ((z22 es kd).getD zero):=by
 simp only[z27,hc,St.get,ho,if_true]
 cases z22 es kd<;>rfl
def z5f {s:Sto} {nx lw j kt:Nat} {ag:Bool} {sh:List Kc} {x:V} {kd:D} {es:List (D×V)} (hc:z2v ag sh kd=true) (ho:sget s j=some (.map kt es)):
  z5w {s:=s,next:=nx,low:=lw} kt ag sh (.map j) (.d kd) x=some {s:=sset s j (.map kt (z2c es kd x)),next:=nx,low:=Nat.min lw j} :=by
 simp only[z5w,hc,St.get,ho,if_true,St.set]
end Go.Lift
namespace Go.Lift.K
open Go Go.Lift
theorem zkd {α:Type} {l:List α} {i:Nat} {x:α} (hi:i<l.length):l.getD i x=l[i]:=by simp[hi]
end Go.Lift.K
namespace Go.Lift
open Go
variable{l rs:Ld}{hi' b m k j k1 eb nx lw key N f:Nat}{cs ys c0:Lv}{xv:V}{o:Obj}{K:V→St→Prop}{F:IFun}
def CVs (R:V→D→Prop):List V→List D→Prop
 | [],[]=>True
 |v::vs,d::ds=>R v d∧CVs R vs ds
 |_,_=>False
def CVs.imp {R R' :V→D→Prop} (h:∀v d,R v d→R' v d):∀{vs:List V} {ds:List D},CVs R vs ds→CVs R' vs ds
 | [],[],_=>trivial
 |_::_,_::_,hh=>⟨h _ _ hh.1,CVs.imp h hh.2⟩
 | [],_::_,hh=>hh.elim
 |_::_,[],hh=>hh.elim
def CVs.append {R:V→D→Prop} :∀{vs ws:List V} {ds es:List D},CVs R vs ds→CVs R ws es→CVs R (vs++ws) (ds++es)
 | [],_,[],_,_,k=>k
 |_::_,_,_::_,_,h,k=>⟨h.1,CVs.append h.2 k⟩
 | [],_,_::_,_,h,_=>h.elim
 |_::_,_,[],_,h,_=>h.elim
theorem CVs.length {R:V→D→Prop} :∀{vs:List V} {ds:List D},CVs R vs ds→vs.length=ds.length
 | [],[],_=>rfl
 |_::_,_::_,h=>by simp[CVs.length h.2]
 | [],_::_,h=>h.elim
 |_::_,[],h=>h.elim
def CQ (s:Sto) (lv:Bool) (S:Nat→Prop):Nat→V→D→Prop
 |0,v,d=>v= .d d∧d.isCell=true∧(lv=true→d.flatC=true)
 |n+1,v,d=> (v= .d d∧d.isCell=true∧(lv=true→d.flatC=true))∨((v= .nilS∨v= .emp)∧d= .sl [])∨
  ∃k es ag cs ds,v= .arr k es ag 0 ds.length∧d= .sl ds∧S k∧sget s k=some (.cells cs)∧0<es∧(∀x∈ds,Elt es ag x)∧CVs (CQ s lv S n) cs (ds.flatMap cellsD)
section
variable {s s' :Sto} {lv:Bool} {S S' :Nat→Prop} {n:Nat} {v:V} {d:D}
def CQ.ofD (h:d.isCell=true) (hl:lv=true→d.flatC=true):CQ s lv S n (.d d) d:=by
 cases n with
 |zero=>exact⟨rfl,h,hl⟩
 |succ n=>exact .inl ⟨rfl,h,hl⟩
theorem CQ.str {x:Ln} :CQ s lv S n (.d (.str x)) (.str x):=CQ.ofD rfl fun _=>rfl
theorem CQ.int {k:IntKind} {x:Int} :CQ s lv S n (.d (.int k x)) (.int k x):=CQ.ofD rfl fun _=>rfl
theorem CQ.nil:CQ s lv S (n+1) .nilS (.sl []):= .inr (.inl ⟨.inl rfl,rfl⟩)
theorem CQ.data  :CQ s false S n (.d (.sl l)) (.sl l):=CQ.ofD rfl fun h=>by cases h
theorem CQ.none:CQ s lv S n (.d (.sl [])) (.sl []):=CQ.ofD rfl fun _=>rfl
def CQ.cell (h:CQ s lv S n v d):v.isCell=true∧cellsV v= [v]∧d.isCell=true:=by
 have hd:∀x:D,x.isCell=true→(V.d x).isCell=true∧cellsV (.d x)= [.d x]:=fun x hx=>by
  refine⟨hx,?_⟩
  cases x<;>first|rfl|simp[D.isCell] at hx
 cases n with
 |zero=>
  obtain⟨rfl,h1,_⟩:=h
  exact⟨(hd d h1).1,(hd d h1).2,h1⟩
 |succ n=>
  rcases h with⟨rfl,h1,_⟩|⟨rfl|rfl,rfl⟩|⟨k,es,ag,cs,ds,rfl,rfl,_⟩
  ·exact⟨(hd d h1).1,(hd d h1).2,h1⟩
  ·exact⟨rfl,rfl,rfl⟩
  ·exact⟨rfl,rfl,rfl⟩
  ·exact⟨rfl,rfl,rfl⟩
def CQ.frame:∀{n:Nat} {v:V} {d:D},(∀j,S j→sget s' j=sget s j)→CQ s lv S n v d→CQ s' lv S n v d
 |0,_,_,_,h=>h
 |n+1,v,d,hs,h=>by
  rcases h with h|h|⟨k,es,ag,cs,ds,h1,h2,h3,h5,h6,h7,h8⟩
  ·exact .inl h
  ·exact .inr (.inl h)
  ·exact .inr (.inr ⟨k,es,ag,cs,ds,h1,h2,h3,by rw[hs k h3];exact h5,h6,h7,h8.imp fun v d=>CQ.frame hs⟩)
def CQ.mono (hS:∀j,S j→S' j):∀{n:Nat} {v:V} {d:D},CQ s lv S n v d→CQ s lv S' n v d
 |0,_,_,h=>h
 |n+1,v,d,h=>by
  rcases h with h|h|⟨k,es,ag,cs,ds,h1,h2,h3,h5,h6,h7,h8⟩
  ·exact .inl h
  ·exact .inr (.inl h)
  ·exact .inr (.inr ⟨k,es,ag,cs,ds,h1,h2,hS k h3,h5,h6,h7,h8.imp fun v d=>CQ.mono hS⟩)
def CQ.dep:∀{n m:Nat} {v:V} {d:D},n≤m→CQ s lv S n v d→CQ s lv S m v d
 |0,0,_,_,_,h=>h
 |0,m+1,_,_,_,h=> .inl h
 |n+1,0,_,_,hm,_=>ω
 |n+1,m+1,v,d,hm,h=>by
  rcases h with h|h|⟨k,es,ag,cs,ds,h1,h2,h3,h5,h6,h7,h8⟩
  ·exact .inl h
  ·exact .inr (.inl h)
  ·exact .inr (.inr ⟨k,es,ag,cs,ds,h1,h2,h3,h5,h6,h7,h8.imp fun v d=>CQ.dep ω⟩)
end
abbrev Iv (lo hi:Nat):Nat→Prop:=fun j=>lo≤j∧j<hi
def CV (s:Sto) (lv:Bool) (lo n hi:Nat) (v:V) (d:D):Prop:=CQ s lv (Iv lo hi) n v d
def CV.str {s:Sto} {lv:Bool} {lo n hi:Nat} {x:Ln} :CV s lv lo n hi (.d (.str x)) (.str x):=CQ.str
def CV.int {s:Sto} {lv:Bool} {lo n hi:Nat} {k:IntKind} {x:Int} :CV s lv lo n hi (.d (.int k x)) (.int k x):=CQ.int
def CV.data {s:Sto} {lo n hi:Nat}  :CV s false lo n hi (.d (.sl l)) (.sl l):=CQ.data
def CV.hi {s:Sto} {lv:Bool} {lo n hi:Nat} {v:V} {d:D} (h:CV s lv lo n hi v d) (hh:hi≤hi'):CV s lv lo n hi' v d:=CQ.mono (fun j h=>⟨h.1,Nat.lt_of_lt_of_le h.2 hh⟩) h
def CV.lo {s:Sto} {lv:Bool} {lo lo' n hi:Nat} {v:V} {d:D} (hh:lo' ≤lo) (h:CV s lv lo n hi v d):CV s lv lo' n hi v d:=CQ.mono (fun j h=>⟨Nat.le_trans hh h.1,h.2⟩) h
theorem z35 {es:Nat} {ag:Bool} (h0:0<es):∀{ds:List D},(∀x∈ds,Elt es ag x)→z4z es ag ds.length (ds.flatMap cellsD)=some ds
 | [],_=>rfl
 |x::ds,h=>by
  have hx:=h x ψ
  have hl:=hx.len
  simp only[List.flatMap_cons,List.length_cons,z4z]
  rw[if_neg (by simp;omega)]
  have h1: (cellsD x++ds.flatMap cellsD).take es=cellsD x:=by rw[←hl,List.take_left]
  have h2: (cellsD x++ds.flatMap cellsD).drop es=ds.flatMap cellsD:=by rw[←hl,List.drop_left]
  rw[h1,h2,z35 h0 fun y hy=>h y (by simp[hy])]
  rcases hx with⟨rfl,cs,rfl,_⟩|⟨rfl,rfl,hc⟩
  ·rfl
  ·cases x<;>first|rfl|simp[D.isCell] at hc
def z15 {es:Nat} {ag:Bool} {ds:Ld} (h:∀x∈ds,Elt es ag x): (ds.flatMap cellsD).all D.isCell=true∧(ds.flatMap cellsD).length=ds.length*es:=by
 induction ds with
 |nil=>simp
 |cons x ds ih=>
  have hx:=h x ψ
  obtain⟨h1,h2⟩:=ih fun y hy=>h y (by simp[hy])
  have hl:=hx.len
  refine⟨?_,by simp[h2,hl,Nat.succ_mul];omega⟩
  rw[List.flatMap_cons,List.all_append,h1,Bool.and_true]
  rcases hx with⟨rfl,cs,rfl,_,hc⟩|⟨rfl,rfl,hc⟩
  ·exact hc
  ·cases x<;>first|rfl|simp[D.isCell] at hc
theorem z40 {R:V→D→Prop} {f:V→Option D} (h:∀v d,R v d→f v=some d):∀{vs:List V} {ds:List D},CVs R vs ds→vs.mapM f=some ds
 | [],[],_=>rfl
 |v::vs,d::ds,hh=>by
  rw[List.mapM_cons,h v d hh.1,z40 h hh.2]
  rfl
 | [],_::_,hh=>hh.elim
 |_::_,[],hh=>hh.elim
theorem CQ.snap {s:Sto} {lv:Bool} {S:Nat→Prop} {b:Nat} (hb:∀j,S j→b≤j):∀{n m:Nat} {v:V} {d:D},n<m→CQ s lv S n v d→Go.Lift.snap s b m v=some d
 |0,m+1,_,_,_,h=>by
  obtain⟨rfl,_⟩:=h
  rfl
 |n+1,m+1,v,d,hm,h=>by
  rcases h with⟨rfl,_⟩|⟨rfl|rfl,rfl⟩|⟨k,es,ag,cs,ds,rfl,rfl,h3,h5,h6,h7,h8⟩
  ·rfl
  ·rfl
  ·rfl
  ·obtain⟨k1,k2⟩:=z15 h7
   have hl:=h8.length
   have:=hb k h3
   simp only[Go.Lift.snap]
   rw[if_neg ω]
   simp only[scells,h5]
   rw[if_pos ⟨h6,ω⟩,List.drop_zero,List.take_of_length_le ω,z40 (fun v d hv=>CQ.snap hb ω hv) h8]
   simp only[k1,if_true]
   rw[z35 h6 h7]
   rfl
 |0,0,_,_,h,_=>ω
 |_+1,0,_,_,h,_=>ω
def CV.snap {s:Sto} {lv:Bool} {lo:Nat} (hb:b≤lo) {n hi:Nat} {v:V} {d:D} (hm:n<m) (h:CV s lv lo n hi v d):Go.Lift.snap s b m v=some d:=CQ.snap (fun j h=>Nat.le_trans hb h.1) hm h
def z6o {cs:Lv} :cellsV (mkAgg cs)=cs:=by
 unfold mkAgg
 split
 ·rename_i ds h
  have:cs=ds.map V.d:=zd8 h
  rw[this]
  rfl
 ·rfl
theorem y7o {x:Ln} :cellsV (.d (.str x))= [.d (.str x)]:=rfl
theorem y7q {k:IntKind} {x:Int} :cellsV (.d (.int k x))= [.d (.int k x)]:=rfl
theorem y4i {x:Bool} :cellsV (.d (.bool x))= [.d (.bool x)]:=rfl
theorem y9c {l:Ld} :cellsV (.d (.sl l))= [.d (.sl l)]:=rfl
theorem y7t {l:Ld} :cellsV (.d (.agg l))=l.map V.d:=rfl
theorem y4h:cellsV .nilS= [.nilS]:=rfl
theorem y7r:cellsV .emp= [.emp]:=rfl
theorem y7s {k es off len:Nat} {ag:Bool} :cellsV (.arr k es ag off len)= [.arr k es ag off len]:=rfl
theorem y7p {k o:Nat} :cellsV (.ptr k o)= [.ptr k o]:=rfl
theorem y9d {f:Nat} {a b:Lv} :cellsV (.fn f a b)= [.fn f a b]:=rfl
theorem ze9 {x:Ln} :V.isCell (.d (.str x))=true:=rfl
theorem zi4 {k:IntKind} {x:Int} :V.isCell (.d (.int k x))=true:=rfl
theorem y42 {x:Bool} :V.isCell (.d (.bool x))=true:=rfl
theorem y8z {l:Ld} :V.isCell (.d (.sl l))=true:=rfl
theorem y41:V.isCell .nilS=true:=rfl
theorem y76:V.isCell .emp=true:=rfl
theorem y11 {k es off len:Nat} {ag:Bool} :V.isCell (.arr k es ag off len)=true:=rfl
theorem y75 {k o:Nat} :V.isCell (.ptr k o)=true:=rfl
theorem y90 {f:Nat} {a b:Lv} :V.isCell (.fn f a b)=true:=rfl
theorem zxu {a:D} :mkAgg [.d a]= .d (.agg [a]):=rfl
theorem zxt {a b:D} :mkAgg [.d a,.d b]= .d (.agg [a,b]):=rfl
theorem zxs {a b c:D} :mkAgg [.d a,.d b,.d c]= .d (.agg [a,b,c]):=rfl
theorem zxr {a b c d:D} :mkAgg [.d a,.d b,.d c,.d d]= .d (.agg [a,b,c,d]):=rfl
def zez {s:Sto} {lv:Bool} {S:Nat→Prop} {n:Nat} (hb:∀j,S j→b≤j)  {ds:Ld} (hm:n<m) (h:CVs (CQ s lv S n) cs ds):Go.Lift.snap s b (m+1) (mkAgg cs)=some (.agg ds):=by
 have h1:=z40 (fun v d hv=>CQ.snap (m:=m) hb hm hv) h
 have h2:ds.all D.isCell=true:=by
  clear h1
  induction cs generalizing ds with
  |nil=>cases ds with
   |nil=>rfl
   |cons d ds=>exact h.elim
  |cons v cs ih=>cases ds with
   |nil=>exact h.elim
   |cons d ds=>
    simp only[List.all_cons,h.1.cell.2.2,ih h.2,Bool.and_self]
 unfold mkAgg
 split
 ·rename_i es he
  have e:cs=es.map V.d:=zd8 he
  subst e
  have:∀{es ds:Ld},(es.map V.d).mapM (Go.Lift.snap s b m)=some ds→es=ds:=by
   intro es
   induction es with
   |nil=>intro ds hd;simp at hd;exact hd.symm
   |cons e es ih=>
    intro ds hd
    rw[List.map_cons,List.mapM_cons] at hd
    cases m with
    |zero=>omega
    |succ m=>
     simp only[Go.Lift.snap] at hd
     cases hx: (es.map V.d).mapM (Go.Lift.snap s b (m+1)) with
     |none=>rw[hx] at hd;cases hd
     |some xs=>
      rw[hx] at hd
      cases hd
      rw[ih hx]
  rw[this h1]
  rfl
 ·simp only[Go.Lift.snap,h1,h2,if_true]
def zr4 {s:Sto} {lv:Bool} {lo n hi:Nat} (hb:b≤lo)  {ds:Ld} (hm:n<m) (h:CVs (CV s lv lo n hi) cs ds):Go.Lift.snap s b (m+1) (mkAgg cs)=some (.agg ds):=zez (fun j h=>Nat.le_trans hb h.1) hm h
def GP (s:Sto) (lv:Bool) (S:Nat→Prop) (n es:Nat) (ag:Bool) (v:V) (ds:List D):Prop:=
 (v= .nilS∧ds= [])∨∃k cs,v= .arr k es ag 0 ds.length∧S k∧sget s k=some (.cells cs)∧CVs (CQ s lv (fun j=>S j∧j≠k) n) cs (ds.flatMap cellsD)
def Gr (s:Sto) (lv:Bool) (lo n hi es:Nat) (ag:Bool) (v:V) (ds:List D):Prop:=GP s lv (Iv lo hi) n es ag v ds
def away:V→Nat→Prop
 | .arr k _ _ _ _,j=>k≠j
 |_,_=>True
def grow (v:V) (s:Sto):Sto:=match v with
 | .arr k _ _ _ _=>sdel s k
 |_=>s
def zaa (v:V) (low:Nat):Nat:=match v with
 | .arr k _ _ _ _=>Nat.min low k
 |_=>low
def z10 {s:Sto}  (h:k≠j):sget (sdel s k) j=sget s j:=by
 induction s with
 |nil=>rfl
 |cons p s ih=>
  obtain⟨i,o⟩:=p
  simp only[sdel]
  split
  ·rename_i e
   subst e
   simp only[sget,h,if_false,ih]
  ·simp only[sget,ih]
def zu0 {v:V} {s:Sto} {j:Nat} (h:away v j):sget (grow v s) j=sget s j:=by
 cases v<;>first|rfl|exact z10 h
section
variable {s s' :Sto} {lv:Bool} {S S' :Nat→Prop} {n es:Nat} {ag:Bool} {v:V} {ds:List D}
def GP.away (h:GP s lv S n es ag v ds)  (hj:¬S j):Go.Lift.away v j:=by
 rcases h with⟨rfl,_⟩|⟨k,cs,rfl,h1,_⟩
 ·trivial
 ·exact fun e=>hj (e▸h1)
def GP.cell (h:GP s lv S n es ag v ds):v.isCell=true∧cellsV v= [v]:=by
 rcases h with⟨rfl,_⟩|⟨k,cs,rfl,_⟩<;>exact⟨rfl,rfl⟩
def GP.cv (h:GP s lv S n es ag v ds) (h0:0<es) (he:∀x∈ds,Elt es ag x):CQ s lv S (n+1) v (.sl ds):=by
 rcases h with⟨rfl,rfl⟩|⟨k,cs,rfl,h1,h3,h4⟩
 ·exact .inr (.inl ⟨.inl rfl,rfl⟩)
 ·exact .inr (.inr ⟨k,es,ag,cs,ds,rfl,rfl,h1,h3,h0,he,h4.imp fun v d hv=>hv.mono fun j h=>h.1⟩)
theorem GP.nil:GP s lv S n es ag .nilS []:= .inl ⟨rfl,rfl⟩
def GP.frame (hs:∀j,S j→sget s' j=sget s j) (h:GP s lv S n es ag v ds):GP s' lv S n es ag v ds:=by
 rcases h with h|⟨k,cs,h1,h2,h4,h5⟩
 ·exact .inl h
 ·exact .inr ⟨k,cs,h1,h2,by rw[hs k h2];exact h4,h5.imp fun v d hv=>hv.frame fun j a=>hs j a.1⟩
def GP.mono (hS:∀j,S j→S' j) (h:GP s lv S n es ag v ds):GP s lv S' n es ag v ds:=by
 rcases h with h|⟨k,cs,h1,h2,h4,h5⟩
 ·exact .inl h
 ·exact .inr ⟨k,cs,h1,hS k h2,h4,h5.imp fun v d hv=>hv.mono fun j a=>⟨hS j a.1,a.2⟩⟩
end
section
variable {s s' :Sto} {lv:Bool} {lo hi n es:Nat} {ag:Bool} {v:V} {ds:List D}
def Gr.away (h:Gr s lv lo n hi es ag v ds)  (hj:j<lo∨hi≤j):Go.Lift.away v j:=GP.away h (fun e=>by have:=e.1;have:=e.2;omega)
def Gr.cell (h:Gr s lv lo n hi es ag v ds):v.isCell=true∧cellsV v= [v]:=GP.cell h
def Gr.cv (h:Gr s lv lo n hi es ag v ds) (h0:0<es) (he:∀x∈ds,Elt es ag x):CV s lv lo (n+1) hi v (.sl ds):=GP.cv h h0 he
theorem Gr.nil:Gr s lv lo n hi es ag .nilS []:= .inl ⟨rfl,rfl⟩
def Gr.frame (hs:∀j,lo≤j→j<hi→sget s' j=sget s j) (h:Gr s lv lo n hi es ag v ds):Gr s' lv lo n hi es ag v ds:=GP.frame (fun j h=>hs j h.1 h.2) h
end
def Gr.hi {s:Sto} {lv:Bool} {lo hi n es:Nat} {ag:Bool} {v:V} {ds:Ld}  (h:Gr s lv lo n hi es ag v ds) (hh:hi≤hi'):Gr s lv lo n hi' es ag v ds:=GP.mono (fun j h=>⟨h.1,Nat.lt_of_lt_of_le h.2 hh⟩) h
def PP (s:Sto) (lv:Bool) (S:Nat→Prop) (n es:Nat) (ag:Bool) (xv:V) (ds:List D) (c0:List V):Prop:=
 xv= .nilS∧c0= []∧ds= []∨∃k,xv= .arr k es ag 0 ds.length∧S k∧CVs (CQ s lv (fun j=>S j∧j≠k) n) c0 (ds.flatMap cellsD)
def y85 {s:Sto} {lv:Bool} {S:Nat→Prop} {nx lw n key es:Nat} {ag:Bool}  {ds:Ld}  (hx:GP s lv S n es ag xv ds) (he:∀x∈ds,Elt es ag x) (hy:sget s k1=some (.cells ys))
  (hl:ys.length=m*es) (hm:0<m) (hb: (ds.length+m)*eb≤70368744177664) (hb2:ds.length+m≤70368744177664) (hc:ys.all V.isCell=true):
  ∃c0,z0v {s:=s,next:=nx,low:=lw} key es ag eb xv (.arr k1 es ag 0 m)=some (.arr key es ag 0 (ds.length+m),{s:= (key,.cells (c0++ys))::grow xv s,next:=nx,low:=zaa xv lw})∧PP s lv S n es ag xv ds c0:=by
 have hr:rdSl {s:=s,next:=nx,low:=lw} es (.arr k1 es ag 0 m)=some (ys,m):=by
  simp only[rdSl,St.cells?,scells,hy]
  rw[if_pos ⟨ω,trivial⟩,List.drop_zero,List.take_of_length_le ω]
 rcases hx with⟨rfl,rfl⟩|⟨k,cs,rfl,h1,h3,h4⟩
 ·refine⟨[],?_,.inl ⟨rfl,rfl,rfl⟩⟩
  simp only[z0v,hr]
  rw[if_neg ω,if_pos ⟨by simpa using hb,by simpa using hb2,hc⟩]
  simp[St.ins,grow,zaa]
 ·refine⟨cs,?_,.inr ⟨k,rfl,h1,h4⟩⟩
  have hcl:=h4.length
  rw[(z15 he).2] at hcl
  simp only[z0v,hr,St.get,h3]
  rw[if_pos ⟨trivial,trivial,hb,hb2,hc⟩,if_pos ⟨trivial,hcl.symm⟩]
  simp[St.ins,St.del,grow,zaa]
theorem z00 {s:Sto}   (h:k≠j):sget ((k,o)::s) j=sget s j:=by simp only[sget,h,if_false]
theorem z03 {s:Sto}   :sget ((k,o)::s) k=some o:=by simp only[sget,if_true]
theorem z01 {s:Sto}   (h:k≠j):sget (sset s k o) j=sget s j:=z0n (Ne.symm h)
theorem z04 {v:V} {s:Sto}  (h:away v j):sget (grow v s) j=sget s j:=zu0 h
def z4g {s s0:Sto} {lv:Bool} {S:Nat→Prop} {n es:Nat} {ag:Bool}  {ds:Ld}   {k:Dm K} (hx:GP s0 lv S n es ag xv ds) (hf:∀j,S j→sget s j=sget s0 j) (he:∀x∈ds,Elt es ag x) (hy:sget s k1=some (.cells ys))
  (hl:ys.length=m*es) (hm:0<m) (hb: (ds.length+m)*eb≤70368744177664) (hb2:ds.length+m≤70368744177664) (hc:ys.all V.isCell=true)
  (h:∀c0,PP s0 lv S n es ag xv ds c0→K (.arr key es ag 0 (ds.length+m)) {s:= (key,.cells (c0++ys))::grow xv s,next:=nx,low:=zaa xv lw}):
  PV (z0v {s:=s,next:=nx,low:=lw} key es ag eb xv (.arr k1 es ag 0 m)) K k:=by
 obtain⟨c0,h1,h2⟩:=y85 (nx:=nx) (lw:=lw) (key:=key) (eb:=eb) (hx.frame hf) he hy hl hm hb hb2 hc
 rw[h1]
 refine pv_some.symm▸h c0 ?_
 rcases h2 with h2|⟨k,e,a,c⟩
 ·exact .inl h2
 ·exact .inr ⟨k,e,a,c.imp fun v d hv=>hv.frame fun j p=> (hf j p.1).symm⟩
def z57 {s s' :Sto} {lv:Bool} {S S' :Nat→Prop} {n es:Nat} {ag:Bool}  {ds new:Ld}  (h:PP s lv S n es ag xv ds c0)
  (hf:∀j,S j→Go.Lift.away xv j→sget s' j=sget s j) (hS:∀j,S j→S' j) (hk:S' key) (hn' :¬S key) (ho:sget s' key=some (.cells (c0++ys))) (hm:new.length=m) (hn:CVs (CQ s' lv (fun j=>S' j∧j≠key) n) ys (new.flatMap cellsD)):
  GP s' lv S' n es ag (.arr key es ag 0 (ds.length+m)) (ds++new):=by
 refine .inr ⟨key,c0++ys,by rw[List.length_append,hm],hk,ho,?_⟩
 rw[List.flatMap_append]
 refine CVs.append ?_ hn
 rcases h with⟨_,rfl,rfl⟩|⟨k,rfl,h1,h3⟩
 ·exact trivial
 ·exact h3.imp fun v d hv=> (hv.frame fun j a=>hf j a.1 (fun e=>a.2 e.symm)).mono fun j a=>⟨hS j a.1,fun e=>hn' (e▸a.1)⟩
def y44 {s s' :Sto} {lv:Bool} {S S' :Nat→Prop} {n es:Nat} {ag:Bool}  {ds T:Ld} (new:Ld)  (h:PP s lv S n es ag xv ds c0)
  (hf:∀j,S j→Go.Lift.away xv j→sget s' j=sget s j) (hS:∀j,S j→S' j) (hk:S' key) (hn' :¬S key) (ho:sget s' key=some (.cells (c0++ys))) (hN:N=ds.length+new.length) (hT:T=ds++new) (hn:CVs (CQ s' lv (fun j=>S' j∧j≠key) n) ys (new.flatMap cellsD)):
  GP s' lv S' n es ag (.arr key es ag 0 N) T:=by
 subst hN hT
 exact z57 h hf hS hk hn' ho rfl hn
def zar {s s' :Sto} {lv:Bool} {S S' :Nat→Prop} {es:Nat} {ag:Bool}  {ds T:Ld} (new:Ld)  (h:PP s lv S 0 es ag xv ds c0)
  (hk:S' key) (ho:sget s' key=some (.cells (c0++ys))) (hN:N=ds.length+new.length) (hT:T=ds++new) (hn:CVs (CQ s' lv S' 0) ys (new.flatMap cellsD)):
  GP s' lv S' 0 es ag (.arr key es ag 0 N) T:=by
 subst hN hT
 refine .inr ⟨key,c0++ys,by rw[List.length_append],hk,ho,?_⟩
 rw[List.flatMap_append]
 refine CVs.append ?_ (hn.imp fun v d hv=>hv)
 rcases h with⟨_,rfl,rfl⟩|⟨k,rfl,h1,h3⟩
 ·exact trivial
 ·exact h3.imp fun v d hv=>hv
def znc {s:Sto} {lv:Bool} {S:Nat→Prop} {n es:Nat} {ag:Bool}  (ds:Ld) (hk:S k) (ho:sget s k=some (.cells cs)) (h0:0<es) (he:∀x∈ds,Elt es ag x) (hN:N=ds.length) (hc:CVs (CQ s lv S n) cs (ds.flatMap cellsD)):
  CQ s lv S (n+1) (.arr k es ag 0 N) (.sl ds):=by
 subst hN
 exact .inr (.inr ⟨k,es,ag,cs,ds,rfl,rfl,hk,ho,h0,he,hc⟩)
def Part (s:Sto) (lv:Bool) (lo n hi es:Nat) (ag:Bool) (xv:V) (ds:List D) (c0:List V):Prop:=PP s lv (Iv lo hi) n es ag xv ds c0
def z4h {s s0:Sto} {lv:Bool} {lo n hi es:Nat} {ag:Bool}  {ds:Ld}   {k:Dm K} (hx:Gr s0 lv lo n hi es ag xv ds) (hf:∀j,lo≤j→j<hi→sget s j=sget s0 j) (he:∀x∈ds,Elt es ag x) (hy:sget s k1=some (.cells ys))
  (hl:ys.length=m*es) (hm:0<m) (hb: (ds.length+m)*eb≤70368744177664) (hb2:ds.length+m≤70368744177664) (hc:ys.all V.isCell=true)
  (h:∀c0,Part s0 lv lo n hi es ag xv ds c0→K (.arr key es ag 0 (ds.length+m)) {s:= (key,.cells (c0++ys))::grow xv s,next:=nx,low:=zaa xv lw}):
  PV (z0v {s:=s,next:=nx,low:=lw} key es ag eb xv (.arr k1 es ag 0 m)) K k:=z4g hx (fun j h=>hf j h.1 h.2) he hy hl hm hb hb2 hc h
def z4j {s s' :Sto} {lv:Bool} {lo n hi es:Nat} {ag:Bool}  {ds new:Ld}  (h:Part s lv lo n hi es ag xv ds c0)
  (hf:∀j,lo≤j→j<hi→Go.Lift.away xv j→sget s' j=sget s j) (h1:lo≤key) (h2:hi≤key) (h3:key<hi') (ho:sget s' key=some (.cells (c0++ys))) (hm:new.length=m) (hn:CVs (CV s' lv lo n key) ys (new.flatMap cellsD)):
  Gr s' lv lo n hi' es ag (.arr key es ag 0 (ds.length+m)) (ds++new):=
 z57 h (fun j a=>hf j a.1 a.2) (fun j a=>⟨a.1,by have:=a.2;omega⟩) ⟨h1,h3⟩ (fun e=>by have:=e.2;omega) ho hm (hn.imp fun v d hv=>CQ.mono (fun j a=>⟨⟨a.1,by have:=a.2;omega⟩,by have:=a.2;omega⟩) hv)
def mkSlV (key es:Nat) (ag:Bool) (zero:List V) (len:Nat) (o:Option (List V)) (st:St):Option (V×St):=
 if len*es≤16777216∧zero.length=es then
  match o with
  |some cs=>if cs.all V.isCell then some (.arr key es ag 0 len,st.ins key (.cells cs)) else none
  |none=>none
 else none
def y2b (x:V) (lo hi:Option V) (st:St):Option (V×St):=match x with
 | .d (.str s)=> (match z3t lo hi s.length s.length with
  |some (l,h)=>some (.d (.str ((s.drop l).take (h-l))),st)
  |none=>none)
 |_=>none
theorem zpd {cl:z12} {base:Nat} {env:Lv} {st:St} {dst:Option Nat} {g:Option (Nat×Bool)} {kp:Ln} {x:Opd} {lo hi:Option Opd} :
  evalIOp cl base env st ⟨dst,.sliceS x lo hi,g,kp⟩=y2b (evO env x) (lo.map (evO env)) (hi.map (evO env)) st:=rfl
def ia_0 {es:Nat} {ag:Bool} {len:Nat} :z08 es (.arr k es ag 0 (len+1)) 0=some (.ptr k 0):=by
 simp only[z08]
 rw[if_pos ⟨ω,ω,trivial⟩]
 simp
def y77 {k es:Nat} {ag:Bool} :z08 es (.arr k es ag 0 1) 0=some (.ptr k 0):=ia_0
def y94 {k es:Nat} {ag:Bool} :z08 es (.arr k es ag 0 2) 0=some (.ptr k 0):=ia_0 (len:=1)
def y93 {k es:Nat} {ag:Bool} :z08 es (.arr k es ag 0 2) 1=some (.ptr k es):=by
 simp only[z08]
 rw[if_pos ⟨ω,ω,trivial⟩]
 simp
def y1l (k:IntKind) (x:V) (st:St):Option (V×St):=match asI x with
 |some n=>some (.d (.int k (k.wrap n)),st)
 |none=>none
def zv1 (x:V) (st:St):Option (V×St):=match asI x with
 |some n=>if 0≤n∧n<128 then some (.d (.str [n.toNat]),st) else none
 |none=>none
theorem zpn {k j:IntKind} {n:Int} {st:St} :y1l k (.d (.int j n)) st=some (.d (.int k (k.wrap n)),st):=rfl
def zeg {k:IntKind} {n:Nat} {st:St} (h:n<128):zv1 (.d (.int k (n:Nat))) st=some (.d (.str [n]),st):=by
 simp only[zv1,asI]
 rw[if_pos ω]
 simp
section
variable {cl:z12} {base:Nat} {env:List V} {st:St} {dst:Option Nat} {g:Option (Nat×Bool)} {kp:List Nat}
theorem zup {k:IntKind} {x:Opd} :evalIOp cl base env st ⟨dst,.convI k x,g,kp⟩=y1l k (evO env x) st:=rfl
theorem zuo {x:Opd} :evalIOp cl base env st ⟨dst,.convS x,g,kp⟩=zv1 (evO env x) st:=rfl
end
def zgx {n:Int} (h1: -2147483648≤n) (h2:n≤2147483647):IntKind.i32.wrap n=n:=by
 unfold IntKind.wrap
 simp only[IntKind.bits,IntKind.signed,Bool.true_and,decide_eq_true_eq,ge_iff_le,Int.reducePow,Nat.reduceSub]
 split<;>omega
def z0d {x:Option (V×St)} {R:V→St→Prop} {k:Dm K} (h:PostV x R) (hk:∀v st,R v st→K v st):PV x K k:=PostV.mono h hk
theorem zz0 {cl:z12} {base:Nat} {env:Lv} {st:St} {dst:Option Nat} {g:Option (Nat×Bool)} {kp:Ln} {ai es len:Nat} {ag:Bool} {z:Lv} {ps:List (Nat×Opd)} :
  evalIOp cl base env st ⟨dst,.mkSl ai es ag true z len ps,g,kp⟩=mkSlV (base+ai) es ag z len (fillP (List.replicate len z).flatten ((ps.map fun (i,x)=> (i,evO env x)).map fun (i,v)=> (i*es,es,v))) st:=rfl
theorem rql1 {s:Sto} {v:V} {x:D}  (h1:snap s 0 z0e v=some x) (h: [x]=rs):RQ (some [v]) s rs:=⟨_,rfl,by rw[←h];simp[z0p,h1]⟩
theorem rql2 {s:Sto} {v w:V} {x y:D}  (h1:snap s 0 z0e v=some x) (h2:snap s 0 z0e w=some y) (h: [x,y]=rs):RQ (some [v,w]) s rs:=⟨_,rfl,by rw[←h];simp[z0p,h1,h2]⟩
def zh4 {s:Sto} {k:Nat} {o:Obj} (h: (sget s k).isSome=true):sget (sset s k o) k=some o:=by
 cases hs:sget s k with
 |none=>rw[hs] at h;cases h
 |some x=>exact z05 hs
theorem zwx {k:Nat} :sdel [] k= []:=rfl
theorem zre {k j:Nat} {o:Obj} {s:Sto} :sdel ((k,o)::s) j=if k=j then sdel s j else (k,o)::sdel s j:=rfl
theorem nat1: ((1:Nat):Int)=1:=rfl
theorem nat2: ((2:Nat):Int)=2:=rfl
theorem zgr {x y:D} :V.beq (.d x) (.d y)=D.beq x y:=by simp[V.beq]
def zer:V.beqL [] []=true:=by simp[V.beqL]
theorem z4p {x y:V} {l m:Lv} :V.beqL (x::l) (y::m)= (V.beq x y&&V.beqL l m):=by simp[V.beqL]
def zw1 {k o:Nat} :V.beq (.ptr k o) (.ptr k o)=true:=by simp[V.beq]
def z5q:V.beq .nilS .nilS=true:=by simp[V.beq]
def z4o {k es off len:Nat} {ag:Bool} :V.beq (.arr k es ag off len) (.arr k es ag off len)=true:=by simp[V.beq]
def GP.len {s:Sto} {lv:Bool} {S:Nat→Prop} {n es:Nat} {ag:Bool} {v:V} {ds:Ld} (h:GP s lv S n es ag v ds):opLen false v=some ds.length:=by
 rcases h with⟨rfl,rfl⟩|⟨k,cs,rfl,_⟩<;>rfl
def GP.beq {s:Sto} {lv:Bool} {S:Nat→Prop} {n es:Nat} {ag:Bool} {v:V} {ds:Ld} (h:GP s lv S n es ag v ds):V.beq v v=true:=by
 rcases h with⟨rfl,_⟩|⟨k,cs,rfl,_⟩
 ·exact z5q
 ·exact z4o
def Gr.beq {s:Sto} {lv:Bool} {lo n hi es:Nat} {ag:Bool} {v:V} {ds:Ld} (h:Gr s lv lo n hi es ag v ds):V.beq v v=true:=GP.beq h
def CQ.beq {s:Sto} {lv:Bool} {S:Nat→Prop} {n:Nat} {v:V} {d:D} (h:CQ s lv S n v d):V.beq v v=true:=by
 cases n with
 |zero=>obtain⟨rfl,_⟩:=h;rw[zgr,D.beq_refl]
 |succ n=>
  rcases h with⟨rfl,_⟩|⟨rfl|rfl,_⟩|⟨k,es,ag,cs,ds,rfl,_⟩
  ·rw[zgr,D.beq_refl]
  ·exact z5q
  ·simp[V.beq]
  ·exact z4o
theorem CVs.beq {s:Sto} {lv:Bool} {S:Nat→Prop} {n:Nat} :∀{cs:List V} {ds:List D},CVs (CQ s lv S n) cs ds→V.beqL cs cs=true
 | [],[],_=>zer
 |v::cs,d::ds,h=>by rw[z4p,h.1.beq,CVs.beq h.2];rfl
 | [],_::_,h=>h.elim
 |_::_,[],h=>h.elim
def z4v (key es:Nat) (ag:Bool) (eb:Nat) (zero:List V) (len cap:V) (st:St):Option (V×St):=match asI len,asI cap with
 |some l,some c=>
  if 0≤l∧l≤c∧c*eb≤70368744177664∧c≤70368744177664∧zero.length=es∧zero.all V.isCell then
   some (.arr key es ag 0 l.toNat,st.ins key (.cells (List.replicate c.toNat zero).flatten))
  else none
 |_,_=>none
section
variable {cl:z12} {base:Nat} {env:List V} {st:St} {dst:Option Nat} {g:Option (Nat×Bool)} {kp:List Nat}
theorem zkg {ai es eb:Nat} {ag:Bool} {z:Lv} {l c:Opd} :evalIOp cl base env st ⟨dst,.mkslice ai es ag eb z l c,g,kp⟩=z4v (base+ai) es ag eb z (evO env l) (evO env c) st:=rfl
end
def z8d {es n:Nat} {ag:Bool} {zero:Lv} {st:St} (h1:n*eb≤70368744177664) (h2:n≤70368744177664) (h3:zero.length=es) (h4:zero.all V.isCell=true):
  z4v key es ag eb zero (.d (.int .i64 n)) (.d (.int .i64 n)) st=some (.arr key es ag 0 n,st.ins key (.cells (List.replicate n zero).flatten)):=by
 simp only[z4v,asI]
 rw[if_pos ⟨ω,ω,ω,ω,h3,h4⟩]
 simp
def zyu {n es:Nat} {zero:Lv} (h:zero.length=es): (List.replicate n zero).flatten.length=n*es:=by
 induction n with
 |zero=>simp
 |succ n ih=>rw[List.replicate_succ,List.flatten_cons,List.length_append,ih,h,Nat.succ_mul];omega
def znd {s:Sto} {nx lw es:Nat} {ag:Bool}   (ho:sget s k=some (.cells cs)) (hl:cs.length=l.length*es) (he:∀x∈l,Elt es ag x):
  z5d {s:=s,next:=nx,low:=lw} es (.arr k es ag 0 l.length) (.d (.sl l))=some (.d (.int .i64 l.length),{s:=sset s k (.cells ((l.flatMap cellsD).map V.d)),next:=nx,low:=Nat.min lw k}):=by
 obtain⟨h1,h2⟩:=z15 he
 have hr:rdSl {s:=s,next:=nx,low:=lw} es (.d (.sl l))=some ((l.flatMap cellsD).map V.d,l.length):=by
  simp only[rdSl]
  rw[if_pos h2]
 have hm:Nat.min l.length l.length=l.length:=Nat.min_self _
 simp only[z5d,hr,St.get,ho,hm]
 rw[if_pos ⟨trivial,ω,by rw[List.all_map];exact h1⟩]
 have hs:splice cs 0 (((l.flatMap cellsD).map V.d).take (l.length*es))= (l.flatMap cellsD).map V.d:=by
  rw[List.take_of_length_le (by rw[List.length_map,h2];exact Nat.le_refl _)]
  unfold splice
  rw[List.take_zero,List.drop_eq_nil_of_le (by rw[List.length_map,h2];omega)]
  simp
 rw[hs]
 rfl
def ztj (v:V) (a b:St):Bool:=match v with
 | .ptr k _=> (match a.get k,b.get k with
  |some o,some p=>Obj.beq o p
  |_,_=>false)
 | .map k=> (match a.get k,b.get k with
  |some o,some p=>Obj.beq o p
  |_,_=>false)
 | .arr k _ _ _ _=> (match a.get k,b.get k with
  |some o,some p=>Obj.beq o p
  |_,_=>false)
 |_=>true
def zxh (a b:Option Obj):Bool:=match a,b with
 |some o,some p=>Obj.beq o p
 |_,_=>false
theorem zya {env:Lv} {a b:St} :kept env a b []=true:=rfl
theorem ztg {env:Lv} {a b:St} {t:Nat} {r:Ln} :kept env a b (t::r)= (ztj (env.getD t .undef) a b&&kept env a b r):=rfl
theorem zth {k o:Nat} {a b:St} :ztj (.ptr k o) a b=zxh (sget a.s k) (sget b.s k):=rfl
theorem zti {k es off len:Nat} {ag:Bool} {a b:St} :ztj (.arr k es ag off len) a b=zxh (sget a.s k) (sget b.s k):=rfl
theorem zp9 {ds:Ld} {a b:St} :ztj (.dptr ds) a b=true:=rfl
theorem y3u {d:D} {a b:St} :ztj (.d d) a b=true:=rfl
def zjy {c d:Lv} :zxh (some (.cells c)) (some (.cells d))=V.beqL c d:=by simp[zxh,Obj.beq]
theorem zz1 {cl:z12} {base:Nat} {env:Lv} {st:St} {dst:Option Nat} {g:Option (Nat×Bool)} {kp:Ln} {ai es:Nat} {ag nf:Bool} {z:Lv} :
  evalIOp cl base env st ⟨dst,.mkSl ai es ag nf z 0 [],g,kp⟩=mkSlV (base+ai) es ag z 0 (some []) st:=by cases nf<;>rfl
def z95 {s:Sto} {S:Nat→Prop} {n:Nat} :∀{ds:List D},ds.all D.isCell=true→CVs (CQ s false S n) (ds.map V.d) ds
 | [],_=>trivial
 |d::ds,h=>by
  simp only[List.all_cons,Bool.and_eq_true] at h
  exact aI (CQ.ofD h.1 (fun h=>by cases h)) (z95 h.2)
def zzy {s:Sto} {nx lw key es:Nat} {ag:Bool}  (ho:sget s k=some (.cells [])) (he:∀x∈l,Elt es ag x) (hb:l.length*eb≤70368744177664) (hb2:l.length≤70368744177664):
  z0v {s:=s,next:=nx,low:=lw} key es ag eb (.arr k es ag 0 0) (.d (.sl l))=some (.arr key es ag 0 l.length,{s:= (key,.cells ((l.flatMap cellsD).map V.d))::sdel s k,next:=nx,low:=Nat.min lw k}):=by
 obtain⟨h1,h2⟩:=z15 he
 have hr:rdSl {s:=s,next:=nx,low:=lw} es (.d (.sl l))=some ((l.flatMap cellsD).map V.d,l.length):=by
  simp only[rdSl]
  rw[if_pos h2]
 simp only[z0v,hr,St.get,ho]
 rw[if_pos ⟨trivial,trivial,by simpa using hb,by simpa using hb2,by rw[List.all_map];exact h1⟩,if_pos ⟨trivial,by simp⟩]
 simp[St.ins,St.del]
def zzx {s:Sto} {key es eb:Nat} {ag:Bool} (ho:sget s k=some (.cells [])) {v:V} (hv:rdSl {s:=s,next:=nx,low:=lw} es v=some ([],0)):
  z0v {s:=s,next:=nx,low:=lw} key es ag eb (.arr k es ag 0 0) v=some (.arr key es ag 0 0,{s:= (key,.cells [])::sdel s k,next:=nx,low:=Nat.min lw k}):=by
 simp only[z0v,hv,St.get,ho]
 simp[St.ins,St.del]
theorem zkl {s:Sto} {lo hi es:Nat} {ag:Bool}  (h1:lo≤k) (h2:k<hi) (ho:sget s k=some (.cells ((l.flatMap cellsD).map V.d))) (h0:0<es) (he:∀x∈l,Elt es ag x):CV s false lo 1 hi (.arr k es ag 0 l.length) (.sl l):=
 .inr (.inr ⟨k,es,ag,_,l,rfl,rfl,⟨h1,h2⟩,ho,h0,he,z95 (z15 he).1⟩)
theorem ztm:zi1 0 .emp=some false:=rfl
theorem zpa:zi1 0 .nilS=some true:=rfl
theorem zpb {x:D} {l:Ld} :zi1 0 (.d (.sl (x::l)))=some false:=rfl
theorem ztn {k es off len:Nat} {ag:Bool} :zi1 0 (.arr k es ag off len)=some false:=rfl
variable {G:Nat→Option IFun}
def y32   (hG:G f=some F) (hn:F.nil2=true)  (hf:rs.all D.flat=true)
  (h:∀v,v= .nilS∨v= .emp→∀e:List V,e.length=1+ (F.nt-1)→e.getD 0 .undef=v→PC (z0j (z06 G) z0g none F.body e {s:= [],next:=0,low:=0}) (RP F.res rs) .mk) (st:St):
  z06 G (.fn f [] []) [.d (.sl [])] st=some (tupV (rs.map V.d),st):=by
 have hh:∀v,v= .nilS∨v= .emp→∃vs st1,z4r G F [v] {s:= [],next:=0,low:=0} =some (vs,st1)∧z0p st1.s 0 vs=some rs:=fun v hv=>by
  have h' :=h v hv ([v]++List.replicate (F.nt-1) .undef) (by simp;omega) ψ
  exact z5o (R:=fun vs st' =>z0p st'.s 0 vs=some rs) h'
 obtain⟨vs1,st1,a1,a2⟩:=hh .nilS (.inl rfl)
 obtain⟨vs2,st2,b1,b2⟩:=hh .emp (.inr rfl)
 rw[z1m]
 have h2:ze8 ([]++ [V.d (.sl [])]++ [])=true:=rfl
 simp only[z13,hG,hn,h2,Bool.and_self,if_true,a1,b1,a2,b2,hf,D.beqL_refl]
def zx7   (hG:G f=some F) (hp:F.pure=true) {ds:Ld} (hn:ze8 (ds.map V.d)=false)
  (h:∀e:List V,e.length= (ds.map V.d).length+ (F.nt-(ds.map V.d).length)→(∀i,i<ds.length→e.getD i .undef= (ds.map V.d).getD i .undef)→PC (z0j (z06 G) z0g none F.body e {s:= [],next:=0,low:=0}) (RP F.res rs) .mk) (st:St):
  z06 G (.fn f [] []) (ds.map V.d) st=some (tupV (rs.map V.d),st):=by
 have h' :=h (ds.map V.d++List.replicate (F.nt-(ds.map V.d).length) .undef) ψ (fun i hi=>by
  simp only[List.getD_eq_getElem?_getD]
  rw[List.getElem?_append_left (by simpa using hi)])
 obtain⟨vs,st1,h1,h2⟩:=z5o (R:=fun vs st' =>z0p st'.s 0 vs=some rs) h'
 rw[z1m]
 simp only[z13,hG,hp,List.nil_append,List.append_nil,hn,Bool.and_false,Bool.false_eq_true,if_false,if_true,z1a,h1,h2,z39,D.beqL_refl,ite_self]
def zlg   (hG:G f=some F) (hp:F.pure=false) (hpop:F.pop=false) {args:Lv} (hn:ze8 args=false) {st:St} {R:V→St→Prop}
  (h:∀e:List V,e.length=args.length+ (F.nt-args.length)→(∀i,i<args.length→e.getD i .undef=args.getD i .undef)→PC (z0j (z06 G) z0g none F.body e {s:=st.s,next:=st.next,low:=st.next}) (RS F.res R .mk st.low) .mk):
  PostV (z06 G (.fn f [] []) args st) R:=by
 have h' :=h (args++List.replicate (F.nt-args.length) .undef) ψ (fun i hi=>by
  simp only[List.getD_eq_getElem?_getD]
  rw[List.getElem?_append_left hi])
 obtain⟨vs,st1,h1,h2⟩:=z5o (R:=fun vs st' =>R (tupV vs) {s:=st'.s,next:=st'.next,low:=Nat.min st.low st'.low}) h'
 refine⟨_,_,?_,h2⟩
 rw[z1m]
 simp only[z13,hG,hp,hpop,List.nil_append,List.append_nil,hn,Bool.and_false,Bool.false_and,Bool.false_eq_true,if_false,h1]
def z5h   (hG:G f=some F) (hp:F.pure=true) (hn:F.nil2=false) {args:Lv} {ds:Ld} {st:St} (ha:z0p st.s 0 args=some ds) (hf:rs.all D.flat=true)
  (h:z06 G (.fn f [] []) (ds.map V.d) {s:= [],next:=0,low:=0} =some (tupV (rs.map V.d),{s:= [],next:=0,low:=0})):
  z06 G (.fn f [] []) args st=some (tupV (rs.map V.d),st):=by
 rw[z1m] at h⊢
 simp only[z13,hG,hp,hn,List.nil_append,List.append_nil,Bool.false_and,Bool.false_eq_true,if_false,if_true,z1a,ha] at h⊢
 cases hb:z4r G F (ds.map V.d) {s:= [],next:=0,low:=0} with
 |none=>rw[hb] at h;simp at h
 |some p=>
  obtain⟨vs,st1⟩:=p
  rw[hb] at h
  simp only at h⊢
  cases hr:z0p st1.s 0 vs with
  |none=>rw[hr] at h;simp at h
  |some rs' =>
   rw[hr] at h
   have ht:z0p [] 0 (ds.map V.d)=some ds:=z1a ds
   simp only[z39,ht,D.beqL_refl,if_true,ite_self,Option.some.injEq,Prod.mk.injEq,and_true] at h
   have e:tupV (rs'.map V.d)=tupV (rs.map V.d):=h
   have hfl:rs' =rs:=by
    match rs',rs,e with
    | [],[],_=>rfl
    | [a],[b],e=>simp[tupV] at e;rw[e]
    | [],[b],e=>simp[tupV] at e
    | [],b::c::r,e=>simp[tupV] at e
    | [a],[],e=>simp[tupV] at e
    | [a],b::c::r,e=>simp[tupV] at e
    |a::b::r,[],e=>simp[tupV] at e
    |a::b::r,[c],e=>simp[tupV] at e
    |a::b::r,c::d::q,e=>
     simp only[List.map_cons,tupV,V.tup.injEq,List.cons.injEq,V.d.injEq] at e
     obtain⟨rfl,rfl,e⟩:=e
     congr 2
     exact (List.map_inj_right (by intro x y h;cases h;rfl)).1 e
   rw[hfl]
   simp only[hf,if_true]
end Go.Lift
