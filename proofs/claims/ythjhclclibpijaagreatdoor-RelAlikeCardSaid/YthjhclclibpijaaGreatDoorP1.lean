/- Part P1 of the proof. -/
import Derived.Test.YthjhclclibpijaaGreatDoorP0
import Derived.Laws.Tables
import Derived.Great.BuildSlice
import Derived.Laws.AppendOwn
import Derived.Maps.Keyed
import Derived.DeepKeys3
import Derived.CallsIn
import Derived.OrdersIn
import Derived.RangeFuncIn
set_option linter.all false
set_option maxHeartbeats 4000000
set_option maxRecDepth 100000
namespace Go.Lift
open Go
variable {P:Program} {st:St} {g:Gh} {w:World}
theorem za1:∀(l:List Value) (i off:Nat) (arr:Array Value),off+i+l.length≤arr.size→
  ((l.zipIdx i).foldl (fun cs (x:Value×Nat)=>cs.setIfInBounds (off+x.2) x.1) arr).toList=arr.toList.take (off+i)++l++arr.toList.drop (off+i+l.length)
 | [],i,off,arr,_=>by simp
 |v::l,i,off,arr,h=>by
  simp only[List.zipIdx_cons,List.foldl_cons]
  rw[za1 l (i+1) off (arr.setIfInBounds (off+i) v) (by simp at h⊢;omega)]
  have e:=list_seg_step arr.toList (off+i) v l (by simp at h⊢;omega)
  simpa [Array.toList_setIfInBounds,Nat.add_assoc] using e
def zae (g:Gh) (place:Nat→Option (Nat×Nat)):List (Nat×Nat×V)→List (Nat×Value)→Prop
 | [],vs=>vs= []
 | (o,s,x)::l,vs=>∃i v r,vs= (i,v)::r∧place i=some (o,s)∧RepV g x v∧zae g place l r
def z7y {place:Nat→Option (Nat×Nat)} :∀{parts:List (Nat×Nat×V)} {vs:List (Nat×Value)} {cs cs' :List V} {arr:Array Value},fillP cs parts=some cs' →zae g place parts vs→RepVs g cs arr.toList→
  ∃arr',Instr.fill place arr vs=some arr' ∧RepVs g cs' arr'.toList∧arr'.size=arr.size∧cs'.length=cs.length
 | [],vs,cs,cs',arr,h,hp,hr=>by
  simp only[fillP,Option.some.injEq] at h
  simp only[zae] at hp
  subst h;subst hp
  exact⟨arr,rfl,hr,rfl,rfl⟩
 | (o,s,x)::l,vs,cs,cs',arr,h,hp,hr=>by
  simp only[zae] at hp
  obtain⟨i,v,r,rfl,hpl,hx,hp⟩:=hp
  simp only[fillP] at h
  split at h
  ·rename_i hc
   have hrc:=RepV.cells hx
   have h1:=hrc.length
   have h2:=hr.length
   simp only[Array.length_toList] at h1 h2
   have hs: (v.cells.toList.zipIdx.foldl (fun cs (x:Value×Nat)=>cs.setIfInBounds (o+x.2) x.1) arr).toList=arr.toList.take o++v.cells.toList++arr.toList.drop (o+v.cells.toList.length):=by
    have:=za1 v.cells.toList 0 o arr (by simp;omega)
    simpa using this
   have hsz: (v.cells.toList.zipIdx.foldl (fun cs (x:Value×Nat)=>cs.setIfInBounds (o+x.2) x.1) arr).size=arr.size:=by
    have:=congrArg List.length hs
    simp only[Array.length_toList,List.length_append,List.length_take,List.length_drop] at this
    omega
   obtain⟨arr',h3,h4,h5,h6⟩:=z7y (arr:=v.cells.toList.zipIdx.foldl (fun cs (x:Value×Nat)=>cs.setIfInBounds (o+x.2) x.1) arr) h hp (by rw[hs];exact RepVs.splice hr hrc)
   refine⟨arr',?_,h4,h5.trans hsz,h6.trans (z38 ω)⟩
   unfold Instr.fill
   simp only[hpl]
   rw[if_neg (by simp;omega),←h3]
   congr 1
   rw[←Array.foldl_toList]
   simp
  ·cases h
theorem zhn {fs:List Field} :∀{ps:List Field},(ps.all fun f=> (z52 P f.type).isSome)=true→∃places,ps.mapM (fun f=> (P.info? f.type).map fun i=> (f.offset,i.size))=some places∧∀(i:Nat) f n,ps[i]?=some f→z52 P f.type=some n→places[i]?=some (f.offset,n)
 | [],_=>⟨[],by simp,fun i f n h=>by simp at h⟩
 |f::ps,h=>by
  simp only[List.all_cons,Bool.and_eq_true] at h
  obtain⟨places,h1,h2⟩:=zhn (fs:=fs) h.2
  obtain⟨m,hm⟩:=Option.isSome_iff_exists.1 h.1
  obtain⟨i,hi,rfl⟩:=z41 hm
  refine⟨(f.offset,i.size)::places,by simp[hi,h1],fun j f' n hj hn=> ?_⟩
  cases j with
  |zero=>
   simp at hj
   subst hj
   rw[hm] at hn
   cases hn
   rfl
  |succ j=>simpa using h2 j f' n (by simpa using hj) hn
theorem z90 {t:TypeId} {a:Act} {env:List V} (henv:RepVs g env a.tmps.toList) {place:Nat→Option (Nat×Nat)}
  (hplace:∀i o n,(match P.underlying t with|some (.struct fs)=>zaz P fs=true∧∃u,fieldAt? P t i=some (o,n,u)|some (.array _ e)=>z52 P e=some n∧o=i*n|_=>False)→place i=some (o,n)):
  ∀{parts:List (Nat×Operand)} {ps:List (Nat×Nat×Opd)},zem P t parts=some ps→zae g place (ps.map fun (o,s,x)=> (o,s,evO env x)) (parts.map fun (i,x)=> (i,a.eval x))
 | [],ps,h=>by
  simp only[zem,Option.some.injEq] at h
  subst h
  simp[zae]
 | (i,x)::r,ps,h=>by
  simp only[zem] at h
  split at h
  ·rename_i fs y ys hu hy hys
   split at h
   ·rename_i hall
    split at h
    ·rename_i off n u hf
     cases h
     simp only[List.map_cons,zae]
     exact⟨i,_,_,rfl,hplace i off n (by rw[hu];exact⟨hall,u,hf⟩),z0u henv hy,z90 henv hplace hys⟩
    ·cases h
   ·cases h
  ·rename_i n' e y ys hu hy hys
   split at h
   ·rename_i n hn
    cases h
    simp only[List.map_cons,zae]
    exact⟨i,_,_,rfl,hplace i _ n (by rw[hu];exact⟨hn,rfl⟩),z0u henv hy,z90 henv hplace hys⟩
   ·cases h
  ·cases h
def zzn {t:TypeId} {a:Act} {env:Lv} (henv:RepVs g env a.tmps.toList) {z:Lv} {parts:Array (Nat×Operand)} {ps:List (Nat×Nat×Opd)} {cs:Lv}
  (hz:z9p P t=some z) (hp:zem P t parts.toList=some ps) (h:fillP z (ps.map fun (o,s,x)=> (o,s,evO env x))=some cs) (hb:zvf P t=true):
  ∃u,(Instr.build t (parts.map fun (i,x)=> (i,a.eval x))).run P w= .ok u w∧RepV g (mkAgg cs) u:=by
 obtain⟨i,zv,hi,hzv,hzr⟩:=z7j hz
 have main:∀(place:Nat→Option (Nat×Nat)),zae g place (ps.map fun (o,s,x)=> (o,s,evO env x)) (parts.toList.map fun (i,x)=> (i,a.eval x))→
   ∃arr',Instr.fill place zv.cells (parts.map fun (i,x)=> (i,a.eval x)).toList=some arr' ∧RepVs g cs arr'.toList:=by
  intro place hh
  obtain⟨arr',h1,h2,_⟩:=z7y h hh (hzr g)
  exact⟨arr',by simpa using h1,h2⟩
 have hbuilt:∃cells,P.built t (parts.map fun (i,x)=> (i,a.eval x)).toList=some cells∧RepVs g cs cells.toList:=by
  unfold Program.built
  unfold zvf at hb
  cases hu:P.underlying t with
  |none=>simp[hu] at hb
  |some d=>
   cases d<;>try (simp[hu] at hb;done)
   case array n e=>
    have he:∃m,z52 P e=some m:=Option.isSome_iff_exists.1 (by simpa [hu] using hb)
    obtain⟨m,hm⟩:=he
    obtain⟨ie,hie,rfl⟩:=z41 hm
    obtain⟨arr',h1,h2⟩:=main (fun i=>some (i*ie.size,ie.size)) (z90 henv (fun i o n hh=>by
     rw[hu] at hh
     obtain⟨h1,rfl⟩:=hh
     rw[hm] at h1
     cases h1
     rfl) hp)
    exact⟨arr',by simp only[hi,hzv,hie];exact h1,h2⟩
   case struct fs=>
    have hall:zaz P fs=true:=by simpa [hu] using hb
    obtain⟨places,h1,h2⟩:=zhn (fs:=fs.toList) (P:=P) hall
    obtain⟨arr',h3,h4⟩:=main (places.toArray[·]?) (z90 henv (fun i o n hh=>by
     rw[hu] at hh
     obtain⟨_,u,hf⟩:=hh
     obtain⟨fs',f,hu',hfi,rfl,rfl,hn⟩:=z7z hf
     rw[hu] at hu'
     cases hu'
     have:=h2 i f n (by simpa using hfi) hn
     simpa using this) hp)
    exact⟨arr',by simp only[hi,hzv,h1];exact h3,h4⟩
 obtain⟨cells,h1,h2⟩:=hbuilt
 exact⟨_,run_build w t _ cells h1,zan h2⟩
end Go.Lift
namespace Go.Lift
open Go
variable{n es eb:Nat}{z:Lv}{ag:Bool}
variable {P:Program} {st:St} {g:Gh} {w:World}
def RepIx (g:Gh):List (Nat×V)→List (Nat×Value)→Prop
 | [],vs=>vs= []
 | (i,x)::l,vs=>∃v r,vs= (i,v)::r∧RepV g x v∧RepIx g l r
theorem RepIx.parts (es:Nat):∀{ps:List (Nat×V)} {vs:List (Nat×Value)},RepIx g ps vs→zae g (fun i=>some (i*es,es)) (ps.map fun (i,v)=> (i*es,es,v)) vs
 | [],vs,h=>by simpa [zae,RepIx] using h
 | (i,x)::l,vs,h=>by
  simp only[RepIx] at h
  obtain⟨v,r,rfl,h1,h2⟩:=h
  simp only[List.map_cons,zae]
  exact⟨i,v,_,rfl,rfl,h1,RepIx.parts es h2⟩
theorem RepIx.mono {g' :Gh} (hx:Ext g g'):∀{ps:List (Nat×V)} {vs:List (Nat×Value)},RepIx g ps vs→RepIx g' ps vs
 | [],vs,h=>by simpa [RepIx] using h
 | (i,x)::l,vs,h=>by
  simp only[RepIx] at h⊢
  obtain⟨v,r,rfl,h1,h2⟩:=h
  exact⟨v,r,rfl,h1.mono hx,RepIx.mono hx h2⟩
theorem zkw {a:Act} {env:List V} (henv:RepVs g env a.tmps.toList):∀{l:List (Nat×Operand)} {m:List (Nat×Opd)},cIxs l=some m→RepIx g (m.map fun (i,x)=> (i,evO env x)) (l.map fun (i,x)=> (i,a.eval x))
 | [],m,h=>by simp[cIxs] at h;subst h;simp[RepIx]
 | (i,x)::l,m,h=>by
  simp only[cIxs] at h
  split at h
  ·rename_i y ys hy hys
   cases h
   simp only[List.map_cons,RepIx]
   exact⟨_,_,rfl,z0u henv hy,zkw henv hys⟩
  ·cases h
def zq6 {e:TypeId} {b:Nat} {a:Bool}  (h:z4l P e=some (n,a,b,z)):∃i zv,P.info? e=some i∧i.zero=some zv∧i.size=n∧i.bytes=b∧zv.cells.size=n∧0<n∧b≤65536∧∀g,RepVs g z zv.cells.toList:=by
 obtain⟨h1,h2,h3,h4,h5,h6,h7⟩:=z3c h
 obtain⟨i,zv,hi,hz,hr⟩:=z7j h4
 obtain⟨i',hi',hs⟩:=z41 h1
 rw[hi] at hi'
 cases hi'
 have hb:i.bytes=b:=by unfold zqs at h3;rw[hi] at h3;simpa using h3
 have hl:= (hr ⟨fun _ _=>none,fun _=>none,fun _=>0,fun _=>0,fun _=>0⟩).length
 exact⟨i,zv,hi,hz,hs,hb,by simpa [h6] using hl,h5,h7,hr⟩
def z56 {α:Type} (f:Nat→α): (Array.range 0).map f= #[]:=by
 apply Array.ext'
 simp
def zsp {t e:TypeId} {len:Nat}   (ht:P.underlying t=some (.slice e)) (he:z4l P e=some (es,ag,eb,z)) {ps:List (Nat×V)} {vs:Array (Nat×Value)} {cs:Lv} {key:Nat} (hk:g.blk key=none)
  (hle:len*es≤16777216) (hf:fillP (List.replicate len z).flatten (ps.map fun (i,v)=> (i*es,es,v))=some cs) (hp:RepIx g ps vs.toList):
  Mk P (Instr.buildSlice t len vs) g w key (.arr key es ag 0 len) (.cells cs):=by
 obtain⟨i,zv,hi,hz,hs,hb,hzs,h0,hb2,hr⟩:=zq6 he
 have hzl:z.length=es:= (z3c he).2.2.2.2.2.1
 have hlen: (List.replicate len z).flatten.length=len*es:=by rw[z1z,hzl]
 by_cases hl0:len=0
 ·subst hl0
  have hvs:vs= #[]∧cs= []:=by
   cases hpl:ps with
   |nil=>
    rw[hpl] at hp hf
    simp only[RepIx] at hp
    simp[fillP] at hf
    exact⟨by simpa using hp,hf⟩
   |cons q r=>
    rw[hpl] at hf hp
    obtain⟨j,x⟩:=q
    exfalso
    simp only[List.map_cons,fillP] at hf
    split at hf
    ·rename_i hc
     simp at hc
     omega
    ·cases hf
  obtain⟨rfl,rfl⟩:=hvs
  refine⟨.cells #[] e (0,0),0,0,.slice (some ⟨w.heap.size,0,none⟩) 0 0,?_,?_,z8e hk (by simpa using z1h) _ _ rfl rfl⟩
  ·simp[Instr.buildSlice,z0a ht,sizeOf,typeInfo,hi,Instr.fill,newRow,zdb]
   rw[z56]
  ·simp only[RepV]
   exact⟨_,z29,0,0,rfl,by rw[z3u.1];omega,by rw[z3u.2];omega,.inl (by rw[z4n])⟩
 ·have hpos:len*es≠0:=by
   have:=Nat.mul_pos (Nat.pos_of_ne_zero hl0) h0
   omega
  obtain⟨arr',h1,h2,h3,h4⟩:=z7y (arr:= (Array.range (len*zv.cells.size)).map (zv.cells[· %zv.cells.size]!)) hf (RepIx.parts es hp) (by rw[z96];exact RepVs.flatten_replicate (hr g) len)
  have hcl:cs.length=len*es:=by rw[h4,hlen]
  refine⟨.cells arr' e (0,0),cs.length,cs.length,.slice (some ⟨w.heap.size,0,none⟩) len len,?_,?_,z8e hk h2 _ _ rfl rfl⟩
  ·rw[run_buildSlice w t e len vs arr' i zv ht hi hz (by rw[hs];omega) (by rw[hs];exact hpos) (by rw[hs,←hzs] at*;exact h1)]
   rfl
  ·simp only[RepV]
   exact⟨_,z29,0,len,rfl,by rw[z3u.1];omega,by rw[z3u.2];omega,.inl (by rw[z4n])⟩
def zdh {n:Int} (h0:0≤n) (h1:n≤70368744177664):IntKind.i64.wrap n=n:=by
 simp only[IntKind.wrap,IntKind.bits,IntKind.signed]
 simp
 omega
def zox {t e:TypeId}    (ht:P.underlying t=some (.slice e)) (he:z4l P e=some (es,ag,eb,z)) {l c:Int} {j k:IntKind} {key:Nat} (hk:g.blk key=none)
  (h0:0≤l) (hlc:l≤c) (hb1:c*eb≤70368744177664) (hc:c≤70368744177664):
  Mk P (Instr.makeSlice t (.int j l) (.int k c)) g w key (.arr key es ag 0 l.toNat) (.cells (List.replicate c.toNat z).flatten):=by
 obtain⟨i,zv,hi,hz,hs,hb,hzs,hes0,hb2,hr⟩:=zq6 he
 have hzl:z.length=es:= (z3c he).2.2.2.2.2.1
 have hlen: (List.replicate c.toNat z).flatten.length=c.toNat*es:=by rw[z1z,hzl]
 have hwl:IntKind.i64.wrap l=l:=zdh h0 ω
 have hwc:IntKind.i64.wrap c=c:=zdh ω hc
 have hrow:∀x,(Array.range (c.toNat*zv.cells.size)).map (zv.cells[· %zv.cells.size]!)=x→RepVs g (List.replicate c.toNat z).flatten x.toList:=by
  rintro x rfl
  rw[z96]
  exact RepVs.flatten_replicate (hr g) c.toNat
 have e1: (eb:Int)*c≤281474976710656:=by rw[Int.mul_comm];omega
 have e3:¬(281474976710656< (eb:Int)*c):=ω
 have e2:¬(c.toNat*eb>140737488355328):=by
  have: ((c.toNat*eb:Nat):Int)=c*eb:=by simp;rw[Int.max_eq_left ω]
  omega
 refine⟨.cells ((Array.range (c.toNat*zv.cells.size)).map (zv.cells[· %zv.cells.size]!)) e (0,0),c.toNat*es,c.toNat*es,.slice (some ⟨w.heap.size,0,none⟩) l.toNat c.toNat,?_,?_,z8e hk (hrow _ rfl) _ _ hlen.symm hlen.symm⟩
 ·by_cases hn:c.toNat*es=0
  ·have hn' :c.toNat=0:=by rcases Nat.mul_eq_zero.1 hn with h|h<;>omega
   have e4:¬(c<0):=ω
   have e5:¬(l<0):=ω
   have e6:¬(c<l):=ω
   simp[Instr.makeSlice,z0a ht,asInt,asIntOf,typeInfo,hi,hwl,hwc,hb,e3,e4,e5,e6,askRoom,roomBytes,hn',sizeOf,newRow,zdb]
   rw[z56,z56]
  ·have e4:¬(c<0):=ω
   have e5:¬(l<0):=ω
   have e6:¬(c<l):=ω
   have hz' : (zeroValue e).run P w= .ok zv w:=zai hi hz
   simp[Instr.makeSlice,z0a ht,asInt,asIntOf,typeInfo,hi,hwl,hwc,hb,e3,e4,e5,e6,askRoom,roomBytes,e2,sizeOf,hs,hn,hz',newRow,zdb,hzs]
 ·simp only[RepV]
  exact⟨_,z29,0,c.toNat,rfl,by rw[z3u.1];omega,by rw[z3u.2];omega,.inl (by rw[z4n])⟩
def Reads (w:World) (v:Value) (n:Nat) (vals:List Value):Prop:=
 (∃a c,v= .slice (some a) n c∧∀(j:Nat) u,vals[j]?=some u→w.cell? (a.add j)=some u)∨(∃c,v= .slice none n c∧vals= [])
def RepL.cells {H:Still} {b es:Nat} (hes:0<es):∀{l:List D} {off:Nat},RepL H b es l off→∃vs,RepC H (l.flatMap cellsD) vs∧vs.length=l.length*es∧∀(j:Nat) u,vs[j]?=some u→H b (off+j)=some u
 | [],off,_=>⟨[],by simpa using z94,by simp,fun j u hu=>by simp at hu⟩
 |x::l,off,h=>by
  simp only[RepL] at h
  obtain⟨⟨u,h1,h2,h3⟩,h⟩:=h
  obtain⟨vs,h4,h5,h6⟩:=RepL.cells hes h
  refine⟨u.cells.toList++vs,?_,?_,fun j y hy=> ?_⟩
  ·simp only[List.flatMap_cons]
   have:=RepVs.append (g:=⟨H,fun _=>none,fun _=>0,fun _=>0,fun _=>0⟩) (z11.2 (RepD.cells h1)) (z11.2 h4)
   rw[←List.map_append] at this
   exact z11.1 this
  ·simp[h2,h5,Nat.add_mul];omega
  ·by_cases hj:j<es
   ·have hjl:j<u.cells.toList.length:=by simp[h2,hj]
    rw[List.getElem?_append_left hjl] at hy
    obtain⟨y',h7,h8⟩:=h3 j hj
    have:u.cells[j]?=some y:=by simpa using hy
    rw[h7] at this
    cases this
    exact h8
   ·have hjl:u.cells.toList.length≤j:=by simp[h2];omega
    rw[List.getElem?_append_right hjl] at hy
    simp only[Array.length_toList,h2] at hy
    have:=h6 (j-es) y hy
    rwa [show off+es+ (j-es)=off+j by omega] at this
def zrq (hi:Inv P z0i st g w)  (hes:0<es) {x:V} {v:Value} {ys:Lv}  (h:rdSl st es x=some (ys,n)) (hx:RepV g x v):
  ∃vals,Reads w v n vals∧RepVs g ys vals∧vals.length=n*es:=by
 unfold rdSl at h
 split at h
 ·cases h
  simp only[RepV] at hx
  exact⟨[],.inr ⟨0,hx,rfl⟩,z1h,by simp⟩
 ·cases h
  simp only[RepV] at hx
  obtain⟨a,c,rfl⟩:=hx
  exact⟨[],.inl ⟨a,c,rfl,fun j u hu=>by simp at hu⟩,z1h,by simp⟩
 ·rename_i l
  split at h
  ·rename_i hc
   cases h
   simp only[RepV,RepD] at hx
   obtain⟨a,cap,rfl,_,hl⟩:=hx
   rcases hl with rfl|⟨b,off,es',rfl,he0,hl⟩
   ·refine⟨[],?_,by simpa using z1h,by simp⟩
    cases a with
    |none=>exact .inr ⟨cap,rfl,rfl⟩
    |some a=>exact .inl ⟨a,cap,rfl,fun j u hu=>by simp at hu⟩
   ·obtain⟨vs,h1,h2,h3⟩:=RepL.cells he0 hl
    refine⟨vs,.inl ⟨_,cap,rfl,fun j u hu=>by rw[z6t];exact hi.H _ _ _ (h3 j u hu)⟩,z11.2 h1,?_⟩
    rw[h1.length,hc]
  ·cases h
 ·rename_i k es' ag off len
  split at h
  ·rename_i cs hcs
   split at h
   ·rename_i hc
    cases h
    obtain⟨hc,rfl⟩:=hc
    simp only[RepV] at hx
    obtain⟨b,hb,o,cap,rfl,hsz,htot,ho⟩:=hx
    obtain⟨b',vs,hb',hsz',_,hr,hread⟩:=z5u hi hcs
    obtain rfl:b=b' :=Option.some.inj (hb.symm.trans hb')
    have hl:=hr.length
    refine⟨(vs.drop off).take (n*es'),?_,RepVs.take _ (RepVs.drop _ hr),by simp;omega⟩
    refine .inl ⟨_,cap,rfl,fun j u hu=> ?_⟩
    obtain⟨h1,h2⟩:=z3k hu
    rcases ho with rfl|⟨rfl,_⟩
    ·rw[List.getElem?_drop] at h1
     rw[z6t,Nat.add_assoc]
     exact hread _ _ h1
    ·simp at h2
   ·cases h
  ·cases h
 ·cases h
def Reads.first {v:Value}  {vals:List Value} (h:Reads w v n vals) {m:Nat} (hl:vals.length=n*es) (hm:m≤n):
  (Builtin.firstCells es m v).run P w= .ok (vals.take (m*es)).toArray w∧(Builtin.lenOf v).run P w= .ok n w:=by
 rcases h with⟨a,c,rfl,h⟩|⟨c,rfl,rfl⟩
 ·refine⟨?_,by simp[Builtin.lenOf]⟩
  have hle:m*es≤n*es:=Nat.mul_le_mul_right _ hm
  have:=run_loadCells_list (P:=P) w a (vals.take (m*es)) (fun j u hu=>h j u (z3k hu).1)
  rw[List.length_take,hl,Nat.min_eq_left hle] at this
  simpa [Builtin.firstCells] using this
 ·exact⟨by simp[Builtin.firstCells],by simp[Builtin.lenOf]⟩
def y4k (hi:Inv P z0i st g w) {t tx ty e:TypeId}    (ht:P.underlying t=some (.slice e)) (he:z4l P e=some (es,ag,eb,z)) {x y r:V} {vx vy:Value} {st' :St}
  (h:z5d st es x y=some (r,st')) (hx:RepV g x vx) (hy:RepV g y vy):
  ∃u w',(Builtin.copy_ #[t,tx] ty #[vx,vy]).run P w= .ok u w' ∧RepV g r u∧Inv P z0i st' g w' ∧Step st g w st' g w' :=by
 obtain⟨i,zv,hie,hz,hs,hb,hzs,hes0,hb2,hr⟩:=zq6 he
 unfold z5d at h
 split at h
 ·cases h
 ·rename_i ys n hrd
  obtain⟨vals,h1,h2,h3⟩:=zrq hi hes0 hrd hy
  have hlen: (Builtin.lenOf vy).run P w= .ok n w:= (h1.first (P:=P) h3 (Nat.le_refl n)).2
  have hfc:∀m,m≤n→(Builtin.firstCells es m vy).run P w= .ok (vals.take (m*es)).toArray w:=fun m hm=> (h1.first (P:=P) h3 hm).1
  split at h
  ·cases h
   simp only[RepV] at hx
   subst hx
   refine⟨.int .i64 0,w,?_,by simp[RepV,RepD],hi,Step.refl st g w⟩
   simp[Builtin.copy_,z0a ht,hlen,sizeOf,typeInfo,hie,hs,hfc 0 (Nat.zero_le _),goInt]
  ·cases h
   simp only[RepV] at hx
   obtain⟨a,c,rfl⟩:=hx
   refine⟨.int .i64 0,w,?_,by simp[RepV,RepD],hi,Step.refl st g w⟩
   simp[Builtin.copy_,z0a ht,hlen,sizeOf,typeInfo,hie,hs,hfc 0 (Nat.zero_le _),goInt,storeCells]
  ·rename_i k es' ag' off len
   split at h
   ·rename_i cs ho
    split at h
    ·rename_i hc
     obtain⟨rfl,hle,hcell⟩:=hc
     cases h
     simp only[RepV] at hx
     obtain⟨b,hb',o,cap,rfl,hsz,htot,hoo⟩:=hx
     have hmn:Nat.min n len*es' ≤n*es' :=Nat.mul_le_mul_right _ (Nat.min_le_left _ _)
     have hml:Nat.min n len*es' ≤len*es' :=Nat.mul_le_mul_right _ (Nat.min_le_right _ _)
     have hyl:=h2.length
     obtain⟨w',h4,h5,h6⟩:=zb2 (off:=off) (news:=ys.take (Nat.min n len*es')) (vals:=vals.take (Nat.min n len*es')) hi ho hb' (by simp;omega)
      (by rw[List.all_eq_true] at hcell⊢;exact fun x hx=>hcell x (List.mem_of_mem_take hx)) (RepVs.take _ h2)
     refine⟨.int .i64 (Nat.min n len:Nat),w',?_,by simp[RepV,RepD],h5,h6⟩
     have hoff:storeCells ⟨b,o,none⟩ (vals.take (Nat.min n len*es'))=storeCells ⟨b,g.sh k+off,none⟩ (vals.take (Nat.min n len*es')):=by
      rcases hoo with rfl|⟨rfl,_⟩
      ·rfl
      ·simp[storeCells]
     have hff:=hfc (Nat.min n len) (Nat.min_le_left _ _)
     simp only[Builtin.copy_]
     simp[z0a ht,hlen,sizeOf,typeInfo,hie,hs,hff,goInt,hoff,h4]
    ·cases h
   ·cases h
  ·cases h
end Go.Lift
namespace Go.Lift
open Go
variable {P:Program} {st:St} {g:Gh} {w:World}
theorem zgv (z:Array Value) (n:Nat): (Builtin.zeroCells z n).toList= (List.replicate n z.toList).flatten:=z96 z n
def zv7 (hi:Inv P z0i st g w) {t ty e:TypeId} {es eb:Nat} {ag:Bool} {z:Lv} (ht:P.underlying t=some (.slice e)) (he:z4l P e=some (es,ag,eb,z)) {x:V} {vx:Value} {st' :St}
  (h:z88 st es z x=some st') (hx:RepV g x vx):
  ∃w',(Builtin.clear_ #[t] ty #[vx]).run P w= .ok (.tuple #[]) w' ∧Inv P z0i st' g w' ∧Step st g w st' g w' :=by
 obtain⟨i,zv,hie,hz,hs,hb,hzs,hes0,hb2,hr⟩:=zq6 he
 unfold z88 at h
 split at h
 ·cases h
  simp only[RepV] at hx
  subst hx
  exact⟨w,by simp[Builtin.clear_,z0a ht],hi,Step.refl st g w⟩
 ·cases h
  simp only[RepV] at hx
  obtain⟨a,c,rfl⟩:=hx
  exact⟨w,by simp[Builtin.clear_,z0a ht],hi,Step.refl st g w⟩
 ·cases h
  simp only[RepV,RepD] at hx
  obtain⟨a,cap,rfl,_⟩:=hx
  exact⟨w,by cases a<;>simp[Builtin.clear_,z0a ht],hi,Step.refl st g w⟩
 ·rename_i k es' ag' off len
  simp only[RepV] at hx
  obtain⟨b,hb',o,cap,rfl,hsz,htot,hoo⟩:=hx
  split at h
  ·rename_i h0
   cases h
   subst h0
   exact⟨w,by simp[Builtin.clear_,z0a ht],hi,Step.refl st g w⟩
  ·rename_i h0
   split at h
   ·rename_i cs ho
    split at h
    ·rename_i hc
     obtain⟨rfl,hle,hzl,hcell⟩:=hc
     cases h
     obtain rfl:o=g.sh k+off:=by rcases hoo with h|h;exact h;omega
     have hll: (List.replicate len z).flatten.length=len*z.length:=z1z len
     obtain⟨w',h4,h5,h6⟩:=zb2 (off:=off) (news:= (List.replicate len z).flatten) (vals:= (List.replicate len zv.cells.toList).flatten) hi ho hb' (by rw[hll,hzl];omega)
      (by
       rw[List.all_eq_true] at hcell⊢
       intro x hx
       obtain⟨l,hl,hx⟩:=List.mem_flatten.1 hx
       exact hcell x (List.eq_of_mem_replicate hl▸hx)) (RepVs.flatten_replicate (hr g) len)
     refine⟨w',?_,h5,h6⟩
     have hz' : (zeroValue e).run P w= .ok zv w:=zai hie hz
     have hlen:∃m,len=m+1:=⟨len-1,ω⟩
     obtain⟨m,rfl⟩:=hlen
     simp[Builtin.clear_,z0a ht,hz',zgv,h4]
    ·cases h
   ·cases h
 ·cases h
def Inv.move (hi:Inv P z0i st g w) {k b key n m s:Nat} {cs cs' :Lv} (ho:sget st.s k=some (.cells cs)) (hb:g.blk k=some b) (hk:g.blk key=none) (hlt:key<st.next) {arr:Array Value} {ty:TypeId} {w' :World}
  (hs:w'.heap.size=w.heap.size) (hos:w'.os=w.os) (htp:w'.tape=w.tape) (hout:w'.output=w.output) (hother:∀c,c≠b→w'.heap[c]?=w.heap[c]?)
  (hh:w'.heap[b]?=some (.cells arr ty (0,0))) (hn:n=cs'.length) (hnm:n≤m) (hm:s+m≤arr.size) (hr:RepVs g cs' ((arr.toList.drop s).take n)):
  Inv P z0i ((st.del k).ins key (.cells cs')) (g.asgS key b n m s) w' ∧Step st g w ((st.del k).ins key (.cells cs')) (g.asgS key b n m s) w' :=by
 obtain⟨b',hb',hsz,hHn,_⟩:=hi.obj k _ ho
 obtain rfl:b=b' :=Option.some.inj (hb.symm.trans hb')
 have hkey:sget st.s key=none:=hi.fresh hk
 have hne:key≠k:=fun e=>by rw[e,hb] at hk;cases hk
 have hsub:∀{j x},sget ((st.del k).ins key (.cells cs')).s j=some x→j≠key→sget st.s j=some x∧j≠k:=fun {j x} hx hj=>by
  simp only[St.ins,St.del,sget,Ne.symm hj,if_false] at hx
  by_cases e:j=k
  ·subst e;rw[z30] at hx;cases hx
  ·rw[z1x e] at hx;exact⟨hx,e⟩
 refine⟨⟨fun j c hj=> ?_,fun c o v hv=> ?_,fun i j c y z hi' hj hbi hbj=> ?_,fun j x hx=> ?_⟩,⟨Ext.asgS hk,Nat.le_refl _,ω,hos,htp,hout,fun c _ hn=>hother c fun e=>hn ⟨k,_,ho,e▸hb⟩,fun _ _ _ hv=> .inl hv,fun c hc=> ?_⟩⟩
 ·rw[hs]
  by_cases e:j=key
  ·subst e;rw[z74] at hj;cases hj;exact⟨hlt,(hi.u k b hb).2⟩
  ·rw[(z2w e).1] at hj;exact hi.u j c hj
 ·by_cases e:c=b
  ·subst e;rw[show (g.asgS key c n m s).H c o=g.H c o from rfl,hHn o] at hv;cases hv
  ·rw[z5m (hother c e)];exact hi.H c o v hv
 ·by_cases e1:i=key<;>by_cases e2:j=key
  ·exact e1.trans e2.symm
  ·subst e1
   rw[z74] at hbi;cases hbi
   rw[(z2w e2).1] at hbj
   obtain⟨h1,h2⟩:=hsub hj e2
   exact absurd (hi.inj j k b _ _ h1 ho hbj hb) h2
  ·subst e2
   rw[z74] at hbj;cases hbj
   rw[(z2w e1).1] at hbi
   obtain⟨h1,h2⟩:=hsub hi' e1
   exact absurd (hi.inj i k b _ _ h1 ho hbi hb) h2
  ·rw[(z2w e1).1] at hbi
   rw[(z2w e2).1] at hbj
   exact hi.inj i j c _ _ (hsub hi' e1).1 (hsub hj e2).1 hbi hbj
 ·by_cases e:j=key
  ·subst e
   simp only[St.ins,sget,if_true,Option.some.injEq] at hx
   subst hx
   refine⟨b,z74,?_⟩
   have h2:= @zl7 g j b n m s
   have h3:= @zvs g j b n m s
   refine⟨ω,hHn,arr,ty,hh,ω,ω,?_⟩
   rw[←hn,h3]
   exact RepVs.mono (Ext.asgS hk) hr
  ·obtain⟨h1,h2⟩:=hsub hx e
   obtain⟨c,h6,h9⟩:=hi.obj j x h1
   refine⟨c,by rw[(z2w e).1];exact h6,h9.mono (Ext.asgS hk) (z2w e).2 (zzw e) (hother c fun e' =>h2 (hi.inj j k b _ _ h1 ho (e' ▸h6) hb)) fun hh=>hh⟩
 ·obtain⟨j,x,h1,h2⟩:=hc
  by_cases e:j=key
  ·subst e;rw[z74] at h2;cases h2;exact .inr ⟨k,_,ho,hb⟩
  ·rw[(z2w e).1] at h2
   exact .inr ⟨j,x,(hsub h1 e).1,h2⟩
def Reads.drew {v:Value} {n:Nat} {vals:List Value} (h:Reads w v n vals):Reads w.drew v n vals:=by
 rcases h with⟨a,c,h1,h⟩|h
 ·exact .inl ⟨a,c,h1,fun j u hu=>h j u hu⟩
 ·exact .inr h
def z7e {t tx ty e e' :TypeId} {i:TypeInfo} {zv:Value} (ht:P.underlying t=some (.slice e)) (htx:P.underlying tx=some (.slice e')) (hi:P.info? e=some i) (hz:i.zero=some zv)
  {base:Option Addr} {sLen sCap n:Nat} {y:Value} {olds news:List Value} (ho:Reads w (.slice base sLen sCap) sLen olds) (hol:olds.length=sLen*i.size) (hy:Reads w y n news) (hyl:news.length=n*i.size)
  (hg:sCap<sLen+n) (h63:sLen+n≤70368744177664) (hb: (sLen+n)*i.bytes≤70368744177664):
  ∃C,sLen+n≤C∧(Builtin.append_ #[t,tx] ty #[.slice base sLen sCap,y]).run P w=
   .ok (.slice (some ⟨w.heap.size,0,none⟩) (sLen+n) C) (w.drew.alloc (.cells (olds.toArray++news.toArray++Builtin.zeroCells zv.cells (C-(sLen+n))) e)):=by
 refine⟨grownCap w (sLen+n) sCap e,by simp only[grownCap,Question.cut];omega,?_⟩
 have hn:¬(sLen+n≤sCap):=ω
 have h63' :¬(9223372036854775807< ((sLen:Int)+ (n:Int))):=ω
 have h48:=growslice_fits (need:=sLen+n) (old:=sCap) (bytes:=i.bytes) hg ω
 have h48' :¬(281474976710656<Builtin.nextslicecap (sLen+n) sCap*i.bytes):=ω
 obtain⟨hf1,hf2⟩:=hy.drew.first (P:=P) hyl (Nat.le_refl n)
 obtain⟨hfo,_⟩:=ho.drew.first (P:=P) hol (Nat.le_refl sLen)
 have hlen: (Builtin.lenOf y).run P w= .ok n w:= (hy.first (P:=P) hyl (Nat.le_refl n)).2
 rw[←hyl,List.take_length] at hf1
 rw[←hol,List.take_length] at hfo
 simp[Builtin.append_,z0a ht,z0a htx,sizeOf,typeInfo,zeroValue,hi,hz,hlen,hn,h63',h48',Question.forced,hf1,hfo,newRow,grownCap]
 congr 2
 apply Array.ext'
 simp[List.append_assoc]
def za9 {t tx ty e e' :TypeId} {i:TypeInfo} (ht:P.underlying t=some (.slice e)) (htx:P.underlying tx=some (.slice e')) (hi:P.info? e=some i)
  {a:Addr} {sLen sCap n:Nat} {y:Value} {news:List Value} (hy:Reads w y n news) (hyl:news.length=n*i.size) (hg:sLen+n≤sCap) {w' :World} (hst: (storeCells (a.add (sLen*i.size)) news).run P w= .ok () w'):
  (Builtin.append_ #[t,tx] ty #[.slice (some a) sLen sCap,y]).run P w= .ok (.slice (some a) (sLen+n) sCap) w' :=by
 obtain⟨hf1,hf2⟩:=hy.first (P:=P) hyl (Nat.le_refl n)
 rw[←hyl,List.take_length] at hf1
 simp[Builtin.append_,z0a ht,z0a htx,sizeOf,typeInfo,hi,hf2,hg,hf1,hst]
def zbg {t tx ty e e' :TypeId} {i:TypeInfo} (ht:P.underlying t=some (.slice e)) (htx:P.underlying tx=some (.slice e')) (hi:P.info? e=some i)
  {a:Option Addr} {y:Value} {news:List Value} (hy:Reads w y 0 news) (hyl:news.length=0*i.size):
  (Builtin.append_ #[t,tx] ty #[.slice a 0 0,y]).run P w= .ok (.slice a 0 0) w:=by
 obtain⟨hf1,hf2⟩:=hy.first (P:=P) hyl (Nat.le_refl 0)
 simp at hyl
 subst hyl
 simp at hf1
 cases a<;>simp[Builtin.append_,z0a ht,z0a htx,sizeOf,typeInfo,hi,hf2,hf1,storeCells]
def zvt (hi:Inv P z0i st g w) {t tx ty e e' :TypeId} {es eb key:Nat} {ag:Bool} {z:Lv} (ht:P.underlying t=some (.slice e)) (htx:P.underlying tx=some (.slice e')) (he:z4l P e=some (es,ag,eb,z)) {x y r:V} {vx vy:Value} {st' :St}
  (hk:g.blk key=none) (hlt:key<st.next) (h:z0v st key es ag eb x y=some (r,st')) (hx:RepV g x vx) (hy:RepV g y vy):
  ∃u w' g',(Builtin.append_ #[t,tx] ty #[vx,vy]).run P w= .ok u w' ∧RepV g' r u∧Inv P z0i st' g' w' ∧Step st g w st' g' w' ∧∀k b,g'.blk k=some b→g.blk k=some b∨k=key:=by
 obtain⟨i,zv,hie,hz,rfl,hb,hzs,hes0,hb2,hr⟩:=zq6 he
 have hnew:∀(b n m k c:Nat),(g.asg key b n m).blk k=some c→g.blk k=some c∨k=key:=fun b n m k c hc=>by
  by_cases e:k=key
  ·exact .inr e
  ·rw[(z20 e).1] at hc;exact .inl hc
 have hnewS:∀(b n m s k c:Nat),(g.asgS key b n m s).blk k=some c→g.blk k=some c∨k=key:=fun b n m s k c hc=>by
  by_cases e:k=key
  ·exact .inr e
  ·rw[(z2w e).1] at hc;exact .inl hc
 unfold z0v at h
 split at h
 ·cases h
 ·rename_i ys n hrd
  obtain⟨vals,h1,h2,h3⟩:=zrq hi hes0 hrd hy
  have hyl:=h2.length
  have fresh:∀(base:Option Addr),0<n→n*eb≤70368744177664→n≤70368744177664→vx= .slice base 0 0→(∃a,x=a)→
    ∃u w' g',(Builtin.append_ #[t,tx] ty #[vx,vy]).run P w= .ok u w' ∧RepV g' (.arr key i.size ag 0 n) u∧Inv P z0i (st.ins key (.cells ys)) g' w' ∧Step st g w (st.ins key (.cells ys)) g' w' ∧∀k b,g'.blk k=some b→g.blk k=some b∨k=key:=by
   intro base hn hb1 hb2 hv _
   subst hv
   have hR:Reads w (.slice base 0 0) 0 []:=by
    cases base with
    |none=>exact .inr ⟨0,rfl,rfl⟩
    |some a=>exact .inl ⟨a,0,rfl,fun j u hu=>by simp at hu⟩
   obtain⟨C,hC,hrun⟩:=z7e (ty:=ty) ht htx hie hz hR ψ h1 h3 ω ω (by rw[hb];simpa using hb1)
   have hi' :Inv P z0i st g w.drew:=hi.drew _
   have hCs:n*i.size≤C*i.size:=Nat.mul_le_mul_right _ ω
   have hsz: ((([]:List Value).toArray++vals.toArray++Builtin.zeroCells zv.cells (C-(0+n)))).size=C*i.size:=by
    simp only[Array.size_append,List.size_toArray,List.length_nil,size_zeroCells,hzs,h3,Nat.zero_add]
    rw[←Nat.add_mul];congr 1;omega
   obtain⟨h4,h5⟩:=hi'.ins (k:=key) (n:=n*i.size) (m:=C*i.size) hk hlt (o:= .cells ys) (ob:= .cells (([]:List Value).toArray++vals.toArray++Builtin.zeroCells zv.cells (C-(0+n))) e (0,0)) (by
    refine⟨by rw[z3u.1];omega,fun j=>hi'.Hnew j,_,e,z36,by rw[z3u.2];omega,by rw[z3u.2,z4n,hsz];omega,?_⟩
    refine RepVs.mono (Ext.asg hk) ?_
    rw[z4n,List.drop_zero]
    have:List.take ys.length (([]:List Value).toArray++vals.toArray++Builtin.zeroCells zv.cells (C-(0+n))).toList=vals:=by
     simp[hyl]
    rw[this];exact h2)
   refine⟨_,_,_,hrun,?_,h4,(Step.drew st g w _).trans h5,hnew _ _ _⟩
   simp only[RepV]
   refine⟨w.heap.size,z29,0,C,by simp,?_,?_,.inl (by rw[show (g.asg key w.drew.heap.size (n*i.size) (C*i.size)).sh key=0 from z4n])⟩
   ·rw[show (g.asg key w.drew.heap.size (n*i.size) (C*i.size)).sz key=n*i.size from z3u.1];omega
   ·rw[show (g.asg key w.drew.heap.size (n*i.size) (C*i.size)).tot key=C*i.size from z3u.2];omega
  split at h
  ·simp only[RepV] at hx
   split at h
   ·rename_i hn
    cases h
    subst hn
    subst hx
    exact⟨_,w,g,zbg ht htx hie h1 h3,by simp[RepV],hi,Step.refl st g w,fun k b hb=> .inl hb⟩
   ·rename_i hn
    split at h
    ·rename_i hc
     cases h
     exact fresh none ω hc.1 hc.2.1 hx ⟨_,rfl⟩
    ·cases h
  ·rename_i k es' ag' off len
   split at h
   ·rename_i cs ho
    split at h
    ·rename_i hc
     obtain⟨rfl,rfl,hb1,hb2,hcell⟩:=hc
     simp only[RepV] at hx
     obtain⟨b,hb',o,cap,rfl,hsz,htot,hoo⟩:=hx
     obtain⟨b',hb'',hsz',hHn,arr,ty',hheap,hle1,hle2,hcs⟩:=hi.obj k _ ho
     obtain rfl:b=b' :=Option.some.inj (hb'.symm.trans hb'')
     have hadd: (len+n)*i.size=len*i.size+n*i.size:=Nat.add_mul _ _ _
     have room:∀(d:Nat) (cs' :Lv),d≤off→len+n≤cap→off+len*i.size≤cs.length→off+ (len+n)*i.size≤d+cs'.length→d+cs'.length≤off+cap*i.size→
       RepVs g cs' (((arr.toList.take (g.sh k+off+len*i.size)++vals++arr.toList.drop (g.sh k+off+len*i.size+vals.length)).drop (g.sh k+d)).take cs'.length)→
       ∃u w' g',(Builtin.append_ #[t,tx] ty #[.slice (some ⟨b,o,none⟩) len cap,vy]).run P w= .ok u w' ∧RepV g' (.arr key i.size ag' (off-d) (len+n)) u∧Inv P z0i ((st.del k).ins key (.cells cs')) g' w' ∧Step st g w ((st.del k).ins key (.cells cs')) g' w' ∧∀k b,g'.blk k=some b→g.blk k=some b∨k=key:=by
      intro d cs' hd hroom hle hle' hcap hrr
      have hcapm: (len+n)*i.size≤cap*i.size:=Nat.mul_le_mul_right _ hroom
      have hst:=run_storeCells_at P b (g.sh k+off+len*i.size) ty' vals 0 arr w hheap ω (RepVs.oneCells hcell h2)
      simp only[Nat.add_zero] at hst
      have hst' : (storeCells ((⟨b,o,none⟩:Addr).add (len*i.size)) vals).run P w= .ok () (w.setRow b (arr.toList.take (g.sh k+off+len*i.size)++vals++arr.toList.drop (g.sh k+off+len*i.size+vals.length)).toArray):=by
       rcases hoo with rfl|⟨rfl,rfl⟩
       ·rw[z6t];exact hst
       ·have:vals= []:=List.eq_nil_of_length_eq_zero (by rw[h3];have:n=0:=ω;simp[this])
        subst this
        simpa [storeCells] using hst
      have hh:=setRow_heap w b arr (arr.toList.take (g.sh k+off+len*i.size)++vals++arr.toList.drop (g.sh k+off+len*i.size+vals.length)).toArray ty' (0,0) hheap
      obtain⟨h4,h5⟩:=Inv.move (w' :=w.setRow b (arr.toList.take (g.sh k+off+len*i.size)++vals++arr.toList.drop (g.sh k+off+len*i.size+vals.length)).toArray) hi (n:=cs'.length) (m:=g.tot k-d) (s:=g.sh k+d) ho hb' hk hlt ψ rfl rfl rfl (fun c hc=>setRow_other w b c _ hc) hh rfl ω (by simp;omega) hrr
      refine⟨_,_,_,za9 ht htx hie h1 h3 hroom hst',?_,h4,h5,hnewS _ _ _ _⟩
      simp only[RepV]
      refine⟨b,z74,o,cap,rfl,by rw[zl7.1];omega,by rw[zl7.2];omega,?_⟩
      rw[zvs]
      rcases hoo with h|h
      ·exact .inl ω
      ·exact .inr ⟨ω,h.2⟩
     have ends:off+len*i.size=cs.length→∃u w' g',(Builtin.append_ #[t,tx] ty #[.slice (some ⟨b,o,none⟩) len cap,vy]).run P w= .ok u w' ∧RepV g' (.arr key i.size ag' 0 (len+n)) u∧Inv P z0i ((st.del k).ins key (.cells (cs.drop off++ys))) g' w' ∧Step st g w ((st.del k).ins key (.cells (cs.drop off++ys))) g' w' ∧∀k b,g'.blk k=some b→g.blk k=some b∨k=key:=by
      intro hlen
      have hdl: (cs.drop off).length=len*i.size:=by simp;omega
      by_cases hroom:len+n≤cap
      ·have hcapm: (len+n)*i.size≤cap*i.size:=Nat.mul_le_mul_right _ hroom
       have:=room off (cs.drop off++ys) (Nat.le_refl _) hroom ω (by simp;omega) (by simp;omega) (by
        have e1: ((arr.toList.take (g.sh k+off+len*i.size)++vals++arr.toList.drop (g.sh k+off+len*i.size+vals.length)).drop (g.sh k+off)).take (cs.drop off++ys).length= ((arr.toList.drop (g.sh k)).take cs.length).drop off++vals:=by
         rw[List.append_assoc,List.drop_append_of_le_length (by simp;omega),←List.append_assoc,List.take_append_of_le_length (by simp;omega),List.take_of_length_le (by simp;omega)]
         congr 1
         rw[List.drop_take,List.drop_take,List.drop_drop]
         congr 1;omega
        rw[e1]
        exact RepVs.append (RepVs.drop off hcs) h2)
       rwa [Nat.sub_self] at this
      ·have hR:Reads w (.slice (some ⟨b,o,none⟩) len cap) len (((arr.toList.drop (g.sh k)).take cs.length).drop off):=by
        refine .inl ⟨_,cap,rfl,fun j u hu=> ?_⟩
        rw[List.getElem?_drop] at hu
        obtain⟨h6,h7⟩:=z3k hu
        rw[List.getElem?_drop] at h6
        rcases hoo with rfl|⟨rfl,_⟩
        ·rw[z6t,z6p hheap,Nat.add_assoc]
         simpa using h6
        ·omega
       have hol: (((arr.toList.drop (g.sh k)).take cs.length).drop off).length=len*i.size:=by simp;omega
       obtain⟨C,hC,hrun⟩:=z7e (ty:=ty) ht htx hie hz hR hol h1 h3 ω ω (by rw[hb];exact hb1)
       have hi' :Inv P z0i (st.del k) g w.drew:= (hi.del k).1.drew _
       have hCs: (len+n)*i.size≤C*i.size:=Nat.mul_le_mul_right _ hC
       have hsz: (((((arr.toList.drop (g.sh k)).take cs.length).drop off).toArray++vals.toArray++Builtin.zeroCells zv.cells (C-(len+n)))).size=C*i.size:=by
        simp only[Array.size_append,List.size_toArray,hol,size_zeroCells,hzs,h3]
        rw[←Nat.add_mul,←Nat.add_mul];congr 1;omega
       obtain⟨h4,h5⟩:=hi'.ins (k:=key) (n:= (len+n)*i.size) (m:=C*i.size) hk hlt (o:= .cells (cs.drop off++ys)) (ob:= .cells ((((arr.toList.drop (g.sh k)).take cs.length).drop off).toArray++vals.toArray++Builtin.zeroCells zv.cells (C-(len+n))) e (0,0)) (by
        refine⟨by rw[z3u.1];simp;omega,fun j=>hi'.Hnew j,_,e,z36,by rw[z3u.2];simp;omega,by rw[z3u.2,z4n,hsz];omega,?_⟩
        refine RepVs.mono (Ext.asg hk) ?_
        rw[z4n,List.drop_zero]
        have:List.take (cs.drop off++ys).length ((((arr.toList.drop (g.sh k)).take cs.length).drop off).toArray++vals.toArray++Builtin.zeroCells zv.cells (C-(len+n))).toList= ((arr.toList.drop (g.sh k)).take cs.length).drop off++vals:=by
         simp only[Array.toList_append,List.toList_toArray]
         rw[List.take_append_of_le_length (by simp;omega),List.take_of_length_le (by simp;omega)]
        rw[this]
        exact RepVs.append (RepVs.drop off hcs) h2)
       refine⟨_,_,_,hrun,?_,h4,((hi.del k).2.trans (Step.drew _ g w _)).trans h5,hnew _ _ _⟩
       simp only[RepV]
       refine⟨w.heap.size,z29,0,C,rfl,?_,?_,.inl (by rw[show (g.asg key w.drew.heap.size ((len+n)*i.size) (C*i.size)).sh key=0 from z4n])⟩
       ·rw[show (g.asg key w.drew.heap.size ((len+n)*i.size) (C*i.size)).sz key= (len+n)*i.size from z3u.1];omega
       ·rw[show (g.asg key w.drew.heap.size ((len+n)*i.size) (C*i.size)).tot key=C*i.size from z3u.2];omega
     split at h
     ·rename_i hc
      obtain⟨rfl,hlen⟩:=hc
      cases h
      exact ends ω
     ·split at h
      ·rename_i hle
       cases h
       have hcap:len+n≤cap:=by
        have: (len+n)*i.size≤cap*i.size:=ω
        exact Nat.le_of_mul_le_mul_right this hes0
       have hsl: (splice cs (off+len*i.size) ys).length=cs.length:=z38 ω
       refine room 0 _ (Nat.zero_le _) hcap ω (by rw[hsl];omega) (by rw[hsl];omega) ?_
       rw[hsl,Nat.add_zero,Nat.add_assoc,zcs (by simp;omega),zb8 ω (by simp;omega)]
       exact RepVs.splice hcs h2
      ·split at h
       ·rename_i hlen
        cases h
        exact ends hlen
       ·cases h
    ·cases h
   ·cases h
  ·cases h
end Go.Lift
namespace Go.Lift
open Go
variable {P:Program} {st:St} {g:Gh} {w:World}
def y1m:Kc→Value→Prop
 | .b,v=>∃b,v= .bool b
 | .s,v=>∃s:ByteArray,v= .string s∧s.size≤maxLen
 | .i k,v=>∃n,v= .int k n∧(Lit.int k n).wf=true
def ConfV (sh:List Kc) (cs:List Value):Prop:=cs.length=sh.length∧∀(j:Nat) c v,sh[j]?=some c→cs[j]?=some v→y1m c v
def ConfV.seg {sh l:List Kc} {cs:List Value} {o:Nat} (h:ConfV sh cs) (hl:∀j,j<l.length→l[j]?=sh[o+j]?) (hle:o+l.length≤sh.length):ConfV l ((cs.drop o).take l.length):=by
 refine⟨by simp[h.1];omega,fun j c v hc hv=> ?_⟩
 obtain⟨h1,h2⟩:=z3k hv
 rw[List.getElem?_drop] at h1
 exact h.2 (o+j) c v ((hl j h2).symm.trans hc) h1
def zm6 {α β:Type} {f:α→Option β} :∀{l:List α},(∀x∈l,∃y,f x=some y)→∃m,l.mapM f=some m
 | [],_=>⟨[],by simp⟩
 |x::l,h=>by
  obtain⟨y,hy⟩:=h x ψ
  obtain⟨m,hm⟩:=zm6 (l:=l) fun z hz=>h z (by simp[hz])
  exact⟨y::m,by simp[hy,hm]⟩
def z85 {α:Type} {l:List α} :∀{m i j:Nat},i<m→j<l.length→(List.replicate m l).flatten[i*l.length+j]?=l[j]?
 |0,i,j,h,_=>ω
 |m+1,0,j,_,hj=>by
  simp only[List.replicate_succ,List.flatten_cons,Nat.zero_mul,Nat.zero_add]
  rw[List.getElem?_append_left hj]
 |m+1,i+1,j,h,hj=>by
  simp only[List.replicate_succ,List.flatten_cons]
  rw[List.getElem?_append_right (by rw[Nat.add_mul];omega),show (i+1)*l.length+j-l.length=i*l.length+j by rw[Nat.add_mul];omega]
  exact z85 ω hj
def z9y:∀n:Nat,
  (∀(t:TypeId) (sh:List Kc),zg0 P n t=some sh→∀(D:Nat) (cs:List Value),P.keyTypeAt D t=true→ConfV sh cs→P.cellsOf t=sh.length→∃L,P.keyLits D t cs=some L)∧
  (∀(fs:List Field) (off:Nat) (m:List Kc),zi7 P n off fs=some m→∀(D:Nat) (cs:List Value),(∀f∈fs,P.keyTypeAt D f.type=true)→ConfV m (cs.drop off)→
   (∀f∈fs,f.name≠ "_")∧∃Ls,fs.mapM (fun f=>P.keyLits D f.type ((cs.drop f.offset).take (P.cellsOf f.type)))=some Ls)
 |0=>⟨fun t sh h=>by simp[zg0] at h,fun fs off m h=>by simp[zi7] at h⟩
 |n+1=>by
  have IH:=z9y n
  refine⟨fun t sh h D cs hk hc hcell=> ?_,fun fs off m h D cs hk hc=> ?_⟩
  ·cases D with
   |zero=>simp[Program.keyTypeAt] at hk
   |succ D=>
    simp only[zg0] at h
    simp only[Program.keyTypeAt] at hk
    split at h
    ·rename_i k hu
     cases h
     obtain⟨h1,h2⟩:=hc
     obtain⟨v,rfl⟩:=List.length_eq_one_iff.1 (h1.trans ψ)
     obtain⟨n,rfl,hw⟩:=h2 0 _ v (by simp;rfl) ψ
     exact⟨[.int k n],by simp only[Program.keyLits,hu];simp[hw]⟩
    ·rename_i hu
     cases h
     obtain⟨h1,h2⟩:=hc
     obtain⟨v,rfl⟩:=List.length_eq_one_iff.1 (h1.trans ψ)
     obtain⟨n,rfl⟩:=h2 0 _ v (by simp;rfl) ψ
     exact⟨[.bool n],by simp only[Program.keyLits,hu]⟩
    ·rename_i hu
     cases h
     obtain⟨h1,h2⟩:=hc
     obtain⟨v,rfl⟩:=List.length_eq_one_iff.1 (h1.trans ψ)
     obtain⟨n,rfl,hw⟩:=h2 0 _ v (by simp;rfl) ψ
     exact⟨[.string n.data.toList],by simp only[Program.keyLits,hu];simp[hw]⟩
    ·rename_i fs hu
     simp only[hu,Bool.and_eq_true] at hk
     have hk' :∀f∈fs.toList,P.keyTypeAt D f.type=true:=fun f hf=>by
      have:=Array.all_eq_true'.1 hk.1.1 f (Array.mem_toList_iff.1 hf)
      simp only[Bool.and_eq_true] at this
      exact this.2
     obtain⟨h1,Ls,h2⟩:=IH.2 fs.toList 0 sh h D cs hk' (by simpa using hc)
     have h3:fs.all (fun f=>f.name != "_")=true:=by
      rw[Array.all_eq_true']
      intro f hf
      simpa using h1 f (Array.mem_toList_iff.2 hf)
     refine⟨Ls.flatten,?_⟩
     have h4:cs.length=P.cellsOf t:=by rw[hc.1,hcell]
     cases cs with
     |nil=>simp only[Program.keyLits,hu];rw[if_pos ⟨h4,h3⟩,h2];rfl
     |cons c cs=>simp only[Program.keyLits,hu];rw[if_pos ⟨h4,h3⟩,h2];rfl
    ·rename_i m e hu
     simp only[hu] at hk
     split at h
     ·rename_i l hl
      split at h
      ·rename_i hce
       cases h
       have h4:cs.length=P.cellsOf t:=by rw[hc.1,hcell]
       have h5:∀i∈List.range m,∃L,P.keyLits D e ((cs.drop (i*P.cellsOf e)).take (P.cellsOf e))=some L:=fun i hi=>by
        rw[List.mem_range] at hi
        rw[hce]
        refine IH.1 e l hl D _ hk (hc.seg (fun j hj=> (z85 hi hj).symm) ?_) hce
        have: (i+1)*l.length≤m*l.length:=Nat.mul_le_mul_right _ hi
        rw[Nat.add_mul] at this
        simp
        omega
       obtain⟨Ls,h6⟩:=zm6 h5
       refine⟨Ls.flatten,?_⟩
       cases cs with
       |nil=>simp only[Program.keyLits,hu];rw[if_pos h4,h6];rfl
       |cons c cs=>simp only[Program.keyLits,hu];rw[if_pos h4,h6];rfl
      ·cases h
     ·cases h
    ·cases h
  ·cases fs with
   |nil=>exact⟨by simp,[],by simp⟩
   |cons f fs=>
    simp only[zi7] at h
    split at h
    ·rename_i l hl
     split at h
     ·rename_i hcond
      simp only[Bool.and_eq_true,bne_iff_ne,ne_eq,beq_iff_eq] at hcond
      obtain⟨⟨hname,hoff⟩,hcell⟩:=hcond
      split at h
      ·rename_i m' hm'
       cases h
       have hseg:ConfV l (((cs.drop off).drop 0).take l.length):=hc.seg (fun j hj=>by rw[Nat.zero_add,List.getElem?_append_left hj]) ψ
       obtain⟨L,hL⟩:=IH.1 f.type l hl D _ (hk f ψ) hseg hcell
       have hrest:ConfV m' (cs.drop (off+l.length)):=by
        refine⟨?_,fun j c v h1 h2=>hc.2 (l.length+j) c v ?_ ?_⟩
        ·have:=hc.1
         simp at this⊢
         omega
        ·rw[List.getElem?_append_right ω];simpa using h1
        ·rw[List.getElem?_drop] at h2⊢;rwa [show off+ (l.length+j)=off+l.length+j by omega]
       obtain⟨h1,Ls,h2⟩:=IH.2 fs (off+l.length) m' hm' D cs (fun f' hf' =>hk f' (by simp[hf'])) hrest
       refine⟨fun f' hf' => ?_,L::Ls,?_⟩
       ·rcases List.mem_cons.1 hf' with rfl|hf'
        ·exact hname
        ·exact h1 f' hf'
       ·rw[List.drop_zero] at hL
        simp[hoff,hcell,hL,h2]
      ·cases h
     ·cases h
    ·cases h
end Go.Lift
namespace Go.Lift
open Go Go.Maps
variable{x:D}{ag:Bool}
variable {P:Program} {st:St} {g:Gh} {w:World}
def zzk {c:Kc}  {v:Value} {H:Still} (h:z8y c x=true) (hx:RepD H x v):y1m c v:=by
 unfold z8y at h
 split at h
 ·simp only[RepD] at hx;exact⟨_,hx⟩
 ·simp only[RepD] at hx
  obtain⟨b,rfl,hb⟩:=hx
  refine⟨b,rfl,?_⟩
  have:b.size=b.data.toList.length:=by rw[Array.length_toList];rfl
  have hl:=congrArg List.length hb
  simp only[List.length_map] at hl
  simp only[decide_eq_true_eq] at h
  unfold maxLen
  omega
 ·simp only[RepD] at hx
  simp only[Bool.and_eq_true,decide_eq_true_eq] at h
  obtain⟨⟨rfl,h1⟩,h2⟩:=h
  exact⟨_,hx,by simp[Lit.wf,h1,h2]⟩
 ·cases h
theorem zne:∀{sh:List Kc} {ds:List D},conf sh ds=true→ds.length=sh.length∧∀(j:Nat) c x,sh[j]?=some c→ds[j]?=some x→z8y c x=true
 | [],[],_=>⟨rfl,fun j c x h=>by simp at h⟩
 | [],_::_,h=>by simp[conf] at h
 |_::_,[],h=>by simp[conf] at h
 |c::sh,x::ds,h=>by
  simp only[conf,Bool.and_eq_true] at h
  obtain⟨h1,h2⟩:=zne h.2
  refine⟨by simp[h1],fun j c' x' hc hx=> ?_⟩
  cases j with
  |zero=>simp at hc hx;subst hc;subst hx;exact h.1
  |succ j=>exact h2 j c' x' (by simpa using hc) (by simpa using hx)
def z1d  {sh:List Kc}  (h:z2v ag sh x=true):conf sh (cellsD x)=true∧(ag=true↔∃ds,x= .agg ds):=by
 unfold z2v at h
 split at h
 ·simp only[Bool.and_eq_true] at h
  exact⟨h.2,by simp[h.1]⟩
 ·rename_i hne
  simp only[Bool.and_eq_true,Bool.not_eq_true'] at h
  cases x<;>first| (exact absurd rfl (hne _))|exact⟨h.2,by simp[h.1]⟩
def zkn  {sh:List Kc}  {v:Value} {H:Still} (h:z2v ag sh x=true) (hx:RepD H x v):ConfV sh v.cells.toList:=by
 obtain⟨h1,h2⟩:=zne (z1d h).1
 have hr:=RepD.cells hx
 refine⟨hr.length.trans h1,fun j c u hc hu=> ?_⟩
 have hlt:j< (cellsD x).length:=by rw[h1];exact (List.getElem?_eq_some_iff.1 hc).1
 obtain⟨u',hu',hr'⟩:=hr.get (i:=j) (x:= (cellsD x)[j]) (by simp[hlt])
 rw[hu] at hu'
 cases hu'
 exact zzk (h2 j c _ hc (by simp[hlt])) hr'
def zv3 {c:Kc} {y:D} {v u:Value} {H H' :Still} (h:z8y c x=true) (k:z8y c y=true) (hx:RepD H x v) (hy:RepD H' y u): (x=y↔v=u)∧(D.beq x y=true↔x=y):=by
 cases c<;>cases x<;>simp only[z8y,Bool.false_eq_true] at h<;>cases y<;>simp only[z8y,Bool.false_eq_true] at k<;>simp only[RepD] at hx hy
 ·subst hx;subst hy
  exact⟨by simp,by simp[D.beq]⟩
 ·obtain⟨b,rfl,hb⟩:=hx
  obtain⟨c,rfl,hc⟩:=hy
  refine⟨⟨fun e=> ?_,fun e=> ?_⟩,by simp[D.beq]⟩
  ·cases e
   rw[←hb] at hc
   have:=z8f hc
   have:b=c:=ByteArray.ext (Array.ext' this.symm)
   rw[this]
  ·cases e
   rw[←hb,←hc]
 ·subst hx;subst hy
  exact⟨by simp,by simp[D.beq]⟩
theorem zg8:∀{sh:List Kc} {xs ys:List D} {vs us:List Value} {H H' :Still},conf sh xs=true→conf sh ys=true→RepC H xs vs→RepC H' ys us→(xs=ys↔vs=us)∧(D.beqL xs ys=true↔xs=ys)
 | [],[],[],vs,us,_,_,_,_,h1,h2=>by
  simp only[RepC] at h1 h2
  subst h1;subst h2
  simp[D.beqL]
 | [],_::_,_,_,_,_,_,h,_,_,_=>by simp[conf] at h
 | [],[],_::_,_,_,_,_,_,h,_,_=>by simp[conf] at h
 |_::_,[],_,_,_,_,_,h,_,_,_=>by simp[conf] at h
 |_::_,_::_,[],_,_,_,_,_,h,_,_=>by simp[conf] at h
 |c::sh,x::xs,y::ys,vs,us,H,H',h,k,h1,h2=>by
  simp only[conf,Bool.and_eq_true] at h k
  simp only[RepC] at h1 h2
  obtain⟨v,ws,rfl,h3,h4⟩:=h1
  obtain⟨u,zs,rfl,h5,h6⟩:=h2
  obtain⟨e1,e2⟩:=zv3 h.1 k.1 h3 h5
  obtain⟨e3,e4⟩:=zg8 h.2 k.2 h4 h6
  exact⟨by simp[e1,e3],by simp[D.beqL,e2,e4]⟩
def zcw  {sh:List Kc} {y:D} {v u:Value} {H H' :Still} (h:z2v ag sh x=true) (k:z2v ag sh y=true) (hx:RepD H x v) (hy:RepD H' y u): (x=y↔v=u)∧(D.beq x y=true↔x=y):=by
 cases ag with
 |true=>
  obtain⟨xs,rfl⟩:= (z1d h).2.1 rfl
  obtain⟨ys,rfl⟩:= (z1d k).2.1 rfl
  simp only[RepD] at hx hy
  obtain⟨vs,rfl,hx⟩:=hx
  obtain⟨us,rfl,hy⟩:=hy
  obtain⟨e1,e2⟩:=zg8 (z1d h).1 (z1d k).1 hx hy
  simp only[cellsD] at e1 e2
  refine⟨?_,by simp[D.beq,e2]⟩
  simp only[D.agg.injEq,Value.agg.injEq,e1]
  exact⟨fun e=>Array.ext' e,fun e=>by rw[e]⟩
 |false=>
  have hx' :cellsD x= [x]:=by
   cases x<;>first|rfl| (exact absurd ((z1d h).2.2 ⟨_,rfl⟩) ψ)
  have hy' :cellsD y= [y]:=by
   cases y<;>first|rfl| (exact absurd ((z1d k).2.2 ⟨_,rfl⟩) ψ)
  have h1:= (z1d h).1
  have h2:= (z1d k).1
  rw[hx'] at h1
  rw[hy'] at h2
  obtain⟨e1,e2⟩:=zg8 h1 h2 (z21.2 ⟨hx,z94⟩) (z21.2 ⟨hy,z94⟩)
  exact⟨by simpa using e1,by simpa [D.beqL] using e2⟩
def zfs {t:TypeId}  {sh:List Kc} (h:keyT P t=some (ag,sh)):tagg P t=some ag∧zg0 P z2p t=some sh∧P.keyType t=true∧P.keyTypeAt z2p t=true∧P.tiled z2p t=true∧P.cellsOf t=sh.length:=by
 unfold keyT at h
 split at h
 ·rename_i g l h1 h2
  split at h
  ·rename_i hc
   cases h
   simp only[Bool.and_eq_true,decide_eq_true_eq] at hc
   exact⟨h1,h2,hc.1.1.1,hc.1.1.2,hc.1.2,hc.2⟩
  ·cases h
 ·cases h
def z45 {t:TypeId}  {sh:List Kc} (h:keyT P t=some (ag,sh)):Keyed P t:=by
 obtain⟨h1,h2,h3,h4,h5,h6⟩:=zfs h
 unfold z2p at*
 simp only[zg0] at h2
 split at h2
 ·rename_i hu;exact int_keyed hu
 ·rename_i hu;exact bool_keyed hu
 ·rename_i hu;exact string_keyed hu
 ·rename_i hu;exact Keyed.of_law (deep_law ω h4 h5 (by rw[hu]))
 ·rename_i hu;exact Keyed.of_law (deep_law ω h4 h5 (by rw[hu]))
 ·cases h2
def z46 {t:TypeId}  {sh:List Kc} (h:keyT P t=some (ag,sh))  {v:Value} {H:Still} (hc:z2v ag sh x=true) (hx:RepD H x v):∃l,keyOf P t v=some l:=by
 obtain⟨h1,h2,h3,h4,h5,h6⟩:=zfs h
 have hC:=zkn hc hx
 cases ag with
 |true=>
  obtain⟨ds,rfl⟩:= (z1d hc).2.1 rfl
  simp only[RepD] at hx
  obtain⟨vs,rfl,hx⟩:=hx
  obtain⟨L,hL⟩:= (z9y z2p).1 t sh h2 (P.types.size+1) _ h3 hC h6
  have hsz:vs.size=P.cellsOf t:=by
   have:=hC.1
   simp only[Value.cells,Array.length_toList] at this
   omega
  unfold tagg at h1
  unfold keyOf
  split at h1<;>rename_i hu
  ·simp[hu,h3,Value.formed,hsz,hL]
  ·simp[hu,h3,Value.formed,hsz,hL]
  ·cases h1
  ·cases h1
 |false=>
  have hx' :cellsD x= [x]:=by
   cases x<;>first|rfl| (exact absurd ((z1d hc).2.2 ⟨_,rfl⟩) ψ)
  have hv:v.cells= #[v]:=by
   cases x<;>simp only[RepD] at hx
   ·subst hx;rfl
   ·subst hx;rfl
   ·obtain⟨b,rfl,_⟩:=hx;rfl
   ·obtain⟨a,c,rfl,_⟩:=hx;rfl
   ·exact absurd ((z1d hc).2.2 ⟨_,rfl⟩) ψ
  rw[hv] at hC
  unfold z2p at h2
  simp only[zg0] at h2
  unfold tagg at h1
  unfold keyOf
  split at h2<;>rename_i hu
  ·cases h2
   obtain⟨n,rfl,hw⟩:=hC.2 0 _ v (by simp;rfl) ψ
   simp[hu,mapKey,hw]
  ·cases h2
   obtain⟨n,rfl⟩:=hC.2 0 _ v (by simp;rfl) ψ
   simp[hu,mapKey]
  ·cases h2
   obtain⟨n,rfl,hw⟩:=hC.2 0 _ v (by simp;rfl) ψ
   simp[hu,mapKey,hw]
  ·simp[hu] at h1
  ·simp[hu] at h1
  ·cases h2
end Go.Lift
namespace Go.Lift
open Go Go.Maps
variable {P:Program} {st:St} {g:Gh} {w:World}
def y1z {t:TypeId} {x:V} (h:zval P t=some x):∃i zv,P.info? t=some i∧i.zero=some zv∧∀g,RepV g x zv:=by
 unfold zval at h
 split at h
 ·rename_i i hi
  split at h
  ·rename_i cs hz
   simp only[Option.map_eq_some_iff] at h
   obtain⟨l,hl,rfl⟩:=h
   exact⟨i,_,hi,hz,fun g=>zan (zkm hl)⟩
  ·rename_i z hz
   exact⟨i,_,hi,by assumption,fun g=>zuz h⟩
  ·cases h
 ·cases h
def y7j {t:TypeId} {sh:List Kc} (ht:keyT P t=some (true,sh)) (hg:P.eqGuardType P.depth t=false) {x y:Operand} {a b:D} {va vb:Value} {neg:Bool} (ha:RepV g (.d a) va) (hb:RepV g (.d b) vb) (ca:z2v true sh a=true) (cb:z2v true sh b=true):
  ((do eqGuard (if neg then .neq else .eql) t x y va vb;binOp (if neg then .neq else .eql) t va vb:Sem Value)).run P w= .ok (.bool (D.beq a b !=neg)) w:=by
 simp only[RepV] at ha hb
 obtain⟨h1,h2,h3,h4,h5,h6⟩:=zfs ht
 obtain⟨la,hla⟩:=z46 ht ca ha
 obtain⟨lb,hlb⟩:=z46 ht cb hb
 obtain⟨e1,e2⟩:=zcw ca cb ha hb
 have hw: (match P.underlying t with|some (.array _ _)|some (.struct _)=>true|_=>false)=true:=by
  unfold tagg at h1
  split at h1<;>rename_i hu<;>first| (cases h1;done)|rw[hu]
 obtain⟨r,hr,hiff⟩:=run_equal_deep w (m:=z2p) (by unfold z2p;omega) h4 hw hla hlb
 have hab:r=D.beq a b:=by
  rw[Bool.eq_iff_iff,hiff,e2,e1]
  exact⟨fun e=> (z45 ht).inj hla (e▸hlb),fun e=>by rw[e,hlb] at hla;exact (Option.some.inj hla).symm⟩
 obtain⟨xs,rfl⟩:= (z1d ca).2.1 rfl
 obtain⟨ys,rfl⟩:= (z1d cb).2.1 rfl
 simp only[RepD] at ha hb
 obtain⟨vs,rfl,_⟩:=ha
 obtain⟨us,rfl,_⟩:=hb
 cases neg<;>simp[eqGuard,binOp,hg,hr,hab]
theorem RepM.get {kt:TypeId} :∀{l:List (D×V)} {es:List MapEntry},RepM P kt g l es→∀{j:Nat} {e:MapEntry},es[j]?=some e→∃p,l[j]?=some p∧(∃ag sh,keyT P kt=some (ag,sh)∧z2v ag sh p.1=true)∧RepD g.H p.1 e.key∧RepV g p.2 e.val
 | [],es,h,j,e,he=>by simp only[RepM] at h;subst h;simp at he
 | (k,x)::l,es,h,j,e,he=>by
  simp only[RepM] at h
  obtain⟨e',r,rfl,h1,h⟩:=h
  cases j with
  |zero=>simp at he;subst he;exact⟨(k,x),by simp,h1⟩
  |succ j=>simpa using RepM.get h (by simpa using he)
theorem RepM.append {kt:TypeId} {k:D} {x:V} {e:MapEntry} (h1: (∃ag sh,keyT P kt=some (ag,sh)∧z2v ag sh k=true)∧RepD g.H k e.key∧RepV g x e.val):
  ∀{l:List (D×V)} {es:List MapEntry},RepM P kt g l es→RepM P kt g (l++ [(k,x)]) (es++ [e])
 | [],es,h=>by
  simp only[RepM] at h
  subst h
  simp only[List.nil_append,RepM]
  exact⟨e,[],rfl,h1,rfl⟩
 | (k',x')::l,es,h=>by
  simp only[RepM] at h
  obtain⟨e',r,rfl,h2,h⟩:=h
  simp only[List.cons_append,RepM]
  exact⟨e',_,rfl,h2,RepM.append h1 h⟩
theorem RepM.set' {kt:TypeId} {k:D} {x:V} {e:MapEntry} (h1: (∃ag sh,keyT P kt=some (ag,sh)∧z2v ag sh k=true)∧RepD g.H k e.key∧RepV g x e.val):
  ∀{l:List (D×V)} {es:List MapEntry} (j:Nat),RepM P kt g l es→RepM P kt g (l.set j (k,x)) (es.set j e)
 | [],es,j,h=>by
  simp only[RepM] at h
  subst h
  simp[RepM]
 | (k',x')::l,es,j,h=>by
  simp only[RepM] at h
  obtain⟨e',r,rfl,h2,h⟩:=h
  cases j with
  |zero=>simp only[List.set_cons_zero,RepM];exact⟨e,r,rfl,h1,h⟩
  |succ j=>simp only[List.set_cons_succ,RepM];exact⟨e',_,rfl,h2,RepM.set' h1 j h⟩
theorem RepM.mem {kt:TypeId} :∀{l:List (D×V)} {es:List MapEntry},RepM P kt g l es→∀{p},p∈l→∃e∈es,(∃ag sh,keyT P kt=some (ag,sh)∧z2v ag sh p.1=true)∧RepD g.H p.1 e.key
 | [],es,h,p,hp=>by simp at hp
 | (k,x)::l,es,h,p,hp=>by
  simp only[RepM] at h
  obtain⟨e',r,rfl,h1,h⟩:=h
  rcases List.mem_cons.1 hp with rfl|hp
  ·exact⟨e',by simp,h1.1,h1.2.1⟩
  ·obtain⟨e,he,h2⟩:=RepM.mem h hp
   exact⟨e,by simp[he],h2⟩
theorem zbz:∀{l:List (D×V)} {k:D},(∀p∈l,D.beq p.1 k=false)→z22 l k=none
 | [],_,_=>rfl
 | (a,v)::l,k,h=>by
  simp only[z22,h (a,v) ψ,Bool.false_eq_true,if_false]
  exact zbz fun p hp=>h p (by simp[hp])
theorem zbx:∀{l:List (D×V)} {k:D} {x:V},(∀p∈l,D.beq p.1 k=false)→z2c l k x=l++ [(k,x)]
 | [],_,_,_=>rfl
 | (a,v)::l,k,x,h=>by
  simp only[z2c,h (a,v) ψ,Bool.false_eq_true,if_false,List.cons_append,List.cons.injEq,true_and]
  exact zbx fun p hp=>h p (by simp[hp])
def zby:∀{l:List (D×V)} {k:D} {j:Nat} {x:V},(∀p∈l,D.beq p.1 k=true↔p.1=k)→(l.map Prod.fst).Nodup→l[j]?=some (k,x)→z22 l k=some x
 | [],_,_,_,_,_,h=>by simp at h
 | (a,v)::l,k,j,x,hb,hn,h=>by
  simp only[List.map_cons,List.nodup_cons] at hn
  cases j with
  |zero=>
   simp at h
   obtain⟨rfl,rfl⟩:=h
   simp only[z22,(hb (a,v) ψ).2 rfl,if_true]
  |succ j=>
   have hm: (k,x)∈l:=List.mem_of_getElem? (by simpa using h)
   have:D.beq a k=false:=by
    cases e:D.beq a k with
    |false=>rfl
    |true=>
     have:= (hb (a,v) ψ).1 e
     subst this
     exact absurd (List.mem_map.2 ⟨_,hm,rfl⟩) hn.1
   simp only[z22,this,Bool.false_eq_true,if_false]
   exact zby (fun p hp=>hb p (by simp[hp])) hn.2 (by simpa using h)
def zbw:∀{l:List (D×V)} {k:D} {j:Nat} {x y:V},(∀p∈l,D.beq p.1 k=true↔p.1=k)→(l.map Prod.fst).Nodup→l[j]?=some (k,x)→z2c l k y=l.set j (k,y)
 | [],_,_,_,_,_,_,h=>by simp at h
 | (a,v)::l,k,j,x,y,hb,hn,h=>by
  simp only[List.map_cons,List.nodup_cons] at hn
  cases j with
  |zero=>
   simp at h
   obtain⟨rfl,rfl⟩:=h
   simp only[z2c,(hb (a,v) ψ).2 rfl,if_true,List.set_cons_zero]
  |succ j=>
   have hm: (k,x)∈l:=List.mem_of_getElem? (by simpa using h)
   have:D.beq a k=false:=by
    cases e:D.beq a k with
    |false=>rfl
    |true=>
     have:= (hb (a,v) ψ).1 e
     subst this
     exact absurd (List.mem_map.2 ⟨_,hm,rfl⟩) hn.1
   simp only[z2c,this,Bool.false_eq_true,if_false,List.set_cons_succ]
   rw[zbw (fun p hp=>hb p (by simp[hp])) hn.2 (by simpa using h)]
def zue {kt:TypeId} {ag:Bool} {sh:List Kc} (hk:keyT P kt=some (ag,sh)) {l:List (D×V)} {es:List MapEntry} (hr:RepM P kt g l es) (hn: (l.map Prod.fst).Nodup) {kd:D} {v:Value} (hc:z2v ag sh kd=true) (hv:RepD g.H kd v):
  ((Instr.findKey kt v es).run P w= .ok none w∧z22 l kd=none∧(∀x,z2c l kd x=l++ [(kd,x)])∧kd∉l.map Prod.fst)∨
  ∃j e x,(Instr.findKey kt v es).run P w= .ok (some (j,e.val)) w∧es[j]?=some e∧e.key=v∧l[j]?=some (kd,x)∧RepV g x e.val∧z22 l kd=some x∧∀y,z2c l kd y=l.set j (kd,y):=by
 have K:=z45 hk
 obtain⟨lit,hlit⟩:=z46 hk hc hv
 have hall:∀e∈es,∃l,keyOf P kt e.key=some l:=fun e he=>by
  obtain⟨j,hj⟩:=List.getElem?_of_mem he
  obtain⟨p,_,⟨ag',sh',h1,h2⟩,h3,_⟩:=hr.get hj
  exact z46 h1 h2 h3
 have hbeq:∀p∈l,∃e∈es,(D.beq p.1 kd=true↔p.1=kd)∧(p.1=kd↔e.key=v):=fun p hp=>by
  obtain⟨e,he,⟨ag',sh',h1,h2⟩,h3⟩:=hr.mem hp
  rw[hk] at h1
  cases h1
  obtain⟨e1,e2⟩:=zcw h2 hc h3 hv
  exact⟨e,he,e2,e1⟩
 rcases K.find w hlit es hall with⟨h1,h2⟩|⟨j,e,h1,h2,h3⟩
 ·have hno:∀p∈l,D.beq p.1 kd=false:=fun p hp=>by
   obtain⟨e,he,h3,h4⟩:=hbeq p hp
   cases hb:D.beq p.1 kd with
   |false=>rfl
   |true=>exact absurd (h4.1 (h3.1 hb)) (h2 e he)
  refine .inl ⟨h1,zbz hno,fun x=>zbx hno,fun hm=> ?_⟩
  obtain⟨p,hp,rfl⟩:=List.mem_map.1 hm
  obtain⟨e,he,h3,h4⟩:=hbeq p hp
  exact h2 e he (h4.1 rfl)
 ·obtain⟨⟨k',x⟩,hp,⟨ag',sh',h4,h5⟩,h6,h7⟩:=hr.get h2
  rw[hk] at h4
  cases h4
  have hkk:k' =kd:= (zcw h5 hc h6 hv).1.2 h3
  subst hkk
  have hb:∀p∈l,D.beq p.1 k' =true↔p.1=k' :=fun p hp=>by
   obtain⟨_,_,h,_⟩:=hbeq p hp
   exact h
  exact .inr ⟨j,e,x,h1,h2,h3,hp,h7,zby hb hn hp,fun y=>zbw hb hn hp⟩
def zds {b:Nat} {en:Array MapEntry} {cl:Nat} (h:w.heap[b]?=some (.map en cl)): (getObj b).run P w= .ok (.map en cl) w:=by simp[getObj,Sem.run,h]
def zsy (hi:Inv P z0i st g w) {t kt e:TypeId} {ag:Bool} {sh:List Kc} {ok:Bool} {zero m k y:V} {vm vk:Value} (ht:P.underlying t=some (.map kt e)) (hk:keyT P kt=some (ag,sh)) (hz:zval P e=some zero)
  (h:z27 st kt ag sh ok zero m k=some y) (hm:RepV g m vm) (hkv:RepV g k vk):∃u,(Instr.lookup t vm vk ok).run P w= .ok u w∧RepV g y u:=by
 obtain⟨i,zv,hie,hzv,hzr⟩:=y1z hz
 have hzero: (zeroValue e).run P w= .ok zv w:=zai hie hzv
 have two:∀(x:V) (u:Value) (b:Bool),RepV g x u→RepV g (.tup [x,.d (.bool b)]) (.tuple #[u,.bool b]):=fun x u b hx=>by
  simp only[RepV]
  exact⟨_,rfl,z0w.2 ⟨hx,z0w.2 ⟨by simp[RepV,RepD],z1h⟩⟩⟩
 unfold z27 at h
 split at h
 ·rename_i kd
  simp only[RepV] at hkv
  split at h
  ·rename_i hc
   obtain⟨lit,hlit⟩:=z46 hk hc hkv
   have hcheck:=fun em=> (z45 hk).check w em hlit
   split at h
   ·cases h
    simp only[RepV] at hm
    subst hm
    have hf: (Instr.findKey kt vk []).run P w= .ok none w:=by
     rcases (z45 hk).find w hlit [] ψ with h1|⟨j,e,_,h2,_⟩
     ·exact h1.1
     ·simp at h2
    cases ok
    ·exact⟨zv,by simp[Instr.lookup,z0a ht,hcheck,hf,hzero],hzr g⟩
    ·exact⟨_,by simp[Instr.lookup,z0a ht,hcheck,hf,hzero],two _ _ _ (hzr g)⟩
   ·rename_i j
    simp only[RepV] at hm
    obtain⟨b,hb,rfl⟩:=hm
    split at h
    ·rename_i kt' es ho
     split at h
     ·rename_i hkt
      subst hkt
      obtain⟨b',hb',hnd,en,cl,hh,hr⟩:=hi.obj j _ ho
      obtain rfl:b=b' :=Option.some.inj (hb.symm.trans hb')
      have hg:=zds (P:=P) hh
      rcases zue (w:=w) hk hr hnd hc hkv with⟨h1,h2,_⟩|⟨j',e',x,h1,_,_,_,h5,h6,_⟩
      ·rw[h2] at h
       cases h
       cases ok
       ·exact⟨zv,by simp[Instr.lookup,z0a ht,hg,hcheck,h1,hzero],hzr g⟩
       ·exact⟨_,by simp[Instr.lookup,z0a ht,hg,hcheck,h1,hzero],two _ _ _ (hzr g)⟩
      ·rw[h6] at h
       cases h
       cases ok
       ·exact⟨e'.val,by simp[Instr.lookup,z0a ht,hg,hcheck,h1],h5⟩
       ·exact⟨_,by simp[Instr.lookup,z0a ht,hg,hcheck,h1],two _ _ _ h5⟩
     ·cases h
    ·cases h
   ·cases h
  ·cases h
 ·cases h
end Go.Lift
namespace Go.Lift
open Go Go.Maps
variable {P:Program} {st:St} {g:Gh} {w:World}
def zdr {b:Nat} {en:Array MapEntry} {cl:Nat} (h:w.heap[b]?=some (.map en cl)) (o:Go.Obj): (setObj b o).run P w= .ok () (World.put w b o):=by simp[setObj,Sem.run,h,World.put]
def Inv.writeMap (hi:Inv P z0i st g w) {j b kt:Nat} {es es' :List (D×V)} (ho:sget st.s j=some (.map kt es)) (hb:g.blk j=some b) {en:Array MapEntry} {cl:Nat} (hh:w.heap[b]?=some (.map en cl))
  (hn: (es'.map Prod.fst).Nodup) {en' :Array MapEntry} {cl' :Nat} (hr:RepM P kt g es' en'.toList):
  Inv P z0i (st.set j (.map kt es')) g (World.put w b (.map en' cl'))∧Step st g w (st.set j (.map kt es')) g (World.put w b (.map en' cl')):=by
 have hlt:= (hi.u j b hb).2
 refine hi.write ho hb z5v rfl rfl rfl (fun c hc=>z1j hc) (fun i v hv=> ?_) ⟨hn,en',cl',z3z hlt,hr⟩
 have:=hi.H b i v hv
 unfold World.cell? at this
 simp only[hh] at this
 cases this
def zfk {es:Array MapEntry} {i:Nat} {f:MapEntry→MapEntry} {e:MapEntry} (h:es.toList[i]?=some e): (es.modify i f).toList=es.toList.set i (f e):=by
 apply List.ext_getElem?
 intro j
 have h' :es[i]?=some e:=by simpa using h
 rw[Array.getElem?_toList,Array.getElem?_modify,List.getElem?_set]
 by_cases hj:i=j
 ·subst hj
  obtain⟨h1,h2⟩:=Array.getElem?_eq_some_iff.1 h'
  simp[h1,h2]
 ·simp[hj]
def zhs (hi:Inv P z0i st g w) {t kt e:TypeId} {ag:Bool} {sh:List Kc} {m k x:V} {vm vk vx:Value} {st' :St} (ht:P.underlying t=some (.map kt e)) (hk:keyT P kt=some (ag,sh))
  (h:z5w st kt ag sh m k x=some st') (hm:RepV g m vm) (hkv:RepV g k vk) (hx:RepV g x vx):∃w',(Instr.mapUpdate t vm vk vx).run P w= .ok () w' ∧Inv P z0i st' g w' ∧Step st g w st' g w' :=by
 unfold z5w at h
 split at h
 ·rename_i kd
  simp only[RepV] at hkv
  split at h
  ·rename_i hc
   obtain⟨lit,hlit⟩:=z46 hk hc hkv
   have hcheck:=fun em=> (z45 hk).check w em hlit
   have hstay:= (z45 hk).stays w hlit
   split at h
   ·rename_i j
    simp only[RepV] at hm
    obtain⟨b,hb,rfl⟩:=hm
    split at h
    ·rename_i kt' es ho
     split at h
     ·rename_i hkt
      subst hkt
      cases h
      obtain⟨b',hb',hnd,en,cl,hh,hr⟩:=hi.obj j _ ho
      obtain rfl:b=b' :=Option.some.inj (hb.symm.trans hb')
      have hg:=zds (P:=P) hh
      rcases zue (w:=w) hk hr hnd hc hkv with⟨h1,_,h2,h3⟩|⟨j',e',x',h1,h2,h3,h4,_,_,h5⟩
      ·rw[h2]
       obtain⟨h6,h7⟩:=Inv.writeMap hi ho hb hh (es' :=es++ [(kd,x)]) (en' :=en.push {key:=vk,val:=vx,born:=cl}) (cl' :=cl+1)
        (by rw[List.map_append,List.nodup_append];exact⟨hnd,by simp,fun a ha b hb e=>by simp at hb;subst hb;subst e;exact h3 ha⟩)
        (by rw[Array.toList_push];exact RepM.append ⟨⟨ag,sh,hk,hc⟩,hkv,hx⟩ hr)
       refine⟨_,?_,h6,h7⟩
       simp only[Instr.mapUpdate,z0a ht,Sem.run_bind,Result.andThen_ok,hg,hcheck,h1]
       exact zdr hh _
      ·rw[h5]
       have hkeys: (es.set j' (kd,x)).map Prod.fst=es.map Prod.fst:=by
        rw[List.map_set]
        apply List.ext_getElem?
        intro i
        rw[List.getElem?_set]
        by_cases e:j' =i
        ·subst e
         obtain⟨hlt,hget⟩:=List.getElem?_eq_some_iff.1 h4
         simp[hlt,hget]
        ·simp[e]
       obtain⟨h6,h7⟩:=Inv.writeMap hi ho hb hh (es' :=es.set j' (kd,x)) (en' :=en.modify j' fun e=> {e with key:=vk,val:=vx}) (cl' :=cl)
        (by rw[hkeys];exact hnd)
        (by rw[zfk h2];exact RepM.set' ⟨⟨ag,sh,hk,hc⟩,hkv,hx⟩ j' hr)
       refine⟨_,?_,h6,h7⟩
       have h2' :en[j']?=some e' :=by simpa using h2
       simp only[Instr.mapUpdate,z0a ht,Sem.run_bind,Result.andThen_ok,hg,hcheck,h1,h2',Option.map_some,Option.getD_some,h3,hstay]
       exact zdr hh _
     ·cases h
    ·cases h
   ·cases h
  ·cases h
 ·cases h
def zxm (hi:Inv P z0i st g w) {ty:TypeId} {x y:V} {v:Value} {st' :St} {base:Nat} {env:Lv} {X:Opd} (hev:evO env X=x) (h:evalOp base env st (.nextS X)=some (y,st')) (hx:RepV g x v):
  ∃u w',(Instr.next v true ty).run P w= .ok u w' ∧RepV g y u∧Inv P z0i st' g w' ∧Step st g w st' g w' :=by
 simp only[evalOp,hev] at h
 split at h
 ·rename_i k
  simp only[RepV] at hx
  obtain⟨b,hb,rfl⟩:=hx
  split at h
  ·rename_i s pos ho
   obtain⟨b',hb',hsh,bs,hh,hs⟩:=hi.obj k _ ho
   rw[hsh,Nat.zero_add]
   obtain rfl:b=b' :=Option.some.inj (hb.symm.trans hb')
   have hg: (getObj b).run P w= .ok (.stringIter bs pos) w:=by simp[getObj,Sem.run,hh]
   have hsz:bs.size=s.length:=by rw[←hs,List.length_map,Array.length_toList];rfl
   split at h
   ·rename_i hnone
    cases h
    have hge:¬pos<bs.size:=by rw[hsz];exact Nat.not_lt.2 (List.getElem?_eq_none_iff.1 hnone)
    refine⟨_,w,by simp[Instr.next,hg,hge];rfl,?_,hi,Step.refl st g w⟩
    simp only[RepV]
    exact⟨_,rfl,z0w.2 ⟨by simp[RepV,RepD],z1h⟩⟩
   ·rename_i c hc
    split at h
    ·rename_i hlt
     cases h
     have hpos:pos<bs.size:=by rw[hsz];exact (List.getElem?_eq_some_iff.1 hc).1
     have hdec:Utf8.decode bs pos= (c,1):=by
      have hbyte: (bs.get! (pos+0)).toNat=c:=by
       rw[←hs,List.getElem?_map,Option.map_eq_some_iff] at hc
       obtain⟨c',hc',rfl⟩:=hc
       have:bs.data[pos]?=some c' :=by simpa using hc'
       rw[Nat.add_zero]
       show (bs.data[pos]!).toNat=c'.toNat
       rw[getElem!_def,this]
      unfold Utf8.decode
      simp only[hbyte]
      rw[if_pos ω]
     have hset: (setObj b (.stringIter bs (pos+1))).run P w= .ok () (World.put w b (.stringIter bs (pos+1))):=by simp[setObj,Sem.run,hh,World.put]
     have hlt:= (hi.u k b hb).2
     obtain⟨h6,h7⟩:=hi.write (o' := .iter s (pos+1)) ho hb (w' :=World.put w b (.stringIter bs (pos+1))) z5v rfl rfl rfl (fun c hc=>z1j hc) (fun i v hv=>by
      have:=hi.H b i v hv
      unfold World.cell? at this
      simp only[hh] at this
      cases this) ⟨hsh,bs,z3z hlt,hs⟩
     refine⟨.tuple #[.bool true,goInt pos,.int .i32 c],_,?_,?_,h6,h7⟩
     ·simp[Instr.next,hg,hpos,hdec,hset]
     ·simp only[RepV]
      exact⟨_,rfl,z0w.2 ⟨by simp[RepV,RepD],z0w.2 ⟨by simp[RepV,RepD,goInt],z0w.2 ⟨by simp[RepV,RepD],z1h⟩⟩⟩⟩
    ·cases h
  ·cases h
 ·cases h
end Go.Lift
namespace Go.Lift
open Go
variable {P:Program} {st:St} {g:Gh} {w:World}
theorem zb6:∀{ys:List V} {ds:List D} {vs:List Value},toDs ys=some ds→RepVs g ys vs→RepC g.H ds vs
 | [],ds,vs,h,hr=>by
  simp[toDs] at h
  subst h
  simpa [RepVs,RepC] using hr
 |y::ys,ds,vs,h,hr=>by
  simp only[RepVs] at hr
  obtain⟨v,ws,rfl,h1,hr⟩:=hr
  cases y<;>simp only[toDs,reduceCtorEq] at h<;>simp only[Option.map_eq_some_iff] at h<;>obtain⟨l,hl,rfl⟩:=h
  ·exact z21.2 ⟨by simpa only[RepV] using h1,zb6 hl hr⟩
  ·refine z21.2 ⟨?_,zb6 hl hr⟩
   simp only[RepV] at h1
   subst h1
   simp only[RepD]
   exact⟨none,0,rfl,by simp,by simp⟩
  ·refine z21.2 ⟨?_,zb6 hl hr⟩
   simp only[RepV] at h1
   obtain⟨a,c,rfl⟩:=h1
   simp only[RepD]
   exact⟨some a,c,rfl,by simp,by simp⟩
def RepP.take {H:Still} {b:Nat} :∀{l:List D} {o:Nat} (n:Nat),RepP H b l o→RepP H b (l.take n) o
 |l,o,0,_=>by simp[RepP]
 | [],_,n+1,_=>by simp[RepP]
 |x::l,o,n+1,h=>by
  simp only[RepP,List.take_succ_cons] at h⊢
  exact⟨h.1,RepP.take n h.2⟩
def zd0 {H:Still} {b es:Nat} {ag:Bool} (hes:0<es):∀{n:Nat} {ds l:List D} {off:Nat},z4z es ag n ds=some l→ds.all D.isCell=true→RepP H b ds off→RepL H b es l off∧l.length=n
 |0,[],l,off,h,_,_=>by simp[z4z] at h;subst h;simp[RepL]
 |0,_::_,l,off,h,_,_=>by simp[z4z] at h
 |n+1,ds,l,off,h,hc,hp=>by
  simp only[z4z] at h
  split at h
  ·cases h
  ·rename_i hlen
   split at h
   ·cases h
   ·rename_i x hx
    simp only[Option.map_eq_some_iff] at h
    obtain⟨l',hl',rfl⟩:=h
    have hcd: (ds.drop es).all D.isCell=true:=by
     rw[List.all_eq_true] at hc⊢
     exact fun x hx=>hc x (List.mem_of_mem_drop hx)
    obtain⟨h1,h2⟩:=zd0 hes hl' hcd (hp.drop es)
    obtain⟨vs,h3,h4⟩:=RepP.cells (hp.take es)
    have hvl:vs.length=es:=by rw[h3.length];simp;omega
    refine⟨?_,by simp[h2]⟩
    simp only[RepL]
    refine⟨?_,h1⟩
    cases ag with
    |true=>
     simp only[if_true,Option.some.injEq] at hx
     subst hx
     refine⟨.agg vs.toArray,by simp only[RepD];exact⟨_,rfl,by simpa using h3⟩,by simp[Value.cells,hvl],fun j hj=> ?_⟩
     have hj' :j<vs.length:=ω
     exact⟨vs[j],by simp[Value.cells,hj'],h4 j _ (by simp[hj'])⟩
    |false=>
     simp only[Bool.false_eq_true,if_false] at hx
     split at hx
     ·rename_i y hy
      cases hx
      rw[hy] at h3
      simp only[RepC] at h3
      obtain⟨v,ws,rfl,h5,rfl⟩:=h3
      have h1:es=1:=by simpa using hvl.symm
      subst h1
      have hcell:x.isCell=true:=by
       rw[List.all_eq_true] at hc
       exact hc x (List.mem_of_mem_take (hy▸List.mem_singleton.2 rfl))
      have hone:v.cells= #[v]:=by
       cases x<;>simp only[RepD] at h5
       ·subst h5;rfl
       ·subst h5;rfl
       ·obtain⟨b,rfl,_⟩:=h5;rfl
       ·obtain⟨a,c,rfl,_⟩:=h5;rfl
       ·simp[D.isCell] at hcell
      refine⟨v,h5,by simp[hone],fun j hj=>⟨v,?_,h4 j v ?_⟩⟩
      ·rw[hone];obtain rfl:j=0:=ω
       rfl
      ·obtain rfl:j=0:=ω
       rfl
     ·cases hx
structure Given (P:Program) (st:St) (g:Gh) (w:World) (st' :St) (g' :Gh):Prop where
 inv:Inv P z0i st' g' w
 step:Step st g w st' g' w
 blk:g'.blk=g.blk
 next:st'.next=st.next
theorem Given.refl (h:Inv P z0i st g w):Given P st g w st g:=⟨h,Step.refl st g w,rfl,rfl⟩
def Given.trans {st' st'' :St} {g' g'' :Gh} (h:Given P st g w st' g') (k:Given P st' g' w st'' g''):Given P st g w st'' g'' :=
 ⟨k.inv,h.step.trans k.step,k.blk.trans h.blk,k.next.trans h.next⟩
theorem zfy {f:St→V→Option (V×St)} (hf:∀{st:St} {g:Gh} {v y:V} {u:Value} {st' :St},Inv P z0i st g w→f st v=some (y,st')→RepV g v u→∃g',Given P st g w st' g' ∧RepV g' y u):
  ∀{l:List V} {st:St} {g:Gh} {ys:List V} {us:List Value} {st' :St},Inv P z0i st g w→frzL f st l=some (ys,st')→RepVs g l us→∃g',Given P st g w st' g' ∧RepVs g' ys us
 | [],st,g,ys,us,st',hi,h,hr=>by
  simp only[frzL,Option.some.injEq,Prod.mk.injEq] at h
  obtain⟨rfl,rfl⟩:=h
  exact⟨g,.refl hi,hr⟩
 |x::l,st,g,ys,us,st',hi,h,hr=>by
  simp only[RepVs] at hr
  obtain⟨u,ws,rfl,h1,hr⟩:=hr
  simp only[frzL] at h
  split at h
  ·cases h
  ·rename_i y st1 hx
   split at h
   ·cases h
   ·rename_i ys' st2 hl
    cases h
    obtain⟨g1,h2,h3⟩:=hf hi hx h1
    obtain⟨g2,h4,h5⟩:=zfy hf h2.inv hl (RepVs.mono h2.step.ext hr)
    exact⟨g2,h2.trans h4,z0w.2 ⟨h3.mono h4.step.ext,h5⟩⟩
def zdp {es off len b o cap sh:Nat} {ag:Bool} {ds l:Ld} {H:Still} (hes:0<es) (hle:off+len*es≤ds.length) (hsz:ds.length≤off+cap*es) (ho:o=sh+off∨(len=0∧cap=0)) (hc:ds.all D.isCell=true)
  (hp:RepP H b ds sh) (h:z4z es ag len ((ds.drop off).take (len*es))=some l):RepD H (.sl l) (.slice (some ⟨b,o,none⟩) len cap):=by
 obtain⟨h1,h2⟩:=zd0 (H:=H) (b:=b) (off:=sh+off) hes h (by
  rw[List.all_eq_true] at hc⊢
  exact fun x hx=>hc x (List.mem_of_mem_drop (List.mem_of_mem_take hx))) ((hp.drop off).take (len*es))
 have hlc:len≤cap:=Nat.le_of_mul_le_mul_right (c:=es) ω hes
 simp only[RepD]
 refine⟨_,cap,by rw[h2],⟨ω,fun e=>by cases e⟩,?_⟩
 rcases ho with rfl|⟨rfl,_⟩
 ·exact .inr ⟨b,_,es,rfl,hes,h1⟩
 ·exact .inl (List.eq_nil_of_length_eq_zero h2)
theorem zmp:∀(n:Nat) {st:St} {g:Gh} {v y:V} {u:Value} {st' :St},Inv P z0i st g w→frz n st v=some (y,st')→RepV g v u→∃g',Given P st g w st' g' ∧RepV g' y u
 |0,_,_,_,_,_,_,_,h,_=>by simp[frz] at h
 |n+1,st,g,v,y,u,st',hi,h,hr=>by
  cases v<;>simp only[frz] at h
  case arr k es ag off len=>
   simp only[RepV] at hr
   obtain⟨b,hb,o,cap,rfl,hsz,htot,ho⟩:=hr
   split at h
   ·rename_i cs hcs
    split at h
    ·rename_i hc
     split at h
     ·cases h
     ·rename_i ys st1 hys
      split at h
      ·cases h
      ·rename_i ds hds
       split at h
       ·rename_i hall
        split at h
        ·rename_i l cs' hl hcs'
         cases h
         obtain⟨b',hb',hsz',hHn,arr,ty,hheap,hle1,hle2,hrc⟩:=hi.obj k _ hcs
         obtain rfl:b=b' :=Option.some.inj (hb.symm.trans hb')
         obtain⟨g1,h1,h2⟩:=zfy (fun hi h hr=>zmp n hi h hr) hi hys hrc
         obtain⟨b'',hb'',hsz'',hHn',_⟩:=h1.inv.obj k _ hcs'
         rw[h1.blk,hb] at hb''
         cases hb''
         have hdl:= (zb6 hds h2).length
         have hshk:=h1.step.ext.sh k b hb
         have hext:Ext g1 (g1.still b (g1.sh k) ((arr.toList.drop (g.sh k)).take cs.length)):=Ext.still hHn'
         have hszk:= (h1.step.ext.blk k b hb).2.1
         have hlt:cs.length≤arr.toList.length:=by simp;omega
         obtain⟨h3,h4⟩:=h1.inv.freeze (ds:=ds) hcs' (by rw[h1.blk];exact hb) (vs:= (arr.toList.drop (g.sh k)).take cs.length)
          (fun j v hv=>by rw[z6p hheap,hshk];have:= (z3k hv).1;rw[List.getElem?_drop] at this;simpa using this) (by simp at hdl;omega) (RepC.mono hext.H (zb6 hds h2))
         refine⟨_,h1.trans ⟨h3,h4,rfl,rfl⟩,?_⟩
         obtain⟨b3,hb3,_,_,hp⟩:=h3.obj k (.fz ds) (by simp only[St.set];exact z05 hcs')
         rw[show (g1.still b (g1.sh k) ((arr.toList.drop (g.sh k)).take cs.length)).blk=g1.blk from rfl,h1.blk,hb] at hb3
         cases hb3
         simp only[RepV]
         refine zdp (ag:=ag) hc.1 (by simp at hdl;omega) (by simp at hdl;omega) (by rw[show (g1.still b (g1.sh k) ((arr.toList.drop (g.sh k)).take cs.length)).sh k=g1.sh k from rfl,hshk];exact ho) hall hp hl
        ·cases h
       ·cases h
    ·cases h
   ·rename_i ds hcs
    split at h
    ·rename_i hc
     split at h
     ·cases h
     ·rename_i l hl
      cases h
      obtain⟨b',hb',hsz',htot',hp⟩:=hi.obj k _ hcs
      obtain rfl:b=b' :=Option.some.inj (hb.symm.trans hb')
      refine⟨g,.refl hi,?_⟩
      simp only[RepV]
      refine zdp (ag:=ag) hc.1 hc.2.1 ω ho hc.2.2 hp hl
    ·cases h
   ·cases h
  case agg l=>
   simp only[RepV] at hr
   obtain⟨vs,rfl,hr⟩:=hr
   split at h
   ·cases h
   ·rename_i ys st1 hys
    cases h
    obtain⟨g1,h1,h2⟩:=zfy (fun hi h hr=>zmp n hi h hr) hi hys hr
    exact⟨g1,h1,zan h2⟩
  all_goals
   cases h
   exact⟨g,.refl hi,hr⟩
end Go.Lift
namespace Go.Lift
open Go
variable {P:Program} {st:St} {g:Gh} {w:World}
open Classical in
noncomputable def z3q (st:St) (g:Gh) (w:World) (b0:Nat):Still:=fun b o=>
 if ∃k cs,b0≤k∧sget st.s k=some (.cells cs)∧g.blk k=some b then w.cell? ⟨b,o,none⟩ else g.H b o
def z8h (hi:Inv P z0i st g w) (b0:Nat):g.H.le (z3q st g w b0):=by
 intro b o v h
 unfold z3q
 split
 ·exact hi.H b o v h
 ·exact h
def z9e (hi:Inv P z0i st g w) {b0 b o:Nat} {v:Value} (h:z3q st g w b0 b o=some v):w.cell? ⟨b,o,none⟩=some v:=by
 unfold z3q at h
 split at h
 ·exact h
 ·exact hi.H b o v h
def zp6 (hi:Inv P z0i st g w) {b0 k:Nat} {cs:Lv} (hk:b0≤k) (h:scells st.s k=some cs):
  ∃b vs,g.blk k=some b∧g.sz k=cs.length∧RepVs g cs vs∧∀(j:Nat) u,vs[j]?=some u→z3q st g w b0 b (g.sh k+j)=some u:=by
 obtain⟨b,vs,h1,h2,h3,h4,h5⟩:=z5u hi h
 unfold scells at h
 split at h
 ·rename_i cs' ho
  refine⟨b,vs,h1,h2,h4,fun j u hu=> ?_⟩
  unfold z3q
  rw[if_pos ⟨k,cs',hk,ho,h1⟩]
  exact h5 j u hu
 ·rename_i ds ho
  cases h
  obtain⟨b',hb',hsz,htot,hp⟩:=hi.obj k _ ho
  obtain⟨vs',h6,h7⟩:=RepP.cells hp
  rw[h1] at hb'
  cases hb'
  refine⟨b,vs',h1,h2,z11.2 h6,fun j u hu=>z8h hi b0 _ _ _ ?_⟩
  exact h7 j u hu
 ·cases h
theorem zf1 {f:V→Option D} {H:Still} :∀{l:List V} {ds:List D} {us:List Value},(∀x∈l,∀y u,f x=some y→RepV g x u→RepD H y u)→l.mapM f=some ds→RepVs g l us→RepC H ds us
 | [],ds,us,_,h,hr=>by
  simp at h
  subst h
  simpa [RepVs,RepC] using hr
 |x::l,ds,us,hf,h,hr=>by
  simp only[RepVs] at hr
  obtain⟨u,ws,rfl,h1,hr⟩:=hr
  simp only[List.mapM_cons,Option.bind_eq_bind,Option.pure_def] at h
  cases hx:f x with
  |none=>simp[hx] at h
  |some y=>
   cases hl:l.mapM f with
   |none=>simp[hx,hl] at h
   |some ys=>
    simp[hx,hl] at h
    subst h
    exact z21.2 ⟨hf x ψ y u hx h1,zf1 (fun z hz=>hf z (by simp[hz])) hl hr⟩
theorem zey (hi:Inv P z0i st g w) (b0:Nat):∀(n:Nat) {v:V} {x:D} {u:Value},snap st.s b0 n v=some x→RepV g v u→RepD (z3q st g w b0) x u
 |0,_,_,_,h,_=>by simp[snap] at h
 |n+1,v,x,u,h,hr=>by
  cases v<;>simp only[snap] at h<;>try (cases h;done)
  case d y=>
   cases h
   simp only[RepV] at hr
   exact hr.mono (z8h hi b0)
  case nilS=>
   cases h
   simp only[RepV] at hr
   subst hr
   simp only[RepD]
   exact⟨none,0,rfl,by simp,by simp⟩
  case emp=>
   cases h
   simp only[RepV] at hr
   obtain⟨a,c,rfl⟩:=hr
   simp only[RepD]
   exact⟨some a,c,rfl,by simp,by simp⟩
  case arr k es ag off len=>
   split at h
   ·cases h
   ·rename_i hk
    split at h
    ·rename_i cs hcs
     split at h
     ·rename_i hc
      split at h
      ·rename_i ds hds
       split at h
       ·rename_i hall
        simp only[Option.map_eq_some_iff] at h
        obtain⟨l,hl,rfl⟩:=h
        simp only[RepV] at hr
        obtain⟨b,hb,o,cap,rfl,hsz,htot,ho⟩:=hr
        obtain⟨b',vs,hb',hsz',hrv,hlive⟩:=zp6 hi (by omega:b0≤k) hcs
        obtain rfl:b=b' :=Option.some.inj (hb.symm.trans hb')
        have hC:RepC (z3q st g w b0) ds ((vs.drop off).take (len*es)):=zf1 (fun y _ z u hz hu=>zey hi b0 n hz hu) hds (RepVs.take _ (RepVs.drop _ hrv))
        have hP:RepP (z3q st g w b0) b ds (g.sh k+off):=RepP.of_get hC fun j u hu=>by
         have:= (z3k hu).1
         rw[List.getElem?_drop] at this
         rw[Nat.add_assoc]
         exact hlive _ _ this
        obtain⟨h1,h2⟩:=zd0 hc.1 hl hall hP
        have hlc:len≤cap:=Nat.le_of_mul_le_mul_right (c:=es) ω hc.1
        simp only[RepD]
        refine⟨_,cap,by rw[h2],⟨ω,fun e=>by cases e⟩,?_⟩
        rcases ho with rfl|⟨rfl,_⟩
        ·exact .inr ⟨b,_,es,rfl,hc.1,h1⟩
        ·exact .inl (List.eq_nil_of_length_eq_zero h2)
       ·cases h
      ·cases h
     ·cases h
    ·cases h
  case agg l=>
   split at h
   ·rename_i ds hds
    split at h
    ·cases h
     simp only[RepV] at hr
     obtain⟨vs,rfl,hr⟩:=hr
     simp only[RepD]
     exact⟨vs,rfl,zf1 (fun y _ z u hz hu=>zey hi b0 n hz hu) hds hr⟩
    ·cases h
   ·cases h
theorem z4c (hi:Inv P z0i st g w) (b0:Nat):∀{l:List V} {ds:List D} {us:List Value},z0p st.s b0 l=some ds→RepVs g l us→RepC (z3q st g w b0) ds us
 | [],ds,us,h,hr=>by
  simp[z0p] at h
  subst h
  simpa [RepVs,RepC] using hr
 |x::l,ds,us,h,hr=>by
  simp only[RepVs] at hr
  obtain⟨u,ws,rfl,h1,hr⟩:=hr
  simp only[z0p] at h
  split at h
  ·cases h
  ·rename_i y hy
   simp only[Option.map_eq_some_iff] at h
   obtain⟨m,hm,rfl⟩:=h
   exact z21.2 ⟨zey hi b0 _ hy h1,z4c hi b0 hm hr⟩
def zub {H H' :Still} {x:D} {v:Value} (hf:x.flatC=true) (h:RepD H x v):RepD H' x v:=by
 cases x with
 |bool b=>simpa only[RepD] using h
 |int k n=>simpa only[RepD] using h
 |str s=>simpa only[RepD] using h
 |agg l=>simp[D.flatC] at hf
 |sl l=>
  cases l with
  |cons y l=>simp[D.flatC] at hf
  |nil=>
   simp only[RepD] at h⊢
   obtain⟨a,c,e,h1,_⟩:=h
   exact⟨a,c,e,h1,by simp⟩
theorem zee {H H' :Still} :∀{l:List D} {vs:List Value},l.all D.flatC=true→RepC H l vs→RepC H' l vs
 | [],vs,_,h=>by simpa [RepC] using h
 |x::l,vs,hf,h=>by
  simp only[RepC] at h
  obtain⟨v,ws,rfl,h1,h⟩:=h
  rw[List.all_cons,Bool.and_eq_true] at hf
  exact z21.2 ⟨zub hf.1 h1,zee hf.2 h⟩
def y48 {H H' :Still} {x:D} {v:Value} (hf:x.flat=true) (h:RepD H x v):RepD H' x v:=by
 cases x with
 |bool b=>simpa only[RepD] using h
 |int k n=>simpa only[RepD] using h
 |str s=>simpa only[RepD] using h
 |sl l=>
  cases l with
  |cons y l=>simp[D.flat] at hf
  |nil=>
   simp only[RepD] at h⊢
   obtain⟨a,c,e,h1,_⟩:=h
   exact⟨a,c,e,h1,by simp⟩
 |agg l=>
  simp only[RepD] at h⊢
  obtain⟨vs,e,h⟩:=h
  exact⟨vs,e,zee (by simpa [D.flat] using hf) h⟩
theorem zas {H H' :Still} :∀{l:List D} {vs:List Value},l.all D.flat=true→RepC H l vs→RepC H' l vs
 | [],vs,_,h=>by simpa [RepC] using h
 |x::l,vs,hf,h=>by
  simp only[RepC] at h
  obtain⟨v,ws,rfl,h1,h⟩:=h
  rw[List.all_cons,Bool.and_eq_true] at hf
  exact z21.2 ⟨y48 hf.1 h1,zas hf.2 h⟩
end Go.Lift
namespace Go.Lift
open Go
variable {P:Program} {st:St} {g:Gh} {w:World}
def z79 {a:Act} {env:Lv} (henv:RepVs g env a.tmps.toList) {x:Option Operand} {y:Option Opd} (h:cOpt x=some y):RepO g (y.map (evO env)) (x.map a.eval):=by
 cases x with
 |none=>simp[cOpt] at h;subst h;simp[RepO]
 |some x=>
  simp only[cOpt,Option.map_eq_some_iff] at h
  obtain⟨z,hz,rfl⟩:=h
  exact⟨_,rfl,z0u henv hz⟩
def Calm:Op→Prop
 | .move _=>True
 | .assign _=>True
 | .pick _ _ _=>True
 | .build _ _=>True
 | .load _ _=>True
 | .nilCheck _=>True
 | .binOp _ _ _ _ _=>True
 | .unOp _ _ _=>True
 | .convert _ _ _=>True
 | .makeFunc _ _ _=>True
 | .slice _ _ _ _ _=>True
 | .fieldAddr _ _ _=>True
 | .field _ _ _=>True
 | .indexAddr _ _ _=>True
 | .index _ _ _=>True
 | .lookup _ _ _ _=>True
 | .extract _ _=>True
 |_=>False
def y4q (hi:Inv P z0i st g w) {o:Oper} {a:Act} {env:Lv} (henv:RepVs g env a.tmps.toList) {ai base:Nat} {ik:IK} (hc:cOp? P ai o=some ik) {v:V} {st' :St} (h:evalOp base env st ik=some (v,st')) (hcalm:Calm o.op):
  st' =st∧∃u,(execOp a.eval o).run P w= .ok (.value u) w∧RepV g v u:=by
 unfold cOp? at hc
 unfold execOp
 cases ho:o.op<;>simp only[ho] at hc hcalm⊢<;>simp only[Calm] at hcalm
 case move x=>
  simp only[Option.map_eq_some_iff] at hc
  obtain⟨y,hy,rfl⟩:=hc
  simp only[evalOp] at h
  cases h
  exact⟨rfl,_,rfl,z0u henv hy⟩
 case assign x=>
  simp only[Option.map_eq_some_iff] at hc
  obtain⟨y,hy,rfl⟩:=hc
  simp only[evalOp] at h
  cases h
  exact⟨rfl,_,rfl,z0u henv hy⟩
 case pick c x y=>
  split at hc
  ·rename_i c' x' y' h1 h2 h3
   cases hc
   simp only[evalOp] at h
   split at h
   ·rename_i t ht
    cases h
    have hcv:=z0u henv h1
    rw[ht] at hcv
    simp only[RepV,RepD] at hcv
    refine⟨rfl,_,by simp[hcv,asBool];rfl,?_⟩
    cases t
    ·exact z0u henv h3
    ·exact z0u henv h2
   ·cases h
  ·cases hc
 case build t parts=>
  split at hc
  ·rename_i z ps hz hps
   split at hc
   ·rename_i hb
    cases hc
    simp only[evalOp] at h
    split at h
    ·rename_i cs hcs
     cases h
     obtain⟨u,hu,hr⟩:=zzn (w:=w) henv hz hps hcs hb
     exact⟨rfl,u,by simp[hu],hr⟩
    ·cases h
   ·cases hc
  ·cases hc
 case load t x=>
  split at hc
  ·rename_i n gg y hn ha hy
   split at hc
   ·rename_i hag
    cases hc
    simp only[evalOp] at h
    split at h
    ·rename_i v' hv
     cases h
     obtain⟨u,hu,hr⟩:=zt1 hi hn ha hag hv (z0u henv hy)
     exact⟨rfl,u,by simp[hu],hr⟩
    ·cases h
   ·cases hc
  ·cases hc
 case nilCheck x=>
  simp only[Option.map_eq_some_iff] at hc
  obtain⟨y,hy,rfl⟩:=hc
  have hx:=z0u henv hy
  simp only[evalOp] at h
  split at h<;>rename_i e<;>cases h<;>rw[e] at hx<;>have hx0:=hx<;>simp only[RepV] at hx
  ·obtain⟨b,_,hx⟩:=hx;rw[hx] at hx0⊢;exact⟨rfl,_,rfl,hx0⟩
  ·obtain⟨b,o,hx,_⟩:=hx;rw[hx] at hx0⊢;exact⟨rfl,_,rfl,hx0⟩
  ·obtain⟨b,c,hx,_⟩:=hx;rw[hx] at hx0⊢;exact⟨rfl,_,rfl,hx0⟩
 case unOp op t x=>
  simp only[Option.map_eq_some_iff] at hc
  obtain⟨y,hy,rfl⟩:=hc
  simp only[evalOp] at h
  split at h
  ·rename_i v' hv
   cases h
   obtain⟨u,hu,hr⟩:=y8i (P:=P) (w:=w) hv (z0u henv hy)
   exact⟨rfl,u,by simp[hu],hr⟩
  ·cases h
 case convert s d x=>
  split at hc
  ·rename_i j k y h1 h2 hy
   cases hc
   simp only[evalOp] at h
   split at h
   ·rename_i n hn
    cases h
    have:=zzi (w:=w) h1 h2 hn (z0u henv hy)
    exact⟨rfl,_,by simp[this];rfl,by simp[RepV,RepD]⟩
   ·cases h
  ·rename_i j y h1 h2 hy
   cases hc
   simp only[evalOp] at h
   split at h
   ·rename_i n hn
    split at h
    ·rename_i hlt
     cases h
     obtain⟨u,hu,hr⟩:=zzh (w:=w) h1 h2 hn (z0u henv hy) hlt.1 hlt.2
     exact⟨rfl,u,by simp[hu],hr⟩
    ·cases h
   ·cases h
  ·cases hc
 case makeFunc fn first cap=>
  cases fn<;>simp only[reduceCtorEq] at hc
  rename_i f
  split at hc
  ·rename_i xs ys h1 h2
   cases hc
   simp only[evalOp] at h
   cases h
   refine⟨rfl,_,by simp[Instr.makeFunc];rfl,?_⟩
   simp only[RepV]
   refine⟨_,_,rfl,?_,?_⟩
   ·simpa using z9i henv h1
   ·simpa using z9i henv h2
  ·cases hc
 case fieldAddr t x i=>
  split at hc
  ·rename_i off n u y hf hy
   split at hc
   ·rename_i h0
    cases hc
    simp only[evalOp] at h
    split at h
    ·rename_i v' hv
     cases h
     obtain⟨u,hu,hr⟩:=zyw (w:=w) hf h0 hv (z0u henv hy)
     exact⟨rfl,u,by simp[hu],hr⟩
    ·cases h
   ·cases hc
  ·cases hc
 case field t x i=>
  split at hc
  ·rename_i off n u y hf hy
   split at hc
   ·rename_i gg hg
    split at hc
    ·rename_i hag
     cases hc
     simp only[evalOp] at h
     split at h
     ·rename_i v' hv
      cases h
      obtain⟨fs,f,hu,hfi,rfl,rfl,hn⟩:=z7z hf
      obtain⟨cs,u,he,hu',hr⟩:=zms (w:=w) hn hg hag hv (z0u henv hy)
      exact⟨rfl,u,by simp[Instr.field,z0a hu,hfi,he,asAgg,hu'],hr⟩
     ·cases h
    ·cases hc
   ·cases hc
  ·cases hc
 case indexAddr t x i=>
  split at hc
  ·rename_i y j hy hj
   split at hc
   ·rename_i k e hu
    split at hc
    ·rename_i n a' b' z' he
     cases hc
     simp only[evalOp] at h
     split at h
     ·rename_i n' hn'
      split at h
      ·rename_i v' hv
       cases h
       obtain⟨ki,hki⟩:=z6s hn' (z0u henv hj)
       obtain⟨u,hu',hr⟩:=ztx (w:=w) (k:=ki) hu he hv (z0u henv hy)
       exact⟨rfl,u,by simp[hki,hu'],hr⟩
      ·cases h
     ·cases h
    ·cases hc
   ·rename_i e hu
    split at hc
    ·rename_i n a' b' z' he
     cases hc
     simp only[evalOp] at h
     split at h
     ·rename_i n' hn'
      split at h
      ·rename_i v' hv
       cases h
       obtain⟨ki,hki⟩:=z6s hn' (z0u henv hj)
       obtain⟨u,hu',hr⟩:=ztu (w:=w) (k:=ki) hu he hv (z0u henv hy)
       exact⟨rfl,u,by simp[hki,hu'],hr⟩
      ·cases h
     ·cases h
    ·cases hc
   ·cases hc
  ·cases hc
 case index t x i=>
  split at hc
  ·rename_i y j hy hj
   split at hc
   ·rename_i k e hu
    split at hc
    ·rename_i n a' b' z' he
     split at hc
     ·rename_i hag
      cases hc
      simp only[evalOp] at h
      split at h
      ·rename_i n' hn'
       split at h
       ·rename_i v' hv
        cases h
        obtain⟨ki,hki⟩:=z6s hn' (z0u henv hj)
        obtain⟨u,hu',hr⟩:=ztq (w:=w) (k:=ki) hu he hag hv (z0u henv hy)
        exact⟨rfl,u,by simp[hki,hu'],hr⟩
       ·cases h
      ·cases h
     ·cases hc
    ·cases hc
   ·rename_i hu
    cases hc
    simp only[evalOp] at h
    split at h
    ·rename_i s n' hs hn'
     split at h
     ·rename_i v' hv
      cases h
      obtain⟨ki,hki⟩:=z6s hn' (z0u henv hj)
      obtain⟨u,hu',hr⟩:=zto (w:=w) (k:=ki) hu hv (hs▸z0u henv hy)
      exact⟨rfl,u,by simp[hki,hu'],hr⟩
     ·cases h
    ·cases h
   ·cases hc
  ·cases hc
 case extract x i=>
  simp only[Option.map_eq_some_iff] at hc
  obtain⟨y,hy,rfl⟩:=hc
  simp only[evalOp] at h
  split at h
  ·rename_i vs hvs
   split at h
   ·rename_i v' hv
    cases h
    obtain⟨u,hu,hr⟩:=y7b (P:=P) (w:=w) hv (hvs▸z0u henv hy)
    exact⟨rfl,u,by simp[hu],hr⟩
   ·cases h
  ·cases h
 case lookup t x i ok=>
  split at hc
  ·rename_i k e m j hu hm hj
   split at hc
   ·rename_i ga sh hk
    split at hc
    ·rename_i zv hz
     cases hc
     simp only[evalOp] at h
     split at h
     ·rename_i v' hv
      cases h
      obtain⟨u,hu',hr⟩:=zsy hi hu hk hz hv (z0u henv hm) (z0u henv hj)
      exact⟨rfl,u,by simp[hu'],hr⟩
     ·cases h
    ·cases hc
   ·cases hc
  ·cases hc
 case slice t x lo hi' mx=>
  cases mx<;>simp only[reduceCtorEq] at hc
  split at hc
  ·rename_i y lo' hi'' hy hlo hhi
   split at hc
   ·rename_i hu
    cases hc
    simp only[evalOp] at h
    split at h
    ·rename_i s hs
     split at h
     ·rename_i l' h' hb
      cases h
      obtain⟨u,hu',hr⟩:=zr6 (w:=w) hu hb (z79 henv hlo) (z79 henv hhi) (hs▸z0u henv hy)
      exact⟨rfl,u,by simp[hu'],hr⟩
     ·cases h
    ·cases h
   ·rename_i e hu
    split at hc
    ·rename_i n a' b' z' he
     cases hc
     have hst:st' =st:=by
      simp only[evalOp] at h
      repeat' split at h
      all_goals first| (cases h;done)| (cases h;rfl)
     subst hst
     obtain⟨u,hu',hr⟩:=zr7 (w:=w) (lo:=y) (hi' :=y) hi hu he rfl h (z79 henv hlo) (z79 henv hhi) (z0u henv hy)
     exact⟨rfl,u,by simp[hu'],hr⟩
    ·cases hc
   ·rename_i k e hu
    split at hc
    ·rename_i n a' b' z' he
     cases hc
     simp only[evalOp] at h
     split at h
     ·rename_i k' off hx
      split at h
      ·rename_i cs hcs
       split at h
       ·rename_i l' h' hb
        split at h
        ·rename_i hle
         cases h
         obtain⟨u,hu',hr⟩:=zr8 hi hu he hcs hb hle (z79 henv hlo) (z79 henv hhi) (hx▸z0u henv hy)
         exact⟨rfl,u,by simp[hu'],hr⟩
        ·cases h
       ·cases h
      ·cases h
     ·cases h
    ·cases hc
   ·cases hc
  ·cases hc
 case binOp op t x y yt=>
  unfold cBin at hc
  split at hc
  ·rename_i p q hp hq
   have hx:=z0u henv hp
   have hy:=z0u henv hq
   split at hc
   ·cases hc
    simp only[evalOp] at h
    split at h
    ·rename_i v' hv
     cases h
     obtain⟨u,hu,hr⟩:=y83 (P:=P) (w:=w) (t:=t) (x:=x) (y:=y) hv hx hy
     refine⟨rfl,u,?_,hr⟩
     simp only[Sem.run_bind] at hu⊢
     rw[hu]
     rfl
    ·cases h
   ·have key:∀(neg:Bool),op= (if neg then .neq else .eql)→∀ik',ik=ik' →
      ((∃sh,keyT P t=some (true,sh)∧P.eqGuardType P.depth t=false∧ik' = .eqA neg sh p q)∨(z9g P t=true∧ik' = .eqB neg p q)∨cNil P neg t x y p q=some ik')→
      st' =st∧∃u,(do pure (Next.value (←(do eqGuard op t x y (a.eval x) (a.eval y);binOp op t (a.eval x) (a.eval y):Sem Value)))).run P w= .ok (.value u) w∧RepV g v u:=by
     rintro neg rfl ik' rfl hcase
     rcases hcase with⟨sh,hk,hg,rfl⟩|⟨hb,rfl⟩|hn
     ·simp only[evalOp] at h
      split at h
      ·rename_i d1 d2 e1 e2
       split at h
       ·rename_i hcc
        cases h
        simp only[Bool.and_eq_true] at hcc
        have:=y7j (w:=w) (x:=x) (y:=y) (neg:=neg) hk hg (e1▸hx) (e2▸hy) hcc.1 hcc.2
        refine⟨rfl,.bool (D.beq d1 d2 !=neg),?_,by simp only[RepV,RepD]⟩
        simp only[Sem.run_bind] at this⊢
        rw[this]
        rfl
       ·cases h
      ·cases h
     ·simp only[evalOp] at h
      split at h
      ·rename_i d1 d2 e1 e2
       cases h
       have:=y7i (w:=w) (x:=x) (y:=y) (neg:=neg) hb (e1▸hx) (e2▸hy)
       refine⟨rfl,.bool ((d1==d2) !=neg),?_,by simp only[RepV,RepD]⟩
       simp only[Sem.run_bind] at this⊢
       rw[this]
       rfl
      ·cases h
     ·unfold cNil at hn
      split at hn
      ·cases hn
      ·rename_i kd hkd
       have cst:∀{z:Operand},z9a z=some kd→∃c,z= .const c∧a.eval z=c:=fun {z} hz=>by
        cases z<;>simp only[z9a,reduceCtorEq] at hz
        exact⟨_,rfl,rfl⟩
       split at hn
       ·rename_i hny
        cases hn
        simp only[evalOp] at h
        split at h
        ·rename_i b hb
         cases h
         obtain⟨c,hc,hcv⟩:=cst hny
         have:= (zn5 (w:=w) (neg:=neg) hkd hb hx hny hc x y).1
         rw[←hcv] at this
         refine⟨rfl,.bool (b !=neg),?_,by simp only[RepV,RepD]⟩
         simp only[Sem.run_bind] at this⊢
         rw[this]
         rfl
        ·cases h
       ·split at hn
        ·rename_i hnx
         cases hn
         simp only[evalOp] at h
         split at h
         ·rename_i b hb
          cases h
          obtain⟨c,hc,hcv⟩:=cst hnx
          have:= (zn5 (w:=w) (neg:=neg) hkd hb hy hnx hc x y).2
          rw[←hcv] at this
          refine⟨rfl,.bool (b !=neg),?_,by simp only[RepV,RepD]⟩
          simp only[Sem.run_bind] at this⊢
          rw[this]
          rfl
         ·cases h
        ·cases hn
    split at hc
    ·split at hc
     ·rename_i sh hk
      split at hc
      ·cases hc
      ·rename_i hg
       cases hc
       exact key false rfl _ rfl (.inl ⟨sh,hk,by simpa using hg,rfl⟩)
     ·split at hc
      ·rename_i hb
       cases hc
       exact key false rfl _ rfl (.inr (.inl ⟨hb,rfl⟩))
      ·exact key false rfl _ rfl (.inr (.inr hc))
    ·split at hc
     ·rename_i sh hk
      split at hc
      ·cases hc
      ·rename_i hg
       cases hc
       exact key true rfl _ rfl (.inl ⟨sh,hk,by simpa using hg,rfl⟩)
     ·split at hc
      ·rename_i hb
       cases hc
       exact key true rfl _ rfl (.inr (.inl ⟨hb,rfl⟩))
      ·exact key true rfl _ rfl (.inr (.inr hc))
    ·cases hc
  ·cases hc
end Go.Lift
namespace Go.Lift
open Go
variable{env:Lv}{ai base:Nat}{ik:IK}{v:V}{st':St}
variable {P:Program} {st:St} {g:Gh} {w:World}
def zq3:Op→Prop
 | .alloc _=>True
 | .box _ _=>True
 | .makeMap _ _=>True
 | .makeSlice _ _ _=>True
 | .range _ _=>True
 | .buildSlice _ _ _=>True
 |_=>False
def zk2 {o:Oper} {a:Act}  (henv:RepVs g env a.tmps.toList)   (hc:cOp? P ai o=some ik)   (h:evalOp base env st (z2o ik)=some (v,st')) (hm:zq3 o.op) (hk:g.blk (base+ai)=none):
  ∃s obj,execOp a.eval o= (do pure (.value (←s)))∧st' =st.ins (base+ai) obj∧Mk P s g w (base+ai) v obj:=by
 unfold cOp? at hc
 unfold execOp
 cases ho:o.op<;>simp only[ho] at hc hm⊢<;>simp only[zq3] at hm
 case alloc t=>
  simp only[Option.map_eq_some_iff] at hc
  obtain⟨z,hz,rfl⟩:=hc
  simp only[z2o,evalOp] at h
  cases h
  exact⟨_,_,rfl,rfl,y01 hk hz⟩
 case box t x=>
  simp only[Option.map_eq_some_iff] at hc
  obtain⟨y,hy,rfl⟩:=hc
  simp only[z2o,evalOp] at h
  split at h
  ·cases h
   exact⟨_,_,rfl,rfl,y81 hk (z0u henv hy)⟩
  ·cases h
 case makeMap t r=>
  cases r<;>simp only[reduceCtorEq] at hc
  split at hc
  ·cases hc
   simp only[z2o,evalOp] at h
   cases h
   exact⟨_,_,rfl,rfl,zxp hk⟩
  ·cases hc
 case range t x=>
  split at hc
  ·rename_i y hu hy
   cases hc
   simp only[z2o,evalOp] at h
   split at h
   ·rename_i s hs
    cases h
    exact⟨_,_,rfl,rfl,zrr hu (hs▸z0u henv hy)⟩
   ·cases h
  ·cases hc
 case makeSlice t l c=>
  split at hc
  ·rename_i e he
   split at hc
   ·rename_i n a' b' z l' c' hel hl hcc
    cases hc
    simp only[z2o,evalOp] at h
    split at h
    ·rename_i li ci hli hci
     split at h
     ·rename_i hcond
      cases h
      have hu:P.underlying t=some (.slice e):=by
       unfold zdc at he
       split at he
       ·rename_i e' hu;cases he;exact hu
       ·cases he
      obtain⟨k1,hk1⟩:=z6s hli (z0u henv hl)
      obtain⟨k2,hk2⟩:=z6s hci (z0u henv hcc)
      refine⟨_,_,rfl,rfl,?_⟩
      rw[hk1,hk2]
      exact zox hu hel hk hcond.1 hcond.2.1 hcond.2.2.1 hcond.2.2.2.1
     ·cases h
    ·cases h
   ·cases hc
  ·cases hc
 case buildSlice t len parts=>
  split at hc
  ·rename_i e he
   split at hc
   ·rename_i n a' b' z ps hel hps
    cases hc
    simp only[z2o,evalOp,if_true] at h
    split at h
    ·rename_i hcond
     split at h
     ·rename_i cs hcs
      split at h
      ·cases h
       have hu:P.underlying t=some (.slice e):=by
        unfold zdc at he
        split at he
        ·rename_i e' hu;cases he;exact hu
        ·cases he
       refine⟨_,_,rfl,rfl,zsp hu hel hk hcond.1 hcs ?_⟩
       simpa using zkw henv hps
      ·cases h
     ·cases h
    ·cases h
   ·cases hc
  ·cases hc
theorem zu5 {env:List V} :∀{ps:List (Nat×Opd)} {st:St} {g:Gh} {qs:List (Nat×V)} {st' :St} {vs:List (Nat×Value)},Inv P z0i st g w→frzP env st ps=some (qs,st')→RepIx g (ps.map fun (i,x)=> (i,evO env x)) vs→
  ∃g',Given P st g w st' g' ∧RepIx g' qs vs
 | [],st,g,qs,st',vs,hi,h,hr=>by
  simp only[frzP,Option.some.injEq,Prod.mk.injEq] at h
  obtain⟨rfl,rfl⟩:=h
  exact⟨g,.refl hi,by simpa [RepIx] using hr⟩
 | (i,x)::ps,st,g,qs,st',vs,hi,h,hr=>by
  simp only[List.map_cons,RepIx] at hr
  obtain⟨v,r,rfl,h1,hr⟩:=hr
  simp only[frzP] at h
  split at h
  ·cases h
  ·rename_i y st1 hx
   split at h
   ·cases h
   ·rename_i ys st2 hl
    cases h
    obtain⟨g1,h2,h3⟩:=zmp _ hi hx h1
    obtain⟨g2,h4,h5⟩:=zu5 h2.inv hl (RepIx.mono h2.step.ext hr)
    refine⟨g2,h2.trans h4,?_⟩
    simp only[RepIx]
    exact⟨v,r,rfl,h3.mono h4.step.ext,h5⟩
def Acts:Op→Prop
 | .store _ _ _=>True
 | .mapUpdate _ _ _ _=>True
 | .insert _ _ _ _=>True
 | .next _ _=>True
 | .buildSlice _ _ _=>True
 | .call c=>match c.callee with
  | .builtin _=>True
  |_=>False
 |_=>False
def za6 {o:Oper} {a:Act}  (hi:Inv P z0i st g w) (henv:RepVs g env a.tmps.toList)  {t:TypeId} {len:Nat} {parts:Array (Nat×Operand)} (ho:o.op= .buildSlice t len parts)  (hc:cOp? P ai o=some ik)   (h:evalOp base env st ik=some (v,st'))
  (hk:g.blk (base+ai)=none) (hlt:base+ai<st.next):Does P (execOp a.eval o) st g w v st' (· =base+ai):=by
 unfold cOp? at hc
 unfold execOp
 simp only[ho] at hc⊢
 split at hc
 ·rename_i e he
  split at hc
  ·rename_i n a' b' z ps hel hps
   cases hc
   simp only[evalOp,Bool.false_eq_true,if_false] at h
   split at h
   ·cases h
   ·rename_i qs st1 hfz
    split at h
    ·rename_i hcond
     split at h
     ·rename_i cs hcs
      split at h
      ·cases h
       have hu:P.underlying t=some (.slice e):=by
        unfold zdc at he
        split at he
        ·rename_i e' hu;cases he;exact hu
        ·cases he
       obtain⟨g1,h1,h2⟩:=zu5 hi hfz (zkw henv hps)
       have hk1:g1.blk (base+ai)=none:=by rw[h1.blk];exact hk
       obtain⟨u,w',g',h3,h4,h5,h6,h7⟩:= (zsp (w:=w) hu hel hk1 hcond.1 hcs (by simpa using h2):Mk P (Instr.buildSlice t len (parts.map fun (i,x)=> (i,a.eval x))) g1 w (base+ai) _ _).does h1.inv hk1 (by rw[h1.next];exact hlt) (new:= (· =base+ai)) rfl
       exact⟨u,w',g',h3,h4,h5,h1.step.trans h6,fun k b hb=>by rw[←h1.blk];exact h7 k b hb⟩
      ·cases h
     ·cases h
    ·cases h
  ·cases hc
 ·cases hc
def Does.of_val {s:Sem Value}   {new:Nat→Prop} (h:∃u w' g',s.run P w= .ok u w' ∧RepV g' v u∧Inv P z0i st' g' w' ∧Step st g w st' g' w' ∧∀k b,g'.blk k=some b→g.blk k=some b∨new k):Does P (do pure (.value (←s))) st g w v st' new:=by
 obtain⟨u,w',g',h1,h2,h3,h4,h5⟩:=h
 exact Does.made h1 h2 h3 h4 h5
def zbe {t e:TypeId} (he:zdc P t=some e):P.underlying t=some (.slice e):=by
 unfold zdc at he
 split at he
 ·rename_i e' hu;cases he;exact hu
 ·cases he
def y89 (hi:Inv P z0i st g w) {o:Oper} {a:Act}  (henv:RepVs g env a.tmps.toList)   (hc:cOp? P ai o=some ik)   (h:evalOp base env st ik=some (v,st')) (ha:Acts o.op)
  (hk:g.blk (base+ai)=none) (hlt:base+ai<st.next):Does P (execOp a.eval o) st g w v st' (· =base+ai):=by
 have hc0:=hc
 unfold cOp? at hc
 cases ho:o.op<;>simp only[ho] at hc ha<;>simp only[Acts] at ha
 case buildSlice t len parts=>exact za6 hi henv ho hc0 h hk hlt
 all_goals unfold execOp;simp only[ho]
 case store t x y=>
  split at hc
  ·rename_i n p q hn hp hq
   cases hc
   simp only[evalOp] at h
   split at h
   ·rename_i st1 hs
    cases h
    obtain⟨w',h1,h2,h3⟩:=zwp hi hn hs (z0u henv hp) (z0u henv hq)
    exact Does.done h1 h2 h3 fun k b hb=> .inl hb
   ·cases h
  ·cases hc
 case mapUpdate t m k x=>
  split at hc
  ·rename_i kt e m' k' x' hu hm hk' hx
   split at hc
   ·rename_i ga sh hkt
    cases hc
    simp only[evalOp] at h
    split at h
    ·rename_i st1 hs
     cases h
     obtain⟨w',h1,h2,h3⟩:=zhs hi hu hkt hs (z0u henv hm) (z0u henv hk') (z0u henv hx)
     exact Does.done h1 h2 h3 fun k b hb=> .inl hb
    ·cases h
   ·cases hc
  ·cases hc
 case insert t m k x=>
  split at hc
  ·rename_i kt e m' k' x' hu hm hk' hx
   split at hc
   ·rename_i ga sh hkt
    cases hc
    simp only[evalOp] at h
    split at h
    ·rename_i st1 hs
     cases h
     obtain⟨w',h1,h2,h3⟩:=zhs hi hu hkt hs (z0u henv hm) (z0u henv hk') (z0u henv hx)
     exact Does.done h1 h2 h3 fun k b hb=> .inl hb
    ·cases h
   ·cases hc
  ·cases hc
 case next x isS=>
  cases isS<;>simp only[reduceCtorEq] at hc
  simp only[Option.map_eq_some_iff] at hc
  obtain⟨y,hy,rfl⟩:=hc
  obtain⟨u,w',h1,h2,h3,h4⟩:=zxm (P:=P) (ty:=o.type) hi rfl h (z0u henv hy)
  exact Does.made h1 h2 h3 h4 fun k b hb=> .inl hb
 case call c=>
  split at ha
  ·rename_i bi hcal
   simp only[zir,hcal] at hc
   have hres: ((do let d←resolve a.eval c o.type;invoke d.target d.args:Sem Next))=builtin bi c.argTypes o.type (c.args.map fun| .const _=>true|_=>false) (c.args.map a.eval):=by
    simp only[resolve,hcal]
    rfl
   rw[hres]
   have hats:∀{l:List TypeId},c.argTypes.toList=l→c.argTypes=l.toArray:=fun {l} e=>by rw[←e]
   have has:∀{l:List Operand},c.args.toList=l→c.args.map a.eval= (l.map a.eval).toArray:=fun {l} e=>by
    subst e
    apply Array.ext'
    rw[Array.toList_map]
   split at hc
   ·rename_i t x ht hx
    rw[hats ht,has hx]
    simp only[builtin]
    split at hc
    ·rename_i n e hu
     cases hc
     simp only[evalOp] at h
     cases h
     refine Does.val hi (u:= .int .i64 n) ?_ (by simp[RepV,RepD])
     simp[Builtin.len_,z0a hu,goInt]
    ·rename_i p hu
     split at hc
     ·rename_i n e hu2
      cases hc
      simp only[evalOp] at h
      cases h
      refine Does.val hi (u:= .int .i64 n) ?_ (by simp[RepV,RepD])
      simp[Builtin.len_,z0a hu,z0a hu2,goInt]
     ·cases hc
    ·rename_i hu
     simp only[Option.map_eq_some_iff] at hc
     obtain⟨y,hy,rfl⟩:=hc
     simp only[evalOp] at h
     split at h
     ·rename_i n hn
      cases h
      exact Does.val hi (y3i hu hn (z0u henv hy)) (by simp[RepV,RepD])
     ·cases h
    ·rename_i e hu
     simp only[Option.map_eq_some_iff] at hc
     obtain⟨y,hy,rfl⟩:=hc
     simp only[evalOp] at h
     split at h
     ·rename_i n hn
      cases h
      exact Does.val hi (y6z hu hn (z0u henv hy)) (by simp[RepV,RepD])
     ·cases h
    ·rename_i kt e hu
     simp only[Option.map_eq_some_iff] at hc
     obtain⟨y,hy,rfl⟩:=hc
     simp only[evalOp] at h
     split at h
     ·rename_i n hn
      cases h
      exact Does.val hi (y3k hi hu hn (z0u henv hy)) (by simp[RepV,RepD])
     ·cases h
    ·cases hc
   ·rename_i t x ht hx
    rw[hats ht,has hx]
    simp only[builtin]
    split at hc
    ·rename_i e hu
     simp only[Option.map_eq_some_iff] at hc
     obtain⟨y,hy,rfl⟩:=hc
     simp only[evalOp] at h
     split at h
     ·rename_i hn
      cases h
      exact Does.val hi (y4p hu hn (z0u henv hy)) (by simp[RepV,RepD])
     ·cases h
    ·cases hc
   ·rename_i t u x y ht hx
    rw[hats ht,has hx]
    simp only[builtin]
    split at hc
    ·rename_i e' hu'
     split at hc
     ·rename_i e he
      split at hc
      ·rename_i n a' b' z p q hel hp hq
       cases hc
       simp only[evalOp] at h
       exact Does.of_val (zvt hi (zbe he) hu' hel hk hlt h (z0u henv hp) (z0u henv hq))
      ·cases hc
     ·cases hc
    ·cases hc
   ·rename_i t u x y ht hx
    rw[hats ht,has hx]
    simp only[builtin]
    split at hc
    ·rename_i e' hu'
     split at hc
     ·rename_i e he
      split at hc
      ·rename_i n a' b' z p q hel hp hq
       cases hc
       simp only[evalOp] at h
       obtain⟨u,w',h1,h2,h3,h4⟩:=y4k hi (zbe he) hel h (z0u henv hp) (z0u henv hq)
       exact Does.made h1 h2 h3 h4 fun k b hb=> .inl hb
      ·cases hc
     ·cases hc
    ·cases hc
   ·rename_i t x ht hx
    rw[hats ht,has hx]
    simp only[builtin]
    split at hc
    ·rename_i e he
     split at hc
     ·rename_i n a' b' z p hel hp
      cases hc
      simp only[evalOp] at h
      split at h
      ·rename_i st1 hs
       cases h
       obtain⟨w',h1,h2,h3⟩:=zv7 (ty:=o.type) hi (zbe he) hel hs (z0u henv hp)
       exact Does.made h1 z5s h2 h3 fun k b hb=> .inl hb
      ·cases h
     ·cases hc
    ·cases hc
   ·simp only[Option.map_eq_some_iff] at hc
    obtain⟨ys,hys,rfl⟩:=hc
    simp only[builtin]
    simp only[evalOp] at h
    split at h
    ·rename_i v' hv
     cases h
     obtain⟨u,hu,hr⟩:=y38 (P:=P) (w:=w) (isMax:=true) (ats:=c.argTypes) (ty:=o.type) hv (z9i henv hys)
     refine Does.val hi (u:=u) ?_ hr
     rw[has rfl]
     simpa using hu
    ·cases h
   ·simp only[Option.map_eq_some_iff] at hc
    obtain⟨ys,hys,rfl⟩:=hc
    simp only[builtin]
    simp only[evalOp] at h
    split at h
    ·rename_i v' hv
     cases h
     obtain⟨u,hu,hr⟩:=y38 (P:=P) (w:=w) (isMax:=false) (ats:=c.argTypes) (ty:=o.type) hv (z9i henv hys)
     refine Does.val hi (u:=u) ?_ hr
     rw[has rfl]
     simpa using hu
    ·cases h
   ·cases hc
  ·cases ha
end Go.Lift
namespace Go.Lift
open Go
variable{ai:Nat}{ro:Option Nat}
variable {P:Program} {st:St} {g:Gh} {w:World}
abbrev Fw (ro:Option Nat):Fence:= {Fence.wide with round:=ro}
def NewK (st:St) (g g' :Gh):Prop:=∀k b,g'.blk k=some b→g.blk k=some b∨st.next≤k
def Ret (P:Program) (st:St) (g:Gh) (w:World) (r:V) (st' :St):Ending→World→Prop:=fun e w' =>
 ∃v,e= .returned v∧∃g',RepV g' r v∧Inv P z0i st' g' w' ∧Step st g w st' g' w' ∧NewK st g g'
def Upon (P:Program) (st:St) (g:Gh) (w:World) (r:V) (st' :St):Result Next→Prop
 | .ok (.enter f args) w1=>CallsIn Fence.wide 0 P f args w1 (Ret P st g w r st')
 | .ok (.round l f tmps assign body) w1=>RoundIn Fence.wide 0 P l f tmps assign body w1 (Ret P st g w r st')
 |_=>False
def z3n (P:Program) (cl:z12):Prop:=∀v args st r st',cl v args st=some (r,st')→∀g w u (us:Array Value),Inv P z0i st g w→RepV g v u→RepVs g args us.toList→
 Upon P st g w r st' (((do let d←Deferred.ofValue u us;invoke d.target d.args:Sem Next)).run P w)
def zbm {a:Act} {env:Lv} (henv:RepVs g env a.tmps.toList) {dst:Option Nat} {v:V} {u:Value} (hv:RepV g v u):RepVs g (setE env dst v) (a.put dst u).tmps.toList:=by
 cases dst with
 |none=>simpa [setE,Act.put] using henv
 |some t=>
  simp only[setE,Act.put,Array.toList_setIfInBounds]
  have hl:=henv.length
  refine RepVs.of_get (by simp;simpa using hl) fun i x y hx hy=> ?_
  rw[List.getElem?_set] at hx hy
  by_cases e:t=i
  ·simp only[e,if_true] at hx hy
   split at hx
   ·cases hx
    split at hy
    ·cases hy;exact hv
    ·cases hy
   ·cases hx
  ·simp only[e,if_false] at hx hy
   obtain⟨z,hz,hr⟩:=henv.get hx
   rw[hy] at hz
   cases hz
   exact hr
def zxv {o:Oper}  {ik:IK} (h:cOp? P ai o=some ik):Calm o.op∨zq3 o.op∨Acts o.op∨∃c,o.op= .call c∧∃f,c.callee= .value f:=by
 unfold cOp? at h
 cases ho:o.op<;>simp only[ho] at h<;>first| (exact .inl trivial)| (exact .inr (.inl trivial))| (exact .inr (.inr (.inl trivial)))|skip
 case call c=>
  simp only[Acts]
  cases hc:c.callee with
  |builtin b=>exact .inr (.inr (.inl trivial))
  |value f=>exact .inr (.inr (.inr ⟨c,rfl,f,hc⟩))
  |invoke r n=>simp[zir,hc] at h
 all_goals cases h
def znk  {f:FuncId} {args:Array Value} {R:Ending→World→Prop} (h:CallsIn Fence.wide 0 P f args w R):CallsIn (Fw ro) 0 P f args w R:=h
def zx0  {l:Nat} {f:FuncId} {tmps:Array Value} {assign body:Code} {R:Ending→World→Prop} (h:RoundIn Fence.wide 0 P l f tmps assign body w R):RoundIn (Fw ro) 0 P l f tmps assign body w R:=h
def zvd {o:Oper}  {f:Cal} {xs:List Opd} (hc:cOp? P ai o=some (.call f xs)):∃c,o.op= .call c∧∃f,c.callee= .value f:=by
 unfold cOp? at hc
 cases ho:o.op<;>simp only[ho] at hc
 case call c=>
  refine⟨c,rfl,?_⟩
  cases hcal:c.callee with
  |value f=>exact⟨f,rfl⟩
  |invoke r n=>simp[zir,hcal] at hc
  |builtin b=>
   exfalso
   simp only[zir,hcal] at hc
   repeat' split at hc
   all_goals first|contradiction| (cases hc;done)| (cases hc;contradiction)| (simp at hc;done)
 all_goals exfalso
 all_goals (try unfold cBin at hc)<;> (try unfold cNil at hc)
 all_goals repeat' split at hc
 all_goals first|contradiction| (cases hc;done)| (cases hc;contradiction)| (simp at hc;done)
def zso {o:Oper}  {k n:Nat} {ag nf:Bool} {z:Lv} {l:Nat} {ps:List (Nat×Opd)} (hc:cOp? P ai o=some (.mkSl k n ag nf z l ps)):∃t l ps,o.op= .buildSlice t l ps:=by
 unfold cOp? at hc
 cases ho:o.op<;>simp only[ho] at hc
 case buildSlice t l ps=>exact⟨t,l,ps,rfl⟩
 case call c=>
  exfalso
  unfold zir at hc
  repeat' split at hc
  all_goals first|contradiction| (cases hc;done)| (cases hc;contradiction)| (simp at hc;done)
 all_goals exfalso
 all_goals (try unfold cBin at hc)<;> (try unfold cNil at hc)
 all_goals repeat' split at hc
 all_goals first|contradiction| (cases hc;done)| (cases hc;contradiction)| (simp at hc;done)
def zfg {cl:z12} (hcl:z3n P cl)  {o:Oper} {a:Act} {env:Lv} {base:Nat} {dst:Option Nat} {gd:Option (Nat×Bool)} {keep:Ln} {v:V} {st' :St} (hi:Inv P z0i st g w) (henv:RepVs g env a.tmps.toList)
  (h:evalIOp cl base env st ⟨dst,cOp P ai o,gd,keep⟩=some (v,st')) (hk:g.blk (base+ai)=none) (hlt:base+ai<st.next) {K:Act→World→Prop} {Q:Exit→Act→World→Prop}
  (hK:∀u w' g',RepV g' v u→Inv P z0i st' g' w' →Step st g w st' g' w' →(∀k b,g'.blk k=some b→g.blk k=some b∨k=base+ai∨st.next≤k)→K (a.put o.dst u) w'):
  o.wpIn (Fw ro) 0 P a w K Q:=by
 unfold cOp at h
 cases hc:cOp? P ai o with
 |none=>rw[hc] at h;simp[evalIOp,evalOp] at h
 |some ik=>
  rw[hc] at h
  simp only[Option.getD_some] at h
  have hnd:∀c,o.op≠ .defer c:=fun c e=>by simp[cOp?,e] at hc
  unfold Oper.wpIn
  refine⟨fun _ _=>trivial,?_⟩
  rw[show (Fw ro).round=ro from rfl,Oper.semAt_eq ro a.eval o hnd]
  have does:Does P (execOp a.eval o) st g w v st' (· =base+ai)→o.uponIn (Fw ro) 0 P a K Q ((execOp a.eval o).run P w):=by
   rintro⟨u,w',g',h1,h2,h3,h4,h5⟩
   have:=hK u w' g' h2 h3 h4 fun k b hb=> (h5 k b hb).imp id .inl
   rcases h1 with h1|⟨h1,rfl⟩
   ·rw[h1];exact this
   ·rw[h1];exact this
  have notCall: (∀f xs,ik≠ .call f xs)→evalOp base env st ik=some (v,st'):=fun hn=>by
   unfold evalIOp at h
   cases ik<;>first|exact h|exact absurd rfl (hn _ _)
  by_cases hcall:∃c,o.op= .call c∧∃f,c.callee= .value f
  ·obtain⟨c,ho,f,hf⟩:=hcall
   simp only[cOp?,ho,zir,hf] at hc
   have hexec:execOp a.eval o= (do let d←Deferred.ofValue (a.eval f) (c.args.map a.eval);invoke d.target d.args:Sem Next):=by
    unfold execOp
    simp only[ho,resolve,hf]
   rw[hexec]
   have main:∀(fv:V) (xs:List Opd),RepV g fv (a.eval f)→zgg c.args.toList=some xs→cl fv (xs.map (evO env)) st=some (v,st')→
     o.uponIn (Fw ro) 0 P a K Q (((do let d←Deferred.ofValue (a.eval f) (c.args.map a.eval);invoke d.target d.args:Sem Next)).run P w):=by
    intro fv xs hfv hxs hres
    have hgood:=hcl fv _ st v st' hres g w (a.eval f) (c.args.map a.eval) hi hfv (by rw[Array.toList_map];exact z9i henv hxs)
    revert hgood
    generalize ((do let d←Deferred.ofValue (a.eval f) (c.args.map a.eval);invoke d.target d.args:Sem Next)).run P w=r
    intro hgood
    unfold Upon at hgood
    split at hgood
    ·refine⟨fun hd=>by simp[Fence.wide] at hd,CallsIn.mono (znk hgood) fun e w'' he=> ?_⟩
     obtain⟨u,rfl,g',h1,h2,h3,h4⟩:=he
     exact hK u w'' g' h1 h2 h3 fun k b hb=> (h4 k b hb).imp id .inr
    ·refine⟨fun hd=>by simp[Fence.wide] at hd,RoundIn.mono (zx0 hgood) fun e w'' he=> ?_⟩
     obtain⟨u,rfl,g',h1,h2,h3,h4⟩:=he
     exact hK u w'' g' h1 h2 h3 fun k b hb=> (h4 k b hb).imp id .inr
    ·exact hgood.elim
   split at hc
   ·rename_i g' xs hxs
    cases hc
    simp only[evalIOp,calV] at h
    exact main _ xs (z0u henv (x:= .func g') (y:= .c (.fn g' [] [])) rfl) hxs h
   ·rename_i f' xs _ hxs
    simp only[Option.map_eq_some_iff] at hc
    obtain⟨y,hy,rfl⟩:=hc
    simp only[evalIOp,calV] at h
    exact main _ xs (z0u henv hy) hxs h
   ·cases hc
  ·have hnc:∀f xs,ik≠ .call f xs:=by
    rintro f xs rfl
    exact hcall (zvd hc)
   have h:=notCall hnc
   rcases zxv hc with hm|hm|hm|hm
   ·obtain⟨rfl,u,hu,hr⟩:=y4q hi henv hc h hm
    exact does ⟨u,w,g,.inl hu,hr,hi,Step.refl _ g w,fun _ _ hb=> .inl hb⟩
   ·by_cases hb:∃t l ps,o.op= .buildSlice t l ps
    ·obtain⟨t,l,ps,hb⟩:=hb
     exact does (za6 hi henv hb hc h hk hlt)
    ·have hnz:z2o ik=ik:=by
      cases ik<;>first|rfl|exact absurd (zso hc) hb
     obtain⟨s,obj,h1,rfl,h3⟩:=zk2 henv hc (by rw[hnz];exact h) hm hk
     rw[h1] at does⊢
     exact does (h3.does hi hk hlt rfl)
   ·exact does (y89 hi henv hc h hm hk hlt)
   ·exact absurd hm hcall
end Go.Lift
namespace Go.Lift
open Go
variable {P:Program} {st:St} {g:Gh} {w:World}
def zzp {x:V} {v:Value} (h:RepV g x v) (b:Bool):v= .bool b↔x= .d (.bool b):=by
 cases x with
 |d x=>
  cases x<;>simp only[RepV,RepD] at h
  ·subst h;simp
  ·subst h;simp
  ·obtain⟨b,rfl,_⟩:=h;simp
  ·obtain⟨a,c,rfl,_⟩:=h;simp
  ·obtain⟨a,rfl,_⟩:=h;simp
 |nilS=>simp only[RepV] at h;subst h;simp
 |emp=>simp only[RepV] at h;obtain⟨a,c,rfl⟩:=h;simp
 |arr k es ag off len=>simp only[RepV] at h;obtain⟨_,_,_,_,rfl,_⟩:=h;simp
 |ptr k off=>simp only[RepV] at h;obtain⟨_,_,rfl⟩:=h;simp
 |dptr ds=>simp only[RepV] at h;obtain⟨b,o,rfl,_⟩:=h;simp
 |nilP=>simp only[RepV] at h;subst h;simp
 |map k=>simp only[RepV] at h;obtain⟨_,_,rfl⟩:=h;simp
 |nilM=>simp only[RepV] at h;subst h;simp
 |fn f a c=>simp only[RepV] at h;obtain⟨_,_,rfl,_⟩:=h;simp
 |yld k=>simp only[RepV] at h;obtain⟨_,_,rfl⟩:=h;simp
 |nilF=>simp only[RepV] at h;subst h;simp
 |agg l=>simp only[RepV] at h;obtain⟨vs,rfl,_⟩:=h;simp
 |tup l=>simp only[RepV] at h;obtain⟨vs,rfl,_⟩:=h;simp
def zgy {ops:List Oper} {o:Oper} {env:Lv} {tmps:Array Value} (henv:RepVs g env tmps.toList) {gd:Option (Nat×Bool)} (h:zen ops o.guard=some gd):Region.wanted o (yielded ops.toArray tmps)=wantedE env gd:=by
 unfold Region.wanted
 cases hg:o.guard with
 |none=>
  rw[hg] at h
  simp only[zen,Option.some.injEq] at h
  subst h
  rfl
 |some jw=>
  obtain⟨j,want⟩:=jw
  rw[hg] at h
  simp only[zen] at h
  split at h
  ·rename_i oj hj
   split at h
   ·rename_i t ht
    cases h
    have hl:=henv.length
    simp only[wantedE,yielded,List.getElem?_toArray,hj,Option.bind_some,ht]
    by_cases hlt:t<env.length
    ·obtain⟨v,hv,hr⟩:=henv.get (i:=t) (x:=env[t]) (by simp[hlt])
     have hv' :tmps[t]?=some v:=by simpa using hv
     rw[hv']
     have hD:env.getD t .undef=env[t]:=by simp[hlt]
     rw[hD]
     have hb:=zzp hr
     cases hx:env[t] with
     |d x=>
      cases x with
      |bool b=>rw[(hb b).2 hx];rfl
      |_=>
       rw[hx] at hb
       cases v<;>first|rfl| (exfalso;rename_i c;have:= (hb c).1 rfl;cases this;done)
     |_=>
      rw[hx] at hb
      cases v<;>first|rfl| (exfalso;rename_i c;have:= (hb c).1 rfl;cases this;done)
    ·have h1:env[t]?=none:=List.getElem?_eq_none (Nat.le_of_not_lt hlt)
     have h2:tmps[t]?=none:=by
      simp only[Array.length_toList] at hl
      exact Array.getElem?_eq_none (by rw[hl];exact Nat.le_of_not_lt hlt)
     simp[h1,h2,List.getD]
   ·cases h
  ·cases h
def z73 {nf draw:Bool} {ops:List Oper} {B:List (List Nat)} {iks:List IK} :∀{js:List Nat} {cnt m:Nat} {pre:List Nat} {l:List IOp},cOrd nf P draw ops B iks cnt pre js=some (m,l)→cnt+js.length=m
 | [],cnt,m,pre,l,h=>by simp only[cOrd,Option.some.injEq,Prod.mk.injEq] at h;simp[h.1]
 |j::js,cnt,m,pre,l,h=>by
  simp only[cOrd] at h
  split at h
  ·cases h
  ·split at h
   ·split at h
    ·rename_i n l' hr
     cases h
     have:=z73 hr
     simp only[List.length_cons]
     omega
    ·cases h
   ·cases h
def zot {ai:Nat} {o:Oper} :z2o (cOp P ai o)=cOp P ai o∨∃t l ps ik,o.op= .buildSlice t l ps∧cOp? P ai o=some ik∧cOp P ai o=ik:=by
 unfold cOp
 cases hc:cOp? P ai o with
 |none=>exact .inl rfl
 |some ik=>
  simp only[Option.getD_some]
  cases ik with
  |mkSl k n ag nf z l ps=>
   obtain⟨t,l',ps',h⟩:=zso hc
   exact .inr ⟨t,l',ps',_,h,rfl,rfl⟩
  |_=>exact .inl rfl
def zos {cl:z12} (hcl:z3n P cl) {ro:Option Nat} {o:Oper} {a:Act} {env:Lv} {ai base:Nat} {dst:Option Nat} {gd:Option (Nat×Bool)} {keep:Ln} {v:V} {st' :St} (hi:Inv P z0i st g w) (henv:RepVs g env a.tmps.toList)
  (h:evalIOp cl base env st ⟨dst,z2o (cOp P ai o),gd,keep⟩=some (v,st')) (hk:g.blk (base+ai)=none) (hlt:base+ai<st.next) {K:Act→World→Prop} {Q:Exit→Act→World→Prop}
  (hK:∀u w' g',RepV g' v u→Inv P z0i st' g' w' →Step st g w st' g' w' →(∀k b,g'.blk k=some b→g.blk k=some b∨k=base+ai∨st.next≤k)→K (a.put o.dst u) w'):
  o.wpIn (Fw ro) 0 P a w K Q:=by
 rcases zot (P:=P) (ai:=ai) (o:=o) with e|⟨t,l,ps,ik,hb,hc,e⟩
 ·rw[e] at h
  exact zfg hcl hi henv h hk hlt hK
 ·rw[e] at h
  have hm:zq3 o.op:=by rw[hb];trivial
  have hnc:∀f xs,z2o ik≠ .call f xs:=fun f xs e' =>by
   obtain⟨c,hc',_⟩:=zvd (f:=f) (xs:=xs) (o:=o) (ai:=ai) (P:=P) (by
    cases ik<;>simp only[z2o] at e' <;>first| (cases e';exact hc)|cases e')
   rw[hb] at hc';cases hc'
  have h' :evalOp base env st (z2o ik)=some (v,st'):=by
   revert h
   unfold evalIOp
   cases hk' :z2o ik with
   |call f args=>exact absurd hk' (hnc f args)
   |_=>exact id
  obtain⟨s,obj,h1,rfl,h3⟩:=zk2 henv hc h' hm hk
  have hnd:∀c,o.op≠ .defer c:=fun c e=>by rw[hb] at e;cases e
  unfold Oper.wpIn
  refine⟨fun _ _=>trivial,?_⟩
  rw[show (Fw ro).round=ro from rfl,Oper.semAt_eq ro a.eval o hnd,h1]
  obtain⟨u,w',g',h4,h5,h6,h7,h8⟩:=h3.does hi hk hlt (new:= (· =base+ai)) rfl
  have:=hK u w' g' h5 h6 h7 fun k b hb=> (h8 k b hb).imp id .inl
  rcases h4 with h4|⟨h4,rfl⟩
  ·rw[h4];exact this
  ·rw[h4];exact this
def z7q {nf:Bool} {cl:z12} (hcl:z3n P cl) {ro:Option Nat} {ops:List Oper} {base m:Nat} {st' :St} {env' :List V} {Q:Exit→Act→World→Prop} :
  ∀(js:List Nat) (cnt:Nat) (pre:List Nat) (l:List IOp) (st:St) (g:Gh) (w:World) (env:List V) (a:Act),cOrd nf P false ops [] [] cnt pre js=some (m,l)→z0m cl base l env st=some (env',st')→
   Inv P z0i st g w→RepVs g env a.tmps.toList→(∀i,cnt≤i→i<m→g.blk (base+i)=none)→base+m≤st.next→
   (∀a' w' g',RepVs g' env' a'.tmps.toList→Inv P z0i st' g' w' →Step st g w st' g' w' →a'.defers=a.defers→(∀k b,g'.blk k=some b→g.blk k=some b∨base+cnt≤k)→Q .normal a' w')→
   wpOpsIn (Fw ro) 0 P ops.toArray Q js a w
 | [],cnt,pre,l,st,g,w,env,a,hc,h,hi,henv,hf,hm,hQ=>by
  simp only[cOrd,Option.some.injEq,Prod.mk.injEq] at hc
  obtain⟨rfl,rfl⟩:=hc
  simp only[z0m,Option.some.injEq,Prod.mk.injEq] at h
  obtain⟨rfl,rfl⟩:=h
  exact hQ a w g henv hi (Step.refl st g w) rfl fun _ _ hb=> .inl hb
 |j::js,cnt,pre,l,st,g,w,env,a,hc,h,hi,henv,hf,hm,hQ=>by
  simp only[cOrd] at hc
  split at hc
  ·cases hc
  ·rename_i o ho
   split at hc
   ·rename_i gd ks hgd hks
    cases hks
    split at hc
    ·rename_i n l' hrest
     cases hc
     simp only[Bool.false_and,Bool.or_false] at h
     have hle:cnt+1≤m:=by
      have:=z73 hrest
      omega
     simp only[wpOpsIn,List.getElem?_toArray,ho]
     rw[zgy henv hgd]
     simp only[z0m] at h
     split at h
     ·rename_i hw
      rw[if_pos hw]
      split at h
      ·cases h
      ·rename_i v st1 hop
       simp only[kept,if_true] at h
       have stp:∀{K:Act→World→Prop},(∀u w' g',RepV g' v u→Inv P z0i st1 g' w' →Step st g w st1 g' w' →(∀k b,g'.blk k=some b→g.blk k=some b∨k=base+cnt∨st.next≤k)→K (a.put o.dst u) w')→o.wpIn (Fw ro) 0 P a w K Q:=fun {K} hK=>by
        cases nf with
        |true=>exact zos hcl hi henv hop (hf cnt (Nat.le_refl _) ω) ω hK
        |false=>exact zfg hcl hi henv hop (hf cnt (Nat.le_refl _) ω) ω hK
       refine stp fun u w1 g1 hu hi1 hs1 hk1=> ?_
       refine z7q hcl js (cnt+1) (j::pre) l' st1 g1 w1 _ _ hrest h hi1 (zbm (RepVs.mono hs1.ext henv) hu) (fun i hi' him=> ?_) (Nat.le_trans hm hs1.next) fun a' w' g' h1 h2 h3 h4 h5=> ?_
       ·cases hb:g1.blk (base+i) with
        |none=>rfl
        |some b=>
         rcases hk1 _ _ hb with h6|h6|h6
         ·rw[hf i ω him] at h6;cases h6
         ·omega
         ·omega
       ·refine hQ a' w' g' h1 h2 (hs1.trans h3) ?_ fun k b hb=> ?_
        ·rw[h4];cases o.dst<;>rfl
        ·rcases h5 k b hb with h6|h6
         ·rcases hk1 k b h6 with h7|h7|h7
          ·exact .inl h7
          ·exact .inr ω
          ·exact .inr ω
         ·exact .inr ω
     ·rename_i hw
      rw[if_neg hw]
      refine⟨fun _ _=>trivial,?_⟩
      refine z7q hcl js (cnt+1) (j::pre) l' st g w _ _ hrest h hi (zbm henv z5s) (fun i hi' him=>hf i ω him) hm fun a' w' g' h1 h2 h3 h4 h5=> ?_
      refine hQ a' w' g' h1 h2 h3 ?_ fun k b hb=> ?_
      ·rw[h4];cases o.dst<;>rfl
      ·rcases h5 k b hb with h6|h6
       ·exact .inl h6
       ·exact .inr ω
    ·cases hc
   ·cases hc
end Go.Lift
namespace Go.Lift
open Go
variable{o:IOp}{k:IK}{t base:Nat}{st st2 st':St}{env:Lv}{v:V}
mutual
theorem D.eq_of_beq:∀{x y:D},D.beq x y=true→x=y
 | .bool a,y,h=>by cases y<;>simp[D.beq] at h;rw[h]
 | .int k n,y,h=>by cases y<;>simp[D.beq] at h;rw[h.1,h.2]
 | .str s,y,h=>by cases y<;>simp[D.beq] at h;rw[h]
 | .sl l,y,h=>by
  cases y<;>simp[D.beq] at h
  rw[D.eq_of_beqL h]
 | .agg l,y,h=>by
  cases y<;>simp[D.beq] at h
  rw[D.eq_of_beqL h]
theorem D.eq_of_beqL:∀{l m:List D},D.beqL l m=true→l=m
 | [],m,h=>by cases m<;>simp[D.beqL] at h;rfl
 |x::l,m,h=>by
  cases m<;>simp[D.beqL] at h
  rw[D.eq_of_beq h.1,D.eq_of_beqL h.2]
end
mutual
theorem V.eq_of_beq:∀{x y:V},V.beq x y=true→x=y
 | .d a,y,h=>by cases y<;>simp[V.beq] at h;rw[D.eq_of_beq h]
 | .nilS,y,h=>by cases y<;>simp[V.beq] at h;rfl
 | .emp,y,h=>by cases y<;>simp[V.beq] at h;rfl
 | .arr k es ag off len,y,h=>by cases y<;>simp[V.beq] at h;obtain⟨⟨⟨⟨rfl,rfl⟩,rfl⟩,rfl⟩,rfl⟩:=h;rfl
 | .ptr k off,y,h=>by cases y<;>simp[V.beq] at h;obtain⟨rfl,rfl⟩:=h;rfl
 | .dptr l,y,h=>by cases y<;>simp[V.beq] at h;rw[D.eq_of_beqL h]
 | .nilP,y,h=>by cases y<;>simp[V.beq] at h;rfl
 | .map k,y,h=>by cases y<;>simp[V.beq] at h;rw[h]
 | .nilM,y,h=>by cases y<;>simp[V.beq] at h;rfl
 | .fn f a b,y,h=>by cases y<;>simp[V.beq] at h;rw[h.1.1,V.eq_of_beqL h.1.2,V.eq_of_beqL h.2]
 | .yld k,y,h=>by cases y<;>simp[V.beq] at h;rw[h]
 | .nilF,y,h=>by cases y<;>simp[V.beq] at h;rfl
 | .agg l,y,h=>by cases y<;>simp[V.beq] at h;rw[V.eq_of_beqL h]
 | .tup l,y,h=>by cases y<;>simp[V.beq] at h;rw[V.eq_of_beqL h]
theorem V.eq_of_beqL:∀{l m:List V},V.beqL l m=true→l=m
 | [],m,h=>by cases m<;>simp[V.beqL] at h;rfl
 |x::l,m,h=>by
  cases m<;>simp[V.beqL] at h
  rw[V.eq_of_beq h.1,V.eq_of_beqL h.2]
end
theorem zef:∀{l m:List (D×V)},beqM l m=true→l=m
 | [],m,h=>by cases m<;>simp[beqM] at h;rfl
 | (a,x)::l,m,h=>by
  cases m with
  |nil=>simp[beqM] at h
  |cons p m=>
   obtain⟨b,y⟩:=p
   simp[beqM] at h
   rw[D.eq_of_beq h.1.1,V.eq_of_beq h.1.2,zef h.2]
def Obj.eq_of_beq {o p:Obj} (h:Obj.beq o p=true):o=p:=by
 cases o<;>cases p<;>simp[Obj.beq] at h
 ·rw[V.eq_of_beqL h]
 ·rw[D.eq_of_beqL h]
 ·rw[h.1,zef h.2]
 ·rw[h.1,h.2]
def refK:V→Option Nat
 | .ptr k _=>some k
 | .map k=>some k
 | .arr k _ _ _ _=>some k
 |_=>none
def zx3:IK→Option Opd
 | .load _ _ a=>some a
 | .lookup _ _ _ _ _ m _=>some m
 | .sliceL _ x _ _=>some x
 | .sliceA _ _ _ x _ _=>some x
 | .lenM x=>some x
 |_=>none
def zjm   (h:zhe k=some t):zx3 k=some (.t t):=by
 unfold zhe at h
 split at h<;>first| (cases h;rfl)| (cases h;done)
def zes (st st2:St) (x:V):Prop:=∀k,refK x=some k→sget st2.s k=sget st.s k
def z9l  {k:Nat} (h:sget st2.s k=sget st.s k):st2.cells? k=st.cells? k:=by
 unfold St.cells? scells
 rw[h]
def zjr  {n:Nat} {ag:Bool} {x:V} (h:zes st st2 x):z1s st2 n ag x=z1s st n ag x:=by
 cases x<;>try rfl
 case ptr k off=>
  simp only[z1s,z9l (h k rfl)]
def zfh  {kt:Nat} {ag ok:Bool} {sh:List Kc} {z m k:V} (h:zes st st2 m):z27 st2 kt ag sh ok z m k=z27 st kt ag sh ok z m k:=by
 cases k<;>try rfl
 cases m<;>try rfl
 case map j=>
  simp only[z27,St.get,h j rfl]
def zjs  {x:V} (h:zes st st2 x):z5c st2 x=z5c st x:=by
 cases x<;>try rfl
 case map j=>simp only[z5c,St.get,h j rfl]
def zxd      (hp:z1l k= .p) (h:evalOp base env st k=some (v,st')) (st2:St):st' =st∧evalOp base env st2 k=some (v,st2):=by
 cases k<;>simp only[z1l,reduceCtorEq] at hp<;>simp only[evalOp] at h⊢
 all_goals
  repeat' split at h
  all_goals first
   | (cases h;done)
   | (cases h;exact⟨rfl,by simp_all⟩)
   | (cases h;exact⟨rfl,rfl⟩)
def zrs      (hp:z1l k= .r) (h:evalOp base env st k=some (v,st')) (hs:∀x,zx3 k=some x→zes st st2 (evO env x)):st' =st∧evalOp base env st2 k=some (v,st2):=by
 cases k<;>simp only[z1l,reduceCtorEq] at hp
 case load n ag a=>
  have:=hs a rfl
  simp only[evalOp,zjr this] at h⊢
  split at h
  ·rename_i y hy
   cases h
   exact⟨rfl,rfl⟩
  ·cases h
 case lookup kt ag sh ok z m k=>
  have:=hs m rfl
  simp only[evalOp,zfh this] at h⊢
  split at h
  ·rename_i y hy
   cases h
   exact⟨rfl,rfl⟩
  ·cases h
 case lenM x=>
  have:=hs x rfl
  simp only[evalOp,zjs this] at h⊢
  split at h
  ·rename_i y hy
   cases h
   exact⟨rfl,rfl⟩
  ·cases h
 case sliceL es x lo hi=>
  have:=hs x rfl
  simp only[evalOp] at h⊢
  cases hx:evO env x<;>rw[hx] at this<;>simp only[hx] at h⊢<;>try (cases h;done)
  case arr k es' ag off len=>
   rw[z9l (this k rfl)]
   repeat' split at h
   all_goals first| (cases h;done)| (cases h;exact⟨rfl,by simp_all⟩)
  all_goals
   repeat' split at h
   all_goals first| (cases h;done)| (cases h;exact⟨rfl,by simp_all⟩)
 case sliceA n es ag x lo hi=>
  have:=hs x rfl
  simp only[evalOp] at h⊢
  cases hx:evO env x<;>rw[hx] at this<;>simp only[hx] at h⊢<;>try (cases h;done)
  case ptr k off=>
   rw[z9l (this k rfl)]
   repeat' split at h
   all_goals first| (cases h;done)| (cases h;exact⟨rfl,by simp_all⟩)
theorem zhy {env:List V} {a b:St} :∀{ks:List Nat},kept env a b ks=true→∀t∈ks,zes a b (env.getD t .undef)
 | [],_,t,ht=>by simp at ht
 |s::ks,h,t,ht=>by
  simp only[kept,Bool.and_eq_true] at h
  rcases List.mem_cons.1 ht with rfl|ht
  ·have h1:=h.1
   have key:∀k,(match a.get k,b.get k with|some o,some p=>Obj.beq o p|_,_=>false)=true→sget b.s k=sget a.s k:=fun k hk=>by
    split at hk
    ·rename_i o p ho hp
     rw[Obj.eq_of_beq hk] at ho
     exact hp.trans ho.symm
    ·cases hk
   intro k hk
   cases hx:env.getD t .undef<;>rw[hx] at h1 hk<;>simp only[refK,reduceCtorEq,Option.some.injEq] at hk<;>subst hk<;>exact key _ h1
  ·exact zhy h.2 t ht
inductive It where
 |op (j:Nat) (o:IOp)
 |ins (j key:Nat) (obj:Obj)
def z0k (cl:z12) (base:Nat):List It→List V→St→Option (List V×St)
 | [],env,st=>some (env,st)
 | .op _ o::r,env,st=>
  if wantedE env o.gd then
   match evalIOp cl base env st o with
   |none=>none
   |some (v,st')=>if kept env st st' o.keep then z0k cl base r (setE env o.dst v) st' else none
  else z0k cl base r (setE env o.dst .undef) st
 | .ins _ key obj::r,env,st=>z0k cl base r env (st.ins key obj)
theorem z1k {cl:z12} {base:Nat} :∀{l m:List It} {env:List V} {st:St},z0k cl base (l++m) env st= (z0k cl base l env st).bind fun p=>z0k cl base m p.1 p.2
 | [],m,env,st=>rfl
 | .op j o::l,m,env,st=>by
  simp only[List.cons_append,z0k]
  split
  ·split
   ·rfl
   ·split
    ·exact z1k
    ·rfl
  ·exact z1k
 | .ins j key obj::l,m,env,st=>by
  simp only[List.cons_append,z0k]
  exact z1k
def itOf (p:Nat×IOp):It:= .op p.1 p.2
theorem z81 {cl:z12} {base:Nat} :∀{l:List (Nat×IOp)} {env:List V} {st:St},z0k cl base (l.map itOf) env st=z0m cl base (l.map Prod.snd) env st
 | [],env,st=>rfl
 | (j,o)::l,env,st=>by
  simp only[List.map_cons,itOf,z0k,z0m]
  by_cases hw:wantedE env o.gd=true
  ·simp only[hw,if_true]
   cases evalIOp cl base env st o with
   |none=>rfl
   |some p=>
    obtain⟨v,st'⟩:=p
    simp only
    by_cases hk:kept env st st' o.keep=true
    ·simp only[hk,if_true]
     exact z81
    ·simp only[hk,Bool.false_eq_true,if_false]
  ·simp only[hw,Bool.false_eq_true,if_false]
   exact z81
def z9w {B:List (List Nat)} :∀{l:List (Nat×IOp)},zfi B l=true→l.Pairwise fun x y=>ze1 B x y=true
 | [],_=>List.Pairwise.nil
 |x::l,h=>by
  simp only[zfi,Bool.and_eq_true,List.all_eq_true] at h
  exact List.Pairwise.cons h.1 (z9w h.2)
def z5y {cl:z12} {base:Nat} {dst:Option Nat} {v:V} :∀{l:List It} {env env1:List V} {st st1:St},(∀j o,It.op j o∈l→∀d,dst=some d→d∉looks o∧o.dst≠some d)→
  z0k cl base l env st=some (env1,st1)→z0k cl base l (setE env dst v) st=some (setE env1 dst v,st1)
 | [],env,env1,st,st1,_,h=>by
  simp only[z0k,Option.some.injEq,Prod.mk.injEq] at h⊢
  exact⟨by rw[h.1],h.2⟩
 | .ins j key obj::l,env,env1,st,st1,hd,h=>by
  simp only[z0k] at h⊢
  exact z5y (fun j o ho=>hd j o (by simp[ho])) h
 | .op j o::l,env,env1,st,st1,hd,h=>by
  have hdo:=hd j o ψ
  have hdl:∀j o,It.op j o∈l→∀d,dst=some d→d∉looks o∧o.dst≠some d:=fun j o ho=>hd j o (by simp[ho])
  have hw:wantedE (setE env dst v) o.gd=wantedE env o.gd:=zo8 fun d hdd t w hg e=>by
   subst e
   exact (hdo d hdd).1 (by simp[looks,z7g,hg])
  have ha:Agree (setE env dst v) env (z0s o.op):=zvy fun d hdd hm=> (hdo d hdd).1 (by
   simp only[looks,z7g,List.mem_append]
   exact .inl (.inl hm))
  have hk:∀a b,kept (setE env dst v) a b o.keep=kept env a b o.keep:=fun a b=>zmj fun d hdd hm=> (hdo d hdd).1 (by
   simp only[looks,List.mem_append]
   exact .inr hm)
  have hcomm:∀u,setE (setE env dst v) o.dst u=setE (setE env o.dst u) dst v:=fun u=>zrd fun x hx=> (hdo x hx).2
  simp only[z0k,hw,z8s o ha,hk,hcomm] at h⊢
  split at h
  ·rename_i hwt
   rw[if_pos hwt]
   split at h
   ·cases h
   ·rename_i u st' he
    split at h
    ·rename_i hkt
     simp only[hkt,if_true]
     exact z5y hdl h
    ·cases h
  ·rename_i hwt
   rw[if_neg hwt]
   exact z5y hdl h
def isOp:It→Bool
 | .op _ _=>true
 | .ins _ _ _=>false
def z2n (l:List It):List It:=l.filter isOp
def z1g:List It→Sto
 | []=> []
 | .op _ _::l=>z1g l
 | .ins _ k o::l=> (k,o)::z1g l
def z7c:St→Sto→St
 |st,[]=>st
 |st,(k,o)::l=>z7c (st.ins k o) l
def PR (l:List It):Prop:=∀j o,It.op j o∈l→z1l o.op= .p∨z1l o.op= .r
def PR.tail {x:It} {l:List It} (h:PR (x::l)):PR l:=fun j o ho=>h j o (by simp[ho])
def z44  (h:z1l o.op= .p∨z1l o.op= .r) (cl:z12) (base:Nat) (env:Lv) (st:St):evalIOp cl base env st o=evalOp base env st o.op:=by
 unfold evalIOp
 split
 ·rename_i f args e
  rw[e] at h
  simp[z1l] at h
 ·rfl
def y5y      (hp:z1l k= .r) (h:evalOp base env st k=some (v,st')) {x:Opd} (hx:zx3 k=some x) {n:Nat} (hn:refK (evO env x)=some n):∃o,sget st.s n=some o:=by
 cases k<;>simp only[z1l,reduceCtorEq] at hp<;>simp only[zx3,Option.some.injEq] at hx<;>subst hx<;>simp only[evalOp] at h
 case load m ag a=>
  cases hv:evO env a<;>rw[hv] at hn h<;>simp only[refK,reduceCtorEq,Option.some.injEq] at hn<;>simp only[z1s,reduceCtorEq] at h
  subst hn
  unfold St.cells? scells at h
  cases e:sget st.s _ with
  |some o=>exact⟨o,rfl⟩
  |none=>rw[e] at h;simp at h
 case lookup kt ag sh ok z m k=>
  cases hv:evO env m<;>rw[hv] at hn h<;>simp only[refK,reduceCtorEq,Option.some.injEq] at hn
  case map j=>
   subst hn
   cases e:sget st.s j with
   |some o=>exact⟨o,rfl⟩
   |none=>
    exfalso
    cases hk:evO env k<;>rw[hk] at h<;>simp only[z27,reduceCtorEq] at h
    simp only[St.get,e] at h
    split at h<;>rename_i hh<;>first| (cases h;done)| (split at hh<;>cases hh)
  all_goals
   exfalso
   cases hk:evO env k<;>rw[hk] at h<;>simp only[z27,reduceCtorEq] at h
   split at h<;>rename_i hh<;>first| (cases h;done)| (split at hh<;>cases hh)
 case lenM a=>
  cases hv:evO env a<;>rw[hv] at hn h<;>simp only[refK,reduceCtorEq,Option.some.injEq] at hn<;>simp only[z5c,reduceCtorEq] at h
  subst hn
  cases e:sget st.s _ with
  |some o=>exact⟨o,rfl⟩
  |none=>simp[St.get,e] at h
 case sliceL es a lo hi=>
  cases hv:evO env a<;>rw[hv] at hn h<;>simp only[refK,reduceCtorEq,Option.some.injEq] at hn<;>simp only[reduceCtorEq] at h
  subst hn
  unfold St.cells? scells at h
  cases e:sget st.s _ with
  |some o=>exact⟨o,rfl⟩
  |none=>rw[e] at h;simp at h
 case sliceA n' es ag a lo hi=>
  cases hv:evO env a<;>rw[hv] at hn h<;>simp only[refK,reduceCtorEq,Option.some.injEq] at hn<;>simp only[reduceCtorEq] at h
  subst hn
  unfold St.cells? scells at h
  cases e:sget st.s _ with
  |some o=>exact⟨o,rfl⟩
  |none=>rw[e] at h;simp at h
def zkf {cl:z12} {base:Nat} {st2:St} :∀{l:List It} {env env1:List V} {st st1:St},PR l→z0k cl base l env st=some (env1,st1)→
  (∀k o,sget st.s k=some o→sget st2.s k=some o)→(∀p∈z1g l,sget st2.s p.1=some p.2)→(∀p∈z1g l,sget st.s p.1=none)→((z1g l).map Prod.fst).Nodup→
  (∀(j:Nat) (o:IOp),It.op j o∈l→o.keep= [])→
  st1=z7c st (z1g l)∧z0k cl base (z2n l) env st2=some (env1,st2)
 | [],env,env1,st,st1,_,h,_,_,_,_,_=>by
  simp only[z0k,Option.some.injEq,Prod.mk.injEq] at h
  obtain⟨rfl,rfl⟩:=h
  exact⟨rfl,rfl⟩
 | .ins j key obj::l,env,env1,st,st1,hpr,h,h1,h2,h3,h4,h5=>by
  simp only[z0k] at h
  simp only[z1g,List.map_cons,List.nodup_cons] at h2 h3 h4
  simp only[z1g,z7c,z2n,List.filter_cons,isOp,Bool.false_eq_true,if_false]
  refine zkf hpr.tail h (fun k o ho=> ?_) (fun p hp=>h2 p (by simp[hp])) (fun p hp=> ?_) h4.2 (fun j o ho=>h5 j o (by simp[ho]))
  ·simp only[St.ins,sget] at ho
   by_cases e:key=k
   ·subst e
    simp only[if_true,Option.some.injEq] at ho
    subst ho
    exact h2 (key,obj) ψ
   ·simp only[e,if_false] at ho
    exact h1 k o ho
  ·simp only[St.ins,sget]
   have hne:key≠p.1:=fun e=>h4.1 (e▸List.mem_map.2 ⟨p,hp,rfl⟩)
   simp only[hne,if_false]
   exact h3 p (by simp[hp])
 | .op j o::l,env,env1,st,st1,hpr,h,h1,h2,h3,h4,h5=>by
  have hcls:=hpr j o ψ
  simp only[z0k,z44 hcls] at h
  simp only[z1g] at h2 h3 h4⊢
  simp only[z2n,List.filter_cons,isOp,if_true,z0k,z44 hcls]
  have rest:∀{env' :List V} {st' :St},st' =st→z0k cl base l env' st' =some (env1,st1)→st1=z7c st (z1g l)∧z0k cl base (z2n l) env' st2=some (env1,st2):=fun {env' st'} e hh=>by
   subst e
   exact zkf hpr.tail hh h1 h2 h3 h4 (fun j o ho=>h5 j o (by simp[ho]))
  split at h
  ·rename_i hw
   rw[if_pos hw]
   split at h
   ·cases h
   ·rename_i v st' he
    split at h
    ·rename_i hk
     have key:st' =st∧evalOp base env st2 o.op=some (v,st2):=by
      rcases hcls with hc|hc
      ·exact zxd hc he st2
      ·refine zrs hc he fun x hx n hn=> ?_
       obtain⟨ob,hob⟩:=y5y hc he hx hn
       rw[hob]
       exact h1 n ob hob
     obtain⟨rfl,he2⟩:=key
     simp only[he2]
     rw[if_pos (by rw[h5 j o ψ];rfl)]
     exact rest rfl h
    ·cases h
  ·rename_i hw
   rw[if_neg hw]
   exact rest rfl h
def z8o  {dst:Option Nat} {u:V}  (h:∀d,dst=some d→d≠t): (setE env dst u).getD t .undef=env.getD t .undef:=by
 cases dst with
 |none=>rfl
 |some d=>
  have hdt:d≠t:=h d rfl
  simp only[setE,List.getD,List.getElem?_set,hdt,if_false]
theorem z3b {cl:z12} {base t:Nat} :∀{l:List It} {env env1:List V} {st st1:St},z0k cl base l env st=some (env1,st1)→(∀j c,It.op j c∈l→∀d,c.dst=some d→d≠t)→env1.getD t .undef=env.getD t .undef
 | [],env,env1,st,st1,h,_=>by
  simp only[z0k,Option.some.injEq,Prod.mk.injEq] at h
  rw[h.1]
 | .ins j key obj::l,env,env1,st,st1,h,hd=>by
  simp only[z0k] at h
  exact z3b h fun j c hc=>hd j c (by simp[hc])
 | .op j o::l,env,env1,st,st1,h,hd=>by
  have ht:∀j c,It.op j c∈l→∀d,c.dst=some d→d≠t:=fun j c hc=>hd j c (by simp[hc])
  simp only[z0k] at h
  split at h
  ·split at h
   ·cases h
   ·split at h
    ·rw[z3b h ht,z8o (hd j o ψ)]
    ·cases h
  ·rw[z3b h ht,z8o (hd j o ψ)]
def y58 (x y:It):Prop:=∀i a j b,x= .op i a→y= .op j b→za5 a b=true
def zin {a b:IOp}  (h:za5 a b=true) (ht:zhe a.op=some t):b.dst≠some t:=by
 unfold za5 at h
 rw[ht] at h
 simpa using h
def zua {cl:z12} {base:Nat} {st2:St} :∀{l:List It} {env env1:List V} {st st1:St},PR l→(∀x∈l,isOp x=true)→z0k cl base l env st=some (env1,st1)→
  (∀j o,It.op j o∈l→z1l o.op= .r→∃t,zhe o.op=some t∧zes st st2 (env1.getD t .undef))→
  l.Pairwise y58→(∀j o,It.op j o∈l→z1l o.op= .r→za5 o o=true)→
  (∀(j:Nat) (o:IOp),It.op j o∈l→o.keep= [])→
  st1=st∧z0k cl base l env st2=some (env1,st2)
 | [],env,env1,st,st1,_,_,h,_,_,_,_=>by
  simp only[z0k,Option.some.injEq,Prod.mk.injEq] at h
  obtain⟨rfl,rfl⟩:=h
  exact⟨rfl,rfl⟩
 | .ins j key obj::l,env,env1,st,st1,_,hop,h,_,_,_,_=>by
  have:=hop _ (List.mem_cons_self)
  simp[isOp] at this
 | .op j o::l,env,env1,st,st1,hpr,hop,h,h1,hcl,hself,h5=>by
  have hcls:=hpr j o ψ
  have hall:=h
  simp only[List.pairwise_cons] at hcl
  simp only[z0k,z44 hcls] at h⊢
  have rest:∀{u:V} {st' :St},st' =st→z0k cl base l (setE env o.dst u) st' =some (env1,st1)→st1=st∧z0k cl base l (setE env o.dst u) st2=some (env1,st2):=fun {u st'} e hh=>by
   subst e
   exact zua hpr.tail (fun x hx=>hop x (by simp[hx])) hh (fun j' o' ho' hc=>h1 j' o' (by simp[ho']) hc) hcl.2 (fun j o ho=>hself j o (by simp[ho])) (fun j o ho=>h5 j o (by simp[ho]))
  split at h
  ·rename_i hw
   rw[if_pos hw]
   split at h
   ·cases h
   ·rename_i v st' he
    split at h
    ·rename_i hk
     have key:st' =st∧evalOp base env st2 o.op=some (v,st2):=by
      rcases hcls with hc|hc
      ·exact zxd hc he st2
      ·refine zrs hc he fun x hx=> ?_
       obtain⟨t,h6,h7⟩:=h1 j o ψ hc
       rw[zjm h6] at hx
       cases hx
       have hun:env1.getD t .undef=env.getD t .undef:=z3b hall fun j' c hc' d hd e=>by
        subst e
        rcases List.mem_cons.1 hc' with e|hm
        ·cases e
         exact zin (hself j o ψ hc) h6 hd
        ·exact zin (hcl.1 _ hm j o j' c rfl rfl) h6 hd
       rw[hun] at h7
       exact h7
     obtain⟨rfl,he2⟩:=key
     simp only[he2]
     rw[if_pos (by rw[h5 j o ψ];rfl)]
     exact rest rfl h
    ·cases h
  ·rename_i hw
   rw[if_neg hw]
   exact rest rfl h
def zq0 {env':Lv} {l:List Opd} (h:∀t,Opd.t t∈l→env.getD t .undef=env'.getD t .undef):Agree env env' l:=by
 intro x hx
 cases x with
 |c v=>rfl
 |t n=>exact h n hx
def zj8 {env':Lv} {gd:Option (Nat×Bool)} (h:∀t w,gd=some (t,w)→env.getD t .undef=env'.getD t .undef):wantedE env gd=wantedE env' gd:=by
 cases gd with
 |none=>rfl
 |some p=>
  obtain⟨t,w⟩:=p
  simp only[wantedE,h t w rfl]
def zsz   (h:Opd.t t∈z0s o.op):t∈z7g o:=by
 simp only[z7g,List.mem_append]
 exact .inl (List.mem_filterMap.2 ⟨_,h,rfl⟩)
def zxy   {w:Bool} (h:o.gd=some (t,w)):t∈z7g o:=by simp[z7g,h]
def y9k      (hp:z1l k= .a) (hs:z3l k=false) (h:evalOp base env st k=some (v,st')):∃key obj,st' =st.ins key obj∧∀st2,evalOp base env st2 k=some (v,st2.ins key obj):=by
 cases k<;>simp only[z1l,reduceCtorEq] at hp
 case alloc ai z=>simp only[evalOp] at h⊢;cases h;exact⟨_,_,rfl,fun _=>rfl⟩
 case mkmap ai kt=>simp only[evalOp] at h⊢;cases h;exact⟨_,_,rfl,fun _=>rfl⟩
 case box ai x=>
  simp only[evalOp] at h⊢
  split at h
  ·rename_i hc
   cases h
   exact⟨_,_,rfl,fun _=>by rw[if_pos hc]⟩
  ·cases h
 case rangeS ai x=>
  simp only[evalOp] at h⊢
  split at h
  ·rename_i s hs
   cases h
   exact⟨_,_,rfl,fun _=>rfl⟩
  ·cases h
 case mkslice ai es ag eb z l c=>
  simp only[evalOp] at h⊢
  split at h
  ·rename_i li ci h1 h2
   split at h
   ·rename_i hc
    cases h
    exact⟨_,_,rfl,fun _=>by rw[if_pos hc]⟩
   ·cases h
  ·cases h
 case mkSl ai es ag nf z len parts=>
  cases nf with
  |false=>simp[z3l] at hs
  |true=>
   simp only[evalOp,if_true] at h⊢
   split at h
   ·rename_i hc
    split at h
    ·rename_i cs hcs
     split at h
     ·rename_i hcell
      cases h
      exact⟨_,_,rfl,fun _=>by rw[if_pos hc,if_pos hcell]⟩
     ·cases h
    ·cases h
   ·cases h
end Go.Lift
