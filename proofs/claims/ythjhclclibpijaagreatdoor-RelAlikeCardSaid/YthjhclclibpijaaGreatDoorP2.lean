/- Part P2 of the proof. -/
import Derived.Test.YthjhclclibpijaaGreatDoorP1
import Derived.LoopNIn
import Derived.RangeFuncLeaves
import Derived.Laws.Sem
import Derived.ChangeArms
import Derived.WideKeyArgs
set_option linter.all false
set_option maxHeartbeats 4000000
set_option maxRecDepth 100000
namespace Go.Lift
open Go
variable{env1:Lv}{st1:St}
def zc9 {a b:IOp} (h:zk9 a b=true): (∀d,a.dst=some d→d∉z7g b∧b.dst≠some d)∧∀d,b.dst=some d→d∉looks a:=by
 unfold zk9 at h
 simp only[Bool.and_eq_true] at h
 refine⟨fun d hd=> ?_,fun d hd=> ?_⟩
 ·have:=h.1
  rw[hd] at this
  simpa using this
 ·have:=h.2
  rw[hd] at this
  simpa using this
section
variable {cl:z12} {base:Nat} {pre post:List It} {i:Nat} {o:IOp} {env env' :List V} {st st' :St}
def zdo (h:z0k cl base (pre++ .op i o::post) env st=some (env',st')):∃env1 st1,z0k cl base pre env st=some (env1,st1)∧z0k cl base (.op i o::post) env1 st1=some (env',st'):=by
 rw[z1k] at h
 cases hp:z0k cl base pre env st with
 |none=>rw[hp] at h;cases h
 |some p=>obtain⟨env1,st1⟩:=p;rw[hp] at h;exact⟨env1,st1,rfl,h⟩
variable (hind:∀j c,It.op j c∈pre→zk9 c o=true)
include hind
def zll   (h:z0k cl base pre env st=some (env1,st1)):∀t∈z7g o,env1.getD t .undef=env.getD t .undef:=fun t ht=>
 z3b h fun j c hc d hd e=> (zc9 (hind j c hc)).1 d hd|>.1 (e▸ht)
theorem zog   (h:z0k cl base pre env st=some (env1,st1)):Agree env env1 (z0s o.op):=zq0 fun t ht=> (zll hind h t (zsz ht)).symm
theorem zbf   (h:z0k cl base pre env st=some (env1,st1)):wantedE env1 o.gd=wantedE env o.gd:=zj8 fun t w hg=>zll hind h t (zxy hg)
theorem zf3   {v:V} (h:z0k cl base pre env st=some (env1,st1)):z0k cl base pre (setE env o.dst v) st=some (setE env1 o.dst v,st1):=
 z5y (fun j c hc d hd=>⟨(zc9 (hind j c hc)).2 d hd,fun e=> (zc9 (hind j c hc)).1 d e|>.2 hd⟩) h
def zev (h:z0k cl base (pre++ .op i o::post) env st=some (env',st')) (hw:wantedE env o.gd=false):z0k cl base (pre++post) (setE env o.dst .undef) st=some (env',st'):=by
 obtain⟨env1,st1,h1,h2⟩:=zdo h
 rw[z1k,zf3 hind h1]
 simp only[z0k,zbf hind h1,hw,Bool.false_eq_true,if_false] at h2
 exact h2
def z7k (h:z0k cl base (pre++ .op i o::post) env st=some (env',st')) (hw:wantedE env o.gd=true):∃env1 st1 v st2,z0k cl base pre env st=some (env1,st1)∧evalIOp cl base env st1 o=some (v,st2)∧kept env1 st1 st2 o.keep=true∧z0k cl base post (setE env1 o.dst v) st2=some (env',st'):=by
 obtain⟨env1,st1,h1,h2⟩:=zdo h
 simp only[z0k,zbf hind h1,hw,if_true] at h2
 split at h2
 ·cases h2
 ·rename_i v st2 he
  split at h2
  ·rename_i hk
   refine⟨env1,st1,v,st2,h1,?_,hk,h2⟩
   rw[z8s o (zog hind h1)];exact he
  ·cases h2
def y5m (h:z0k cl base (pre++ .op i o::post) env st=some (env',st')) (hw:wantedE env o.gd=true) (hp:z1l o.op= .p):
  ∃v,evalOp base env st o.op=some (v,st)∧z0k cl base (pre++post) (setE env o.dst v) st=some (env',st'):=by
 obtain⟨env1,st1,v,st2,h1,h2,_,h3⟩:=z7k hind h hw
 rw[z44 (.inl hp)] at h2
 obtain⟨rfl,_⟩:=zxd hp h2 st1
 refine⟨v,(zxd hp h2 st).2,?_⟩
 rw[z1k,zf3 hind h1]
 exact h3
def y5n (h:z0k cl base (pre++ .op i o::post) env st=some (env',st')) (hw:wantedE env o.gd=true) (hp:z1l o.op= .a) (hs:z3l o.op=false):
  ∃v key obj,(∀st2,evalOp base env st2 o.op=some (v,st2.ins key obj))∧z0k cl base (pre++ .ins i key obj::post) (setE env o.dst v) st=some (env',st'):=by
 obtain⟨env1,st1,v,st2,h1,h2,_,h3⟩:=z7k hind h hw
 have he:evalOp base env st1 o.op=some (v,st2):=by
  unfold evalIOp at h2
  split at h2
  ·rename_i f args e
   rw[e] at hp
   simp[z1l] at hp
  ·exact h2
 obtain⟨key,obj,rfl,h4⟩:=y9k hp hs he
 refine⟨v,key,obj,h4,?_⟩
 rw[z1k,zf3 hind h1]
 exact h3
def zod (h:z0k cl base (pre++ .op i o::post) env st=some (env',st')) (hw:wantedE env o.gd=true) (hpr:PR pre) (hkeep:∀j c,It.op j c∈pre→c.keep= [])
  (hfresh:∀p∈z1g pre,sget st.s p.1=none) (hnd: ((z1g pre).map Prod.fst).Nodup) (hclr:pre.Pairwise y58) (hself:∀j c,It.op j c∈pre→z1l c.op= .r→za5 c c=true) (hread:z1l o.op= .r∨∀j c,It.op j c∈pre→z1l c.op= .r→zhf c.op o.keep=true):
  ∃v s2,evalIOp cl base env (z7c st (z1g pre)) o=some (v,s2)∧z0k cl base (z2n pre++post) (setE env o.dst v) s2=some (env',st'):=by
 obtain⟨env1,st1,v,st2,h1,h2,hk,h3⟩:=z7k hind h hw
 have hfl:∀(l:Sto) (st:St),(∀p∈l,sget st.s p.1=none)→(l.map Prod.fst).Nodup→(∀k x,sget st.s k=some x→sget (z7c st l).s k=some x)∧∀p∈l,sget (z7c st l).s p.1=some p.2:=by
  intro l
  induction l with
  |nil=>exact fun st _ _=>⟨fun k x hx=>hx,fun p hp=>by simp at hp⟩
  |cons q l ih=>
   obtain⟨key,obj⟩:=q
   intro st hf hn
   simp only[List.map_cons,List.nodup_cons] at hn
   have hf' :∀p∈l,sget (st.ins key obj).s p.1=none:=fun p hp=>by
    have hne:key≠p.1:=fun e=>hn.1 (e▸List.mem_map.2 ⟨p,hp,rfl⟩)
    simp only[St.ins,sget,hne,if_false]
    exact hf p (by simp[hp])
   obtain⟨h5,h6⟩:=ih (st.ins key obj) hf' hn.2
   refine⟨fun k x hx=>h5 k x ?_,fun p hp=> ?_⟩
   ·have hne:key≠k:=fun e=>by
     have:=hf (key,obj) ψ
     simp only at this
     rw[e,hx] at this
     cases this
    simp only[St.ins,sget,hne,if_false]
    exact hx
   ·rcases List.mem_cons.1 hp with rfl|hp
    ·exact h5 _ _ (by simp[St.ins,sget])
    ·exact h6 p hp
 obtain⟨hf1,hf2⟩:=hfl _ st hfresh hnd
 obtain⟨rfl,h5⟩:=zkf (st2:=z7c st (z1g pre)) hpr h1 hf1 hf2 hfresh hnd hkeep
 refine⟨v,st2,h2,?_⟩
 have hpo:PR (z2n pre):=fun j c hc=>hpr j c (List.mem_filter.1 hc).1
 have hio:∀j c,It.op j c∈z2n pre→zk9 c o=true:=fun j c hc=>hind j c (List.mem_filter.1 hc).1
 have hko:∀j c,It.op j c∈z2n pre→c.keep= []:=fun j c hc=>hkeep j c (List.mem_filter.1 hc).1
 have h6:z0k cl base (z2n pre) env st2=some (env1,st2):=by
  rcases hread with hr|hr
  ·rw[z44 (.inr hr)] at h2
   obtain⟨rfl,_⟩:=zrs hr h2 (st2:=z7c st (z1g pre)) fun _ _ _ _=>rfl
   exact h5
  ·refine (zua hpo (fun x hx=> (List.mem_filter.1 hx).2) h5 (fun j c hc hcr=> ?_) (hclr.sublist List.filter_sublist) (fun j c hc=>hself j c (List.mem_filter.1 hc).1) hko).2
   have:=hr j c (List.mem_filter.1 hc).1 hcr
   unfold zhf at this
   split at this
   ·rename_i t ht
    have hmem:t∈o.keep:=by simpa using this
    exact⟨t,ht,zhy hk t hmem⟩
   ·cases this
 rw[z1k,zf3 hio h6]
 exact h3
end
variable {P:Program} {st:St} {g:Gh} {w:World}
def Pend (P:Program) (w0:World) (st:St) (g:Gh) (w:World) (key:Nat) (obj:Obj):Prop:=
 ∃b,g.blk key=some b∧w0.heap.size≤b∧b<w.heap.size∧¬Live st g b∧ObjRep P z0i g w b key obj
def Pend.step {w0:World} {key:Nat} {obj:Obj} {st' :St} {g' :Gh} {w' :World} (h:Pend P w0 st g w key obj) (hs:Step st g w st' g' w'):Pend P w0 st' g' w' key obj:=by
 obtain⟨b,h1,h2,h3,h4,h5⟩:=h
 have hx:=hs.ext.blk key b h1
 refine⟨b,hx.1,h2,Nat.lt_of_lt_of_le h3 hs.size,fun hl=> ?_,h5.mono hs.ext hx.2 (hs.ext.sh _ _ h1) (hs.same b h3 h4) fun hn j=> ?_⟩
 ·rcases hs.live b hl with h6|h6
  ·omega
  ·exact h4 h6
 ·cases e:g'.H b j with
  |none=>rfl
  |some v=>
   rcases hs.Hn b j v e with h6|h6|h6
   ·rw[hn j] at h6;cases h6
   ·omega
   ·exact absurd h6 h4
theorem zci {w0:World} {st0:St} {g0:Gh} :∀{l:Sto} {st:St},Inv P z0i st g w→Step st0 g0 w0 st g w→(∀p∈l,Pend P w0 st g w p.1 p.2)→(l.map Prod.fst).Nodup→(∀p∈l,∀q∈l,∀b,g.blk p.1=some b→g.blk q.1=some b→p.1=q.1)→
  Inv P z0i (z7c st l) g w∧Step st0 g0 w0 (z7c st l) g w∧(z7c st l).next=st.next∧∀key obj,Pend P w0 st g w key obj→(∀p∈l,∀b,g.blk p.1=some b→g.blk key≠some b)→Pend P w0 (z7c st l) g w key obj
 | [],st,hi,hs,_,_,_=>⟨hi,hs,rfl,fun _ _ h _=>h⟩
 | (k,o)::l,st,hi,hs,hp,hn,hinj=>by
  simp only[List.map_cons,List.nodup_cons] at hn
  obtain⟨b,h1,h2,h3,h4,h5⟩:=hp (k,o) ψ
  simp only at h1
  have keep:∀key obj,Pend P w0 st g w key obj→g.blk key≠some b→Pend P w0 (st.ins k o) g w key obj:=fun key obj ⟨c,e1,e2,e3,e4,e5⟩ hne=>by
   refine⟨c,e1,e2,e3,fun⟨j,x,hj,hc⟩=> ?_,e5⟩
   simp only[St.ins,sget] at hj
   by_cases e:k=j
   ·subst e
    rw[h1] at hc
    cases hc
    exact hne e1
   ·simp only[e,if_false] at hj
    exact e4 ⟨j,x,hj,hc⟩
  obtain⟨r1,r2,r3,r4⟩:=zci (hi.put h1 h4 h5) (hs.put h1 (.inl h2) o) (fun p hp' =>keep p.1 p.2 (hp p (by simp[hp'])) fun e=>hn.1 (by
   have:=hinj (k,o) ψ p (by simp[hp']) b h1 e
   simp only at this
   rw[this]
   exact List.mem_map.2 ⟨p,hp',rfl⟩)) hn.2 fun p hp' q hq=>hinj p (by simp[hp']) q (by simp[hq])
  refine⟨r1,r2,r3,fun key obj hk hne=>r4 key obj (keep key obj hk (hne (k,o) ψ b h1)) fun p hp' =>hne p (by simp[hp'])⟩
def OpAt (P:Program) (ops:List Oper) (pn:Nat→Nat) (j:Nat) (o:IOp):Prop:=
 ∃oper,ops[j]?=some oper∧o.dst=oper.dst∧zen ops oper.guard=some o.gd∧(o.op=cOp P (pn j) oper∨o.op=z2o (cOp P (pn j) oper))
def y55 (B:List (List Nat)) (x y:It):Prop:=∀i a j b,x= .op i a→y= .op j b→i≠j∧ze1 B (i,a) (j,b)=true
structure RI (P:Program) (ops:List Oper) (B:List (List Nat)) (pn:Nat→Nat) (base m:Nat) (w0:World) (st0:St) (g0:Gh) (listed:Array Bool) (its:List It) (st:St) (g:Gh) (w:World):Prop where
 size:listed.size=ops.length
 left:∀j o,It.op j o∈its→listed.getD j true=false∧OpAt P ops pn j o∧zsc o=true
 all:∀j,listed.getD j true=false→∃o,It.op j o∈its
 closed:∀j,j<ops.length→listed.getD j true=true→∀k∈B.getD j [],listed.getD k true=true
 pair:its.Pairwise (y55 B)
 keys: ((z1g its).map Prod.fst).Nodup
 pend:∀p∈z1g its,Pend P w0 st g w p.1 p.2
 inj:∀p∈z1g its,∀q∈z1g its,∀b,g.blk p.1=some b→g.blk q.1=some b→p.1=q.1
 fresh:∀j,listed.getD j true=false→g.blk (base+pn j)=none
 next:base+m≤st.next
 inv:Inv P z0i st g w
 step:Step st0 g0 w0 st g w
 new:∀k b,g.blk k=some b→g0.blk k=some b∨base≤k
theorem z0o:∀{l m:List It},z1g (l++m)=z1g l++z1g m
 | [],_=>rfl
 | .op _ _::l,m=>by simp only[List.cons_append,z1g];exact z0o
 | .ins _ _ _::l,m=>by simp only[List.cons_append,z1g,z0o]
theorem z7v:∀{l:List It},z1g (z2n l)= []
 | []=>rfl
 | .op _ _::l=>by simp only[z2n,List.filter_cons,isOp,if_true,z1g];exact z7v
 | .ins _ _ _::l=>by simp only[z2n,List.filter_cons,isOp,Bool.false_eq_true,if_false];exact z7v
theorem zcp {cl:z12} {base:Nat} :∀{l:List It} {env:List V} {st:St},z2n l= []→z0k cl base l env st=some (env,z7c st (z1g l))
 | [],_,_,_=>rfl
 | .op _ _::l,_,_,h=>by simp[z2n,isOp] at h
 | .ins j k o::l,env,st,h=>by
  simp only[z2n,List.filter_cons,isOp,Bool.false_eq_true,if_false] at h
  simp only[z0k,z1g,z7c]
  exact zcp h
def zfw {l:Array Bool} {i j:Nat} (hi:i<l.size): (l.setIfInBounds i true).getD j true=if i=j then true else l.getD j true:=by
 simp only[Array.getD_eq_getD_getElem?,Array.getElem?_setIfInBounds]
 by_cases e:i=j
 ·subst e;simp[hi]
 ·simp[e]
def z8p {l:Array Bool} {i:Nat} (h:l.getD i true=false):i<l.size:=by
 rcases Nat.lt_or_ge i l.size with h1|h1
 ·exact h1
 ·rw[Array.getD_eq_getD_getElem?,Array.getElem?_eq_none h1] at h
  cases h
def zi5 {l:Array Bool} {i:Nat} (h:l.getD i false=true):l.getD i true=true:=by
 rw[Array.getD_eq_getD_getElem?] at h⊢
 cases e:l[i]? with
 |none=>rfl
 |some b=>rw[e] at h;exact h
def zi6 {l:Array Bool} {i:Nat} (hi:i<l.size) (h:l.getD i true=true):l.getD i false=true:=by
 rw[Array.getD_eq_getD_getElem?] at h⊢
 rw[Array.getElem?_eq_getElem hi] at h⊢
 exact h
def z89 {B:List (List Nat)} {ops:List Oper} (h:z6z B ops=true) {j:Nat} {o:Oper} (ho:ops[j]?=some o):
  (∀k∈B.getD j [],∃e∈o.after,Region.binds .any e=true∧(e.on=k∨k∈B.getD e.on []))∧
  ∀e∈o.after,Region.binds .any e=true→e.on∈B.getD j []∧e.on<ops.length∧e.on≠j:=by
 have hj:j<ops.length:= (List.getElem?_eq_some_iff.1 ho).1
 unfold z6z at h
 have h1:=List.all_eq_true.1 h j (List.mem_range.2 hj)
 simp only[ho] at h1
 simp only[Bool.and_eq_true,List.all_eq_true] at h1
 have hmem:∀d,d∈zg3 o↔∃e∈o.after,Region.binds .any e=true∧e.on=d:=fun d=>by
  simp only[zg3,List.mem_map,List.mem_filter,Array.mem_toList_iff]
  exact⟨fun⟨e,⟨h2,h3⟩,h4⟩=>⟨e,h2,h3,h4⟩,fun⟨e,h2,h3,h4⟩=>⟨e,⟨h2,h3⟩,h4⟩⟩
 refine⟨fun k hk=> ?_,fun e he hb=> ?_⟩
 ·have h2:=h1.1 k hk
  simp only[Bool.or_eq_true,List.contains_iff_mem,List.any_eq_true] at h2
  rcases h2 with h2|⟨d,h2,h3⟩
  ·obtain⟨e,h4,h5,h6⟩:= (hmem k).1 h2
   exact⟨e,h4,h5,.inl h6⟩
  ·obtain⟨e,h4,h5,h6⟩:= (hmem d).1 h2
   subst h6
   exact⟨e,h4,h5,.inr h3⟩
 ·have h2:=h1.2 e.on ((hmem _).2 ⟨e,he,hb,rfl⟩)
  simp only[List.contains_iff_mem,decide_eq_true_eq] at h2
  exact⟨h2.1.1,h2.1.2,h2.2⟩
theorem zmr:∀{l:List It},z2n l≠ []→∃pre i o post,l=pre++ .op i o::post∧z2n pre= []
 | [],h=>absurd rfl h
 | .op i o::l,_=>⟨[],i,o,l,rfl,rfl⟩
 | .ins j k ob::l,h=>by
  obtain⟨pre,i,o,post,rfl,h1⟩:=zmr (l:=l) (by simpa [z2n,isOp] using h)
  exact⟨.ins j k ob::pre,i,o,post,rfl,by simpa [z2n,isOp] using h1⟩
section
variable {ops:List Oper} {B:List (List Nat)} {pn:Nat→Nat} {base m:Nat} {w0:World} {st0:St} {g0:Gh} {listed:Array Bool} {its:List It}
def RI.ready_listed (h:RI P ops B pn base m w0 st0 g0 listed its st g w) (hbef:z6z B ops=true) {i:Nat} (hi:i∈Region.ready .any ops.toArray listed):∀k∈B.getD i [],listed.getD k true=true:=by
 obtain⟨_,o,ho,hall⟩:=mem_ready.1 hi
 rw[List.getElem?_toArray] at ho
 obtain⟨h1,h2⟩:=z89 hbef ho
 intro k hk
 obtain⟨e,he,hb,h3⟩:=h1 k hk
 have h4:=zi5 (hall e he hb)
 rcases h3 with rfl|h3
 ·exact h4
 ·exact h.closed e.on (h2 e he hb).2.1 h4 k h3
def RI.done (h:RI P ops B pn base m w0 st0 g0 listed its st g w) (hbef:z6z B ops=true) (hr:Region.ready .any ops.toArray listed= []):z2n its= []:=by
 refine Classical.byContradiction fun hne=> ?_
 obtain⟨pre,i,o,post,e,hpre⟩:=zmr hne
 have hmem:It.op i o∈its:=by rw[e];simp
 obtain⟨h1,⟨oper,h2,_⟩,_⟩:=h.left i o hmem
 have hrd:i∈Region.ready .any ops.toArray listed:=by
  refine mem_ready.2 ⟨h1,oper,by rw[List.getElem?_toArray];exact h2,fun d hd hb=> ?_⟩
  obtain⟨_,h3⟩:=z89 hbef h2
  obtain⟨h4,h5,h6⟩:=h3 d hd hb
  refine zi6 (by rw[h.size];exact h5) ?_
  cases hl:listed.getD d.on true with
  |true=>rfl
  |false=>
   exfalso
   obtain⟨o',ho'⟩:=h.all d.on hl
   rw[e] at ho'
   have hp:=h.pair
   rw[e,List.pairwise_append] at hp
   rcases List.mem_append.1 ho' with h7|h7
   ·have:It.op d.on o' ∈z2n pre:=List.mem_filter.2 ⟨h7,rfl⟩
    rw[hpre] at this
    cases this
   ·rcases List.mem_cons.1 h7 with h8|h8
    ·cases h8;exact h6 rfl
    ·have:= (List.pairwise_cons.1 hp.2.1).1 _ h8 i o d.on o' rfl rfl
     have h9:=this.2
     simp only[ze1,Bool.and_eq_true,Bool.not_eq_true'] at h9
     have h10:=h9.1.1
     have h11: (B.getD i []).contains d.on=true:=List.contains_iff_mem.2 h4
     rw[h11] at h10
     cases h10
 rw[hr] at hrd
 cases hrd
def RI.take (h:RI P ops B pn base m w0 st0 g0 listed its st g w) (hpn:∀i j,i<ops.length→j<ops.length→pn i=pn j→i=j) (hpm:∀j,j<ops.length→pn j<m)
  {i:Nat} (hi:listed.getD i true=false) (hB:∀k∈B.getD i [],listed.getD k true=true) {its' :List It} {st' :St} {g' :Gh} {w' :World}
  (hops:∀j o,It.op j o∈its' ↔(It.op j o∈its∧j≠i)) (hpair:its'.Pairwise (y55 B)) (hkeys: ((z1g its').map Prod.fst).Nodup) (hpend:∀p∈z1g its',Pend P w0 st' g' w' p.1 p.2)
  (hinj:∀p∈z1g its',∀q∈z1g its',∀b,g'.blk p.1=some b→g'.blk q.1=some b→p.1=q.1) (hnew:∀k b,g'.blk k=some b→g.blk k=some b∨k=base+pn i∨st.next≤k) (hnext:st.next≤st'.next)
  (hinv:Inv P z0i st' g' w') (hstep:Step st0 g0 w0 st' g' w'):RI P ops B pn base m w0 st0 g0 (listed.setIfInBounds i true) its' st' g' w' :=by
 have hlt:=z8p hi
 have hset:∀j,(listed.setIfInBounds i true).getD j true=if i=j then true else listed.getD j true:=fun j=>zfw hlt
 have hmono:∀j,listed.getD j true=true→(listed.setIfInBounds i true).getD j true=true:=fun j hj=>by
  rw[hset];split
  ·rfl
  ·exact hj
 have hun:∀j,(listed.setIfInBounds i true).getD j true=false→j≠i∧listed.getD j true=false:=fun j hj=>by
  rw[hset] at hj
  split at hj
  ·cases hj
  ·rename_i hne
   exact⟨Ne.symm hne,hj⟩
 have hm:=h.next
 refine⟨by rw[Array.size_setIfInBounds];exact h.size,fun j o ho=> ?_,fun j hj=> ?_,fun j hjl hj k hk=> ?_,hpair,hkeys,hpend,hinj,fun j hj=> ?_,Nat.le_trans h.next hnext,hinv,hstep,fun k b hb=> ?_⟩
 ·obtain⟨h1,h2⟩:= (hops j o).1 ho
  obtain⟨h3,h4⟩:=h.left j o h1
  refine⟨?_,h4⟩
  rw[hset,if_neg (Ne.symm h2)];exact h3
 ·obtain⟨h1,h2⟩:=hun j hj
  obtain⟨o,ho⟩:=h.all j h2
  exact⟨o,(hops j o).2 ⟨ho,h1⟩⟩
 ·rw[hset] at hj
  split at hj
  ·rename_i e;subst e;exact hmono k (hB k hk)
  ·exact hmono k (h.closed j hjl hj k hk)
 ·obtain⟨h1,h2⟩:=hun j hj
  have hjs:=z8p h2
  rw[h.size] at hjs hlt
  cases e:g'.blk (base+pn j) with
  |none=>rfl
  |some b=>
   exfalso
   rcases hnew _ _ e with h3|h3|h3
   ·rw[h.fresh j h2] at h3;cases h3
   ·exact h1 (hpn j i hjs hlt ω)
   ·have:=hpm j hjs
    omega
 ·rcases hnew k b hb with h3|h3|h3
  ·exact h.new k b h3
  ·exact .inr ω
  ·exact .inr ω
end
section
variable {ops:List Oper} {B:List (List Nat)} {pn:Nat→Nat} {base m:Nat} {w0:World} {st0:St} {g0:Gh} {listed:Array Bool} {its:List It}
def zs9 {j:Nat} {o:IOp} {oper:Oper} (h:o.op=cOp P j oper∨o.op=z2o (cOp P j oper)) (hc:z1l o.op≠ .a):o.op=cOp P j oper:=by
 rcases h with h|h
 ·exact h
 ·rw[h] at hc⊢
  cases e:cOp P j oper<;>first|rfl| (rw[e] at hc;exact absurd rfl hc)
theorem zjz (k:IK):z3l (z2o k)=false:=by cases k<;>rfl
def zsh {k:IK} (h:z3l k=false):z2o k=k:=by
 cases k with
 |mkSl ai es ag nf z len ps=>cases nf<;>first|rfl| (simp[z3l] at h)
 |_=>rfl
def zzm {j:Nat} {oper:Oper} {k:IK} (h:cOp P j oper=k) (hk:k≠ .bad):cOp? P j oper=some k:=by
 unfold cOp at h
 cases e:cOp? P j oper with
 |none=>rw[e] at h;exact absurd h.symm hk
 |some x=>rw[e] at h;rw[←h];rfl
def zsv {o:Oper} {ai:Nat} {ik:IK} (h:cOp? P ai o=some ik) (hc:z1l ik= .a):zq3 o.op∨∃t l ps,o.op= .buildSlice t l ps:=by
 unfold cOp? at h
 cases ho:o.op<;>simp only[ho] at h<;>first| (exact .inl trivial)| (exact .inr ⟨_,_,_,rfl⟩)|skip
 case call c=>
  exfalso
  unfold zir at h
  repeat' split at h
  all_goals first|contradiction| (cases h;done)| (cases h;simp[z1l] at hc;done)| (simp only[Option.map_eq_some_iff] at h;obtain⟨_,_,rfl⟩:=h;simp[z1l] at hc;done)
 all_goals exfalso
 all_goals (try unfold cBin at h)<;> (try unfold cNil at h)
 all_goals repeat' split at h
 all_goals first|contradiction| (cases h;done)| (cases h;simp[z1l] at hc;done)| (simp only[Option.map_eq_some_iff] at h;obtain⟨_,_,rfl⟩:=h;simp[z1l] at hc;done)
def zp5 {key b:Nat} (h1:g.blk key=some b) (h2:¬Live st g b):sget st.s key=none:=by
 cases e:sget st.s key with
 |none=>rfl
 |some o=>exact absurd ⟨key,o,e,h1⟩ h2
def y00 {cl:z12} (hcl:z3n P cl) {ro:Option Nat} (hbef:z6z B ops=true) (hpn:∀i j,i<ops.length→j<ops.length→pn i=pn j→i=j) (hpm:∀j,j<ops.length→pn j<m)
  {env' :Lv} {st' :St} {D:List Deferred} {Q:Exit→Act→World→Prop}
  (hQ:∀a' w' g',RepVs g' env' a'.tmps.toList→Inv P z0i st' g' w' →Step st0 g0 w0 st' g' w' →a'.defers=D→(∀k b,g'.blk k=some b→g0.blk k=some b∨base≤k)→Q .normal a' w'):
  ∀(fuel:Nat) (listed:Array Bool) (its:List It) (env:Lv) (st:St) (g:Gh) (w:World) (a:Act),RI P ops B pn base m w0 st0 g0 listed its st g w→(z2n its).length=fuel→
   z0k cl base its env st=some (env',st')→RepVs g env a.tmps.toList→a.defers=D→wpAnyIn (Fw ro) 0 P .any ops.toArray Q fuel listed a w:=by
 have fin:∀(its:List It) (listed:Array Bool) (env:Lv) (st:St) (g:Gh) (w:World) (a:Act),RI P ops B pn base m w0 st0 g0 listed its st g w→z2n its= []→
   z0k cl base its env st=some (env',st')→RepVs g env a.tmps.toList→a.defers=D→Q .normal a w:=by
  intro its listed env st g w a h hno he henv hD
  rw[zcp hno] at he
  cases he
  obtain⟨h1,h2,_,_⟩:=zci h.inv h.step h.pend h.keys h.inj
  exact hQ a w g henv h1 h2 hD h.new
 intro fuel
 induction fuel with
 |zero=>
  intro listed its env st g w a h hlen he henv hD
  have hno:z2n its= []:=List.eq_nil_of_length_eq_zero hlen
  refine⟨?_,fin its listed env st g w a h hno he henv hD⟩
  refine List.eq_nil_iff_forall_not_mem.2 fun i hi=> ?_
  obtain⟨h1,_⟩:=mem_ready.1 hi
  obtain⟨o,ho⟩:=h.all i h1
  have:It.op i o∈z2n its:=List.mem_filter.2 ⟨ho,rfl⟩
  rw[hno] at this
  cases this
 |succ fuel ih=>
  intro listed its env st g w a h hlen he henv hD
  refine⟨fun hr=>fin its listed env st g w a h (h.done hbef hr) he henv hD,fun i hi=> ?_⟩
  have hBi:=h.ready_listed hbef hi
  obtain⟨hun,oi,hoi,_⟩:=mem_ready.1 hi
  obtain⟨o,ho⟩:=h.all i hun
  obtain⟨pre,post,rfl⟩:=List.append_of_mem ho
  obtain⟨_,⟨oper,hoper,hdst,hgd,hop⟩,hkeep⟩:=h.left i o ho
  rw[List.getElem?_toArray] at hoi
  obtain rfl:oper=oi:=Option.some.inj (hoper.symm.trans hoi)
  have hpair:=h.pair
  rw[List.pairwise_append,List.pairwise_cons] at hpair
  obtain⟨hp1,⟨hp2,hp3⟩,hp4⟩:=hpair
  have hne1:∀j c,It.op j c∈pre→j≠i:=fun j c hj=> (hp4 _ hj _ ψ j c i o rfl rfl).1
  have hne2:∀j c,It.op j c∈post→j≠i:=fun j c hj=>Ne.symm (hp2 _ hj i o j c rfl rfl).1
  have hfree:∀j c,It.op j c∈pre→zk9 c o=true∧zjw c o=true:=fun j c hj=>by
   have h1:= (hp4 _ hj _ ψ j c i o rfl rfl).2
   simp only[ze1,Bool.and_eq_true,Bool.or_eq_true] at h1
   rcases h1.2 with h2|h2
   ·exfalso
    have h3:=hBi j (List.contains_iff_mem.1 h2)
    have h4:= (h.left j c (by simp[hj])).1
    rw[h3] at h4;cases h4
   ·exact h2
  have hind:∀j c,It.op j c∈pre→zk9 c o=true:=fun j c hj=> (hfree j c hj).1
  have hops:∀j c,It.op j c∈pre++post↔(It.op j c∈pre++ .op i o::post∧j≠i):=fun j c=>by
   simp only[List.mem_append,List.mem_cons]
   constructor
   ·rintro (h1|h1)
    ·exact⟨.inl h1,hne1 j c h1⟩
    ·exact⟨.inr (.inr h1),hne2 j c h1⟩
   ·rintro⟨h1|h1|h1,h2⟩
    ·exact .inl h1
    ·cases h1;exact absurd rfl h2
    ·exact .inr h1
  have hins:z1g (pre++ .op i o::post)=z1g (pre++post):=by rw[z0o,z0o];rfl
  have hlen' : (z2n (pre++post)).length=fuel:=by
   simp only[z2n,List.filter_append,List.length_append,List.filter_cons,isOp,if_true,List.length_cons] at hlen⊢
   omega
  have hpair' : (pre++post).Pairwise (y55 B):=List.pairwise_append.2 ⟨hp1,hp3,fun x hx y hy=>hp4 x hx y (List.mem_cons_of_mem _ hy)⟩
  have hilt:i<ops.length:= (List.getElem?_eq_some_iff.1 hoper).1
  have hfi:=h.fresh i hun
  have hlt:base+pn i<st.next:=by
   have:=hpm i hilt
   have:=h.next
   omega
  have hkeys:=h.keys;rw[hins] at hkeys
  have hpend:=h.pend;rw[hins] at hpend
  have hinj:=h.inj;rw[hins] at hinj
  have y2u:∀{v:V} {u:Value},RepV g v u→z0k cl base (pre++post) (setE env o.dst v) st=some (env',st')→wpAnyIn (Fw ro) 0 P .any ops.toArray Q fuel (listed.setIfInBounds i true) (a.put oper.dst u) w:=fun {v u} hv hev=>
   ih _ _ _ st g w _ (h.take hpn hpm hun hBi hops hpair' hkeys hpend hinj (fun k b hb=> .inl hb) (Nat.le_refl _) h.inv h.step) hlen' hev (by rw[hdst];exact zbm henv hv) (by rw[←hD];cases oper.dst<;>rfl)
  unfold wpOpIn
  simp only[List.getElem?_toArray,hoper]
  rw[zgy henv hgd]
  cases hw:wantedE env o.gd with
  |false=>
   rw[if_neg ψ]
   exact⟨fun _ _=>trivial,y2u z5s (zev hind he hw)⟩
  |true=>
   rw[if_pos rfl]
   have heavy: (z1l o.op= .r∨∀j c,It.op j c∈pre→z1l c.op= .r→zhf c.op o.keep=true)→PR pre→o.op=cOp P (pn i) oper→oper.wpIn (Fw ro) 0 P a w (wpAnyIn (Fw ro) 0 P .any ops.toArray Q fuel (listed.setIfInBounds i true)) Q:=by
    intro hread hpr hcop
    have hki:∀j c,It.op j c∈pre→c.keep= []∧(z1l c.op= .r→za5 c c=true):=fun j c hj=>by
     have h1:= (h.left j c (by simp[hj])).2.2
     unfold zsc at h1
     rcases hpr j c hj with h2|h2
     ·rw[h2] at h1
      exact⟨List.isEmpty_iff.1 h1,fun h3=>by rw[h2] at h3;cases h3⟩
     ·rw[h2] at h1
      simp only[Bool.and_eq_true] at h1
      exact⟨List.isEmpty_iff.1 h1.1,fun _=>h1.2⟩
    have hpp:∀p∈z1g pre,Pend P w0 st g w p.1 p.2:=fun p hp=>hpend p (by rw[z0o];exact List.mem_append_left _ hp)
    have hpk: ((z1g pre).map Prod.fst).Nodup:=by
     rw[z0o,List.map_append] at hkeys
     exact (List.nodup_append.1 hkeys).1
    have hpi:∀p∈z1g pre,∀q∈z1g pre,∀b,g.blk p.1=some b→g.blk q.1=some b→p.1=q.1:=fun p hp q hq=>hinj p (by rw[z0o];exact List.mem_append_left _ hp) q (by rw[z0o];exact List.mem_append_left _ hq)
    have hpf:∀p∈z1g pre,sget st.s p.1=none:=fun p hp=>by
     obtain⟨b,e1,_,_,e2,_⟩:=hpp p hp
     exact zp5 e1 e2
    have hclr:pre.Pairwise y58:=List.Pairwise.imp (fun {x y} hxy i a j b ex ey=>by
      have:= (hxy i a j b ex ey).2
      simp only[ze1,Bool.and_eq_true] at this
      exact this.1.2) hp1
    obtain⟨v,s2,h1,h2⟩:=zod hind he hw hpr (fun j c hj=> (hki j c hj).1) hpf hpk hclr (fun j c hj=> (hki j c hj).2) hread
    obtain⟨f1,f2,f3,f4⟩:=zci h.inv h.step hpp hpk hpi
    have h1' :evalIOp cl base env (z7c st (z1g pre)) ⟨o.dst,cOp P (pn i) oper,o.gd,o.keep⟩=some (v,s2):=by
     rw[←hcop];exact h1
    refine zfg hcl f1 henv h1' hfi (by rw[f3];exact hlt) fun u w' g' hu hi' hs' hk' => ?_
    have hins2:z1g (z2n pre++post)=z1g post:=by rw[z0o,z7v];rfl
    have hpostk:∀p∈z1g post,∀q∈z1g pre,∀b,g.blk q.1=some b→g.blk p.1≠some b:=fun p hp q hq b hb hb' =>by
     have h5:=hinj p (by rw[z0o];exact List.mem_append_right _ hp) q (by rw[z0o];exact List.mem_append_left _ hq) b hb' hb
     rw[z0o,List.map_append] at hkeys
     exact (List.nodup_append.1 hkeys).2.2 q.1 (List.mem_map.2 ⟨q,hq,rfl⟩) p.1 (List.mem_map.2 ⟨p,hp,rfl⟩) h5.symm
    have hpostp:∀p∈z1g post,Pend P w0 s2 g' w' p.1 p.2:=fun p hp=> (f4 p.1 p.2 (hpend p (by rw[z0o];exact List.mem_append_right _ hp)) fun q hq b hb=>hpostk p hp q hq b hb).step hs'
    have hops2:∀j c,It.op j c∈z2n pre++post↔(It.op j c∈pre++ .op i o::post∧j≠i):=fun j c=>by
     rw[←hops,List.mem_append,List.mem_append]
     exact or_congr ⟨fun h=> (List.mem_filter.1 h).1,fun h=>List.mem_filter.2 ⟨h,rfl⟩⟩ Iff.rfl
    refine ih _ (z2n pre++post) _ s2 g' w' _ (h.take hpn hpm hun hBi hops2 ?_ ?_ ?_ ?_ (fun k b hb=> ?_) ?_ hi' (f2.trans hs')) ?_ h2 (by rw[hdst];exact zbm (RepVs.mono hs'.ext henv) hu) (by rw[←hD];cases oper.dst<;>rfl)
    ·exact List.pairwise_append.2 ⟨hp1.sublist List.filter_sublist,hp3,fun x hx y hy=>hp4 x (List.mem_filter.1 hx).1 y (List.mem_cons_of_mem _ hy)⟩
    ·rw[hins2]
     rw[z0o,List.map_append] at hkeys
     exact (List.nodup_append.1 hkeys).2.1
    ·rw[hins2];exact hpostp
    ·rw[hins2]
     intro p hp q hq b hb hb'
     obtain⟨bp,e1,_⟩:=hpend p (by rw[z0o];exact List.mem_append_right _ hp)
     obtain⟨bq,e2,_⟩:=hpend q (by rw[z0o];exact List.mem_append_right _ hq)
     have e1' := (hs'.ext.blk _ _ e1).1
     have e2' := (hs'.ext.blk _ _ e2).1
     rw[hb] at e1';rw[hb'] at e2'
     cases e1';cases e2'
     exact hinj p (by rw[z0o];exact List.mem_append_right _ hp) q (by rw[z0o];exact List.mem_append_right _ hq) b e1 e2
    ·rw[f3] at hk'
     exact hk' k b hb
    ·rw[←f3];exact hs'.next
    ·simp only[z2n,List.filter_append,List.length_append] at hlen' ⊢
     rw[List.filter_filter]
     simp only[Bool.and_self]
     exact hlen'
   have hclsP:z1l o.op= .p→oper.wpIn (Fw ro) 0 P a w (wpAnyIn (Fw ro) 0 P .any ops.toArray Q fuel (listed.setIfInBounds i true)) Q:=fun hp=>by
    have hcop:=zs9 hop (by rw[hp];simp)
    obtain⟨v,h1,h2⟩:=y5m hind he hw hp
    have h1' :evalIOp cl base env st ⟨o.dst,cOp P (pn i) oper,o.gd,o.keep⟩=some (v,st):=by
     rw[←hcop]
     rw[z44 (.inl hp)];exact h1
    refine zfg hcl h.inv henv h1' hfi hlt fun u w' g' hu hi' hs' hk' => ?_
    refine ih _ _ _ st g' w' _ (h.take hpn hpm hun hBi hops hpair' hkeys (fun p hp=> (hpend p hp).step hs') (fun p hp q hq b hb hb' => ?_) hk' (Nat.le_refl _) hi' (h.step.trans hs')) hlen' h2 (by rw[hdst];exact zbm (RepVs.mono hs'.ext henv) hu) (by rw[←hD];cases oper.dst<;>rfl)
    obtain⟨bp,e1,_⟩:=hpend p hp
    obtain⟨bq,e2,_⟩:=hpend q hq
    have e1' := (hs'.ext.blk _ _ e1).1
    have e2' := (hs'.ext.blk _ _ e2).1
    rw[hb] at e1';rw[hb'] at e2'
    cases e1';cases e2'
    exact hinj p hp q hq b e1 e2
   cases hc:z1l o.op with
   |p=>exact hclsP hc
   |r=>
    refine heavy (.inl hc) (fun j c hj=> ?_) (zs9 hop (by rw[hc];simp))
    have:= (hfree j c hj).2
    unfold zjw at this
    rw[hc] at this
    cases e:z1l c.op<;>rw[e] at this<;>simp at this⊢
   |e=>
    refine heavy (.inr fun j c hj hcr=> ?_) (fun j c hj=> ?_) (zs9 hop (by rw[hc];simp))
    ·have:= (hfree j c hj).2
     unfold zjw at this
     rw[hc,hcr] at this
     exact this
    ·have:= (hfree j c hj).2
     unfold zjw at this
     rw[hc] at this
     cases e:z1l c.op<;>rw[e] at this<;>simp at this⊢
   |a=>
    cases hst:z3l o.op with
    |true=>
     have hcop:o.op=cOp P (pn i) oper:=by
      rcases hop with h1|h1
      ·exact h1
      ·rw[h1,zjz] at hst;cases hst
     refine heavy (.inr fun j c hj hcr=> ?_) (fun j c hj=> ?_) hcop
     ·have:= (hfree j c hj).2
      unfold zjw at this
      rw[hc,hcr,hst] at this
      simpa using this
     ·have:= (hfree j c hj).2
      unfold zjw at this
      rw[hc,hst] at this
      cases e:z1l c.op<;>rw[e] at this<;>simp at this⊢
    |false=>
     obtain⟨v,key,obj,h1,h2⟩:=y5n hind he hw hc hst
     have hbad:cOp P (pn i) oper≠ .bad:=fun e=>by
      rcases hop with h3|h3<;>rw[h3,e] at hc<;>simp[z1l,z2o] at hc
     have hcs:=zzm rfl hbad
     have hno:o.op=z2o (cOp P (pn i) oper):=by
      rcases hop with h3|h3
      ·rw[←h3];exact (zsh hst).symm
      ·exact h3
     have hca:z1l (cOp P (pn i) oper)= .a:=by
      rw[hno] at hc
      cases e:cOp P (pn i) oper<;>rw[e] at hc<;>simp[z1l,z2o] at hc⊢
     have hmk:zq3 oper.op:=by
      rcases zsv hcs hca with h3|⟨t,l,ps,h3⟩
      ·exact h3
      ·rw[h3];trivial
     obtain⟨s,ob,h3,h4,h5⟩:=zk2 (w:=w) henv hcs (by rw[←hno];exact h1 st) hmk hfi
     have hko:key=base+pn i∧obj=ob:=by
      simp only[St.ins,St.mk.injEq,List.cons.injEq,Prod.mk.injEq] at h4
      exact h4.1.1
     obtain⟨rfl,rfl⟩:=hko
     obtain⟨ob',n',m',u,h6,h7,h8⟩:=h5
     obtain⟨h9,h10⟩:=h.inv.assign (n:=n') (m:=m') hfi hlt ob'
     have hnd:∀c,oper.op≠ .defer c:=fun c e=>by simp[cOp?,e] at hcs
     unfold Oper.wpIn
     refine⟨fun _ _=>trivial,?_⟩
     rw[show (Fw ro).round=ro from rfl,Oper.semAt_eq ro a.eval oper hnd,h3]
     have hrun: ((do pure (.value (←s)):Sem Next)).run P w= .ok (.value u) (World.add w ob'):=by simp[h6]
     rw[hrun]
     have hpn' :Pend P w0 st (g.asg (base+pn i) w.heap.size n' m') (World.add w ob') (base+pn i) obj:=by
      refine⟨w.heap.size,z29,h.step.size,by rw[z76];omega,fun⟨j,x,e1,e2⟩=> ?_,h8 _ _ _ (Ext.refl _) (fun j=>h.inv.Hnew j) z36⟩
      have hne:j≠base+pn i:=fun e=>by rw[e,h.inv.fresh hfi] at e1;cases e1
      rw[(z20 hne).1] at e2
      exact Nat.lt_irrefl _ (h.inv.u j _ e2).2
     have hkne:∀p∈z1g (pre++post),p.1≠base+pn i:=fun p hp e=>by
      obtain⟨b,e1,_⟩:=hpend p hp
      rw[e,hfi] at e1;cases e1
     have hmemi:∀p,p∈z1g (pre++ .ins i (base+pn i) obj::post)↔p= (base+pn i,obj)∨p∈z1g (pre++post):=fun p=>by
      rw[z0o,z0o]
      simp only[z1g,List.mem_append,List.mem_cons]
      constructor
      ·rintro (h1|h1|h1)
       ·exact .inr (.inl h1)
       ·exact .inl h1
       ·exact .inr (.inr h1)
      ·rintro (h1|h1|h1)
       ·exact .inr (.inl h1)
       ·exact .inl h1
       ·exact .inr (.inr h1)
     refine ih _ (pre++ .ins i (base+pn i) obj::post) _ st _ _ _ (h.take hpn hpm hun hBi (fun j c=> ?_) ?_ ?_ (fun p hp=> ?_) (fun p hp q hq b hb hb' => ?_) (fun k b hb=> ?_) (Nat.le_refl _) h9 (h.step.trans h10)) ?_ h2 (by rw[hdst];exact zbm (RepVs.mono h10.ext henv) h7) (by rw[←hD];cases oper.dst<;>rfl)
     ·rw[←hops,List.mem_append,List.mem_append,List.mem_cons]
      constructor
      ·rintro (h1|h1|h1)
       ·exact .inl h1
       ·cases h1
       ·exact .inr h1
      ·rintro (h1|h1)
       ·exact .inl h1
       ·exact .inr (.inr h1)
     ·refine List.pairwise_append.2 ⟨hp1,List.pairwise_cons.2 ⟨fun y _ i' a' j' b' e1 _=> (by cases e1),hp3⟩,fun x hx y hy=> ?_⟩
      rcases List.mem_cons.1 hy with rfl|hy
      ·exact fun i' a' j' b' _ e2=>by cases e2
      ·exact hp4 x hx y (List.mem_cons_of_mem _ hy)
     ·rw[z0o]
      simp only[z1g,List.map_append,List.map_cons]
      rw[z0o,List.map_append] at hkeys
      refine (List.perm_middle.nodup_iff).2 (List.nodup_cons.2 ⟨fun hm=> ?_,hkeys⟩)
      rw[←List.map_append,←z0o] at hm
      obtain⟨p,hp,e⟩:=List.mem_map.1 hm
      exact hkne p hp e
     ·rcases (hmemi p).1 hp with rfl|hp
      ·exact hpn'
      ·exact (hpend p hp).step h10
     ·have other:∀q∈z1g (pre++post),∀b,(g.asg (base+pn i) w.heap.size n' m').blk q.1=some b→g.blk q.1=some b:=fun q hq b hb=>by
       rw[(z20 (hkne q hq)).1] at hb;exact hb
      rcases (hmemi p).1 hp with rfl|hp<;>rcases (hmemi q).1 hq with rfl|hq
      ·rfl
      ·exfalso
       rw[z29] at hb;cases hb
       exact Nat.lt_irrefl _ (h.inv.u _ _ (other q hq _ hb')).2
      ·exfalso
       rw[z29] at hb';cases hb'
       exact Nat.lt_irrefl _ (h.inv.u _ _ (other p hp _ hb)).2
      ·exact hinj p hp q hq b (other p hp b hb) (other q hq b hb')
     ·by_cases e:k=base+pn i
      ·exact .inr (.inl e)
      ·rw[(z20 e).1] at hb;exact .inl hb
     ·simp only[z2n,List.filter_append,List.length_append,List.filter_cons,isOp,Bool.false_eq_true,if_false] at hlen' ⊢
      exact hlen'
end
end Go.Lift
namespace Go.Lift
open Go
variable{st':St}
variable {P:Program} {st:St} {g:Gh} {w:World}
def Inv.bump (h:Inv P z0i st g w) (n:Nat):Inv P z0i {st with next:=st.next+n} g w:=
 ⟨fun k b hb=>⟨Nat.lt_of_lt_of_le (h.u k b hb).1 (Nat.le_add_right _ _),(h.u k b hb).2⟩,h.H,h.inj,h.obj⟩
def Step.bump {n:Nat}  {g' :Gh} {w' :World} (h:Step {st with next:=st.next+n} g w st' g' w'):Step st g w st' g' w' :=
 ⟨h.ext,Nat.le_trans (Nat.le_add_right _ _) h.next,h.size,h.os,h.tape,h.output,h.same,h.Hn,h.live⟩
def Step.ofDrew {n:Nat}  {g' :Gh} {w' :World} (h:Step st g {w with drawn:=n} st' g' w'):Step st g w st' g' w' :=
 ⟨h.ext,h.next,h.size,h.os,h.tape,h.output,h.same,h.Hn,h.live⟩
theorem zve {nf draw:Bool} {ops:List Oper} {B:List (List Nat)} {iks:List IK} :∀{js:List Nat} {cnt m:Nat} {pre:List Nat} {l:List IOp},cOrd nf P draw ops B iks cnt pre js=some (m,l)→
  l.length=js.length∧∀p j o,js[p]?=some j→l[p]?=some o→∃oper,ops[j]?=some oper∧o.dst=oper.dst∧zen ops oper.guard=some o.gd∧(o.op=cOp P (cnt+p) oper∨o.op=z2o (cOp P (cnt+p) oper))
 | [],cnt,m,pre,l,h=>by
  simp only[cOrd,Option.some.injEq,Prod.mk.injEq] at h
  obtain⟨_,rfl⟩:=h
  exact⟨rfl,fun p j o hj=>by simp at hj⟩
 |j::js,cnt,m,pre,l,h=>by
  simp only[cOrd] at h
  split at h
  ·cases h
  ·rename_i oper hoper
   split at h
   ·rename_i gd ks hgd hks
    split at h
    ·rename_i n l' hr
     cases h
     obtain⟨h1,h2⟩:=zve hr
     refine⟨by simp[h1],fun p j' o hj ho=> ?_⟩
     cases p with
     |zero=>
      simp only[List.getElem?_cons_zero,Option.some.injEq] at hj ho
      subst hj;subst ho
      refine⟨oper,hoper,rfl,hgd,?_⟩
      simp only[Nat.add_zero]
      split
      ·exact .inr rfl
      ·exact .inl rfl
     |succ p=>
      simp only[List.getElem?_cons_succ] at hj ho
      obtain⟨oper',h3,h4,h5,h6⟩:=h2 p j' o hj ho
      exact⟨oper',h3,h4,h5,by rwa [show cnt+ (p+1)=cnt+1+p from by omega]⟩
    ·cases h
   ·cases h
theorem z71:∀{l:List (Nat×IOp)},z1g (l.map itOf)= []
 | []=>rfl
 | (j,o)::l=>by simp only[List.map_cons,itOf,z1g];exact z71
theorem ze0:∀{l:List (Nat×IOp)},z2n (l.map itOf)=l.map itOf
 | []=>rfl
 | (j,o)::l=>by
  have:=ze0 (l:=l)
  simp only[z2n] at this
  simp only[List.map_cons,itOf,z2n,List.filter_cons,isOp,if_true]
  rw[this]
def y5w {cl:z12} (hcl:z3n P cl) (hmix:P.follows .mixedOrders=true) {ro:Option Nat} {id:Nat} {ops:Array Oper} {nf draw:Bool} {na:Nat} {l:List IOp} (hc:cReg nf P ops.toList draw= .reg na l)
  {env env' :Lv}  {a:Act} (h:z0m cl st.next l env {st with next:=st.next+na} =some (env',st')) (hi:Inv P z0i st g w) (henv:RepVs g env a.tmps.toList) {Q:Exit→Act→World→Prop}
  (hQ:∀a' w' g',RepVs g' env' a'.tmps.toList→Inv P z0i st' g' w' →Step st g w st' g' w' →a'.defers=a.defers→NewK st g g' →Q .normal a' w'): (Code.region id ops draw).wpIn (Fw ro) 0 P Q a w:=by
 have hnone:∀i,g.blk (st.next+i)=none:=fun i=>by
  cases e:g.blk (st.next+i) with
  |none=>rfl
  |some b=>have:= (hi.u _ _ e).1;omega
 unfold cReg at hc
 cases draw with
 |false=>
  simp only[Bool.false_eq_true,if_false] at hc
  split at hc
  ·rename_i n l' hord
   cases hc
   refine wpIn_region ?_
   have hcnt:=z73 hord
   have:=z7q hcl (ro:=ro) (Q:=Q) (List.range ops.toList.length) 0 [] l {st with next:=st.next+na} g w env a hord h (hi.bump na) henv (fun i _ _=>hnone i) (Nat.le_refl _) fun a' w' g' h1 h2 h3 h4 h5=>hQ a' w' g' h1 h2 h3.bump h4 fun k b hb=>by simpa using h5 k b hb
   simpa using this
  ·cases hc
 |true=>
  simp only[if_true] at hc
  split at hc
  ·rename_i n l' hr
   cases hc
   split at hr
   ·rename_i n' l' hord
    split at hr
    ·rename_i hok
     simp only[Option.some.injEq,Prod.mk.injEq] at hr
     obtain⟨rfl,rfl⟩:=hr
     revert hord hok
     generalize horder:zjq (zgm ops.toList []) ((ops.toList.map (cOp P 0)).map z1l) ops.toList.length [] (List.range ops.toList.length)=ord
     generalize hB:zgm ops.toList []=B
     intro hord hok
     simp only[y6b,Bool.and_eq_true,decide_eq_true_eq,List.all_eq_true,List.mem_range,List.contains_iff_mem] at hok
     obtain⟨⟨⟨⟨⟨⟨h1,h2⟩,h3⟩,h4⟩,h5⟩,h6⟩,h7⟩:=hok
     have hcnt:=z73 hord
     obtain⟨_,hat⟩:=zve hord
     have hidx:∀p j,ord[p]?=some j→ord.idxOf j=p:=fun p j hp=>by
      obtain⟨hlt,rfl⟩:=List.getElem?_eq_some_iff.1 hp
      exact h3.idxOf_getElem p hlt
     refine wpIn_region_any hmix ?_
     have hfst: (ord.zip l').map Prod.fst=ord:=List.map_fst_zip (Nat.le_of_eq h7)
     have hsnd: (ord.zip l').map Prod.snd=l' :=List.map_snd_zip (Nat.le_of_eq h7.symm)
     have hsz:ops.toList.length=ops.size:=Array.length_toList
     have hrep:∀j,(Array.replicate ops.size false).getD j true=false↔j<ops.size:=fun j=>by
      rw[Array.getD_eq_getD_getElem?,Array.getElem?_replicate]
      split<;>simp_all
     have hin:∀j o,It.op j o∈(ord.zip l').map itOf→∃p,ord[p]?=some j∧l'[p]?=some o:=fun j o ho=>by
      obtain⟨⟨j',o'⟩,h8,h9⟩:=List.mem_map.1 ho
      cases h9
      obtain⟨p,hp⟩:=List.mem_iff_getElem?.1 h8
      exact⟨p,(List.getElem?_zip_eq_some.1 hp).1,(List.getElem?_zip_eq_some.1 hp).2⟩
     have hri:RI P ops.toList B (fun j=>ord.idxOf j) st.next n' {w with drawn:=w.drawn+1} {st with next:=st.next+n' } g (Array.replicate ops.size false) ((ord.zip l').map itOf) {st with next:=st.next+n' } g {w with drawn:=w.drawn+1} :=by
      refine⟨by simp,fun j o ho=> ?_,fun j hj=> ?_,fun j hj hl=> ?_,?_,by simp[z71],by simp[z71],by simp[z71],fun j _=>hnone _,Nat.le_refl _,(hi.bump n').drew _,Step.refl _ _ _,fun k b hb=> .inl hb⟩
      ·obtain⟨p,h8,h9⟩:=hin j o ho
       have hjm:j∈ord:=List.mem_of_getElem? h8
       refine⟨(hrep j).2 (by rw[←hsz];exact h5 j hjm),?_,h6 o (List.mem_of_getElem? h9)⟩
       obtain⟨oper,h10,h11,h12,h13⟩:=hat p j o h8 h9
       refine⟨oper,h10,h11,h12,?_⟩
       simp only[hidx p j h8]
       simpa using h13
      ·have hjm:=h4 j (by rw[hsz];exact (hrep j).1 hj)
       obtain⟨p,hp⟩:=List.mem_iff_getElem?.1 hjm
       have hpl:p<l'.length:=by rw[←h7];exact (List.getElem?_eq_some_iff.1 hp).1
       refine⟨l'[p],List.mem_map.2 ⟨(j,l'[p]),List.mem_of_getElem? (List.getElem?_zip_eq_some.2 ⟨hp,by simp⟩: (ord.zip l')[p]?=some (j,l'[p])),rfl⟩⟩
      ·exfalso
       have:= (hrep j).2 (by rw[←hsz];exact hj)
       rw[hl] at this
       cases this
      ·rw[List.pairwise_map]
       have hp1:=z9w h1
       have hp2: (ord.zip l').Pairwise fun x y=>x.1≠y.1:=by
        have:=h3
        rw[←hfst] at this
        exact List.pairwise_map.1 this
       refine (hp1.and hp2).imp fun {x y} hxy i a j b ex ey=> ?_
       obtain⟨x1,x2⟩:=x
       obtain⟨y1,y2⟩:=y
       cases ex
       cases ey
       exact⟨hxy.2,hxy.1⟩
     have hw:=y00 hcl (ro:=ro) (D:=a.defers) (Q:=Q) (st0:= {st with next:=st.next+n' }) (g0:=g) (w0:= {w with drawn:=w.drawn+1}) h2 (pn:=fun j=>ord.idxOf j) (base:=st.next) (m:=n')
      (fun i j hi hj hij=>by
       have h8:=List.getElem_idxOf (List.idxOf_lt_length_of_mem (h4 i hi))
       have h9:=List.getElem_idxOf (List.idxOf_lt_length_of_mem (h4 j hj))
       simp only[hij] at h8
       exact h8.symm.trans h9)
      (fun j hj=>by
       have:=List.idxOf_lt_length_of_mem (h4 j hj)
       omega)
      (env' :=env') (st' :=st')
      (fun a' w' g' e1 e2 e3 e4 e5=>hQ a' w' g' e1 e2 e3.bump.ofDrew e4 e5)
      ops.size _ _ env _ g _ a hri (by
       rw[ze0,List.length_map,List.length_zip,←h7,Nat.min_self]
       have h8:ord.length=ops.toList.length:=by
        have h9:ord.Perm (List.range ops.toList.length):= (List.perm_ext_iff_of_nodup h3 List.nodup_range).2 fun j=>⟨fun hj=>List.mem_range.2 (h5 j hj),fun hj=>h4 j (List.mem_range.1 hj)⟩
        rw[h9.length_eq,List.length_range]
       rw[h8,hsz]) (by rw[z81,hsnd];exact h) henv rfl
     simpa using hw
    ·cases hr
   ·cases hr
  ·cases hc
end Go.Lift
namespace Go.Lift
open Go
variable{st':St}{b:Nat}
variable {P:Program} {st:St} {g:Gh} {w:World}
def zbv (D:Nat):Deferred:= {target:= .collected D,args:= #[]}
structure Marks (lo:Nat) (Ds:List Nat) (st:St) (g:Gh) (w:World):Prop where
 nodup:Ds.Nodup
 each:∀D∈Ds,lo≤D∧D<w.heap.size∧w.heap[D]?=some (.deferred (some []))∧¬Live st g D
def Marks.nil {lo:Nat} :Marks lo [] st g w:=⟨List.nodup_nil,fun _ h=>by cases h⟩
def Marks.step {lo:Nat} {Ds:Ln}  {g' :Gh} {w' :World} (h:Marks lo Ds st g w) (hs:Step st g w st' g' w'):Marks lo Ds st' g' w' :=
 ⟨h.nodup,fun D hD=>by
  obtain⟨h1,h2,h3,h4⟩:=h.each D hD
  refine⟨h1,Nat.lt_of_lt_of_le h2 hs.size,(hs.same D h2 h4).trans h3,fun hl=> ?_⟩
  rcases hs.live D hl with h5|h5
  ·omega
  ·exact h4 h5⟩
def NewK.refl:NewK st g g:=fun _ _ h=> .inl h
def NewK.trans {st1:St} {g1 g2:Gh} (h:NewK st g g1) (hn:st.next≤st1.next) (k:NewK st1 g1 g2):NewK st g g2:=fun j b hb=>by
 rcases k j b hb with h1|h1
 ·exact h j b h1
 ·exact .inr (Nat.le_trans hn h1)
def Inv.junk (h:Inv P z0i st g w) (ob:Go.Obj):Inv P z0i st g (World.add w ob)∧Step st g w st g (World.add w ob):=by
 refine⟨⟨fun k b hb=>⟨(h.u k b hb).1,?_⟩,fun b o v hv=> ?_,h.inj,fun k o ho=> ?_⟩,⟨Ext.refl g,Nat.le_refl _,by rw[z76];omega,rfl,rfl,rfl,fun b hb _=>z3j hb,fun _ _ _ hv=> .inl hv,fun _ hb=> .inr hb⟩⟩
 ·rw[z76];exact Nat.lt_succ_of_lt (h.u k b hb).2
 ·have:=h.H b o v hv
  rw[z5m (z3j (zgf this))];exact this
 ·obtain⟨b,h1,h2⟩:=h.obj k o ho
  exact⟨b,h1,h2.mono (Ext.refl g) ⟨rfl,rfl⟩ rfl (z3j (h.u k b h1).2) fun hh=>hh⟩
def Inv.scratch (h:Inv P z0i st g w)  (hb:¬Live st g b) (hH:∀o,g.H b o=none) (ob:Go.Obj):Inv P z0i st g (World.put w b ob):=by
 refine⟨fun k c hc=>by rw[z5v];exact h.u k c hc,fun c o v hv=> ?_,h.inj,fun k o ho=> ?_⟩
 ·have hne:c≠b:=fun e=>by rw[e,hH] at hv;cases hv
  rw[z5m (z1j hne)];exact h.H c o v hv
 ·obtain⟨c,h1,h2⟩:=h.obj k o ho
  have hne:c≠b:=fun e=>hb ⟨k,o,ho,e▸h1⟩
  exact⟨c,h1,h2.mono (Ext.refl g) ⟨rfl,rfl⟩ rfl (z1j hne) fun hh=>hh⟩
def Step.scratch  {g' :Gh} {w' :World} (h:Step st g w st' g' w')  (hb:w.heap.size≤b) (ob:Go.Obj):Step st g w st' g' (World.put w' b ob):=
 ⟨h.ext,h.next,by rw[z5v];exact h.size,h.os,h.tape,h.output,fun c hc hn=>by
  have hne:c≠b:=fun e=>ω
  rw[z1j hne];exact h.same c hc hn,h.Hn,h.live⟩
def Marks.scratch {lo:Nat} {Ds:Ln} (h:Marks lo Ds st g w)  (hb:b∉Ds) (ob:Go.Obj):Marks lo Ds st g (World.put w b ob):=
 ⟨h.nodup,fun D hD=>by
  obtain⟨h1,h2,h3,h4⟩:=h.each D hD
  have hne:D≠b:=fun e=>hb (e▸hD)
  exact⟨h1,by rw[z5v];exact h2,by rw[z1j hne];exact h3,h4⟩⟩
theorem zal  {ob:Go.Obj} (h:Inv P z0i st g w) (hb:w.heap[b]?=some ob) (hn:∀c t f,ob≠ .cells c t f):∀o,g.H b o=none:=fun o=>by
 cases e:g.H b o with
 |none=>rfl
 |some v=>
  have:=h.H b o v e
  unfold World.cell? at this
  simp only[hb] at this
  cases ob<;>first| (cases this;done)|exact absurd rfl (hn _ _ _)
def zi8:Ex→Exit
 | .nrm=> .normal
 | .brk id=> .exit id
 | .ret=> .ret
def RoOk (rd ro:Option Nat) (g:Gh):Prop:=
 match rd with
 |none=>ro=none
 |some k=>∃l,ro=some l∧g.blk k=some l
def RoOk.mono {rd ro:Option Nat} {g' :Gh} (h:RoOk rd ro g) (hx:Ext g g'):RoOk rd ro g' :=by
 cases rd with
 |none=>exact h
 |some k=>obtain⟨l,h1,h2⟩:=h;exact⟨l,h1,(hx.blk k l h2).1⟩
def After (P:Program) (lo:Nat) (st:St) (g:Gh) (w:World) (env' :List V) (st' :St) (a' :Act) (w' :World):Prop:=
 ∃g' Ds',RepVs g' env' a'.tmps.toList∧Inv P z0i st' g' w' ∧Step st g w st' g' w' ∧NewK st g g' ∧a'.defers=Ds'.map zbv∧Marks lo Ds' st' g' w'
def After.from {lo:Nat} {st1:St} {g1:Gh} {w1 w' :World} {env' :Lv} {a' :Act} (hs:Step st g w st1 g1 w1) (hn:NewK st g g1) (h:After P lo st1 g1 w1 env' st' a' w'):After P lo st g w env' st' a' w' :=by
 obtain⟨g',Ds',h1,h2,h3,h4,h5,h6⟩:=h
 exact⟨g',Ds',h1,h2,hs.trans h3,hn.trans hs.next h4,h5,h6⟩
def zj7 (P:Program) (cl:z12):Prop:=∀f first cap args st r st',cl (.fn f first cap) args st=some (r,st')→∀g w u (us:Array Value),RepV g (.fn f first cap) u→
 ∃d args',(Deferred.ofValue u us).run P w= .ok d w∧(invoke d.target d.args).run P w= .ok (.enter f args') w
def zps (nf:Bool) (P:Program) (ops:List Oper) (draw:Bool): (∃n l,cReg nf P ops draw= .reg n l)∨cReg nf P ops draw= .bad:=by
 unfold cReg
 simp only
 split
 ·exact .inl ⟨_,_,rfl⟩
 ·exact .inr rfl
section
variable {cl:z12} {n lo:Nat} {rd ro:Option Nat} {nf:Bool}
def zw4 (nf:Bool) (P:Program) (cl:z12) (n lo:Nat) (rd ro:Option Nat) (c:Code):Prop:=
 ∀{env env' :List V} {ex:Ex} {st st' :St} {g:Gh} {w:World} {a:Act} {Ds:List Nat} {Q:Exit→Act→World→Prop},z1f cl n rd (z0i nf P c) env st=some (ex,env',st')→Inv P z0i st g w→RepVs g env a.tmps.toList→
  a.defers=Ds.map zbv→Marks lo Ds st g w→lo≤w.heap.size→RoOk rd ro g→(∀a' w',After P lo st g w env' st' a' w' →Q (zi8 ex) a' w')→c.wpIn (Fw ro) 0 P Q a w
theorem zh6 {c:Code} (hc:zw4 nf P cl n lo rd ro c):∀(m:Nat) {env env' :List V} {ex:Ex} {st st' :St} {g:Gh} {w:World} {a:Act} {Ds:List Nat} {Q:Exit→Act→World→Prop},rounds (z1f cl n rd (z0i nf P c)) m env st=some (ex,env',st')→Inv P z0i st g w→RepVs g env a.tmps.toList→
  a.defers=Ds.map zbv→Marks lo Ds st g w→lo≤w.heap.size→RoOk rd ro g→(∀a' w',After P lo st g w env' st' a' w' →Q (zi8 ex) a' w')→Code.roundsIn (Fw ro) 0 P c Q m a w
 |0,_,_,_,_,_,_,_,_,_,_,h,_,_,_,_,_,_,_=>by simp[rounds] at h
 |m+1,env,env',ex,st,st',g,w,a,Ds,Q,h,hi,henv,hd,hm,hlo,hro,hQ=>by
  simp only[rounds] at h
  rw[roundsIn_succ]
  cases hev:z1f cl n rd (z0i nf P c) env st with
  |none=>rw[hev] at h;cases h
  |some p=>
   obtain⟨e1,env1,st1⟩:=p
   rw[hev] at h
   refine hc hev hi henv hd hm hlo hro fun a1 w1 haft=> ?_
   cases e1 with
   |nrm=>
    simp only at h
    obtain⟨g1,Ds1,h1,h2,h3,h4,h5,h6⟩:=haft
    exact zh6 hc m h h2 h1 h5 h6 (Nat.le_trans hlo h3.size) (hro.mono h3.ext) fun a' w' h' =>hQ a' w' (h'.from h3 h4)
   |brk id=>simp only[Option.some.injEq,Prod.mk.injEq] at h;obtain⟨rfl,rfl,rfl⟩:=h;exact hQ a1 w1 haft
   |ret=>simp only[Option.some.injEq,Prod.mk.injEq] at h;obtain⟨rfl,rfl,rfl⟩:=h;exact hQ a1 w1 haft
def y6f (Q:Exit→Act→World→Prop):Exit→Act→World→Prop
 | .goto _,_,_=>False
 |e,a,w=>Q e a w
def zo7 {c:Code} {F:Fence} {k:Nat} {Q:Exit→Act→World→Prop} {a:Act} (h:c.wpIn F k P (y6f Q) a w): (Code.scope c).wpIn F k P Q a w:=by
 intro b k' cs hro hb hr
 have h0: (lone (b.atR a (.code (.scope c)::k')) cs w).fenced P F:=fenced_calm hb hr rfl
 have s0:step P (lone (b.atR a (.code (.scope c)::k')) cs w)= .next (lone (b.atR a (.code c:: .inScope c::k')) cs w):=step_lone_go (by simp[stepG,stepG.exec,Frame.atR])
 obtain⟨e,a₁,w₁,hq,harr⟩:=h b (.inScope c::k') cs hro hb hr
 have s1:step P (lone (b.atR a₁ (.inScope c::k')) cs w₁)= .next (lone (b.atR a₁ k') cs w₁):=step_lone_go (by simp[stepG,stepG.exec,Frame.atR])
 cases e with
 |normal=>exact⟨.normal,a₁,w₁,hq,.head h0 s0 (StepsIn.trans harr (.one (fenced_calm hb hr rfl) s1))⟩
 |exit id=>
  refine⟨_,a₁,w₁,hq,.of_steps (.one h0 s0) ⟨fun k'' hk=>harr.1 k'' (by simp[exitTo,hk]),fun hr' hk=>harr.2 hr' (by simp[exitTo,hk])⟩⟩
 |goto l=>exact hq.elim
 |ret=>exact⟨_,a₁,w₁,hq,.of_steps (.one h0 s0) harr⟩
 |panic ch=>exact⟨_,a₁,w₁,hq,.of_steps (.one h0 s0) harr⟩
 |outgrown=>exact⟨_,a₁,w₁,hq,.of_steps (.one h0 s0) harr⟩
def y8m (hcl:z3n P cl) (hent:zj7 P cl) {f:Operand} {ps:Array Tmp} {asg body:Code} :zw4 nf P cl n lo rd ro (.rangeFunc f ps asg body):=by
 intro env env' ex st st' g w a Ds Q h hi henv hd hm hlo hro hQ
 simp only[z0i] at h
 cases hf:cOpd f with
 |none=>rw[hf] at h;simp[z1f] at h
 |some y=>
  rw[hf] at h
  simp only[z1f] at h
  split at h
  ·rename_i hrd
   have hfv:=z0u henv hf
   split at h
   ·rename_i fn first cap hy
    rw[hy] at hfv
    split at h
    ·cases h
    ·rename_i r st2 hcall
     refine wpIn_rangeFunc fun fnid _=> ?_
     have hblock:∃D mark w0,(Instr.enterLoop fnid a.tmps ps asg body ro).run P w= .ok (w0.heap.size,mark) (World.add w0 (.loop {state:= .ready,pending:=none,fn:=fnid,tmps:=a.tmps,params:=ps,assign:=asg,body:=body,defers:=D}))∧
       Inv P z0i st g w0∧Step st g w st g w0∧∃Ds0,mark++a.defers=Ds0.map zbv∧Marks lo Ds0 st g w0:=by
      cases rd with
      |none=>
       have hro' :ro=none:=hro
       subst hro'
       obtain⟨h1,h2⟩:=hi.junk (.deferred (some []))
       refine⟨w.heap.size,[zbv w.heap.size],World.add w (.deferred (some [])),?_,h1,h2,w.heap.size::Ds,?_,?_⟩
       ·simp[Instr.enterLoop,newObj,Sem.run,World.add,zbv];rfl
       ·rw[hd];rfl
       ·refine⟨List.nodup_cons.2 ⟨fun hmem=>Nat.lt_irrefl _ (hm.each _ hmem).2.1,hm.nodup⟩,fun D hD=> ?_⟩
        rcases List.mem_cons.1 hD with rfl|hD
        ·exact⟨hlo,by rw[z76];omega,z36,hi.notLive⟩
        ·exact (hm.step h2).each D hD
      |some k=>
       obtain⟨l,hro',hl⟩:=hro
       subst hro'
       simp only[okRd] at hrd
       split at hrd
       ·rename_i e1 p1 a1 b1 s1 q1 ho
        obtain⟨b,hb,L,hL,_⟩:=hi.obj k _ ho
        rw[hl] at hb
        cases hb
        refine⟨L.defers,[],w,?_,hi,Step.refl _ _ _,Ds,hd,hm⟩
        simp[Instr.enterLoop,Instr.getLoop,getObj,newObj,Sem.run,hL,World.add]
       ·cases hrd
     obtain⟨D,mark,w0,hrun0,hi0,hs0,Ds0,hd0,hm0⟩:=hblock
     have hnone:g.blk st.next=none:=by
      cases e:g.blk st.next with
      |none=>rfl
      |some b=>exact absurd (hi.u _ _ e).1 (Nat.lt_irrefl _)
     let L:Loop:= {state:= .ready,pending:=none,fn:=fnid,tmps:=a.tmps,params:=ps,assign:=asg,body:=body,defers:=D}
     obtain⟨hi1,hs1⟩:= (hi0.bump 1).ins (n:=0) (m:=0) (k:=st.next) hnone ψ (o:= .loop env ps.toList (z0i nf P asg) (z0i nf P body) .ready none) (ob:= .loop L)
      ⟨L,z36,RepVs.mono (Ext.asg hnone) henv,rfl,⟨nf,rfl,rfl⟩,rfl,(fun x hx=>by cases hx),fun _=>rfl⟩
     have hs01:=hs0.trans hs1.bump
     have hb1: (g.asg st.next w0.heap.size 0 0).blk st.next=some w0.heap.size:=z29
     have hl0:w.heap.size≤w0.heap.size:=hs0.size
     have hm1:=hm0.step hs1.bump
     obtain⟨d,args',hd1,hd2⟩:=hent fn first cap _ _ _ _ hcall (g.asg st.next w0.heap.size 0 0) (World.add w0 (.loop L)) (a.eval f) #[.func (.yield w0.heap.size) #[] #[]] (hfv.mono (Ext.asg hnone))
     refine⟨w0.heap.size,mark,World.add w0 (.loop L),d,World.add w0 (.loop L),fn,args',World.add w0 (.loop L),?_,?_,fun _ _=>trivial,hd2,fun hdep=>by simp[Fence.wide] at hdep,?_⟩
     ·exact hrun0
     ·simpa [resolve,rangeCall,Act.eval] using hd1
     ·have hgood:=hcl _ _ _ _ _ hcall (g.asg st.next w0.heap.size 0 0) (World.add w0 (.loop L)) (a.eval f) #[.func (.yield w0.heap.size) #[] #[]] hi1 (hfv.mono (Ext.asg hnone))
       (show RepVs _ [.yld st.next] [.func (.yield w0.heap.size) #[] #[]] from z0w.2 ⟨⟨_,hb1,rfl⟩,z1h⟩)
      have hbind: ((do let d←Deferred.ofValue (a.eval f) #[.func (.yield w0.heap.size) #[] #[]];invoke d.target d.args:Sem Next)).run P (World.add w0 (.loop L))= .ok (.enter fn args') (World.add w0 (.loop L)):=by
       simp[hd1,hd2]
      rw[hbind] at hgood
      refine CallsIn.mono (znk hgood) fun e w3 he=> ?_
      obtain⟨v,rfl,g3,_,hi3,hs3,hn3⟩:=he
      split at h
      ·rename_i e3 p3 a3 b3 ls pend ho
       have ho' :sget st2.s st.next=some (.loop e3 p3 a3 b3 ls pend):=ho
       obtain⟨b,hb,L3,hL3,q1,q2,q34,q5,q6,q7⟩:=hi3.obj _ _ ho'
       rw[(hs3.ext.blk _ _ hb1).1] at hb
       cases hb
       have hbusy:ls≠ .busy:=fun e=>by subst e;simp at h
       have hend: (Instr.endLoop w0.heap.size).run P w3= .ok L3.pending (World.put w3 w0.heap.size (.loop {L3 with state:= .exhausted})):=by
        have hne:L3.state≠LoopState.busy:=by rw[q5];exact hbusy
        simp[Instr.endLoop,Instr.getLoop,getObj,setObj,Sem.run,hL3,World.put,hne]
       obtain⟨hi4,hs4⟩:=hi3.del st.next
       have hnl:¬Live (st2.del st.next) g3 w0.heap.size:=fun⟨j,x,hj,hjb⟩=>by
        by_cases e:j=st.next
        ·subst e
         simp only[St.del] at hj
         rw[z30] at hj;cases hj
        ·simp only[St.del] at hj
         rw[z1x e] at hj
         exact e (hi3.inj _ _ _ _ _ hj ho' hjb (hs3.ext.blk _ _ hb1).1)
       have hH:=zal hi3 hL3 ψ
       have hi5:=hi4.scratch hnl hH (.loop {L3 with state:= .exhausted})
       have hs5:= ((hs01.trans hs3).trans hs4).scratch hl0 (.loop {L3 with state:= .exhausted})
       have hm4:= (hm1.step hs3).step hs4
       have hmem:w0.heap.size∉Ds0:=fun hmem=>Nat.lt_irrefl _ (hm0.each _ hmem).2.1
       have hm5:=hm4.scratch hmem (.loop {L3 with state:= .exhausted})
       have hnew:NewK st g g3:=fun k b hb=>by
        rcases hn3 k b hb with h1|h1
        ·by_cases e:k=st.next
         ·exact .inr ω
         ·rw[(z20 e).1] at h1;exact .inl h1
        ·exact .inr (Nat.le_of_succ_le h1)
       have haft:∀(env2:Lv),env2=env→After P lo st g w env2 (st2.del st.next) {a with defers:=mark++a.defers} (World.put w3 w0.heap.size (.loop {L3 with state:= .exhausted})):=fun env2 e=>by
        subst e
        exact⟨g3,Ds0,RepVs.mono (hs01.trans hs3).ext henv,hi5,hs5,hnew,hd0,hm5⟩
       obtain⟨W,hW⟩:∃W,World.put w3 w0.heap.size (.loop {L3 with state:= .exhausted})=W:=⟨_,rfl⟩
       rw[hW] at hend haft
       refine⟨L3.pending,W,hend,?_⟩
       have hres: (match pend with|none=>some (Ex.nrm,env,st2.del st.next)|some x=>some (x,env,st2.del st.next))=some (ex,env',st'):=by
        revert h
        cases pend<;>cases ls<;>intro h<;>first|exact h| (simp at h;done)|exact absurd rfl hbusy
       cases pend with
       |none=>
        simp only[Option.some.injEq,Prod.mk.injEq] at hres
        obtain⟨rfl,rfl,rfl⟩:=hres
        rw[q7 rfl]
        exact hQ _ _ (haft _ rfl)
       |some x=>
        simp only[Option.some.injEq,Prod.mk.injEq] at hres
        obtain⟨rfl,rfl,rfl⟩:=hres
        obtain⟨h6,h7⟩:=q6 x rfl
        rw[h6]
        cases x with
        |nrm=>exact absurd rfl h7
        |brk id=>exact wpIn_exit (hQ _ _ (haft _ rfl))
        |ret=>exact wpIn_ret (hQ _ _ (haft _ rfl))
      ·cases h
   ·cases h
  ·cases h
def zkp (hcl:z3n P cl) (hent:zj7 P cl) (hmix:P.follows .mixedOrders=true) (c:Code):zw4 nf P cl n lo rd ro c:=by
 induction c with
 |skip=>
  intro env env' ex st st' g w a Ds Q h hi henv hd hm hlo hro hQ
  simp only[z0i,z1f,Option.some.injEq,Prod.mk.injEq] at h
  obtain⟨rfl,rfl,rfl⟩:=h
  exact wpIn_skip (hQ a w ⟨g,Ds,henv,hi,Step.refl _ _ _,NewK.refl,hd,hm⟩)
 |label l=>
  intro env env' ex st st' g w a Ds Q h hi henv hd hm hlo hro hQ
  simp only[z0i,z1f,Option.some.injEq,Prod.mk.injEq] at h
  obtain⟨rfl,rfl,rfl⟩:=h
  exact wpIn_label (hQ a w ⟨g,Ds,henv,hi,Step.refl _ _ _,NewK.refl,hd,hm⟩)
 |exit id=>
  intro env env' ex st st' g w a Ds Q h hi henv hd hm hlo hro hQ
  simp only[z0i,z1f,Option.some.injEq,Prod.mk.injEq] at h
  obtain⟨rfl,rfl,rfl⟩:=h
  exact wpIn_exit (hQ a w ⟨g,Ds,henv,hi,Step.refl _ _ _,NewK.refl,hd,hm⟩)
 |ret=>
  intro env env' ex st st' g w a Ds Q h hi henv hd hm hlo hro hQ
  simp only[z0i,z1f,Option.some.injEq,Prod.mk.injEq] at h
  obtain⟨rfl,rfl,rfl⟩:=h
  exact wpIn_ret (hQ a w ⟨g,Ds,henv,hi,Step.refl _ _ _,NewK.refl,hd,hm⟩)
 |goto l=>
  intro env env' ex st st' g w a Ds Q h
  simp[z0i,z1f] at h
 |refuse r=>
  intro env env' ex st st' g w a Ds Q h
  simp[z0i,z1f] at h
 |region id ops draw=>
  intro env env' ex st st' g w a Ds Q h hi henv hd hm hlo hro hQ
  simp only[z0i] at h
  rcases zps nf P ops.toList draw with⟨na,l,hc⟩|hc
  ·rw[hc] at h
   simp only[z1f] at h
   split at h
   ·rename_i env1 st1 he
    cases h
    exact y5w hcl hmix hc he hi henv fun a' w' g' h1 h2 h3 h4 h5=>hQ a' w' ⟨g',Ds,h1,h2,h3,h5,h4.trans hd,hm.step h3⟩
   ·cases h
  ·rw[hc] at h
   simp[z1f] at h
 |seq x y ihx ihy=>
  intro env env' ex st st' g w a Ds Q h hi henv hd hm hlo hro hQ
  simp only[z0i,z1f] at h
  refine wpIn_seq ?_
  cases hev:z1f cl n rd (z0i nf P x) env st with
  |none=>rw[hev] at h;cases h
  |some p=>
   obtain⟨e1,env1,st1⟩:=p
   rw[hev] at h
   refine ihx hev hi henv hd hm hlo hro fun a1 w1 haft=> ?_
   cases e1 with
   |nrm=>
    simp only at h
    obtain⟨g1,Ds1,h1,h2,h3,h4,h5,h6⟩:=haft
    exact ihy h h2 h1 h5 h6 (Nat.le_trans hlo h3.size) (hro.mono h3.ext) fun a' w' h' =>hQ a' w' (h'.from h3 h4)
   |brk id=>simp only[Option.some.injEq,Prod.mk.injEq] at h;obtain⟨rfl,rfl,rfl⟩:=h;exact hQ a1 w1 haft
   |ret=>simp only[Option.some.injEq,Prod.mk.injEq] at h;obtain⟨rfl,rfl,rfl⟩:=h;exact hQ a1 w1 haft
 |cond c x y ihx ihy=>
  intro env env' ex st st' g w a Ds Q h hi henv hd hm hlo hro hQ
  simp only[z0i] at h
  split at h
  ·rename_i c' hc
   simp only[z1f] at h
   have hv:=z0u henv hc
   split at h
   ·rename_i t ht
    rw[ht] at hv
    simp only[RepV,RepD] at hv
    refine wpIn_cond hv ?_
    cases t with
    |true=>exact ihx h hi henv hd hm hlo hro hQ
    |false=>exact ihy h hi henv hd hm hlo hro hQ
   ·cases h
  ·simp[z1f] at h
 |block id b ihb=>
  intro env env' ex st st' g w a Ds Q h hi henv hd hm hlo hro hQ
  simp only[z0i,z1f] at h
  refine wpIn_block ?_
  cases hev:z1f cl n rd (z0i nf P b) env st with
  |none=>rw[hev] at h;cases h
  |some p=>
   obtain⟨e1,env1,st1⟩:=p
   rw[hev] at h
   refine ihb hev hi henv hd hm hlo hro fun a1 w1 haft=> ?_
   cases e1 with
   |nrm=>simp only[Option.some.injEq,Prod.mk.injEq] at h;obtain⟨rfl,rfl,rfl⟩:=h;exact hQ a1 w1 haft
   |ret=>simp only[Option.some.injEq,Prod.mk.injEq] at h;obtain⟨rfl,rfl,rfl⟩:=h;exact hQ a1 w1 haft
   |brk j=>
    simp only[Option.some.injEq,Prod.mk.injEq] at h
    obtain⟨rfl,rfl,rfl⟩:=h
    have:=hQ a1 w1 haft
    simp only[zi8,Exit.inBlock]
    by_cases e:j=id
    ·simpa [e,zi8] using this
    ·simpa [e,zi8] using this
 |loop b ihb=>
  intro env env' ex st st' g w a Ds Q h hi henv hd hm hlo hro hQ
  simp only[z0i,z1f] at h
  exact wpIn_loop_rounds n (zh6 ihb n h hi henv hd hm hlo hro hQ)
 |scope b ihb=>
  intro env env' ex st st' g w a Ds Q h hi henv hd hm hlo hro hQ
  simp only[z0i] at h
  refine zo7 (ihb h hi henv hd hm hlo hro fun a' w' h' => ?_)
  have:=hQ a' w' h'
  cases ex<;>exact this
 |rangeFunc f ps asg body _ _=>exact y8m hcl hent
end
end Go.Lift
namespace Go.Lift
open Go
variable{b base k n:Nat}{st1 st':St}{env args vs:Lv}{F:IFun}
structure Lo (base:Nat) (st st' :St):Prop where
 low:st'.low≤st.low
 next:st.next≤st'.next
 same:∀k,k<st'.low→k<base→sget st'.s k=sget st.s k
theorem Lo.refl (base:Nat) (st:St):Lo base st st:=⟨Nat.le_refl _,Nat.le_refl _,fun _ _ _=>rfl⟩
def Lo.trans {b':Nat} {st st2:St} (h:Lo b st st1) (k:Lo b' st1 st2) (hb:b≤b'):Lo b st st2:=
 ⟨Nat.le_trans k.low h.low,Nat.le_trans h.next k.next,fun j h1 h2=> (k.same j h1 (Nat.lt_of_lt_of_le h2 hb)).trans (h.same j (Nat.lt_of_lt_of_le h1 k.low) h2)⟩
def Lo.less {b':Nat} {st:St} (h:Lo b' st st1) (hb:b≤b'):Lo b st st1:=⟨h.low,h.next,fun j h1 h2=>h.same j h1 (Nat.lt_of_lt_of_le h2 hb)⟩
def zk1 (a b:Nat):Nat.min a b≤a:=Nat.min_le_left a b
def zk0 (a b:Nat):Nat.min a b≤b:=Nat.min_le_right a b
def Lo.set (base:Nat) (st:St) (k:Nat) (o:Obj):Lo base st (st.set k o):=
 ⟨zk1 _ _,Nat.le_refl _,fun j h1 _=>by
  have:j<k:=Nat.lt_of_lt_of_le h1 (zk0 _ _)
  simp only[St.set]
  exact z0n (Nat.ne_of_lt this)⟩
def Lo.del (base:Nat) (st:St) (k:Nat):Lo base st (st.del k):=
 ⟨zk1 _ _,Nat.le_refl _,fun j h1 _=>by
  have:j<k:=Nat.lt_of_lt_of_le h1 (zk0 _ _)
  simp only[St.del]
  exact z1x (Nat.ne_of_lt this)⟩
def Lo.ins  (st:St)  (hk:base≤k) (o:Obj):Lo base st (st.ins k o):=
 ⟨Nat.le_refl _,Nat.le_refl _,fun j _ h2=>by
  have hne:k≠j:=ω
  simp only[St.ins,sget,hne,if_false]⟩
def zfo {f:St→V→Option (V×St)} (hf:∀base st v y st',f st v=some (y,st')→Lo base st st'):∀(base:Nat) {l:List V} {st:St} {ys:List V} {st' :St},frzL f st l=some (ys,st')→Lo base st st'
 |base,[],st,ys,st',h=>by
  simp only[frzL,Option.some.injEq,Prod.mk.injEq] at h
  rw[←h.2];exact Lo.refl _ _
 |base,x::l,st,ys,st',h=>by
  simp only[frzL] at h
  split at h
  ·cases h
  ·rename_i y st1 hx
   split at h
   ·cases h
   ·rename_i ys' st2 hl
    cases h
    exact (hf base _ _ _ _ hx).trans (zfo hf base hl) (Nat.le_refl _)
def zma:∀(n:Nat) (base:Nat) (st:St) (v y:V) (st' :St),frz n st v=some (y,st')→Lo base st st'
 |0,_,_,_,_,_,h=>by simp[frz] at h
 |n+1,base,st,v,y,st',h=>by
  cases v<;>simp only[frz] at h
  case arr k es ag off len=>
   split at h
   ·split at h
    ·split at h
     ·cases h
     ·rename_i ys st1 hys
      split at h
      ·cases h
      ·split at h
       ·split at h
        ·cases h
         exact (zfo (zma n) base hys).trans (Lo.set _ _ _ _) (Nat.le_refl base)
        ·cases h
       ·cases h
    ·cases h
   ·split at h
    ·split at h
     ·cases h
     ·cases h;exact Lo.refl _ _
    ·cases h
   ·cases h
  case agg l=>
   split at h
   ·cases h
   ·rename_i ys st1 hys
    cases h
    exact zfo (zma n) base hys
  all_goals
   cases h
   exact Lo.refl _ _
def zt3 {env:List V} :∀(base:Nat) {l:List (Nat×Opd)} {st:St} {ys:List (Nat×V)} {st' :St},frzP env st l=some (ys,st')→Lo base st st'
 |base,[],st,ys,st',h=>by
  simp only[frzP,Option.some.injEq,Prod.mk.injEq] at h
  rw[←h.2];exact Lo.refl _ _
 |base,(i,x)::l,st,ys,st',h=>by
  simp only[frzP] at h
  split at h
  ·cases h
  ·rename_i y st1 hx
   split at h
   ·cases h
   ·rename_i ys' st2 hl
    cases h
    exact (zma _ base _ _ _ _ hx).trans (zt3 base hl) (Nat.le_refl _)
def y8w   {st:St} {v:V} :∀{k:IK},evalOp base env st k=some (v,st')→Lo base st st' :=by
 intro k h
 cases k<;>simp only[evalOp] at h
 case mkSl ai es ag nf z len ps=>
  split at h
  ·cases h
  ·rename_i q st1 hq
   have h1:Lo base st st1:=by
    split at hq
    ·cases hq;exact Lo.refl _ _
    ·exact zt3 base hq
   split at h
   ·split at h
    ·split at h
     ·cases h
      exact h1.trans (Lo.ins _ (Nat.le_add_right _ _) _) (Nat.le_refl _)
     ·cases h
    ·cases h
   ·cases h
 case store n a x=>
  split at h
  ·rename_i s1 hs
   cases h
   unfold opStore at hs
   repeat' split at hs
   all_goals first| (cases hs;exact Lo.set _ _ _ _)| (cases hs;done)
  ·cases h
 case mapUpd kt ag sh m k x=>
  split at h
  ·rename_i s1 hs
   cases h
   unfold z5w at hs
   repeat' split at hs
   all_goals first| (cases hs;exact Lo.set _ _ _ _)| (cases hs;done)
  ·cases h
 case append ai es ag eb x y=>
  unfold z0v at h
  repeat' split at h
  all_goals first| (cases h;exact Lo.refl _ _)| (cases h;exact Lo.ins _ (Nat.le_add_right _ _) _)| (cases h;exact (Lo.del base _ _).trans (Lo.ins _ (Nat.le_add_right _ _) _) (Nat.le_refl _))| (cases h;done)
 case copy es x y=>
  unfold z5d at h
  repeat' split at h
  all_goals first| (cases h;exact Lo.refl _ _)| (cases h;exact Lo.set _ _ _ _)| (cases h;done)
 case clearS es z x=>
  split at h
  ·rename_i s1 hs
   cases h
   unfold z88 at hs
   repeat' split at hs
   all_goals first| (cases hs;exact Lo.refl _ _)| (cases hs;exact Lo.set _ _ _ _)| (cases hs;done)
  ·cases h
 all_goals (repeat' split at h)<;>first| (cases h;exact Lo.refl _ _)| (cases h;exact Lo.set _ _ _ _)| (cases h;exact Lo.ins _ (Nat.le_add_right _ _) _)| (cases h;done)
def LoCl (cl:z12):Prop:=∀v args st r st',cl v args st=some (r,st')→Lo st.next st st'
section
variable {cl:z12} (hcl:LoCl cl)
include hcl
def y6w   {st:St} {v:V} {o:IOp} (hb:base≤st.next) (h:evalIOp cl base env st o=some (v,st')):Lo base st st' :=by
 unfold evalIOp at h
 split at h
 ·exact (hcl _ _ _ _ _ h).less hb
 ·exact y8w h
def zt2 {base:Nat} :∀{l:List IOp} {env env' :List V} {st st' :St},base≤st.next→z0m cl base l env st=some (env',st')→Lo base st st'
 | [],env,env',st,st',hb,h=>by
  simp only[z0m,Option.some.injEq,Prod.mk.injEq] at h
  rw[←h.2];exact Lo.refl _ _
 |o::l,env,env',st,st',hb,h=>by
  simp only[z0m] at h
  split at h
  ·split at h
   ·cases h
   ·rename_i v st1 ho
    split at h
    ·have h1:=y6w hcl hb ho
     exact h1.trans (zt2 (Nat.le_trans hb h1.next) h) (Nat.le_refl _)
    ·cases h
  ·exact zt2 hb h
theorem zhu {f:List V→St→Option (Ex×List V×St)} (hf:∀env st ex env' st',f env st=some (ex,env',st')→Lo st.next st st'):∀(n:Nat) {env env' :List V} {st st' :St} {ex:Ex},rounds f n env st=some (ex,env',st')→Lo st.next st st'
 |0,_,_,_,_,_,h=>by simp[rounds] at h
 |n+1,env,env',st,st',ex,h=>by
  simp only[rounds] at h
  cases hev:f env st with
  |none=>rw[hev] at h;cases h
  |some p=>
   obtain⟨e1,env1,st1⟩:=p
   rw[hev] at h
   have h1:=hf _ _ _ _ _ hev
   cases e1 with
   |nrm=>exact h1.trans (zhu hf n h) h1.next
   |brk id=>simp only[Option.some.injEq,Prod.mk.injEq] at h;obtain⟨rfl,rfl,rfl⟩:=h;exact h1
   |ret=>simp only[Option.some.injEq,Prod.mk.injEq] at h;obtain⟨rfl,rfl,rfl⟩:=h;exact h1
def zk3  {rd:Option Nat} :∀(c:IC) {env env' :Lv} {st st' :St} {ex:Ex},z1f cl n rd c env st=some (ex,env',st')→Lo st.next st st' :=by
 intro c
 induction c with
 |skip=>intro env env' st st' ex h;simp only[z1f,Option.some.injEq,Prod.mk.injEq] at h;rw[←h.2.2];exact Lo.refl _ _
 |exit id=>intro env env' st st' ex h;simp only[z1f,Option.some.injEq,Prod.mk.injEq] at h;rw[←h.2.2];exact Lo.refl _ _
 |ret=>intro env env' st st' ex h;simp only[z1f,Option.some.injEq,Prod.mk.injEq] at h;rw[←h.2.2];exact Lo.refl _ _
 |bad=>intro env env' st st' ex h;simp[z1f] at h
 |reg na ops=>
  intro env env' st st' ex h
  simp only[z1f] at h
  split at h
  ·rename_i env1 st1 ho
   cases h
   have h1:=zt2 hcl (base:=st.next) (st:= {st with next:=st.next+na}) (Nat.le_add_right _ _) ho
   exact⟨h1.low,Nat.le_trans (Nat.le_add_right _ _) h1.next,h1.same⟩
  ·cases h
 |seq a b iha ihb=>
  intro env env' st st' ex h
  simp only[z1f] at h
  cases hev:z1f cl n rd a env st with
  |none=>rw[hev] at h;cases h
  |some p=>
   obtain⟨e1,env1,st1⟩:=p
   rw[hev] at h
   have h1:=iha hev
   cases e1 with
   |nrm=>exact h1.trans (ihb h) h1.next
   |brk id=>simp only[Option.some.injEq,Prod.mk.injEq] at h;obtain⟨rfl,rfl,rfl⟩:=h;exact h1
   |ret=>simp only[Option.some.injEq,Prod.mk.injEq] at h;obtain⟨rfl,rfl,rfl⟩:=h;exact h1
 |cond c a b iha ihb=>
  intro env env' st st' ex h
  simp only[z1f] at h
  split at h
  ·split at h
   ·exact iha h
   ·exact ihb h
  ·cases h
 |block id b ih=>
  intro env env' st st' ex h
  simp only[z1f] at h
  cases hev:z1f cl n rd b env st with
  |none=>rw[hev] at h;cases h
  |some p=>
   obtain⟨e1,env1,st1⟩:=p
   rw[hev] at h
   have h1:=ih hev
   cases e1<;> (simp only[Option.some.injEq,Prod.mk.injEq] at h;obtain⟨_,rfl,rfl⟩:=h;exact h1)
 |loop b ih=>
  intro env env' st st' ex h
  simp only[z1f] at h
  exact zhu hcl (fun _ _ _ _ _ h=>ih h) n h
 |rf f ps asg body _ _=>
  intro env env' st st' ex h
  simp only[z1f] at h
  split at h
  ·split at h
   ·split at h
    ·cases h
    ·rename_i r st2 hcall
     have h0:Lo st.next st {s:= (st.next,Obj.loop env ps asg body .ready none)::st.s,next:=st.next+1,low:=st.low} :=
      ⟨Nat.le_refl _,Nat.le_succ _,fun j _ h2=>by
       have hne:st.next≠j:=ω
       simp only[sget,hne,if_false]⟩
     have h1:=hcl _ _ _ _ _ hcall
     have h2:=h0.trans h1 (Nat.le_succ _)
     have h3:=h2.trans (Lo.del st.next st2 st.next) (Nat.le_refl _)
     split at h
     ·split at h
      ·cases h
      ·split at h<;> (cases h;exact h3)
     ·cases h
   ·cases h
  ·cases h
def zy0   {st:St} {r:V} (h:z3y cl n k args st=some (r,st')):Lo st.next st st' :=by
 unfold z3y at h
 split at h
 ·split at h
  ·cases h
  ·split at h
   ·rename_i env2 st2 h1
    have h1:=zk3 hcl _ h1
    split at h
    ·rename_i e2 p2 a2 b2 _
     split at h
     ·rename_i x env3 st3 h3
      have h3:=zk3 hcl _ h3
      have h4:= (h1.trans (Lo.set st.next st2 k _) (Nat.le_refl _)).trans h3 h1.next
      split at h
      ·split at h<;> (cases h;exact h4.trans (Lo.set st.next st3 k _) (Nat.le_refl _))
      ·cases h
     ·cases h
    ·cases h
   ·cases h
 ·cases h
def zt5    {st:St}  (h:z3v cl n F args st=some (vs,st')):Lo st.next st st' :=by
 unfold z3v at h
 split at h
 ·cases h
 ·rename_i x env' st1 _ h1
  split at h
  ·cases h;exact zk3 hcl _ h1
  ·cases h
 ·cases h
end
def zt4 {G:Nat→Option IFun} :∀n,LoCl (call G n)
 |0=>fun v args st r st' h=>by simp[call] at h
 |n+1=>fun v args st r st' h=>by
  have ih:=zt4 (G:=G) n
  cases v<;>simp only[call] at h<;>try (cases h;done)
  case fn f first cap=>
   split at h
   ·cases h
   ·split at h
    ·split at h
     ·split at h
      ·split at h
       ·cases h;exact Lo.refl _ _
       ·cases h
      ·cases h
     ·cases h
    split at h
    ·split at h
     ·cases h
     ·split at h
      ·cases h
      ·split at h
       ·cases h
       ·split at h
        ·cases h;exact Lo.refl _ _
        ·split at h
         ·cases h
         ·rename_i ys st2 hys
          split at h
          ·cases h
          ·split at h
           ·cases h;exact zfo (zma _) _ hys
           ·cases h
    ·split at h
     ·cases h
     ·rename_i vs st1 hb
      have h1:=zt5 ih hb
      split at h
      ·split at h
       ·cases h
       ·cases h;exact Lo.refl _ _
      ·cases h
       exact⟨zk1 _ _,h1.next,fun k hk hn=>h1.same k (Nat.lt_of_lt_of_le hk (zk0 _ _)) hn⟩
  case yld k=>exact zy0 ih h
variable {P:Program} {st:St} {g:Gh} {w:World}
def zdl (us:Array Value):Value:=if h:us.size=1 then us[0] else .tuple us
def zdk  {us:Array Value} (h:RepVs g vs us.toList):RepV g (tupV vs) (zdl us):=by
 have hl:=h.length
 unfold zdl tupV
 split
 ·rename_i v
  have h1:us.size=1:=by simpa using hl
  rw[dif_pos h1]
  obtain⟨u,hu,hr⟩:=h.get (i:=0) (x:=v) rfl
  have:us.toList[0]?=some us[0]:=by simp
  rw[this] at hu
  cases hu
  exact hr
 ·rename_i hne
  have h1:us.size≠1:=fun e=>by
   have h2:vs.length=1:=by rw[←hl];simpa using e
   obtain⟨v,rfl⟩:=List.length_eq_one_iff.1 h2
   exact hne v rfl
  rw[dif_neg h1]
  simp only[RepV]
  exact⟨us,rfl,h⟩
def zri (hi:Inv P z0i st g w)  {tmps:Array Value} (henv:RepVs g env tmps.toList)  :RepV g (env.getD n .undef) (tmps.getD n Go.undef):=by
 have hl:=henv.length
 by_cases hlt:n<env.length
 ·obtain⟨v,hv,hr⟩:=henv.get (i:=n) (x:=env[n]) (by simp[hlt])
  have hv' :tmps[n]?=some v:=by simpa using hv
  have h1:env.getD n .undef=env[n]:=by simp[hlt]
  rw[h1,Array.getD_eq_getD_getElem?,hv']
  exact hr
 ·have h1:env[n]?=none:=List.getElem?_eq_none (Nat.le_of_not_lt hlt)
  have h2:tmps[n]?=none:=by
   simp only[Array.length_toList] at hl
   exact Array.getElem?_eq_none (by rw[hl];exact Nat.le_of_not_lt hlt)
  rw[List.getD_eq_getElem?_getD,h1,Array.getD_eq_getD_getElem?,h2]
  exact z5s
def zom (tmps:Array Value):ResultVar→Sem Value
 | .tmp t=>pure (tmps.getD t Go.undef)
 | .cell a t=>do loadVar t (←asAddr (tmps.getD a Go.undef))
def zjj (hi:Inv P z0i st g w) {env:List V} {tmps:Array Value} (henv:RepVs g env tmps.toList):∀{rs:List ResultVar} {irs:List IR} {vs:List V},cRes P rs=some irs→z2h st env irs=some vs→
  ∃us:List Value,(rs.mapM (zom tmps)).run P w= .ok us w∧RepVs g vs us
 | [],irs,vs,hc,h=>by
  simp only[cRes,Option.some.injEq] at hc
  subst hc
  simp only[z2h,Option.some.injEq] at h
  subst h
  exact⟨[],by simp,z1h⟩
 | .tmp t::rs,irs,vs,hc,h=>by
  simp only[cRes,Option.map_eq_some_iff] at hc
  obtain⟨irs',hc',rfl⟩:=hc
  simp only[z2h,resV] at h
  split at h
  ·cases h
  ·rename_i ws hws
   cases h
   obtain⟨us,h1,h2⟩:=zjj hi henv hc' hws
   exact⟨tmps.getD t Go.undef::us,by simp[List.mapM_cons,zom,h1],z0w.2 ⟨zri hi henv,h2⟩⟩
 | .cell a t::rs,irs,vs,hc,h=>by
  simp only[cRes] at hc
  split at hc
  ·rename_i n ag l hn ha hl
   split at hc
   ·rename_i hag
    cases hc
    simp only[z2h,resV] at h
    split at h
    ·cases h
    ·rename_i v hv
     split at h
     ·cases h
     ·rename_i ws hws
      cases h
      obtain⟨us,h1,h2⟩:=zjj hi henv hl hws
      have hra:=zri hi henv (n:=a)
      obtain⟨u,hu,hru⟩:=zt1 hi hn ha hag hv hra
      have hptr:∃ad,tmps.getD a Go.undef= .pointer (some ad):=by
       cases hx:env.getD a V.undef<;>rw[hx] at hv hra<;>simp only[z1s] at hv<;>try (cases hv;done)
       ·simp only[RepV] at hra;obtain⟨b,_,e⟩:=hra;exact⟨_,e⟩
       ·simp only[RepV] at hra;obtain⟨b,off,e,_⟩:=hra;exact⟨_,e⟩
      obtain⟨ad,had⟩:=hptr
      rw[had] at hu
      have hu' : (loadVar t ad).run P w= .ok u w:=by simpa [Instr.loadAt,Instr.sureAddr] using hu
      refine⟨u::us,?_,z0w.2 ⟨hru,h2⟩⟩
      simp only[List.mapM_cons,zom,had,asAddr]
      simp[hu',h1]
   ·cases hc
  ·cases hc
def zok (hi:Inv P z0i st g w) {fn:Func}  (hc:cRes P fn.results.toList=some F.res)  {tmps:Array Value} (henv:RepVs g env tmps.toList)  (h:z2h st env F.res=some vs):
  ∃us:Array Value,(results fn tmps).run P w= .ok (zdl us) w∧RepVs g vs us.toList:=by
 obtain⟨us,h1,h2⟩:=zjj hi henv hc h
 refine⟨us.toArray,?_,by simpa using h2⟩
 have hm:fn.results.mapM (zom tmps)=List.toArray<$>fn.results.toList.mapM (zom tmps):=Array.mapM_eq_mapM_toList
 have hr:results fn tmps= (do let vs←fn.results.mapM (zom tmps);pure (zdl vs)):=by
  unfold results zdl
  congr 1
 rw[hr,hm]
 simp[h1]
theorem zbu {fn:Func} {tmps:Array Value} {R:Ending→World→Prop} {st1:St} {g1:Gh} (hR:∀w2,Inv P z0i st1 g1 w2→Step st g w st1 g1 w2→∃v,(results fn tmps).run P w2= .ok v w2∧R (.returned v) w2):
  ∀(Ds:List Nat) (w1:World),Inv P z0i st1 g1 w1→Step st g w st1 g1 w1→Marks w.heap.size Ds st1 g1 w1→LeavesInM (Fw none) 0 P fn tmps R (Ds.map zbv) .returning w1
 | [],w1,hi,hs,_=>hR w1 hi hs
 |D::Ds,w1,hi,hs,hm=>by
  obtain⟨h1,h2,h3,h4⟩:=hm.each D ψ
  have hnd:=hm.nodup
  simp only[List.nodup_cons] at hnd
  refine⟨by simp,.inl ⟨D,World.put w1 D (.deferred none),rfl,?_,?_⟩⟩
  ·simp[Instr.takeDeferred,getObj,setObj,Sem.run,h3,World.put]
  ·have hH:=zal hi h3 ψ
   exact zbu hR Ds _ (hi.scratch h4 hH _) (hs.scratch h1 _) ((⟨hnd.2,fun E hE=>hm.each E (by simp[hE])⟩:Marks w.heap.size Ds st1 g1 w1).scratch hnd.1 _)
def RepVs.replicate  :RepVs g (List.replicate k V.undef) (List.replicate k Go.undef):=by
 induction k with
 |zero=>exact z1h
 |succ k ih=>exact z0w.2 ⟨z5s,ih⟩
def zd2 {cl:z12} (hcl:z3n P cl) (hent:zj7 P cl) (hmix:P.follows .mixedOrders=true) {f:Nat}  {fn:Func} (hf:P.funcs[f]?=some fn) (hc:Comp P fn F)  {us:Array Value}  
  (h:z3v cl n F args st=some (vs,st1)) (hi:Inv P z0i st g w) (hr:RepVs g args us.toList) {R:Ending→World→Prop}
  (hR:∀ws w' g',RepVs g' vs ws.toList→Inv P z0i st1 g' w' →Step st g w st1 g' w' →NewK st g g' →R (.returned (zdl ws)) w'):CallsIn Fence.wide 0 P f us w R:=by
 obtain⟨hnt,hres,hbody⟩:=hc
 unfold z3v at h
 cases hb:fn.body with
 |none=>rw[hb] at hbody;cases hbody
 |some c=>
  rw[hb] at hbody
  simp only[Option.map_some,Option.some.injEq] at hbody
  rw[←hbody] at h
  split at h
  ·cases h
  ·rename_i ex env' st2 hne hev
   split at h
   ·rename_i vs' hvs
    cases h
    refine callsIn_of_wp_marks hf hb trivial ?_
    have hlen:=hr.length
    refine zkp (lo:=w.heap.size) (Ds:= []) (rd:=none) (ro:=none) hcl hent hmix c hev hi ?_ rfl Marks.nil (Nat.le_refl _) rfl fun a' w' haft=> ?_
    ·simp only[Array.toList_append,Array.toList_replicate]
     have hsz:us.size=args.length:=by simpa using hlen
     rw[hsz,hnt]
     exact RepVs.append hr RepVs.replicate
    ·obtain⟨g',Ds',h1,h2,h3,h4,h5,h6⟩:=haft
     have hleave:LeavesInM (Fw none) 0 P fn a'.tmps R a'.defers .returning w' :=by
      rw[h5]
      refine zbu (fun w2 hi2 hs2=> ?_) Ds' w' h2 h3 h6
      obtain⟨ws,h7,h8⟩:=zok hi2 hres h1 hvs
      exact⟨_,h7,hR ws w2 g' h8 hi2 hs2 h4⟩
     cases ex with
     |nrm=>exact hleave
     |ret=>exact hleave
     |brk id=>exact absurd rfl (hne id)
   ·cases h
  ·cases h
mutual
theorem RepV.restrict {g1 g2:Gh} {b:Nat} (hb:∀k,k<b→∀x,g1.blk k=some x→g2.blk k=some x∧g2.sz k=g1.sz k∧g2.tot k=g1.tot k∧g2.sh k=g1.sh k) (hH:g1.H.le g2.H):∀{x:V} {v:Value},x.under b=true→RepV g1 x v→RepV g2 x v
 | .d x,v,_,h=>by simp only[RepV] at h⊢;exact h.mono hH
 | .nilS,v,_,h=>by simpa only[RepV] using h
 | .emp,v,_,h=>by simpa only[RepV] using h
 | .arr k es ag off len,v,hu,h=>by
  simp only[V.under,decide_eq_true_eq] at hu
  simp only[RepV] at h⊢
  obtain⟨c,hk,o,cap,e,h⟩:=h
  have h2:=hb k hu c hk
  exact⟨c,h2.1,o,cap,e,by rw[h2.2.1,h2.2.2.1,h2.2.2.2];exact h⟩
 | .ptr k off,v,hu,h=>by
  simp only[V.under,decide_eq_true_eq] at hu
  simp only[RepV] at h⊢
  obtain⟨c,hk,e⟩:=h
  exact⟨c,(hb k hu c hk).1,by rw[(hb k hu c hk).2.2.2];exact e⟩
 | .dptr ds,v,_,h=>by
  simp only[RepV] at h⊢
  obtain⟨c,off,e,h⟩:=h
  exact⟨c,off,e,RepP.mono hH h⟩
 | .nilP,v,_,h=>by simpa only[RepV] using h
 | .map k,v,hu,h=>by
  simp only[V.under,decide_eq_true_eq] at hu
  simp only[RepV] at h⊢
  obtain⟨c,hk,e⟩:=h
  exact⟨c,(hb k hu c hk).1,e⟩
 | .nilM,v,_,h=>by simpa only[RepV] using h
 | .fn f a c,v,hu,h=>by
  simp only[V.under,Bool.and_eq_true] at hu
  simp only[RepV] at h⊢
  obtain⟨vs,ws,e,h1,h2⟩:=h
  exact⟨vs,ws,e,RepVs.restrict hb hH hu.1 h1,RepVs.restrict hb hH hu.2 h2⟩
 | .yld k,v,hu,h=>by
  simp only[V.under,decide_eq_true_eq] at hu
  simp only[RepV] at h⊢
  obtain⟨c,hk,e⟩:=h
  exact⟨c,(hb k hu c hk).1,e⟩
 | .nilF,v,_,h=>by simpa only[RepV] using h
 | .agg l,v,hu,h=>by
  simp only[V.under] at hu
  simp only[RepV] at h⊢
  obtain⟨vs,e,h⟩:=h
  exact⟨vs,e,RepVs.restrict hb hH hu h⟩
 | .tup l,v,hu,h=>by
  simp only[V.under] at hu
  simp only[RepV] at h⊢
  obtain⟨vs,e,h⟩:=h
  exact⟨vs,e,RepVs.restrict hb hH hu h⟩
theorem RepVs.restrict {g1 g2:Gh} {b:Nat} (hb:∀k,k<b→∀x,g1.blk k=some x→g2.blk k=some x∧g2.sz k=g1.sz k∧g2.tot k=g1.tot k∧g2.sh k=g1.sh k) (hH:g1.H.le g2.H):∀{l:List V} {vs:List Value},V.underL b l=true→RepVs g1 l vs→RepVs g2 l vs
 | [],_,_,h=>by simpa only[RepVs] using h
 |x::l,vs,hu,h=>by
  simp only[V.underL,Bool.and_eq_true] at hu
  simp only[RepVs] at h⊢
  obtain⟨v,ws,e,h1,h⟩:=h
  exact⟨v,ws,e,RepV.restrict hb hH hu.1 h1,RepVs.restrict hb hH hu.2 h⟩
end
mutual
theorem RepV.isUnder {b:Nat} (hb:∀k x,g.blk k=some x→k<b):∀{x:V} {v:Value},RepV g x v→x.under b=true
 | .d _,_,_=>rfl
 | .nilS,_,_=>rfl
 | .emp,_,_=>rfl
 | .arr k _ _ _ _,v,h=>by
  simp only[RepV] at h
  obtain⟨c,hk,_⟩:=h
  simp only[V.under,decide_eq_true_eq];exact hb k c hk
 | .ptr k _,v,h=>by
  simp only[RepV] at h
  obtain⟨c,hk,_⟩:=h
  simp only[V.under,decide_eq_true_eq];exact hb k c hk
 | .dptr _,_,_=>rfl
 | .nilP,_,_=>rfl
 | .map k,v,h=>by
  simp only[RepV] at h
  obtain⟨c,hk,_⟩:=h
  simp only[V.under,decide_eq_true_eq];exact hb k c hk
 | .nilM,_,_=>rfl
 | .fn f a c,v,h=>by
  simp only[RepV] at h
  obtain⟨vs,ws,e,h1,h2⟩:=h
  simp only[V.under,Bool.and_eq_true];exact⟨RepVs.isUnder hb h1,RepVs.isUnder hb h2⟩
 | .yld k,v,h=>by
  simp only[RepV] at h
  obtain⟨c,hk,_⟩:=h
  simp only[V.under,decide_eq_true_eq];exact hb k c hk
 | .nilF,_,_=>rfl
 | .agg l,v,h=>by
  simp only[RepV] at h
  obtain⟨vs,e,h⟩:=h
  simp only[V.under];exact RepVs.isUnder hb h
 | .tup l,v,h=>by
  simp only[RepV] at h
  obtain⟨vs,e,h⟩:=h
  simp only[V.under];exact RepVs.isUnder hb h
theorem RepVs.isUnder {b:Nat} (hb:∀k x,g.blk k=some x→k<b):∀{l:List V} {vs:List Value},RepVs g l vs→V.underL b l=true
 | [],_,_=>rfl
 |x::l,vs,h=>by
  simp only[RepVs] at h
  obtain⟨v,ws,e,h1,h⟩:=h
  simp only[V.underL,Bool.and_eq_true];exact⟨RepV.isUnder hb h1,RepVs.isUnder hb h⟩
end
def RepM.restrict {g0 g1 g2:Gh} {b:Nat} (h0:∀k x,g0.blk k=some x→k<b) (hb:∀k,k<b→∀x,g1.blk k=some x→g2.blk k=some x∧g2.sz k=g1.sz k∧g2.tot k=g1.tot k∧g2.sh k=g1.sh k) (hH:g1.H.le g2.H) {kt:TypeId} :
  ∀{l:List (D×V)} {es fs:List MapEntry},RepM P kt g0 l es→RepM P kt g1 l fs→RepM P kt g2 l fs
 | [],_,_,_,h=>by simpa only[RepM] using h
 | (k,x)::l,es,fs,h,h' =>by
  simp only[RepM] at h h' ⊢
  obtain⟨e,r,e1,⟨_,_,h3⟩,h⟩:=h
  obtain⟨f,s,e2,⟨k1,k2,k3⟩,h'⟩:=h'
  exact⟨f,s,e2,⟨k1,k2.mono hH,RepV.restrict hb hH (h3.isUnder h0) k3⟩,RepM.restrict h0 hb hH h h'⟩
def ObjRep.restrict {g0 g1 g2:Gh} {w0:World} {b0 b1:Nat} (h0:∀k x,g0.blk k=some x→k<b) (hb:∀k,k<b→∀x,g1.blk k=some x→g2.blk k=some x∧g2.sz k=g1.sz k∧g2.tot k=g1.tot k∧g2.sh k=g1.sh k) (hH:g1.H.le g2.H)
  (hk:g2.sz k=g1.sz k∧g2.tot k=g1.tot k∧g2.sh k=g1.sh k) (hn: (∀j,g1.H b1 j=none)→∀j,g2.H b1 j=none):∀{o:Obj},ObjRep P z0i g0 w0 b0 k o→ObjRep P z0i g1 w b1 k o→ObjRep P z0i g2 w b1 k o
 | .cells cs,⟨_,_,a0,t0,_,_,_,h5⟩,⟨h1,h2,arr,ty,h3,h4,h4',h6⟩=>⟨hk.1.trans h1,hn h2,arr,ty,h3,by rw[hk.2.1];exact h4,by rw[hk.2.1,hk.2.2];exact h4',by rw[hk.2.2];exact RepVs.restrict hb hH (h5.isUnder h0) h6⟩
 | .fz ds,_,⟨h1,h1',h2⟩=>⟨hk.1.trans h1,by rw[hk.2.1];exact h1',by rw[hk.2.2];exact RepP.mono hH h2⟩
 | .map kt es,⟨_,_,_,_,h⟩,⟨h1,en,cl,h2,h3⟩=>⟨h1,en,cl,h2,RepM.restrict h0 hb hH h h3⟩
 | .loop env ps asg body ls pend,⟨L0,_,h,_⟩,⟨L,h1,h2,h3⟩=>⟨L,h1,RepVs.restrict hb hH (h.isUnder h0) h2,h3⟩
 | .iter s pos,_,⟨h0,bs,h1,h2⟩=>⟨hk.2.2.trans h0,bs,h1,h2⟩
 | .dfr,_,_=>trivial
noncomputable def popG (st:St) (g:Gh) (st1:St) (g1:Gh) (w1:World):Gh:= {H:=z3q st1 g1 w1 st.next,blk:=g.blk,sz:=g.sz,tot:=g.tot,sh:=g.sh}
def y61  {g1:Gh} {w1:World} (hi:Inv P z0i st g w) (hi1:Inv P z0i st1 g1 w1) (hs:Step st g w st1 g1 w1) (hn:NewK st g g1) (hlo:∀k,k<st.next→sget st1.s k=sget st.s k):
  Inv P z0i st (popG st g st1 g1 w1) w1∧Step st g w st (popG st g st1 g1 w1) w1∧(∀k,k<st.next→∀x,g1.blk k=some x→(popG st g st1 g1 w1).blk k=some x∧(popG st g st1 g1 w1).sz k=g1.sz k∧(popG st g st1 g1 w1).tot k=g1.tot k∧(popG st g st1 g1 w1).sh k=g1.sh k):=by
 have hb:∀k,k<st.next→∀x,g1.blk k=some x→g.blk k=some x∧g.sz k=g1.sz k∧g.tot k=g1.tot k∧g.sh k=g1.sh k:=fun k hk x hx=>by
  rcases hn k x hx with h1|h1
  ·have:=hs.ext.blk k x h1
   exact⟨h1,this.2.1.symm,this.2.2.symm,(hs.ext.sh k x h1).symm⟩
  ·omega
 have hle:=z8h hi1 st.next
 refine⟨⟨fun k b h=>⟨(hi.u k b h).1,Nat.lt_of_lt_of_le (hi.u k b h).2 hs.size⟩,fun b o v h=>z9e hi1 h,hi.inj,fun k o ho=> ?_⟩,⟨⟨fun b o v h=>hle b o v (hs.ext.H b o v h),fun k b h=>⟨h,rfl,rfl⟩,fun _ _ _=>rfl⟩,Nat.le_refl _,hs.size,hs.os,hs.tape,hs.output,hs.same,fun b o v h=> ?_,fun b h=> .inr h⟩,hb⟩
 ·obtain⟨b,h1,h2⟩:=hi.obj k o ho
  have hk:= (hi.u k b h1).1
  obtain⟨b1,h3,h4⟩:=hi1.obj k o (by rw[hlo k hk];exact ho)
  have h5:=hs.ext.blk k b h1
  rw[h5.1] at h3
  cases h3
  refine⟨b,h1,ObjRep.restrict (g2:=popG st g st1 g1 w1) (fun k x hx=> (hi.u k x hx).1) hb hle ⟨h5.2.1.symm,h5.2.2.symm,(hs.ext.sh k b h1).symm⟩ (fun hh j=> ?_) h2 h4⟩
  show z3q st1 g1 w1 st.next b j=none
  unfold z3q
  rw[if_neg]
  ·exact hh j
  ·rintro⟨k',cs,h6,h7,h8⟩
   have:=hi1.inj k' k b _ _ h7 (by rw[hlo k hk];exact ho) h8 h5.1
   omega
 ·have h' :z3q st1 g1 w1 st.next b o=some v:=h
  unfold z3q at h'
  split at h'
  ·rename_i hex
   obtain⟨k',cs,_,h7,h8⟩:=hex
   exact .inr (hs.live b ⟨k',_,h7,h8⟩)
  ·exact hs.Hn b o v h'
theorem zlz {st1:St} {g1:Gh} {w1:World} (hi1:Inv P z0i st1 g1 w1) {g2:Gh} {b:Nat} (hb:∀k,k<b→∀x,g1.blk k=some x→g2.blk k=some x∧g2.sz k=g1.sz k∧g2.tot k=g1.tot k∧g2.sh k=g1.sh k) (hH:g2.H=z3q st1 g1 w1 b):
  ∀{vs us:List V} {ws:List Value},z7a st1.s b vs=some us→RepVs g1 vs ws→RepVs g2 us ws
 | [],us,ws,h,hr=>by
  simp only[z7a,Option.some.injEq] at h
  subst h
  simpa only[RepVs] using hr
 |v::vs,us,ws,h,hr=>by
  simp only[RepVs] at hr
  obtain⟨u,ws',rfl,h1,hr⟩:=hr
  simp only[z7a] at h
  split at h
  ·cases h
  ·rename_i x hx
   simp only[Option.map_eq_some_iff] at h
   obtain⟨us',h2,rfl⟩:=h
   refine z0w.2 ⟨?_,zlz hi1 hb hH h2 hr⟩
   unfold outV at hx
   split at hx
   ·rename_i hun
    cases hx
    exact RepV.restrict hb (hH▸z8h hi1 b) hun h1
   ·simp only[Option.map_eq_some_iff] at hx
    obtain⟨d,hd,rfl⟩:=hx
    simp only[RepV]
    rw[hH]
    exact zey hi1 b _ hd h1
def zac (H:Still):Gh:= {H:=H,blk:=fun _=>none,sz:=fun _=>0,tot:=fun _=>0,sh:=fun _=>0}
def st0:St:= {s:= [],next:=0,low:=0}
def zaw {H:Still} (hH:∀b o v,H b o=some v→w.cell? ⟨b,o,none⟩=some v):Inv P z0i st0 (zac H) w:=
 ⟨fun k b h=> (by cases h),hH,fun i j b o x h=> (by cases h),fun k o h=> (by cases h)⟩
def z8a {H:Still}  :¬Live st0 (zac H) b:=fun⟨_,_,h,_⟩=> (by cases h)
theorem z6m {H:Still}  {g1:Gh} {w1:World} (hs:Step st0 (zac H) w st1 g1 w1)  (hb:b<w.heap.size):w1.heap[b]?=w.heap[b]?:=hs.same b hb z8a
def zpm  {g1:Gh} {w1:World} (hi:Inv P z0i st g w) (hi1:Inv P z0i st1 g1 w1) (hs:Step st0 (zac g.H) w st1 g1 w1):
  Inv P z0i st {g with H:=z3q st1 g1 w1 0} w1∧Step st g w st {g with H:=z3q st1 g1 w1 0} w1:=by
 have hle:g.H.le (z3q st1 g1 w1 0):=fun b o v h=>z8h hi1 0 b o v (hs.ext.H b o v h)
 have hnew:∀b o v,z3q st1 g1 w1 0 b o=some v→g.H b o=some v∨w.heap.size≤b:=fun b o v h=>by
  unfold z3q at h
  split at h
  ·rename_i hex
   obtain⟨k',cs,_,h7,h8⟩:=hex
   rcases hs.live b ⟨k',_,h7,h8⟩ with h9|h9
   ·exact .inr h9
   ·exact absurd h9 z8a
  ·rcases hs.Hn b o v h with h9|h9|h9
   ·exact .inl h9
   ·exact .inr h9
   ·exact absurd h9 z8a
 have hx:Ext g {g with H:=z3q st1 g1 w1 0} :=⟨hle,fun k b h=>⟨h,rfl,rfl⟩,fun _ _ _=>rfl⟩
 refine⟨⟨fun k b h=>⟨(hi.u k b h).1,Nat.lt_of_lt_of_le (hi.u k b h).2 hs.size⟩,fun b o v h=>z9e hi1 h,hi.inj,fun k o ho=> ?_⟩,⟨hx,Nat.le_refl _,hs.size,hs.os,hs.tape,hs.output,fun b hb _=>z6m hs hb,fun b o v h=> (hnew b o v h).imp id .inl,fun b h=> .inr h⟩⟩
 obtain⟨b,h1,h2⟩:=hi.obj k o ho
 have hlt:= (hi.u k b h1).2
 refine⟨b,h1,h2.mono hx ⟨rfl,rfl⟩ rfl (z6m hs hlt) fun hh j=> ?_⟩
 cases e:z3q st1 g1 w1 0 b j with
 |none=>exact e
 |some v=>
  rcases hnew b j v e with h3|h3
  ·rw[hh j] at h3;cases h3
  ·omega
def z9k {H:Still}  {g1:Gh} {w1:World} (hi:Inv P z0i st g w) (hs:Step st0 (zac H) w st1 g1 w1):Inv P z0i st g w1∧Step st g w st g w1:=by
 refine⟨⟨fun k b h=>⟨(hi.u k b h).1,Nat.lt_of_lt_of_le (hi.u k b h).2 hs.size⟩,fun b o v h=> ?_,hi.inj,fun k o ho=> ?_⟩,⟨Ext.refl g,Nat.le_refl _,hs.size,hs.os,hs.tape,hs.output,fun b hb _=>z6m hs hb,fun b o v h=> .inl h,fun b h=> .inr h⟩⟩
 ·have:=hi.H b o v h
  rw[z5m (z6m hs (zgf this))];exact this
 ·obtain⟨b,h1,h2⟩:=hi.obj k o ho
  exact⟨b,h1,h2.mono (Ext.refl g) ⟨rfl,rfl⟩ rfl (z6m hs (hi.u k b h1).2) fun hh=>hh⟩
def zux {ys:Lv} {es:Ld} {us:List Value} (hi:Inv P z0i st g w) (h:z0p [] 0 ys=some es) (hr:RepVs g ys us):RepC g.H es us:=by
 have hi' :Inv P z0i {s:= [],next:=st.next,low:=0} g w:=⟨hi.u,hi.H,fun i j b o x h=> (by cases h),fun k o h=> (by cases h)⟩
 have h1:=z4c hi' 0 h hr
 have h2:z3q {s:= [],next:=st.next,low:=0} g w 0=g.H:=by
  funext b o
  unfold z3q
  rw[if_neg]
  rintro⟨k,cs,_,h,_⟩
  cases h
 rwa [h2] at h1
theorem zlh:∀{ps:List Nat} {env env1 args:List V} {us:List Value} {tmps:Array Value},zbd env ps args=some env1→RepVs g env tmps.toList→RepVs g args us→
  ps.length=us.length∧RepVs g env1 ((ps.zip us).foldl (fun t (p:Nat×Value)=>t.setIfInBounds p.1 p.2) tmps).toList
 | [],env,env1,[],us,tmps,h,henv,hr=>by
  simp only[zbd,Option.some.injEq] at h
  subst h
  simp only[RepVs] at hr
  subst hr
  exact⟨rfl,henv⟩
 | [],env,env1,a::as,us,tmps,h,_,_=>by simp[zbd] at h
 |p::ps,env,env1,[],us,tmps,h,_,_=>by simp[zbd] at h
 |p::ps,env,env1,v::vs,us,tmps,h,henv,hr=>by
  simp only[RepVs] at hr
  obtain⟨u,us',rfl,h1,hr⟩:=hr
  simp only[zbd] at h
  have h2:=zbm (a:= {tmps:=tmps,defers:= []}) (dst:=some p) henv h1
  obtain⟨h3,h4⟩:=zlh h (tmps:=tmps.setIfInBounds p u) (by simpa [setE,Act.put] using h2) hr
  exact⟨by simp[h3],by simpa using h4⟩
end Go.Lift
namespace Go.Lift
open Go
variable {P:Program} {st:St} {g:Gh} {w:World}
def zw3 (P:Program) (G:Nat→Option IFun):Prop:=
 ∀f F,G f=some F→∃fn,P.funcs[f]?=some fn∧(fn.name== "runtime.NumGoroutine")=false∧Comp P fn F
def zg2 {G:Nat→Option IFun} (hG:zw3 P G) {f:Nat} {F:IFun} (hf:G f=some F) {first cap:Lv} {u:Value} {us:Array Value} (hu:RepV g (.fn f first cap) u):
  ∃d vs ws,u= .func (.func f) vs ws∧RepVs g first vs.toList∧RepVs g cap ws.toList∧(Deferred.ofValue u us).run P w= .ok d w∧(invoke d.target d.args).run P w= .ok (.enter f (vs++us++ws)) w:=by
 obtain⟨fn,h1,h2,_,_,h3⟩:=hG f F hf
 simp only[RepV] at hu
 obtain⟨vs,ws,rfl,ha,hb⟩:=hu
 have hbody:fn.body.isNone=false:=by
  cases e:fn.body with
  |none=>rw[e] at h3;cases h3
  |some c=>rfl
 refine⟨{target:= .fn (.func f) ws,args:=vs++us},vs,ws,rfl,ha,hb,rfl,?_⟩
 have hn:fn.name≠ "runtime.NumGoroutine" :=fun e=>by rw[e] at h2;simp at h2
 have hb' :fn.body≠none:=fun e=>by rw[e] at hbody;cases hbody
 simp[invoke,callFunc,h1,hn,hb']
def zur {G:Nat→Option IFun} (hG:zw3 P G):∀n,zj7 P (call G n)
 |0=>fun f first cap args st r st' h=>by simp[call] at h
 |n+1=>fun f first cap args st r st' h g w u us hu=>by
  simp only[call] at h
  split at h
  ·cases h
  ·rename_i F hf
   obtain⟨d,vs,ws,_,_,_,h1,h2⟩:=zg2 hG hf (w:=w) (us:=us) hu
   exact⟨d,_,h1,h2⟩
def zf5 {cl:z12} (hcl:z3n P cl) (hent:zj7 P cl) (hmix:P.follows .mixedOrders=true) {n k:Nat} {args:Lv} {r:V} {st' :St} (h:z3y cl n k args st=some (r,st')) {us:Array Value} {u:Value}
  (hi:Inv P z0i st g w) (hu:RepV g (.yld k) u) (hr:RepVs g args us.toList):Upon P st g w r st' (((do let d←Deferred.ofValue u us;invoke d.target d.args:Sem Next)).run P w):=by
 simp only[RepV] at hu
 obtain⟨l,hl,rfl⟩:=hu
 unfold z3y at h
 split at h
 ·rename_i env ps asg body ho
  obtain⟨l',hl',L,hL,q1,q2,⟨nf,q3,q4⟩,q5,q6,q7⟩:=hi.obj k _ ho
  obtain rfl:l=l' :=Option.some.inj (hl.symm.trans hl')
  split at h
  ·cases h
  ·rename_i env1 hps
   obtain⟨hlen,henv1⟩:=zlh hps q1 hr
   have hsz:us.size=L.params.size:=by
    have h0:L.params.toList.length=us.toList.length:=by rw[q2];exact hlen
    simpa using h0.symm
   have hrun: ((do let d←Deferred.ofValue (.func (.yield l) #[] #[]) us;invoke d.target d.args:Sem Next)).run P w=
     .ok (.round l L.fn ((L.params.zip us).foldl (fun tmps (t,a)=>tmps.setIfInBounds t a) L.tmps) L.assign L.body) w:=by
    simp[Deferred.ofValue,invoke,Instr.yield,Instr.getLoop,getObj,Sem.run,hL,hsz]
   rw[hrun]
   show RoundIn Fence.wide 0 P l L.fn _ L.assign L.body w (Ret P st g w r st')
   have hfold: ((L.params.zip us).foldl (fun tmps (t,a)=>tmps.setIfInBounds t a) L.tmps)= ((ps.zip us.toList).foldl (fun t (p:Nat×Value)=>t.setIfInBounds p.1 p.2) L.tmps):=by
    rw[←Array.foldl_toList,Array.toList_zip,q2]
   split at h
   ·rename_i env2 st2 he1
    split at h
    ·rename_i e2 p2 a2 b2 ho2
     split at h
     ·rename_i x env3 st3 he3
      split at h
      ·rename_i e3 p3 c3 b3 ho3
       refine roundIn_of_wpIn trivial ?_
       rw[←q3] at he1
       refine zkp (lo:=w.heap.size) (Ds:= []) (rd:=some k) (ro:=some l) hcl hent hmix L.assign he1 hi (by rw[hfold];exact henv1) rfl Marks.nil (Nat.le_refl _) ⟨l,rfl,hl⟩ fun a1 w1 haft=> ?_
       obtain⟨g1,Ds1,h1,h2,h3,h4,h5,h6⟩:=haft
       have hb1:= (h3.ext.blk k l hl).1
       obtain⟨l2,hl2,L2,hL2,r1,r2,r34,r5,r6,r7⟩:=h2.obj k _ ho2
       rw[hb1] at hl2
       cases hl2
       have hlt1:l<w1.heap.size:= (h2.u k l hb1).2
       have hbeg: (Instr.beginRound l).run P w1= .ok () (World.put w1 l (.loop {L2 with state:= .busy})):=by
        simp[Instr.beginRound,Instr.getLoop,getObj,setObj,Sem.run,hL2,World.put,r5]
       refine⟨_,hbeg,?_⟩
       have hH1:=zal h2 hL2 ψ
       obtain⟨i4,s4⟩:=h2.write (o' := .loop e2 p2 a2 b2 .busy none) ho2 hb1 (w' :=World.put w1 l (.loop {L2 with state:= .busy})) z5v rfl rfl rfl (fun c hc=>z1j hc) (fun j v hv=>by rw[hH1] at hv;cases hv)
        ⟨{L2 with state:= .busy},z3z hlt1,r1,r2,r34,rfl,(fun x hx=>by cases hx),fun _=>r7 rfl⟩
       rw[←q4] at he3
       refine zkp (lo:=w.heap.size) (Ds:=Ds1) (rd:=some k) (ro:=some l) hcl hent hmix L.body he3 i4 h1 h5 (h6.step s4) (Nat.le_trans h3.size s4.size) ⟨l,rfl,hb1⟩ fun a3 w3 haft3=> ?_
       obtain⟨g3,Ds3,t1,t2,t3,t4,_,_⟩:=haft3
       have hb3:= (t3.ext.blk k l hb1).1
       obtain⟨l3,hl3,L3,hL3,u1,u2,u34,u5,u6,u7⟩:=t2.obj k _ ho3
       rw[hb3] at hl3
       cases hl3
       have hlt3:l<w3.heap.size:= (t2.u k l hb3).2
       have hH3:=zal t2 hL3 ψ
       have hs3:= (h3.trans s4).trans t3
       have hn3:NewK st g g3:= (NewK.trans h4 h3.next (st1:=st2) (fun j b hb=> .inl hb:NewK st2 g1 g1)).trans (Nat.le_trans h3.next s4.next) t4
       have fin:∀(jump:Option Code) (pend:Option Ex) (ls:LoopState),(if jump.isNone then LoopState.ready else .done)=ls→(∀x,pend=some x→jump=y19 x∧x≠ .nrm)→(pend=none→jump=none)→r= .d (.bool jump.isNone)→st' =st3.set k (.loop e3 p3 c3 b3 ls pend)→
         ∃v w',(Instr.endRound l jump).run P w3= .ok v w' ∧Ret P st g w r st' (.returned v) w' :=by
        intro jump pend ls hls hp1 hp2 hrr hst'
        subst hrr
        subst hst'
        refine⟨.bool jump.isNone,World.put w3 l (.loop {L3 with state:=if jump.isNone then .ready else .done,pending:=jump}),?_,.bool jump.isNone,rfl,g3,?_,?_⟩
        ·simp[Instr.endRound,Instr.getLoop,getObj,setObj,Sem.run,hL3,World.put]
        ·simp only[RepV,RepD]
        ·obtain⟨i5,s5⟩:=t2.write (o' := .loop e3 p3 c3 b3 ls pend) ho3 hb3 (w' :=World.put w3 l (.loop {L3 with state:=if jump.isNone then .ready else .done,pending:=jump})) z5v rfl rfl rfl (fun c hc=>z1j hc) (fun j v hv=>by rw[hH3] at hv;cases hv)
          ⟨{L3 with state:=if jump.isNone then .ready else .done,pending:=jump},z3z hlt3,u1,u2,u34,hls,hp1,hp2⟩
         exact⟨i5,hs3.trans s5,hn3⟩
       cases x with
       |nrm=>
        simp only[Option.some.injEq,Prod.mk.injEq] at h
        exact fin none none .ready rfl (fun x hx=>by cases hx) (fun _=>rfl) h.1.symm h.2.symm
       |brk id=>
        simp only[Option.some.injEq,Prod.mk.injEq] at h
        exact fin (some (.exit id)) (some (.brk id)) .done rfl (fun x hx=>by cases hx;exact⟨rfl,by simp⟩) (fun hx=>by cases hx) h.1.symm h.2.symm
       |ret=>
        simp only[Option.some.injEq,Prod.mk.injEq] at h
        exact fin (some .ret) (some .ret) .done rfl (fun x hx=>by cases hx;exact⟨rfl,by simp⟩) (fun hx=>by cases hx) h.1.symm h.2.symm
      ·cases h
     ·cases h
    ·cases h
   ·cases h
 ·cases h
def zvc {G:Nat→Option IFun} (hG:zw3 P G) (hmix:P.follows .mixedOrders=true):∀n,z3n P (call G n)
 |0=>fun v args st r st' h=>by simp[call] at h
 |n+1=>fun v args st r st' h g w u us hi hu hr=>by
  have hcl:=zvc hG hmix n
  have hent:=zur hG n
  have hlow:=zt4 (G:=G) n
  cases v<;>simp only[call] at h<;>try (cases h;done)
  case yld k=>exact zf5 hcl hent hmix h hi hu hr
  case fn f first cap=>
   split at h
   ·cases h
   ·rename_i F hF
    obtain⟨d,vs,ws,rfl,hfirst,hcap,hd1,hd2⟩:=zg2 hG hF (w:=w) (us:=us) hu
    obtain⟨fn,hf,_,hcomp⟩:=hG f F hF
    have hall:RepVs g (first++args++cap) (vs++us++ws).toList:=by
     simp only[Array.toList_append]
     exact RepVs.append (RepVs.append hfirst hr) hcap
    have hrun: ((do let d←Deferred.ofValue (.func (.func f) vs ws) us;invoke d.target d.args:Sem Next)).run P w= .ok (.enter f (vs++us++ws)) w:=by
     simp[hd1,hd2]
    rw[hrun]
    show CallsIn Fence.wide 0 P f (vs++us++ws) w (Ret P st g w r st')
    split at h
    ·rename_i hnil
     simp only[Bool.and_eq_true] at hnil
     have hds' :first++args++cap= [.d (.sl [])]:=by
      have h2:=hnil.2
      unfold ze8 at h2
      split at h2
      ·rename_i e;exact e
      ·cases h2
     rw[hds'] at hall
     split at h
     ·rename_i vs1 st1 vs2 st2 hb1 hb2
      split at h
      ·rename_i rs1 rs2 hr1 hr2
       split at h
       ·rename_i hfl
        cases h
        simp only[Bool.and_eq_true] at hfl
        have he:=D.eq_of_beqL hfl.2
        subst he
        simp only[RepVs] at hall
        obtain⟨v,_,hv,hrv,rfl⟩:=hall
        simp only[RepV,RepD] at hrv
        obtain⟨a,c,rfl,⟨_,hnn⟩,_⟩:=hrv
        have hcd:=zaw (H:=g.H) (P:=P) (w:=w) hi.H
        cases a with
        |none=>
         obtain rfl:=hnn rfl
         refine zd2 (g:=zac g.H) (w:=w) hcl hent hmix hf hcomp hb1 hcd (by rw[hv];exact z0w.2 ⟨rfl,z1h⟩) fun zs w1 g1 hz hi1 hs1 _=> ?_
         obtain⟨i2,s2⟩:=z9k hi hs1
         exact⟨_,rfl,g,zdk (z11.2 (zas hfl.1 (z4c hi1 0 hr1 hz))),i2,s2,NewK.refl⟩
        |some a=>
         refine zd2 (g:=zac g.H) (w:=w) hcl hent hmix hf hcomp hb2 hcd (by rw[hv];exact z0w.2 ⟨⟨a,c,rfl⟩,z1h⟩) fun zs w1 g1 hz hi1 hs1 _=> ?_
         obtain⟨i2,s2⟩:=z9k hi hs1
         exact⟨_,rfl,g,zdk (z11.2 (zas hfl.1 (z4c hi1 0 hr2 hz))),i2,s2,NewK.refl⟩
       ·cases h
      ·cases h
     ·cases h
    split at h
    ·split at h
     ·cases h
     ·rename_i ds hds
      split at h
      ·cases h
      ·rename_i vs1 st1 hbody
       split at h
       ·cases h
       ·rename_i rs hrs
        split at h
        ·rename_i hflat
         cases h
         have hc1:=z4c hi 0 hds hall
         refine zd2 (g:=zac (z3q st g w 0)) (w:=w) hcl hent hmix hf hcomp hbody (zaw fun b o v h=>z9e hi h) (z11.2 hc1) fun zs w1 g1 hz hi1 hs1 _=> ?_
         obtain⟨i2,s2⟩:=z9k hi hs1
         exact⟨_,rfl,g,zdk (z11.2 (zas hflat (z4c hi1 0 hrs hz))),i2,s2,NewK.refl⟩
        ·split at h
         ·cases h
         ·rename_i ys st2 hfrz
          split at h
          ·cases h
          ·rename_i es hes
           split at h
           ·rename_i heq
            cases h
            obtain⟨g2,hg2,hys⟩:=zfy (fun hi h hr=>zmp _ hi h hr) hi hfrz hall
            have hc2:=zux hg2.inv hes hys
            rw[D.eq_of_beqL heq] at hc2
            refine zd2 (g:=zac g2.H) (w:=w) hcl hent hmix hf hcomp hbody (zaw hg2.inv.H) (z11.2 hc2) fun zs w1 g1 hz hi1 hs1 _=> ?_
            obtain⟨i2,s2⟩:=zpm hg2.inv hi1 hs1
            exact⟨_,rfl,_,zdk (z11.2 (z4c hi1 0 hrs hz)),i2,hg2.step.trans s2,fun k b hb=> .inl (by rw[←hg2.blk];exact hb)⟩
           ·cases h
    ·split at h
     ·cases h
     ·rename_i vs1 st1 hbody
      have hlo:=zt5 hlow hbody
      have hi0:Inv P z0i {s:=st.s,next:=st.next,low:=st.next} g w:=⟨hi.u,hi.H,hi.inj,hi.obj⟩
      refine zd2 (g:=g) (w:=w) hcl hent hmix hf hcomp hbody hi0 hall fun zs w1 g1 hz hi1 hs1 hn1=> ?_
      split at h
      ·rename_i hpop
       simp only[Bool.and_eq_true,decide_eq_true_eq] at hpop
       split at h
       ·cases h
       ·rename_i os hos
        cases h
        have hs1' :Step st g w st1 g1 w1:=⟨hs1.ext,hs1.next,hs1.size,hs1.os,hs1.tape,hs1.output,hs1.same,hs1.Hn,hs1.live⟩
        obtain⟨i2,s2,hb2⟩:=y61 hi hi1 hs1' hn1 fun k hk=>hlo.same k (Nat.lt_of_lt_of_le hk hpop.2) hk
        exact⟨_,rfl,_,zdk (zlz hi1 hb2 rfl hos hz),i2,s2,fun k b hb=> .inl hb⟩
      ·cases h
       exact⟨_,rfl,g1,zdk hz,⟨hi1.u,hi1.H,hi1.inj,hi1.obj⟩,⟨hs1.ext,hs1.next,hs1.size,hs1.os,hs1.tape,hs1.output,hs1.same,hs1.Hn,hs1.live⟩,hn1⟩
end Go.Lift
namespace Go.Lift
open Go Go.ChangeShapes Go.WideShapes
variable{n:Nat}
def z53 (w:World):Still:=fun b o=>w.cell? ⟨b,o,none⟩
def Rd (P:Program) (t:TypeId) {α:Type} (e:α→D) (ok:α→Prop):Prop:=
 ∀(H:Type) (enc:TypeId×Value→H) (w:World) (n:Nat) (cs:List Value) (x:DataW H×List MemPlace),DataW.trod enc P w 0 (fun _=>true) true n t cs=some x→∃a:α,ok a∧RepC (z53 w) (cellsD (e a)) cs
variable {P:Program} {t:TypeId}
def zgs {H:Still} {x:D} {v:Value} (h:RepD H x v):RepC H [x] [v]:=by
 simp only[RepC]
 exact⟨v,[],rfl,h,rfl⟩
theorem y5x {k:IntKind} (ht:P.underlying t=some (.int k)):Rd P t (D.int k) (fun n=>k.min≤n∧n≤k.max):=fun H enc w n cs x h=>by
 obtain⟨b,rfl,_,hw⟩:=DataW.trod_int ht h
 simp only[Lit.wf,Bool.and_eq_true,decide_eq_true_eq] at hw
 exact⟨b,hw,zgs (by simp only[RepD])⟩
def zw2 {α:Type} (e:α→D):Prop:= (∀a,∃ds,e a= .agg ds)∨∀a,cellsD (e a)= [e a]∧∀ds,e a≠ .agg ds
def zel {w:World} {a:Addr} :∀{l:List Nat} {cs:List Value},l.mapM (fun i=>w.cell? (a.add i))=some cs→cs.length=l.length∧∀(j i:Nat),l[j]?=some i→∃y,cs[j]?=some y∧w.cell? (a.add i)=some y
 | [],cs,h=>by simp at h;subst h;simp
 |i::l,cs,h=>by
  simp only[List.mapM_cons] at h
  cases h1:w.cell? (a.add i) with
  |none=>rw[h1] at h;simp at h
  |some y=>
   rw[h1] at h
   cases h2:l.mapM (fun i=>w.cell? (a.add i)) with
   |none=>rw[h2] at h;simp at h
   |some ys=>
    rw[h2] at h
    simp at h
    subst h
    obtain⟨k1,k2⟩:=zel h2
    refine⟨by simp[k1],fun j i' hj=> ?_⟩
    cases j with
    |zero=>simp at hj;subst hj;exact⟨y,by simp,h1⟩
    |succ j=>simpa using k2 j i' (by simpa using hj)
def cells?_at {w:World} {b:Nat} {a:Addr}  {cs:List Value} (h:w.cells? b a n=some cs):cs.length=n∧∀j,j<n→∃y,cs[j]?=some y∧w.cell? (a.add j)=some y:=by
 unfold World.cells? at h
 split at h
 ·obtain⟨h1,h2⟩:=zel h
  exact⟨by simpa using h1,fun j hj=>h2 j j (by simp[hj])⟩
 ·cases h
theorem zj1 {a:Addr}  : (a.add n).block=a.block:=by unfold Addr.add;split<;>rfl
theorem zvz {a:Addr}  : (a.add n).off=a.off+n:=by unfold Addr.add;split<;>simp[*]
def ziq {w:World} {a:Addr} {y:Value} (h:w.cell? a=some y):a.spot=none:=by
 unfold World.cell? at h
 split at h
 ·split at h
  ·cases h
  ·rename_i hs
   cases e:a.spot with
   |none=>rfl
   |some s=>rw[e] at hs;simp at hs
 ·cases h
def zew {w:World} {a:Addr} {y:Value} (h:w.cell? a=some y):z53 w a.block a.off=some y:=by
 have hs:=ziq h
 unfold z53
 rw[←h]
 cases a
 simp only at hs
 subst hs
 rfl
def y2g {α:Type} {e:α→D} (hu:zw2 e) {H:Still} {a:α} {cs:List Value} (h:RepC H (cellsD (e a)) cs):∃u:Value,RepD H (e a) u∧u.cells.toList=cs:=by
 rcases hu with hu|hu
 ·obtain⟨ds,hd⟩:=hu a
  rw[hd] at h⊢
  exact⟨.agg cs.toArray,by simp only[RepD];exact⟨_,rfl,by simpa [cellsD] using h⟩,by simp[Value.cells]⟩
 ·obtain⟨hc,hn⟩:=hu a
  rw[hc] at h
  simp only[RepC] at h
  obtain⟨v,ws,rfl,h1,rfl⟩:=h
  refine⟨v,h1,?_⟩
  cases hx:e a with
  |agg ds=>exact absurd hx (hn ds)
  |bool b=>rw[hx] at h1;simp only[RepD] at h1;subst h1;rfl
  |int k m=>rw[hx] at h1;simp only[RepD] at h1;subst h1;rfl
  |str s=>rw[hx] at h1;simp only[RepD] at h1;obtain⟨b,rfl,_⟩:=h1;rfl
  |sl l=>rw[hx] at h1;simp only[RepD] at h1;obtain⟨a,c,rfl,_⟩:=h1;rfl
def zrm {H:Still} {b es:Nat} :∀{l:List D} {off:Nat},(∀(i:Nat) (x:D),l[i]?=some x→∃u,RepD H x u∧u.cells.size=es∧∀j,j<es→∃y,u.cells[j]?=some y∧H b (off+i*es+j)=some y)→RepL H b es l off
 | [],_,_=>by simp only[RepL]
 |x::l,off,h=>by
  simp only[RepL]
  refine⟨by simpa using h 0 x ψ,zrm fun i y hy=> ?_⟩
  have:=h (i+1) y (by simpa using hy)
  rwa [Nat.succ_mul,show off+ (i*es+es)=off+es+i*es by omega] at this
def zk5 {α:Type} {l:Ln} {Q:Nat→α→Prop} : (∀i∈l,∃a,Q i a)→∃as:List α,as.length=l.length∧∀(j i:Nat) (a:α),l[j]?=some i→as[j]?=some a→Q i a:=by
 induction l with
 |nil=>exact fun _=>⟨[],rfl,by simp⟩
 |cons i l ih=>
  intro h
  obtain⟨a,ha⟩:=h i ψ
  obtain⟨as,h1,h2⟩:=ih fun j hj=>h j (by simp[hj])
  refine⟨a::as,by simp[h1],fun j i' a' hj ha' => ?_⟩
  cases j with
  |zero=>simp at hj ha';subst hj ha';exact ha
  |succ j=>exact h2 j i' a' (by simpa using hj) (by simpa using ha')
def zx5 {s:TypeId} {α:Type} {e:α→D} {ok:α→Prop} (ht:P.underlying t=some (.slice s)) (hs:0<P.cellsOf s) (hu:zw2 e) (hr:Rd P s e ok):
  Rd P t (fun l:List α=>D.sl (l.map e)) (fun l=>l.length≤9223372036854775807∧∀a∈l,ok a):=fun H enc w n cs x h=>by
 rcases DataW.trod_slice ht h with⟨rfl,_⟩|⟨a,len,cap,elems,rest,n',_,rfl,_,_,hcap,hmax,hlen,helem,_,_⟩
 ·refine⟨[],⟨by simp,by simp⟩,zgs ?_⟩
  simp only[RepD,List.map_nil]
  exact⟨none,0,rfl,⟨by simp,fun _=>rfl⟩,.inl trivial⟩
 ·have hm:maxLen=9223372036854775807:=rfl
  have hQ:∀i∈List.range len,∃y:α,ok y∧∃ds:List Value,w.cells? 0 (a.add (i*P.cellsOf s)) (P.cellsOf s)=some ds∧RepC (z53 w) (cellsD (e y)) ds:=fun i hi=>by
   have hi' :i<len:=by simpa using hi
   have h1:=helem i hi'
   rw[List.getElem?_eq_getElem ω] at h1
   simp only[Option.bind_eq_some_iff] at h1
   obtain⟨ds,h2,h3⟩:=h1
   obtain⟨y,hy,hrep⟩:=hr H enc w n' ds _ h3
   exact⟨y,hy,ds,h2,hrep⟩
  obtain⟨as,hl,hall⟩:=zk5 hQ
  simp only[List.length_range] at hl
  have hall' :∀(j:Nat) (y:α),as[j]?=some y→ok y∧∃ds:List Value,w.cells? 0 (a.add (j*P.cellsOf s)) (P.cellsOf s)=some ds∧RepC (z53 w) (cellsD (e y)) ds:=fun j y hy=>by
   have hj:j<as.length:=by
    rcases Nat.lt_or_ge j as.length with h|h
    ·exact h
    ·rw[List.getElem?_eq_none h] at hy;cases hy
   exact hall j j y (List.getElem?_range ω) hy
  refine⟨as,⟨ω,fun y hy=> ?_⟩,zgs ?_⟩
  ·obtain⟨j,hj⟩:=List.mem_iff_getElem?.1 hy
   exact (hall' j y hj).1
  ·simp only[RepD]
   refine⟨some a,cap,by rw[List.length_map,hl],⟨by rw[List.length_map,hl];exact hcap,by simp⟩,?_⟩
   rcases Nat.eq_zero_or_pos len with h0|hpos
   ·left
    have:as= []:=List.eq_nil_of_length_eq_zero ω
    simp[this]
   ·right
    have hsp:a.spot=none:=by
     obtain⟨y,hy⟩:∃y,as[0]?=some y:=⟨as[0],by simp[List.getElem?_eq_getElem (show 0<as.length by omega)]⟩
     obtain⟨_,ds,h2,_⟩:=hall' 0 y hy
     obtain⟨_,h3⟩:=cells?_at h2
     obtain⟨z,_,hz⟩:=h3 0 hs
     have:=ziq hz
     simpa [Addr.add] using this
    refine⟨a.block,a.off,P.cellsOf s,?_,hs,zrm fun i x hx=> ?_⟩
    ·cases a;simp only at hsp;rw[hsp]
    ·rw[List.getElem?_map] at hx
     simp only[Option.map_eq_some_iff] at hx
     obtain⟨y,hy,rfl⟩:=hx
     obtain⟨_,ds,h2,h3⟩:=hall' i y hy
     obtain⟨u,hu1,hu2⟩:=y2g hu h3
     obtain⟨h4,h5⟩:=cells?_at h2
     refine⟨u,hu1,?_,fun j hj=> ?_⟩
     ·rw[←Array.length_toList,hu2,h4]
     ·obtain⟨z,hz1,hz2⟩:=h5 j hj
      refine⟨z,?_,?_⟩
      ·rw[←Array.getElem?_toList,hu2,hz1]
      ·have:=zew hz2
       rwa [zj1,zj1,zvz,zvz] at this
def zfa {α:Type} {e:α→D} {ok:α→Prop} (hu:zw2 e) (hr:Rd P t e ok) {H:Type} {enc:TypeId×Value→H} {w:World} {v:Value} {d:DataW H} {ps:List MemPlace}
  (hv:Value.okWide P w .any 0 t v∨True) (hf: (∀a,∃ds,e a= .agg ds)→∃cs,v= .agg cs) (hn: (∀a,∀ds,e a≠ .agg ds)→∀cs,v≠ .agg cs)
  (h:DataW.Trod enc P w 0 (fun _=>true) true t v d ps):∃a:α,ok a∧RepD (z53 w) (e a) v:=by
 obtain⟨n,hn'⟩:=h
 obtain⟨a,ha,hrep⟩:=hr H enc w n _ _ hn'
 refine⟨a,ha,?_⟩
 rcases hu with hu|hu
 ·obtain⟨cs,rfl⟩:=hf hu
  obtain⟨ds,hd⟩:=hu a
  rw[hd] at hrep⊢
  simp only[RepD]
  exact⟨cs,rfl,by simpa [cellsD,Value.cells] using hrep⟩
 ·have hv' :=hn fun a=> (hu a).2
  rw[(hu a).1] at hrep
  simp only[RepC] at hrep
  obtain⟨u,ws,hcs,h1,rfl⟩:=hrep
  have:v.cells= #[v]:=by
   cases v<;>first|rfl|exact absurd rfl (hv' _)
  rw[this] at hcs
  simp at hcs
  rw[hcs]
  exact h1
end Go.Lift
