/- Part P10 of the proof. -/
import Derived.Test.YthjhclclibpijaaGreatDoorP9
set_option linter.all false
set_option maxHeartbeats 4000000
set_option maxRecDepth 100000
namespace Go.Lift.K
open Go Go.Lift Classical
variable{E:Nat→Nat→Prop}{N x:Nat}
noncomputable def nxs (E:Nat→Nat→Prop) (L:List Nat) (i N:Nat):List D:= (List.range N).map fun x=>D.int .i64 (if x∈L.take i then ((cls E (reps E L) x:Nat):Int) else -1)
theorem z98  {L:Ln} {i:Nat} : (nxs E L i N).length=N:=by simp[nxs]
def y6d  {L:Ln} {i:Nat} : (nxs E L i N).all D.sc=true:=by simp[nxs,D.sc]
def zsd  {L:Ln} {i:Nat} (hi:i<L.length): (nxs E L i N).set L[i] (.int .i64 ((cls E (reps E L) L[i]:Nat):Int))=nxs E L (i+1) N:=by
 apply List.ext_getElem
 ·simp[z98]
 ·intro q h1 h2
  have hq:q<N:=by simpa [z98] using h1
  rw[List.getElem_set]
  simp only[nxs,List.getElem_map,List.getElem_range]
  rw[z2m hi]
  by_cases e:L[i]=q
  ·rw[if_pos e,if_pos (by simp[e]),←e]
  ·rw[if_neg e]
   have:q∈L.take i++ [L[i]]↔q∈L.take i:=by rw[List.mem_append,List.mem_singleton];exact⟨fun h=>h.resolve_right (fun h=>e h.symm),.inl⟩
   simp only[this]
def fls (i N:Nat):List D:= (List.range N).map fun x=>D.int .i64 (if x<i then -1 else 0)
theorem zcj {i:Nat} : (fls i N).length=N:=by simp[fls]
def zyt  :List.replicate N (D.int .i64 0)=fls 0 N:=by
 apply List.ext_getElem
 ·simp[zcj]
 ·intro q h1 h2;simp[fls]
def y46 {i:Nat} (hi:i<N): (fls i N).set i (.int .i64 (-1))=fls (i+1) N:=by
 apply List.ext_getElem
 ·simp[zcj]
 ·intro q h1 h2
  rw[List.getElem_set]
  simp only[fls,List.getElem_map,List.getElem_range]
  by_cases e:i=q
  ·subst e;simp
  ·rw[if_neg e]
   by_cases h:q<i
   ·rw[if_pos h,if_pos ω]
   ·rw[if_neg h,if_neg ω]
def y47  {L:Ln}  :fls N N=nxs E L 0 N:=by
 apply List.ext_getElem
 ·simp[zcj,z98]
 ·intro q h1 h2
  have hq:q<N:=by simpa [zcj] using h1
  simp[fls,nxs,hq]
noncomputable def nows (ns:List NodeT) (L:List Nat) (j:Nat):List D:=match j with
 |0=>List.replicate ns.length (D.int .i64 0)
 |j+1=>nxs (ap ns ns (j+1)) L L.length ns.length
def zm0 {ns:Lk} {L:Ln} {j:Nat} : (nows ns L j).length=ns.length:=by
 cases j<;>simp[nows,z98]
def y2z {ns:Lk} {L:Ln} {j:Nat} (hx:x∈L) (hn:x<ns.length): (nows ns L j)[x]'(by rw[zm0];exact hn)= .int .i64 ((cls (ap ns ns j) (reps (ap ns ns j) L) x:Nat):Int):=by
 cases j with
 |zero=>
  have:cls (ap ns ns 0) (reps (ap ns ns 0) L) x=0:=by
   obtain⟨r,hr,_⟩:=z2s (E:=ap ns ns 0) (fun _=>z9n) hx
   cases h:reps (ap ns ns 0) L with
   |nil=>rw[h] at hr;cases hr
   |cons a l=>rw[z64,if_pos (show ap ns ns 0 a x from trivial)]
  simp[nows,this]
 |succ j=>
  simp only[nows,nxs,List.getElem_map,List.getElem_range,List.take_length]
  rw[if_pos hx]
noncomputable def kvs (ns:List NodeT) (L:List Nat) (j x i:Nat):List D:= (List.range 4).map fun q=>D.int .i64 (if q<i then ((cls (ap ns ns j) (reps (ap ns ns j) L) (kid ns x q):Nat):Int) else 0)
theorem zfr {ns:Lk} {L:Ln} {j i:Nat} : (kvs ns L j x i).length=4:=by simp[kvs]
theorem zy6 {ns:Lk} {L:Ln} {j:Nat} :kvs ns L j x 0= [.int .i64 0,.int .i64 0,.int .i64 0,.int .i64 0]:=by simp[kvs,List.range,List.range.loop]
def y3o {ns:Lk} {L:Ln} {j i:Nat} (hi:i<4): (kvs ns L j x i).set i (.int .i64 ((cls (ap ns ns j) (reps (ap ns ns j) L) (kid ns x i):Nat):Int))=kvs ns L j x (i+1):=by
 apply List.ext_getElem
 ·simp[zfr]
 ·intro q h1 h2
  rw[List.getElem_set]
  simp only[kvs,List.getElem_map,List.getElem_range]
  by_cases e:i=q
  ·subst e;simp
  ·rw[if_neg e]
   by_cases h:q<i
   ·rw[if_pos h,if_pos ω]
   ·rw[if_neg h,if_neg ω]
noncomputable def shk (ns:List NodeT) (L:List Nat) (j x:Nat):D:= .agg (.str (nd ns x).name:: .int .i64 ((nd ns x).kids.length:Nat)::kvs ns L j x (nd ns x).kids.length)
def zra {ns:Lk} {L:Ln} (hg:Gd ns) (hL:∀x∈L,x<ns.length) (hc:∀x∈L,∀k∈kds ns x,k∈L) {j y:Nat} (hx:x∈L) (hy:y∈L):shk ns L j x=shk ns L j y↔ap ns ns (j+1) x y:=by
 unfold shk
 have kat:∀z q n,q<4→(kvs ns L j z n)[q]?=some (.int .i64 (if q<n then ((cls (ap ns ns j) (reps (ap ns ns j) L) (kid ns z q):Nat):Int) else 0)):=by
  intro z q n hq
  simp[kvs,hq]
 constructor
 ·intro h
  injection h with h
  injection h with h1 h2
  injection h2 with h2 h3
  injection h1 with h1
  injection h2 with _ h2
  have h2: (nd ns x).kids.length= (nd ns y).kids.length:=ω
  refine⟨h1,h2,fun q hq=> ?_⟩
  have hq4:q<4:=Nat.lt_of_lt_of_le hq (hg.kids x (hL x hx))
  have e:=congrArg (·[q]?) h3
  simp only[kat _ _ _ hq4,if_pos hq,if_pos (h2▸hq),Option.some.injEq,D.int.injEq,true_and] at e
  exact (y4n z7i (hc x hx _ (z3w hq)) (hc y hy _ (z3w (h2▸hq)))).1 ω
 ·rintro⟨h1,h2,h3⟩
  rw[h1,h2]
  have:kvs ns L j x (nd ns y).kids.length=kvs ns L j y (nd ns y).kids.length:=by
   unfold kvs
   apply List.map_congr_left
   intro q _
   by_cases hq:q< (nd ns y).kids.length
   ·rw[if_pos hq,if_pos hq,zgc z7i (h3 q (h2▸hq))]
   ·rw[if_neg hq,if_neg hq]
  rw[this]
def Mp (ns:List NodeT) (L:List Nat) (j i:Nat) (es:List (D×V)):Prop:=
 es.length= (reps (ap ns ns (j+1)) (L.take i)).length∧∀x∈L,z22 es (shk ns L j x)=if ∃r∈reps (ap ns ns (j+1)) (L.take i),ap ns ns (j+1) r x then some (.d (.int .i64 ((cls (ap ns ns (j+1)) (reps (ap ns ns (j+1)) L) x:Nat):Int))) else none
theorem zrt {k:D} {v:V} :∀{es:List (D×V)},z22 es k=none→(z2c es k v).length=es.length+1
 | [],_=>rfl
 | (a,u)::r,h=>by
  simp only[z22] at h
  split at h
  ·cases h
  ·rename_i hne
   simp only[z2c]
   rw[if_neg hne]
   simp[zrt h]
theorem y6m {ns:Lk} {L:Ln} {j:Nat} :Mp ns L j 0 []:=⟨rfl,fun x _=>by
 rw[if_neg (by rintro⟨r,hr,_⟩;cases hr)];rfl⟩
section
variable {ns:List NodeT} {L:List Nat} {j i:Nat} {es:List (D×V)}
def y6l (hi:i<L.length) (h:Mp ns L j i es) (ho:∃r∈reps (ap ns ns (j+1)) (L.take i),ap ns ns (j+1) r L[i]):Mp ns L j (i+1) es:=by
 have e:=z3p (E:=ap ns ns (j+1)) z7i hi
 rw[if_pos ho] at e
 unfold Mp
 rw[e]
 exact h
def y0t (hi:i<L.length) (ho:¬∃r∈reps (ap ns ns (j+1)) (L.take i),ap ns ns (j+1) r L[i]):cls (ap ns ns (j+1)) (reps (ap ns ns (j+1)) L) L[i]= (reps (ap ns ns (j+1)) (L.take i)).length:=by
 have e:=z3p (E:=ap ns ns (j+1)) z7i hi
 rw[if_neg ho] at e
 obtain⟨m,hm⟩:=zf7 (E:=ap ns ns (j+1)) (l:=L) (i:=i+1)
 rw[hm,zkr (by rw[e];exact⟨L[i],by simp,z9n⟩),e,zv4 ho z9n]
def y6n (hg:Gd ns) (hL:∀x∈L,x<ns.length) (hc:∀x∈L,∀k∈kds ns x,k∈L) (hi:i<L.length) (h:Mp ns L j i es) (ho:¬∃r∈reps (ap ns ns (j+1)) (L.take i),ap ns ns (j+1) r L[i]):
  Mp ns L j (i+1) (z2c es (shk ns L j L[i]) (.d (.int .i64 (es.length:Nat)))):=by
 have e:=z3p (E:=ap ns ns (j+1)) z7i hi
 rw[if_neg ho] at e
 have hm:=List.getElem_mem hi
 have hn:=h.2 _ hm
 rw[if_neg ho] at hn
 refine⟨by rw[zrt hn,e,h.1];simp,fun x hx=> ?_⟩
 rw[z5g,e,h.2 x hx]
 by_cases hb:D.beq (shk ns L j L[i]) (shk ns L j x)=true
 ·have hs:= (zra hg hL hc hm hx).1 (D.eq_of_beq hb)
  rw[if_pos hb,if_pos ⟨L[i],by simp,hs⟩,←zgc z7i hs,y0t hi ho,h.1]
 ·have hs:¬ap ns ns (j+1) L[i] x:=fun k=>hb (by rw[(zra hg hL hc hm hx).2 k];exact D.beq_refl _)
  rw[if_neg hb]
  have: (∃r∈reps (ap ns ns (j+1)) (L.take i)++ [L[i]],ap ns ns (j+1) r x)↔∃r∈reps (ap ns ns (j+1)) (L.take i),ap ns ns (j+1) r x:=by
   constructor
   ·rintro⟨r,hr,hk⟩
    rcases List.mem_append.1 hr with hr|hr
    ·exact⟨r,hr,hk⟩
    ·rw[List.mem_singleton] at hr;subst hr;exact absurd hk hs
   ·rintro⟨r,hr,hk⟩
    exact⟨r,by simp[hr],hk⟩
  simp only[this]
end
def zxq {ds:Ld} :mkAgg (ds.map V.d)= .d (.agg ds):=by
 unfold mkAgg
 have:allD (ds.map V.d)=some ds:=by
  induction ds with
  |nil=>rfl
  |cons x ds ih=>simp[allD,ih]
 rw[this]
end Go.Lift.K
namespace Go.Lift.K
open Go Go.Lift
variable{r x y n k:Nat}{a:V}{l:Ld}{R:Ln}{t:TreeT}{p:Nat×Nat}{o:List (Nat×Nat)}{A B:Lk}
def zpt {ns:Lk} (hg:Gd ns)  (hr:r<ns.length) (st:St):z06 G (.fn 128 [] []) [.d (.sl (ns.map NodeT.d)),.d (.sl (dis [r]))] st=some (.d (.sl (dis (z3e ns r))),st):=by
 have hn:=hg.rt
 have hl:=hg.len
 have hrun:=zbl hn hr
 have hmk:=fun (key:Nat) (st:St)=>zdq (key:=key) (eb:=1) (n:=ns.length) (x:= .bool false) (st:=st) rfl ω ω
 have hm0:=y3c (n:=ns.length)
 have h1l: (dis [r]).length=1:=rfl
 have hir:z08 1 (.d (.sl (dis [r]))) 0=some (.dptr [.int .i64 (r:Nat)]):=z8n (l:= [r]) (i:=0) ψ
 have hat0:=z9r (ds:=mbs ns.length []) (i:=r) (by rw[z7s];exact hr)
 have hst0:=z6b (ds:=mbs ns.length []) (x:= .bool true) (i:=r) (by rw[z7s];exact hr)
 have hap:=fun (s:Sto) (nx lw key k1:Nat) (h:sget s k1=some (.cells [.d (.int .i64 (r:Nat))]))=>zlk (s:=s) (nx:=nx) (lw:=lw) (key:=key) (k1:=k1) (eb:=8) (m:=1) (es:=dis [r]) h rfl (by simp[dis]) rfl (by simp[dis]) (by simp[dis])
 refine z19 (ds:= [.sl (ns.map NodeT.d),.sl (dis [r])]) (rs:= [.sl (dis (z3e ns r))]) T1.g128 rfl rfl (fun e w_len harg=> ?_) st
 have w_len:e.length=69:=w_len
 have w_0:=harg 0 ψ
 have w_1:=harg 1 ψ
 clear harg
 simp only[List.map_cons,List.map_nil,List.getD_cons_zero,List.getD_cons_succ] at w_0 w_1
 simp only[T1.i128,hmk,hm0,h1l,w_len,w_0,w_1,↓LA,LB,simprocAttr]
 refine zfm ?_
 simp only[hir,z2f hr,hat0,zhr hr,List.not_mem_nil,hst0,zss hr,w_len,↓LA,LB,simprocAttr]
 rw[hap _ _ _ _ _ z03]
 simp only[w_len,↓LA,LB,simprocAttr]
 have w_x1:scs (dis [r])= [.d (.int .i64 (r:Nat))]:=rfl
 refine z0b (fun e0 s0 m env st=>∃(i nxi lwi:Nat) (si:Sto) (ka:Nat) (o:Ln),m=ns.length+1-i∧(i≤ns.length+1)∧(4≤ka)∧(ka<nxi)∧(Run Eq ns i o (z3e ns r))∧(o.Nodup)∧(∀x∈o,x<ns.length)∧sget si (3)=some (.cells (scs (mbs ns.length o)))∧sget si (ka)=some (.cells (scs (dis o)))∧4≤nxi∧0≤lwi∧env.length=69∧env.getD 9 .undef= .d (.int .i64 i)∧env.getD 0 .undef= .d (.sl (ns.map NodeT.d))∧env.getD 5 .undef= .arr 3 1 false 0 ns.length∧env.getD 6 .undef= .arr ka 1 false 0 o.length∧env.getD 15 .undef= .d (.sl (dis [r]))∧env.getD 16 .undef= .d (.int .i64 1)∧env.getD 17 .undef= .d (.int .i64 0)∧st= {s:=si,next:=nxi,low:=lwi}) ?_ (ns.length+1) (by refine⟨0,_,_,_,28,[r],rfl,ω,ω,ω,hrun,by simp,by simpa using hr,?_,?_,ω,Nat.zero_le _,?_,?_,?_,?_,?_,?_,?_,?_,rfl⟩<;>simp only[w_len,w_0,w_x1,LB,simprocAttr])
 rintro m env st ⟨i,nxi,lwi,si,ka,o,hm,a_0,a_1,a_2,a_3,a_4,a_5,w_ac0,w_ac1,w_ab,w_alo,w_len,w_9,w_0,w_5,w_6,w_15,w_16,w_17,rfl⟩
 have w_aN:=aI (cf1 (x:=nxi) (a:=3) ω) (cf1 (x:=nxi) (a:=ka) ω)
 have w_aS:=aI (cf2 (x:=nxi) ω w_ac0) (cf2 (x:=nxi) ω w_ac1)
 have w_aZ:=zf0 (x:=nxi) (n:=4) ω
 have hol:=z4u a_4 a_5
 by_cases hi:i<o.length
 ·have hx:=a_5 o[i] (List.getElem_mem hi)
  simp only[hi,z2f hi,z9r (dis_len▸hi),y7n hi,z3h hx,w_len,w_9,w_0,w_6,w_ac1,↓LA,LB,simprocAttr]
  refine z0b (fun e0 s0 m env st=>∃(k nxk lwk:Nat) (sk:Sto) (kb:Nat) (p:Ln),m=ns[o[i]].kids.length-k∧(k≤ns[o[i]].kids.length)∧(4≤kb)∧(kb<nxk)∧(p=addE Eq o ((kds ns o[i]).take k))∧sget sk (3)=some (.cells (scs (mbs ns.length p)))∧sget sk (kb)=some (.cells (scs (dis p)))∧4≤nxk∧0≤lwk∧env.length=69∧env.getD 50 .undef= .d (.int .i64 k)∧env.getD 0 .undef= .d (.sl (ns.map NodeT.d))∧env.getD 5 .undef= .arr 3 1 false 0 ns.length∧env.getD 6 .undef= .arr kb 1 false 0 p.length∧env.getD 9 .undef= .d (.int .i64 i)∧env.getD 15 .undef= .d (.sl (dis [r]))∧env.getD 16 .undef= .d (.int .i64 1)∧env.getD 17 .undef= .d (.int .i64 0)∧env.getD 48 .undef= .d (.sl (ns[o[i]].kids.map (D.int .i64)))∧env.getD 49 .undef= .d (.int .i64 ns[o[i]].kids.length)∧st= {s:=sk,next:=nxk,low:=lwk}) ?_ (ns[o[i]].kids.length) (by refine⟨0,_,_,_,ka,o,rfl,ω,ω,ω,by simp[addE],?_,?_,ω,Nat.zero_le _,?_,?_,?_,?_,?_,?_,?_,?_,?_,?_,?_,rfl⟩<;>simp only[w_len,w_9,w_0,w_5,w_6,w_15,w_16,w_17,w_ac0,w_ac1,LB,simprocAttr])
  rintro m env st ⟨k,nxk,lwk,sk,kb,p,hm,b_0,b_1,b_2,b_3,w_bc0,w_bc1,w_bb,w_blo,w_len,w_50,w_0,w_5,w_6,w_9,w_15,w_16,w_17,w_48,w_49,rfl⟩
  have w_bN:=aI (cf1 (x:=nxk) (a:=3) ω) (cf1 (x:=nxk) (a:=kb) ω)
  have w_bS:=aI (cf2 (x:=nxk) ω w_bc0) (cf2 (x:=nxk) ω w_bc1)
  have w_bZ:=zf0 (x:=nxk) (n:=4) ω
  have hkl:=hg.kids _ hx
  rw[z2j hx] at hkl
  have hpn:p.Nodup:=by rw[b_3];exact z99 a_4
  have hpl:∀x∈p,x<ns.length:=fun x hx' =>by
   rw[b_3] at hx'
   exact (z78 hx').elim (a_5 x) fun h=>hn _ hx x (List.mem_of_mem_take h)
  have hpo:=z4u hpn hpl
  by_cases hk:k<ns[o[i]].kids.length
  ·obtain⟨hke,hkn⟩:=hg.at_ hx hk
   have hkt:=zyc hx hk
   have hat:=z9r (ds:=mbs ns.length p) (i:=kid ns o[i] k) (by rw[z7s];exact hkn)
   have hst:=z6b (ds:=mbs ns.length p) (x:= .bool true) (i:=kid ns o[i] k) (by rw[z7s];exact hkn)
   by_cases hm' :kid ns o[i] k∈p
   ·simp only[hk,z3s hk,hke,z2f hkn,hat,zhr hkn,hm',z07 hk ω,w_len,w_50,w_5,w_48,w_49,w_bc0,↓LA,LB,simprocAttr]
    exact z09 (by refine⟨_,ω,k+1,_,_,_,kb,p,rfl,ω,ω,ω,by rw[hkt,zj3,←b_3,z2z ⟨_,hm',rfl⟩];rfl,?_,?_,ω,Nat.zero_le _,?_,?_,?_,?_,?_,?_,?_,?_,?_,?_,?_,rfl⟩<;>simp only[w_len,w_0,w_5,w_6,w_9,w_15,w_16,w_17,w_48,w_49,w_bc0,w_bc1,LB,simprocAttr])
   ·have w_sd:∀s j,(kb=j)=False→sget (sdel s kb) j=sget s j:=fun s j h=>zje h
    have w_k0: (kb=3)=False:=by simp;omega
    have w_k1: ((3:Nat)=kb)=False:=by simp;omega
    simp only[hk,z3s hk,hke,z2f hkn,hat,zhr hkn,hm',hst,zss hkn,w_len,w_50,w_5,w_6,w_48,w_49,w_bc0,↓LA,LB,simprocAttr]
    rw[y4f (x:=kid ns o[i] k) (by rw[z00 ω,z01 ω];exact w_bc1) z03 ω]
    simp only[z07 hk ω,w_len,w_50,w_bN,↓LA,LB,simprocAttr]
    exact z09 (by refine⟨_,ω,k+1,_,_,_,nxk+16,p++ [kid ns o[i] k],rfl,ω,ω,ω,by rw[hkt,zj3,←b_3,z1v (by rintro⟨q,h1,rfl⟩;exact hm' h1)];rfl,?_,?_,ω,Nat.zero_le _,?_,?_,?_,?_,?_,?_,?_,?_,?_,?_,?_,rfl⟩<;>simp only[w_len,w_0,w_5,w_9,w_15,w_16,w_17,w_48,w_49,w_bN,w_bS,w_sd,w_k0,LB,simprocAttr])
  ·have hkf: (kds ns o[i]).take k=kds ns o[i]:=List.take_of_length_le (by rw[z3g,z2j hx];omega)
   rw[hkf] at b_3
   have hr' :=a_3.next hi
   rw[←b_3] at hr'
   simp only[hk,z07 hi ω,w_len,w_50,w_9,w_49,↓LA,LB,simprocAttr]
   exact z09 (by refine⟨_,ω,i+1,_,_,_,kb,p,rfl,ω,ω,ω,hr',hpn,hpl,?_,?_,ω,Nat.zero_le _,?_,?_,?_,?_,?_,?_,?_,?_,rfl⟩<;>simp only[w_len,w_0,w_5,w_6,w_15,w_16,w_17,w_bc0,w_bc1,LB,simprocAttr])
 ·rw[a_3.end_ hi]
  have hw1:IntKind.i64.wrap (1:Int)=1:=z23 ω ω
  simp only[hi,hw1,w_len,w_9,w_6,w_17,↓LA,LB,simprocAttr]
  refine zfm ?_
  simp only[w_len,w_6,w_16,↓LA,LB,simprocAttr]
  exact rql1 (zz8 w_ac1) rfl
def zr9 {b:V}  {i:Nat} {x:D} (h:i<l.length): (2+ (i+1)≤(scs l).length+2)=True∧(a::b::scs l).take (2+i)++ [.d x]++ (a::b::scs l).drop (2+ (i+1))=a::b::scs (l.set i x):=by
 refine⟨eq_true (by simp[z54];omega),?_⟩
 have e1:2+i=i+1+1:=ω
 have e2:2+ (i+1)=i+1+1+1:=ω
 rw[e2,e1,List.take_succ_cons,List.take_succ_cons,List.drop_succ_cons,List.drop_succ_cons,List.cons_append,List.cons_append,List.cons_append,List.cons_append,(z6b h).2]
def zwv {x y:D}  (h:l.length=4): (4≤(scs l).length)=True∧List.take 4 (scs l)=scs l∧mkAgg (V.d x::V.d y::scs l)= .d (.agg (x::y::l)):=⟨eq_true (by simp[z54,h]),List.take_of_length_le (by simp[z54,h]),zxq (ds:=x::y::l)⟩
def y9e  (h4:l.length=4) (h:∀x∈l,∃n:Int,x= .int .i64 n∧0≤n∧n≤60):conf [.i .i64,.i .i64,.i .i64,.i .i64] l=true:=by
 match l,h4 with
 | [a,b,c,d],_=>
  have e1:IntKind.i64.min= -9223372036854775808:=by decide
  have e2:IntKind.i64.max=9223372036854775807:=by decide
  obtain⟨n1,rfl,h1,k1⟩:=h a ψ
  obtain⟨n2,rfl,h2,k2⟩:=h b ψ
  obtain⟨n3,rfl,h3,k3⟩:=h c ψ
  obtain⟨n4,rfl,h4,k4⟩:=h d ψ
  simp[conf,z8y,e1,e2]
  omega
def y7u {E:Nat→Nat→Prop} {L:Ln}  :cls E (reps E L) x≤L.length:=Nat.le_trans (by unfold cls;exact List.findIdx_le_length) z7o
def zww {ns:Lk} {L:Ln} {j:Nat} (h1: (nd ns x).name.length≤8) (h2: (nd ns x).kids.length≤4) (h3:L.length≤60):z2v true [.s,.i .i64,.i .i64,.i .i64,.i .i64,.i .i64] (shk ns L j x)=true:=by
 have e1:IntKind.i64.min= -9223372036854775808:=by decide
 have e2:IntKind.i64.max=9223372036854775807:=by decide
 have:=y9e (l:=kvs ns L j x (nd ns x).kids.length) zfr (fun y hy=>by
  unfold kvs at hy
  obtain⟨q,_,rfl⟩:=List.mem_map.1 hy
  refine⟨_,rfl,?_⟩
  have:=y7u (E:=ap ns ns j) (L:=L) (x:=kid ns x q)
  split<;>omega)
 unfold shk
 simp only[z2v,conf,this,z8y,e1,e2,Bool.and_true,Bool.true_and,Bool.and_eq_true,decide_eq_true_eq,decide_true]
 omega
def zpq {ns:Lk} (hg:Gd ns) (hnm:∀i,i<ns.length→(nd ns i).name.length≤8)  (hr:r<ns.length) (st:St):
  z06 G (.fn 129 [] []) [.d (.sl (ns.map NodeT.d)),.d (.sl (dis (z3e ns r)))] st=some (.tup [.d (.sl (nxs (bis ns ns) (z3e ns r) (z3e ns r).length ns.length)),.d (.int .i64 ((z28 ns r).length:Nat))],st):=by
 have hn:=hg.rt
 have hl:=hg.len
 obtain⟨hnd,hlt,hcl,hhd⟩:=z26 hn hr
 have hrl:=zhg hn hr
 obtain⟨L,hL⟩:∃L,L=z3e ns r:=⟨_,rfl⟩
 rw[←hL] at hnd hlt hcl hhd hrl⊢
 have hL1:1≤L.length:=by obtain⟨m,hm⟩:=hhd;rw[hm];simp
 have hLr: (z28 ns r)=reps (bis ns ns) L:=by rw[hL];rfl
 have h0: (reps (ap ns ns 0) L).length=1:=by
  obtain⟨m,hm⟩:=hhd
  rw[hm]
  have:∀(m o:Ln),o≠ []→addE (ap ns ns 0) o m=o:=fun m o ho=>zgq fun k _=>by
   cases o with
   |nil=>exact absurd rfl ho
   |cons a l=>exact⟨a,by simp,trivial⟩
  unfold reps
  rw[z1v ψ,this _ _ ψ];rfl
 have hmk:=fun (key:Nat) (st:St)=>zdq (key:=key) (eb:=8) (n:=ns.length) (x:= .int .i64 0) (st:=st) rfl ω ω
 have hf0:=zyt (N:=ns.length)
 refine z19 (ds:= [.sl (ns.map NodeT.d),.sl (dis L)]) (rs:= [.sl (nxs (bis ns ns) L L.length ns.length),.int .i64 ((z28 ns r).length:Nat)]) T1.g129 rfl rfl (fun e w_len harg=> ?_) st
 have w_len:e.length=98:=w_len
 have w_0:=harg 0 ψ
 have w_1:=harg 1 ψ
 clear harg
 simp only[List.map_cons,List.map_nil,List.getD_cons_zero,List.getD_cons_succ] at w_0 w_1
 simp only[T1.i129,hmk,w_len,w_0,↓LA,LB,simprocAttr]
 have w_x1:nows ns L 0=List.replicate ns.length (D.int .i64 0):=rfl
 refine z0b (fun e0 s0 m env st=>∃(c nxc lwc:Nat) (sc:Sto) (kn j:Nat),m=L.length-c∧(c≤L.length)∧(kn<nxc)∧(c= (reps (ap ns ns j) L).length)∧sget sc (kn)=some (.cells (scs (nows ns L j)))∧5≤nxc∧0≤lwc∧env.length=98∧env.getD 7 .undef= .d (.int .i64 c)∧env.getD 0 .undef= .d (.sl (ns.map NodeT.d))∧env.getD 1 .undef= .d (.sl (dis L))∧env.getD 6 .undef= .arr kn 1 false 0 ns.length∧st= {s:=sc,next:=nxc,low:=lwc}) ?_ (L.length-1) (by refine⟨1,_,_,_,4,0,rfl,ω,ω,h0.symm,?_,ω,Nat.zero_le _,?_,?_,?_,?_,?_,rfl⟩<;>simp (maxDischargeDepth:=60) only[w_len,w_0,w_1,w_x1,LB,simprocAttr])
 rintro m env st ⟨c,nxc,lwc,sc,kn,j,hm,a_0,a_1,a_2,w_ac0,w_ab,w_alo,w_len,w_7,w_0,w_1,w_6,rfl⟩
 have w_aN:=cf1 (x:=nxc) (a:=kn) ω
 have w_aS:=cf2 (x:=nxc) ω w_ac0
 have w_aZ:=zf0 (x:=nxc) (n:=5) ω
 simp only[hmk,hf0,w_len,w_0,↓LA,LB,simprocAttr]
 refine z0b (fun e0 s0 m env st=>∃(q nxq lwq:Nat) (sq:Sto),m=ns.length-q∧(q≤ns.length)∧sget sq (kn)=some (.cells (scs (nows ns L j)))∧sget sq (nxc+2)=some (.cells (scs (fls q ns.length)))∧nxc+4≤nxq∧0≤lwq∧env.length=98∧env.getD 26 .undef= .d (.int .i64 q)∧env.getD 0 .undef= .d (.sl (ns.map NodeT.d))∧env.getD 1 .undef= .d (.sl (dis L))∧env.getD 6 .undef= .arr kn 1 false 0 ns.length∧env.getD 7 .undef= .d (.int .i64 c)∧env.getD 8 .undef= .arr (nxc+2) 1 false 0 ns.length∧env.getD 25 .undef= .d (.int .i64 ns.length)∧st= {s:=sq,next:=nxq,low:=lwq}) ?_ (ns.length) (by refine⟨0,_,_,_,rfl,ω,?_,?_,ω,Nat.zero_le _,?_,?_,?_,?_,?_,?_,?_,?_,rfl⟩<;>simp only[w_len,w_7,w_0,w_1,w_6,w_ac0,w_aN,LB,simprocAttr])
 rintro m env st ⟨q,nxq,lwq,sq,hm,f_0,w_fc0,w_fc1,w_fb,w_flo,w_len,w_26,w_0,w_1,w_6,w_7,w_8,w_25,rfl⟩
 have w_fN:=aI (cf1 (x:=nxq) (a:=kn) ω) (cf1 (x:=nxq) (a:=nxc+2) ω)
 have w_fS:=aI (cf2 (x:=nxq) ω w_fc0) (cf2 (x:=nxq) ω w_fc1)
 have w_fZ:=zf (x:=nxq) (b:=nxc) (n:=4) ω ω
 by_cases hq:q<ns.length
 ·have hst:=z6b (ds:=fls q ns.length) (x:= .int .i64 (-1)) (i:=q) (by rw[zcj];exact hq)
  simp only[hq,z2f hq,hst,y46 hq,z07 hq ω,w_len,w_26,w_8,w_25,w_fc1,↓LA,LB,simprocAttr]
  exact z09 (by refine⟨_,ω,q+1,_,_,_,rfl,ω,?_,?_,ω,Nat.zero_le _,?_,?_,?_,?_,?_,?_,?_,?_,rfl⟩<;>simp only[w_len,w_0,w_1,w_6,w_7,w_8,w_25,w_fc0,w_fS,w_aN,LB,simprocAttr])
 have hqe:q=ns.length:=ω
 subst hqe
 have hfa:=y47 (E:=ap ns ns (j+1)) (L:=L) (N:=ns.length)
 rw[hfa] at w_fc1
 simp only[hq,dis_len,w_len,w_26,w_1,w_25,↓LA,LB,simprocAttr]
 refine z0b (fun e0 s0 m env st=>∃(i nxi lwi:Nat) (si:Sto) (es:List (D×V)),m=L.length-i∧(i≤L.length)∧(Mp ns L j i es)∧sget si (kn)=some (.cells (scs (nows ns L j)))∧sget si (nxc+2)=some (.cells (scs (nxs (ap ns ns (j+1)) L i ns.length)))∧sget si (nxq+1)=some (.map 236 es)∧nxq+6≤nxi∧0≤lwi∧env.length=98∧env.getD 36 .undef= .d (.int .i64 i)∧env.getD 0 .undef= .d (.sl (ns.map NodeT.d))∧env.getD 1 .undef= .d (.sl (dis L))∧env.getD 6 .undef= .arr kn 1 false 0 ns.length∧env.getD 7 .undef= .d (.int .i64 c)∧env.getD 8 .undef= .arr (nxc+2) 1 false 0 ns.length∧env.getD 10 .undef= .map (nxq+1)∧env.getD 34 .undef= .d (.sl (dis L))∧env.getD 35 .undef= .d (.int .i64 L.length)∧st= {s:=si,next:=nxi,low:=lwi}) ?_ (L.length) (by refine⟨0,_,_,_,[],rfl,ω,y6m,?_,?_,?_,ω,Nat.zero_le _,?_,?_,?_,?_,?_,?_,?_,?_,?_,?_,rfl⟩<;>simp only[w_len,w_0,w_1,w_6,w_7,w_8,w_fc0,w_fc1,w_fN,LB,simprocAttr])
 rintro m env st ⟨i,nxi,lwi,si,es,hm,g_0,g_1,w_gc0,w_gc1,w_gc2,w_gb,w_glo,w_len,w_36,w_0,w_1,w_6,w_7,w_8,w_10,w_34,w_35,rfl⟩
 have w_gN:=aI (cf1 (x:=nxi) (a:=kn) ω) (aI (cf1 (x:=nxi) (a:=nxc+2) ω) (cf1 (x:=nxi) (a:=nxq+1) ω))
 have w_gS:=aI (cf2 (x:=nxi) ω w_gc0) (aI (cf2 (x:=nxi) ω w_gc1) (cf2 (x:=nxi) ω w_gc2))
 have w_gZ:=aI (zf (x:=nxi) (b:=nxq) (n:=6) ω ω) (zf (x:=nxi) (b:=nxc) (n:=4) ω ω)
 by_cases hi:i<L.length
 ·have hx:=hlt L[i] (List.getElem_mem hi)
  have hkl:=hg.kids _ hx
  rw[z2j hx] at hkl
  have w_x2:∀a b:D,V.d a::V.d b::scs (kvs ns L j L[i] 0)= [V.d a,V.d b,.d (.int .i64 0),.d (.int .i64 0),.d (.int .i64 0),.d (.int .i64 0)]:=fun a b=>by rw[zy6];rfl
  simp only[hi,z8n hi,z3h hx,List.length_map,w_len,w_36,w_0,w_34,w_35,↓LA,LB,simprocAttr]
  refine z0b (fun e0 s0 m env st=>∃(k nxk lwk:Nat) (sk:Sto),m=ns[L[i]].kids.length-k∧(k≤ns[L[i]].kids.length)∧sget sk (kn)=some (.cells (scs (nows ns L j)))∧sget sk (nxc+2)=some (.cells (scs (nxs (ap ns ns (j+1)) L i ns.length)))∧sget sk (nxq+1)=some (.map 236 es)∧sget sk (nxi+16)=some (.cells (.d (.str ns[L[i]].name):: .d (.int .i64 ns[L[i]].kids.length)::scs (kvs ns L j L[i] k)))∧nxi+18≤nxk∧0≤lwk∧env.length=98∧env.getD 58 .undef= .d (.int .i64 k)∧env.getD 0 .undef= .d (.sl (ns.map NodeT.d))∧env.getD 1 .undef= .d (.sl (dis L))∧env.getD 6 .undef= .arr kn 1 false 0 ns.length∧env.getD 7 .undef= .d (.int .i64 c)∧env.getD 8 .undef= .arr (nxc+2) 1 false 0 ns.length∧env.getD 10 .undef= .map (nxq+1)∧env.getD 12 .undef= .d (.int .i64 L[i])∧env.getD 13 .undef= .ptr (nxi+16) 0∧env.getD 34 .undef= .d (.sl (dis L))∧env.getD 35 .undef= .d (.int .i64 L.length)∧env.getD 36 .undef= .d (.int .i64 i)∧env.getD 56 .undef= .d (.sl (ns[L[i]].kids.map (D.int .i64)))∧env.getD 57 .undef= .d (.int .i64 ns[L[i]].kids.length)∧st= {s:=sk,next:=nxk,low:=lwk}) ?_ (ns[L[i]].kids.length) (by refine⟨0,_,_,_,rfl,ω,?_,?_,?_,?_,ω,Nat.zero_le _,?_,?_,?_,?_,?_,?_,?_,?_,?_,?_,?_,?_,?_,?_,?_,rfl⟩<;>simp only[w_len,w_36,w_0,w_1,w_6,w_7,w_8,w_10,w_34,w_35,w_gc0,w_gc1,w_gc2,w_gN,w_x2,LB,simprocAttr])
  rintro m env st ⟨k,nxk,lwk,sk,hm,h_0,w_hc0,w_hc1,w_hc2,w_hc3,w_hb,w_hlo,w_len,w_58,w_0,w_1,w_6,w_7,w_8,w_10,w_12,w_13,w_34,w_35,w_36,w_56,w_57,rfl⟩
  have w_hN:=aI (cf1 (x:=nxk) (a:=kn) ω) (aI (cf1 (x:=nxk) (a:=nxc+2) ω) (aI (cf1 (x:=nxk) (a:=nxq+1) ω) (cf1 (x:=nxk) (a:=nxi+16) ω)))
  have w_hS:=aI (cf2 (x:=nxk) ω w_hc0) (aI (cf2 (x:=nxk) ω w_hc1) (aI (cf2 (x:=nxk) ω w_hc2) (cf2 (x:=nxk) ω w_hc3)))
  have w_hZ:=aI (zf (x:=nxk) (b:=nxi) (n:=18) ω ω) (aI (zf (x:=nxk) (b:=nxq) (n:=6) ω ω) (zf (x:=nxk) (b:=nxc) (n:=4) ω ω))
  by_cases hk:k<ns[L[i]].kids.length
  ·obtain⟨hke,hkn⟩:=hg.at_ hx hk
   have hkL:kid ns L[i] k∈L:=hcl _ (List.getElem_mem hi) _ (z3w (by rw[z2j hx];exact hk))
   have hat:=z9r (ds:=nows ns L j) (i:=kid ns L[i] k) (by rw[zm0];exact hkn)
   have hat2:=y2z (j:=j) hkL hkn
   have h6:=zr9 (a:= .d (.str ns[L[i]].name)) (b:= .d (.int .i64 ns[L[i]].kids.length)) (l:=kvs ns L j L[i] k) (i:=k) (x:= .int .i64 ((cls (ap ns ns j) (reps (ap ns ns j) L) (kid ns L[i] k):Nat):Int)) (by rw[zfr];omega)
   have hia:z1i 4 1 (.ptr (nxi+16) 2) (k:Int)=some (.ptr (nxi+16) (2+k)):=by
    simp only[z1i]
    rw[if_pos ⟨ω,ω⟩]
    simp
   simp only[hk,z3s hk,hke,z2f hkn,hat,hat2,hia,h6,y3o (i:=k) ω,z07 hk ω,w_len,w_58,w_6,w_13,w_56,w_57,w_hc0,w_hc3,↓LA,LB,simprocAttr]
   exact z09 (by refine⟨_,ω,k+1,_,_,_,rfl,ω,?_,?_,?_,?_,ω,Nat.zero_le _,?_,?_,?_,?_,?_,?_,?_,?_,?_,?_,?_,?_,?_,?_,?_,rfl⟩<;>simp only[w_len,w_0,w_1,w_6,w_7,w_8,w_10,w_12,w_13,w_34,w_35,w_36,w_56,w_57,w_hc0,w_hc1,w_hc2,w_hS,w_gN,LB,simprocAttr])
  have hke:k=ns[L[i]].kids.length:=ω
  subst hke
  have hnl:=hnm _ hx
  rw[z2j hx] at hnl
  have hsk:shk ns L j L[i]= .agg (.str ns[L[i]].name:: .int .i64 (ns[L[i]].kids.length:Nat)::kvs ns L j L[i] ns[L[i]].kids.length):=by unfold shk;rw[z2j hx]
  have hcf:=zww (ns:=ns) (L:=L) (j:=j) (x:=L[i]) (by rw[z2j hx];exact hnl) (by rw[z2j hx];exact hkl) ω
  have hmp:=g_1
  have h6:=zwv (x:= .str ns[L[i]].name) (y:= .int .i64 (ns[L[i]].kids.length:Nat)) (l:=kvs ns L j L[i] ns[L[i]].kids.length) zfr
  simp only[hk,h6,←hsk,w_len,w_58,w_10,w_13,w_57,w_hc3,↓LA,LB,simprocAttr]
  have hx0:∀a b:V,[a,b][0]?=some a:=fun _ _=>rfl
  have hx1:∀a b:V,[a,b][1]?=some b:=fun _ _=>rfl
  have hst:=z6b (ds:=nxs (ap ns ns (j+1)) L i ns.length) (x:= .int .i64 ((cls (ap ns ns (j+1)) (reps (ap ns ns (j+1)) L) L[i]:Nat):Int)) (i:=L[i]) (by rw[z98];exact hx)
  have hget:=hmp.2 L[i] (List.getElem_mem hi)
  by_cases ho:∃r∈reps (ap ns ns (j+1)) (L.take i),ap ns ns (j+1) r L[i]
  ·rw[if_pos ho] at hget
   have hlk:=fun nx lw zero=>z7t (nx:=nx) (lw:=lw) (zero:=zero) hcf w_hc2 hget
   simp only[hlk,hx0,hx1,z2f hx,hst,zsd hi,z07 hi ω,w_len,w_8,w_12,w_36,w_hc1,↓LA,LB,simprocAttr]
   exact z09 (by refine⟨_,ω,i+1,_,_,_,es,rfl,ω,y6l hi hmp ho,?_,?_,?_,ω,Nat.zero_le _,?_,?_,?_,?_,?_,?_,?_,?_,?_,?_,rfl⟩<;>simp only[w_len,w_0,w_1,w_6,w_7,w_8,w_10,w_34,w_35,w_hc0,w_hc2,w_hS,w_fZ,w_aN,LB,simprocAttr])
  ·rw[if_neg ho] at hget
   have hlk:=fun nx lw zero=>z7u (nx:=nx) (lw:=lw) (zero:=zero) hcf w_hc2 hget
   have hlen:es.length=cls (ap ns ns (j+1)) (reps (ap ns ns (j+1)) L) L[i]:=hmp.1.trans (y0t hi ho).symm
   have hmn:=y6n hg hlt hcl hi hmp ho
   rw[hlen] at hmn
   have hlm:∀nx lw,z5c {s:=sk,next:=nx,low:=lw} (.map (nxq+1))=some (cls (ap ns ns (j+1)) (reps (ap ns ns (j+1)) L) L[i]):=fun nx lw=>by rw[←hlen];exact zmd w_hc2
   have hU:=fun nx lw x=>z5f (nx:=nx) (lw:=lw) (x:=x) hcf w_hc2
   simp only[hlk,hx0,hx1,hlm,↓zg1,hU,h6,←hsk,z2f hx,hst,zsd hi,z07 hi ω,w_len,w_8,w_10,w_12,w_13,w_36,w_hc1,w_hc3,w_fN,↓LA,LB,simprocAttr]
   exact z09 (by refine⟨_,ω,i+1,_,_,_,_,rfl,ω,hmn,?_,?_,?_,ω,Nat.zero_le _,?_,?_,?_,?_,?_,?_,?_,?_,?_,?_,rfl⟩<;>simp only[w_len,w_0,w_1,w_6,w_7,w_8,w_10,w_34,w_35,w_hc0,w_hc1,w_hS,w_fN,w_fZ,w_aN,LB,simprocAttr])
 have hie:i=L.length:=ω
 subst hie
 have hml:=g_1.1
 rw[List.take_length] at hml
 have hlm:∀nx lw,z5c {s:=si,next:=nx,low:=lw} (.map (nxq+1))=some (reps (ap ns ns (j+1)) L).length:=fun nx lw=>by rw[←hml];exact zmd w_gc2
 have hgr:=zrl (ns:=ns) (l:=L) (n:=j)
 have hle:=z7o (E:=ap ns ns (j+1)) (l:=L)
 by_cases he: (reps (ap ns ns (j+1)) L).length=c
 ·obtain⟨e1,e2⟩:=zkt hcl (he.trans a_2)
  simp only[hi,hlm,↓zg1,ceq he,w_len,w_36,w_7,w_8,w_10,w_35,↓LA,LB,simprocAttr]
  refine rql2 (by have:=zf4 w_gc1 y6d;rw[z98] at this;exact this) zr5 ?_
  rw[hLr,←e1,he]
  congr 2
  unfold nxs
  apply List.map_congr_left
  intro x _
  congr 1
  by_cases hx:x∈L
  ·rw[List.take_length,if_pos hx,if_pos hx,e2 x hx]
  ·rw[List.take_length,if_neg hx,if_neg hx]
 ·have w_x3:nows ns L (j+1)=nxs (ap ns ns (j+1)) L L.length ns.length:=rfl
  simp only[hi,hlm,↓zg1,cne he,w_len,w_36,w_7,w_8,w_10,w_35,↓LA,LB,simprocAttr]
  exact z09 (by refine⟨_,ω,(reps (ap ns ns (j+1)) L).length,_,_,_,nxc+2,j+1,rfl,ω,ω,rfl,?_,ω,Nat.zero_le _,?_,?_,?_,?_,?_,rfl⟩<;>simp only[w_len,w_0,w_1,w_gc1,w_x3,LB,simprocAttr])
def zns (n:Nat):List V:= (List.replicate n [V.d (.str []),V.nilS]).flatten
theorem zw5  :zns (n+1)= .d (.str []):: .nilS::zns n:=by simp[zns,List.replicate_succ]
def zka {i:Nat} {ag:Bool} (h:i<n):z08 2 (.arr k 2 ag 0 n) (i:Int)=some (.ptr k (i*2)):=by
 simp only[z08]
 rw[if_pos ⟨ω,ω,trivial⟩]
 simp
def zcc {E:Nat→Nat→Prop} {L:Ln} {N:Nat} (hx:x∈L) (hn:x<N):z08 1 (.d (.sl (nxs E L L.length N))) (x:Int)=some (.dptr [.int .i64 ((cls E (reps E L) x:Nat):Int)]):=by
 simp only[z08]
 rw[if_pos ω]
 have: (nxs E L L.length N)[(x:Int).toNat]?=some (.int .i64 ((cls E (reps E L) x:Nat):Int)):=by
  simp[nxs,hn,hx]
 simp only[this]
 rfl
def at0 {P R:Lv}   (h:P.length=n): (n+1≤(P++a::R).length)=True∧((P++a::R).drop n).take 1= [a]∧∀x,(P++a::R).take n++ [x]++ (P++a::R).drop (n+1)=P++x::R:=by
 subst h
 refine⟨eq_true ψ,by simp,fun x=> ?_⟩
 rw[List.take_left,List.drop_append,List.drop_eq_nil_of_le ω]
 simp[show P.length+1-P.length=1 by omega]
def at1 {P R:Lv} {b:V}  (h:P.length=n): (n+ (1+1)≤(P++a::b::R).length)=True∧((P++a::b::R).drop (n+1)).take 1= [b]∧∀x,(P++a::b::R).take (n+1)++ [x]++ (P++a::b::R).drop (n+ (1+1))=P++a::x::R:=by
 have:=at0 (P:=P++ [a]) (R:=R) (a:=b) (n:=n+1) (by simp[h])
 simpa [Nat.add_assoc] using this
structure Mg (ns:List NodeT) (L:List Nat) (s:Sto) (S:Nat→Prop) (i:Nat) (P:List V):Prop where
 len:P.length= (reps (bis ns ns) (L.take i)).length*2
 cv:CVs (CQ s false S 1) P (((reps (bis ns ns) (L.take i)).map fun x=> (z3x ns (reps (bis ns ns) L) x).d).flatMap cellsD)
 nm:∀c (h:c< (reps (bis ns ns) (L.take i)).length),(P.drop (c*2)).take 1= [.d (.str (nd ns (reps (bis ns ns) (L.take i))[c]).name)]
theorem y6r {ns:Lk} {L:Ln} {s:Sto} {S:Nat→Prop} :Mg ns L s S 0 []:=⟨rfl,trivial,fun c h=>by cases h⟩
def Mg.frame {ns:Lk} {L:Ln} {s s' :Sto} {S S' :Nat→Prop} {i:Nat} {P:Lv} (h:Mg ns L s S i P) (hs:∀j,S j→sget s' j=sget s j) (hS:∀j,S j→S' j):Mg ns L s' S' i P:=⟨h.len,h.cv.imp fun v d hv=> (hv.frame hs).mono hS,h.nm⟩
def zpp {ns:Lk} {L:Ln}  (hx:x∈L):cls (bis ns ns) (reps (bis ns ns) L) x< (reps (bis ns ns) L).length:= (zej (z2s (fun _=>z42) hx)).1
section
variable {ns:List NodeT} {L:List Nat} {s:Sto} {S:Nat→Prop} {i:Nat} {P:List V}
def y6q (hi:i<L.length) (h:Mg ns L s S i P) (ho:∃r∈reps (bis ns ns) (L.take i),bis ns ns r L[i]):Mg ns L s S (i+1) P:=by
 have e:=z3p (E:=bis ns ns) zd4 hi
 rw[if_pos ho] at e
 obtain⟨h1,h2,h3⟩:=h
 exact⟨by rw[e];exact h1,by rw[e];exact h2,by rw[e];exact h3⟩
def zoz (hi:i<L.length) (ho:¬∃r∈reps (bis ns ns) (L.take i),bis ns ns r L[i]):cls (bis ns ns) (reps (bis ns ns) L) L[i]= (reps (bis ns ns) (L.take i)).length:=by
 have e:=z3p (E:=bis ns ns) zd4 hi
 rw[if_neg ho] at e
 obtain⟨m,hm⟩:=zf7 (E:=bis ns ns) (l:=L) (i:=i+1)
 rw[hm,zkr (by rw[e];exact⟨L[i],by simp,z42⟩),e,zv4 ho z42]
def zoy  (ho:∃r∈reps (bis ns ns) (L.take i),bis ns ns r x):∃h:cls (bis ns ns) (reps (bis ns ns) L) x< (reps (bis ns ns) (L.take i)).length,(nd ns (reps (bis ns ns) (L.take i))[cls (bis ns ns) (reps (bis ns ns) L) x]).name= (nd ns x).name:=by
 obtain⟨m,hm⟩:=zf7 (E:=bis ns ns) (l:=L) (i:=i)
 have e:cls (bis ns ns) (reps (bis ns ns) L) x=cls (bis ns ns) (reps (bis ns ns) (L.take i)) x:=by rw[hm,zkr ho]
 obtain⟨h1,h2⟩:=zej ho
 simp only[e]
 exact⟨h1,(z67 h2).1⟩
def y6s (hi:i<L.length) (h:Mg ns L s S i P) (ho:¬∃r∈reps (bis ns ns) (L.take i),bis ns ns r L[i]) {v:V} (hv:CQ s false S 1 v (.sl ((z3x ns (reps (bis ns ns) L) L[i]).kids.map (D.int .i64)))):
  Mg ns L s S (i+1) (P++ [.d (.str (nd ns L[i]).name),v]):=by
 have e:=z3p (E:=bis ns ns) zd4 hi
 rw[if_neg ho] at e
 obtain⟨h1,h2,h3⟩:=h
 refine⟨by rw[e];simp[h1];omega,?_,?_⟩
 ·rw[e,List.map_append,List.flatMap_append]
  refine CVs.append h2 ?_
  exact⟨CQ.str,hv,trivial⟩
 ·simp only[e]
  intro c hc
  by_cases hcl:c< (reps (bis ns ns) (L.take i)).length
  ·rw[List.drop_append_of_le_length ω,List.take_append_of_le_length (by simp;omega),h3 c hcl]
   simp[hcl]
  ·have:c= (reps (bis ns ns) (L.take i)).length:=by simp at hc;omega
   subst this
   rw[←h1,List.drop_left]
   simp
end
def y8u {ns:Lk} {L:Ln} {s:Sto} {S:Nat→Prop} {i:Nat} {P R:Lv} (h:Mg ns L s S i P) {c:Nat} (hc:c< (reps (bis ns ns) (L.take i)).length):
  (c*2+1≤(P++R).length)=True∧((P++R).drop (c*2)).take 1= [.d (.str (nd ns (reps (bis ns ns) (L.take i))[c]).name)]:=by
 have h1:=h.len
 refine⟨eq_true (by simp;omega),?_⟩
 rw[List.drop_append_of_le_length ω,List.take_append_of_le_length (by simp;omega),h.nm c hc]
noncomputable def mxs (ns:List NodeT) (R:List Nat) (x k:Nat):List D:= (List.range (nd ns x).kids.length).map fun q=>D.int .i64 (if q<k then ((cls (bis ns ns) R (kid ns x q):Nat):Int) else ((kid ns x q:Nat):Int))
theorem z55 {ns:Lk}   : (mxs ns R x k).length= (nd ns x).kids.length:=by simp[mxs]
theorem y0q {ns:Lk}   : (mxs ns R x k).all D.sc=true:=by simp[mxs,D.sc]
def zxo {ns:Lk}  (hg:Gd ns)  (hx:x<ns.length):ns[x].kids.map (D.int .i64)=mxs ns R x 0:=by
 apply List.ext_getElem
 ·rw[z55,z2j hx,List.length_map]
 ·intro q h1 h2
  rw[List.length_map] at h1
  simp[mxs,(hg.at_ hx h1).1]
def y6j {ns:Lk}   (h:k< (nd ns x).kids.length): (mxs ns R x k)[k]'(by rw[z55];exact h)= .int .i64 (kid ns x k:Nat):=by simp[mxs]
def y35 {ns:Lk}   : (mxs ns R x k).set k (.int .i64 ((cls (bis ns ns) R (kid ns x k):Nat):Int))=mxs ns R x (k+1):=by
 apply List.ext_getElem
 ·simp[z55]
 ·intro q h1 h2
  rw[List.getElem_set]
  simp only[mxs,List.getElem_map,List.getElem_range]
  by_cases e:k=q
  ·subst e;simp
  ·rw[if_neg e]
   by_cases h:q<k
   ·rw[if_pos h,if_pos ω]
   ·rw[if_neg h,if_neg ω]
def y36 {ns:Lk}   :mxs ns R x (nd ns x).kids.length= (z3x ns R x).kids.map (D.int .i64):=by
 unfold z3x
 apply List.ext_getElem
 ·simp[z55,z3g]
 ·intro q h1 h2
  have hq:q< (nd ns x).kids.length:=by rw[z55] at h1;exact h1
  have hq' :q< (kds ns x).length:=by rw[z3g];exact hq
  simp[mxs,hq,kid,List.getD_eq_getElem?_getD,hq']
def zsq {ns:Lk} (hg:Gd ns) (hnm:∀i,i<ns.length→(nd ns i).name≠ [])  (hr:r<ns.length) (st:St):
  z06 G (.fn 130 [] []) [.d (.sl (ns.map NodeT.d)),.d (.sl (dis (z3e ns r))),.d (.sl (nxs (bis ns ns) (z3e ns r) (z3e ns r).length ns.length)),.d (.int .i64 ((z28 ns r).length:Nat))] st=some (.d (TreeT.d ⟨z0t ns r,0⟩),st):=by
 have hn:=hg.rt
 have hl:=hg.len
 obtain⟨hnd,hlt,hcl,hhd⟩:=z26 hn hr
 have hrl:=zhg hn hr
 have hln:z0t ns r= (z28 ns r).map (z3x ns (z28 ns r)):=rfl
 have hLr:z28 ns r=reps (bis ns ns) (z3e ns r):=rfl
 rw[hln,hLr]
 obtain⟨L,hL⟩:∃L,L=z3e ns r:=⟨_,rfl⟩
 rw[←hL] at hnd hlt hcl hhd hrl⊢
 have hml:=z7o (E:=bis ns ns) (l:=L)
 have hmk:=fun (key:Nat) (st:St)=>z8d (key:=key) (es:=2) (eb:=40) (n:= (reps (bis ns ns) L).length) (ag:=true) (zero:= [.d (.str []),.nilS]) (st:=st) ω ω rfl rfl
 refine z19 (ds:= [.sl (ns.map NodeT.d),.sl (dis L),.sl (nxs (bis ns ns) L L.length ns.length),.int .i64 ((reps (bis ns ns) L).length:Nat)]) (rs:= [TreeT.d ⟨(reps (bis ns ns) L).map (z3x ns (reps (bis ns ns) L)),0⟩]) T1.g130 rfl rfl (fun e w_len harg=> ?_) st
 have w_len:e.length=87:=w_len
 have w_0:=harg 0 ψ
 have w_1:=harg 1 ψ
 have w_2:=harg 2 ψ
 have w_3:=harg 3 ψ
 clear harg
 simp only[List.map_cons,List.map_nil,List.getD_cons_zero,List.getD_cons_succ] at w_0 w_1 w_2 w_3
 simp only[T1.i130,hmk,dis_len,w_len,w_1,w_3,↓LA,LB,simprocAttr]
 have w_x1:∀n,(List.replicate n [V.d (.str []),V.nilS]).flatten=zns n:=fun _=>rfl
 have w_x2: (reps (bis ns ns) []).length=0:=rfl
 have w_x3:∀n:Nat,n-0=n:=fun _=>rfl
 refine z0b (fun e0 s0 m env st=>∃(i nxi lwi:Nat) (si:Sto) (P:Lv),m=L.length-i∧(i≤L.length)∧(Mg ns L si (Iv 6 nxi) i P)∧sget si (0)=some (.cells [.nilS,.d (.int .i64 0)])∧sget si (4)=some (.cells [.arr 2 2 true 0 (reps (bis ns ns) L).length,.d (.int .i64 0)])∧sget si (2)=some (.cells (P++zns ((reps (bis ns ns) L).length-(reps (bis ns ns) (L.take i)).length)))∧6≤nxi∧0≤lwi∧env.length=87∧env.getD 20 .undef= .d (.int .i64 i)∧env.getD 0 .undef= .d (.sl (ns.map NodeT.d))∧env.getD 2 .undef= .d (.sl (nxs (bis ns ns) L L.length ns.length))∧env.getD 8 .undef= .ptr 0 0∧env.getD 9 .undef= .ptr 4 0∧env.getD 18 .undef= .d (.sl (dis L))∧env.getD 19 .undef= .d (.int .i64 L.length)∧st= {s:=si,next:=nxi,low:=lwi}) ?_ (L.length) (by refine⟨0,_,_,_,[],rfl,ω,y6r,?_,?_,?_,ω,Nat.zero_le _,?_,?_,?_,?_,?_,?_,?_,?_,rfl⟩<;>simp (maxDischargeDepth:=60) only[w_len,w_0,w_2,w_x1,w_x2,w_x3,LB,simprocAttr])
 rintro m env st ⟨i,nxi,lwi,si,P,hm,a_0,a_1,w_ac0,w_ac1,w_ac2,w_ab,w_alo,w_len,w_20,w_0,w_2,w_8,w_9,w_18,w_19,rfl⟩
 have w_aN:=aI (cf1 (x:=nxi) (a:=0) ω) (aI (cf1 (x:=nxi) (a:=4) ω) (cf1 (x:=nxi) (a:=2) ω))
 have w_aS:=aI (cf2 (x:=nxi) ω w_ac0) (aI (cf2 (x:=nxi) ω w_ac1) (cf2 (x:=nxi) ω w_ac2))
 have w_aZ:=zf0 (x:=nxi) (n:=6) ω
 by_cases hi:i<L.length
 ·have hxL:=List.getElem_mem hi
  have hx:=hlt L[i] hxL
  have hcm:=zpp (ns:=ns) hxL
  have hne:=hnm _ hx
  by_cases ho:∃r∈reps (bis ns ns) (L.take i),bis ns ns r L[i]
  ·obtain⟨h1,h2⟩:=zoy ho
   have hat:=y8u a_1 (R:=zns ((reps (bis ns ns) L).length-(reps (bis ns ns) (L.take i)).length)) h1
   rw[h2] at hat
   simp only[hi,z8n hi,zcc hxL hx,zka hcm,hat,hne,z07 hi ω,w_len,w_20,w_2,w_9,w_18,w_19,w_ac1,w_ac2,↓LA,LB,simprocAttr]
   have w_oe:=z3p (E:=bis ns ns) zd4 hi
   rw[if_pos ho] at w_oe
   exact z09 (by refine⟨_,ω,i+1,_,_,_,P,rfl,ω,(y6q hi a_1 ho).frame (fun _ _=>rfl) (fun q hq=>⟨hq.1,by have:=hq.2;omega⟩),?_,?_,?_,ω,Nat.zero_le _,?_,?_,?_,?_,?_,?_,?_,?_,rfl⟩<;>simp only[w_len,w_0,w_2,w_8,w_9,w_18,w_19,w_ac0,w_ac1,w_ac2,w_oe,LB,simprocAttr])
  ·have hcn:=zoz hi ho
   have hPl:=a_1.len
   rw[hcn] at hcm
   have hz:zns ((reps (bis ns ns) L).length-(reps (bis ns ns) (L.take i)).length)= .d (.str []):: .nilS::zns ((reps (bis ns ns) L).length-((reps (bis ns ns) (L.take i)).length+1)):=by
    rw[←zw5];congr 1;omega
   rw[hz] at w_ac2
   have hp0:=fun (x y:V) (R:Lv)=>at0 (P:=P) (R:=y::R) (a:=x) hPl
   have hp1:=fun (x y:V) (R:Lv)=>at1 (P:=P) (R:=R) (a:=x) (b:=y) hPl
   have hkl:=hg.kids _ hx
   have hk0:=z55 (ns:=ns) (R:=reps (bis ns ns) L) (x:=L[i]) (k:=0)
   have hke0:=zxo (R:=reps (bis ns ns) L) hg hx
   have hnd:=z2j hx
   have hkl' :ns[L[i]].kids.length≤4:=by rw[←hnd];exact hkl
   have hmk2:=fun (key:Nat) (st:St)=>zdq (key:=key) (eb:=8) (n:=ns[L[i]].kids.length) (x:= .int .i64 0) (st:=st) rfl (by rw[←hnd];omega) (by rw[←hnd];omega)
   have hcp:∀z nx' lw q,sget z q=some (.cells (scs (List.replicate ns[L[i]].kids.length (D.int .i64 0))))→z5d {s:=z,next:=nx',low:=lw} 1 (.arr q 1 false 0 ns[L[i]].kids.length) (.d (.sl (ns[L[i]].kids.map (D.int .i64))))=some (.d (.int .i64 ns[L[i]].kids.length),{s:=sset z q (.cells (scs (mxs ns (reps (bis ns ns) L) L[i] 0))),next:=nx',low:=Nat.min lw q}):=fun z nx' lw q h=>by
    have:=znd (nx:=nx') (lw:=lw) (es:=1) (ag:=false) (l:=ns[L[i]].kids.map (D.int .i64)) h (by simp[z54]) (z0c fun a=>z63)
    rw[hke0,(z83 y0q).1] at this
    rw[hke0]
    rw[z55,hnd] at this
    exact this
   simp only[hi,z8n hi,zcc hxL hx,hcn,zka hcm,hp0,hp1,z3h hx,hmk2,hcp,List.length_map,w_len,w_20,w_0,w_2,w_9,w_18,w_19,w_ac1,w_ac2,w_aN,w_aS,↓LA,LB,simprocAttr]
   refine z0b (fun e0 s0 m env st=>∃(k nxk lwk:Nat) (sk:Sto),m=ns[L[i]].kids.length-k∧(k≤ns[L[i]].kids.length)∧(Mg ns L sk (Iv 6 nxi) i P)∧sget sk (0)=some (.cells [.nilS,.d (.int .i64 0)])∧sget sk (4)=some (.cells [.arr 2 2 true 0 (reps (bis ns ns) L).length,.d (.int .i64 0)])∧sget sk (2)=some (.cells (P++ .d (.str ns[L[i]].name):: .arr (nxi+33) 1 false 0 ns[L[i]].kids.length::zns ((reps (bis ns ns) L).length-((reps (bis ns ns) (L.take i)).length+1))))∧sget sk (nxi+33)=some (.cells (scs (mxs ns (reps (bis ns ns) L) L[i] k)))∧nxi+34≤nxk∧0≤lwk∧env.length=87∧env.getD 69 .undef= .d (.int .i64 k)∧env.getD 0 .undef= .d (.sl (ns.map NodeT.d))∧env.getD 2 .undef= .d (.sl (nxs (bis ns ns) L L.length ns.length))∧env.getD 8 .undef= .ptr 0 0∧env.getD 9 .undef= .ptr 4 0∧env.getD 12 .undef= .ptr 2 ((reps (bis ns ns) (L.take i)).length*2)∧env.getD 18 .undef= .d (.sl (dis L))∧env.getD 19 .undef= .d (.int .i64 L.length)∧env.getD 20 .undef= .d (.int .i64 i)∧env.getD 67 .undef= .arr (nxi+33) 1 false 0 ns[L[i]].kids.length∧env.getD 68 .undef= .d (.int .i64 ns[L[i]].kids.length)∧st= {s:=sk,next:=nxk,low:=lwk}) ?_ (ns[L[i]].kids.length) (by refine⟨0,_,_,_,rfl,ω,a_1.frame (by intro j h;obtain⟨h1,h2⟩:=h;simp (disch:=omega) only[z00,z01]) (fun _ h=>h),?_,?_,?_,?_,ω,Nat.zero_le _,?_,?_,?_,?_,?_,?_,?_,?_,?_,?_,?_,?_,rfl⟩<;>simp only[w_len,w_20,w_0,w_2,w_8,w_9,w_18,w_19,w_ac0,w_ac1,w_aN,w_aS,LB,simprocAttr])
   rintro m env st ⟨k,nxk,lwk,sk,hm,b_0,b_1,w_bc0,w_bc1,w_bc2,w_bc3,w_bb,w_blo,w_len,w_69,w_0,w_2,w_8,w_9,w_12,w_18,w_19,w_20,w_67,w_68,rfl⟩
   have w_bN:=aI (cf1 (x:=nxk) (a:=0) ω) (aI (cf1 (x:=nxk) (a:=4) ω) (aI (cf1 (x:=nxk) (a:=2) ω) (cf1 (x:=nxk) (a:=nxi+33) ω)))
   have w_bS:=aI (cf2 (x:=nxk) ω w_bc0) (aI (cf2 (x:=nxk) ω w_bc1) (aI (cf2 (x:=nxk) ω w_bc2) (cf2 (x:=nxk) ω w_bc3)))
   have w_bZ:=aI (zf (x:=nxk) (b:=nxi) (n:=34) ω ω) (zf0 (x:=nxk) (n:=6) ω)
   by_cases hk:k<ns[L[i]].kids.length
   ·obtain⟨hke,hkn⟩:=hg.at_ hx hk
    have hk' :k< (nd ns L[i]).kids.length:=by rw[hnd];exact hk
    have hkL:kid ns L[i] k∈L:=hcl _ hxL _ (z3w hk')
    have hat:=z9r (ds:=mxs ns (reps (bis ns ns) L) L[i] k) (i:=k) (by rw[z55];exact hk')
    have hat2:=y6j (R:=reps (bis ns ns) L) (k:=k) hk'
    have hst:=z6b (ds:=mxs ns (reps (bis ns ns) L) L[i] k) (i:=k) (x:= .int .i64 ((cls (bis ns ns) (reps (bis ns ns) L) (kid ns L[i] k):Nat):Int)) (by rw[z55];exact hk')
    simp only[hk,z2f hk,hat,hat2,zcc hkL hkn,hp1,hst,y35,z07 hk ω,w_len,w_69,w_2,w_12,w_67,w_68,w_bc2,w_bc3,↓LA,LB,simprocAttr]
    exact z09 (by refine⟨_,ω,k+1,_,_,_,rfl,ω,b_1.frame (by intro j h;obtain⟨h1,h2⟩:=h;simp (disch:=omega) only[z01]) (fun _ h=>h),?_,?_,?_,?_,ω,Nat.zero_le _,?_,?_,?_,?_,?_,?_,?_,?_,?_,?_,?_,?_,rfl⟩<;>simp only[w_len,w_0,w_2,w_8,w_9,w_12,w_18,w_19,w_20,w_67,w_68,w_bc0,w_bc1,w_bc2,w_bS,w_aN,LB,simprocAttr])
   have hke:k=ns[L[i]].kids.length:=ω
   subst hke
   have w_oe:=z3p (E:=bis ns ns) zd4 hi
   rw[if_neg ho] at w_oe
   have w_ol: (reps (bis ns ns) (L.take (i+1))).length= (reps (bis ns ns) (L.take i)).length+1:=by rw[w_oe];simp
   have w_pa:∀(x y:V) (R:Lv),P++ [x,y]++R=P++x::y::R:=fun x y R=>by simp
   simp only[hk,z07 hi ω,w_len,w_69,w_20,w_68,↓LA,LB,simprocAttr]
   have hme:=y36 (ns:=ns) (R:=reps (bis ns ns) L) (x:=L[i])
   rw[hnd] at hme
   have hcq:CQ sk false (fun q=>6≤q∧q<nxk) 1 (.arr (nxi+33) 1 false 0 ns[L[i]].kids.length) (.sl ((z3x ns (reps (bis ns ns) L) L[i]).kids.map (D.int .i64))):=by
    have:=y0a (S:=fun q=>6≤q∧q<nxk) ⟨ω,ω⟩ w_bc3 y0q
    rw[z55,hnd] at this
    rw[←hme]
    exact this
   have hmg:=y6s hi (b_1.frame (fun _ _=>rfl) (fun q hq=>⟨hq.1,by have:=hq.2;omega⟩)) ho hcq
   rw[hnd] at hmg
   exact z09 (by refine⟨_,ω,i+1,_,_,_,P++ [.d (.str ns[L[i]].name),.arr (nxi+33) 1 false 0 ns[L[i]].kids.length],rfl,ω,hmg.frame (fun _ _=>rfl) (fun q hq=>⟨hq.1,by have:=hq.2;omega⟩),?_,?_,?_,ω,Nat.zero_le _,?_,?_,?_,?_,?_,?_,?_,?_,rfl⟩<;>simp only[w_len,w_0,w_2,w_8,w_9,w_18,w_19,w_bc0,w_bc1,w_bc2,w_ol,w_pa,LB,simprocAttr])
 ·have hie:i=L.length:=ω
  subst hie
  obtain⟨h1,h2,_⟩:=a_1
  rw[List.take_length] at h1 h2 w_ac2
  rw[Nat.sub_self,show zns 0= [] from rfl,List.append_nil] at w_ac2
  simp only[hi,w_len,w_20,w_8,w_9,w_19,w_ac0,w_ac1,w_aS,↓LA,LB,simprocAttr]
  refine rql1 (x:=TreeT.d ⟨(reps (bis ns ns) L).map (z3x ns (reps (bis ns ns) L)),0⟩) (zez (lv:=false) (S:=fun _=>True) (n:=2) (m:=11) (fun _ _=>Nat.zero_le _) (by decide) ⟨?_,CQ.int,trivial⟩) rfl
  refine znc _ trivial (by rw[z01 ω];exact w_ac2) ω (z0c fun a=>z62) ψ ?_
  rw[List.map_map]
  exact h2.imp fun v d hv=> (hv.frame (fun j hj=>by obtain⟨h3,_⟩:=hj;exact z01 ω)).mono fun _ _=>trivial
theorem ru2 {st:St} {next:Nat} {x y:V} {x' y' :V} (hl:next≤st.low) (h:z7a st.s next [x,y]=some [x',y']):RU (some [x,y]) st next [x',y']:=⟨_,rfl,hl,h⟩
structure Ok (t:TreeT):Prop where
 gd:Gd t.nodes
 rl:0≤t.root
 rh:t.root<t.nodes.length
 nm:∀x∈t.nodes,z0z x.name=true
def z6w  :z0f t=0↔(1≤t.nodes.length∧t.nodes.length≤60)∧(∀x∈t.nodes,x.kids.length≤4)∧(∀x∈t.nodes,z0z x.name=true)∧(0≤t.root∧t.root<t.nodes.length)∧∀x∈t.nodes,∀k∈x.kids,0≤k∧k<t.nodes.length:=by
 unfold z0f
 by_cases h1: ((t.nodes.length:Int)<1∨(60:Int)<t.nodes.length)∨t.nodes.all (fun x=>decide (x.kids.length≤4))=false
 ·rw[if_pos h1]
  refine⟨fun h=> (by cases h),fun⟨h2,h3,_⟩=> ?_⟩
  rcases h1 with h1|h1
  ·omega
  ·rw[List.all_eq_true.2 (fun x hx=>by simpa using h3 x hx)] at h1;cases h1
 rw[if_neg h1]
 by_cases h2:t.nodes.all (fun x=>z0z x.name)=false
 ·rw[if_pos h2]
  refine⟨fun h=> (by cases h),fun⟨_,_,h3,_⟩=> ?_⟩
  rw[List.all_eq_true.2 h3] at h2;cases h2
 rw[if_neg h2]
 have k1:t.nodes.all (fun x=>decide (x.kids.length≤4))=true:=by
  cases h:t.nodes.all (fun x=>decide (x.kids.length≤4)) with
  |true=>rfl
  |false=>exact absurd (.inr h) h1
 have k2:t.nodes.all (fun x=>z0z x.name)=true:=by
  cases h:t.nodes.all (fun x=>z0z x.name) with
  |true=>rfl
  |false=>exact absurd h h2
 rw[List.all_eq_true] at k1 k2
 have e:∀k:Int,inR t.nodes.length k=true↔0≤k∧k<t.nodes.length:=fun k=>by simp[inR]
 by_cases h3:inR t.nodes.length t.root=false∨t.nodes.all (fun x=>x.kids.all (inR t.nodes.length))=false
 ·rw[if_pos h3]
  refine⟨fun h=> (by cases h),fun⟨_,_,_,h4,h5⟩=> ?_⟩
  rcases h3 with h3|h3
  ·rw[(e _).2 h4] at h3;cases h3
  ·rw[List.all_eq_true.2 (fun x hx=>List.all_eq_true.2 fun k hk=> (e k).2 (h5 x hx k hk))] at h3;cases h3
 rw[if_neg h3]
 refine⟨fun _=>⟨ω,fun x hx=>by simpa using k1 x hx,k2,(e _).1 ?_,fun x hx k hk=> (e k).1 ?_⟩,fun _=>rfl⟩
 ·cases h:inR t.nodes.length t.root with
  |true=>rfl
  |false=>exact absurd (.inl h) h3
 ·cases h:t.nodes.all (fun x=>x.kids.all (inR t.nodes.length)) with
  |true=>exact List.all_eq_true.1 (List.all_eq_true.1 h x hx) k hk
  |false=>exact absurd (.inr h) h3
def zm3 {ns:Lk} {i:Nat} (h:i<ns.length):nd ns i∈ns:=by rw[z2j h];exact List.getElem_mem h
def z7l  (h:z0f t=0):Ok t:=by
 obtain⟨h1,h2,h3,h4,h5⟩:=z6w.1 h
 exact⟨⟨h1.2,fun i hi=>h2 _ (zm3 hi),fun i hi=>h5 _ (zm3 hi)⟩,h4.1,h4.2,h3⟩
def Ok.spec  (h:Ok t):z0f t=0:=by
 have h1:=h.rl
 have h2:=h.rh
 have hm:∀x∈t.nodes,∃i,i<t.nodes.length∧nd t.nodes i=x:=fun x hx=>by
  obtain⟨i,hi,rfl⟩:=List.mem_iff_getElem.1 hx
  exact⟨i,hi,z2j hi⟩
 refine z6w.2 ⟨⟨ω,h.gd.len⟩,fun x hx=> ?_,h.nm,⟨h1,h2⟩,fun x hx=> ?_⟩
 ·obtain⟨i,hi,rfl⟩:=hm x hx;exact h.gd.kids i hi
 ·obtain⟨i,hi,rfl⟩:=hm x hx;exact h.gd.low i hi
def zys {l:Lt} {p:TreeT→Bool} {fv:V} {s:Sto} {nx lw:Nat} (hl:LOk l) (h:TellsT G fv s nx TreeT.d (· ∈l) p):
  z06 G (.fn 100 [] []) [.d (.sl (l.map TreeT.d)),fv] {s:=s,next:=nx,low:=lw} =
   some (match l.find? p with|none=> .tup [mkAgg [.nilS,.d (.int .i64 0)],.d (.bool false)]|some t=> .tup [.d t.d,.d (.bool true)],{s:=s,next:=nx,low:=lw}):=by
 unfold LOk at hl
 have hI:∀nx' lw' (q:Sto),Sub nx s q→nx≤nx' →z06 G (.fn 132 [] []) [.d (.sl (l.map TreeT.d)),fv] {s:=q,next:=nx',low:=lw' } =some (.d (.int .i64 (idxL p l)),{s:=q,next:=nx',low:=lw' }):=fun nx' lw' q h1 h2=>
  ztr (es:=2) (ag:=true) T1.g132 hl (fun a _=>z1t) (h.sub h1 h2)
 have hne:∀a b:Nat,a<b→(b=a)=False:=fun a b h=>by simp;omega
 rcases z8m (p:=p) (l:=l) with⟨e1,e2⟩|⟨i,hi,e1,e2⟩
 ·rw[e2]
  have hlt: (-1:Int)<0:=ω
  refine z5b (first:= []) (args:= [.d (.sl (l.map TreeT.d)),fv]) (cap:= []) (us:= [mkAgg [.nilS,.d (.int .i64 0)],.d (.bool false)]) T1.g100 rfl rfl rfl (fun e w_len harg=> ?_)
  have w_len:e.length=18:=w_len
  have w_0:e.getD 0 .undef= .d (.sl (l.map TreeT.d)):=harg 0 ψ
  have w_1:e.getD 1 .undef=fv:=harg 1 ψ
  clear harg
  have hI' :=fun nx' lw' q h1 h2=>hI nx' lw' q h1 h2
  rw[e1] at hI'
  simp only[T1.i100,w_len,w_0,w_1,↓LA,LB,simprocAttr]
  rw[hI' _ _ _ (by exact (Sub.cons (n:=nx) ω).trans (Sub.cons ω) (Nat.le_refl _)) ω]
  simp only[hlt,w_len,↓LA,LB,simprocAttr]
  exact ru2 (by first|exact Nat.le_refl _|exact z02 (Nat.le_refl _) ω|exact z02 (z02 (Nat.le_refl _) ω) ω) rfl
 ·rw[e2]
  have hlt:¬(i:Int)<0:=ω
  refine z5b (first:= []) (args:= [.d (.sl (l.map TreeT.d)),fv]) (cap:= []) (us:= [.d l[i].d,.d (.bool true)]) T1.g100 rfl rfl rfl (fun e w_len harg=> ?_)
  have w_len:e.length=18:=w_len
  have w_0:e.getD 0 .undef= .d (.sl (l.map TreeT.d)):=harg 0 ψ
  have w_1:e.getD 1 .undef=fv:=harg 1 ψ
  clear harg
  have hI' :=fun nx' lw' q h1 h2=>hI nx' lw' q h1 h2
  rw[e1] at hI'
  simp only[T1.i100,w_len,w_0,w_1,↓LA,LB,simprocAttr]
  rw[hI' _ _ _ (by exact (Sub.cons (n:=nx) ω).trans (Sub.cons ω) (Nat.le_refl _)) ω]
  simp only[hlt,z5j hi,w_len,w_0,↓LA,LB,simprocAttr]
  exact ru2 (by first|exact Nat.le_refl _|exact z02 (Nat.le_refl _) ω|exact z02 (z02 (Nat.le_refl _) ω) ω) rfl
def y4o  (ht:t.ok) (st:St):z06 G (.fn 101 [] []) [.d t.d] st=some (.d (.bool (decide (z0f t≠0))),st):=by
 have hT:=fun st=>zfd ht st
 simp only[TreeT.d] at hT
 refine z19 (ds:= [t.d]) (rs:= [.bool (decide (z0f t≠0))]) T1.g101 rfl rfl (fun e w_len harg=> ?_) st
 have w_len:e.length=6:=w_len
 have w_0:=harg 0 ψ
 clear harg
 simp only[List.map_cons,List.map_nil,List.getD_cons_zero] at w_0
 simp only[T1.i101,TreeT.d,hT,w_len,w_0,↓LA,LB,simprocAttr]
 exact rq1 ψ
def zek {l:Lt} (hl:LOk l) (ht:∀t∈l,t.ok) (st:St):z06 G (.fn 77 [] []) [.d (.sl (l.map TreeT.d))] st=some (.d (.int .i64 (z0r z0f l)),st):=by
 have hF:=fun s nx lw=>zys (l:=l) (p:=fun t=>decide (z0f t≠0)) (fv:= .fn 101 [] []) (s:=s) (nx:=nx) (lw:=lw) hl (z4e fun a ha st=>y4o (ht a ha) st)
 have hx0:∀a b:V,[a,b][0]?=some a:=fun _ _=>rfl
 have hx1:∀a b:V,[a,b][1]?=some b:=fun _ _=>rfl
 refine z19 (ds:= [.sl (l.map TreeT.d)]) (rs:= [.int .i64 (z0r z0f l)]) T1.g77 rfl rfl (fun e w_len harg=> ?_) st
 have w_len:e.length=14:=w_len
 have w_0:=harg 0 ψ
 clear harg
 simp only[List.map_cons,List.map_nil,List.getD_cons_zero] at w_0
 cases h:l.find? (fun t=>decide (z0f t≠0)) with
 |none=>
  rw[h] at hF
  simp only[T1.i77,hF,hx0,hx1,w_len,w_0,↓LA,LB,simprocAttr]
  exact rq1 (by unfold z0r;rw[h])
 |some t=>
  rw[h] at hF
  have hT:=fun st=>zfd (ht t (List.mem_of_find?_eq_some h)) st
  simp only[TreeT.d] at hT hF
  simp only[T1.i77,hF,hT,hx0,hx1,w_len,w_0,↓LA,LB,simprocAttr]
  exact rq1 (by unfold z0r;rw[h])
def zdm {s:Sto}  {l:Lt} (h:sget s k=some (.cells (((l.map TreeT.d).flatMap cellsD).map V.d))):snap s 0 z0e (.arr k 2 true 0 l.length)=some (.sl (l.map TreeT.d)):=
 CQ.snap (b:=0) (S:=fun _=>True) (fun _ _=>Nat.zero_le _) (n:=1) (m:=12) (by decide) (znc (l.map TreeT.d) trivial h ω (z0c fun a=>z1t) ψ (z95 (z15 (z0c fun a=>z1t)).1))
def zme  (ht:t.ok) (hs:z0f t=0) (st:St):z06 G (.fn 97 [] []) [.d t.d] st=some (.tup [.d (z1o t).d,.d (.int .i64 0)],st):=by
 have hk:=z7l hs
 have hrl:=hk.rl
 have hrh:=hk.rh
 obtain⟨r,hr⟩:∃r:Nat,t.root=r:=⟨t.root.toNat,ω⟩
 have hrn:r<t.nodes.length:=ω
 have hlr:z1o t=⟨z0t t.nodes r,0⟩:=by unfold z1o;rw[hr];rfl
 have hnm:∀i,i<t.nodes.length→z0z (nd t.nodes i).name=true:=fun i hi=>hk.nm _ (zm3 hi)
 have hC:∀s nx lw k,sget s k=some (.cells [.d (.sl (t.nodes.map NodeT.d)),.d (.int .i64 r)])→z06 G (.fn 77 [] []) [.arr k 2 true 0 1] {s:=s,next:=nx,low:=lw} =some (.d (.int .i64 0),{s:=s,next:=nx,low:=lw}):=fun s nx lw k h=>by
  have:=zek (l:= [t]) (by simp[LOk]) (fun x hx=>by rw[List.mem_singleton] at hx;subst hx;exact ht) {s:= [],next:=0,low:=0}
  rw[z17 (fun x hx=>by rw[List.mem_singleton] at hx;subst hx;exact hs)] at this
  exact z5h (ds:= [.sl ([t].map TreeT.d)]) (rs:= [.int .i64 0]) T1.g77 rfl rfl (by have:=zdm (l:= [t]) (s:=s) (k:=k) (by rw[h,←hr];rfl);simp only[List.length_cons,List.length_nil,Nat.zero_add] at this;simp[z0p,this]) rfl this
 have hB:∀s nx lw k,sget s k=some (.cells [.d (.int .i64 r)])→z06 G (.fn 128 [] []) [.d (.sl (t.nodes.map NodeT.d)),.arr k 1 false 0 1] {s:=s,next:=nx,low:=lw} =some (.d (.sl (dis (z3e t.nodes r))),{s:=sset s k (.fz (dis [r])),next:=nx,low:=Nat.min lw k}):=fun s nx lw k h=>by
  exact zp4 (xs:= [.sl (t.nodes.map NodeT.d)]) (ys:= []) (l:=dis [r]) (rs:= [.sl (dis (z3e t.nodes r))]) T1.g128 rfl rfl ω (fun x hx=>y0b (List.all_eq_true.1 zuv x hx)) (by rw[h];rfl) (by obtain⟨_,_,_,m,hm⟩:=z26 hk.gd.rt hrn;rw[hm];rfl) (zpt hk.gd hrn _)
 have hK:=fun st=>zpq hk.gd (fun i hi=>z8b (hnm i hi)) hrn st
 have hM:=fun st=>zsq hk.gd (fun i hi e=>by have:=hnm i hi;rw[e] at this;cases this) hrn st
 have hx0:∀a b:V,[a,b][0]?=some a:=fun _ _=>rfl
 have hx1:∀a b:V,[a,b][1]?=some b:=fun _ _=>rfl
 simp only[TreeT.d] at hM
 rw[hlr]
 refine z19 (ds:= [t.d]) (rs:= [TreeT.d ⟨z0t t.nodes r,0⟩,.int .i64 0]) T1.g97 rfl rfl (fun e w_len harg=> ?_) st
 have w_len:e.length=34:=w_len
 have w_0:=harg 0 ψ
 clear harg
 simp only[List.map_cons,List.map_nil,List.getD_cons_zero] at w_0
 simp only[T1.i97,TreeT.d,hr,hC,hB,hK,hM,hx0,hx1,w_len,w_0,↓LA,LB,simprocAttr]
 exact rq2 rfl
def kidS (k:Int):List Nat:=44::itoS k.toNat
def z7b (x:NodeT):List Nat:=x.name++x.kids.flatMap kidS++ [59]
def z4d (t:TreeT):List Nat:=t.nodes.flatMap z7b
def zay {x y:Ln} (h:x.length+y.length≤4611686018427387904):binV .add (.d (.str x)) (.d (.str y))=some (.d (.str (x++y))):=by
 simp[binV,binS,h]
def zmm  : (itoS n).length≤2:=by
 unfold itoS
 split<;>simp
def zc6 {l:Li} : (l.flatMap kidS).length≤3*l.length:=by
 induction l with
 |nil=>simp
 |cons a l ih=>
  have:=zmm (n:=a.toNat)
  simp only[List.flatMap_cons,List.length_append,kidS,List.length_cons]
  omega
def ze3 {l:Lk} (h:∀x∈l,x.name.length≤8∧x.kids.length≤4): (l.flatMap z7b).length≤21*l.length:=by
 induction l with
 |nil=>simp
 |cons a l ih=>
  have h1:=h a ψ
  have h2:=ih fun x hx=>h x (List.mem_cons_of_mem _ hx)
  have h3:=zc6 (l:=a.kids)
  simp only[List.flatMap_cons,List.length_append,z7b,List.length_cons,List.length_nil]
  omega
def zu9 {α β:Type} {l:List α} {f:α→List β} {i:Nat} (h:i<l.length): (l.take (i+1)).flatMap f= (l.take i).flatMap f++f l[i]:=by
 rw[z2m h,List.flatMap_append]
 simp
def y23  (ht:t.ok) (h:Ok t) (st:St):z06 T1.G (.fn 96 [] []) [.d t.d] st=some (.d (.str (z4d t)),st):=by
 obtain⟨c1,c2,c3,c4,c5⟩:=z6w.1 h.spec
 have hsm:∀x∈t.nodes,x.name.length≤8∧x.kids.length≤4:=fun x hx=>⟨z8b (c3 x hx),c2 x hx⟩
 refine z19 (ds:= [t.d]) (rs:= [.str (z4d t)]) T1.g96 rfl rfl (fun e w_len harg=> ?_) st
 have w_len:e.length=36:=w_len
 have w_0:=harg 0 ψ
 clear harg
 simp only[List.map_cons,List.map_nil,List.getD_cons_zero] at w_0
 have w_e0:List.flatMap z7b []= []:=rfl
 have w_e1:List.flatMap kidS []= []:=rfl
 simp only[T1.i96,TreeT.d,w_len,w_0,↓LA,LB,simprocAttr]
 refine z0b (fun e0 s0 m env st=>∃(i nxi lwi:Nat) (si:Sto),m=t.nodes.length-i∧(i≤t.nodes.length)∧sget si (0)=some (.cells [.d (.sl (t.nodes.map NodeT.d)),.d (.int .i64 t.root)])∧1≤nxi∧0≤lwi∧env.length=36∧env.getD 11 .undef= .d (.int .i64 i)∧env.getD 1 .undef= .ptr 0 0∧env.getD 3 .undef= .d (.str ((t.nodes.take i).flatMap z7b))∧env.getD 9 .undef= .d (.sl (t.nodes.map NodeT.d))∧env.getD 10 .undef= .d (.int .i64 t.nodes.length)∧st= {s:=si,next:=nxi,low:=lwi}) ?_ (t.nodes.length) (by refine⟨0,_,_,_,rfl,ω,?_,ω,Nat.zero_le _,?_,?_,?_,?_,?_,?_,rfl⟩<;>simp (maxDischargeDepth:=60) only[w_len,w_e0,LB,simprocAttr])
 rintro m env st ⟨i,nxi,lwi,si,hm,a_0,w_ac0,w_ab,w_alo,w_len,w_11,w_1,w_3,w_9,w_10,rfl⟩
 have w_aN:=cf1 (x:=nxi) (a:=0) ω
 have w_aS:=cf2 (x:=nxi) ω w_ac0
 have w_aZ:=zf0 (x:=nxi) (n:=1) ω
 have hAl:=ze3 (l:=t.nodes.take i) (fun x hx=>hsm x (List.mem_of_mem_take hx))
 rw[List.length_take] at hAl
 by_cases hi:i<t.nodes.length
 ·obtain⟨n1,n2⟩:=hsm _ (List.getElem_mem hi)
  have hkb:=c5 _ (List.getElem_mem hi)
  obtain⟨A,hA⟩:∃A,A= (t.nodes.take i).flatMap z7b:=⟨_,rfl⟩
  rw[←hA] at hAl w_3
  have s1:=zay (x:=A) (y:=t.nodes[i].name) ω
  simp only[hi,z3h hi,s1,List.length_map,w_len,w_11,w_3,w_9,w_10,↓LA,LB,simprocAttr]
  refine z0b (fun e0 s0 m env st=>∃(j nxj lwj:Nat) (sj:Sto),m=t.nodes[i].kids.length-j∧(j≤t.nodes[i].kids.length)∧sget sj (0)=some (.cells [.d (.sl (t.nodes.map NodeT.d)),.d (.int .i64 t.root)])∧1≤nxj∧0≤lwj∧env.length=36∧env.getD 22 .undef= .d (.int .i64 j)∧env.getD 1 .undef= .ptr 0 0∧env.getD 3 .undef= .d (.str (A++t.nodes[i].name++ (t.nodes[i].kids.take j).flatMap kidS))∧env.getD 9 .undef= .d (.sl (t.nodes.map NodeT.d))∧env.getD 10 .undef= .d (.int .i64 t.nodes.length)∧env.getD 11 .undef= .d (.int .i64 i)∧env.getD 20 .undef= .d (.sl (t.nodes[i].kids.map (D.int .i64)))∧env.getD 21 .undef= .d (.int .i64 t.nodes[i].kids.length)∧st= {s:=sj,next:=nxj,low:=lwj}) ?_ (t.nodes[i].kids.length) (by refine⟨0,_,_,_,rfl,ω,?_,ω,Nat.zero_le _,?_,?_,?_,?_,?_,?_,?_,?_,?_,rfl⟩<;>simp only[w_len,w_11,w_1,w_9,w_10,w_ac0,w_aN,w_e1,LB,simprocAttr])
  rintro m env st ⟨j,nxj,lwj,sj,hm,b_0,w_bc0,w_bb,w_blo,w_len,w_22,w_1,w_3,w_9,w_10,w_11,w_20,w_21,rfl⟩
  have w_bN:=cf1 (x:=nxj) (a:=0) ω
  have w_bS:=cf2 (x:=nxj) ω w_bc0
  have w_bZ:=zf0 (x:=nxj) (n:=1) ω
  by_cases hj:j<t.nodes[i].kids.length
  ·obtain⟨q1,q2⟩:=hkb _ (List.getElem_mem hj)
   obtain⟨q,hq⟩:∃q:Nat,t.nodes[i].kids[j]= (q:Nat):=⟨t.nodes[i].kids[j].toNat,ω⟩
   have hIt:=fun st=>y3x (n:=q) ω st
   have hil:=zmm (n:=q)
   have s2:=zay (x:= [44]) (y:=itoS q) (by simp;omega)
   have hkl:=zc6 (l:=t.nodes[i].kids.take j)
   rw[List.length_take] at hkl
   have s3:=zay (x:=A++t.nodes[i].name++ (t.nodes[i].kids.take j).flatMap kidS) (y:= [44]++itoS q) (by simp only[List.length_append,List.length_cons,List.length_nil];omega)
   have s4:A++t.nodes[i].name++ (t.nodes[i].kids.take j).flatMap kidS++ ([44]++itoS q)=A++t.nodes[i].name++ (t.nodes[i].kids.take (j+1)).flatMap kidS:=by
    rw[zu9 hj,hq,List.append_assoc]
    rfl
   have hia:=z3s (k:= .i64) hj
   rw[hq] at hia
   rw[s4] at s3
   simp only[List.cons_append,List.nil_append] at s2 s3
   simp only[hj,hia,hIt,s2,s3,z07 hj ω,w_len,w_22,w_3,w_20,w_21,↓LA,LB,simprocAttr]
   exact z09 (by refine⟨_,ω,j+1,_,_,_,rfl,ω,?_,ω,Nat.zero_le _,?_,?_,?_,?_,?_,?_,?_,?_,?_,rfl⟩<;>simp only[w_len,w_1,w_9,w_10,w_11,w_20,w_21,w_bc0,LB,simprocAttr])
  ·have hje:j=t.nodes[i].kids.length:=ω
   have hkl:=zc6 (l:=t.nodes[i].kids)
   subst hje
   rw[List.take_length] at w_3
   have s5:=zay (x:=A++t.nodes[i].name++t.nodes[i].kids.flatMap kidS) (y:= [59]) (by simp only[List.length_append,List.length_cons,List.length_nil];omega)
   have s6:A++t.nodes[i].name++t.nodes[i].kids.flatMap kidS++ [59]= (t.nodes.take (i+1)).flatMap z7b:=by
    rw[zu9 hi,←hA,z7b]
    simp
   rw[s6] at s5
   simp only[hj,s5,z07 hi ω,w_len,w_22,w_3,w_11,w_21,↓LA,LB,simprocAttr]
   exact z09 (by refine⟨_,ω,i+1,_,_,_,rfl,ω,?_,ω,Nat.zero_le _,?_,?_,?_,?_,?_,?_,rfl⟩<;>simp only[w_len,w_1,w_9,w_10,w_bc0,LB,simprocAttr])
 ·have hie:t.nodes.take i=t.nodes:=List.take_of_length_le ω
  simp only[hi,hie,w_len,w_11,w_3,w_10,↓LA,LB,simprocAttr]
  exact rq1 (by rfl)
theorem zex {P:Nat→Bool} :∀{x y a b:List Nat},x.all P=true→y.all P=true→(∀c r,a=c::r→P c=false)→(∀c r,b=c::r→P c=false)→x++a=y++b→x=y∧a=b
 | [],[],a,b,_,_,_,_,h=>⟨rfl,h⟩
 | [],c::y,a,b,_,hy,ha,_,h=>by
  have h:a=c:: (y++b):=h
  have h1:=ha _ _ h
  simp only[List.all_cons,Bool.and_eq_true] at hy
  rw[hy.1] at h1
  cases h1
 |c::x,[],a,b,hx,_,_,hb,h=>by
  have h:c:: (x++a)=b:=h
  have h1:=hb _ _ h.symm
  simp only[List.all_cons,Bool.and_eq_true] at hx
  rw[hx.1] at h1
  cases h1
 |c::x,d::y,a,b,hx,hy,ha,hb,h=>by
  simp only[List.all_cons,Bool.and_eq_true] at hx hy
  simp only[List.cons_append,List.cons.injEq] at h
  obtain⟨h1,h2⟩:=zex hx.2 hy.2 ha hb h.2
  exact⟨by rw[h.1,h1],h2⟩
def isDg (c:Nat):Bool:=decide (48≤c)&&decide (c≤57)
def ztl  (h:n<100): (itoS n).all isDg=true:=by
 unfold itoS
 split
 ·simp[isDg];omega
 ·simp[isDg];omega
def zhx {l:Li} {a:Ln} {c:Nat} {r:Ln} (h:l.flatMap kidS++59::a=c::r):c=44∨c=59:=by
 cases l with
 |nil=>
  simp only[List.flatMap_nil,List.nil_append,List.cons.injEq] at h
  exact .inr h.1.symm
 |cons k l=>
  simp only[List.flatMap_cons,kidS,List.cons_append,List.cons.injEq] at h
  exact .inl h.1.symm
theorem zmi:∀{l m:List Int} {a b:List Nat},(∀k∈l,0≤k∧k<100)→(∀k∈m,0≤k∧k<100)→l.flatMap kidS++59::a=m.flatMap kidS++59::b→l=m∧a=b
 | [],[],a,b,_,_,h=>by
  simp only[List.flatMap_nil,List.nil_append,List.cons.injEq,true_and] at h
  exact⟨rfl,h⟩
 | [],k::m,a,b,_,_,h=>by simp[kidS] at h
 |k::l,[],a,b,_,_,h=>by simp[kidS] at h
 |k::l,q::m,a,b,hl,hm,h=>by
  obtain⟨k1,k2⟩:=hl k ψ
  obtain⟨q1,q2⟩:=hm q ψ
  simp only[List.flatMap_cons,kidS,List.cons_append,List.append_assoc,List.cons.injEq,true_and] at h
  have hd:∀{w:List Int} {e:List Nat},∀c r,w.flatMap kidS++59::e=c::r→isDg c=false:=fun c r e=>by
   rcases zhx e with rfl|rfl<;>decide
  obtain⟨h1,h2⟩:=zex (P:=isDg) (ztl ω) (ztl ω) hd hd h
  obtain⟨h3,h4⟩:=zmi (fun x hx=>hl x (List.mem_cons_of_mem _ hx)) (fun x hx=>hm x (List.mem_cons_of_mem _ hx)) h2
  have h5:=zyg ω ω h1
  exact⟨by rw[h3,show k=q by omega],h4⟩
def Nd (x:NodeT):Prop:=z0z x.name=true∧∀k∈x.kids,0≤k∧k<100
def zxk {x y:NodeT} {a b:Ln} (hx:Nd x) (hy:Nd y) (h:z7b x++a=z7b y++b):x=y∧a=b:=by
 have hn:∀{z:NodeT},Nd z→z.name.all isAz=true:=fun h=>by
  have:=h.1
  unfold z0z at this
  simp only[Bool.and_eq_true] at this
  exact this.2
 simp only[z7b,List.append_assoc,List.cons_append,List.nil_append] at h
 have hd:∀{w:Li} {e:Ln},∀c r,w.flatMap kidS++59::e=c::r→isAz c=false:=fun c r e=>by
  rcases zhx e with rfl|rfl<;>decide
 obtain⟨h1,h2⟩:=zex (P:=isAz) (hn hx) (hn hy) hd hd h
 obtain⟨h3,h4⟩:=zmi hx.2 hy.2 h2
 cases x;cases y
 simp at h1 h3
 exact⟨by rw[h1,h3],h4⟩
theorem zhp:∀{l m:List NodeT},(∀x∈l,Nd x)→(∀x∈m,Nd x)→l.flatMap z7b=m.flatMap z7b→l=m
 | [],[],_,_,_=>rfl
 | [],y::m,_,_,h=>by simp[z7b] at h
 |x::l,[],_,_,h=>by simp[z7b] at h
 |x::l,y::m,hl,hm,h=>by
  simp only[List.flatMap_cons] at h
  obtain⟨h1,h2⟩:=zxk (hl x ψ) (hm y ψ) h
  rw[h1,zhp (fun z hz=>hl z (List.mem_cons_of_mem _ hz)) (fun z hz=>hm z (List.mem_cons_of_mem _ hz)) h2]
def zwo {u:TreeT} (ht:Ok t) (hu:Ok u) (h0:t.root=u.root) (h:z4d t=z4d u):t=u:=by
 have hnd:∀{w:TreeT},Ok w→∀x∈w.nodes,Nd x:=fun {w} hw x hx=>by
  obtain⟨c1,c2,c3,c4,c5⟩:=z6w.1 hw.spec
  exact⟨c3 x hx,fun k hk=>by have:=c5 x hx k hk;omega⟩
 have:=zhp (hnd ht) (hnd hu) h
 cases t;cases u
 simp at this h0
 rw[this,h0]
def difS (x y:NodeT):Bool:= !decide (x.name=y.name)|| !decide (x.kids.length=y.kids.length)
def prD (p:Nat×Nat):D:= .agg [.int .i64 (p.1:Nat),.int .i64 (p.2:Nat)]
theorem y1i  :Elt 2 true (prD p):= .inl ⟨rfl,_,rfl,rfl,rfl⟩
theorem zyl  {i:Nat} (h:i<o.length):z08 2 (.d (.sl (o.map prD))) (i:Int)=some (.dptr [.int .i64 (o[i].1:Nat),.int .i64 (o[i].2:Nat)]):=z1p (enc:=prD) h rfl
theorem iaP0 {o:Nat} :z1i 2 1 (.ptr k o) 0=some (.ptr k o):=rfl
theorem iaP1 {o:Nat} :z1i 2 1 (.ptr k o) 1=some (.ptr k (o+1)):=rfl
structure Wi (A B:List NodeT) (x y:Nat) (o:List (Nat×Nat)):Prop where
 nd:o.Nodup
 lt:∀p∈o,p.1<A.length∧p.2<B.length
 hd: (x,y)∈o
 al:bis A B x y→∀p∈o,bis A B p.1 p.2
def Wd (A B:List NodeT) (o:List (Nat×Nat)) (p:Nat×Nat):Prop:=difS (nd A p.1) (nd B p.2)=false∧∀k,k< (nd A p.1).kids.length→(kid A p.1 k,kid B p.2 k)∈o
def zct {a b:NodeT} :difS a b=false↔a.name=b.name∧a.kids.length=b.kids.length:=by simp[difS]
def Wi.len    (h:Wi A B x y o):o.length≤A.length*B.length:=by
 have: (o.map fun p=>p.1*B.length+p.2).length≤A.length*B.length:=by
  refine z4u ?_ fun q hq=> ?_
  ·refine List.pairwise_map.2 (List.Pairwise.imp_of_mem (fun {p q} hp hq hne e=>hne ?_) h.nd)
   have h1:= (h.lt p hp).2
   have h2:= (h.lt q hq).2
   have e1:p.1=q.1:=by
    have a:=congrArg (· /B.length) e
    simp only[Nat.mul_comm _ B.length,Nat.mul_add_div (by omega:0<B.length),Nat.div_eq_of_lt h1,Nat.div_eq_of_lt h2] at a
    omega
   rw[e1] at e
   exact Prod.ext e1 ω
  ·obtain⟨p,hp,rfl⟩:=List.mem_map.1 hq
   obtain⟨h1,h2⟩:=h.lt p hp
   calc p.1*B.length+p.2<p.1*B.length+B.length:=ω
    _= (p.1+1)*B.length:=by rw[Nat.add_mul,Nat.one_mul]
    _≤A.length*B.length:=Nat.mul_le_mul_right _ h1
 rwa [List.length_map] at this
def y5g    (h:Wi A B x y o) (hd:∀p∈o,Wd A B o p):bis A B x y:=by
 refine znt (R:=fun p q=> (p,q)∈o) ?_ h.hd
 intro p q hpq
 obtain⟨h1,h2⟩:=hd _ hpq
 obtain⟨h3,h4⟩:=zct.1 h1
 exact⟨h3,h4,h2⟩
def y5h    (h:Wi A B x y o)  (hp:p∈o) (hd:difS (nd A p.1) (nd B p.2)=true):¬bis A B x y:=fun hb=>by
 obtain⟨h1,h2,_⟩:=z67 (h.al hb p hp)
 rw[zct.2 ⟨h1,h2⟩] at hd
 cases hd
def y5i  (ha:Rt A) (hb:Rt B)   (h:Wi A B x y o)  (hp:p∈o) (hd:difS (nd A p.1) (nd B p.2)=false)  (hk:k< (nd A p.1).kids.length) (hn: (kid A p.1 k,kid B p.2 k)∉o):
  Wi A B x y (o++ [(kid A p.1 k,kid B p.2 k)]):=by
 obtain⟨h1,h2⟩:=h.lt p hp
 obtain⟨d1,d2⟩:=zct.1 hd
 refine⟨?_,?_,by simp[h.hd],fun hbis q hq=> ?_⟩
 ·refine List.nodup_append.2 ⟨h.nd,by simp,fun a ha b hb e=> ?_⟩
  rw[List.mem_singleton] at hb
  subst hb;subst e
  exact hn ha
 ·intro q hq
  rcases List.mem_append.1 hq with hq|hq
  ·exact h.lt q hq
  ·rw[List.mem_singleton] at hq;subst hq
   exact⟨ha _ h1 _ (z3w hk),hb _ h2 _ (z3w (d2▸hk))⟩
 ·rcases List.mem_append.1 hq with hq|hq
  ·exact h.al hbis q hq
  ·rw[List.mem_singleton] at hq;subst hq
   exact (z67 (h.al hbis p hp)).2.2 k hk
def zxc {s:Sto} {v:V}  (a:l.all D.sc=true) (hl:l.length≤1000000) (h: (v= .nilS∧l= [])∨∃k,v= .arr k 1 false 0 l.length∧sget s k=some (.cells (scs l))) {k0 key nx' lw:Nat} (h0:sget s k0=some (.cells [])):
  z0v {s:=s,next:=nx',low:=lw} key 1 false 8 (.arr k0 1 false 0 0) v=some (.arr key 1 false 0 l.length,{s:= (key,.cells (scs l))::sdel s k0,next:=nx',low:=Nat.min lw k0}):=by
 have hr:rdSl {s:=s,next:=nx',low:=lw} 1 v=some (scs l,l.length):=by
  rcases h with⟨rfl,rfl⟩|⟨k,rfl,g⟩
  ·rfl
  ·exact zlj g
 have hc: (scs l).all V.isCell=true:=by
  unfold scs
  rw[List.all_map]
  exact (z83 a).2
 simp only[z0v,hr,St.get,h0]
 rw[if_pos ⟨trivial,trivial,ω,ω,hc⟩,if_pos ⟨trivial,by simp⟩]
 simp[St.ins,St.del]
end Go.Lift.K
namespace Go.Lift.K
open Go Go.Lift Classical
end Go.Lift.K
namespace Go.Lift.K
open Go Go.Lift
end Go.Lift.K
namespace Go.Lift.K
open Go Go.Lift Classical
variable{t:TreeT}{ns:Lk}{r:Nat}{g:GoalT}
noncomputable def z1c (g:GoalT):GoalT:=⟨g.rel,g.args.map z1o⟩
def Og (g:GoalT):Prop:=∀t∈g.args,Ok t∧t.ok
def Ok.nat  (h:Ok t):t.root= (t.root.toNat:Nat)∧t.root.toNat<t.nodes.length:=by
 have h1:=h.rl
 have h2:=h.rh
 omega
structure Lst (t:TreeT):Prop where
 gdt:Ok t
 tok:t.ok
 root:t.root=0
 sep:∀{c d},c<t.nodes.length→d<t.nodes.length→bis t.nodes t.nodes c d→c=d
 same:z0t t.nodes 0=t.nodes
def zmf  (hg:Gd ns)  (hr:r<ns.length):Gd (z0t ns r):=by
 have hn:=hg.rt
 have hl:=z8i hn hr
 have hgl:=hg.len
 have hm:∀i,i< (z0t ns r).length→i< (z28 ns r).length:=fun i hi=>by unfold z0t at hi;rwa [List.length_map] at hi
 refine⟨ω,fun i hi=> ?_,fun i hi k hk=> ?_⟩
 ·rw[zam (hm i hi)]
  unfold z3x
  rw[List.length_map,z3g]
  exact hg.kids _ (z4i hn hr (List.getElem_mem (hm i hi))).2
 ·have h1:k.toNat∈kds (z0t ns r) i:=List.mem_map.2 ⟨k,hk,rfl⟩
  have h2:=zfp hn hr i hi _ h1
  rw[zam (hm i hi)] at hk
  obtain⟨q,_,rfl⟩:=List.mem_map.1 hk
  simp at h2
  omega
def zc3  (hn:Rt ns)  (hr:r<ns.length) {x:NodeT} (hx:x∈z0t ns r):∃y∈ns,x.name=y.name:=by
 obtain⟨q,hq,rfl⟩:=List.mem_map.1 hx
 exact⟨nd ns q,zm3 (z4i hn hr hq).2,rfl⟩
def ztb  (hg:Gd ns) (hk:∀x∈ns,x.ok)  (hr:r<ns.length):TreeT.ok ⟨z0t ns r,0⟩:=by
 have hgl:=zmf hg hr
 have h60:=hgl.len
 refine⟨⟨by unfold LOk;show (z0t ns r).length≤_;omega,fun x hx=> ?_⟩,by unfold IOk;show -9223372036854775808≤(0:Int)∧(0:Int)≤_;omega⟩
 obtain⟨y,hy,e⟩:=zc3 hg.rt hr hx
 obtain⟨i,hi,rfl⟩:=List.mem_iff_getElem.1 hx
 have h4:=hgl.kids i hi
 have hlow:=hgl.low i hi
 rw[z2j hi] at h4 hlow
 refine⟨by rw[e];exact (hk y hy).1,by unfold LOk;omega,fun k hk=> ?_⟩
 have:=hlow k hk
 unfold IOk;omega
theorem y0v  (hg:Gd ns) (hk:∀x∈ns,x.ok) (hnm:∀x∈ns,z0z x.name=true)  (hr:r<ns.length):Lst ⟨z0t ns r,0⟩ where
 gdt:=⟨zmf hg hr,by show (0:Int)≤0;omega,by show (0:Int)< (z0t ns r).length;have:=z8i hg.rt hr;omega,fun x hx=>by obtain⟨y,hy,e⟩:=zc3 hg.rt hr hx;rw[e];exact hnm y hy⟩
 tok:=ztb hg hk hr
 root:=rfl
 sep:=fun hc hd h=>zta hg.rt hr hc hd h
 same:=zk7 hg.rt hr
def zht  (h:Ok t) (ht:t.ok):Lst (z1o t):=y0v h.gd ht.1.2 h.nm h.nat.2
def Lst.fix  (h:Lst t):z1o t=t:=by
 have h1:=h.same
 have h2:=h.root
 unfold z1o
 rw[h2]
 show TreeT.mk (z0t t.nodes 0) 0=t
 rw[h1,←h2]
def Lst.pos  (h:Lst t):0<t.nodes.length:=by
 have:=h.gdt.rh
 rw[h.root] at this
 omega
noncomputable def subT (t:TreeT) (k:Nat):TreeT:=⟨z0t t.nodes k,0⟩
def Lst.sub  (h:Lst t) {k:Nat} (hk:k<t.nodes.length):Lst (subT t k):=y0v h.gdt.gd h.tok.1.2 h.gdt.nm hk
def Lst.at_  (h:Lst t) {k:Nat} (hk:k<t.nodes.length):Ok ⟨t.nodes,(k:Int)⟩∧TreeT.ok ⟨t.nodes,(k:Int)⟩∧z1o ⟨t.nodes,(k:Int)⟩=subT t k:=by
 have:=h.gdt.gd.len
 exact⟨⟨h.gdt.gd,by show (0:Int)≤k;omega,by show (k:Int)<t.nodes.length;omega,h.gdt.nm⟩,⟨h.tok.1,by unfold IOk;show _∧(k:Int)≤_;constructor<;> (try show _≤(k:Int))<;>omega⟩,rfl⟩
def Lg (g:GoalT):Prop:=∀t∈g.args,Lst t
theorem zmb  (h:Og g):Lg (z1c g):=fun t ht=>by
 obtain⟨u,hu,rfl⟩:=List.mem_map.1 ht
 exact zht (h u hu).1 (h u hu).2
def Lg.og  (h:Lg g):Og g:=fun t ht=>⟨(h t ht).gdt,(h t ht).tok⟩
def Lg.fix  (h:Lg g):z1c g=g:=by
 unfold z1c
 have:g.args.map z1o=g.args:=by
  have:g.args.map z1o=g.args.map id:=List.map_congr_left fun t ht=> (h t ht).fix
  simpa using this
 rw[this]
def y8q  (hg:g.ok) (h:z0r z0f g.args=0):Og g:=fun t ht=>by
 refine⟨z7l ?_,hg.2.2 t ht⟩
 apply Classical.byContradiction
 intro h0
 unfold z0r at h
 cases hf:g.args.find? (fun t=>decide (z0f t≠0)) with
 |none=>
  rw[List.find?_eq_none] at hf
  have:=hf t ht
  simp at this
  exact h0 this
 |some u=>
  rw[hf] at h
  have:=List.find?_some hf
  simp at this
  exact this h
noncomputable def zoh (a b:GoalT):Bool:=decide (z0r z0f a.args=0)&& (decide (z0r z0f b.args=0)&&decide (z1c a=z1c b))
end Go.Lift.K
namespace Go.Lift.K
open Go Go.Lift
variable{g:GoalT}
def arK (g:GoalT) (j:Nat):TreeT:=g.args.getD j ⟨[],0⟩
def keyL (g:GoalT) (i:Nat):List D:= [.str (if 0<i then z4d (arK g 0) else []),.str (if 1<i then z4d (arK g 1) else []),.str (if 2<i then z4d (arK g 2) else [])]
def keyD (g:GoalT):D:= .agg (.str g.rel::keyL g g.args.length)
def y3s  {i:Nat} (hi:i<3): (1+ (i+1)≤(keyL g i).length+1)=True∧(V.d (.str g.rel):: (keyL g i).map V.d).take (1+i)++ [V.d (.str (z4d (arK g i)))]++ (V.d (.str g.rel):: (keyL g i).map V.d).drop (1+ (i+1))=V.d (.str g.rel):: (keyL g (i+1)).map V.d:=by
 have:i=0∨i=1∨i=2:=ω
 rcases this with rfl|rfl|rfl<;>exact⟨eq_true (by show _≤4;omega),rfl⟩
def zy9  (hg:Og g) (hl:g.args.length≤3) (st:St):z06 T1.G (.fn 73 [] []) [.d g.d] st=some (.d (keyD g),st):=by
 refine z19 (ds:= [g.d]) (rs:= [keyD g]) T1.g73 rfl rfl (fun e w_len harg=> ?_) st
 have w_len:e.length=24:=w_len
 have w_0:=harg 0 ψ
 clear harg
 simp only[List.map_cons,List.map_nil,List.getD_cons_zero] at w_0
 have w_k0:List.map V.d (keyL g 0)= [.d (.str []),.d (.str []),.d (.str [])]:=rfl
 simp only[T1.i73,GoalT.d,w_len,w_0,↓LA,LB,simprocAttr]
 refine z0b (fun e0 s0 m env st=>∃(i nxi lwi:Nat) (si:Sto),m=g.args.length-i∧(i≤g.args.length)∧sget si (0)=some (.cells [.d (.str g.rel),.d (.sl (g.args.map TreeT.d))])∧sget si (1)=some (.cells [.d (.str []),.d (.str []),.d (.str []),.d (.str [])])∧sget si (5)=some (.cells (.d (.str g.rel):: (keyL g i).map V.d))∧7≤nxi∧0≤lwi∧env.length=24∧env.getD 12 .undef= .d (.int .i64 i)∧env.getD 1 .undef= .ptr 0 0∧env.getD 2 .undef= .ptr 1 0∧env.getD 3 .undef= .ptr 5 0∧env.getD 10 .undef= .d (.sl (g.args.map TreeT.d))∧env.getD 11 .undef= .d (.int .i64 g.args.length)∧st= {s:=si,next:=nxi,low:=lwi}) ?_ (g.args.length) (by refine⟨0,_,_,_,rfl,ω,?_,?_,?_,ω,Nat.zero_le _,?_,?_,?_,?_,?_,?_,?_,rfl⟩<;>simp (maxDischargeDepth:=60) only[w_len,w_k0,LB,simprocAttr])
 rintro m env st ⟨i,nxi,lwi,si,hm,a_0,w_ac0,w_ac1,w_ac2,w_ab,w_alo,w_len,w_12,w_1,w_2,w_3,w_10,w_11,rfl⟩
 have w_aN:=aI (cf1 (x:=nxi) (a:=0) ω) (aI (cf1 (x:=nxi) (a:=1) ω) (cf1 (x:=nxi) (a:=5) ω))
 have w_aS:=aI (cf2 (x:=nxi) ω w_ac0) (aI (cf2 (x:=nxi) ω w_ac1) (cf2 (x:=nxi) ω w_ac2))
 have w_aZ:=zf0 (x:=nxi) (n:=7) ω
 by_cases hi:i<g.args.length
 ·obtain⟨t1,t2⟩:=hg _ (List.getElem_mem hi)
  have hT:=fun st=>y23 t2 t1 st
  simp only[TreeT.d] at hT
  have hia:z1i 3 1 (.ptr 5 1) (i:Int)=some (.ptr 5 (1+i)):=by
   simp only[z1i]
   rw[if_pos ⟨ω,ω⟩]
   simp
  obtain⟨q1,q2⟩:=y3s (g:=g) (i:=i) ω
  have q3:arK g i=g.args[i]:=by simp[arK,hi]
  rw[q3] at q2
  simp only[hi,z5j hi,hT,hia,q1,q2,z07 hi ω,w_len,w_12,w_3,w_10,w_11,w_ac2,w_aN,↓LA,LB,simprocAttr]
  exact z09 (by refine⟨_,ω,i+1,_,_,_,rfl,ω,?_,?_,?_,ω,Nat.zero_le _,?_,?_,?_,?_,?_,?_,?_,rfl⟩<;>simp only[w_len,w_1,w_2,w_3,w_10,w_11,w_ac0,w_ac1,w_aN,w_aS,LB,simprocAttr])
 ·have hie:i=g.args.length:=ω
  have hkd:keyD g= .agg [.str g.rel,.str (if 0<i then z4d (arK g 0) else []),.str (if 1<i then z4d (arK g 1) else []),.str (if 2<i then z4d (arK g 2) else [])]:=by rw[hie];rfl
  rw[hkd]
  unfold keyL at w_ac2
  obtain⟨x0,hx0⟩:∃x,x= (if 0<i then z4d (arK g 0) else []):=⟨_,rfl⟩
  obtain⟨x1,hx1⟩:∃x,x= (if 1<i then z4d (arK g 1) else []):=⟨_,rfl⟩
  obtain⟨x2,hx2⟩:∃x,x= (if 2<i then z4d (arK g 2) else []):=⟨_,rfl⟩
  rw[←hx0,←hx1,←hx2] at w_ac2⊢
  simp only[hi,w_len,w_12,w_2,w_3,w_11,w_ac1,w_ac2,w_aS,↓LA,LB,simprocAttr]
  exact rq1 (by rfl)
def zlb {t:TreeT} (h:Lst t):z4d t≠ []:=by
 have h0:=h.pos
 unfold z4d
 cases hn:t.nodes with
 |nil=>rw[hn] at h0;simp at h0
 |cons x l=>simp[z7b]
def y70 {h:GoalT} (e:keyD g=keyD h):g.rel=h.rel∧∀j,j<3→(if j<g.args.length then z4d (arK g j) else [])= (if j<h.args.length then z4d (arK h j) else []):=by
 unfold keyD keyL at e
 simp only[D.agg.injEq,List.cons.injEq,D.str.injEq,and_true] at e
 obtain⟨e0,e1,e2,e3⟩:=e
 refine⟨e0,fun j hj=> ?_⟩
 have:j=0∨j=1∨j=2:=ω
 rcases this with rfl|rfl|rfl<;>assumption
def y3t {h:GoalT} (hg:Lg g) (hh:Lg h) (lg:g.args.length≤3) (lh:h.args.length≤3) (e:keyD g=keyD h):g=h:=by
 obtain⟨e0,e1⟩:=y70 e
 have ha:∀{w:GoalT} {j:Nat} (hj:j<w.args.length),arK w j=w.args[j]:=fun hj=>by simp[arK,hj]
 have hlen:g.args.length=h.args.length:=by
  rcases Nat.lt_trichotomy g.args.length h.args.length with hl|hl|hl
  ·have:=e1 g.args.length ω
   rw[if_neg ω,if_pos hl,ha hl] at this
   exact absurd this.symm (zlb (hh _ (List.getElem_mem hl)))
  ·exact hl
  ·have:=e1 h.args.length ω
   rw[if_pos hl,if_neg ω,ha hl] at this
   exact absurd this (zlb (hg _ (List.getElem_mem hl)))
 have hargs:g.args=h.args:=List.ext_getElem hlen fun j h1 h2=>by
  have:=e1 j ω
  rw[if_pos h1,if_pos h2,ha h1,ha h2] at this
  have l1:=hg _ (List.getElem_mem h1)
  have l2:=hh _ (List.getElem_mem h2)
  exact zwo l1.gdt l2.gdt (l1.root.trans l2.root.symm) this
 cases g;cases h
 simp at e0 hargs
 rw[e0,hargs]
end Go.Lift.K
namespace Go.Lift.K
open Go Go.Lift Classical
variable{L:Lh}{g:GoalT}
noncomputable def ixG (L:List GoalT) (g:GoalT):Option Nat:=L.findIdx? fun x=>decide (x=g)
def Kmp (es:List (D×V)) (L:List GoalT):Prop:=∀g,Lg g→g.args.length≤3→z22 es (keyD g)= (ixG L g).map fun i=>V.d (.int .i64 (i:Nat))
theorem y3q:Kmp [] []:=fun g _ _=>rfl
def zml  {h:GoalT} (hn:ixG L g=none):ixG (L++ [g]) h=if h=g then some L.length else ixG L h:=by
 unfold ixG at hn⊢
 rw[List.findIdx?_append]
 by_cases e:h=g
 ·subst e
  rw[hn,if_pos rfl]
  simp
 ·rw[if_neg e]
  cases hc:L.findIdx? fun x=>decide (x=h) with
  |some i=>rfl
  |none=>
   have:¬g=h:=fun k=>e k.symm
   simp[this]
theorem y3p {es:List (D×V)}   (hg:Lg g) (hl:g.args.length≤3) (h:Kmp es L) (hn:ixG L g=none):Kmp (z2c es (keyD g) (.d (.int .i64 (L.length:Nat)))) (L++ [g]):=fun w hw hwl=>by
 rw[z5g,h w hw hwl,zml hn]
 by_cases e:w=g
 ·subst e
  rw[if_pos (D.beq_refl _),if_pos rfl]
  rfl
 ·rw[if_neg (fun k=>e (y3t hw hg hwl hl (D.eq_of_beq k).symm)),if_neg e]
def zy8  (hg:Og g) (hr:g.rel.length≤1000):z2v true [.s,.s,.s,.s] (keyD g)=true:=by
 have ht:∀j,(if j<g.args.length then z4d (arK g j) else []).length≤2000:=fun j=>by
  by_cases hj:j<g.args.length
  ·rw[if_pos hj]
   have e:arK g j=g.args[j]:=by simp[arK,hj]
   rw[e]
   obtain⟨o1,o2⟩:=hg _ (List.getElem_mem hj)
   obtain⟨c1,c2,c3,c4,c5⟩:=z6w.1 o1.spec
   have:=ze3 (l:=g.args[j].nodes) fun x hx=>⟨z8b (c3 x hx),c2 x hx⟩
   unfold z4d
   omega
  ·rw[if_neg hj];simp
 have h0:=ht 0
 have h1:=ht 1
 have h2:=ht 2
 simp only[keyD,keyL,z2v,conf,z8y,Bool.true_and,Bool.and_true,Bool.and_eq_true,decide_eq_true_eq]
 omega
def zhm  (hl:g.args.length≤1000000) (hk:Og g) (st:St):z06 G (.fn 74 [] []) [.d g.d] st=some (.d (z1c g).d,st):=by
 have hgd: (z1c g).d= .agg [.str g.rel,.sl ((g.args.map z1o).map TreeT.d)]:=rfl
 obtain⟨M,hM⟩:∃M,M=g.args.map z1o:=⟨_,rfl⟩
 rw[←hM] at hgd
 have hMl:M.length=g.args.length:=by rw[hM,List.length_map]
 have hMi:∀i (h:i<g.args.length),M[i]=z1o g.args[i]:=fun i h=>by simp only[hM,List.getElem_map]
 have hx0:∀a b:V,[a,b][0]?=some a:=fun _ _=>rfl
 have hx1:∀a b:V,[a,b][1]?=some b:=fun _ _=>rfl
 rw[hgd]
 refine z19 (ds:= [g.d]) (rs:= [.agg [.str g.rel,.sl (M.map TreeT.d)]]) T1.g74 rfl rfl (fun e w_len harg=> ?_) st
 have w_len:e.length=31:=w_len
 have w_0:=harg 0 ψ
 clear harg
 simp only[List.map_cons,List.map_nil,List.getD_cons_zero] at w_0
 simp only[T1.i74,GoalT.d,w_len,w_0,↓LA,LB,simprocAttr]
 refine z0b (fun e0 s0 m env st=>∃(i nxi lwi:Nat) (si:Sto) (xv:V),m=g.args.length-i∧(i≤g.args.length)∧(Gr si false 7 0 nxi 2 true xv ((M.take i).map TreeT.d))∧sget si (0)=some (.cells [.d (.str g.rel),.d (.sl (g.args.map TreeT.d))])∧sget si (1)=some (.cells [.d (.str []),.nilS])∧sget si (5)=some (.cells [.d (.str g.rel),xv])∧7≤nxi∧0≤lwi∧env.length=31∧env.getD 14 .undef= .d (.int .i64 i)∧env.getD 1 .undef= .ptr 0 0∧env.getD 2 .undef= .ptr 1 0∧env.getD 3 .undef= .ptr 5 0∧env.getD 12 .undef= .d (.sl (g.args.map TreeT.d))∧env.getD 13 .undef= .d (.int .i64 g.args.length)∧st= {s:=si,next:=nxi,low:=lwi}) ?_ (g.args.length) (by refine⟨0,_,_,_,.nilS,rfl,ω,Gr.nil,?_,?_,?_,ω,Nat.zero_le _,?_,?_,?_,?_,?_,?_,?_,rfl⟩<;>simp (maxDischargeDepth:=60) only[w_len,LB,simprocAttr])
 rintro m env st ⟨i,nxi,lwi,si,xv,hm,a_0,a_1,w_ac0,w_ac1,w_ac2,w_ab,w_alo,w_len,w_14,w_1,w_2,w_3,w_12,w_13,rfl⟩
 have w_aN:=aI (cf1 (x:=nxi) (a:=0) ω) (aI (cf1 (x:=nxi) (a:=1) ω) (cf1 (x:=nxi) (a:=5) ω))
 have w_aS:=aI (cf2 (x:=nxi) ω w_ac0) (aI (cf2 (x:=nxi) ω w_ac1) (cf2 (x:=nxi) ω w_ac2))
 have w_aZ:=zf0 (x:=nxi) (n:=7) ω
 have w_a_1V:=aI (a_1.away (j:=0) ω) (aI (a_1.away (j:=1) ω) (a_1.away (j:=5) ω))
 have w_a_1c:=a_1.cell.1
 have w_a_1d:=a_1.cell.2
 have w_a_1e:=a_1.beq
 by_cases hi:i<g.args.length
 ·have hi2:i<M.length:=ω
  obtain⟨h1,h2⟩:=hk _ (List.getElem_mem hi)
  have hD:=fun st=>zme h2 h1.spec st
  rw[←hMi i hi] at hD
  simp only[TreeT.d] at hD
  simp only[hi,z5j hi,hD,hx0,hx1,w_len,w_14,w_3,w_12,w_13,w_ac2,w_aN,↓LA,LB,simprocAttr]
  refine z4h a_1 ?_ (z0c fun a=>z1t) z03 ?_ ?_ ?_ ?_ ?_ fun chc0 hc0=> ?_
  ·intro j h1 h2;simp (disch:=omega) only[z00]
  ·rfl
  ·omega
  ·simp;omega
  ·simp;omega
  ·exact rfl
  simp only[z07 hi ω,w_len,w_14,w_3,w_ac2,w_aN,w_a_1V,↓LA,LB,simprocAttr]
  have hn: (M.take (i+1)).map TreeT.d= (M.take i).map TreeT.d++ [M[i].d]:=by rw[z2m hi2,List.map_append];rfl
  exact z09 (by refine⟨_,ω,i+1,_,_,_,.arr (nxi+17) 2 true 0 (((M.take i).map TreeT.d).length+1),rfl,ω,(by rw[hn];exact z4j hc0 (by intro j h1 h2 h3;simp (disch:=omega) only[z00,z01,z04 h3]) ω ω ω z03 rfl ⟨CV.data,CV.int,trivial⟩),?_,?_,?_,ω,Nat.zero_le _,?_,?_,?_,?_,?_,?_,?_,rfl⟩<;>simp only[w_len,w_1,w_2,w_3,w_12,w_13,w_ac0,w_ac1,w_ac2,w_aN,w_a_1V,LB,simprocAttr])
 ·have ht:M.take i=M:=List.take_of_length_le ω
  have hga:=a_1
  rw[ht] at hga
  simp only[hi,w_len,w_14,w_2,w_3,w_13,w_ac1,w_ac2,w_aS,w_a_1c,↓LA,LB,simprocAttr]
  refine rql1 (x:= .agg [.str g.rel,.sl (M.map TreeT.d)]) (zr4 (lv:=false) (lo:=7) (n:=1) (hi:=nxi) (m:=11) ω (by decide) ⟨CV.str,(hga.frame (by intro j h1 h2;simp (disch:=omega) only[z01])).cv ω (z0c fun a=>z1t),trivial⟩) rfl
def y8e (s0:Sto) (nx km kg:Nat) (S:Nat→Prop) (es:List (D×V)) (L:List GoalT) (c0 c1 gv c3 c4 c5:V) (g:GoalT) (v:V) (st:St):Prop:=
 nx≤st.next∧(∀q,q<nx→q≠km→q≠kg→¬S q→sget st.s q=sget s0 q)∧
  ((∃i,ixG L g=some i∧v= .d (.int .i64 (i:Nat))∧∀q,q<nx→sget st.s q=sget s0 q)∨
   (ixG L g=none∧v= .d (.int .i64 (L.length:Nat))∧sget st.s km=some (.map 153 (z2c es (keyD g) (.d (.int .i64 (L.length:Nat)))))∧
    ∃gv',sget st.s kg=some (.cells [c0,c1,gv',c3,c4,c5])∧GP st.s false (fun q=>S q∨(nx≤q∧q<st.next)) 0 2 true gv' ((L++ [g]).map GoalT.d)))
def y3b  (hg:Lg g) (hl:g.args.length≤3) (hr:g.rel.length≤1000)  (hLl:L.length≤1000000) {es:List (D×V)} (hk:Kmp es L) {kn km kp kg:Nat} {c0 c1 gv c3 c4 c5:V} {S:Nat→Prop} {s:Sto} {nx lw:Nat}
  (h1:sget s kn=some (.cells [.map km])) (h2:sget s km=some (.map 153 es)) (h3:sget s kp=some (.cells [.ptr kg 0])) (h4:sget s kg=some (.cells [c0,c1,gv,c3,c4,c5])) (hgv:GP s false S 0 2 true gv (L.map GoalT.d))
  (hS:∀q,S q→q<nx∧q≠kn∧q≠km∧q≠kp∧q≠kg) (hlt:kn<nx∧km<nx∧kp<nx∧kg<nx) (hne:kn≠km∧kn≠kp∧kn≠kg∧km≠kp∧km≠kg∧kp≠kg) (hb:V.beqL [c0,c1,gv,c3,c4,c5] [c0,c1,gv,c3,c4,c5]=true):
  PostV (z06 G (.fn 72 [] [.ptr kn 0,.ptr kp 0]) [.d g.d] {s:=s,next:=nx,low:=lw}) (y8e s nx km kg S es L c0 c1 gv c3 c4 c5 g):=by
 have hK:=fun st=>zy9 hg.og hl st
 have hcf:=zy8 hg.og hr
 have hget:=hk g hg hl
 obtain⟨x0,hx0⟩:∃x,x= (if 0<g.args.length then z4d (arK g 0) else []):=⟨_,rfl⟩
 obtain⟨x1,hx1⟩:∃x,x= (if 1<g.args.length then z4d (arK g 1) else []):=⟨_,rfl⟩
 obtain⟨x2,hx2⟩:∃x,x= (if 2<g.args.length then z4d (arK g 2) else []):=⟨_,rfl⟩
 have hkd:keyD g= .agg [.str g.rel,.str x0,.str x1,.str x2]:=by rw[hx0,hx1,hx2];rfl
 unfold y8e
 rw[hkd] at hK hcf hget⊢
 simp only[GoalT.d] at hK
 have hp0:∀a b:V,[a,b][0]?=some a:=fun _ _=>rfl
 have hp1:∀a b:V,[a,b][1]?=some b:=fun _ _=>rfl
 have w_h1:=h1
 have w_h2:=h2
 have w_h3:=h3
 have w_h4:=h4
 have w_z: (∀q,(nx+q=kn)=False)∧(∀q,(nx+q=km)=False)∧(∀q,(nx+q=kp)=False)∧(∀q,(nx+q=kg)=False):=⟨fun q=>by simp;omega,fun q=>by simp;omega,fun q=>by simp;omega,fun q=>by simp;omega⟩
 have w_z0: (nx=kn)=False∧(nx=km)=False∧(nx=kp)=False∧(nx=kg)=False:=⟨by simp;omega,by simp;omega,by simp;omega,by simp;omega⟩
 have w_z1: (km=kn)=False∧(km=kp)=False∧(km=kg)=False∧(kg=kn)=False∧(kg=km)=False∧(kg=kp)=False:=⟨by simp;omega,by simp;omega,by simp;omega,by simp;omega,by simp;omega,by simp;omega⟩
 cases hix:ixG L g with
 |some i=>
  rw[hix] at hget
  simp only[Option.map_some] at hget
  have hlk:=fun z nx lw zero (h:sget z km=some (.map 153 es))=>z7t (s:=z) (nx:=nx) (lw:=lw) (zero:=zero) hcf h hget
  refine z1b (first:= []) (args:= [.d g.d]) (cap:= [.ptr kn 0,.ptr kp 0]) T1.g72 rfl rfl rfl (fun e w_len harg=> ?_)
  have w_len:e.length=37:=w_len
  have w_0:e.getD 0 .undef= .d g.d:=harg 0 ψ
  have w_1:e.getD 1 .undef= .ptr kn 0:=harg 1 ψ
  have w_2:e.getD 2 .undef= .ptr kp 0:=harg 2 ψ
  clear harg
  simp only[T1.i72,GoalT.d,hK,hlk,hp0,hp1,w_len,w_0,w_1,w_h1,w_h2,w_h4,w_z,w_z0,↓LA,LB,simprocAttr]
  exact⟨ω,fun q g1 _ _ _=>by rw[if_neg ω,if_neg ω],.inl ⟨i,rfl,rfl,fun q g1=>by rw[if_neg ω,if_neg ω]⟩⟩
 |none=>
  rw[hix] at hget
  simp only[Option.map_none] at hget
  have hlk:=fun z nx lw zero (h:sget z km=some (.map 153 es))=>z7u (s:=z) (nx:=nx) (lw:=lw) (zero:=zero) hcf h hget
  have hU:=fun z nx lw zz (h:sget z km=some (.map 153 es))=>z5f (s:=z) (nx:=nx) (lw:=lw) (x:=zz) hcf h
  have w_g1:=hgv.away (j:=kp) (fun h=> (hS _ h).2.2.2.1 rfl)
  have w_g2:=hgv.away (j:=kg) (fun h=> (hS _ h).2.2.2.2 rfl)
  have w_g3:=hgv.away (j:=km) (fun h=> (hS _ h).2.2.1 rfl)
  have w_g4:=hgv.away (j:=kn) (fun h=> (hS _ h).2.1 rfl)
  have w_gc:=hgv.cell.1
  have w_gd:=hgv.cell.2
  have hgl:opLen false gv=some L.length:=by rw[hgv.len,List.length_map]
  refine z1b (first:= []) (args:= [.d g.d]) (cap:= [.ptr kn 0,.ptr kp 0]) T1.g72 rfl rfl rfl (fun e w_len harg=> ?_)
  have w_len:e.length=37:=w_len
  have w_0:e.getD 0 .undef= .d g.d:=harg 0 ψ
  have w_1:e.getD 1 .undef= .ptr kn 0:=harg 1 ψ
  have w_2:e.getD 2 .undef= .ptr kp 0:=harg 2 ψ
  clear harg
  simp only[T1.i72,GoalT.d,hK,hlk,hU,hp0,hp1,hgl,hb,w_len,w_0,w_1,w_2,w_h1,w_h2,w_h3,w_h4,w_z,w_z0,w_z1,↓LA,LB,simprocAttr]
  refine z4g hgv ?_ (z0c fun a=>z8v) z03 ?_ ?_ ?_ ?_ ?_ fun chc0 hc0=> ?_
  ·intro j hj;obtain⟨a1,a2,a3,a4,a5⟩:=hS j hj;simp (disch:=omega) only[z00,z01]
  ·rfl
  ·omega
  ·simp;omega
  ·simp;omega
  ·exact rfl
  simp only[w_len,w_2,w_h2,w_h3,w_h4,w_z,w_z0,w_z1,w_g1,w_g2,w_g3,↓LA,LB,simprocAttr]
  refine⟨ω,fun q g1 g2 g3 g4=> ?_,.inr ?_⟩
  ·rw[if_neg ω]
   simp (disch:=omega) only[z00,z01,z04 (hgv.away (j:=q) g4)]
  ·have hn4: (L++ [g]).map GoalT.d=L.map GoalT.d++ [.agg [.str g.rel,.sl (g.args.map TreeT.d)]]:=by rw[List.map_append];rfl
   have e:L.length= (L.map GoalT.d).length:=by rw[List.length_map]
   refine⟨_,rfl,?_⟩
   rw[hn4,e]
   exact z57 hc0 (fun j hj ha=>by obtain⟨a1,a2,a3,a4,a5⟩:=hS j hj;simp (disch:=omega) only[z00,z01,z04 ha]) (fun j hj=> .inl hj) (.inr ⟨ω,ω⟩) (fun h=>by have:= (hS _ h).1;omega) z03 rfl ⟨CQ.str,CQ.data,trivial⟩
end Go.Lift.K
namespace Go.Lift.K
open Go Go.Lift
variable{a b:TreeT}{kd nx n lo hi:Nat}{s:Sto}{p:Nat×Nat}{v:V}{l:Ld}
theorem y07 {f:Nat} :V.beq (.fn f [] []) (.fn f [] [])=true:=by simp[V.beq,V.beqL]
def zab (a b:TreeT):List V:= [.d (.sl (a.nodes.map NodeT.d)),.d (.int .i64 a.root),.d (.sl (b.nodes.map NodeT.d)),.d (.int .i64 b.root),.fn 78 [] []]
def zm1    {lw:Nat} (hkd:kd<nx) (hk:sget s kd=some (.cells (zab a b)))  (h1:p.1<a.nodes.length) (h2:p.2<b.nodes.length):
  z06 G (.fn 104 [] []) [.ptr kd 0,.d (prD p)] {s:=s,next:=nx,low:=lw} =some (.tup [.d a.nodes[p.1].d,.d b.nodes[p.2].d],{s:=s,next:=nx,low:=lw}):=by
 have w_k:=hk
 unfold zab at w_k
 have hne:∀q,(nx+q=kd)=False:=fun q=>by simp;omega
 have hne0: (nx=kd)=False:=by simp;omega
 refine z5b (first:= []) (args:= [.ptr kd 0,.d (prD p)]) (cap:= []) (us:= [.d a.nodes[p.1].d,.d b.nodes[p.2].d]) T1.g104 rfl rfl rfl (fun e w_len harg=> ?_)
 have w_len:e.length=26:=w_len
 have w_0:e.getD 0 .undef= .ptr kd 0:=harg 0 ψ
 have w_1:e.getD 1 .undef= .d (prD p):=harg 1 ψ
 clear harg
 simp only[T1.i104,prD,y07,w_k,hne,hne0,iaP0,iaP1,z3h h1,z3h h2,w_len,w_0,w_1,↓LA,LB,simprocAttr]
 exact ru2 (by first|exact Nat.le_refl _|exact z02 (Nat.le_refl _) ω|exact z02 (z02 (Nat.le_refl _) ω) ω) rfl
def zgz  (ha:a.ok) (hb:b.ok)   {lw:Nat} (hkd:kd<nx) (hk:sget s kd=some (.cells (zab a b)))  (h1:p.1<a.nodes.length) (h2:p.2<b.nodes.length):
  z06 G (.fn 79 [] []) [.ptr kd 0,.d (prD p)] {s:=s,next:=nx,low:=lw} =some (.d (.bool (difS a.nodes[p.1] b.nodes[p.2])),{s:=s,next:=nx,low:=lw}):=by
 have hn1:a.nodes[p.1].ok:=ha.1.2 _ (List.getElem_mem h1)
 have hn2:b.nodes[p.2].ok:=hb.1.2 _ (List.getElem_mem h2)
 have hl1:=hn1.2.1
 have hl2:=hn2.2.1
 unfold LOk at hl1 hl2
 have hN:∀nx' lw' (q:Sto),Sub nx s q→nx≤nx' →z06 G (.fn 104 [] []) [.ptr kd 0,.d (.agg [.int .i64 (p.1:Nat),.int .i64 (p.2:Nat)])] {s:=q,next:=nx',low:=lw' } =some (.tup [.d (.agg [.str a.nodes[p.1].name,.sl (a.nodes[p.1].kids.map (D.int .i64))]),.d (.agg [.str b.nodes[p.2].name,.sl (b.nodes[p.2].kids.map (D.int .i64))])],{s:=q,next:=nx',low:=lw' }):=fun nx' lw' q h h' =>
  zm1 ω (by rw[h kd hkd];exact hk) h1 h2
 have hx0:∀a b:V,[a,b][0]?=some a:=fun _ _=>rfl
 have hx1:∀a b:V,[a,b][1]?=some b:=fun _ _=>rfl
 refine z5b (first:= []) (args:= [.ptr kd 0,.d (prD p)]) (cap:= []) (us:= [.d (.bool (difS a.nodes[p.1] b.nodes[p.2]))]) T1.g79 rfl rfl rfl (fun e w_len harg=> ?_)
 have w_len:e.length=27:=w_len
 have w_0:e.getD 0 .undef= .ptr kd 0:=harg 0 ψ
 have w_1:e.getD 1 .undef= .d (prD p):=harg 1 ψ
 clear harg
 by_cases hn:a.nodes[p.1].name=b.nodes[p.2].name
 ·simp only[T1.i79,prD,w_len,w_0,w_1,↓LA,LB,simprocAttr]
  rw[hN _ _ _ (by exact Sub.cons (n:=nx) ω) ω]
  by_cases hk:a.nodes[p.1].kids.length=b.nodes[p.2].kids.length
  ·simp only[hx0,hx1,hn,ceq hk,List.length_map,w_len,↓LA,LB,simprocAttr]
   exact ru1 (by first|exact Nat.le_refl _|exact z02 (Nat.le_refl _) ω|exact z02 (z02 (Nat.le_refl _) ω) ω) (by simp[difS,hn,hk])
  ·simp only[hx0,hx1,hn,cne hk,List.length_map,w_len,↓LA,LB,simprocAttr]
   exact ru1 (by first|exact Nat.le_refl _|exact z02 (Nat.le_refl _) ω|exact z02 (z02 (Nat.le_refl _) ω) ω) (by simp[difS,hn,hk])
 ·simp only[T1.i79,prD,w_len,w_0,w_1,↓LA,LB,simprocAttr]
  rw[hN _ _ _ (by exact Sub.cons (n:=nx) ω) ω]
  simp only[hx0,hx1,hn,w_len,↓LA,LB,simprocAttr]
  exact ru1 (by first|exact Nat.le_refl _|exact z02 (Nat.le_refl _) ω|exact z02 (z02 (Nat.le_refl _) ω) ω) (by simp[difS,hn])
def kidp (a b:List NodeT) (p:Nat×Nat) (n:Nat):List (Nat×Nat):= (List.range n).map fun j=> (kid a p.1 j,kid b p.2 j)
theorem z8l {a b:Lk}   : (kidp a b p n).length=n:=by simp[kidp]
theorem ztf {a b:Lk}   :kidp a b p (n+1)=kidp a b p n++ [(kid a p.1 n,kid b p.2 n)]:=by simp[kidp,List.range_succ]
def zkb  {S:Nat→Prop} {b es:Nat} {ag:Bool}  {ds:Ld} (hb:∀j,S j→b≤j) (h:GP s false S n es ag v ds) (h0:0<es) (he:∀x∈ds,Elt es ag x) (hn:n+1<z0e):snap s b z0e v=some (.sl ds):=
 CQ.snap (n:=n+1) (m:=z0e) hb hn (h.cv h0 he)
def z4w  {lv:Bool} {es l:Nat} {ag:Bool}  {ds:Ld} (h:Gr s lv lo n hi es ag v ds) (h1:nx≤lo) (h2:nx≤l):nx≤zaa v l:=by
 rcases h with⟨rfl,_⟩|⟨k,cs,rfl,hS,_⟩
 ·exact h2
 ·exact z02 h2 (Nat.le_trans h1 hS.1)
def za7 (l:List (Nat×Nat)):V:=if l= [] then .nilS else .d (.sl (l.map prD))
def zuw  (ga:Gd a.nodes) (gb:Gd b.nodes)   {lw:Nat} (hkd:kd<nx) (hk:sget s kd=some (.cells (zab a b)))  (h1:p.1<a.nodes.length) (h2:p.2<b.nodes.length) (hd:difS a.nodes[p.1] b.nodes[p.2]=false):
  z06 G (.fn 106 [] []) [.ptr kd 0,.d (prD p)] {s:=s,next:=nx,low:=lw} =some (za7 (kidp a.nodes b.nodes p a.nodes[p.1].kids.length),{s:=s,next:=nx,low:=lw}):=by
 obtain⟨hdn,hdk⟩:=zct.1 hd
 have hk1:=ga.kids _ h1
 rw[z2j h1] at hk1
 have hN:∀nx' lw' (q:Sto),Sub nx s q→nx≤nx' →z06 G (.fn 104 [] []) [.ptr kd 0,.d (.agg [.int .i64 (p.1:Nat),.int .i64 (p.2:Nat)])] {s:=q,next:=nx',low:=lw' } =some (.tup [.d (.agg [.str a.nodes[p.1].name,.sl (a.nodes[p.1].kids.map (D.int .i64))]),.d (.agg [.str b.nodes[p.2].name,.sl (b.nodes[p.2].kids.map (D.int .i64))])],{s:=q,next:=nx',low:=lw' }):=fun nx' lw' q h h' =>
  zm1 ω (by rw[h kd hkd];exact hk) h1 h2
 have hx0:∀a b:V,[a,b][0]?=some a:=fun _ _=>rfl
 have hx1:∀a b:V,[a,b][1]?=some b:=fun _ _=>rfl
 refine z5b (first:= []) (args:= [.ptr kd 0,.d (prD p)]) (cap:= []) (us:= [za7 (kidp a.nodes b.nodes p a.nodes[p.1].kids.length)]) T1.g106 rfl rfl rfl (fun e w_len harg=> ?_)
 have w_len:e.length=37:=w_len
 have w_0:e.getD 0 .undef= .ptr kd 0:=harg 0 ψ
 have w_1:e.getD 1 .undef= .d (prD p):=harg 1 ψ
 clear harg
 simp only[T1.i106,prD,w_len,w_0,w_1,↓LA,LB,simprocAttr]
 rw[hN _ _ _ (by exact Sub.cons (n:=nx) ω) ω]
 simp only[hx0,hx1,List.length_map,w_len,↓LA,LB,simprocAttr]
 refine z0b (fun e0 s0 m env st=>∃(i nxi lwi:Nat) (si:Sto) (xo:V),m=a.nodes[p.1].kids.length-i∧(i≤a.nodes[p.1].kids.length)∧(Gr si false (nx+13) 0 nxi 2 true xo ((kidp a.nodes b.nodes p i).map prD))∧(i=0→xo= .nilS)∧(0<i→xo≠ .nilS)∧sget si (nx+8)=some (.cells [.d (.str a.nodes[p.1].name),.d (.sl (a.nodes[p.1].kids.map (D.int .i64)))])∧sget si (nx+9)=some (.cells [.d (.str b.nodes[p.2].name),.d (.sl (b.nodes[p.2].kids.map (D.int .i64)))])∧nx+13≤nxi∧nx≤lwi∧env.length=37∧env.getD 18 .undef= .d (.int .i64 i)∧env.getD 5 .undef= .ptr (nx+8) 0∧env.getD 6 .undef= .ptr (nx+9) 0∧env.getD 7 .undef=xo∧env.getD 16 .undef= .d (.sl (a.nodes[p.1].kids.map (D.int .i64)))∧env.getD 17 .undef= .d (.int .i64 a.nodes[p.1].kids.length)∧st= {s:=si,next:=nxi,low:=lwi}) ?_ (a.nodes[p.1].kids.length) (by refine⟨0,_,_,_,.nilS,rfl,ω,Gr.nil,fun _=>rfl,fun h=>absurd h ω,?_,?_,ω,(by first|exact Nat.zero_le _|omega|exact z02 ω ω|exact z02 (z02 ω ω) ω|exact z02 (z02 (z02 ω ω) ω) ω),?_,?_,?_,?_,?_,?_,?_,rfl⟩<;>simp only[w_len,LB,simprocAttr])
 rintro m env st ⟨i,nxi,lwi,si,xo,hm,o_0,o_1,o_2,o_3,w_oc0,w_oc1,w_ob,w_olo,w_len,w_18,w_5,w_6,w_7,w_16,w_17,rfl⟩
 have w_oN:=aI (cf1 (x:=nxi) (a:=nx+8) ω) (cf1 (x:=nxi) (a:=nx+9) ω)
 have w_oS:=aI (cf2 (x:=nxi) ω w_oc0) (cf2 (x:=nxi) ω w_oc1)
 have w_oZ:=zf (x:=nxi) (b:=nx) (n:=13) ω ω
 have w_o_1V:=aI (o_1.away (j:=nx+8) ω) (o_1.away (j:=nx+9) ω)
 have w_o_1c:=o_1.cell.1
 have w_o_1d:=o_1.cell.2
 have w_o_1e:=o_1.beq
 by_cases hi:i<a.nodes[p.1].kids.length
 ·have hi2:i<b.nodes[p.2].kids.length:=ω
  obtain⟨e1,_⟩:=ga.at_ h1 hi
  obtain⟨e2,_⟩:=gb.at_ h2 hi2
  simp only[hi,z3s hi,z3s hi2,e1,e2,w_len,w_18,w_5,w_6,w_7,w_17,w_oc0,w_oc1,↓LA,LB,simprocAttr]
  have hkpl: (kidp a.nodes b.nodes p i).length=i:=z8l
  refine z4h o_1 ?_ (z0c fun a=>y1i) z03 ?_ ?_ ?_ ?_ ?_ fun chc0 hc0=> ?_
  ·intro j h1 h2;simp (disch:=omega) only[z00]
  ·rfl
  ·omega
  ·simp;omega
  ·simp;omega
  ·exact rfl
  simp only[z07 hi ω,w_len,w_18,↓LA,LB,simprocAttr]
  have hn: (kidp a.nodes b.nodes p (i+1)).map prD= (kidp a.nodes b.nodes p i).map prD++ [prD (kid a.nodes p.1 i,kid b.nodes p.2 i)]:=by rw[ztf,List.map_append];rfl
  have hgl:=z4w o_1 (by omega:nx≤nx+13) w_olo
  exact z09 (by refine⟨_,ω,i+1,_,_,_,.arr (nxi+16) 2 true 0 (((kidp a.nodes b.nodes p i).map prD).length+1),rfl,ω,(by rw[hn];exact z4j hc0 (by intro j h1 h2 h3;simp (disch:=omega) only[z00,z04 h3]) ω ω ω z03 rfl ⟨CV.int,CV.int,trivial⟩),(fun h=>absurd h ω),(fun _ h=>by cases h),?_,?_,ω,(by first|exact Nat.zero_le _|omega|exact z02 ω ω|exact z02 (z02 ω ω) ω|exact z02 (z02 (z02 ω ω) ω) ω),?_,?_,?_,?_,?_,?_,?_,rfl⟩<;>simp only[w_len,w_5,w_6,w_16,w_17,w_oc0,w_oc1,w_oN,w_o_1V,LB,simprocAttr])
 ·have hie:i=a.nodes[p.1].kids.length:=ω
  subst hie
  simp only[hi,w_len,w_18,w_7,w_17,↓LA,LB,simprocAttr]
  refine⟨_,rfl,(by show nx≤lwi;exact w_olo),?_⟩
  unfold za7
  rcases Nat.eq_zero_or_pos a.nodes[p.1].kids.length with h0|h0
  ·have e:kidp a.nodes b.nodes p a.nodes[p.1].kids.length= []:=List.length_eq_zero_iff.1 (by rw[z8l];exact h0)
   rw[if_pos e,o_2 h0];rfl
  ·have e:¬kidp a.nodes b.nodes p a.nodes[p.1].kids.length= []:=fun e=>by have h' :a.nodes[p.1].kids.length=0:= (z8l (a:=a.nodes) (b:=b.nodes) (p:=p)).symm.trans (congrArg List.length e);omega
   rw[if_neg e]
   have hs:snap si nx z0e xo=some (.sl ((kidp a.nodes b.nodes p a.nodes[p.1].kids.length).map prD)):=zkb (S:=Iv (nx+13) nxi) (b:=nx) (n:=0) (es:=2) (ag:=true) (fun j hj=>Nat.le_trans (Nat.le_add_right _ _) hj.1) o_1 (by decide) (z0c fun a=>y1i) (by decide)
   rcases o_1 with⟨e',_⟩|⟨k,cs,rfl,hS,_⟩
   ·exact absurd e' (o_3 h0)
   ·have hkn:¬k<nx:=by have:=hS.1;omega
    simp only[List.length_map] at hs
    simp[z7a,outV,V.under,hkn,hs]
def y9n (s0:Sto) (n0:Nat) (a b:TreeT) (v:V) (st:St):Prop:=
 n0≤st.next∧(∀q,q<n0→sget st.s q=sget s0 q)∧
  ((z0r z0f [a,b]=0∧∃kd,v= .tup [.ptr kd 0,.d (.int .i64 0)]∧n0≤kd∧kd<st.next∧sget st.s kd=some (.cells (zab a b)))∨(z0r z0f [a,b]≠0∧v= .tup [.nilP,.d (.int .i64 (z0r z0f [a,b]))]))
def zs8  (ha:a.ok) (hb:b.ok)  {n0 lw:Nat} :PostV (z06 G (.fn 51 [] []) [.d a.d,.d b.d] {s:=s,next:=n0,low:=lw}) (y9n s n0 a b):=by
 have hC:∀s nx lw k,sget s k=some (.cells [.d (.sl (a.nodes.map NodeT.d)),.d (.int .i64 a.root),.d (.sl (b.nodes.map NodeT.d)),.d (.int .i64 b.root)])→z06 G (.fn 77 [] []) [.arr k 2 true 0 2] {s:=s,next:=nx,low:=lw} =some (.d (.int .i64 (z0r z0f [a,b])),{s:=s,next:=nx,low:=lw}):=fun s nx lw k h=>by
  have:=zek (l:= [a,b]) (by simp[LOk]) (fun x hx=>by simp at hx;rcases hx with rfl|rfl<;>assumption) {s:= [],next:=0,low:=0}
  exact z5h (ds:= [.sl ([a,b].map TreeT.d)]) (rs:= [.int .i64 (z0r z0f [a,b])]) T1.g77 rfl rfl (by have:=zdm (l:= [a,b]) (s:=s) (k:=k) (by rw[h];rfl);simp only[List.length_cons,List.length_nil,Nat.zero_add] at this;simp[z0p,this]) rfl this
 have hbx:∀k st,boxV k (mkAgg [.d (.sl (a.nodes.map NodeT.d)),.d (.int .i64 a.root),.d (.sl (b.nodes.map NodeT.d)),.d (.int .i64 b.root),.fn 78 [] []]) st=some (.ptr k 0,St.ins st k (.cells (zab a b))):=fun k st=>by
  simp only[boxV,z6o];rfl
 refine z1b (first:= []) (args:= [.d a.d,.d b.d]) (cap:= []) T1.g51 rfl rfl rfl (fun e w_len harg=> ?_)
 have w_len:e.length=19:=w_len
 have w_0:e.getD 0 .undef= .d a.d:=harg 0 ψ
 have w_1:e.getD 1 .undef= .d b.d:=harg 1 ψ
 clear harg
 by_cases h0:z0r z0f [a,b]=0
 ·simp only[T1.i51,TreeT.d,hC,hbx,h0,w_len,w_0,w_1,↓LA,LB,simprocAttr]
  exact⟨by show n0≤n0+18;omega,(by intro q hq;simp (disch:=omega) only[z00]),.inl ⟨h0,_,rfl,ω,by show n0+15<n0+18;omega,z03⟩⟩
 ·simp only[T1.i51,TreeT.d,hC,h0,w_len,w_0,w_1,↓LA,LB,simprocAttr]
  exact⟨Nat.le_add_right _ _,(by intro q hq;simp (disch:=omega) only[z00]),.inr ⟨h0,rfl⟩⟩
def PL (s:Sto) (lo hi:Nat) (v:V) (l:List D):Prop:= (v= .nilS∧l= [])∨∃k,v= .arr k 1 false 0 l.length∧lo≤k∧k<hi∧sget s k=some (.cells (scs l))
def PL.frame {s':Sto} {lo' hi':Nat}   (h:PL s lo hi v l) (hs:∀k,lo≤k→k<hi→sget s' k=sget s k) (h1:lo' ≤lo) (h2:hi≤hi'):PL s' lo' hi' v l:=by
 refine h.imp id ?_
 rintro⟨k,e,a,b,g⟩
 exact⟨k,e,ω,ω,by rw[hs k a b];exact g⟩
def PL.app     (h:PL s lo hi v l) {x:D} (ha:l.all D.sc=true) (hl:l.length≤1000000) {k1 key nx lw:Nat} (hx:x.sc=true) (h1:sget s k1=some (.cells [.d x])):
  ∃s' lw',z0v {s:=s,next:=nx,low:=lw} key 1 false 8 v (.arr k1 1 false 0 1)=some (.arr key 1 false 0 (l.length+1),{s:= (key,.cells (scs (l++ [x])))::s',next:=nx,low:=lw' })∧(∀q,(q<lo∨hi≤q)→sget s' q=sget s q)∧Nat.min lw lo≤lw' :=by
 obtain⟨rfl,rfl⟩|⟨k,rfl,hk,hk2,hg⟩:=h
 ·refine⟨s,lw,?_,fun _ _=>rfl,Nat.min_le_left _ _⟩
  exact zlk (es:= [x]) h1 (by simp[hx]) ψ rfl ψ ψ
 ·refine⟨sdel s k,Nat.min lw k,?_,fun q hq=>z10 ω,by simp only[Nat.min_def];split<;>split<;>omega⟩
  exact zrf (es:= [x]) hg h1 ha (by simp[hx]) rfl rfl (by simp;omega) (by simp;omega)
def zv6  (ha:l.all D.sc=true) (hl:l.length≤1000000)   {lw:Nat} (hv:PL s lo nx v l):
  PostV (z06 G (.fn 107 [] []) [v] {s:=s,next:=nx,low:=lw}) (fun r st=>nx≤st.next∧(∀q,q<nx→sget st.s q=sget s q)∧PL st.s nx st.next r l∧∀m,m≤lw→m≤nx→m≤st.low):=by
 obtain⟨rfl,rfl⟩|⟨k,rfl,hk,hk2,hg⟩:=hv
 ·refine zlg (args:= [.nilS]) T1.g107 rfl rfl rfl (fun e w_len harg=> ?_)
  have w_len:e.length=8:=w_len
  have w_0:e.getD 0 .undef= .nilS:=harg 0 ψ
  clear harg
  simp only[T1.i107,w_len,w_0,↓LA,LB,simprocAttr]
  exact⟨Nat.le_add_right _ _,(by intro q hq;trivial),.inl ⟨rfl,rfl⟩,fun m h1 h2=>z02 h1 (by show m≤nx;omega)⟩
 ·have hA:∀z nx' lw',sget z k=some (.cells (scs l))→sget z (nx+3)=some (.cells [])→z0v {s:=z,next:=nx',low:=lw' } (nx+5) 1 false 8 (.arr (nx+3) 1 false 0 0) (.arr k 1 false 0 l.length)=_:=fun z nx' lw' h h0=>zxc ha hl (.inr ⟨k,rfl,h⟩) h0
  have hne: (nx+3=k)=False:=by simp;omega
  refine zlg (args:= [.arr k 1 false 0 l.length]) T1.g107 rfl rfl rfl (fun e w_len harg=> ?_)
  have w_len:e.length=8:=w_len
  have w_0:e.getD 0 .undef= .arr k 1 false 0 l.length:=harg 0 ψ
  clear harg
  simp only[T1.i107,hA,hne,hg,w_len,w_0,↓LA,LB,simprocAttr]
  exact⟨Nat.le_add_right _ _,(by intro q hq;simp (disch:=omega) only[z10 (show nx+3≠q by omega),if_neg]),.inr ⟨_,rfl,ω,by show nx+5<nx+_;omega,z03⟩,fun m h1 h2=>by repeat' (first|omega|refine z02 ?_ ?_)⟩
end Go.Lift.K
namespace Go.Lift
open Go
variable {G:Nat→Option IFun}
def y8b (k:Nat) (env:List V) (Q:Ex→List V→St→Prop) (st:St):Prop:=
 ∃e p a b ls pend,st.get k=some (.loop e p a b ls pend)∧ls≠ .busy∧(match pend with
  |none=>Q .nrm env (st.del k)
  |some x=>Q x env (st.del k))
def y66 {cl:z12} {lp: (List V→St→Option (Ex×List V×St))→List V→St→Option (Ex×List V×St)} {f:Opd} {ps:Ln} {asg body:IC} {env:Lv} {st:St} {Q:Ex→List V→St→Prop} {q:Dm Q} {fn:Nat} {first cap:Lv}
  (hf:evO env f= .fn fn first cap)
  (h:PostV (cl (.fn fn first cap) [.yld st.next] {s:= (st.next,.loop env ps asg body .ready none)::st.s,next:=st.next+1,low:=st.low}) (fun _ st' =>y8b st.next env Q st')):
  PC (z0j cl lp none (.rf f ps asg body) env st) Q q:=by
 obtain⟨v,st',h1,e,p,a,b,ls,pend,h2,h3,h4⟩:=h
 have e0:okRd st none=true:=rfl
 show Post _ _
 simp only[z0j,e0,if_true,hf,h1,h2]
 cases ls with
 |busy=>exact absurd rfl h3
 |ready=>
  cases pend with
  |none=>exact⟨_,_,_,rfl,h4⟩
  |some x=>exact⟨_,_,_,rfl,h4⟩
 |done=>
  cases pend with
  |none=>exact⟨_,_,_,rfl,h4⟩
  |some x=>exact⟨_,_,_,rfl,h4⟩
 |exhausted=>
  cases pend with
  |none=>exact⟨_,_,_,rfl,h4⟩
  |some x=>exact⟨_,_,_,rfl,h4⟩
def y1w (k:Nat) (R:V→St→Prop) (x:Ex) (st:St):Prop:=
 ∃e p a b,st.get k=some (.loop e p a b .busy none)∧(match x with
  | .nrm=>R (.d (.bool true)) (st.set k (.loop e p a b .ready none))
  |x=>R (.d (.bool false)) (st.set k (.loop e p a b .done (some x))))
def y5d {k:Nat} {args:Lv} {st:St} {env env1:Lv} {ps:Ln} {asg body:IC} {R:V→St→Prop}
  (h0:sget st.s k=some (.loop env ps asg body .ready none)) (h1:zbd env ps args=some env1)
  (h:PC (z0j (z06 G) z0g (some k) asg env1 st) (fun x env2 st2=>x= .nrm∧∃e2 p2 a2,st2.get k=some (.loop e2 p2 a2 body .ready none)∧
   PC (z0j (z06 G) z0g (some k) body env2 (st2.set k (.loop e2 p2 a2 body .busy none))) (fun x _ st3=>y1w k R x st3) .mk) .mk):
  PostV (z06 G (.yld k) args st) R:=by
 obtain⟨x,env2,st2,hx,rfl,e2,p2,a2,hg,x',env3,st3,hx',e3,p3,a3,b3,hg3,hR⟩:=h
 rw[z1m]
 have h0' :st.get k=some (.loop env ps asg body .ready none):=h0
 simp only[z13,zh8,z69,h0',h1,hx,hg,hx',hg3]
 cases x' with
 |nrm=>exact⟨_,_,rfl,hR⟩
 |ret=>exact⟨_,_,rfl,hR⟩
 |brk j=>exact⟨_,_,rfl,hR⟩
end Go.Lift
namespace Go.Lift.K
open Go Go.Lift
variable{k kd nx na lw kq n n0:Nat}{env:Lv}{a b:TreeT}{s:Sto}{p:Nat×Nat}{v:V}
def zq9  {args:Lv} {st:St} {env1:Lv} {ps:Ln} {asg body:IC} {R:V→St→Prop} {A:List V→St→Prop}
  (h0:sget st.s k=some (.loop env ps asg body .ready none)) (h1:zbd env ps args=some env1)
  (h:PC (z0j (z06 T1.G) z0g (some k) asg env1 st) (fun x env2 st2=>x= .nrm∧A env2 st2) .mk)
  (h2:∀env2 st2,A env2 st2→sget st2.s k=some (.loop env ps asg body .ready none)∧PC (z0j (z06 T1.G) z0g (some k) body env2 (st2.set k (.loop env ps asg body .busy none))) (fun x _ st3=>y1w k R x st3) .mk):
  PostV (z06 T1.G (.yld k) args st) R:=by
 refine y5d h0 h1 ?_
 obtain⟨x,env2,st2,hx,rfl,hA⟩:=h
 obtain⟨g1,g2⟩:=h2 _ _ hA
 exact⟨_,_,_,hx,rfl,_,_,_,g1,g2⟩
def zoa  (ha:a.ok) (hb:b.ok)   {lw:Nat} (hkd:kd<nx) (hk:sget s kd=some (.cells (zab a b)))  (h1:p.1<a.nodes.length) (h2:p.2<b.nodes.length):
  z06 T1.G (.fn 79 [.ptr kd 0] []) [.d (prD p)] {s:=s,next:=nx,low:=lw} =some (.d (.bool (difS a.nodes[p.1] b.nodes[p.2])),{s:=s,next:=nx,low:=lw}):=by
 have h:=zgz ha hb hkd hk h1 h2 (lw:=lw) (nx:=nx)
 rw[z1m] at h⊢;simp only[z13] at h⊢
 exact h
def yAsg:IC:= (sq 2 [oo 6 (.alloc 0 [(.d (.int .i64 0)),(.d (.int .i64 0))]),os (ks 2 6 12)]
 (.reg 1 [om 7 13]))
def zo5:IC:= (.block 1 (sq 3 [oo 14 (kl 1 5),oo 15 (kL 2 6),oo 16 (.call (.o (.t 14)) [.t 15])]
 (.cond (.t 16) (sq 5 [om 17 7,oo 18 (kL 2 6),⟨none,ks 1 2 17,none,[6]⟩,os (ks 2 3 18),os (.store 1 (.t 4) ct)]
 (.exit 0))
 .skip)))
structure Ye (na kd:Nat) (env:List V):Prop where
 len:env.length=22
 a2:env.getD 2 .undef= .ptr na 0
 a3:env.getD 3 .undef= .ptr (na+1) 0
 a4:env.getD 4 .undef= .ptr (na+2) 0
 a5:env.getD 5 .undef= .ptr (na+5) 0
structure Ys (a b:TreeT) (na kd k:Nat) (env:List V) (s:Sto):Prop where
 lp:sget s k=some (.loop env [12,13] yAsg zo5 .ready none)
 dk:sget s kd=some (.cells (zab a b))
 un:sget s (na+5)=some (.cells [.fn 79 [.ptr kd 0] []])
 p0:sget s na=some (.cells [.nilS])
 p1:sget s (na+1)=some (.cells [.d (.int .i64 0),.d (.int .i64 0)])
 p2:sget s (na+2)=some (.cells [.d (.bool false)])
def Ys.frame    {s':Sto} (h:Ys a b na kd k env s) (hs:∀q,q≤k→sget s' q=sget s q) (h1:na+5<k) (h2:kd<na):Ys a b na kd k env s' :=⟨(hs _ ω).trans h.lp,(hs _ ω).trans h.dk,(hs _ ω).trans h.un,(hs _ ω).trans h.p0,(hs _ ω).trans h.p1,(hs _ ω).trans h.p2⟩
structure Yf (na k:Nat) (env:List V) (x:Nat×Nat) (v:V) (s:Sto):Prop where
 lp:sget s k=some (.loop env [12,13] yAsg zo5 .done (some (.brk 0)))
 p0:sget s na=some (.cells [v])
 p1:sget s (na+1)=some (.cells [.d (.int .i64 (x.1:Nat)),.d (.int .i64 (x.2:Nat))])
 p2:sget s (na+2)=some (.cells [.d (.bool true)])
def YR (a b:TreeT) (na k:Nat) (env:List V) (s:Sto) (nx:Nat) (p:Nat×Nat) (d:Bool) (v:V) (r:V) (st:St):Prop:=
 nx≤st.next∧na≤st.low∧((d=false∧r= .d (.bool true)∧∀q,q<nx→sget st.s q=sget s q)∨
  (d=true∧r= .d (.bool false)∧Yf na k env p v st.s∧∀q,q<nx→q≠k→(q<na∨na+3≤q)→sget st.s q=sget s q))
def zw6  (ha:a.ok) (hb:b.ok)     (he:Ye na kd env) (hs:Ys a b na kd k env s) (hk:k<nx) (hna:na+5<k) (hkd:kd<na) (hlw:na≤lw)
   (h1:p.1<a.nodes.length) (h2:p.2<b.nodes.length)  (hv:v.isCell=true∧cellsV v= [v]):
  PostV (z06 T1.G (.yld k) [.d (prD p),v] {s:=s,next:=nx,low:=lw}) (YR a b na k env s nx p (difS a.nodes[p.1] b.nodes[p.2]) v):=by
 obtain⟨w_len,w_2,w_3,w_4,w_5⟩:=he
 obtain⟨w_lp,w_dk,w_un,w_p0,w_p1,w_p2⟩:=hs
 obtain⟨hv1,hv2⟩:=hv
 refine zq9 (A:=fun env2 st2=>∃nx' lw',st2= {s:= (nx,.cells [.d (.int .i64 (p.1:Nat)),.d (.int .i64 (p.2:Nat))])::s,next:=nx',low:=lw' }∧nx+2≤nx' ∧na≤lw' ∧env2.length=22∧env2.getD 2 .undef= .ptr na 0∧env2.getD 3 .undef= .ptr (na+1) 0∧env2.getD 4 .undef= .ptr (na+2) 0∧env2.getD 5 .undef= .ptr (na+5) 0∧env2.getD 6 .undef= .ptr nx 0∧env2.getD 7 .undef=v) w_lp rfl ?_ ?_
 ·have w_x0:=hna
  simp only[yAsg,prD,w_len,w_2,w_3,w_4,w_5,↓LA,LB,simprocAttr]
  exact⟨_,_,rfl,by show nx+2≤nx+3;omega,by repeat' (first|omega|refine z02 ?_ ?_)⟩
 ·rintro env2 st2 ⟨nx',lw',rfl,hn,hln,w_len,w_2,w_3,w_4,w_5,w_6,w_7⟩
  refine⟨by rw[z00 ω];exact w_lp,?_⟩
  have w_n0: (nx=k)=False∧(k=nx)=False∧(k=na)=False∧(k=na+1)=False∧(k=na+2)=False∧(k=na+5)=False∧(k=kd)=False∧(nx=na)=False∧(nx=na+1)=False∧(nx=na+2)=False∧(nx=na+5)=False∧(nx=kd)=False:=by simp;omega
  have hU:∀z nx1 lw1,sget z kd=some (.cells (zab a b))→kd<nx1→z06 T1.G (.fn 79 [.ptr kd 0] []) [.d (.agg [.int .i64 (p.1:Nat),.int .i64 (p.2:Nat)])] {s:=z,next:=nx1,low:=lw1} =some (.d (.bool (difS a.nodes[p.1] b.nodes[p.2])),{s:=z,next:=nx1,low:=lw1}):=fun z nx1 lw1 hz hn1=>zoa ha hb hn1 hz h1 h2
  generalize hO:Obj.loop env [12,13] yAsg zo5 .busy none=O
  have w_kk:∀o,sget (sset s k o) k=some o:=fun o=>z05 w_lp
  have w_dk2:∀o,sget (sset s k o) kd=some (.cells (zab a b)):=fun o=>by rw[z0n ω];exact w_dk
  simp only[zo5,w_len,w_5,w_6,w_n0,w_un,↓LA,LB,simprocAttr]
  rw[hU _ _ _ (by rw[z00 ω];exact w_dk2 _) ω]
  cases hd:difS a.nodes[p.1] b.nodes[p.2] with
  |true=>
   simp only[hv1,hv2,w_len,w_2,w_3,w_4,w_6,w_7,w_n0,w_p0,w_p1,w_p2,↓LA,LB,simprocAttr]
   obtain⟨X,hX⟩:∃X,X= (nx,Obj.cells [V.d (D.int IntKind.i64 (p.fst:Nat)),V.d (D.int IntKind.i64 (p.snd:Nat))])::sset (sset (sset (sset s k O) na (Obj.cells [v])) (na+1) (Obj.cells [V.d (D.int IntKind.i64 (p.fst:Nat)),V.d (D.int IntKind.i64 (p.snd:Nat))])) (na+2) (Obj.cells [V.d (D.bool true)]):=⟨_,rfl⟩
   rw[←hX]
   have x0:∀q,q<nx→q≠k→(q<na∨na+3≤q)→sget X q=sget s q:=fun q g1 g2 g3=>by rw[hX];simp (disch:=omega) only[z00,z01]
   have x1:sget X k=some O:=by rw[hX];simp (disch:=omega) only[z00,z01];exact w_kk O
   have x2:sget X na=some (.cells [v]):=by
    rw[hX];simp (disch:=omega) only[z00,z01]
    exact z05 (by simp (disch:=omega) only[z01];exact w_p0)
   have x3:sget X (na+1)=some (.cells [.d (.int .i64 (p.1:Nat)),.d (.int .i64 (p.2:Nat))]):=by
    rw[hX];simp (disch:=omega) only[z00,z01]
    exact z05 (by simp (disch:=omega) only[z01];exact w_p1)
   have x4:sget X (na+2)=some (.cells [.d (.bool true)]):=by
    rw[hX];simp (disch:=omega) only[z00]
    exact z05 (by simp (disch:=omega) only[z01];exact w_p2)
   refine⟨env,[12,13],yAsg,zo5,by rw[hO];exact x1,by show nx≤nx' +8;omega,(by show na≤Nat.min _ _;repeat' (first|omega|refine z02 ?_ ?_)),.inr ⟨rfl,rfl,⟨z05 x1,?_,?_,?_⟩,fun q g1 g2 g3=> ?_⟩⟩
   ·exact (z0n ω).trans x2
   ·exact (z0n ω).trans x3
   ·exact (z0n ω).trans x4
   ·exact (z0n ω).trans (x0 q g1 g2 g3)
  |false=>
   simp (maxDischargeDepth:=60) only[w_len,↓LA,LB,simprocAttr]
   obtain⟨X,hX⟩:∃X,X= (nx,Obj.cells [V.d (D.int IntKind.i64 (p.fst:Nat)),V.d (D.int IntKind.i64 (p.snd:Nat))])::sset s k O:=⟨_,rfl⟩
   rw[←hX]
   have x0:∀q,q<nx→q≠k→sget X q=sget s q:=fun q g1 g2=>by rw[hX];simp (disch:=omega) only[z00,z01]
   have x1:sget X k=some O:=by rw[hX];simp (disch:=omega) only[z00];exact w_kk O
   refine⟨env,[12,13],yAsg,zo5,by rw[hO];exact x1,by show nx≤nx' +3;omega,(by show na≤Nat.min _ _;repeat' (first|omega|refine z02 ?_ ?_)),.inl ⟨rfl,rfl,fun q g1=> ?_⟩⟩
   by_cases e:q=k
   ·subst e;exact (z05 x1).trans w_lp.symm
   ·exact (z0n ω).trans (x0 q g1 e)
def qc (w:List ((Nat×Nat)×V)):List V:=w.flatMap fun x=> [.d (.int .i64 (x.1.1:Nat)),.d (.int .i64 (x.1.2:Nat)),x.2]
theorem y2k {x: (Nat×Nat)×V} {w:List ((Nat×Nat)×V)} :qc (x::w)= .d (.int .i64 (x.1.1:Nat)):: .d (.int .i64 (x.1.2:Nat))::x.2::qc w:=rfl
theorem y2j {x: (Nat×Nat)×V} {w:List ((Nat×Nat)×V)} :qc (w++ [x])=qc w++ [.d (.int .i64 (x.1.1:Nat)),.d (.int .i64 (x.1.2:Nat)),x.2]:=by simp[qc]
def Mq (es:List (D×V)) (o:List (Nat×Nat)):Prop:=∀p,z22 es (prD p)=if p∈o then some (.d (.bool true)) else none
def y2t {q:Nat×Nat} :D.beq (prD p) (prD q)=decide (p=q):=by
 simp only[prD,D.beq,D.beqL,Bool.and_true,decide_true,Bool.true_and]
 rw[Bool.eq_iff_iff,Bool.and_eq_true,decide_eq_true_eq,decide_eq_true_eq,decide_eq_true_eq,Prod.ext_iff]
 omega
def y0s {es:List (D×V)} {o:List (Nat×Nat)}  (h:Mq es o):Mq (z2c es (prD p) (.d (.bool true))) (o++ [p]):=fun q=>by
 rw[z5g,y2t,h q]
 by_cases e:p=q
 ·simp[e]
 ·have e' :¬q=p:=fun k=>e k.symm
  simp[e,e']
def zru  (h1:p.1≤1000000) (h2:p.2≤1000000):z2v true [.i .i64,.i .i64] (.agg [.int .i64 (p.1:Nat),.int .i64 (p.2:Nat)])=true:=by
 have e1:IntKind.i64.min= -9223372036854775808:=by decide
 have e2:IntKind.i64.max=9223372036854775807:=by decide
 simp[z2v,conf,z8y,e1,e2]
 omega
def sl_1 {base:Nat}  {st:St} {off:Nat} {cs:Lv} (h:evO env (.t 35)= .arr kq 3 true off (n+1)) (hc:sget st.s kq=some (.cells cs)) (hl:off+ (n+1)*3≤cs.length):
  evalOp base env st (.sliceL 3 (.t 35) (some (ci 1)) none)=some (.arr kq 3 true (off+3) n,st):=by
 have hc' :st.cells? kq=some cs:=by simp[St.cells?,scells,hc]
 simp only[evalOp]
 rw[h]
 have hb:z3t (Option.map (evO env) (some (ci 1))) (Option.map (evO env) none) (n+1) (if 3=0 then n+1 else (cs.length-off)/3)=some (1,n+1):=by
  simp only[Option.map_some,Option.map_none,z3t,asI,evO]
  rw[if_pos ⟨ω,ω⟩]
  rfl
 simp only[hc',hb]
 rw[if_pos (aI trivial hl)]
 rfl
def PL.pv  {lo hi:Nat}  {l:Ld} (h:PL s lo hi v l) {x:D} (ha:l.all D.sc=true) (hl:l.length≤1000000) {k1 key:Nat} (hx:x.sc=true) (h1:sget s k1=some (.cells [.d x])) {K:V→St→Prop} {kk:Dm K}
  (hK:∀s' lw',(∀q,(q<lo∨hi≤q)→sget s' q=sget s q)→(∀m,m≤lw→m≤lo→m≤lw')→K (.arr key 1 false 0 (l.length+1)) {s:= (key,.cells (scs (l++ [x])))::s',next:=nx,low:=lw' }):PV (z0v {s:=s,next:=nx,low:=lw} key 1 false 8 v (.arr k1 1 false 0 1)) K kk:=by
 obtain⟨s',lw',h2,h3,h4⟩:=h.app ha hl (nx:=nx) (lw:=lw) (key:=key) hx h1
 rw[h2,pv_some]
 exact hK _ _ h3 fun m g1 g2=>Nat.le_trans (z02 g1 g2) h4
def PQ (s:Sto) (n0 kq km nx n:Nat) (v:V):Prop:=∃l:List D,l.all D.sc=true∧l.length≤n∧((v= .nilS∧l= [])∨∃k,v= .arr k 1 false 0 l.length∧n0≤k∧k<nx∧k≠kq∧k≠km∧sget s k=some (.cells (scs l)))
def PQ.cell  {km:Nat}  (h:PQ s n0 kq km nx n v):v.isCell=true∧cellsV v= [v]∧V.beq v v=true:=by
 obtain⟨l,_,_,⟨rfl,_⟩|⟨k,rfl,_⟩⟩:=h
 ·exact⟨rfl,rfl,z5q⟩
 ·exact⟨rfl,rfl,z4o⟩
def PQ.frame {s':Sto} {km kq' nx' n':Nat}  (h:PQ s n0 kq km nx n v) (hs:∀k,n0≤k→k<nx→k≠kq→k≠km→sget s' k=sget s k) (h1:kq' =kq∨nx≤kq') (h3:nx≤nx') (h4:n≤n'):PQ s' n0 kq' km nx' n' v:=by
 obtain⟨l,a,b,h⟩:=h
 refine⟨l,a,ω,h.imp id ?_⟩
 rintro⟨k,e,g0,g1,g2,g3,g⟩
 exact⟨k,e,g0,ω,ω,g3,by rw[hs k g0 g1 g2 g3];exact g⟩
def zpw {l:List (Nat×Nat)} :opLen false (za7 l)=some l.length:=by
 unfold za7
 split
 ·rename_i h;subst h;rfl
 ·rw[zmc,List.length_map]
def zvr {l:List (Nat×Nat)} {j:Nat} (h:j<l.length):z08 2 (za7 l) (j:Int)=some (.dptr [.int .i64 (l[j].1:Nat),.int .i64 (l[j].2:Nat)]):=by
 unfold za7
 rw[if_neg (by intro e;subst e;simp at h)]
 exact zyl h
theorem y3r {a b:Lk}  {j:Nat} (h:j< (kidp a b p n).length): (kidp a b p n)[j]= (kid a p.1 j,kid b p.2 j):=by simp[kidp]
def y8d (a b:TreeT) (na kd k:Nat) (E:List V) (x y:Nat) (n0:Nat) (_:V) (st:St):Prop:=
 n0≤st.next∧na≤st.low∧((bis a.nodes b.nodes x y∧Ys a b na kd k E st.s)∨(¬bis a.nodes b.nodes x y∧∃p v,v.isCell=true∧cellsV v= [v]∧Yf na k E p v st.s))
def zs2  (ga:Gd a.nodes) (gb:Gd b.nodes) (ha:a.ok) (hb:b.ok) {x y:Nat} (hax:a.root=x) (hby:b.root=y) (hx:x<a.nodes.length) (hy:y<b.nodes.length)
  {kz:Nat} {E:Lv}   (he:Ye na kd E) (hs:Ys a b na kd k E s) (hk:k<n0) (hna:na+5<k) (hkd:kd<na) (hlw:na≤lw) (hc:sget s kz=some (.cells [.ptr kd 0])) (hck:na+5<kz∧kz<k):
  PostV (z06 T1.G (.fn 105 [] [.ptr kz 0]) [.yld k] {s:=s,next:=n0,low:=lw}) (y8d a b na kd k E x y n0):=by
 have hal:=ga.len
 have hbl:=gb.len
 have hmul:a.nodes.length*b.nodes.length≤3600:=Nat.mul_le_mul hal hbl
 have w_dk:sget s kd=some (.cells [.d (.sl (a.nodes.map NodeT.d)),.d (.int .i64 (x:Nat)),.d (.sl (b.nodes.map NodeT.d)),.d (.int .i64 (y:Nat)),.fn 78 [] []]):=by rw[hs.dk,zab,hax,hby]
 have w_kz:=hc
 have w_n0: (n0=kz)=False∧(n0=kd)=False∧(∀q,(n0+q=kz)=False)∧(∀q,(n0+q=kd)=False):=⟨by simp;omega,by simp;omega,fun q=>by simp;omega,fun q=>by simp;omega⟩
 have hcf:=zru (p:= (x,y)) (by show x≤_;omega) (by show y≤_;omega)
 have hU:=fun (z:Sto) (nx lw:Nat) (zz:V) (h:sget z (n0+16)=some (.map 130 []))=>z5f (nx:=nx) (lw:=lw) (x:=zz) hcf h
 refine z1b (first:= []) (args:= [.yld k]) (cap:= [.ptr kz 0]) T1.g105 rfl rfl rfl (fun e w_len harg=> ?_)
 have w_len:e.length=76:=w_len
 have w_0:e.getD 0 .undef= .yld k:=harg 0 ψ
 have w_1:e.getD 1 .undef= .ptr kz 0:=harg 1 ψ
 clear harg
 simp only[T1.i105,hU,w_len,w_1,w_dk,w_kz,↓LA,LB,simprocAttr]
 have hs2:∀z,Ys a b na kd k E ((n0+16,Obj.map 130 (z2c [] (D.agg [D.int .i64 (x:Nat),D.int .i64 (y:Nat)]) (.d (.bool true)))):: (n0+14,Obj.cells z)::s):=fun z=>hs.frame (fun q hq=>by rw[z00 ω,z00 ω]) hna hkd
 refine z0b (fun e0 s0 m env st=>∃(i nxi lwi:Nat) (si:Sto) (kq km off:Nat) (o:List (Nat×Nat)) (w:List ((Nat×Nat)×V)) (cs:Lv) (es:List (D×V)),m=3601-i∧(i≤3601)∧(n0≤kq∧kq<nxi∧n0≤km∧km<nxi∧kq≠km)∧(Ys a b na kd k E si)∧(Wi a.nodes b.nodes x y o)∧(w.map Prod.fst=o.drop i)∧(cs.drop off=qc w)∧(off+w.length*3=cs.length)∧(∀u∈w,PQ si n0 kq km nxi i u.2)∧(Mq es o)∧(∀j (h:j<o.length),j<i→Wd a.nodes b.nodes o o[j])∧(i≤o.length)∧sget si (kz)=some (.cells [.ptr kd 0])∧sget si (kq)=some (.cells cs)∧sget si (km)=some (.map 130 es)∧n0+24≤nxi∧na≤lwi∧env.length=76∧env.getD 4 .undef= .map km∧env.getD 0 .undef= .yld k∧env.getD 1 .undef= .ptr kz 0∧env.getD 3 .undef= .arr kq 3 true off w.length∧st= {s:=si,next:=nxi,low:=lwi}) ?_ (3601) (by refine⟨0,_,_,_,n0+14,n0+16,0,[(x,y)],[((x,y),.nilS)],[.d (.int .i64 (x:Nat)),.d (.int .i64 (y:Nat)),.nilS],z2c [] (D.agg [D.int .i64 (x:Nat),D.int .i64 (y:Nat)]) (.d (.bool true)),rfl,ω,ω,hs2 _,⟨by simp,by simpa using ⟨hx,hy⟩,by simp,fun h p hp=>by rw[List.mem_singleton] at hp;subst hp;exact h⟩,rfl,rfl,rfl,(by intro v hv;rw[List.mem_singleton] at hv;subst hv;exact⟨[],rfl,Nat.zero_le _,.inl ⟨rfl,rfl⟩⟩),y0s (p:= (x,y)) (o:= []) (fun p=>by simp[z22]),fun j h h' =>ω,Nat.zero_le _,?_,?_,?_,ω,(by first|exact Nat.zero_le _|omega|exact z02 ω ω|exact z02 (z02 ω ω) ω|exact z02 (z02 (z02 ω ω) ω) ω),?_,?_,?_,?_,?_,rfl⟩<;>simp (maxDischargeDepth:=60) only[w_len,w_0,w_1,w_kz,w_n0,LB,simprocAttr])
 rintro m env st ⟨i,nxi,lwi,si,kq,km,off,o,w,cs,es,hm,a_0,a_1,a_2,a_3,a_4,a_5,a_6,a_7,a_8,a_9,a_10,w_ac0,w_ac1,w_ac2,w_ab,w_alo,w_len,w_4,w_0,w_1,w_3,rfl⟩
 have w_aN:=aI (cf1 (x:=nxi) (a:=kz) ω) (aI (cf1 (x:=nxi) (a:=kq) ω) (cf1 (x:=nxi) (a:=km) ω))
 have w_aS:=aI (cf2 (x:=nxi) ω w_ac0) (aI (cf2 (x:=nxi) ω w_ac1) (cf2 (x:=nxi) ω w_ac2))
 have w_aZ:=zf (x:=nxi) (b:=n0) (n:=24) ω ω
 have hol:=a_3.len
 cases w with
 |nil=>
  have h0: ((0:Int)< ((0:Nat):Int))=False:=by simp
  have hoi:o.length≤i:=List.drop_eq_nil_iff.1 a_4.symm
  simp only[w_len,w_3,↓LA,LB,simprocAttr]
  exact⟨by show n0≤nxi+3;omega,by show na≤Nat.min _ _;repeat' (first|omega|refine z02 ?_ ?_),.inl ⟨y5g a_3 (fun p hp=>by obtain⟨j,hj,rfl⟩:=List.mem_iff_getElem.1 hp;exact a_9 j hj ω),a_2⟩⟩
 |cons u w=>
  obtain⟨p,v⟩:=u
  have hi:i<o.length:=by
   apply Classical.byContradiction
   intro h
   rw[List.drop_eq_nil_iff.2 ω] at a_4
   cases a_4
  rw[List.drop_eq_getElem_cons hi] at a_4
  obtain⟨hp,hw⟩:p=o[i]∧w.map Prod.fst=o.drop (i+1):=by
   rw[List.map_cons] at a_4
   exact⟨(List.cons.inj a_4).1,(List.cons.inj a_4).2⟩
  have hpm:p∈o:=by rw[hp];exact List.getElem_mem hi
  obtain⟨hp1,hp2⟩:=a_3.lt _ hpm
  have hpv:=a_7 _ (List.mem_cons_self ..)
  obtain⟨hv1,hv2,hv3⟩:=hpv.cell
  have h0:∀n:Nat,((0:Int)< ((n+1:Nat):Int))=True:=fun n=>eq_true ω
  have hia:∀k off n,z08 3 (.arr k 3 true off (n+1)) 0=some (.ptr k off):=fun k off n=>by
   simp only[z08]
   rw[if_pos ⟨ω,ω,trivial⟩]
   simp
  rw[List.length_cons] at a_6
  rw[y2k] at a_5
  have hl1: (off+3≤cs.length)=True:=eq_true ω
  have hl2:off+ (w.length+1)*3≤cs.length:=ω
  have hsl:=fun base env st h h' =>sl_1 (base:=base) (env:=env) (st:=st) (kq:=kq) (off:=off) (n:=w.length) (cs:=cs) h h' hl2
  simp only[h0,hia,a_5,hl1,hv1,hsl,w_len,w_0,w_3,w_ac1,w_aN,↓LA,LB,simprocAttr]
  refine z0d (zw6 (p:=p) ha hb he (a_2.frame (fun q hq=>by rw[z00 ω]) hna hkd) ω hna hkd (by repeat' (first|omega|refine z02 ?_ ?_)) hp1 hp2 ⟨hv1,hv2⟩) fun r st hR=> ?_
  obtain⟨hn1,hw1,hR⟩:=hR
  obtain⟨s1,n1,l1⟩:=st
  have hn1:nxi+18≤n1:=hn1
  have hw1:na≤l1:=hw1
  rcases hR with⟨hd,rfl,hf⟩|⟨hd,rfl,hy,hf⟩
  ·have hf:∀z,z<nxi+18→sget s1 z=sget ((nxi+6,Obj.cells [V.d (D.int IntKind.i64 (p.1:Nat)),V.d (D.int IntKind.i64 (p.2:Nat)),v])::si) z:=hf
   have w_y1:sget s1 kz=some (.cells [.ptr kd 0]):=by rw[hf _ ω,z00 ω];exact w_ac0
   have w_y3:sget s1 (nxi+6)=some (.cells [.d (.int .i64 (p.1:Nat)),.d (.int .i64 (p.2:Nat)),v]):=by rw[hf _ ω];exact z03
   have hy2:Ys a b na kd k E s1:=a_2.frame (fun q hq=>by rw[hf _ ω,z00 ω]) hna hkd
   have hkd1:kd<n1:=ω
   have hUl:=fun j lw=>zgz (lw:=lw) ha hb (nx:=n1+j) ω hy2.dk hp1 hp2
   have hBl:=fun j lw=>zuw (lw:=lw) ga gb (nx:=n1+j) ω hy2.dk hp1 hp2 hd
   rw[hd] at hUl
   unfold prD at hUl hBl
   have w_y4:sget s1 kq=some (.cells cs):=by rw[hf _ ω,z00 ω];exact w_ac1
   have w_y5:sget s1 km=some (.map 130 es):=by rw[hf _ ω,z00 ω];exact w_ac2
   simp only[hUl,hBl,zpw,z8l,w_len,w_1,w_y1,w_y3,↓LA,LB,simprocAttr]
   obtain⟨hdn,hdk⟩:=zct.1 hd
   have hk1:=ga.kids _ hp1
   rw[z2j hp1] at hk1
   have hq3:cs.drop (off+3)=qc w:=by rw[←List.drop_drop,a_5];rfl
   have hfr:∀z,z<nxi→sget s1 z=sget si z:=fun z hz=>by rw[hf _ ω,z00 ω]
   refine z0b (fun e0 s0 m env st=>∃(j nxj lwj:Nat) (sj:Sto) (kr ov:Nat) (q:List (Nat×Nat)) (u:List ((Nat×Nat)×V)) (ds:Lv) (fs:List (D×V)),m=a.nodes[p.1].kids.length-j∧(j≤a.nodes[p.1].kids.length)∧(n0≤kr∧kr<nxj∧kr≠km∧km<nxj∧(kr<nxi∨nxi+18≤kr))∧(Ys a b na kd k E sj)∧(Wi a.nodes b.nodes x y q)∧(∃m,q=o++m)∧(u.map Prod.fst=q.drop (i+1))∧(ds.drop ov=qc u)∧(ov+u.length*3=ds.length)∧(∀z∈u,PQ sj n0 kr km nxj (i+1) z.2)∧(PQ sj n0 kr km nxj i v)∧(Mq fs q)∧(∀t,t<j→(kid a.nodes p.1 t,kid b.nodes p.2 t)∈q)∧sget sj (kz)=some (.cells [.ptr kd 0])∧sget sj (nxi+6)=some (.cells [.d (.int .i64 (p.1:Nat)),.d (.int .i64 (p.2:Nat)),v])∧sget sj (kr)=some (.cells ds)∧sget sj (km)=some (.map 130 fs)∧nxi+18≤nxj∧na≤lwj∧env.length=76∧env.getD 53 .undef= .d (.int .i64 j)∧env.getD 0 .undef= .yld k∧env.getD 1 .undef= .ptr kz 0∧env.getD 3 .undef= .arr kr 3 true ov u.length∧env.getD 4 .undef= .map km∧env.getD 5 .undef= .ptr (nxi+6) 0∧env.getD 51 .undef=za7 (kidp a.nodes b.nodes p a.nodes[p.1].kids.length)∧env.getD 52 .undef= .d (.int .i64 a.nodes[p.1].kids.length)∧st= {s:=sj,next:=nxj,low:=lwj}) ?_ (a.nodes[p.1].kids.length) (by refine⟨0,_,_,_,kq,off+3,o,w,cs,es,rfl,ω,ω,hy2,a_3,⟨[],by simp⟩,hw,hq3,ω,(fun z hz=> (a_7 z (List.mem_cons_of_mem _ hz)).frame (fun k' _ g _ _=>hfr k' g) (.inl rfl) ω ω),hpv.frame (fun k' _ g _ _=>hfr k' g) (.inl rfl) ω (Nat.le_refl _),a_8,fun t h=>ω,?_,?_,?_,?_,ω,(by first|exact Nat.zero_le _|omega|exact z02 ω ω|exact z02 (z02 ω ω) ω|exact z02 (z02 (z02 ω ω) ω) ω),?_,?_,?_,?_,?_,?_,?_,?_,?_,rfl⟩<;>simp only[w_len,w_4,w_0,w_1,w_y1,w_y3,w_y4,w_y5,LB,simprocAttr])
   rintro m env st ⟨j,nxj,lwj,sj,kr,ov,q,u,ds,fs,hm,b_0,b_1,b_2,b_3,b_4,b_5,b_6,b_7,b_8,b_9,b_10,b_11,w_bc0,w_bc1,w_bc2,w_bc3,w_bb,w_blo,w_len,w_53,w_0,w_1,w_3,w_4,w_5,w_51,w_52,rfl⟩
   have w_bN:=aI (cf1 (x:=nxj) (a:=kz) ω) (aI (cf1 (x:=nxj) (a:=nxi+6) ω) (aI (cf1 (x:=nxj) (a:=kr) ω) (cf1 (x:=nxj) (a:=km) ω)))
   have w_bS:=aI (cf2 (x:=nxj) ω w_bc0) (aI (cf2 (x:=nxj) ω w_bc1) (aI (cf2 (x:=nxj) ω w_bc2) (cf2 (x:=nxj) ω w_bc3)))
   have w_bZ:=aI (zf (x:=nxj) (b:=nxi) (n:=18) ω ω) (zf (x:=nxj) (b:=n0) (n:=24) ω ω)
   obtain⟨m',hm'⟩:=b_4
   have hql:=b_3.len
   have hql3:o.length≤q.length:=by rw[hm',List.length_append];omega
   by_cases hj:j<a.nodes[p.1].kids.length
   ·have hj2:j<b.nodes[p.2].kids.length:=by rw[←hdk];exact hj
    obtain⟨hke1,hkn1⟩:=ga.at_ hp1 hj
    obtain⟨hke2,hkn2⟩:=gb.at_ hp2 hj2
    have hat:=zvr (l:=kidp a.nodes b.nodes p a.nodes[p.1].kids.length) (j:=j) (by rw[z8l];exact hj)
    rw[y3r] at hat
    have hcj:=zru (p:= (kid a.nodes p.1 j,kid b.nodes p.2 j)) (by show kid _ _ _≤_;omega) (by show kid _ _ _≤_;omega)
    have hget:=b_10 (kid a.nodes p.1 j,kid b.nodes p.2 j)
    by_cases hin: (kid a.nodes p.1 j,kid b.nodes p.2 j)∈q
    ·rw[if_pos hin] at hget
     have hlk:=fun z nx lw zero (h:sget z km=some (.map 130 fs))=> (z9d (s:=z) (nx:=nx) (lw:=lw) (zero:=zero) hcj h).trans (congrArg (fun o=>some (Option.getD o zero)) hget)
     simp only[hj,hat,hlk,Option.getD_some,z07 hj ω,w_len,w_53,w_4,w_51,w_52,w_bc3,w_bN,↓LA,LB,simprocAttr]
     exact z09 (by refine⟨_,ω,j+1,_,_,_,kr,ov,q,u,ds,fs,rfl,ω,ω,b_2.frame (fun z hz=>by rw[z00 ω]) hna hkd,b_3,⟨m',hm'⟩,b_5,b_6,b_7,(fun z hz=> (b_8 z hz).frame (fun k' _ g _ _=>by rw[z00 ω]) (.inl rfl) ω (Nat.le_refl _)),b_9.frame (fun k' _ g _ _=>by rw[z00 ω]) (.inl rfl) ω (Nat.le_refl _),b_10,(fun t ht=>if e:t=j then by subst e;exact hin else b_11 t ω),?_,?_,?_,?_,ω,(by first|exact Nat.zero_le _|omega|exact z02 ω ω|exact z02 (z02 ω ω) ω|exact z02 (z02 (z02 ω ω) ω) ω),?_,?_,?_,?_,?_,?_,?_,?_,?_,rfl⟩<;>simp only[w_len,w_0,w_1,w_3,w_4,w_5,w_51,w_52,w_bc0,w_bc1,w_bc2,w_bc3,w_bN,LB,simprocAttr])
    ·rw[if_neg hin] at hget
     have hlk:=fun z nx lw zero (h:sget z km=some (.map 130 fs))=> (z9d (s:=z) (nx:=nx) (lw:=lw) (zero:=zero) hcj h).trans (congrArg (fun o=>some (Option.getD o zero)) hget)
     have hUp:=fun z nx lw zz (h:sget z km=some (.map 130 fs))=>z5f (s:=z) (nx:=nx) (lw:=lw) (x:=zz) hcj h
     obtain⟨l,hl1,hl2,hl3⟩:=b_9
     have w_k0: (km=kz)=False∧(km=nxi+6)=False∧(km=kr)=False:=by simp;omega
     have w_k1:∀o',sget (sset sj km o') km=some o' :=fun o' =>z05 w_bc3
     simp only[hj,hat,hlk,Option.getD_none,hUp,w_len,w_53,w_3,w_4,w_5,w_51,w_52,w_bc1,w_bc3,w_bN,w_k0,↓LA,LB,simprocAttr]
     obtain⟨fs',hfs'⟩:∃fs',fs' =z2c fs (D.agg [D.int IntKind.i64 (kid a.nodes p.1 j:Nat),D.int IntKind.i64 (kid b.nodes p.2 j:Nat)]) (V.d (D.bool true)):=⟨_,rfl⟩
     simp only[←hfs']
     have hPL:PL ((nxj+4,Obj.cells [V.d (D.int IntKind.i64 (kid a.nodes p.1 j:Nat)),V.d (D.int IntKind.i64 (kid b.nodes p.2 j:Nat))])::sset sj km (.map 130 fs')) n0 (nxj+26) v l:=by
      refine hl3.imp id ?_
      rintro⟨k',e1,e2,e3,e4,e5,e6⟩
      exact⟨k',e1,e2,ω,by rw[z00 ω,z01 ω];exact e6⟩
     refine z0d (zv6 hl1 ω (lo:=n0) hPL) fun r st hR=> ?_
     obtain⟨s2,n2,l2⟩:=st
     obtain⟨hn2,hf2,hp2',hlw2⟩:=hR
     have hn2:nxj+26≤n2:=hn2
     have hf2:∀z,z<nxj+26→sget s2 z=sget ((nxj+4,Obj.cells [V.d (D.int IntKind.i64 (kid a.nodes p.1 j:Nat)),V.d (D.int IntKind.i64 (kid b.nodes p.2 j:Nat))])::sset sj km (.map 130 fs')) z:=hf2
     have hp2' :PL s2 (nxj+26) n2 r l:=hp2'
     have w_z0:sget s2 (nxj+4)=some (.cells [V.d (D.int IntKind.i64 (kid a.nodes p.1 j:Nat)),V.d (D.int IntKind.i64 (kid b.nodes p.2 j:Nat))]):=by rw[hf2 _ ω];exact z03
     have w_z1:sget s2 (nxi+6)=some (.cells [.d (.int .i64 (p.1:Nat)),.d (.int .i64 (p.2:Nat)),v]):=by rw[hf2 _ ω,z00 ω,z01 ω];exact w_bc1
     have w_z2:sget s2 kr=some (.cells ds):=by rw[hf2 _ ω,z00 ω,z01 ω];exact w_bc2
     have w_z3:sget s2 km=some (.map 130 fs'):=by rw[hf2 _ ω,z00 ω];exact w_k1 _
     have w_z4:sget s2 kz=some (.cells [.ptr kd 0]):=by rw[hf2 _ ω,z00 ω,z01 ω];exact w_bc0
     simp only[hv3,w_len,w_bN,w_z0,w_z1,↓LA,LB,simprocAttr]
     have hPL2:PL ((nxj+20,Obj.cells [V.d (D.int IntKind.i64 (j:Nat))])::s2) (nxj+26) n2 r l:=hp2'.frame (fun k' g1 g2=>by rw[z00 ω]) (Nat.le_refl _) (Nat.le_refl _)
     refine hPL2.pv hl1 ω rfl z03 fun s3 l3 hf3 hlw3=> ?_
     have hl2' :na≤l2:=hlw2 na (by repeat' (first|omega|refine z02 ?_ ?_)) ω
     have hl3' :na≤l3:=hlw3 na (by repeat' (first|omega|refine z02 ?_ ?_)) ω
     have hf4:∀z,z<nxj+20→sget s3 z=sget s2 z:=fun z hz=>by rw[hf3 _ (.inl ω),z00 ω]
     have w_v0:= (hf4 (nxj+4) ω).trans w_z0
     have w_v1:= (hf4 (nxi+6) ω).trans w_z1
     have w_v2:= (hf4 kr ω).trans w_z2
     have w_v3:= (hf4 km ω).trans w_z3
     have w_v4:= (hf4 kz ω).trans w_z4
     have w_sd:∀s j,(kr=j)=False→sget (sdel s kr) j=sget s j:=fun s j h=>zje h
     have w_k2: (kr=kz)=False∧(kr=nxi+6)=False∧(kr=km)=False:=by simp;omega
     have hul:u.length≤3600:=by have:=congrArg List.length b_5;rw[List.length_map,List.length_drop] at this;omega
     simp only[w_len,w_z0,w_v0,↓LA,LB,simprocAttr]
     rw[zge (n:=u.length) (m:=1) (off:=ov) (cs:=ds) (ds:= [V.d (D.int IntKind.i64 (kid a.nodes p.1 j:Nat)),V.d (D.int IntKind.i64 (kid b.nodes p.2 j:Nat)),.arr (nxj+21) 1 false 0 (l.length+1)]) (by simp (disch:=omega) only[z00];exact w_v2) z03 b_7.symm rfl ω ω rfl ω ω]
     simp only[z07 hj ω,w_len,w_53,w_bN,↓LA,LB,simprocAttr]
     have hch:∀c1 c2 c3 z,z<nxj→z≠kr→z≠km→sget ((nxj+24,c1):: (nxj+23,c2):: (nxj+21,c3)::sdel s3 kr) z=sget sj z:=fun c1 c2 c3 z g1 g2 g3=>by
      rw[z00 ω,z00 ω,z00 ω,z10 ω,hf4 _ ω,hf2 _ ω,z00 ω,z01 ω]
     have hb9:PQ sj n0 kr km nxj i v:=⟨l,hl1,hl2,hl3⟩
     have hwi:=y5i ga.rt gb.rt b_3 (p:=p) (by rw[hm'];exact List.mem_append_left _ hpm) (by rw[z2j hp1,z2j hp2];exact hd) (k:=j) (by rw[z2j hp1];exact hj) hin
     have w_ul:u.length+1= (u++ [((kid a.nodes p.1 j,kid b.nodes p.2 j),V.arr (nxj+21) 1 false 0 (l.length+1))]).length:=by simp
     exact z09 (by refine⟨_,ω,j+1,_,_,_,nxj+24,0,q++ [(kid a.nodes p.1 j,kid b.nodes p.2 j)],u++ [((kid a.nodes p.1 j,kid b.nodes p.2 j),V.arr (nxj+21) 1 false 0 (l.length+1))],ds.drop ov++ [V.d (D.int IntKind.i64 (kid a.nodes p.1 j:Nat)),V.d (D.int IntKind.i64 (kid b.nodes p.2 j:Nat)),V.arr (nxj+21) 1 false 0 (l.length+1)],fs',rfl,ω,ω,b_2.frame (fun z hz=>hch _ _ _ z ω ω ω) hna hkd,hwi,⟨m' ++ [(kid a.nodes p.1 j,kid b.nodes p.2 j)],by rw[hm',List.append_assoc]⟩,(by rw[List.map_append,b_5,List.drop_append_of_le_length ω];rfl),(by rw[List.drop_zero,b_6,y2j]),(by simp;omega),(fun z hz=> (List.mem_append.1 hz).elim (fun hz=> (b_8 z hz).frame (fun k' g0 g1 g2 g3=>hch _ _ _ k' g1 g2 g3) (.inr ω) ω (Nat.le_refl _)) (fun hz=>by rw[List.mem_singleton] at hz;subst hz;exact⟨l++ [.int .i64 (j:Nat)],by simp[hl1,D.sc],by simp;omega,.inr ⟨nxj+21,by simp,ω,ω,ω,ω,by rw[z00 ω,z00 ω];exact z03⟩⟩)),hb9.frame (fun k' g0 g1 g2 g3=>hch _ _ _ k' g1 g2 g3) (.inr ω) ω (Nat.le_refl _),(by rw[hfs'];exact y0s (p:= (kid a.nodes p.1 j,kid b.nodes p.2 j)) b_10),(fun t ht=> (Nat.lt_succ_iff_lt_or_eq.1 ht).elim (fun h=>List.mem_append_left _ (b_11 t h)) (fun e=>by subst e;simp)),?_,?_,?_,?_,ω,(by first|exact Nat.zero_le _|omega|exact z02 ω ω|exact z02 (z02 ω ω) ω|exact z02 (z02 (z02 ω ω) ω) ω),?_,?_,?_,?_,?_,?_,?_,?_,?_,rfl⟩<;>simp only[w_len,w_0,w_1,w_4,w_5,w_51,w_52,w_bN,w_v1,w_v3,w_v4,w_sd,w_k2,w_ul,LB,simprocAttr])
   ·have hkw:Wd a.nodes b.nodes q p:=⟨by rw[z2j hp1,z2j hp2];exact hd,fun t ht=>b_11 t (by rw[z2j hp1] at ht;omega)⟩
    have hql2:o.length≤q.length:=by rw[hm',List.length_append];omega
    have hwd:∀t (h:t<q.length),t<i+1→Wd a.nodes b.nodes q q[t]:=fun t ht hti=>by
     have hto:t<o.length:=ω
     have hqt:q[t]=o[t]:=by simp only[hm'];exact List.getElem_append_left hto
     by_cases e:t=i
     ·subst e;rw[hqt,←hp];exact hkw
     ·obtain⟨g1,g2⟩:=a_9 t hto ω
      rw[hqt]
      exact⟨g1,fun z hz=>by rw[hm'];exact List.mem_append_left _ (g2 z hz)⟩
    simp only[hj,w_len,w_53,w_52,↓LA,LB,simprocAttr]
    exact z09 (by refine⟨_,ω,i+1,_,_,_,kr,km,ov,q,u,ds,fs,rfl,ω,ω,b_2,b_3,b_5,b_6,b_7,(fun z hz=> (b_8 z hz).frame (fun _ _ _ _ _=>rfl) (.inl rfl) ω (Nat.le_refl _)),b_10,hwd,ω,?_,?_,?_,ω,(by first|exact Nat.zero_le _|omega|exact z02 ω ω|exact z02 (z02 ω ω) ω|exact z02 (z02 (z02 ω ω) ω) ω),?_,?_,?_,?_,?_,rfl⟩<;>simp only[w_len,w_0,w_1,w_3,w_4,w_bc0,w_bc2,w_bc3,LB,simprocAttr])
  ·simp only[w_len,↓LA,LB,simprocAttr]
   exact⟨by show n0≤n1;omega,by show na≤Nat.min _ _;repeat' (first|omega|refine z02 ?_ ?_),.inr ⟨fun hb' =>y5h a_3 hpm (by rw[z2j hp1,z2j hp2];exact hd) hb',p,v,hv1,hv2,hy⟩⟩
end Go.Lift.K
