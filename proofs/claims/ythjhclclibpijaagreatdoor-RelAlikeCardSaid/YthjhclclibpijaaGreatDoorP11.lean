/- Part P11 of the proof. -/
import Derived.Test.YthjhclclibpijaaGreatDoorP10
set_option linter.all false
set_option maxHeartbeats 4000000
set_option maxRecDepth 100000
namespace Go.Lift.K
open Go Go.Lift Classical
def zuu {kd:Nat} {s:Sto} {nx lw:Nat} :PostV (z06 G (.fn 80 [] []) [.ptr kd 0] {s:=s,next:=nx,low:=lw}) (fun v st=>v= .fn 105 [] [.ptr nx 0]∧∃lw',st= {s:= (nx,.cells [.ptr kd 0])::s,next:=nx+4,low:=lw' }∧∀m,m≤lw→m≤nx→m≤lw'):=by
 refine z1b (first:= []) (args:= [.ptr kd 0]) (cap:= []) T1.g80 rfl rfl rfl (fun e w_len harg=> ?_)
 have w_len:e.length=4:=w_len
 have w_0:e.getD 0 .undef= .ptr kd 0:=harg 0 ψ
 clear harg
 simp only[T1.i80,w_len,w_0,↓LA,LB,simprocAttr]
 exact⟨_,rfl,fun m h1 h2=>by repeat' (first|omega|refine z02 ?_ ?_)⟩
def y8h (a b:TreeT) (x y:Nat) (v:V) (_:St):Prop:=∃(v1:V) (i j:Int),v= .tup [v1,.d (.agg [.int .i64 i,.int .i64 j]),.d (.bool (!decide (bis a.nodes b.nodes x y)))]
def zzz {a b:TreeT} (ga:Gd a.nodes) (gb:Gd b.nodes) (ha:a.ok) (hb:b.ok) {x y:Nat} (hax:a.root=x) (hby:b.root=y) (hx:x<a.nodes.length) (hy:y<b.nodes.length)
  {kd:Nat} {s:Sto} {n0 lw:Nat} (hkd:kd<n0) (hd:sget s kd=some (.cells (zab a b))):
  PostV (z06 G (.fn 52 [] []) [.ptr kd 0] {s:=s,next:=n0,low:=lw}) (y8h a b x y):=by
 refine z1b (first:= []) (args:= [.ptr kd 0]) (cap:= []) T1.g52 rfl rfl rfl (fun e w_len harg=> ?_)
 have w_len:e.length=22:=w_len
 have w_0:e.getD 0 .undef= .ptr kd 0:=harg 0 ψ
 clear harg
 simp (maxDischargeDepth:=60) only[T1.i52,w_len,w_0,↓LA,LB,simprocAttr]
 refine z0d zuu fun r st hR=> ?_
 obtain⟨rfl,lw',rfl,hlw⟩:=hR
 have w_x0: (n0=kd)=False:=by simp;omega
 simp (maxDischargeDepth:=60) only[↓LA,LB,simprocAttr]
 obtain⟨E,hE⟩:∃E,E= ((((((((e.set 2 (V.ptr n0 0)).set 3 (V.ptr (n0+1) 0)).set 4 (V.ptr (n0+2) 0)).set 8 (V.ptr kd 0)).set 9 (V.fn 79 [V.ptr kd 0] [])).set 5 (V.ptr (n0+5) 0)).set 10 (V.ptr kd 0)).set 11 (V.fn 105 [] [V.ptr (n0+9) 0])):=⟨_,rfl⟩
 rw[←hE]
 have hEe:Ye n0 kd E:=by rw[hE];constructor<;>simp (maxDischargeDepth:=60) only[w_len,LB,simprocAttr]
 have hE11:E.getD 11 .undef=V.fn 105 [] [V.ptr (n0+9) 0]:=by rw[hE];simp (maxDischargeDepth:=60) only[w_len,LB,simprocAttr]
 refine y66 (fn:=105) (first:= []) (cap:= [.ptr (n0+9) 0]) hE11 ?_
 have hlw2:n0≤lw' :=hlw n0 (by repeat' (first|omega|refine z02 ?_ ?_)) ω
 refine PostV.mono (zs2 (E:=E) (na:=n0) (kz:=n0+9) (k:=n0+13) ga gb ha hb hax hby hx hy hEe (kd:=kd) ?_ ?_ ?_ hkd ?_ ?_ ?_) ?_
 ·exact⟨z03,by simp (disch:=omega) only[z00];exact hd,by simp (disch:=omega) only[z00,z03],by simp (disch:=omega) only[z00,z03],by simp (disch:=omega) only[z00,z03],by simp (disch:=omega) only[z00,z03]⟩
 ·show n0+13<n0+13+1;omega
 ·omega
 ·exact hlw2
 ·simp (disch:=omega) only[z00,z03]
 ·omega
 ·rintro v ⟨s1,n1,l1⟩ ⟨hn1,hl1,hR⟩
  obtain⟨w_len,w_2,w_3,w_4,w_5⟩:=hEe
  rcases hR with⟨hb1,hy1⟩|⟨hb1,p,v1,hv1,hv2,hy1⟩
  ·refine⟨_,_,_,_,_,_,hy1.lp,by simp,?_⟩
   have w_y0:sget (sdel s1 (n0+13)) n0=some (.cells [.nilS]):= (z10 ω).trans hy1.p0
   have w_y1:sget (sdel s1 (n0+13)) (n0+1)=some (.cells [.d (.int .i64 0),.d (.int .i64 0)]):= (z10 ω).trans hy1.p1
   have w_y2:sget (sdel s1 (n0+13)) (n0+2)=some (.cells [.d (.bool false)]):= (z10 ω).trans hy1.p2
   show outB 0 _ _ _ (St.del _ _)
   simp (maxDischargeDepth:=60) only[St.del,w_len,w_2,w_3,w_4,w_y0,w_y1,w_y2,↓LA,LB,simprocAttr]
   exact⟨_,_,_,by rw[show decide (bis a.nodes b.nodes x y)=_ from decide_eq_true hb1];rfl⟩
  ·refine⟨_,_,_,_,_,_,hy1.lp,by simp,?_⟩
   have w_y0:sget (sdel s1 (n0+13)) n0=some (.cells [v1]):= (z10 ω).trans hy1.p0
   have w_y1:sget (sdel s1 (n0+13)) (n0+1)=some (.cells [.d (.int .i64 (p.1:Nat)),.d (.int .i64 (p.2:Nat))]):= (z10 ω).trans hy1.p1
   have w_y2:sget (sdel s1 (n0+13)) (n0+2)=some (.cells [.d (.bool true)]):= (z10 ω).trans hy1.p2
   show outB 0 _ _ _ (St.del _ _)
   simp (maxDischargeDepth:=60) only[St.del,hv1,hv2,w_len,w_2,w_3,w_4,w_y0,w_y1,w_y2,↓LA,LB,simprocAttr]
   exact⟨_,_,_,by rw[show decide (bis a.nodes b.nodes x y)=_ from decide_eq_false hb1];rfl⟩
def zcn {a b:TreeT} :z0r z0f [a,b]=if z0f a=0 then z0f b else z0f a:=by
 by_cases h:z0f a=0<;>by_cases h2:z0f b=0<;>simp[z0r,h,h2]
noncomputable def z5p (a b:TreeT):Bool:=decide (z0f a=0)&& (decide (z0f b=0)&&decide (bis a.nodes b.nodes a.root.toNat b.root.toNat))
def zo2 {a b:TreeT} (ha:a.ok) (hb:b.ok) (st:St):
  z06 G (.fn 28 [] []) [.d a.d,.d b.d] st=some (.tup [.d (.bool (z5p a b)),.d (.int .i64 (z0r z0f [a,b]))],st):=by
 have hx0:∀a b:V,[a,b][0]?=some a:=fun _ _=>rfl
 have hx1:∀a b:V,[a,b][1]?=some b:=fun _ _=>rfl
 have hz0:∀a b c:V,[a,b,c][0]?=some a:=fun _ _ _=>rfl
 have hz1:∀a b c:V,[a,b,c][1]?=some b:=fun _ _ _=>rfl
 have hz2:∀a b c:V,[a,b,c][2]?=some c:=fun _ _ _=>rfl
 refine z19 (ds:= [a.d,b.d]) (rs:= [.bool (z5p a b),.int .i64 (z0r z0f [a,b])]) T1.g28 rfl rfl (fun e w_len harg=> ?_) st
 have w_len:e.length=28:=w_len
 have w_0:=harg 0 ψ
 have w_1:=harg 1 ψ
 clear harg
 simp only[List.map_cons,List.map_nil,List.getD_cons_zero,List.getD_cons_succ] at w_0 w_1
 simp (maxDischargeDepth:=60) only[T1.i28,TreeT.d,w_len,w_0,w_1,↓LA,LB,simprocAttr]
 refine z0d (zs8 ha hb) fun r st hR=> ?_
 obtain⟨hn,hf,⟨e0,kd,rfl,hk0,hk1,hk2⟩|⟨h,rfl⟩⟩:=hR
 ·have e0' :=e0
  rw[zcn] at e0'
  have ea:z0f a=0:=by
   apply Classical.byContradiction
   intro h
   rw[if_neg h] at e0'
   exact h e0'
  rw[if_pos ea] at e0'
  have eb:=e0'
  have oa:=z7l ea
  have ob:=z7l eb
  have hax:a.root= (a.root.toNat:Nat):=by have:=oa.rl;omega
  have hby:b.root= (b.root.toNat:Nat):=by have:=ob.rl;omega
  have hx:a.root.toNat<a.nodes.length:=by have:=oa.rh;omega
  have hy:b.root.toNat<b.nodes.length:=by have:=ob.rh;omega
  obtain⟨s1,n1,l1⟩:=st
  simp (maxDischargeDepth:=60) only[hx0,hx1,w_len,↓LA,LB,simprocAttr]
  refine z0d (zzz oa.gd ob.gd ha hb hax hby hx hy (by show kd<n1+_;have:kd<n1:=hk1;omega) hk2) fun r st hR=> ?_
  obtain⟨v1,ci1,ci2,rfl⟩:=hR
  obtain⟨s2,n2,l2⟩:=st
  simp (maxDischargeDepth:=60) only[hz0,hz1,hz2,Bool.not_not,w_len,↓LA,LB,simprocAttr]
  exact rq2 (by rw[e0,z5p,ea,eb];simp)
 ·have hne:decide (z0r z0f [a,b]=0)=false:=decide_eq_false h
  obtain⟨s1,n1,l1⟩:=st
  simp (maxDischargeDepth:=60) only[hx0,hx1,h,w_len,↓LA,LB,simprocAttr]
  refine rq2 ?_
  have:z5p a b=false:=by
   rw[zcn] at h
   unfold z5p
   by_cases ea:z0f a=0
   ·rw[if_pos ea] at h;simp[h]
   ·simp[ea]
  rw[this]
def NodeT.inj {a b:NodeT} (h:a.d=b.d):a=b:=by
 cases a;cases b
 simp only[NodeT.d,D.agg.injEq,List.cons.injEq,D.str.injEq,D.sl.injEq,and_true] at h
 obtain⟨h1,h2⟩:=h
 rw[h1,(List.map_inj_right (f:=D.int .i64) (fun x y e=>by injection e)).1 h2]
def TreeT.inj {a b:TreeT} (h:a.d=b.d):a=b:=by
 cases a;cases b
 simp only[TreeT.d,D.agg.injEq,List.cons.injEq,D.int.injEq,D.sl.injEq,and_true,true_and] at h
 obtain⟨h1,h2⟩:=h
 rw[h2,(List.map_inj_right (f:=NodeT.d) (fun x y e=>NodeT.inj e)).1 h1]
noncomputable def alP (x y:D):Bool:=decide (∃a b:TreeT,a.d=x∧b.d=y∧z5p a b=true)
def y88 {a b:TreeT} :alP a.d b.d=z5p a b:=by
 unfold alP
 rw[Bool.eq_iff_iff,decide_eq_true_eq]
 refine⟨?_,fun h=>⟨a,b,rfl,rfl,h⟩⟩
 rintro⟨a',b',h1,h2,h⟩
 rw[TreeT.inj h1,TreeT.inj h2] at h
 exact h
def zda {a b:TreeT} :z5p a b=true↔z0f a=0∧z0f b=0∧z1o a=z1o b:=by
 unfold z5p
 simp only[Bool.and_eq_true,decide_eq_true_eq]
 refine and_congr_right fun h1=>and_congr_right fun h2=> ?_
 have oa:=z7l h1
 have ob:=z7l h2
 rw[←zhv oa.gd.rt ob.gd.rt oa.nat.2 ob.nat.2]
 unfold z1o
 exact⟨fun h=>by rw[h],fun h=>by injection h⟩
def y17 {l:Lt} :z0r z0f l=0↔∀t∈l,z0f t=0:=by
 unfold z0r
 constructor
 ·intro h t ht
  apply Classical.byContradiction
  intro h0
  cases hf:l.find? (fun t=>decide (z0f t≠0)) with
  |none=>
   rw[List.find?_eq_none] at hf
   have:=hf t ht
   simp at this
   exact h0 this
  |some u=>
   rw[hf] at h
   have:=List.find?_some hf
   simp at this
   exact this h
 ·intro h
  have:l.find? (fun t=>decide (z0f t≠0))=none:=by
   rw[List.find?_eq_none]
   intro x hx
   simp[h x hx]
  rw[this]
theorem ziz:∀{l m:List TreeT},all2 alP (l.map TreeT.d) (m.map TreeT.d)=true↔(∀t∈l,z0f t=0)∧(∀t∈m,z0f t=0)∧l.map z1o=m.map z1o
 | [],[]=>by simp[all2]
 | [],_::_=>by simp[all2]
 |_::_,[]=>by simp[all2]
 |x::l,y::m=>by
  simp only[List.map_cons,all2,Bool.and_eq_true,y88,zda,ziz (l:=l) (m:=m),List.forall_mem_cons,List.cons.injEq]
  constructor
  ·rintro⟨⟨a1,a2,a3⟩,b1,b2,b3⟩;exact⟨⟨a1,b1⟩,⟨a2,b2⟩,a3,b3⟩
  ·rintro⟨⟨a1,b1⟩,⟨a2,b2⟩,a3,b3⟩;exact⟨⟨a1,a2,a3⟩,b1,b2,b3⟩
def y2c {a b:GoalT} :zoh a b= (decide (a.rel=b.rel)&&all2 alP (a.args.map TreeT.d) (b.args.map TreeT.d)):=by
 have hg:z1c a=z1c b↔a.rel=b.rel∧a.args.map z1o=b.args.map z1o:=by unfold z1c;simp
 rw[Bool.eq_iff_iff,zoh,Bool.and_eq_true,Bool.and_eq_true,Bool.and_eq_true,decide_eq_true_eq,decide_eq_true_eq,decide_eq_true_eq,decide_eq_true_eq,ziz,y17,y17,hg]
 constructor
 ·rintro⟨h1,h2,h3,h4⟩;exact⟨h3,h1,h2,h4⟩
 ·rintro⟨h3,h1,h2,h4⟩;exact⟨h1,h2,h3,h4⟩
def zwy {a b:TreeT} (ha:a.ok) (hb:b.ok) (st:St):z06 G (.fn 27 [] []) [.d a.d,.d b.d] st=some (.d (.bool (z5p a b)),st):=by
 have hA:=fun st=>zo2 ha hb st
 simp only[TreeT.d] at hA
 have hx0:∀a b:V,[a,b][0]?=some a:=fun _ _=>rfl
 have hx1:∀a b:V,[a,b][1]?=some b:=fun _ _=>rfl
 refine z19 (ds:= [a.d,b.d]) (rs:= [.bool (z5p a b)]) T1.g27 rfl rfl (fun e w_len harg=> ?_) st
 have w_len:e.length=18:=w_len
 have w_0:=harg 0 ψ
 have w_1:=harg 1 ψ
 clear harg
 simp only[List.map_cons,List.map_nil,List.getD_cons_zero,List.getD_cons_succ] at w_0 w_1
 cases h1:z5p a b with
 |true=>
  obtain⟨e1,e2,_⟩:=zda.1 h1
  have e0:z0r z0f [a,b]=0:=by rw[zcn,if_pos e1,e2]
  rw[h1,e0] at hA
  simp only[T1.i27,TreeT.d,hA,hx0,hx1,w_len,w_0,w_1,↓LA,LB,simprocAttr]
  exact rq1 ψ
 |false=>
  rw[h1] at hA
  simp only[T1.i27,TreeT.d,hA,hx0,hx1,w_len,w_0,w_1,↓LA,LB,simprocAttr]
  exact rq1 ψ
def zx8 {a b:GoalT} (ha:a.ok) (hb:b.ok) (st:St):z06 G (.fn 10 [] []) [.d a.d,.d b.d] st=some (.d (.bool (zoh a b)),st):=by
 have hl:=ha.2.1
 unfold LOk at hl
 have hE:=fun (s:Sto) (nx lw:Nat)=>y7m (s:=s) (nx:=nx) (lw:=lw) (l:=a.args.map TreeT.d) (m:=b.args.map TreeT.d) (p:=alP) (fv:= .fn 27 [] []) T1.g26 rfl (by simpa using hl) (z0c fun a=>z1t) (z0c fun a=>z1t) (fun x y ⟨hx,hy⟩ s' nx lw _ _=>by
  obtain⟨u,hu,rfl⟩:=List.mem_map.1 hx
  obtain⟨v,hv,rfl⟩:=List.mem_map.1 hy
  rw[y88]
  exact zwy (ha.2.2 u hu) (hb.2.2 v hv) _)
 rw[y2c]
 refine z19 (ds:= [a.d,b.d]) (rs:= [.bool (decide (a.rel=b.rel)&&all2 alP (a.args.map TreeT.d) (b.args.map TreeT.d))]) T1.g10 rfl rfl (fun e w_len harg=> ?_) st
 have w_len:e.length=17:=w_len
 have w_0:=harg 0 ψ
 have w_1:=harg 1 ψ
 clear harg
 simp only[List.map_cons,List.map_nil,List.getD_cons_zero,List.getD_cons_succ] at w_0 w_1
 by_cases h1:a.rel=b.rel
 ·simp only[T1.i10,GoalT.d,h1,hE,w_len,w_0,w_1,↓LA,LB,simprocAttr]
  exact rq1 ψ
 ·simp only[T1.i10,GoalT.d,h1,w_len,w_0,w_1,↓LA,LB,simprocAttr]
  exact rq1 ψ
def hd (c:ClauseT) (i:Nat):PatT:=c.head.getD i ⟨[],[]⟩
def ar (g:GoalT) (i:Nat):TreeT:=g.args.getD i ⟨[],0⟩
def fitP (p:PatT) (t:TreeT):Prop:=p.name= []∨((nd t.nodes 0).name=p.name∧(nd t.nodes 0).kids.length=p.vars.length)
noncomputable def subP (p:PatT) (t:TreeT) (k:Nat):TreeT:=if p.name= [] then t else subT t (kid t.nodes 0 k)
noncomputable def subE (c:ClauseT) (g:GoalT) (i k:Nat):List Nat×TreeT:= ((hd c i).vars.getD k [],subP (hd c i) (ar g i) k)
noncomputable def bndN (c:ClauseT) (g:GoalT) (n:Nat):List (List Nat×TreeT):= (List.range n).flatMap fun i=> (List.range (hd c i).vars.length).map (subE c g i)
noncomputable def bndA (c:ClauseT) (g:GoalT) (i k:Nat):List (List Nat×TreeT):=bndN c g i++ (List.range k).map (subE c g i)
def zg7 (l:List (List Nat×TreeT)):Prop:=∀x∈l,∀y∈l,x.1=y.1→x.2=y.2
def fitS (c:ClauseT) (g:GoalT):Prop:=c.rel=g.rel∧(∀i,i<c.head.length→fitP (hd c i) (ar g i))∧zg7 (bndN c g c.head.length)
section
variable {c:ClauseT} {g:GoalT} {i k n:Nat}
theorem zyo (h:i<c.head.length):hd c i=c.head[i]:=by simp[hd,h]
theorem y4y (h:i<g.args.length):ar g i=g.args[i]:=by simp[ar,h]
theorem z6r:bndA c g i 0=bndN c g i:=by simp[bndA]
theorem ziw:bndA c g i (k+1)=bndA c g i k++ [subE c g i k]:=by simp[bndA,List.range_succ]
theorem zd3:bndA c g i (hd c i).vars.length=bndN c g (i+1):=by simp[bndA,bndN,List.range_succ]
def z66 {x:List Nat×TreeT} :x∈bndN c g n↔∃i,i<n∧∃k,k< (hd c i).vars.length∧subE c g i k=x:=by
 simp[bndN]
theorem zlf (hi:i<n) (hk:k< (hd c i).vars.length):subE c g i k∈bndN c g n:=z66.2 ⟨i,hi,k,hk,rfl⟩
def znr {x:List Nat×TreeT} (hi:i<n) (hk:k≤(hd c i).vars.length) (h:x∈bndA c g i k):x∈bndN c g n:=by
 rcases List.mem_append.1 h with h|h
 ·obtain⟨j,hj,q,hq,e⟩:=z66.1 h
  exact z66.2 ⟨j,ω,q,hq,e⟩
 ·obtain⟨q,hq,e⟩:=List.mem_map.1 h
  rw[List.mem_range] at hq
  exact z66.2 ⟨i,hi,q,ω,e⟩
def y3g (hg:Lg g) (hl:i<g.args.length) (hf:fitP (hd c i) (ar g i)) (hk:k< (hd c i).vars.length):Lst (subE c g i k).2:=by
 have ht:=hg _ (List.getElem_mem hl)
 show Lst (subP (hd c i) (ar g i) k)
 rw[y4y hl] at hf⊢
 unfold subP
 by_cases hn: (hd c i).name= []
 ·rw[if_pos hn];exact ht
 ·rw[if_neg hn]
  obtain⟨_,h2⟩:=hf.resolve_left hn
  exact ht.sub (ht.gdt.gd.rt 0 ht.pos _ (z3w (by rw[h2];exact hk)))
def zfl (hg:Lg g) (hl:∀i,i<n→i<g.args.length) (hf:∀i,i<n→fitP (hd c i) (ar g i)):∀x∈bndN c g n,Lst x.2:=by
 intro x hx
 obtain⟨i,hi,k,hk,rfl⟩:=z66.1 hx
 exact y3g hg (hl i hi) (hf i hi) hk
def zxx (hg:Lg g) (hl:∀q,q≤i→q<g.args.length) (hf:∀q,q≤i→fitP (hd c q) (ar g q)) (hk:k≤(hd c i).vars.length):∀x∈bndA c g i k,Lst x.2:=fun x hx=>
 zfl (n:=i+1) hg (fun q hq=>hl q ω) (fun q hq=>hf q ω) x (znr ω hk hx)
def zcv {l:List (List Nat×TreeT)} {y:List Nat×TreeT} (h:zg7 l) (hy:∀x∈l,x.1=y.1→x.2=y.2):zg7 (l++ [y]):=by
 intro a ha b hb e
 rcases List.mem_append.1 ha with h1|h1<;>rcases List.mem_append.1 hb with h2|h2
 ·exact h a h1 b h2 e
 ·rw[List.mem_singleton] at h2;rw[h2] at e⊢;exact hy a h1 e
 ·rw[List.mem_singleton] at h1;rw[h1] at e⊢;exact (hy b h2 e.symm).symm
 ·rw[List.mem_singleton] at h1 h2;rw[h1,h2]
end
theorem cvs0 {s:Sto} {lv:Bool} {S:Nat→Prop} :∀{cs:List V} {ds:List D},CVs (CQ s lv S 0) cs ds→cs=ds.map V.d
 | [],[],_=>rfl
 | [],_::_,h=>h.elim
 |_::_,[],h=>h.elim
 |v::cs,d::ds,h=>by
  obtain⟨h1,h2⟩:=h
  rw[cvs0 h2]
  obtain⟨rfl,_⟩:=h1
  rfl
theorem zlc:∀{l:List TreeT} {j:Nat} (h:j<l.length),j*2+2≤(((l.map TreeT.d).flatMap cellsD).map V.d).length∧((((l.map TreeT.d).flatMap cellsD).map V.d).drop (j*2)).take 2= [.d (.sl (l[j].nodes.map NodeT.d)),.d (.int .i64 l[j].root)]
 |t::l,0,_=>⟨by simp[TreeT.d,cellsD],rfl⟩
 |t::l,j+1,h=>by
  have h' :j<l.length:=by simp at h;omega
  obtain⟨h1,h2⟩:=zlc h'
  have e: (j+1)*2=j*2+1+1:=ω
  have e2: (((t::l).map TreeT.d).flatMap cellsD).map V.d=V.d (.sl (t.nodes.map NodeT.d))::V.d (.int .i64 t.root):: (((l.map TreeT.d).flatMap cellsD).map V.d):=rfl
  rw[e2,e]
  refine⟨by simp only[List.length_cons];omega,?_⟩
  rw[List.drop_succ_cons,List.drop_succ_cons,h2]
  rfl
def treeAt {s:Sto} {lv:Bool} {S:Nat→Prop} {v:V} {l:Lt} (h:GP s lv S 0 2 true v (l.map TreeT.d)) {j:Nat} (hj:j<l.length):
  ∃k cs,v= .arr k 2 true 0 l.length∧S k∧sget s k=some (.cells cs)∧V.beqL cs cs=true∧z08 2 v (j:Int)=some (.ptr k (j*2))∧
   (j*2+2≤cs.length)=True∧(cs.drop (j*2)).take 2= [.d (.sl (l[j].nodes.map NodeT.d)),.d (.int .i64 l[j].root)]:=by
 rcases h with⟨_,e⟩|⟨k,cs,rfl,h1,h2,h3⟩
 ·cases l with
  |nil=>simp at hj
  |cons x l=>simp at e
 ·have hb:=h3.beq
  have e:=cvs0 h3
  subst e
  obtain⟨k1,k2⟩:=zlc hj
  refine⟨k,_,by simp,h1,h2,hb,?_,eq_true k1,k2⟩
  rw[List.length_map]
  exact zka hj
noncomputable def look (A:List (List Nat×TreeT)) (v:List Nat):TreeT:=match A.find? (fun x=>decide (x.1=v)) with
 |some x=>x.2
 |none=>⟨[],0⟩
noncomputable def zd6 (A:List (List Nat×TreeT)) (p:PatT):GoalT:=⟨p.name,p.vars.map (look A)⟩
noncomputable def z4m (c:ClauseT) (g:GoalT):List GoalT:=c.body.map (zd6 (bndN c g c.head.length))
def Mt (es:List (D×V)) (A:List (List Nat×TreeT)):Prop:=∀v:List Nat,z22 es (.str v)=if (∃x∈A,x.1=v) then some (.d (look A v).d) else none
def y6k:Mt [] []:=fun v=>by simp[z22]
def zao {A:List (List Nat×TreeT)} (hc:zg7 A) {x:List Nat×TreeT} (hx:x∈A):look A x.1=x.2:=by
 unfold look
 cases hf:A.find? (fun y=>decide (y.1=x.1)) with
 |none=>
  rw[List.find?_eq_none] at hf
  have:=hf x hx
  simp at this
 |some y=>
  have h1:=List.mem_of_find?_eq_some hf
  have h2:=List.find?_some hf
  simp at h2
  exact hc y h1 x hx h2
def zt0 {A:List (List Nat×TreeT)} {y:List Nat×TreeT} {v:Ln} (h:∃x∈A,x.1=v):look (A++ [y]) v=look A v:=by
 obtain⟨x,hx,hv⟩:=h
 unfold look
 rw[List.find?_append]
 cases hf:A.find? (fun y=>decide (y.1=v)) with
 |none=>
  rw[List.find?_eq_none] at hf
  have:=hf x hx
  simp[hv] at this
 |some y=>rfl
theorem y0r {es:List (D×V)} {A:List (List Nat×TreeT)} {v:Ln} {t:TreeT} (h:Mt es A) (hc:zg7 A) (hy:∀x∈A,x.1=v→x.2=t):Mt (z2c es (.str v) (.d t.d)) (A++ [(v,t)]):=fun w=>by
 have hc' :zg7 (A++ [(v,t)]):=zcv hc (fun x hx e=>hy x hx e)
 have hl:look (A++ [(v,t)]) v=t:=zao hc' (x:= (v,t)) ψ
 rw[z5g,h w]
 have hb:D.beq (.str v) (.str w)=decide (v=w):=by simp[D.beq]
 rw[hb]
 by_cases e:v=w
 ·subst e
  rw[if_pos ψ,if_pos ⟨(v,t),by simp,rfl⟩,hl]
 ·rw[if_neg (by simpa using e)]
  by_cases hx:∃x∈A,x.1=w
  ·rw[if_pos hx,if_pos (by obtain⟨x,h1,h2⟩:=hx;exact⟨x,List.mem_append_left _ h1,h2⟩),zt0 hx]
  ·rw[if_neg hx,if_neg]
   rintro⟨x,h1,h2⟩
   rcases List.mem_append.1 h1 with h1|h1
   ·exact hx ⟨x,h1,h2⟩
   ·rw[List.mem_singleton] at h1;subst h1;exact e h2
def zsx {a b:TreeT} (ha:Lst a) (hb:Lst b):z5p a b=decide (a=b):=by
 rw[Bool.eq_iff_iff,zda,decide_eq_true_eq,ha.fix,hb.fix]
 exact⟨fun h=>h.2.2,fun h=>⟨ha.gdt.spec,hb.gdt.spec,h⟩⟩
def y59 (s0:Sto) (nx km:Nat) (es:List (D×V)) (A:List (List Nat×TreeT)) (v:List Nat) (u:TreeT) (r:V) (st:St):Prop:=
 nx≤st.next∧(∀q,q<nx→q≠km→sget st.s q=sget s0 q)∧sget st.s km=some (.map 9 (z2c es (.str v) (.d u.d)))∧r= .d (.bool (decide (∀x∈A,x.1=v→x.2=u)))
def zvj {t:TreeT} (ht:Ok t) (htk:t.ok) {v:Ln} (hv:v.length≤8) {A:List (List Nat×TreeT)} (hA:∀x∈A,Lst x.2) (hc:zg7 A) {es:List (D×V)} (hm:Mt es A)
  {kz km:Nat} {s:Sto} {nx lw:Nat} (hkz:kz<nx) (hkm:km<nx) (hne:kz≠km) (h1:sget s kz=some (.cells [.map km])) (h2:sget s km=some (.map 9 es)):
  PostV (z06 G (.fn 131 [] [.ptr kz 0]) [.d (.str v),.d t.d] {s:=s,next:=nx,low:=lw}) (y59 s nx km es A v (z1o t)):=by
 have hL:=fun st=>zme htk ht.spec st
 have hu:=zht ht htk
 obtain⟨u,hue⟩:∃u,u=z1o t:=⟨_,rfl⟩
 rw[←hue] at hL hu⊢
 simp only[TreeT.d] at hL
 have hx0:∀a b:V,[a,b][0]?=some a:=fun _ _=>rfl
 have hx1:∀a b:V,[a,b][1]?=some b:=fun _ _=>rfl
 have hcf:z2v false [.s] (.str v)=true:=by simp[z2v,conf,z8y];omega
 have hget:=hm v
 have hU:=fun z nx lw zz (h:sget z km=some (.map 9 es))=>z5f (s:=z) (nx:=nx) (lw:=lw) (x:=zz) hcf h
 have w_z0: (nx=kz)=False∧(nx=km)=False∧(∀q,(nx+q=kz)=False)∧(∀q,(nx+q=km)=False)∧(km=kz)=False:=⟨by simp;omega,by simp;omega,fun q=>by simp;omega,fun q=>by simp;omega,by simp;omega⟩
 have w_h1:=h1
 have w_h2:=h2
 have w_h3:∀o,sget (sset s km o) km=some o:=fun o=>z05 h2
 by_cases ho:∃x∈A,x.1=v
 ·rw[if_pos ho] at hget
  have hlk:=fun z nx lw zero (h:sget z km=some (.map 9 es))=>z7t (s:=z) (nx:=nx) (lw:=lw) (zero:=zero) hcf h hget
  have hl:Lst (look A v):=by
   obtain⟨x,hx,hv⟩:=ho
   rw[←hv,zao hc hx]
   exact hA x hx
  have hAl:=fun st=>zo2 hl.tok hu.tok st
  have hde:decide (∀x∈A,x.1=v→x.2=u)=decide (look A v=u):=by
   obtain⟨x,hx,hv⟩:=ho
   rw[←hv,zao hc hx]
   rw[Bool.eq_iff_iff,decide_eq_true_eq,decide_eq_true_eq]
   exact⟨fun h=>h x hx rfl,fun h y hy e=> (hc y hy x hx e).trans h⟩
  rw[zsx hl hu] at hAl
  simp only[TreeT.d] at hAl hlk
  unfold y59
  rw[hde]
  refine z1b (first:= []) (args:= [.d (.str v),.d t.d]) (cap:= [.ptr kz 0]) T1.g131 rfl rfl rfl (fun e w_len harg=> ?_)
  have w_len:e.length=33:=w_len
  have w_0:e.getD 0 .undef= .d (.str v):=harg 0 ψ
  have w_1:e.getD 1 .undef= .d t.d:=harg 1 ψ
  have w_2:e.getD 2 .undef= .ptr kz 0:=harg 2 ψ
  clear harg
  simp only[T1.i131,TreeT.d,hL,hx0,hx1,hlk,hU,hAl,w_len,w_0,w_1,w_2,w_z0,w_h1,w_h2,w_h3,↓LA,LB,simprocAttr]
  exact⟨ω,fun q g1 g2=>by rw[if_neg ω,if_neg ω];exact z01 ω⟩
 ·rw[if_neg ho] at hget
  have hlk:=fun z nx lw zero (h:sget z km=some (.map 9 es))=>z7u (s:=z) (nx:=nx) (lw:=lw) (zero:=zero) hcf h hget
  have hde:decide (∀x∈A,x.1=v→x.2=u)=true:=decide_eq_true fun x hx e=>absurd ⟨x,hx,e⟩ ho
  unfold y59
  rw[hde]
  refine z1b (first:= []) (args:= [.d (.str v),.d t.d]) (cap:= [.ptr kz 0]) T1.g131 rfl rfl rfl (fun e w_len harg=> ?_)
  have w_len:e.length=33:=w_len
  have w_0:e.getD 0 .undef= .d (.str v):=harg 0 ψ
  have w_1:e.getD 1 .undef= .d t.d:=harg 1 ψ
  have w_2:e.getD 2 .undef= .ptr kz 0:=harg 2 ψ
  clear harg
  have hca:cellsV (.agg [.nilS,.d (.int .i64 0)])= [.nilS,.d (.int .i64 0)]:=rfl
  simp only[T1.i131,TreeT.d,hL,hx0,hx1,hlk,hU,hca,w_len,w_0,w_1,w_2,w_z0,w_h1,w_h2,w_h3,↓LA,LB,simprocAttr]
  exact⟨ω,fun q g1 g2=>by rw[if_neg ω,if_neg ω];exact z01 ω⟩
def zp3 {G:Nat→Option IFun} {f:Nat} {F:IFun} (hG:G f=some F) (hp:F.pure=true) (hn:F.nil2=false) {v y:V} {d:D} {rs:Ld} {st st' :St} (hs:snap st.s 0 z0e v=some d) (hz:frz z0e st v=some (y,st')) (hy:snap [] 0 z0e y=some d)
  (hf:rs.all D.flat=false)
  (h:z06 G (.fn f [] []) [.d d] {s:= [],next:=0,low:=0} =some (tupV (rs.map V.d),{s:= [],next:=0,low:=0})):
  z06 G (.fn f [] []) [v] st=some (tupV (rs.map V.d),st'):=by
 have ha:z0p st.s 0 [v]=some [d]:=by simp[z0p,hs]
 have hfz:frzL (frz z0e) st [v]=some ([y],st'):=by simp[frzL,hz]
 have hyy:z0p [] 0 [y]=some [d]:=by simp[z0p,hy]
 have hdd:z0p [] 0 [V.d d]=some [d]:=z1a [d]
 have hdf:frzL (frz z0e) {s:= [],next:=0,low:=0} [V.d d]=some ([V.d d],{s:= [],next:=0,low:=0}):=z39 (ds:= [d])
 rw[z1m] at h⊢
 simp only[z13,hG,hp,hn,List.nil_append,List.append_nil,Bool.false_and,Bool.false_eq_true,if_false,if_true,hdd,ha,hfz,hdf,hyy] at h⊢
 cases hb:z4r G F ([d].map V.d) {s:= [],next:=0,low:=0} with
 |none=>rw[hb] at h;simp at h
 |some p=>
  obtain⟨vs,st1⟩:=p
  rw[hb] at h
  simp only at h⊢
  cases hr' :z0p st1.s 0 vs with
  |none=>rw[hr'] at h;simp at h
  |some rs' =>
   rw[hr'] at h
   simp only[D.beqL_refl,if_true,ite_self,Option.some.injEq,Prod.mk.injEq,and_true] at h
   have e:=zeu h
   subst e
   simp only[hf,Bool.false_eq_true,if_false,D.beqL_refl,if_true]
def zu3 {m:Nat} {s:Sto} {nx lw k es:Nat} {ag:Bool} {l:Ld} (h0:0<es) (he:∀x∈l,Elt es ag x) (ho:sget s k=some (.cells ((l.flatMap cellsD).map V.d))):
  frz (m+2) {s:=s,next:=nx,low:=lw} (.arr k es ag 0 l.length)=some (.d (.sl l),{s:=sset s k (.fz (l.flatMap cellsD)),next:=nx,low:=Nat.min lw k}):=by
 obtain⟨h1,h2⟩:=z15 he
 simp only[frz,St.get,ho]
 rw[if_pos ⟨h0,by simp only[List.length_map];omega⟩]
 simp only[zu7,zqp,h1,if_true,ho]
 have:z4z es ag l.length (((l.flatMap cellsD).drop 0).take (l.length*es))=some l:=by
  rw[List.drop_zero,List.take_of_length_le ω]
  exact z35 h0 he
 rw[this]
 rfl
def zyr {n:Nat} {st st' :St} {a:D} {xa y:V} (h:frz (n+1) st xa=some (y,st')):frz (n+2) st (.agg [.d a,xa])=some (mkAgg [.d a,y],st'):=by
 have h1:frzL (frz (n+1)) st [.d a,xa]=some ([.d a,y],st'):=by
  have e:frz (n+1) st (.d a)=some (.d a,st):=rfl
  simp only[frzL]
  rw[e]
  simp only[h]
 have e:frz (n+2) st (.agg [.d a,xa])= (match frzL (frz (n+1)) st [.d a,xa] with|none=>none|some (ys,st')=>some (mkAgg ys,st')):=rfl
 rw[e,h1]
def zp7 {n:Ln} {l:Lt} (hl:l.length≤1000000) (hk:Og ⟨n,l⟩) {s:Sto} {lo hi nx lw:Nat} {xa:V} (h:Gr s false lo 0 hi 2 true xa (l.map TreeT.d)):
  PostV (z06 G (.fn 74 [] []) [mkAgg [.d (.str n),xa]] {s:=s,next:=nx,low:=lw}) (fun v st=>v= .d (z1c ⟨n,l⟩).d∧st.next=nx∧∀q,(q<lo∨hi≤q)→sget st.s q=sget s q):=by
 have hL:=zhm (g:=⟨n,l⟩) hl hk {s:= [],next:=0,low:=0}
 have hs:snap s 0 z0e (mkAgg [.d (.str n),xa])=some (GoalT.d ⟨n,l⟩):=zr4 (lv:=false) (lo:=lo) (n:=1) (hi:=hi) (m:=11) ω (by decide) ⟨CV.str,h.cv ω (z0c fun a=>z1t),trivial⟩
 cases l with
 |nil=>exact⟨_,_,z5h (args:= [mkAgg [.d (.str n),xa]]) (ds:= [GoalT.d ⟨n,[]⟩]) (rs:= [(z1c ⟨n,[]⟩).d]) T1.g74 rfl rfl (by simp[z0p,hs]) rfl hL,rfl,rfl,fun _ _=>rfl⟩
 |cons t l=>
 rcases h with⟨rfl,hn⟩|⟨k,cs,rfl,hS,hg,hc⟩
 ·simp at hn
 ·have e:=cvs0 hc
  subst e
  refine⟨_,_,zp3 (rs:= [(z1c ⟨n,t::l⟩).d]) T1.g74 rfl rfl hs (y:= .d (GoalT.d ⟨n,t::l⟩)) (st' := {s:=sset s k (.fz (((t::l).map TreeT.d).flatMap cellsD)),next:=nx,low:=Nat.min lw k}) ?_ rfl rfl hL,rfl,rfl,fun q hq=>z01 (by have:=hS.1;have:=hS.2;omega)⟩
  have hfz:=zu3 (m:=9) (s:=s) (nx:=nx) (lw:=lw) (k:=k) (ag:=true) (l:= (t::l).map TreeT.d) (by omega:0<2) (z0c fun a=>z1t) hg
  exact zyr hfz
noncomputable def za8 (c:ClauseT) (g:GoalT):List D:=if fitS c g then [.sl ((z4m c g).map GoalT.d),.bool true] else [.sl [],.bool false]
def zsg {c:ClauseT} {g:GoalT} {i k:Nat} (hi:i<c.head.length) (hk:k< (hd c i).vars.length) (h:¬∀x∈bndA c g i k,x.1= (subE c g i k).1→x.2= (subE c g i k).2):za8 c g= [.sl [],.bool false]:=by
 refine if_neg fun hf=>h fun x hx e=>hf.2.2 x (znr hi ω hx) _ (zlf hi hk) e
def z5e {s:Sto} {c:ClauseT} {g:GoalT} (h:za8 c g= [.sl [],.bool false]):RQ (some [.nilS,.d (.bool false)]) s (za8 c g):=
 rql2 (x:= .sl []) (y:= .bool false) (by simp[snap,z0e]) zr5 h.symm
def zs1 {c:ClauseT} {g:GoalT} (hg:Lg g) (hgk:g.args.length≤1000) (hch:c.head.length≤1000) (hch2:c.rel=g.rel→c.head.length=g.args.length) (hcv:∀p∈c.head,p.vars.length≤4∧(p.name= []→p.vars.length=1)∧∀v∈p.vars,v.length≤8)
  (hb:c.body.length≤1000) (hbv:∀p∈c.body,p.vars.length≤1000) (hth:∀p∈c.body,∀v∈p.vars,∃x∈bndN c g c.head.length,x.1=v) (st:St):
  z06 G (.fn 99 [] []) [.d c.d,.d g.d] st=some (tupV ((za8 c g).map V.d),st):=by
 have hal:g.args.length≤1000000:=ω
 refine z19 (ds:= [c.d,g.d]) (rs:=za8 c g) T1.g99 rfl rfl (fun e w_len harg=> ?_) st
 have w_len:e.length=126:=w_len
 have w_0:=harg 0 ψ
 have w_1:=harg 1 ψ
 clear harg
 simp only[List.map_cons,List.map_nil,List.getD_cons_zero,List.getD_cons_succ] at w_0 w_1
 by_cases hr:c.rel=g.rel
 ·have hlen:=hch2 hr
  have hrr:=eq_true hr
  have hcm:cellsV (.map 9)= [.map 9]:=rfl
  have hcm2: (V.map 9).isCell=true:=rfl
  have hbp:∀(n:Nat) (st:St),bndA c g n 0=bndN c g n:=fun _ _=>z6r
  simp only[T1.i99,ClauseT.d,GoalT.d,hrr,hcm,hcm2,w_len,w_0,w_1,↓LA,LB,simprocAttr]
  refine z0b (fun e0 s0 m env st=>∃(i nxi lwi:Nat) (si:Sto) (es:List (D×V)),m=c.head.length-i∧(i≤c.head.length)∧(Mt es (bndN c g i))∧(zg7 (bndN c g i))∧(∀q,q<i→fitP (hd c q) (ar g q))∧sget si (0)=some (.cells [.d (.str c.rel),.d (.sl (c.head.map PatT.d)),.d (.sl (c.body.map PatT.d))])∧sget si (1)=some (.cells [.d (.str g.rel),.d (.sl (g.args.map TreeT.d))])∧sget si (10)=some (.cells [.map 9])∧sget si (9)=some (.map 9 es)∧18≤nxi∧0≤lwi∧env.length=126∧env.getD 30 .undef= .d (.int .i64 i)∧env.getD 2 .undef= .ptr 0 0∧env.getD 3 .undef= .ptr 1 0∧env.getD 6 .undef= .ptr 10 0∧env.getD 7 .undef= .fn 131 [] [.ptr 10 0]∧env.getD 28 .undef= .d (.sl (c.head.map PatT.d))∧env.getD 29 .undef= .d (.int .i64 c.head.length)∧st= {s:=si,next:=nxi,low:=lwi}) ?_ (c.head.length) (by refine⟨0,_,_,_,[],rfl,ω,y6k,(by intro x hx;simp[bndN] at hx),fun q h=>ω,?_,?_,?_,?_,ω,Nat.zero_le _,?_,?_,?_,?_,?_,?_,?_,?_,rfl⟩<;>simp (maxDischargeDepth:=60) only[w_len,LB,simprocAttr])
  rintro m env st ⟨i,nxi,lwi,si,es,hm,a_0,a_1,a_2,a_3,w_ac0,w_ac1,w_ac2,w_ac3,w_ab,w_alo,w_len,w_30,w_2,w_3,w_6,w_7,w_28,w_29,rfl⟩
  have w_aN:=aI (cf1 (x:=nxi) (a:=0) ω) (aI (cf1 (x:=nxi) (a:=1) ω) (aI (cf1 (x:=nxi) (a:=10) ω) (cf1 (x:=nxi) (a:=9) ω)))
  have w_aS:=aI (cf2 (x:=nxi) ω w_ac0) (aI (cf2 (x:=nxi) ω w_ac1) (aI (cf2 (x:=nxi) ω w_ac2) (cf2 (x:=nxi) ω w_ac3)))
  have w_aZ:=zf0 (x:=nxi) (n:=18) ω
  by_cases hi:i<c.head.length
  ·have hi2:i<g.args.length:=ω
   obtain⟨hpv,hp1,hpl⟩:=hcv _ (List.getElem_mem hi)
   have hT:=hg _ (List.getElem_mem hi2)
   have hhd:hd c i=c.head[i]:=zyo hi
   have har:ar g i=g.args[i]:=y4y hi2
   obtain⟨p,hp⟩:∃p,p=c.head[i]:=⟨_,rfl⟩
   obtain⟨t,ht⟩:∃t,t=g.args[i]:=⟨_,rfl⟩
   have hip:=z3r hi
   have hit:=z5j hi2
   rw[←hp] at hpv hp1 hpl hhd hip
   rw[←ht] at hT har hit
   have ht0:=hT.root
   have h0:=hT.pos
   have hin:z08 2 (.d (.sl (t.nodes.map NodeT.d))) 0=some (.dptr [.str t.nodes[0].name,.sl (t.nodes[0].kids.map (D.int .i64))]):=z3h (i:=0) h0
   have hA:∀x∈bndN c g i,Lst x.2:=zfl hg (fun q hq=>ω) a_3
   by_cases hnm:p.name= []
   ·have hv1:=hp1 hnm
    have hv0:0<p.vars.length:=ω
    have hiv:z08 1 (.d (.sl (p.vars.map D.str))) 0=some (.dptr [.str p.vars[0]]):=zcb (i:=0) hv0
    have hse:subE c g i 0= (p.vars[0],t):=by
     unfold subE subP
     rw[hhd,har,if_pos hnm,List.getD_eq_getElem?_getD,List.getElem?_eq_getElem hv0]
     rfl
    have hnm' :=eq_true hnm
    have hte: (⟨t.nodes,0⟩:TreeT)=t:=by cases t;simp at ht0;rw[ht0]
    have hbn:bndN c g (i+1)=bndN c g i++ [(p.vars[0],t)]:=by rw[←zd3,hhd,hv1,ziw,z6r,hse]
    simp only[hi,hip,hit,ht0,hin,hnm',hiv,w_len,w_30,w_3,w_7,w_28,w_29,w_ac1,w_aN,↓LA,LB,simprocAttr]
    refine z0d (zvj (t:=⟨t.nodes,0⟩) (by rw[hte];exact hT.gdt) (by rw[hte];exact hT.tok) (v:=p.vars[0]) (hpl _ (List.getElem_mem hv0)) hA a_2 a_1 (kz:=10) (km:=9) ω ω ω (by simp (disch:=omega) only[z00];exact w_ac2) (by simp (disch:=omega) only[z00];exact w_ac3)) fun r st hR=> ?_
    obtain⟨s1,n1,l1⟩:=st
    obtain⟨hn1,hf1,hm1,rfl⟩:=hR
    have hn1:nxi+33≤n1:=hn1
    rw[hte,hT.fix] at hm1⊢
    have hf2:∀q,q<nxi→q≠9→sget s1 q=sget si q:=fun q g1 g2=> (hf1 q ω g2).trans (by simp (disch:=omega) only[z00])
    have w_y0:= (hf2 0 ω ω).trans w_ac0
    have w_y1:= (hf2 1 ω ω).trans w_ac1
    have w_y2:= (hf2 10 ω ω).trans w_ac2
    have w_y3:sget s1 9=_:=hm1
    by_cases hcn:∀x∈bndN c g i,x.1=p.vars[0]→x.2=t
    ·have hdc:=decide_eq_true hcn
     simp only[hdc,z07 hi ω,w_len,w_30,↓LA,LB,simprocAttr]
     exact z09 (by refine⟨_,ω,i+1,_,_,_,_,rfl,ω,(by rw[hbn];exact y0r a_1 a_2 hcn),(by rw[hbn];exact zcv a_2 hcn),(fun q hq=>if e:q=i then (by subst e;rw[hhd];exact .inl hnm) else a_3 q ω),?_,?_,?_,?_,ω,Nat.zero_le _,?_,?_,?_,?_,?_,?_,?_,?_,rfl⟩<;>simp only[w_len,w_2,w_3,w_6,w_7,w_28,w_29,w_y0,w_y1,w_y2,w_y3,LB,simprocAttr])
    ·have hdc:=decide_eq_false hcn
     simp only[hdc,w_len,↓LA,LB,simprocAttr]
     refine z5e (zsg (i:=i) (k:=0) hi (by rw[hhd];exact hv0) ?_)
     rw[z6r,hse]
     exact hcn
   ·by_cases hn2:p.name=t.nodes[0].name
    ·by_cases hl2:p.vars.length=t.nodes[0].kids.length
     ·have hn2' :=eq_true hn2
      have hnm2: (t.nodes[0].name= [])=False:=eq_false (by rw[←hn2];exact hnm)
      have hfi:fitP (hd c i) (ar g i):=by rw[hhd,har];exact .inr ⟨by rw[z2j h0];exact hn2.symm,by rw[z2j h0];exact hl2.symm⟩
      have hfa:∀q,q<i+1→fitP (hd c q) (ar g q):=fun q hq=>if e:q=i then (by subst e;exact hfi) else a_3 q ω
      simp only[hi,hip,hit,ht0,hin,hnm,hn2',ceq hl2,List.length_map,w_len,w_30,w_3,w_28,w_29,w_ac1,w_aN,↓LA,LB,simprocAttr]
      refine z0b (fun e0 s0 m env st=>∃(k nxk lwk:Nat) (sk:Sto) (fs:List (D×V)),m=p.vars.length-k∧(k≤p.vars.length)∧(Mt fs (bndA c g i k))∧(zg7 (bndA c g i k))∧sget sk (0)=some (.cells [.d (.str c.rel),.d (.sl (c.head.map PatT.d)),.d (.sl (c.body.map PatT.d))])∧sget sk (1)=some (.cells [.d (.str g.rel),.d (.sl (g.args.map TreeT.d))])∧sget sk (10)=some (.cells [.map 9])∧sget sk (9)=some (.map 9 fs)∧sget sk (nxi+12)=some (.cells [.d (.sl (t.nodes.map NodeT.d)),.d (.int .i64 0)])∧sget sk (nxi+20)=some (.cells [.d (.str t.nodes[0].name),.d (.sl (t.nodes[0].kids.map (D.int .i64)))])∧nxi+22≤nxk∧0≤lwk∧env.length=126∧env.getD 74 .undef= .d (.int .i64 k)∧env.getD 2 .undef= .ptr 0 0∧env.getD 3 .undef= .ptr 1 0∧env.getD 6 .undef= .ptr 10 0∧env.getD 7 .undef= .fn 131 [] [.ptr 10 0]∧env.getD 28 .undef= .d (.sl (c.head.map PatT.d))∧env.getD 29 .undef= .d (.int .i64 c.head.length)∧env.getD 30 .undef= .d (.int .i64 i)∧env.getD 10 .undef= .ptr (nxi+12) 0∧env.getD 11 .undef= .ptr (nxi+20) 0∧env.getD 72 .undef= .d (.sl (p.vars.map D.str))∧env.getD 73 .undef= .d (.int .i64 p.vars.length)∧st= {s:=sk,next:=nxk,low:=lwk}) ?_ (p.vars.length) (by refine⟨0,_,_,_,es,rfl,ω,(by rw[z6r];exact a_1),(by rw[z6r];exact a_2),?_,?_,?_,?_,?_,?_,ω,Nat.zero_le _,?_,?_,?_,?_,?_,?_,?_,?_,?_,?_,?_,?_,?_,rfl⟩<;>simp only[w_len,w_30,w_2,w_3,w_6,w_7,w_28,w_29,w_ac0,w_ac1,w_ac2,w_ac3,w_aN,LB,simprocAttr])
      rintro m env st ⟨k,nxk,lwk,sk,fs,hm,b_0,b_1,b_2,w_bc0,w_bc1,w_bc2,w_bc3,w_bc4,w_bc5,w_bb,w_blo,w_len,w_74,w_2,w_3,w_6,w_7,w_28,w_29,w_30,w_10,w_11,w_72,w_73,rfl⟩
      have w_bN:=aI (cf1 (x:=nxk) (a:=0) ω) (aI (cf1 (x:=nxk) (a:=1) ω) (aI (cf1 (x:=nxk) (a:=10) ω) (aI (cf1 (x:=nxk) (a:=9) ω) (aI (cf1 (x:=nxk) (a:=nxi+12) ω) (cf1 (x:=nxk) (a:=nxi+20) ω)))))
      have w_bS:=aI (cf2 (x:=nxk) ω w_bc0) (aI (cf2 (x:=nxk) ω w_bc1) (aI (cf2 (x:=nxk) ω w_bc2) (aI (cf2 (x:=nxk) ω w_bc3) (aI (cf2 (x:=nxk) ω w_bc4) (cf2 (x:=nxk) ω w_bc5)))))
      have w_bZ:=aI (zf (x:=nxk) (b:=nxi) (n:=22) ω ω) (zf0 (x:=nxk) (n:=18) ω)
      by_cases hk:k<p.vars.length
      ·have hk2:k<t.nodes[0].kids.length:=ω
       obtain⟨hke,hkn⟩:=hT.gdt.gd.at_ h0 hk2
       obtain⟨ok1,ok2,hls⟩:=hT.at_ hkn
       have hse:subE c g i k= (p.vars[k],subT t (kid t.nodes 0 k)):=by
        unfold subE subP
        rw[hhd,har,if_neg hnm,List.getD_eq_getElem?_getD,List.getElem?_eq_getElem hk]
        rfl
       have hbn:bndA c g i (k+1)=bndA c g i k++ [(p.vars[k],subT t (kid t.nodes 0 k))]:=by rw[ziw,hse]
       have hA2:∀x∈bndA c g i k,Lst x.2:=zxx hg (fun q hq=>ω) (fun q hq=>hfa q ω) (by rw[hhd];omega)
       simp only[hk,zcb hk,z3s hk2,hke,w_len,w_74,w_7,w_10,w_11,w_72,w_73,w_bc4,w_bc5,↓LA,LB,simprocAttr]
       refine z0d (zvj (t:=⟨t.nodes,(kid t.nodes 0 k:Nat)⟩) ok1 ok2 (v:=p.vars[k]) (hpl _ (List.getElem_mem hk)) hA2 b_2 b_1 (kz:=10) (km:=9) ω ω ω w_bc2 w_bc3) fun r st hR=> ?_
       obtain⟨s1,n1,l1⟩:=st
       obtain⟨hn1,hf1,hm1,rfl⟩:=hR
       have hn1:nxk+18≤n1:=hn1
       rw[hls] at hm1⊢
       have hf2:∀q,q<nxk→q≠9→sget s1 q=sget sk q:=fun q g1 g2=>hf1 q ω g2
       have w_y0:= (hf2 0 ω ω).trans w_bc0
       have w_y1:= (hf2 1 ω ω).trans w_bc1
       have w_y2:= (hf2 10 ω ω).trans w_bc2
       have w_y3:sget s1 9=_:=hm1
       have w_y4:= (hf2 (nxi+12) ω ω).trans w_bc4
       have w_y5:= (hf2 (nxi+20) ω ω).trans w_bc5
       by_cases hcn:∀x∈bndA c g i k,x.1=p.vars[k]→x.2=subT t (kid t.nodes 0 k)
       ·have hdc:=decide_eq_true hcn
        simp only[hdc,z07 hk ω,w_len,w_74,↓LA,LB,simprocAttr]
        exact z09 (by refine⟨_,ω,k+1,_,_,_,_,rfl,ω,(by rw[hbn];exact y0r b_1 b_2 hcn),(by rw[hbn];exact zcv b_2 hcn),?_,?_,?_,?_,?_,?_,ω,Nat.zero_le _,?_,?_,?_,?_,?_,?_,?_,?_,?_,?_,?_,?_,?_,rfl⟩<;>simp only[w_len,w_2,w_3,w_6,w_7,w_28,w_29,w_30,w_10,w_11,w_72,w_73,w_y0,w_y1,w_y2,w_y3,w_y4,w_y5,LB,simprocAttr])
       ·have hdc:=decide_eq_false hcn
        simp only[hdc,w_len,↓LA,LB,simprocAttr]
        refine z5e (zsg (i:=i) (k:=k) hi (by rw[hhd];exact hk) ?_)
        rw[hse]
        exact hcn
      ·have hke:k= (hd c i).vars.length:=by rw[hhd];omega
       simp only[hk,z07 hi ω,w_len,w_74,w_30,w_73,↓LA,LB,simprocAttr]
       exact z09 (by refine⟨_,ω,i+1,_,_,_,fs,rfl,ω,(by rw[←zd3,←hke];exact b_1),(by rw[←zd3,←hke];exact b_2),hfa,?_,?_,?_,?_,ω,Nat.zero_le _,?_,?_,?_,?_,?_,?_,?_,?_,rfl⟩<;>simp only[w_len,w_2,w_3,w_6,w_7,w_28,w_29,w_bc0,w_bc1,w_bc2,w_bc3,LB,simprocAttr])
     ·have hn2' :=eq_true hn2
      have hnm2: (t.nodes[0].name= [])=False:=eq_false (by rw[←hn2];exact hnm)
      simp only[hi,hip,hit,ht0,hin,hnm,hn2',cne hl2,List.length_map,w_len,w_30,w_3,w_28,w_29,w_ac1,w_aN,↓LA,LB,simprocAttr]
      refine z5e (if_neg fun h=> ?_)
      have:=h.2.1 i hi
      rw[hhd,har] at this
      obtain⟨_,h2⟩:=this.resolve_left hnm
      rw[z2j h0] at h2
      exact hl2 h2.symm
    ·simp only[hi,hip,hit,ht0,hin,hnm,hn2,w_len,w_30,w_3,w_28,w_29,w_ac1,w_aN,↓LA,LB,simprocAttr]
     refine z5e (if_neg fun h=> ?_)
     have:=h.2.1 i hi
     rw[hhd,har] at this
     obtain⟨h2,_⟩:=this.resolve_left hnm
     rw[z2j h0] at h2
     exact hn2 h2.symm
  ·have hie:i=c.head.length:=ω
   subst hie
   have hfit:fitS c g:=⟨hr,a_3,a_2⟩
   have hbd:za8 c g=_:=if_pos hfit
   rw[hbd]
   unfold z4m
   have hA:=zfl hg (fun q hq=>ω) a_3
   obtain⟨A,hAe⟩:∃A,A=bndN c g c.head.length:=⟨_,rfl⟩
   have hAl:∀x∈A,x.1.length≤8:=fun x hx=>by
    rw[hAe] at hx
    obtain⟨q,hq,j,hj,rfl⟩:=z66.1 hx
    show ((hd c q).vars.getD j []).length≤8
    rw[List.getD_eq_getElem?_getD,List.getElem?_eq_getElem hj]
    exact (hcv (hd c q) (by rw[zyo hq];exact List.getElem_mem hq)).2.2 _ (List.getElem_mem hj)
   rw[←hAe] at a_1 a_2 hth hA⊢
   simp only[hi,w_len,w_30,w_2,w_29,w_ac0,↓LA,LB,simprocAttr]
   refine z0b (fun e0 s0 m env st=>∃(z nxz lwz:Nat) (sz:Sto) (xo:V),m=c.body.length-z∧(z≤c.body.length)∧(Gr sz false 18 0 nxz 2 true xo (((c.body.take z).map (zd6 A)).map GoalT.d))∧sget sz (10)=some (.cells [.map 9])∧sget sz (9)=some (.map 9 es)∧18≤nxz∧0≤lwz∧env.length=126∧env.getD 96 .undef= .d (.int .i64 z)∧env.getD 6 .undef= .ptr 10 0∧env.getD 94 .undef= .d (.sl (c.body.map PatT.d))∧env.getD 95 .undef= .d (.int .i64 c.body.length)∧env.getD 14 .undef=xo∧st= {s:=sz,next:=nxz,low:=lwz}) ?_ (c.body.length) (by refine⟨0,_,_,_,.nilS,rfl,ω,Gr.nil,?_,?_,ω,Nat.zero_le _,?_,?_,?_,?_,?_,?_,rfl⟩<;>simp only[w_len,w_6,w_ac2,w_ac3,LB,simprocAttr])
   rintro m env st ⟨z,nxz,lwz,sz,xo,hm,d_0,d_1,w_dc0,w_dc1,w_db,w_dlo,w_len,w_96,w_6,w_94,w_95,w_14,rfl⟩
   have w_dN:=aI (cf1 (x:=nxz) (a:=10) ω) (cf1 (x:=nxz) (a:=9) ω)
   have w_dS:=aI (cf2 (x:=nxz) ω w_dc0) (cf2 (x:=nxz) ω w_dc1)
   have w_dZ:=zf0 (x:=nxz) (n:=18) ω
   have w_d_1V:=aI (d_1.away (j:=9) ω) (d_1.away (j:=10) ω)
   have w_d_1c:=d_1.cell.1
   have w_d_1d:=d_1.cell.2
   have w_d_1e:=d_1.beq
   by_cases hz:z<c.body.length
   ·have hpv:=hbv _ (List.getElem_mem hz)
    have hpt:=hth _ (List.getElem_mem hz)
    have hip:=z3r hz
    obtain⟨p,hp⟩:∃p,p=c.body[z]:=⟨_,rfl⟩
    rw[←hp] at hpv hpt hip
    simp only[hz,hip,List.length_map,w_len,w_96,w_94,w_95,↓LA,LB,simprocAttr]
    refine z0b (fun e0 s0 m env st=>∃(k nxk lwk:Nat) (sk:Sto) (xa:V),m=p.vars.length-k∧(k≤p.vars.length)∧(Gr sk false (nxz+14) 0 nxk 2 true xa (((p.vars.take k).map (look A)).map TreeT.d))∧(Gr sk false 18 0 nxz 2 true xo (((c.body.take z).map (zd6 A)).map GoalT.d))∧sget sk (10)=some (.cells [.map 9])∧sget sk (9)=some (.map 9 es)∧sget sk (nxz+8)=some (.cells [.d (.str p.name),xa])∧nxz+14≤nxk∧0≤lwk∧env.length=126∧env.getD 106 .undef= .d (.int .i64 k)∧env.getD 6 .undef= .ptr 10 0∧env.getD 94 .undef= .d (.sl (c.body.map PatT.d))∧env.getD 95 .undef= .d (.int .i64 c.body.length)∧env.getD 96 .undef= .d (.int .i64 z)∧env.getD 14 .undef=xo∧env.getD 17 .undef= .ptr (nxz+8) 0∧env.getD 104 .undef= .d (.sl (p.vars.map D.str))∧env.getD 105 .undef= .d (.int .i64 p.vars.length)∧st= {s:=sk,next:=nxk,low:=lwk}) ?_ (p.vars.length) (by refine⟨0,_,_,_,.nilS,rfl,ω,Gr.nil,d_1.frame (by intro j h1 h2;simp (disch:=omega) only[z00]),?_,?_,?_,ω,Nat.zero_le _,?_,?_,?_,?_,?_,?_,?_,?_,?_,?_,rfl⟩<;>simp only[w_len,w_96,w_6,w_94,w_95,w_14,w_dc0,w_dc1,w_dN,LB,simprocAttr])
    rintro m env st ⟨k,nxk,lwk,sk,xa,hm,f_0,f_1,f_2,w_fc0,w_fc1,w_fc2,w_fb,w_flo,w_len,w_106,w_6,w_94,w_95,w_96,w_14,w_17,w_104,w_105,rfl⟩
    have w_fN:=aI (cf1 (x:=nxk) (a:=10) ω) (aI (cf1 (x:=nxk) (a:=9) ω) (cf1 (x:=nxk) (a:=nxz+8) ω))
    have w_fS:=aI (cf2 (x:=nxk) ω w_fc0) (aI (cf2 (x:=nxk) ω w_fc1) (cf2 (x:=nxk) ω w_fc2))
    have w_fZ:=aI (zf (x:=nxk) (b:=nxz) (n:=14) ω ω) (zf0 (x:=nxk) (n:=18) ω)
    have w_f_1V:=aI (f_1.away (j:=9) ω) (aI (f_1.away (j:=10) ω) (f_1.away (j:=nxz+8) ω))
    have w_f_1c:=f_1.cell.1
    have w_f_1d:=f_1.cell.2
    have w_f_1e:=f_1.beq
    have w_f_2V:=aI (f_2.away (j:=9) ω) (aI (f_2.away (j:=10) ω) (f_2.away (j:=nxz+8) ω))
    have w_f_2c:=f_2.cell.1
    have w_f_2d:=f_2.cell.2
    have w_f_2e:=f_2.beq
    by_cases hk:k<p.vars.length
    ·obtain⟨xx,hxx,hxv⟩:=hpt _ (List.getElem_mem hk)
     have hget:=a_1 p.vars[k]
     rw[if_pos ⟨xx,hxx,hxv⟩] at hget
     have hcf:z2v false [.s] (.str p.vars[k])=true:=by have:=hAl _ hxx;rw[hxv] at this;simp[z2v,conf,z8y];omega
     have hlk:=fun s nx lw zero (h:sget s 9=some (.map 9 es))=> (z9d (s:=s) (nx:=nx) (lw:=lw) (zero:=zero) hcf h).trans (congrArg (fun o=>some (Option.getD o zero)) hget)
     simp only[TreeT.d] at hlk
     simp only[hk,zcb hk,hlk,Option.getD_some,w_len,w_106,w_6,w_17,w_104,w_105,w_fc0,w_fc1,w_fc2,↓LA,LB,simprocAttr]
     refine z4h f_1 ?_ (z0c fun a=>z1t) z03 ?_ ?_ ?_ ?_ ?_ fun chc0 hc0=> ?_
     ·intro j h1 h2;simp (disch:=omega) only[z00]
     ·rfl
     ·omega
     ·simp;omega
     ·simp;omega
     ·exact rfl
     simp only[z07 hk ω,w_len,w_106,w_17,w_fc2,w_fN,w_f_1V,↓LA,LB,simprocAttr]
     have hn3: (((p.vars.take (k+1)).map (look A)).map TreeT.d)= (((p.vars.take k).map (look A)).map TreeT.d)++ [(look A p.vars[k]).d]:=by rw[z2m hk,List.map_append,List.map_append];rfl
     exact z09 (by refine⟨_,ω,k+1,_,_,_,.arr (nxk+10) 2 true 0 ((((p.vars.take k).map (look A)).map TreeT.d).length+1),rfl,ω,(by rw[hn3];exact z4j hc0 (by intro j h1 h2 h3;simp (disch:=omega) only[z00,z01,z04 h3]) ω ω ω z03 rfl ⟨CV.data,CV.int,trivial⟩),f_2.frame (by intro j h1 h2;simp (disch:=omega) only[z00,z01,z04 (f_1.away (j:=j) ω)]),?_,?_,?_,ω,Nat.zero_le _,?_,?_,?_,?_,?_,?_,?_,?_,?_,?_,rfl⟩<;>simp only[w_len,w_6,w_94,w_95,w_96,w_14,w_17,w_104,w_105,w_fc0,w_fc1,w_fc2,w_fN,w_dN,w_f_1V,LB,simprocAttr])
    ·have hKt:p.vars.take k=p.vars:=List.take_of_length_le ω
     have hgf:=f_1
     rw[hKt] at hgf
     have hLg:Lg ⟨p.name,p.vars.map (look A)⟩:=fun u hu=>by
      obtain⟨v,hv,rfl⟩:=List.mem_map.1 hu
      obtain⟨xx,hxx,hxv⟩:=hpt v hv
      rw[←hxv,zao a_2 hxx]
      exact hA _ hxx
     simp only[hk,w_len,w_106,w_14,w_17,w_105,w_fc2,↓LA,LB,simprocAttr]
     refine z0d (zp7 (n:=p.name) (l:=p.vars.map (look A)) (by rw[List.length_map];omega) hLg.og hgf) fun r st hR=> ?_
     obtain⟨s1,n1,l1⟩:=st
     obtain⟨rfl,hn1,hf1⟩:=hR
     have hn1:n1=nxk+7:=hn1
     subst hn1
     have hf1:∀q,(q<nxz+14∨nxk≤q)→sget s1 q=sget sk q:=hf1
     rw[hLg.fix]
     have hg2:Gr s1 false 18 0 nxz 2 true xo (((c.body.take z).map (zd6 A)).map GoalT.d):=f_2.frame fun j h1 h2=>hf1 j (.inl ω)
     have w_y0:= (hf1 10 (.inl ω)).trans w_fc0
     have w_y1:= (hf1 9 (.inl ω)).trans w_fc1
     simp only[GoalT.d,w_len,↓LA,LB,simprocAttr]
     refine z4h hg2 ?_ (z0c fun a=>z8v) z03 ?_ ?_ ?_ ?_ ?_ fun chc0 hc0=> ?_
     ·intro j h1 h2;simp (disch:=omega) only[z00]
     ·rfl
     ·omega
     ·simp;omega
     ·simp;omega
     ·exact rfl
     simp only[z07 hz ω,w_len,w_96,↓LA,LB,simprocAttr]
     have hn2: (((c.body.take (z+1)).map (zd6 A)).map GoalT.d)= (((c.body.take z).map (zd6 A)).map GoalT.d)++ [.agg [.str p.name,.sl ((p.vars.map (look A)).map TreeT.d)]]:=by
      rw[z2m hz,List.map_append,List.map_append,←hp];rfl
     exact z09 (by refine⟨_,ω,z+1,_,_,_,.arr (nxk+5) 2 true 0 ((((c.body.take z).map (zd6 A)).map GoalT.d).length+1),rfl,ω,(by rw[hn2];exact z4j hc0 (by intro j h1 h2 h3;simp (disch:=omega) only[z00,z04 h3]) ω ω ω z03 rfl ⟨CV.str,CV.data,trivial⟩),?_,?_,ω,Nat.zero_le _,?_,?_,?_,?_,?_,?_,rfl⟩<;>simp only[w_len,w_6,w_94,w_95,w_fN,w_f_2V,w_y0,w_y1,LB,simprocAttr])
   ·have hbt:c.body.take z=c.body:=List.take_of_length_le ω
    have hga:=d_1
    rw[hbt] at hga
    simp only[hz,w_len,w_96,w_95,w_14,↓LA,LB,simprocAttr]
    exact rql2 (x:= .sl ((c.body.map (zd6 A)).map GoalT.d)) (y:= .bool true) (zkb (S:=Iv 18 nxz) (b:=0) (n:=0) (es:=2) (ag:=true) (fun _ _=>Nat.zero_le _) hga (by decide) (z0c fun a=>z8v) (by decide)) zr5 rfl
 ·simp only[T1.i99,ClauseT.d,GoalT.d,hr,w_len,w_0,w_1,↓LA,LB,simprocAttr]
  exact z5e (if_neg fun h=>hr h.1)
def zco {α:Type} {f:α→Int} {l:List α} (h:z0r f l=0):∀x∈l,f x=0:=by
 intro t ht
 apply Classical.byContradiction
 intro h0
 unfold z0r at h
 cases hf:l.find? (fun t=>decide (f t≠0)) with
 |none=>
  rw[List.find?_eq_none] at hf
  have:=hf t ht
  simp at this
  exact h0 this
 |some u=>
  rw[hf] at h
  have:=List.find?_some hf
  simp at this
  exact this h
def zkc {r:RulesT} {g:GoalT} (hg:g.ok) (h:z0q r g=0):Og g:=by
 apply y8q hg
 unfold z0q at h
 by_cases h1:z0l r≠0
 ·rw[if_pos h1] at h;exact absurd h h1
 ·rw[if_neg h1] at h
  cases hf:r.rels.find? (isR g.rel) with
  |none=>rw[hf] at h;simp at h
  |some x=>
   rw[hf] at h
   simp only at h
   by_cases h2: (g.args.length:Int)≠x.arity
   ·rw[if_pos h2] at h;simp at h
   ·rw[if_neg h2] at h;exact h
structure Cf (c:ClauseT) (g:GoalT):Prop where
 len:c.rel=g.rel→c.head.length=g.args.length
 hd:∀p∈c.head,p.vars.length≤4∧(p.name= []→p.vars.length=1)∧∀v∈p.vars,v.length≤8
 th:∀g',∀p∈c.body,∀v∈p.vars,∃x∈bndN c g' c.head.length,x.1=v
def zcz {r:RulesT} {g:GoalT} (h:z0q r g=0) {c:ClauseT} (hc:c∈r.clauses):Cf c g:=by
 unfold z0q at h
 by_cases h1:z0l r≠0
 ·rw[if_pos h1] at h;exact absurd h h1
 rw[if_neg h1] at h
 have h1:z0l r=0:=Classical.byContradiction h1
 have hcl:z0y r c=0:=by
  unfold z0l at h1
  by_cases e1: ((r.rels.length:Int)<1∨(8:Int)<r.rels.length)∨(24:Int)<r.clauses.length
  ·rw[if_pos e1] at h1;simp at h1
  ·rw[if_neg e1] at h1
   by_cases e2:z4x (fun i=>z18 r i (r.rels.getD i ⟨[],0,0⟩)) r.rels.length≠0
   ·rw[if_pos e2] at h1;exact absurd h1 e2
   ·rw[if_neg e2] at h1;exact zco h1 c hc
 unfold z0y at hcl
 cases hf:r.rels.find? (isR c.rel) with
 |none=>rw[hf] at hcl;simp at hcl
 |some x=>
  rw[hf] at hcl
  simp only at hcl
  by_cases e1: (c.head.length:Int)≠x.arity∨(4:Int)<c.body.length∨c.head.all few=false
  ·rw[if_pos e1] at hcl;simp at hcl
  rw[if_neg e1] at hcl
  by_cases e2:c.head.all nmd=false
  ·rw[if_pos e2] at hcl;simp at hcl
  rw[if_neg e2] at hcl
  have a1: (c.head.length:Int)=x.arity:=Classical.byContradiction fun k=>e1 (.inl k)
  have a2:c.head.all few=true:=by
   cases hq:c.head.all few with
   |true=>rfl
   |false=>exact absurd (.inr (.inr hq)) e1
  have a3:c.head.all nmd=true:=by
   cases hq:c.head.all nmd with
   |true=>rfl
   |false=>exact absurd hq e2
  refine⟨fun e=> ?_,fun p hp=> ?_,fun g' p hp v hv=> ?_⟩
  ·rw[←e,hf] at h
   simp only at h
   by_cases e3: (g.args.length:Int)≠x.arity
   ·rw[if_pos e3] at h;simp at h
   ·have: (g.args.length:Int)=x.arity:=Classical.byContradiction e3
    omega
  ·have f1:=List.all_eq_true.1 a2 p hp
   have f2:=List.all_eq_true.1 a3 p hp
   simp only[few,nmd,Bool.and_eq_true,decide_eq_true_eq,Bool.or_eq_true,Bool.not_eq_true',decide_eq_false_iff_not] at f1 f2
   refine⟨f1.1,fun e=>f1.2.resolve_left (fun k=>k e),fun v hv=>z8b (List.all_eq_true.1 f2.2 v hv)⟩
  ·have f1:=zco hcl p hp
   unfold z2r at f1
   cases hf2:r.rels.find? (isR p.name) with
   |none=>rw[hf2] at f1;simp at f1
   |some y=>
    rw[hf2] at f1
    simp only at f1
    by_cases e3: (p.vars.length:Int)≠y.arity
    ·rw[if_pos e3] at f1;simp at f1
    rw[if_neg e3] at f1
    by_cases e4:p.vars.all (z5a c.head)=false
    ·rw[if_pos e4] at f1;simp at f1
    have e5:p.vars.all (z5a c.head)=true:=by
     cases hq:p.vars.all (z5a c.head) with
     |true=>rfl
     |false=>exact absurd hq e4
    have e6:=List.all_eq_true.1 e5 v hv
    unfold z5a at e6
    obtain⟨q,hq,e7⟩:=List.any_eq_true.1 e6
    obtain⟨w,hw,e8⟩:=List.any_eq_true.1 e7
    have e9:=of_decide_eq_true e8
    subst e9
    obtain⟨i,hi,rfl⟩:=List.mem_iff_getElem.1 hq
    obtain⟨k,hk,rfl⟩:=List.mem_iff_getElem.1 hw
    refine⟨subE c g' i k,zlf hi (by rw[zyo hi];exact hk),?_⟩
    show (Go.Lift.K.hd c i).vars.getD k []=_
    rw[zyo hi,List.getD_eq_getElem?_getD,List.getElem?_eq_getElem hk]
    rfl
def Rg (r:RulesT) (g:GoalT):Prop:=z0q r g=0∧Lg g
def z1y {r:RulesT} {g:GoalT} (h:z0q r g=0):z0l r=0∧∃x,r.rels.find? (isR g.rel)=some x∧(g.args.length:Int)=x.arity∧z0r z0f g.args=0:=by
 unfold z0q at h
 by_cases h1:z0l r≠0
 ·rw[if_pos h1] at h;exact absurd h h1
 rw[if_neg h1] at h
 refine⟨Classical.byContradiction h1,?_⟩
 cases hf:r.rels.find? (isR g.rel) with
 |none=>rw[hf] at h;simp at h
 |some x=>
  rw[hf] at h
  simp only at h
  by_cases h2: (g.args.length:Int)≠x.arity
  ·rw[if_pos h2] at h;simp at h
  ·rw[if_neg h2] at h;exact⟨x,rfl,Classical.byContradiction h2,h⟩
def zcm {f:Nat→Int} {n:Nat} (h:z4x f n=0):∀i,i<n→f i=0:=by
 intro i hi
 apply Classical.byContradiction
 intro h0
 unfold z4x at h
 have:=zco (f:=f) (l:=List.range n) (by simpa [z0r] using h) i (by simpa using hi)
 exact h0 this
def z6n {r:RulesT} (h:z0l r=0) {x:RelT} (hx:x∈r.rels):z0z x.name=true∧1≤x.arity∧x.arity≤3∧0≤x.rank∧x.rank≤3:=by
 unfold z0l at h
 by_cases e1: ((r.rels.length:Int)<1∨(8:Int)<r.rels.length)∨(24:Int)<r.clauses.length
 ·rw[if_pos e1] at h;simp at h
 rw[if_neg e1] at h
 by_cases e2:z4x (fun i=>z18 r i (r.rels.getD i ⟨[],0,0⟩)) r.rels.length≠0
 ·rw[if_pos e2] at h;exact absurd h e2
 have e2:z4x (fun i=>z18 r i (r.rels.getD i ⟨[],0,0⟩)) r.rels.length=0:=Classical.byContradiction e2
 obtain⟨i,hi,rfl⟩:=List.mem_iff_getElem.1 hx
 have:=zcm e2 i hi
 have e:r.rels.getD i ⟨[],0,0⟩=r.rels[i]:=by simp[hi]
 rw[e] at this
 unfold z18 at this
 by_cases a1:z0z r.rels[i].name=false
 ·rw[if_pos a1] at this;simp at this
 rw[if_neg a1] at this
 by_cases a2:r.rels[i].arity<1∨3<r.rels[i].arity
 ·rw[if_pos a2] at this;simp at this
 rw[if_neg a2] at this
 by_cases a3:r.rels[i].rank<0∨3<r.rels[i].rank
 ·rw[if_pos a3] at this;simp at this
 exact⟨by simpa using a1,ω,ω,ω,ω⟩
def z50 {r:RulesT} (h:z0l r=0):r.clauses.length≤24∧r.rels.length≤8∧∀c∈r.clauses,z0y r c=0:=by
 unfold z0l at h
 by_cases e1: ((r.rels.length:Int)<1∨(8:Int)<r.rels.length)∨(24:Int)<r.clauses.length
 ·rw[if_pos e1] at h;simp at h
 rw[if_neg e1] at h
 by_cases e2:z4x (fun i=>z18 r i (r.rels.getD i ⟨[],0,0⟩)) r.rels.length≠0
 ·rw[if_pos e2] at h;exact absurd h e2
 ·rw[if_neg e2] at h
  exact⟨ω,ω,zco h⟩
def Rg.rel {r:RulesT} {g:GoalT} (h:Rg r g):∃x∈r.rels,g.rel=x.name∧(g.args.length:Int)=x.arity∧g.rel.length≤8∧1≤g.args.length∧g.args.length≤3∧0≤z2i r.rels g.rel∧z2i r.rels g.rel<r.rels.length:=by
 obtain⟨hc,x,hf,ha,_⟩:=z1y h.1
 have hx:=List.mem_of_find?_eq_some hf
 obtain⟨n1,n2,n3,_⟩:=z6n hc hx
 have e:x.name=g.rel:=by simpa [isR] using List.find?_some hf
 refine⟨x,hx,e.symm,ha,by rw[←e];exact z8b n1,ω,ω,?_⟩
 obtain⟨i,hi,hi2,hi3⟩:=List.find?_eq_some_iff_getElem.1 hf|>.2
 have:z2i r.rels g.rel=i:=zca hi (fun y hy=>by
  obtain⟨j,hj,rfl⟩:=List.mem_iff_getElem.1 hy
  rw[List.length_take] at hj
  rw[List.getElem_take]
  have:=hi3 j ω
  simpa using this) (by rw[hi2];simpa [isR] using e)
 omega
def Rg.ok {r:RulesT} (hr:r.ok) {g:GoalT} (h:Rg r g):g.ok:=by
 obtain⟨x,hx,e,_,_,_,h3,_⟩:=h.rel
 exact⟨by rw[e];exact (hr.1.2 x hx).1,by unfold LOk;omega,fun t ht=> (h.2 t ht).tok⟩
def z84 {r:RulesT} {g:GoalT} (hg:g.ok) (h:z0q r g=0):Rg r (z1c g):=by
 obtain⟨hc,x,hf,ha,he⟩:=z1y h
 have hog:=zkc hg h
 refine⟨?_,zmb hog⟩
 unfold z0q
 rw[if_neg (by rw[hc];simp)]
 show (match r.rels.find? (isR g.rel) with|none=>1|some x=>if ((z1c g).args.length:Int)≠x.arity then 2 else z0r z0f (z1c g).args)=0
 rw[hf]
 simp only
 rw[if_neg (by show ¬(((g.args.map z1o).length:Nat):Int)≠_;rw[List.length_map];simpa using ha)]
 exact z17 fun t ht=> (zmb hog t ht).gdt.spec
def zxz {A:List (List Nat×TreeT)} (h:∀x∈A,Lst x.2) {v:Ln} (hv:∃x∈A,x.1=v):Lst (look A v):=by
 unfold look
 cases hf:A.find? (fun x=>decide (x.1=v)) with
 |none=>
  obtain⟨x,hx,e⟩:=hv
  rw[List.find?_eq_none] at hf
  exact absurd (hf x hx) (by simp[e])
 |some x=>exact h x (List.mem_of_find?_eq_some hf)
def zlm {r:RulesT} {g:GoalT} (h:Rg r g) {c:ClauseT} (hc:c∈r.clauses) (hf:fitS c g) {x:GoalT} (hx:x∈z4m c g):Rg r x:=by
 have hcf:=zcz h.1 hc
 obtain⟨hch,_⟩:=z1y h.1
 have hlen:=hcf.len hf.1
 obtain⟨a,ha,rfl⟩:=List.mem_map.1 hx
 have hA:=zfl (n:=c.head.length) h.2 (fun i hi=>ω) hf.2.1
 have hl:Lg (zd6 (bndN c g c.head.length) a):=fun t ht=>by
  obtain⟨v,hv,rfl⟩:=List.mem_map.1 ht
  exact zxz hA (hcf.th g a ha v hv)
 refine⟨?_,hl⟩
 have hcl:= (z50 hch).2.2 c hc
 have hat:z2r r c.head a=0:=by
  unfold z0y at hcl
  cases hq:r.rels.find? (isR c.rel) with
  |none=>rw[hq] at hcl;simp at hcl
  |some x=>
   rw[hq] at hcl
   simp only at hcl
   by_cases e1: (c.head.length:Int)≠x.arity∨(4:Int)<c.body.length∨c.head.all few=false
   ·rw[if_pos e1] at hcl;simp at hcl
   rw[if_neg e1] at hcl
   by_cases e2:c.head.all nmd=false
   ·rw[if_pos e2] at hcl;simp at hcl
   rw[if_neg e2] at hcl
   exact zco hcl a ha
 unfold z2r at hat
 unfold z0q
 rw[if_neg (by rw[hch];simp)]
 show (match r.rels.find? (isR a.name) with|none=>1|some x=>if ((zd6 (bndN c g c.head.length) a).args.length:Int)≠x.arity then 2 else z0r z0f (zd6 (bndN c g c.head.length) a).args)=0
 cases hq:r.rels.find? (isR a.name) with
 |none=>rw[hq] at hat;simp at hat
 |some x=>
  rw[hq] at hat
  simp only at hat⊢
  by_cases e1: (a.vars.length:Int)≠x.arity
  ·rw[if_pos e1] at hat;simp at hat
  have e1: (a.vars.length:Int)=x.arity:=Classical.byContradiction e1
  rw[if_neg (by show ¬(((a.vars.map _).length:Nat):Int)≠_;rw[List.length_map];simpa using e1)]
  exact z17 fun t ht=> (hl t ht).gdt.spec
def zix {r:RulesT} (h:z0l r=0) {c:ClauseT} (hc:c∈r.clauses) {g:GoalT} : (z4m c g).length≤4:=by
 have hcl:= (z50 h).2.2 c hc
 unfold z4m
 rw[List.length_map]
 unfold z0y at hcl
 cases hq:r.rels.find? (isR c.rel) with
 |none=>rw[hq] at hcl;simp at hcl
 |some x=>
  rw[hq] at hcl
  simp only at hcl
  by_cases e1: (c.head.length:Int)≠x.arity∨(4:Int)<c.body.length∨c.head.all few=false
  ·rw[if_pos e1] at hcl;simp at hcl
  ·omega
noncomputable def addG (L:List GoalT) (x:GoalT):List GoalT:=if x∈L then L else L++ [x]
noncomputable def addL (L:List GoalT) (l:List GoalT):List GoalT:=l.foldl addG L
noncomputable def ix (L:List GoalT) (g:GoalT):Nat:= (ixG L g).getD 0
def zaq {L:Lh} {g:GoalT} :ixG L g=none↔g∉L:=by
 unfold ixG
 rw[List.findIdx?_eq_none_iff]
 constructor
 ·intro h hg
  have:=h g hg
  simp at this
 ·intro h x hx
  have:x≠g:=fun e=>h (e▸hx)
  simpa using this
def zmk {L:Lh} {g:GoalT} {i:Nat} (h:ixG L g=some i):∃hi:i<L.length,L[i]=g∧g∈L:=by
 unfold ixG at h
 obtain⟨hi,h2,_⟩:=List.findIdx?_eq_some_iff_getElem.1 h
 have e:L[i]=g:=by simpa using h2
 exact⟨hi,e,e▸List.getElem_mem hi⟩
def y8y {L:Lh} {g:GoalT} (h:g∈L):∃hi:ix L g<L.length,L[ix L g]=g:=by
 unfold ix
 cases hc:ixG L g with
 |none=>exact absurd h (zaq.1 hc)
 |some i=>
  obtain⟨a,b,_⟩:=zmk hc
  exact⟨a,b⟩
def y3w {L M:Lh} {g:GoalT} (h:g∈L):ixG (L++M) g=ixG L g:=by
 unfold ixG
 rw[List.findIdx?_append]
 cases hc:L.findIdx? fun x=>decide (x=g) with
 |none=>exact absurd h (zaq.1 hc)
 |some i=>rfl
theorem y0x {L M:Lh} {g:GoalT} (h:g∈L):ix (L++M) g=ix L g:=by unfold ix;rw[y3w h]
def y71 {L:Lh} {g:GoalT} (h:g∉L):ix (L++ [g]) g=L.length:=by
 unfold ix
 rw[zml (zaq.2 h),if_pos rfl]
 rfl
def zo3 (L:Lh) (x:GoalT):∃M,addG L x=L++M∧M.length≤1:=by
 unfold addG
 by_cases h:x∈L
 ·rw[if_pos h];exact⟨[],by simp,by simp⟩
 ·rw[if_neg h];exact⟨[x],rfl,by simp⟩
def zb0 (l:Lh):∀L:List GoalT,∃M,addL L l=L++M∧M.length≤l.length:=by
 induction l with
 |nil=>exact fun L=>⟨[],by simp[addL],by simp⟩
 |cons x l ih=>
  intro L
  obtain⟨M1,e1,h1⟩:=zo3 L x
  obtain⟨M2,e2,h2⟩:=ih (addG L x)
  refine⟨M1++M2,?_,by simp;omega⟩
  show addL (addG L x) l=_
  rw[e2,e1,List.append_assoc]
def y06 {L:Lh} {x y:GoalT} :y∈addG L x↔y∈L∨y=x:=by
 unfold addG
 by_cases h:x∈L
 ·rw[if_pos h]
  exact⟨.inl,fun k=>k.elim id fun e=>e▸h⟩
 ·rw[if_neg h];simp
def z77 {l:Lh} :∀{L:Lh} {y:GoalT},y∈addL L l↔y∈L∨y∈l:=by
 induction l with
 |nil=>intro L y;simp[addL]
 |cons x l ih=>
  intro L y
  show y∈addL (addG L x) l↔_
  rw[ih,y06,List.mem_cons,or_assoc]
def zq2 {L:Lh} {x:GoalT} (h:L.Nodup): (addG L x).Nodup:=by
 unfold addG
 by_cases hx:x∈L
 ·rw[if_pos hx];exact h
 ·rw[if_neg hx]
  rw[List.nodup_append]
  exact⟨h,by simp,fun a ha b hb e=>by rw[List.mem_singleton] at hb;subst hb;subst e;exact hx ha⟩
def zq1 {l:Lh} :∀{L:Lh},L.Nodup→(addL L l).Nodup:=by
 induction l with
 |nil=>exact fun h=>h
 |cons x l ih=>exact fun h=>ih (zq2 h)
theorem zw0 {L l:Lh} {x:GoalT} :addL L (l++ [x])=addG (addL L l) x:=by unfold addL;rw[List.foldl_append];rfl
theorem y05 {L l m:Lh} :addL L (l++m)=addL (addL L l) m:=by unfold addL;rw[List.foldl_append]
def clA (r:RulesT) (c:Nat):ClauseT:=r.clauses.getD c ⟨[],[],[]⟩
noncomputable def z7d (r:RulesT) (g:GoalT) (c:Nat):List (Nat×List GoalT):=if fitS (clA r c) g then [(c,z4m (clA r c) g)] else []
noncomputable def z2q (r:RulesT) (g:GoalT) (n:Nat):List (Nat×List GoalT):= (List.range n).flatMap (z7d r g)
theorem z47 {r:RulesT} {g:GoalT} {n:Nat} :z2q r g (n+1)=z2q r g n++z7d r g n:=by simp[z2q,List.range_succ]
def zck {r:RulesT} {g:GoalT} {n:Nat} {p:Nat×List GoalT} :p∈z2q r g n↔p.1<n∧fitS (clA r p.1) g∧p.2=z4m (clA r p.1) g:=by
 unfold z2q z7d
 rw[List.mem_flatMap]
 constructor
 ·rintro⟨c,hc,h⟩
  by_cases hf:fitS (clA r c) g
  ·rw[if_pos hf,List.mem_singleton] at h
   subst h
   exact⟨by simpa using hc,hf,rfl⟩
  ·rw[if_neg hf] at h;simp at h
 ·rintro⟨h1,h2,h3⟩
  refine⟨p.1,by simpa using h1,?_⟩
  rw[if_pos h2,←h3]
  simp
def zcl {r:RulesT} {g:GoalT} :∀{n:Nat},(z2q r g n).length≤n
 |0=>by simp[z2q]
 |n+1=>by
  rw[z47,List.length_append]
  have:=zcl (r:=r) (g:=g) (n:=n)
  have h1: (z7d r g n).length≤1:=by unfold z7d;split<;>simp
  omega
def z2k (l:List (Nat×List GoalT)):List GoalT:=l.flatMap Prod.snd
noncomputable def goalsL (r:RulesT) (g:GoalT):Nat→List GoalT
 |0=> [g]
 |i+1=>addL (goalsL r g i) (z2k (z2q r ((goalsL r g i).getD i ⟨[],[]⟩) r.clauses.length))
def z9h {r:RulesT} {g:GoalT} {i:Nat} :∃M,goalsL r g (i+1)=goalsL r g i++M:=by
 obtain⟨M,h,_⟩:=zb0 (z2k (z2q r ((goalsL r g i).getD i ⟨[],[]⟩) r.clauses.length)) (goalsL r g i)
 exact⟨M,h⟩
def z3i {r:RulesT} {g:GoalT} {i:Nat} :∀{j:Nat},∃M,goalsL r g (i+j)=goalsL r g i++M
 |0=>⟨[],by simp⟩
 |j+1=>by
  obtain⟨M,h⟩:=z3i (i:=i) (j:=j)
  obtain⟨M',h'⟩:=z9h (r:=r) (g:=g) (i:=i+j)
  exact⟨M++M',by rw[←Nat.add_assoc,h',h,List.append_assoc]⟩
def za0 {r:RulesT} {g:GoalT} :∀{i:Nat},(goalsL r g i).Nodup
 |0=>by simp[goalsL]
 |i+1=>zq1 za0
def z5l {r:RulesT} {g:GoalT} (h:Rg r g):∀{i:Nat},(∀j,j<i→j< (goalsL r g j).length)→∀x∈goalsL r g i,Rg r x
 |0,_,x,hx=>by
  simp[goalsL] at hx
  exact hx▸h
 |i+1,hi,x,hx=>by
  rcases z77.1 hx with hx|hx
  ·exact z5l h (fun j hj=>hi j ω) x hx
  ·obtain⟨p,hp,hxp⟩:=List.mem_flatMap.1 hx
   obtain⟨h1,h2,h3⟩:=zck.1 hp
   rw[h3] at hxp
   have hil:=hi i ω
   have e: (goalsL r g i).getD i ⟨[],[]⟩= (goalsL r g i)[i]:=by simp[hil]
   rw[e] at h2 hxp
   have hc:clA r p.1∈r.clauses:=by
    have:clA r p.1=r.clauses[p.1]:=by simp[clA,h1]
    rw[this];exact List.getElem_mem h1
   exact zlm (z5l h (fun j hj=>hi j ω) _ (List.getElem_mem hil)) hc h2 hxp
structure Goals (r:RulesT) (g:GoalT) (L:List GoalT):Prop where
 eq:L=goalsL r g L.length
 lt:∀i,i<L.length→i< (goalsL r g i).length
 most:L.length≤300
def Goals.pre {r:RulesT} {g:GoalT} {L:Lh} (h:Goals r g L) {i:Nat} (hi:i≤L.length):∃M,L=goalsL r g i++M:=by
 obtain⟨M,e⟩:=z3i (r:=r) (g:=g) (i:=i) (j:=L.length-i)
 refine⟨M,?_⟩
 rw[←e,show i+ (L.length-i)=L.length by omega]
 exact h.eq
def Goals.at_ {r:RulesT} {g:GoalT} {L:Lh} (h:Goals r g L) {i:Nat} (hi:i<L.length): (goalsL r g i).getD i ⟨[],[]⟩=L[i]:=by
 obtain⟨M,e⟩:=h.pre (i:=i) ω
 have hl:=h.lt i hi
 have:L[i]= (goalsL r g i)[i]:=by simp only[e];exact List.getElem_append_left hl
 rw[this]
 simp[hl]
def Goals.closed {r:RulesT} {g:GoalT} {L:Lh} (h:Goals r g L) {i:Nat} (hi:i<L.length) {x:GoalT} {p:Nat×List GoalT} (hp:p∈z2q r L[i] r.clauses.length) (hx:x∈p.2):x∈L:=by
 obtain⟨M,e⟩:=h.pre (i:=i+1) ω
 rw[e]
 refine List.mem_append_left _ (z77.2 (.inr (List.mem_flatMap.2 ⟨p,?_,hx⟩)))
 rw[h.at_ hi]
 exact hp
structure SpotT where
 owner:Nat
 rank:Int
 next:List Nat
 clause:Nat
def intD (n:Nat):D:= .int .i64 (n:Nat)
abbrev Lq:=List SpotT
variable{s:Sto}
def SpotT.d (x:SpotT):D:= .agg [.int .i64 (x.owner:Nat),.int .i64 x.rank,.sl (x.next.map intD),.int .i64 (x.clause:Nat)]
theorem zau:∀x:SpotT,Elt 4 true x.d:=fun x=> .inl ⟨rfl,_,rfl,rfl,rfl⟩
theorem z8u:∀n:Nat,Elt 1 false (intD n):=fun n=>z63
structure Nm where
 g:Nat
 p:Nat
 n:Nat
 m:Nat
 f:Nat
 c:Nat
structure Nm.ok (N:Nm) (n0:Nat):Prop where
 lt:N.g<n0∧N.p<n0∧N.n<n0∧N.m<n0∧N.f<n0∧N.c<n0
 g:N.g≠N.p∧N.g≠N.n∧N.g≠N.m∧N.g≠N.f∧N.g≠N.c
 p:N.p≠N.n∧N.p≠N.m∧N.p≠N.f∧N.p≠N.c
 n:N.n≠N.m∧N.n≠N.f∧N.n≠N.c
 m:N.m≠N.f∧N.m≠N.c
 f:N.f≠N.c
def gC (r:RulesT) (N:Nm) (gv:V):List V:= [.d (.sl (r.rels.map RelT.d)),.d (.sl (r.clauses.map ClauseT.d)),gv,.nilS,.nilS,.fn 71 [.ptr N.g 0] []]
structure Og1 (r:RulesT) (N:Nm) (gv:V) (L:List GoalT) (es:List (D×V)) (s:Sto) (nx:Nat):Prop where
 p:sget s N.p=some (.cells [.ptr N.g 0])
 n:sget s N.n=some (.cells [.map N.m])
 f:sget s N.f=some (.cells [.fn 72 [] [.ptr N.n 0,.ptr N.p 0]])
 g:sget s N.g=some (.cells (gC r N gv))
 m:sget s N.m=some (.map 153 es)
 km:Kmp es L
 hg:GP s false (fun q=>¬away gv q) 0 2 true gv (L.map GoalT.d)
 ga:away gv N.g∧away gv N.p∧away gv N.n∧away gv N.m∧away gv N.f∧away gv N.c
 gn:∀q,nx≤q→away gv q
def Og1.step {r:RulesT} {N:Nm} {gv:V} {L:Lh} {es:List (D×V)} {s':Sto} {nx nx' n0:Nat} (h:Og1 r N gv L es s nx) (hN:N.ok n0) (hs:∀q,(q<n0∨¬away gv q)→q≠N.c→sget s' q=sget s q) (hn:nx≤nx'):Og1 r N gv L es s' nx' :=by
 obtain⟨h1,h2,h3,h4,h5,h6,h7,h8,h9⟩:=h
 obtain⟨l1,l2,l3,l4,l5,l6⟩:=hN.lt
 have a1:=hN.g
 have a2:=hN.p
 have a3:=hN.n
 have a4:=hN.m
 have a5:=hN.f
 exact⟨(hs _ (.inl l2) ω).trans h1,(hs _ (.inl l3) ω).trans h2,(hs _ (.inl l5) ω).trans h3,(hs _ (.inl l1) ω).trans h4,(hs _ (.inl l4) ω).trans h5,h6,h7.frame fun q hq=>hs q (.inr hq) (fun e=>hq (e▸h8.2.2.2.2.2)),h8,fun q hq=>h9 q ω⟩
def y79  {lv:Bool} {S:Nat→Prop} {es:Nat} {ag:Bool} {v:V} {ds:Ld} (h:GP s lv S 0 es ag v ds):GP s lv (fun q=>¬away v q) 0 es ag v ds:=by
 rcases h with h|⟨k,cs,rfl,h1,h2,h3⟩
 ·exact .inl h
 ·exact .inr ⟨k,cs,rfl,fun e=>e rfl,h2,h3.imp fun v d hv=>hv⟩
def y9o (r:RulesT) (N:Nm) (gv:V) (L:List GoalT) (x:GoalT) (s0:Sto) (nx:Nat) (v:V) (st:St):Prop:=
 v= .d (.int .i64 (ix (addG L x) x:Nat))∧nx≤st.next∧(∀q,q<nx→q≠N.m→q≠N.g→away gv q→sget st.s q=sget s0 q)∧
  ∃gv' es',Og1 r N gv' (addG L x) es' st.s st.next∧∀q,q<nx→away gv q→away gv' q
def y0u {r:RulesT} {N:Nm} {gv:V} {L:Lh} {es:List (D×V)}  {n0 nx lw:Nat} (h:Og1 r N gv L es s nx) (hN:N.ok n0) (hn0:n0≤nx) {x:GoalT} (hx:Rg r x) (hL:L.length≤1000000):
  PostV (z06 G (.fn 72 [] [.ptr N.n 0,.ptr N.p 0]) [.d x.d] {s:=s,next:=nx,low:=lw}) (y9o r N gv L x s nx):=by
 obtain⟨l1,l2,l3,l4,l5,l6⟩:=hN.lt
 have a1:=hN.g
 have a2:=hN.p
 have a3:=hN.n
 have a4:=hN.m
 have a5:=hN.f
 obtain⟨_,_,_,_,x5,x6,x7,_⟩:=hx.rel
 have hne:∀{q j:Nat},¬away gv q→away gv j→q≠j:=fun h1 h2 e=>h1 (e▸h2)
 have hb:V.beqL (gC r N gv) (gC r N gv)=true:=by
  have:=h.hg.beq
  simp[gC,V.beqL,V.beq,this,D.beq_refl]
 obtain⟨b1,b2,b3,b4,b5,b6⟩:=h.ga
 refine PostV.mono (y3b (S:=fun q=>¬away gv q) hx.2 ω ω hL h.km h.n h.m h.p h.g h.hg (fun q hq=>⟨?_,hne hq b3,hne hq b4,hne hq b2,hne hq b1⟩) ⟨ω,ω,ω,ω⟩ ⟨a3.1,fun e=>a2.1 e.symm,fun e=>a1.2.1 e.symm,fun e=>a2.2.1 e.symm,fun e=>a1.2.2.1 e.symm,fun e=>a1.1 e.symm⟩ hb) ?_
 ·exact Classical.byContradiction fun e=>hq (h.gn q ω)
 rintro v st ⟨hn,hf,hR⟩
 have hf' :∀q,q<nx→q≠N.m→q≠N.g→away gv q→sget st.s q=sget s q:=fun q g1 g2 g3 g4=>hf q g1 g2 g3 (fun e=>e g4)
 rcases hR with⟨i,hi,rfl,hs⟩|⟨hi,rfl,hm,gv',hg,hgp⟩
 ·obtain⟨_,_,hm⟩:=zmk hi
  have e:addG L x=L:=if_pos hm
  refine⟨by rw[e];unfold ix;rw[hi];rfl,hn,hf',gv,es,?_,fun q _ h=>h⟩
  rw[e]
  exact h.step hN (fun q hq hc=>hs q (hq.elim ω fun hq=>Classical.byContradiction fun e=>hq (h.gn q ω))) hn
 ·have hm' :=zaq.1 hi
  have e:addG L x=L++ [x]:=if_neg hm'
  have hgk:=y79 hgp
  have haw:∀q,q<nx→away gv q→away gv' q:=fun q g1 g2=>hgp.away (fun hq=>hq.elim (fun h=>h g2) fun h=>ω)
  refine⟨by rw[e,y71 hm'],hn,hf',gv',z2c es (keyD x) (.d (.int .i64 (L.length:Nat))),?_,haw⟩
  rw[e]
  refine⟨(hf' _ ω ω ω b2).trans h.p,(hf' _ ω ω ω b3).trans h.n,(hf' _ ω ω ω b5).trans h.f,hg,hm,y3p hx.2 ω h.km hi,hgk,⟨haw _ ω b1,haw _ ω b2,haw _ ω b3,haw _ ω b4,haw _ ω b5,haw _ ω b6⟩,fun q hq=>hgp.away (fun h1=>h1.elim (fun h2=>h2 (h.gn q ω)) fun h2=>ω)⟩
end Go.Lift.K
namespace Go.Lift.K
open Go Go.Lift
def bg (l:List Bool) (i:Nat):Bool:=l.getD i false
def cnt (l:List Bool):Nat:=l.count true
def spA (sp:List SpotT) (i:Nat):SpotT:=sp.getD i ⟨0,0,[],0⟩
def hit (inn out:List Bool) (l:List Nat):Option Nat:=l.findIdx? fun n=>bg inn n&&bg out n
def left (inn out:List Bool) (l:List Nat):Bool:=l.any fun n=>bg inn n&& !bg out n
abbrev DS:=List Bool×List Nat
def z2l (sp:List SpotT) (inn:List Bool) (p i:Nat) (o:DS):DS:=
 if bg inn i=false∨bg o.1 i=true then o else
 if (spA sp i).owner=p then
  match hit inn o.1 (spA sp i).next with
  |some k=> (o.1.set i true,o.2.set i k)
  |none=>o
 else if left inn o.1 (spA sp i).next=true then o else (o.1.set i true,o.2)
def z16 (sp:List SpotT) (inn:List Bool) (p:Nat) (o:DS):Nat→DS
 |0=>o
 |i+1=>z2l sp inn p i (z16 sp inn p o i)
def drawS (sp:List SpotT) (inn:List Bool) (p:Nat) (o:DS):DS:=
 if cnt o.1<cnt (z16 sp inn p o sp.length).1∧cnt (z16 sp inn p o sp.length).1≤sp.length then drawS sp inn p (z16 sp inn p o sp.length) else z16 sp inn p o sp.length
termination_by sp.length-cnt o.1
decreasing_by omega
def zgl {l:Lb} {i:Nat} (h:bg l i=true):i<l.length:=by
 rcases Nat.lt_or_ge i l.length with h' |h'
 ·exact h'
 ·simp[bg,List.getElem?_eq_none h'] at h
def zep {l:Lb} {i j:Nat} {b:Bool} (hi:i<l.length):bg (l.set i b) j=if j=i then b else bg l j:=by
 unfold bg
 by_cases h:j=i
 ·subst h;simp[hi]
 ·simp[h,show ¬i=j from fun e=>h e.symm]
def znh {l:Lb} :cnt l≤l.length:=List.count_le_length
theorem zkq:∀{l:List Bool} {i:Nat},i<l.length→bg l i=false→cnt (l.set i true)=cnt l+1
 | [],i,h,_=>by simp at h
 |x::l,0,_,h=>by
  have h:x=false:=h
  subst h
  simp[cnt]
 |x::l,i+1,h,h' =>by
  have:=zkq (l:=l) (i:=i) (by simpa using h) h'
  simp only[cnt,List.set,List.count_cons] at this⊢
  omega
def z8w (sp:Lq) (inn:Lb) (p i:Nat) (o:DS):z2l sp inn p i o=o∨(bg o.1 i=false∧bg inn i=true∧(z2l sp inn p i o).1=o.1.set i true∧(z2l sp inn p i o).2.length=o.2.length):=by
 unfold z2l
 by_cases h:bg inn i=false∨bg o.1 i=true
 ·rw[if_pos h];exact .inl rfl
 ·rw[if_neg h]
  have h1:bg inn i=true:=by cases e:bg inn i<;>simp[e] at h⊢
  have h2:bg o.1 i=false:=by cases e:bg o.1 i<;>simp[e] at h⊢
  split
  ·split
   ·exact .inr ⟨h2,h1,rfl,by simp⟩
   ·exact .inl rfl
  ·split
   ·exact .inl rfl
   ·exact .inr ⟨h2,h1,rfl,rfl⟩
def zpj {sp:Lq} {inn:Lb} {p i:Nat} {o:DS} : (z2l sp inn p i o).1.length=o.1.length∧(z2l sp inn p i o).2.length=o.2.length:=by
 rcases z8w sp inn p i o with h|⟨_,_,h,h'⟩
 ·rw[h];exact⟨rfl,rfl⟩
 ·rw[h,h'];simp
theorem z1w {sp:List SpotT} {inn:List Bool} {p:Nat} {o:DS} :∀{m:Nat},(z16 sp inn p o m).1.length=o.1.length∧(z16 sp inn p o m).2.length=o.2.length
 |0=>⟨rfl,rfl⟩
 |m+1=>by
  have:=z1w (sp:=sp) (inn:=inn) (p:=p) (o:=o) (m:=m)
  have h:=zpj (sp:=sp) (inn:=inn) (p:=p) (i:=m) (o:=z16 sp inn p o m)
  exact⟨h.1.trans this.1,h.2.trans this.2⟩
def zpk {sp:Lq} {inn:Lb} {p i:Nat} {o:DS} (hi:i<o.1.length):z2l sp inn p i o=o∨cnt (z2l sp inn p i o).1=cnt o.1+1:=by
 rcases z8w sp inn p i o with h|⟨h,_,h',_⟩
 ·exact .inl h
 ·exact .inr (by rw[h',zkq hi h])
theorem z6v {sp:List SpotT} {inn:List Bool} {p:Nat} {o:DS} :∀{m:Nat},m≤o.1.length→cnt o.1≤cnt (z16 sp inn p o m).1∧(cnt (z16 sp inn p o m).1=cnt o.1→z16 sp inn p o m=o∧∀i,i<m→z2l sp inn p i o=o)
 |0,_=>⟨Nat.le_refl _,fun _=>⟨rfl,fun i hi=>ω⟩⟩
 |m+1,hm=>by
  obtain⟨h1,h2⟩:=z6v (sp:=sp) (inn:=inn) (p:=p) (o:=o) (m:=m) ω
  have hl:= (z1w (sp:=sp) (inn:=inn) (p:=p) (o:=o) (m:=m)).1
  have h:=zpk (sp:=sp) (inn:=inn) (p:=p) (i:=m) (o:=z16 sp inn p o m) ω
  refine⟨?_,fun e=> ?_⟩
  ·show _≤cnt (z2l sp inn p m (z16 sp inn p o m)).1
   rcases h with h|h<;>rw[h]<;>omega
  ·have e:cnt (z2l sp inn p m (z16 sp inn p o m)).1=cnt o.1:=e
   rcases h with h|h
   ·rw[h] at e
    obtain⟨a,b⟩:=h2 e
    rw[a] at h
    refine⟨by show z2l sp inn p m (z16 sp inn p o m)=o;rw[a,h],fun i hi=> ?_⟩
    rcases Nat.lt_or_ge i m with hi' |hi'
    ·exact b i hi'
    ·rw[show i=m by omega];exact h
   ·omega
def zkk {sp:Lq} {inn:Lb} {p i j:Nat} {o:DS} (hj:bg o.1 j=true):bg (z2l sp inn p i o).1 j=true:=by
 rcases z8w sp inn p i o with h|⟨_,_,h,_⟩
 ·rw[h];exact hj
 ·rw[h]
  by_cases hi:i<o.1.length
  ·rw[zep hi];split<;>simp[hj]
  ·rw[List.set_eq_of_length_le ω];exact hj
def z5t {sp:List SpotT} {inn:List Bool} {p j:Nat} {o:DS} (hj:bg o.1 j=true):∀{m:Nat},bg (z16 sp inn p o m).1 j=true
 |0=>hj
 |_+1=>zkk (z5t hj)
def zpi {sp:Lq} {inn:Lb} {p i j:Nat} {o:DS} (h:bg (z2l sp inn p i o).1 j=true):bg o.1 j=true∨bg inn j=true:=by
 rcases z8w sp inn p i o with e|⟨_,h1,e,_⟩
 ·rw[e] at h;exact .inl h
 ·rw[e] at h
  by_cases hi:i<o.1.length
  ·rw[zep hi] at h
   split at h
   ·rename_i hji;subst hji;exact .inr h1
   ·exact .inl h
  ·rw[List.set_eq_of_length_le ω] at h;exact .inl h
def z6u {sp:List SpotT} {inn:List Bool} {p j:Nat} {o:DS} :∀{m:Nat},bg (z16 sp inn p o m).1 j=true→bg o.1 j=true∨bg inn j=true
 |0,h=> .inl h
 |m+1,h=>by
  rcases zpi h with h|h
  ·exact z6u h
  ·exact .inr h
structure Drawn (sp:List SpotT) (inn:List Bool) (p:Nat) (o w:DS):Prop where
 len:w.1.length=o.1.length∧w.2.length=o.2.length
 mono:∀j,bg o.1 j=true→bg w.1 j=true
 sub:∀j,bg w.1 j=true→bg o.1 j=true∨bg inn j=true
 fix:∀i,i<sp.length→z2l sp inn p i w=w
def zkj {sp:Lq} {inn:Lb} {p:Nat} :∀(k:Nat) {o:DS},sp.length-cnt o.1≤k→o.1.length=sp.length→Drawn sp inn p o (drawS sp inn p o):=by
 intro k
 induction k with
 |zero=>
  intro o hk hl
  obtain⟨h1,h2⟩:=z6v (sp:=sp) (inn:=inn) (p:=p) (o:=o) (m:=sp.length) ω
  have h3:cnt (z16 sp inn p o sp.length).1≤sp.length:=by
   have:=znh (l:= (z16 sp inn p o sp.length).1)
   rw[z1w.1] at this;omega
  rw[drawS,if_neg ω]
  obtain⟨a,b⟩:=h2 ω
  exact⟨z1w,fun j h=>z5t h,fun j h=>z6u h,fun i hi=>by rw[a];exact b i hi⟩
 |succ k ih=>
  intro o hk hl
  obtain⟨h1,h2⟩:=z6v (sp:=sp) (inn:=inn) (p:=p) (o:=o) (m:=sp.length) ω
  rw[drawS]
  split
  ·rename_i hc
   obtain⟨a,b,c,d⟩:=ih (o:=z16 sp inn p o sp.length) ω (z1w.1.trans hl)
   refine⟨⟨a.1.trans z1w.1,a.2.trans z1w.2⟩,fun j h=>b j (z5t h),fun j h=> ?_,d⟩
   rcases c j h with h|h
   ·exact z6u h
   ·exact .inr h
  ·rename_i hc
   have h3:cnt (z16 sp inn p o sp.length).1≤sp.length:=by
    have:=znh (l:= (z16 sp inn p o sp.length).1)
    rw[z1w.1] at this;omega
   obtain⟨a,b⟩:=h2 ω
   exact⟨z1w,fun j h=>z5t h,fun j h=>z6u h,fun i hi=>by rw[a];exact b i hi⟩
def drawn {sp:Lq} {inn:Lb} {p:Nat} {o:DS} (h:o.1.length=sp.length):Drawn sp inn p o (drawS sp inn p o):=zkj _ (Nat.le_refl _) h
def Drawn.away {sp:Lq} {inn:Lb} {p:Nat} {o w:DS} (h:Drawn sp inn p o w) (hl:o.1.length=sp.length) {i:Nat} (hi:bg inn i=true) (hn:bg w.1 i=false) (hi' :i<sp.length) {n:Nat} (h1:n∈(spA sp i).next) (h2:bg inn n=true):
  ∃n∈(spA sp i).next,bg inn n=true∧bg w.1 n=false:=by
 have hf:=h.fix i hi'
 have hil:i<w.1.length:=by rw[h.len.1,hl];exact hi'
 have hne:∀{c:Ln},(w.1.set i true,c)≠w:=fun {c} e=>by
  have:bg (w.1.set i true) i=bg w.1 i:=congrArg (fun z:DS=>bg z.1 i) e
  rw[zep hil,if_pos rfl,hn] at this
  cases this
 unfold z2l at hf
 rw[if_neg (by simp[hi,hn])] at hf
 split at hf
 ·split at hf
  ·exact (hne hf).elim
  ·rename_i e
   refine⟨n,h1,h2,?_⟩
   have:=List.findIdx?_eq_none_iff.1 e n h1
   simpa [h2] using this
 ·split at hf
  ·rename_i e
   obtain⟨m,h3,h4⟩:=List.any_eq_true.1 e
   exact⟨m,h3,by simpa using h4⟩
  ·exact (hne hf).elim
def outS (a b:List Bool):List Bool:= (List.range a.length).map fun i=>bg a i&& !bg b i
def zdf (a b:List Bool):List Bool:= (List.range a.length).map fun i=>bg a i||bg b i
def z4q (n:Nat):List Bool:=List.replicate n false
def z1q (sp:List SpotT) (inn:List Bool):Nat→Int
 |0=>0
 |i+1=>if bg inn i=true then max (z1q sp inn i) (spA sp i).rank else z1q sp inn i
def z6f (k:Int):Nat:=if k%2=1 then 0 else 1
def topB (sp:List SpotT) (inn:List Bool) (k:Int) (i:Nat):Bool:=bg inn i&& (decide ((spA sp i).rank=k)&& (decide (0<k)||decide ((spA sp i).owner=0)))
def z8k (inn:List Bool) (l:List Nat) (c:List Nat) (i:Nat):Nat→List Nat
 |0=>c
 |j+1=>if bg inn (l.getD j 0)=true then (z8k inn l c i j).set i j else z8k inn l c i j
def topN (sp:List SpotT) (inn:List Bool) (k:Int) (p:Nat) (c:List Nat):Nat→DS
 |0=> (z4q sp.length,c)
 |i+1=> ((topN sp inn k p c i).1.set i (topB sp inn k i),
   if topB sp inn k i=true∧(spA sp i).owner=p then z8k inn (spA sp i).next (topN sp inn k p c i).2 i (spA sp i).next.length else (topN sp inn k p c i).2)
structure WS where
 a:List Bool
 b:List Bool
 c:List Nat
variable{n i p k nx most:Nat}{a b inn:Lb}{sp:Lq}{c:Ln}{s:Sto}{bs:Li}{st:St}{r:RulesT}
def WS.of (w:WS) (p:Nat):List Bool:=if p=0 then w.a else w.b
def WS.mk2 (p:Nat) (x y:List Bool) (c:List Nat):WS:=if p=0 then⟨x,y,c⟩ else⟨y,x,c⟩
def zbs (sp:List SpotT) (inn:List Bool) (c:List Nat):DS:=drawS sp inn (z6f (z1q sp inn sp.length)) (topN sp inn (z1q sp inn sp.length) (z6f (z1q sp inn sp.length)) c sp.length)
def z2x (sp:List SpotT) (inn:List Bool) (c:List Nat):WS:=
 if cnt inn=0 then⟨z4q inn.length,z4q inn.length,c⟩ else
 if cnt (outS inn (zbs sp inn c).1)<cnt inn then
  let p:=z6f (z1q sp inn sp.length)
  let won:=z2x sp (outS inn (zbs sp inn c).1) (zbs sp inn c).2
  if cnt (won.of (1-p))=0 then WS.mk2 p inn (z4q inn.length) won.c else
  let lost:=drawS sp inn (1-p) (won.of (1-p),won.c)
  if cnt (outS inn lost.1)<cnt inn then
   let again:=z2x sp (outS inn lost.1) lost.2
   WS.mk2 p (again.of p) (zdf (again.of (1-p)) lost.1) again.c
  else⟨[],[],[]⟩
 else⟨[],[],[]⟩
termination_by cnt inn
def allS (sp:List SpotT):List Bool:=List.replicate sp.length true
def endS (sp:List SpotT) (p:Nat):List Bool:=sp.map fun x=>decide (x.next= []∧x.owner=1-p)
def z9c (sp:List SpotT) (c:List Nat):DS:=drawS sp (allS sp) 1 (endS sp 1,c)
def wonA (sp:List SpotT) (c:List Nat):DS:=drawS sp (outS (allS sp) (z9c sp c).1) 0 (endS sp 0,(z9c sp c).2)
def zol (sp:List SpotT) (c:List Nat):WS:=z2x sp (outS (outS (allS sp) (z9c sp c).1) (wonA sp c).1) (wonA sp c).2
def wonS (sp:List SpotT) (c:List Nat):DS:= (zdf (wonA sp c).1 (zol sp c).a,(zol sp c).c)
def znz  {f:Nat→Bool}  :bg ((List.range n).map f) i=true↔i<n∧f i=true:=by
 unfold bg
 rcases Nat.lt_or_ge i n with h|h
 ·simp[h]
 ·simp[h];omega
def z51   :bg (outS a b) i=true↔bg a i=true∧bg b i=false:=by
 unfold outS
 rw[znz]
 constructor
 ·rintro⟨_,h⟩;simpa using h
 ·rintro⟨h1,h2⟩;exact⟨zgl h1,by simp[h1,h2]⟩
def y4u   (h:b.length=a.length):bg (zdf a b) i=true↔bg a i=true∨bg b i=true:=by
 unfold zdf
 rw[znz]
 constructor
 ·rintro⟨_,h⟩;simpa using h
 ·intro h'
  refine⟨?_,by simpa using h'⟩
  rcases h' with h' |h'
  ·exact zgl h'
  ·have:=zgl h';omega
theorem outS_len  : (outS a b).length=a.length:=by simp[outS]
def bothS_len  : (zdf a b).length=a.length:=by simp[zdf]
def z68  :bg (z4q n) i=false:=by
 unfold bg z4q
 rcases Nat.lt_or_ge i n with h|h
 ·simp[h]
 ·simp[h]
def z31  : (z4q n).length=n:=by simp[z4q]
def znf {l:Lb} :cnt l=0↔∀i,bg l i=false:=by
 unfold cnt
 rw[List.count_eq_zero]
 constructor
 ·intro h i
  cases e:bg l i with
  |false=>rfl
  |true=>
   refine (h ?_).elim
   have hl:=zgl e
   have:l[i]=true:=by simpa [bg,hl] using e
   rw[←this];exact List.getElem_mem hl
 ·intro h hm
  obtain⟨i,hi,e⟩:=List.mem_iff_getElem.1 hm
  have:=h i
  simp[bg,hi,e] at this
def zcx {l:Lb} (h:cnt l≠0):∃i,bg l i=true:=by
 apply Classical.byContradiction
 intro hn
 refine h (znf.2 fun i=> ?_)
 cases e:bg l i with
 |false=>rfl
 |true=>exact (hn ⟨i,e⟩).elim
def zng:∀{a b:List Bool},a.length=b.length→(∀i,bg a i=true→bg b i=true)→cnt a≤cnt b∧∀i,bg b i=true→bg a i=false→cnt a<cnt b
 | [],[],_,_=>⟨Nat.le_refl _,fun i h=>by simp[bg] at h⟩
 |x::a,[],h,_=>by simp at h
 | [],y::b,h,_=>by simp at h
 |x::a,y::b,hl,h=>by
  obtain⟨h1,h2⟩:=zng (a:=a) (b:=b) (by simpa using hl) fun i hi=>h (i+1) hi
  have h0:x=true→y=true:=h 0
  have hx:cnt (x::a)=cnt a+if x=true then 1 else 0:=by cases x<;>simp[cnt]
  have hy:cnt (y::b)=cnt b+if y=true then 1 else 0:=by cases y<;>simp[cnt]
  have h3: (if x=true then 1 else 0)≤if y=true then 1 else 0:=by
   cases x<;>cases y<;>simp at h0⊢
  refine⟨ω,fun i hb ha=> ?_⟩
  cases i with
  |zero=>
   have hb:y=true:=hb
   have ha:x=false:=ha
   subst hb ha
   rw[hx,hy];simp;omega
  |succ i=>
   have:=h2 i hb ha
   omega
def zgb   (h1:bg a i=true) (h2:bg b i=true):cnt (outS a b)<cnt a:=by
 refine (zng outS_len fun j h=> (z51.1 h).1).2 i h1 ?_
 cases e:bg (outS a b) i with
 |false=>rfl
 |true=>rw[(z51.1 e).2] at h2;cases h2
structure SpOk (sp:List SpotT):Prop where
 own:∀i,i<sp.length→(spA sp i).owner=0∨(spA sp i).owner=1
 rank:∀i,i<sp.length→0≤(spA sp i).rank
 bip:∀i,i<sp.length→(spA sp i).owner=1→(∀n∈(spA sp i).next,(spA sp n).owner=0)∧(spA sp i).rank=0
 lt:∀i,i<sp.length→∀n∈(spA sp i).next,n<sp.length
def Tot (sp:List SpotT) (inn:List Bool):Prop:=∀i,bg inn i=true→∃n∈(spA sp i).next,bg inn n=true
def zlp {sp:List SpotT} {inn:List Bool} :∀{m i:Nat},i<m→bg inn i=true→(spA sp i).rank≤z1q sp inn m
 |m+1,i,h,hb=>by
  unfold z1q
  rcases Nat.lt_or_ge i m with h' |h'
  ·have:=zlp (sp:=sp) (inn:=inn) h' hb
   split<;>omega
  ·have:i=m:=ω
   subst this
   rw[if_pos hb];omega
def zfb {sp:List SpotT} {inn:List Bool} :∀{m:Nat},0≤z1q sp inn m
 |0=>Int.le_refl _
 |m+1=>by
  have:=zfb (sp:=sp) (inn:=inn) (m:=m)
  unfold z1q
  split<;>omega
def zfc {sp:List SpotT} {inn:List Bool} :∀{m:Nat},0<z1q sp inn m→∃i,i<m∧bg inn i=true∧(spA sp i).rank=z1q sp inn m
 |0,h=>by simp[z1q] at h
 |m+1,h=>by
  unfold z1q at h⊢
  split at h
  ·rename_i hb
   rw[if_pos hb]
   rcases Int.le_total (z1q sp inn m) (spA sp m).rank with h' |h'
   ·exact⟨m,ω,hb,ω⟩
   ·rw[Int.max_eq_left h'] at h⊢
    obtain⟨i,a,b,c⟩:=zfc h
    exact⟨i,ω,b,c⟩
  ·rename_i hb
   rw[if_neg hb]
   obtain⟨i,a,b,c⟩:=zfc h
   exact⟨i,ω,b,c⟩
theorem zc4 {inn:List Bool} {l:List Nat} {c:List Nat} {i:Nat} :∀{j:Nat},(z8k inn l c i j).length=c.length
 |0=>rfl
 |j+1=>by
  have:=zc4 (inn:=inn) (l:=l) (c:=c) (i:=i) (j:=j)
  unfold z8k;split<;>simp[this]
theorem z4s {sp:List SpotT} {inn:List Bool} {k:Int} {p:Nat} {c:List Nat} :∀{m:Nat},(topN sp inn k p c m).1.length=sp.length∧(topN sp inn k p c m).2.length=c.length
 |0=>⟨by simp[topN,z4q],rfl⟩
 |m+1=>by
  have:=z4s (sp:=sp) (inn:=inn) (k:=k) (p:=p) (c:=c) (m:=m)
  refine⟨by simp[topN,this.1],?_⟩
  show (if _ then _ else _:List Nat).length=_
  split
  ·rw[zc4];exact this.2
  ·exact this.2
def zqm {sp:List SpotT} {inn:List Bool} {k:Int} {p:Nat} {c:List Nat} :∀{m:Nat},m≤sp.length→∀i,bg (topN sp inn k p c m).1 i= (decide (i<m)&&topB sp inn k i)
 |0,_,i=>by simp[topN,z68]
 |m+1,h,i=>by
  have ih:=zqm (sp:=sp) (inn:=inn) (k:=k) (p:=p) (c:=c) (m:=m) ω i
  show bg ((topN sp inn k p c m).1.set m (topB sp inn k m)) i=_
  rw[zep (by rw[z4s.1];omega)]
  split
  ·rename_i e;subst e;simp
  ·rename_i e
   rw[ih]
   have:decide (i<m+1)=decide (i<m):=by
    by_cases h' :i<m
    ·simp[h',show i<m+1 by omega]
    ·simp[h',show ¬i<m+1 by omega]
   rw[this]
def zwh  (hs:SpOk sp)  (hl:inn.length=sp.length) (ht:Tot sp inn) (h0:cnt inn≠0):∃i,bg inn i=true∧topB sp inn (z1q sp inn sp.length) i=true:=by
 by_cases hk:0<z1q sp inn sp.length
 ·obtain⟨i,a,b,c⟩:=zfc hk
  exact⟨i,b,by simp[topB,b,c,hk]⟩
 ·have hk0:z1q sp inn sp.length=0:=by have:=zfb (sp:=sp) (inn:=inn) (m:=sp.length);omega
  obtain⟨i,hi⟩:=zcx h0
  have hz:∀j,bg inn j=true→(spA sp j).rank=0:=fun j hj=>by
   have hjl:j<sp.length:=hl▸zgl hj
   have:=zlp (sp:=sp) (inn:=inn) hjl hj
   have:=hs.rank j hjl
   omega
  have hil:i<sp.length:=hl▸zgl hi
  rcases hs.own i hil with ho|ho
  ·exact⟨i,hi,by simp[topB,hi,hz i hi,hk0,ho]⟩
  ·obtain⟨n,h1,h2⟩:=ht i hi
   exact⟨n,h2,by simp[topB,h2,hz n h2,hk0,(hs.bip i hil ho).1 n h1]⟩
def nearS_drawn    :Drawn sp inn (z6f (z1q sp inn sp.length)) (topN sp inn (z1q sp inn sp.length) (z6f (z1q sp inn sp.length)) c sp.length) (zbs sp inn c):=drawn z4s.1
def Drawn.tot  (_:SpOk sp)   {o w:DS} (h:Drawn sp inn p o w) (hl:o.1.length=sp.length) (hi:inn.length=sp.length) (ht:Tot sp inn):Tot sp (outS inn w.1):=by
 intro i hb
 obtain⟨h1,h2⟩:=z51.1 hb
 obtain⟨n,h3,h4⟩:=ht i h1
 obtain⟨m,h5,h6,h7⟩:=h.away hl h1 h2 (hi▸zgl h1) h3 h4
 exact⟨m,h5,z51.2 ⟨h6,h7⟩⟩
structure Won (inn:List Bool) (c:List Nat) (w:WS):Prop where
 la:w.a.length=inn.length
 lb:w.b.length=inn.length
 lc:w.c.length=c.length
 sa:∀i,bg w.a i=true→bg inn i=true
 sb:∀i,bg w.b i=true→bg inn i=true
def Won.of   {w:WS} (h:Won inn c w) (p:Nat): (w.of p).length=inn.length∧∀i,bg (w.of p) i=true→bg inn i=true:=by
 unfold WS.of;split
 ·exact⟨h.la,h.sa⟩
 ·exact⟨h.lb,h.sb⟩
def zqa    {x y:Lb} {d:Ln} (h1:x.length=inn.length) (h2:y.length=inn.length) (h3:d.length=c.length) (h4:∀i,bg x i=true→bg inn i=true) (h5:∀i,bg y i=true→bg inn i=true):Won inn c (WS.mk2 p x y d):=by
 unfold WS.mk2;split
 ·exact⟨h1,h2,h3,h4,h5⟩
 ·exact⟨h2,h1,h3,h5,h4⟩
def zhq  (hs:SpOk sp)   (hl:inn.length=sp.length) (ht:Tot sp inn) (h0:cnt inn≠0):cnt (outS inn (zbs sp inn c).1)<cnt inn:=by
 obtain⟨i,h1,h2⟩:=zwh hs hl ht h0
 refine zgb h1 (nearS_drawn.mono i ?_)
 rw[zqm (Nat.le_refl _),h2,decide_eq_true (hl▸zgl h1)];rfl
def z82  (hs:SpOk sp):∀(k:Nat) {inn:Lb} {c:Ln},cnt inn≤k→inn.length=sp.length→Tot sp inn→Won inn c (z2x sp inn c):=by
 intro k
 induction k with
 |zero=>
  intro inn c hk hl ht
  rw[z2x,if_pos ω]
  exact⟨z31,z31,rfl,fun i h=> (by rw[z68] at h;cases h),fun i h=> (by rw[z68] at h;cases h)⟩
 |succ k ih=>
  intro inn c hk hl ht
  rw[z2x]
  split
  ·exact⟨z31,z31,rfl,fun i h=> (by rw[z68] at h;cases h),fun i h=> (by rw[z68] at h;cases h)⟩
  ·rename_i h0
   have hn:=zhq (c:=c) hs hl ht h0
   rw[if_pos hn]
   have hw:=ih (inn:=outS inn (zbs sp inn c).1) (c:= (zbs sp inn c).2) ω (outS_len.trans hl) (nearS_drawn.tot hs z4s.1 hl ht)
   generalize hW:z2x sp (outS inn (zbs sp inn c).1) (zbs sp inn c).2=won at hw
   generalize hP:z6f (z1q sp inn sp.length)=p
   simp only
   have hwc:won.c.length=c.length:=by rw[hw.lc,nearS_drawn.len.2,z4s.2]
   have hwo:=hw.of (1-p)
   split
   ·exact zqa rfl z31 hwc (fun _ h=>h) fun i h=>by rw[z68] at h;cases h
   ·rename_i h1
    have hol: (won.of (1-p)).length=sp.length:=by rw[hwo.1,outS_len,hl]
    have hD:Drawn sp inn (1-p) (won.of (1-p),won.c) (drawS sp inn (1-p) (won.of (1-p),won.c)):=drawn hol
    generalize hL:drawS sp inn (1-p) (won.of (1-p),won.c)=lost at hD
    obtain⟨i,hi⟩:=zcx h1
    have hls:cnt (outS inn lost.1)<cnt inn:=zgb (z51.1 (hwo.2 i hi)).1 (hD.mono i hi)
    rw[if_pos hls]
    have ha:=ih (inn:=outS inn lost.1) (c:=lost.2) ω (outS_len.trans hl) (hD.tot hs hol hl ht)
    generalize hA:z2x sp (outS inn lost.1) lost.2=again at ha
    have h2:=ha.of p
    have h3:=ha.of (1-p)
    have hll:lost.1.length= (again.of (1-p)).length:=by rw[hD.len.1,h3.1,outS_len,hol,hl]
    refine zqa (h2.1.trans outS_len) (bothS_len.trans (h3.1.trans outS_len)) (ha.lc.trans (hD.len.2.trans hwc)) (fun j h=> (z51.1 (h2.2 j h)).1) fun j h=> ?_
    rcases (y4u hll).1 h with h|h
    ·exact (z51.1 (h3.2 j h)).1
    ·rcases hD.sub j h with h|h
     ·exact (z51.1 (hwo.2 j h)).1
     ·exact h
def zvw   :bg (allS sp) i=true↔i<sp.length:=by
 unfold allS bg
 rcases Nat.lt_or_ge i sp.length with h|h
 ·simp[h]
 ·simp[h]
theorem z9o  : (allS sp).length=sp.length:=by simp[allS]
def z60   : (endS sp p).length=sp.length:=by simp[endS]
def za3   (h:i<sp.length):bg (endS sp p) i=decide ((spA sp i).next= []∧(spA sp i).owner=1-p):=by
 simp[bg,endS,spA,h]
def lost_drawn   :Drawn sp (allS sp) 1 (endS sp 1,c) (z9c sp c):=drawn z60
def wonA_drawn   :Drawn sp (outS (allS sp) (z9c sp c).1) 0 (endS sp 0,(z9c sp c).2) (wonA sp c):=drawn z60
def zln  (hs:SpOk sp)  :Tot sp (outS (outS (allS sp) (z9c sp c).1) (wonA sp c).1):=by
 intro i hb
 obtain⟨h1,h2⟩:=z51.1 hb
 obtain⟨h3,h4⟩:=z51.1 h1
 have hi:=zvw.1 h3
 have hne: (spA sp i).next≠ []:=by
  intro e
  rcases hs.own i hi with ho|ho
  ·have:= (lost_drawn (c:=c)).mono i (by show bg (endS sp 1) i=true;rw[za3 hi];simp[e,ho])
   rw[h4] at this;cases this
  ·have:= (wonA_drawn (c:=c)).mono i (by show bg (endS sp 0) i=true;rw[za3 hi];simp[e,ho])
   rw[h2] at this;cases this
 obtain⟨n,hn⟩:=List.exists_mem_of_ne_nil _ hne
 have hna:bg (allS sp) n=true:=zvw.2 (hs.lt i hi n hn)
 obtain⟨m,a,b,d⟩:= (lost_drawn (c:=c)).away z60 h3 h4 hi hn hna
 obtain⟨m',a',b',d'⟩:= (wonA_drawn (c:=c)).away z60 h1 h2 hi a (z51.2 ⟨b,d⟩)
 exact⟨m',a',z51.2 ⟨b',d'⟩⟩
def zf6   : (outS (outS (allS sp) (z9c sp c).1) (wonA sp c).1).length=sp.length:=by rw[outS_len,outS_len,z9o]
def zx1  (hs:SpOk sp)  :Won (outS (outS (allS sp) (z9c sp c).1) (wonA sp c).1) (wonA sp c).2 (zol sp c):=z82 hs _ (Nat.le_refl _) zf6 (zln hs)
def zaf   : (wonA sp c).1.length=sp.length∧(wonA sp c).2.length=c.length:=⟨wonA_drawn.len.1.trans z60,wonA_drawn.len.2.trans lost_drawn.len.2⟩
def Sk (s:Sto) (k:Nat) (bs:List Int) (c:Nat):Prop:=∃(n:Nat) (x:Int),n≤c∧sget s k=some (.cells [.d (.sl (bs.map (D.int .u8))),.d (.int .i64 (n:Nat)),.d (.int .u64 x)])
def Sk.mk  {c:Nat} {x:Int}  (h:sget s k=some (.cells [.d (.sl (bs.map (D.int .u8))),.d (.int .i64 (n:Nat)),.d (.int .u64 x)])) (hn:n≤c):Sk s k bs c:=⟨n,x,hn,h⟩
def Sk.frame {s':Sto} {c c':Nat}  (h:Sk s k bs c) (hs:sget s' k=sget s k) (hc:c≤c'):Sk s' k bs c' :=by
 obtain⟨n,x,a,b⟩:=h
 exact⟨n,x,ω,by rw[hs];exact b⟩
theorem znu {a b:Int} :binV .xor (.d (.int .u64 a)) (.d (.int .u64 b))=some (.d (.int .u64 (IntKind.u64.wrap (BitVec.ofInt 64 a^^^BitVec.ofInt 64 b).toNat))):=by simp[binV,z1r,binI];rfl
theorem znx {a b:Int} :binV .mul (.d (.int .u64 a)) (.d (.int .u64 b))=some (.d (.int .u64 (IntKind.u64.wrap (a*b)))):=by simp[binV,z1r,binI]
def znw {a:Int} {b:Nat} :binV .shl (.d (.int .u64 a)) (.d (.int .u64 (b:Nat)))=some (.d (.int .u64 (IntKind.u64.wrap (a*2^ (Nat.min b 64))))):=by
 simp[binV,z1r,zh3]
 rfl
def znv {a:Int} {b:Nat} :binV .shr (.d (.int .u64 a)) (.d (.int .u64 (b:Nat)))=some (.d (.int .u64 (a.fdiv (2^ (Nat.min b 64))))):=by
 simp[binV,z1r,zh3]
 rfl
def zgw {a:Int} :0≤IntKind.u64.wrap a:=by
 unfold IntKind.wrap
 simp only[IntKind.bits,IntKind.signed,Bool.false_and,Bool.false_eq_true,if_false]
 omega
def z92 {k:IntKind} {a b:Nat} (h:0<b):binV .rem (.d (.int k (a:Nat))) (.d (.int k (b:Nat)))=some (.d (.int k ((a%b:Nat):Int))):=by
 have h0:¬((b:Int)=0):=ω
 simp only[binV,z1r,binI,if_neg h0,Bool.false_eq_true,if_false,if_true,Option.map_some]
 rfl
def y1k (z:Int):∃r:Nat,V.d (.int .u64 ((IntKind.u64.wrap z).fdiv (2^ (Nat.min 33 64))))= .d (.int .u64 (r:Nat)):=⟨((IntKind.u64.wrap z).fdiv (2^ (Nat.min 33 64))).toNat,by rw[Int.toNat_of_nonneg (Int.fdiv_nonneg zgw (by decide))]⟩
def y08 (s:Sto) (nx k:Nat) (bs:List Int) (c lw:Nat) (st:St):Prop:=nx≤st.next∧(∀q,q<nx→q≠k→sget st.s q=sget s q)∧Sk st.s k bs (c+1)∧∀m,m≤lw→m≤k→m≤st.low
def y4e  (hb:LOk bs) {c:Nat} (hc:c≤1000000)  {lw:Nat} (hk:k<nx) (h:Sk s k bs c):
  PostV (z06 G (.fn 43 [] []) [.ptr k 0] {s:=s,next:=nx,low:=lw}) (fun v st=> (∃r:Nat,v= .d (.int .u64 (r:Nat)))∧y08 s nx k bs c lw st):=by
 obtain⟨n,x,hn,w_h⟩:=h
 unfold LOk at hb
 have w_hs:∀o,sget (sset s k o) k=some o:=fun o=>z05 w_h
 have w_hs2:∀o o',sget (sset (sset s k o) k o') k=some o' :=fun o o' =>z05 (w_hs o)
 have s13:∀a,binV .shl (.d (.int .u64 a)) (.d (.int .u64 13))=_:=fun a=>znw (a:=a) (b:=13)
 have s17:∀a,binV .shl (.d (.int .u64 a)) (.d (.int .u64 17))=_:=fun a=>znw (a:=a) (b:=17)
 have s7:∀a,binV .shr (.d (.int .u64 a)) (.d (.int .u64 7))=_:=fun a=>znv (a:=a) (b:=7)
 have s33:∀a,binV .shr (.d (.int .u64 a)) (.d (.int .u64 33))=_:=fun a=>znv (a:=a) (b:=33)
 refine z1b (first:= []) (args:= [.ptr k 0]) (cap:= []) T1.g43 rfl rfl rfl (fun e w_len harg=> ?_)
 have w_len:e.length=83:=w_len
 have w_0:e.getD 0 .undef= .ptr k 0:=harg 0 ψ
 clear harg
 by_cases h0:0<bs.length
 ·have hr:=z92 (k:= .i64) (a:=n) h0
  have hi:n%bs.length<bs.length:=Nat.mod_lt _ h0
  have hia:=z3s (k:= .u8) hi
  have hgt: ((0:Int)< (bs.length:Nat))=True:=eq_true ω
  simp (maxDischargeDepth:=60) only[T1.i43,hgt,hr,hia,s13,s17,s7,s33,znu,znx,List.length_map,z07 (show n<1000001 by omega) ω,w_len,w_0,w_h,w_hs,w_hs2,↓LA,LB,simprocAttr]
  refine⟨y1k _,by show nx≤nx+_;omega,fun q g1 g2=> ?_,Sk.mk (n:=n+1) (z05 (z05 (z05 (z05 (z05 w_h))))) ω,fun m g1 g2=>by repeat' (first|omega|refine z02 ?_ ?_)⟩
  simp (disch:=omega) only[z01]
 ·have hgt: ((0:Int)< (bs.length:Nat))=False:=eq_false ω
  simp (maxDischargeDepth:=60) only[T1.i43,hgt,s13,s17,s7,s33,znu,znx,List.length_map,w_len,w_0,w_h,w_hs,w_hs2,↓LA,LB,simprocAttr]
  refine⟨y1k _,by show nx≤nx+_;omega,fun q g1 g2=> ?_,Sk.mk (n:=n) (z05 (z05 (z05 w_h))) ω,fun m g1 g2=>by repeat' (first|omega|refine z02 ?_ ?_)⟩
  simp (disch:=omega) only[z01]
def mmV (b:Bool) (xs:List V) (st:St):Option (V×St):=match z3a b xs with
 |some v=>some (v,st)
 |none=>none
theorem zyz {cl:z12} {base:Nat} {env:Lv}  {dst:Option Nat} {g:Option (Nat×Bool)} {kp:Ln} {b:Bool} {xs:List Opd} :evalIOp cl base env st ⟨dst,.mm b xs,g,kp⟩=mmV b (xs.map (evO env)) st:=rfl
def zw7  (h:n≤1000000):IntKind.u64.wrap (n:Int)=n:=by
 unfold IntKind.wrap
 simp only[IntKind.bits,IntKind.signed,Bool.false_and,Bool.false_eq_true,if_false]
 omega
def y6p  (h:0<n):z3a true [.d (.int .i64 1),.d (.int .i64 (n:Nat))]=some (.d (.int .i64 (n:Nat))):=by
 rw[z3a,if_pos rfl,z3a,if_pos rfl]
 congr 4
 by_cases e: (n:Int)>1
 ·rw[if_pos e]
 ·rw[if_neg e];omega
def y6o {m:Nat} (h:n≤m):z3a false [.d (.int .i64 (n:Nat)),.d (.int .i64 (m:Nat))]=some (.d (.int .i64 (n:Nat))):=by
 rw[z3a,if_pos rfl,z3a]
 simp only[Bool.false_eq_true,if_false]
 congr 4
 rw[if_neg ω]
def z1u  (hb:LOk bs) {c:Nat} (hc:c≤1000000)  (h0:0<n) (hn:n≤1000000)  {lw:Nat} (hk:k<nx) (h:Sk s k bs c):
  PostV (z06 G (.fn 16 [] []) [.ptr k 0,.d (.int .i64 (n:Nat))] {s:=s,next:=nx,low:=lw}) (fun v st=> (∃r:Nat,r<n∧v= .d (.int .i64 (r:Nat)))∧y08 s nx k bs c lw st):=by
 refine z1b (first:= []) (args:= [.ptr k 0,.d (.int .i64 (n:Nat))]) (cap:= []) T1.g16 rfl rfl rfl (fun e w_len harg=> ?_)
 have w_len:e.length=12:=w_len
 have w_0:e.getD 0 .undef= .ptr k 0:=harg 0 ψ
 have w_1:e.getD 1 .undef= .d (.int .i64 (n:Nat)):=harg 1 ψ
 clear harg
 simp (maxDischargeDepth:=60) only[T1.i16,w_len,w_0,↓LA,LB,simprocAttr]
 refine z0d (y4e hb hc ω h) fun v st hR=> ?_
 obtain⟨⟨r,rfl⟩,h1,h2,h3,h4⟩:=hR
 obtain⟨s1,n1,l1⟩:=st
 have h1:nx+9≤n1:=h1
 have hm:=y6p h0
 have hw:=zw7 hn
 have hr:=z92 (k:= .u64) (a:=r) h0
 have hlt:r%n<n:=Nat.mod_lt _ h0
 have hw2:IntKind.i64.wrap ((r%n:Nat):Int)= ((r%n:Nat):Int):=z23 ω ω
 simp (maxDischargeDepth:=60) only[↓zyz,mmV,hm,hw,hr,hw2,w_len,w_1,↓LA,LB,simprocAttr]
 exact⟨⟨_,hlt,rfl⟩,by show nx≤n1;omega,fun q g1 g2=>h2 q ω g2,h3,fun m g1 g2=>z02 g1 (h4 m ω g2)⟩
def z75  (hb:LOk bs) {c:Nat} (hc:c≤1000000) {lo hi:Nat} (h0:lo≤hi) (hn:hi≤100000)  {lw:Nat} (hk:k<nx) (h:Sk s k bs c):
  PostV (z06 G (.fn 15 [] []) [.ptr k 0,.d (.int .i64 (lo:Nat)),.d (.int .i64 (hi:Nat))] {s:=s,next:=nx,low:=lw}) (fun v st=> (∃r:Nat,lo≤r∧r≤hi∧v= .d (.int .i64 (r:Nat)))∧y08 s nx k bs c lw st):=by
 have e1:IntKind.i64.wrap ((hi:Int)-(lo:Int))= ((hi-lo:Nat):Int):=by rw[z23 ω ω];omega
 have e2:IntKind.i64.wrap (((hi-lo:Nat):Int)+1)= ((hi-lo+1:Nat):Int):=by rw[z23 ω ω];omega
 refine z1b (first:= []) (args:= [.ptr k 0,.d (.int .i64 (lo:Nat)),.d (.int .i64 (hi:Nat))]) (cap:= []) T1.g15 rfl rfl rfl (fun e w_len harg=> ?_)
 have w_len:e.length=15:=w_len
 have w_0:e.getD 0 .undef= .ptr k 0:=harg 0 ψ
 have w_1:e.getD 1 .undef= .d (.int .i64 (lo:Nat)):=harg 1 ψ
 have w_2:e.getD 2 .undef= .d (.int .i64 (hi:Nat)):=harg 2 ψ
 clear harg
 simp (maxDischargeDepth:=60) only[T1.i15,e1,e2,w_len,w_0,w_1,w_2,↓LA,LB,simprocAttr]
 refine z0d (z1u hb hc ω ω ω h) fun v st hR=> ?_
 obtain⟨⟨r,hr,rfl⟩,hD⟩:=hR
 obtain⟨s1,n1,l1⟩:=st
 have e3:IntKind.i64.wrap ((lo:Int)+ (r:Int))= ((lo+r:Nat):Int):=by rw[z23 ω ω];omega
 simp (maxDischargeDepth:=60) only[e3,w_len,↓LA,LB,simprocAttr]
 obtain⟨h1,h2,h3,h4⟩:=hD
 have h1:nx+10≤n1:=h1
 exact⟨⟨_,ω,ω,rfl⟩,by show nx≤n1;omega,fun q g1 g2=>h2 q ω g2,h3,fun m g1 g2=>z02 g1 (h4 m ω g2)⟩
def y2h  (hb:LOk bs) {c:Nat} (hc:c≤1000000)  (h0:0<n) (hn:n≤100000)  {lw:Nat} (hk:k<nx) (h:Sk s k bs c):
  PostV (z06 G (.fn 17 [] []) [.ptr k 0,.d (.int .i64 (n:Nat))] {s:=s,next:=nx,low:=lw}) (fun v st=> (∃b:Bool,v= .d (.bool b))∧y08 s nx k bs c lw st):=by
 refine z1b (first:= []) (args:= [.ptr k 0,.d (.int .i64 (n:Nat))]) (cap:= []) T1.g17 rfl rfl rfl (fun e w_len harg=> ?_)
 have w_len:e.length=9:=w_len
 have w_0:e.getD 0 .undef= .ptr k 0:=harg 0 ψ
 have w_1:e.getD 1 .undef= .d (.int .i64 (n:Nat)):=harg 1 ψ
 clear harg
 simp (maxDischargeDepth:=60) only[T1.i17,w_len,w_0,w_1,↓LA,LB,simprocAttr]
 refine z0d (z1u hb hc h0 ω ω h) fun v st hR=> ?_
 obtain⟨⟨r,hr,rfl⟩,hD⟩:=hR
 obtain⟨s1,n1,l1⟩:=st
 simp (maxDischargeDepth:=60) only[w_len,↓LA,LB,simprocAttr]
 obtain⟨h1,h2,h3,h4⟩:=hD
 have h1:nx+6≤n1:=h1
 exact⟨⟨_,rfl⟩,by show nx≤n1;omega,fun q g1 g2=>h2 q ω g2,h3,fun m g1 g2=>z02 g1 (h4 m ω g2)⟩
def z7y  (hb:LOk bs)  {nx lw:Nat} :
  PostV (z06 G (.fn 5 [] []) [.d (.sl (bs.map (D.int .u8)))] {s:=s,next:=nx,low:=lw}) (fun v st=>∃k,v= .ptr k 0∧nx≤k∧k<st.next∧(∀q,q<nx→sget st.s q=sget s q)∧Sk st.s k bs 0∧∀m,m≤lw→m≤nx→m≤st.low):=by
 refine z1b (first:= []) (args:= [.d (.sl (bs.map (D.int .u8)))]) (cap:= []) T1.g5 rfl rfl rfl (fun e w_len harg=> ?_)
 have w_len:e.length=10:=w_len
 have w_0:e.getD 0 .undef= .d (.sl (bs.map (D.int .u8))):=harg 0 ψ
 clear harg
 simp only[T1.i5,List.length_map,w_len,w_0,↓LA,LB,simprocAttr]
 exact⟨_,rfl,ω,ω,fun q g=>by rw[if_neg ω],Sk.mk (n:=0) z03 (Nat.le_refl 0),fun m g1 g2=>by repeat' (first|omega|refine z02 ?_ ?_)⟩
def nms:Nat→List (List Nat)
 |0=> [[97],[110,105,108],[98]]
 |1=> [[115],[117],[116]]
 |_=> [[99,111,110,115],[112],[113]]
def zsj  : (nms k).length=3:=by
 match k with
 |0=>rfl
 |1=>rfl
 |_+2=>rfl
def y6g  {x:Ln} (h:x∈nms k):z0z x=true∧SOk x:=by
 have hs:∀x∈ [[97],[110,105,108],[98],[115],[117],[116],[99,111,110,115],[112],[113]],z0z x=true∧(∀c∈x,c<256)∧x.length≤9223372036854775807:=by decide
 refine hs x ?_
 match k with
 |0=>simp only[nms,List.mem_cons,List.not_mem_nil,or_false] at h;rcases h with rfl|rfl|rfl<;>simp
 |1=>simp only[nms,List.mem_cons,List.not_mem_nil,or_false] at h;rcases h with rfl|rfl|rfl<;>simp
 |_+2=>simp only[nms,List.mem_cons,List.not_mem_nil,or_false] at h;rcases h with rfl|rfl|rfl<;>simp
theorem nm0:Good T1.G (44,[.int .i64 0],[.agg ((nms 0).map D.str)]):=z5x (T:= []) all_nil (m:=1000) (n:=100) T1.g44 rfl rfl (by kernel_rfl)
theorem nm1:Good T1.G (44,[.int .i64 1],[.agg ((nms 1).map D.str)]):=z5x (T:= []) all_nil (m:=1000) (n:=100) T1.g44 rfl rfl (by kernel_rfl)
theorem nm2:Good T1.G (44,[.int .i64 2],[.agg ((nms 2).map D.str)]):=z5x (T:= []) all_nil (m:=1000) (n:=100) T1.g44 rfl rfl (by kernel_rfl)
def zxn  (h:k≤2) (st:St):z06 T1.G (.fn 44 [] []) [.d (.int .i64 (k:Nat))] st=some (.d (.agg ((nms k).map D.str)),st):=by
 have hg:∀{a r:D} (_:Good T1.G (44,[a],[r])),z06 T1.G (.fn 44 [] []) [.d a] st=some (.d r,st):=fun h=>by
  obtain⟨F,h1,h2,h3,h4⟩:=h
  exact zak (ds:= [_]) (rs:= [_]) h1 h2 h3 h4
 have hk:k=0∨k=1∨k=2:=ω
 rcases hk with rfl|rfl|rfl
 ·exact hg nm0
 ·exact hg nm1
 ·exact hg nm2
def zyk (len es:Nat) (ag:Bool) (x i:V) (st:St):Option (V×St):=match asI i with
 |some i=>match z87 len es ag x i with
  |some v=>some (v,st)
  |none=>none
 |none=>none
theorem zie {cl:z12} {base:Nat} {env:Lv}  {dst:Option Nat} {g:Option (Nat×Bool)} {kp:Ln} {len es:Nat} {ag:Bool} {x i:Opd} :evalIOp cl base env st ⟨dst,.indexA len es ag x i,g,kp⟩=zyk len es ag (evO env x) (evO env i) st:=rfl
def y40 {j:Nat} (hj:j< (nms k).length)  :zyk 3 1 false (.d (.agg ((nms k).map D.str))) (.d (.int .i64 (j:Nat))) st=some (.d (.str (nms k)[j]),st):=by
 have hl:=zsj (k:=k)
 simp only[zyk,asI,z87]
 rw[if_pos ⟨ω,ω⟩]
 have hk:∀l:List (List Nat),(h:j<l.length)→l.length=3→z97 (((j:Nat):Int).toNat*1) 1 false (.d (.agg (l.map D.str)))=some (.d (.str l[j])):=fun l h h3=>by
  match l,h3 with
  | [a,b,c],_=>
   have hj:j=0∨j=1∨j=2:=by simp at h;omega
   rcases hj with rfl|rfl|rfl<;>rfl
 rw[hk _ hj hl]
def Nok (n:Nat) (x:NodeT):Prop:=z0z x.name=true∧SOk x.name∧x.kids.length≤2∧∀q∈x.kids,0≤q∧q<n
def y9l (lv:Bool) (s0:Sto) (nx k:Nat) (bs:List Int) (c lw most:Nat) (v:V) (st:St):Prop:=
 nx≤st.next∧(∀q,q<nx→q≠k→sget st.s q=sget s0 q)∧Sk st.s k bs (c+3+4*most)∧(∀m,m≤lw→m≤k→m≤st.low)∧
  ∃(t:TreeT) (a:V),v=mkAgg [a,.d (.int .i64 t.root)]∧GP st.s lv (Iv nx st.next) 1 2 true a (t.nodes.map NodeT.d)∧0<t.nodes.length∧t.nodes.length≤most∧(∀x∈t.nodes,Nok t.nodes.length x)∧0≤t.root∧t.root<t.nodes.length
def y21 {lv:Bool}  (hb:LOk bs) {c:Nat} (hm:most≤60) (h0:0<most) (hc:c≤900000)  {lw:Nat} (hk:k<nx) (h:Sk s k bs c):
  PostV (z06 T1.G (.fn 18 [] []) [.ptr k 0,.d (.int .i64 (most:Nat))] {s:=s,next:=nx,low:=lw}) (y9l lv s nx k bs c lw most):=by
 have hmin:z3a false [.d (.int .i64 (most:Nat)),.d (.int .i64 60)]=some (.d (.int .i64 (most:Nat))):=y6o (n:=most) (m:=60) hm
 refine z1b (first:= []) (args:= [.ptr k 0,.d (.int .i64 (most:Nat))]) (cap:= []) T1.g18 rfl rfl rfl (fun e w_len harg=> ?_)
 have w_len:e.length=52:=w_len
 have w_0:e.getD 0 .undef= .ptr k 0:=harg 0 ψ
 have w_1:e.getD 1 .undef= .d (.int .i64 (most:Nat)):=harg 1 ψ
 clear harg
 simp (maxDischargeDepth:=60) only[T1.i18,↓zyz,mmV,hmin,w_len,w_0,w_1,↓LA,LB,simprocAttr]
 refine z0d (z75 (lo:=1) (hi:=most) hb ω ω ω ω (h.frame (z00 ω) (Nat.le_refl _))) fun v1 st1 hR1=> ?_
 obtain⟨⟨n,hna,hnb,rfl⟩,hn1,hf1,hS1,hl1⟩:=hR1
 obtain⟨s1,n1,l1⟩:=st1
 have hn1:nx+6≤n1:=hn1
 have hf1:∀q,q<nx+6→q≠k→sget s1 q=sget ((nx,Obj.cells [V.nilS,V.d (D.int .i64 0)])::s) q:=hf1
 have w_a0:sget s1 nx=some (.cells [.nilS,.d (.int .i64 0)]):= (hf1 _ ω ω).trans z03
 simp (maxDischargeDepth:=60) only[w_len,w_0,↓LA,LB,simprocAttr]
 refine z0d (z1u (n:=n) hb ω ω ω ω hS1) fun v2 st2 hR2=> ?_
 obtain⟨⟨r,hr,rfl⟩,hn2,hf2,hS2,hl2⟩:=hR2
 obtain⟨s2,n2,l2⟩:=st2
 have hn2:n1+6≤n2:=hn2
 have hf2:∀q,q<n1+6→q≠k→sget s2 q=sget s1 q:=hf2
 have w_a1:= (hf2 nx ω ω).trans w_a0
 simp (maxDischargeDepth:=60) only[w_len,w_0,↓LA,LB,simprocAttr]
 refine z0d (z75 (lo:=1) (hi:=3) hb ω ω ω ω (hS2.frame (z00 ω) (Nat.le_refl _))) fun v3 st3 hR3=> ?_
 obtain⟨⟨kd,hka,hkb,rfl⟩,hn3,hf3,hS3,hl3⟩:=hR3
 obtain⟨s3,n3,l3⟩:=st3
 have hn3:n2+3≤n3:=hn3
 have hf3:∀q,q<n2+3→q≠k→sget s3 q=sget ((n1+4,Obj.cells [V.nilS,V.d (D.int .i64 (r:Nat))])::s2) q:=hf3
 have w_a2:sget s3 nx=some (.cells [.nilS,.d (.int .i64 0)]):= (hf3 nx ω ω).trans ((z00 ω).trans w_a1)
 have w_a3:sget s3 (n1+4)=some (.cells [.nilS,.d (.int .i64 (r:Nat))]):= (hf3 _ ω ω).trans z03
 have hfr3:∀q,q<nx→q≠k→sget s3 q=sget s q:=fun q g1 g2=>by rw[hf3 q ω g2,z00 ω,hf2 q ω g2,hf1 q ω g2,z00 ω]
 have k1:k≤l1:=hl1 k (by repeat' (first|omega|refine z02 ?_ ?_)) (Nat.le_refl _)
 have k2:k≤l2:=hl2 k k1 (Nat.le_refl _)
 have k3:k≤l3:=hl3 k (z02 k2 ω) (Nat.le_refl _)
 simp (maxDischargeDepth:=60) only[w_len,↓LA,LB,simprocAttr]
 refine z0b (fun e0 s0 m env st=>∃(i nxi lwi:Nat) (si:Sto) (xv:V) (ns:Lk),m=n-i∧(i≤n)∧(Sk si k bs (c+3+4*i))∧(Gr si lv (n1+5) 1 nxi 2 true xv (ns.map NodeT.d))∧(ns.length=i)∧((∀x∈ns,Nok n x))∧(∀q,q<nx→q≠k→sget si q=sget s q)∧sget si (nx)=some (.cells [.nilS,.d (.int .i64 0)])∧sget si (n1+4)=some (.cells [xv,.d (.int .i64 (r:Nat))])∧n3≤nxi∧k≤lwi∧env.length=52∧env.getD 21 .undef= .d (.int .i64 i)∧env.getD 0 .undef= .ptr k 0∧env.getD 4 .undef= .ptr nx 0∧env.getD 5 .undef= .d (.int .i64 (n:Nat))∧env.getD 6 .undef= .ptr (n1+4) 0∧env.getD 7 .undef= .d (.int .i64 (kd:Nat))∧env.getD 20 .undef= .d (.int .i64 (n:Nat))∧st= {s:=si,next:=nxi,low:=lwi}) ?_ (n) (by refine⟨0,_,_,_,.nilS,[],rfl,ω,hS3.frame rfl ω,Gr.nil,rfl,(fun x hx=>by simp at hx),hfr3,?_,?_,ω,(by first|exact Nat.zero_le _|omega|exact z02 ω ω|exact z02 (z02 ω ω) ω|exact z02 (z02 (z02 ω ω) ω) ω),?_,?_,?_,?_,?_,?_,?_,?_,rfl⟩<;>simp (maxDischargeDepth:=60) only[w_len,w_0,w_a2,w_a3,LB,simprocAttr])
 rintro m env st ⟨i,nxi,lwi,si,xv,ns,hm,a_0,a_1,a_2,a_3,a_4,a_5,w_ac0,w_ac1,w_ab,w_alo,w_len,w_21,w_0,w_4,w_5,w_6,w_7,w_20,rfl⟩
 have w_aN:=aI (cf1 (x:=nxi) (a:=nx) ω) (cf1 (x:=nxi) (a:=n1+4) ω)
 have w_aS:=aI (cf2 (x:=nxi) ω w_ac0) (cf2 (x:=nxi) ω w_ac1)
 have w_a_2V:=aI (a_2.away (j:=nx) ω) (a_2.away (j:=n1+4) ω)
 have w_a_2c:=a_2.cell.1
 have w_a_2d:=a_2.cell.2
 have w_a_2e:=a_2.beq
 by_cases hi:i<n
 ·simp (maxDischargeDepth:=60) only[hi,w_len,w_21,w_0,w_20,↓LA,LB,simprocAttr]
  refine z0d (z75 (lo:=0) (hi:=2) hb ω ω ω ω a_1) fun v4 st4 hR4=> ?_
  obtain⟨⟨kk,_,hkk,rfl⟩,hn4,hf4,hS4,hl4⟩:=hR4
  obtain⟨s4,n4,l4⟩:=st4
  have hn4:nxi+4≤n4:=hn4
  have hf4:∀q,q<nxi+4→q≠k→sget s4 q=sget si q:=hf4
  have k4:k≤l4:=hl4 k ω (Nat.le_refl _)
  have hNm:=fun st=>zxn hkk st
  simp (maxDischargeDepth:=60) only[hNm,w_len,w_0,w_7,↓LA,LB,simprocAttr]
  refine z0d (z1u (n:=kd) hb ω ω ω ω hS4) fun v5 st5 hR5=> ?_
  obtain⟨⟨j5,hj5,rfl⟩,hn5,hf5,hS5,hl5⟩:=hR5
  obtain⟨s5,n5,l5⟩:=st5
  have hn5:n4+9≤n5:=hn5
  have hf5:∀q,q<n4+9→q≠k→sget s5 q=sget s4 q:=hf5
  have k5:k≤l5:=hl5 k k4 (Nat.le_refl _)
  have hjl:j5< (nms kk).length:=by rw[zsj];omega
  have hix:=fun st=>y40 (st:=st) hjl
  obtain⟨nm,hnm⟩:∃nm,nm= (nms kk)[j5]:=⟨_,rfl⟩
  rw[←hnm] at hix
  obtain⟨hnm1,hnm2⟩:=y6g (x:=nm) (k:=kk) (by rw[hnm];exact List.getElem_mem hjl)
  have hf45:∀q,q<nxi→q≠k→sget s5 q=sget si q:=fun q g1 g2=> (hf5 q ω g2).trans (hf4 q ω g2)
  have w_b0:= (hf45 nx ω ω).trans w_ac0
  have w_b1:= (hf45 (n1+4) ω ω).trans w_ac1
  have w_z4: (n4+7=nx)=False∧(n4+3=n1)=False∧(n1=n4+3)=False∧(nx=n4+7)=False∧(n1+4=nx)=False∧(nx=n1+4)=False∧(∀q,(n4+7+q=nx)=False):=⟨by simp;omega,by simp;omega,by simp;omega,by simp;omega,by simp;omega,by simp;omega,fun q=>by simp;omega⟩
  simp (maxDischargeDepth:=60) only[↓zie,hix,w_len,↓LA,LB,simprocAttr]
  refine z0b (fun e0 s0 m env st=>∃(j nxj lwj:Nat) (sj:Sto) (yv:V) (qs:Li),m=kk-j∧(j≤kk)∧(Sk sj k bs (c+5+4*i+j))∧(Gr sj lv (n4+8) 0 nxj 1 false yv (qs.map (D.int .i64)))∧(qs.length=j)∧((∀q∈qs,0≤q∧q< (n:Int)))∧(Gr sj lv (n1+5) 1 nxi 2 true xv (ns.map NodeT.d))∧(∀q,q<nx→q≠k→sget sj q=sget s q)∧sget sj (nx)=some (.cells [.nilS,.d (.int .i64 0)])∧sget sj (n1+4)=some (.cells [xv,.d (.int .i64 (r:Nat))])∧sget sj (n4+7)=some (.cells [.d (.str nm),yv])∧n5≤nxj∧k≤lwj∧env.length=52∧env.getD 33 .undef= .d (.int .i64 j)∧env.getD 0 .undef= .ptr k 0∧env.getD 4 .undef= .ptr nx 0∧env.getD 5 .undef= .d (.int .i64 (n:Nat))∧env.getD 6 .undef= .ptr (n1+4) 0∧env.getD 7 .undef= .d (.int .i64 (kd:Nat))∧env.getD 20 .undef= .d (.int .i64 (n:Nat))∧env.getD 21 .undef= .d (.int .i64 i)∧env.getD 9 .undef= .ptr (n4+7) 0∧env.getD 32 .undef= .d (.int .i64 (kk:Nat))∧st= {s:=sj,next:=nxj,low:=lwj}) ?_ (kk) (by refine⟨0,_,_,_,.nilS,[],rfl,ω,hS5.frame (z00 ω) ω,Gr.nil,rfl,(fun x hx=>by simp at hx),a_2.frame (fun q h1 h2=> (z00 ω).trans (hf45 q ω ω)),(fun q g1 g2=> (z00 ω).trans ((hf45 q ω g2).trans (a_5 q g1 g2))),?_,?_,?_,ω,(by first|exact Nat.zero_le _|omega|exact z02 ω ω|exact z02 (z02 ω ω) ω|exact z02 (z02 (z02 ω ω) ω) ω),?_,?_,?_,?_,?_,?_,?_,?_,?_,?_,?_,rfl⟩<;>simp (maxDischargeDepth:=60) only[w_len,w_21,w_0,w_4,w_5,w_6,w_7,w_20,w_b0,w_b1,w_z4,LB,simprocAttr])
  rintro m env st ⟨j,nxj,lwj,sj,yv,qs,hm,b_0,b_1,b_2,b_3,b_4,b_5,b_6,w_bc0,w_bc1,w_bc2,w_bb,w_blo,w_len,w_33,w_0,w_4,w_5,w_6,w_7,w_20,w_21,w_9,w_32,rfl⟩
  have w_bN:=aI (cf1 (x:=nxj) (a:=nx) ω) (aI (cf1 (x:=nxj) (a:=n1+4) ω) (cf1 (x:=nxj) (a:=n4+7) ω))
  have w_bS:=aI (cf2 (x:=nxj) ω w_bc0) (aI (cf2 (x:=nxj) ω w_bc1) (cf2 (x:=nxj) ω w_bc2))
  have w_b_2V:=aI (b_2.away (j:=nx) ω) (aI (b_2.away (j:=n1+4) ω) (b_2.away (j:=n4+7) ω))
  have w_b_2c:=b_2.cell.1
  have w_b_2d:=b_2.cell.2
  have w_b_2e:=b_2.beq
  have w_b_5V:=aI (b_5.away (j:=nx) ω) (aI (b_5.away (j:=n1+4) ω) (b_5.away (j:=n4+7) ω))
  have w_b_5c:=b_5.cell.1
  have w_b_5d:=b_5.cell.2
  have w_b_5e:=b_5.beq
  by_cases hj:j<kk
  ·simp (maxDischargeDepth:=60) only[hj,w_len,w_33,w_0,w_5,w_9,w_32,w_bc2,↓LA,LB,simprocAttr]
   refine z0d (z1u (n:=n) hb ω ω ω ω b_1) fun v6 st6 hR6=> ?_
   obtain⟨⟨r6,hr6,rfl⟩,hn6,hf6,hS6,hl6⟩:=hR6
   obtain⟨s6,n6,l6⟩:=st6
   have hn6:nxj+10≤n6:=hn6
   have hf6:∀q,q<nxj+10→q≠k→sget s6 q=sget sj q:=hf6
   have k6:k≤l6:=hl6 k ω (Nat.le_refl _)
   have hb2:Gr s6 lv (n4+8) 0 nxj 1 false yv (qs.map (D.int .i64)):=b_2.frame fun q h1 h2=>hf6 q ω ω
   have hb5:Gr s6 lv (n1+5) 1 nxi 2 true xv (ns.map NodeT.d):=b_5.frame fun q h1 h2=>hf6 q ω ω
   have w_c0:= (hf6 nx ω ω).trans w_bc0
   have w_c1:= (hf6 (n1+4) ω ω).trans w_bc1
   have w_c2:= (hf6 (n4+7) ω ω).trans w_bc2
   have hgl:=z4w hb2 (by omega:k≤n4+8) k6
   simp (maxDischargeDepth:=60) only[w_len,w_bc2,w_bN,w_b_2e,w_c2,↓LA,LB,simprocAttr]
   refine z4h hb2 ?_ (z0c fun a=>z63) z03 ?_ ?_ ?_ ?_ ?_ fun chc0 hc0=> ?_
   ·intro j h1 h2;simp (disch:=omega) only[z00]
   ·rfl
   ·omega
   ·simp;omega
   ·simp;omega
   ·exact rfl
   simp (maxDischargeDepth:=60) only[z07 hj ω,w_len,w_33,w_9,w_bN,w_b_2V,w_c2,↓LA,LB,simprocAttr]
   have hq3: (qs++ [(r6:Int)]).map (D.int .i64)=qs.map (D.int .i64)++ [D.int .i64 (r6:Nat)]:=by rw[List.map_append];rfl
   exact z09 (by refine⟨_,ω,j+1,_,_,_,.arr (nxj+7) 1 false 0 ((qs.map (D.int .i64)).length+1),qs++ [(r6:Int)],rfl,ω,hS6.frame (by simp (disch:=omega) only[z00,z01,z04 (hb2.away (j:=k) ω)]) ω,(by rw[hq3];exact z4j hc0 (by intro j h1 h2 h3;simp (disch:=omega) only[z00,z01,z04 h3]) ω ω ω z03 rfl ⟨CV.int,trivial⟩),(by simp[b_3]),(fun q hq=> (List.mem_append.1 hq).elim (b_4 q) (fun hq=>by rw[List.mem_singleton] at hq;subst hq;omega)),hb5.frame (by intro j h1 h2;simp (disch:=omega) only[z00,z01,z04 (hb2.away (j:=j) ω)]),(by intro q g1 g2;simp (disch:=omega) only[z00,z01,z04 (hb2.away (j:=q) ω)];exact (hf6 q ω g2).trans (b_6 q g1 g2)),?_,?_,?_,ω,(by first|exact Nat.zero_le _|omega|exact z02 ω ω|exact z02 (z02 ω ω) ω|exact z02 (z02 (z02 ω ω) ω) ω),?_,?_,?_,?_,?_,?_,?_,?_,?_,?_,?_,rfl⟩<;>simp (maxDischargeDepth:=60) only[w_len,w_0,w_4,w_5,w_6,w_7,w_20,w_21,w_9,w_32,w_bN,w_b_2V,w_z4,w_c0,w_c1,w_c2,LB,simprocAttr])
  ·have hje:j=kk:=ω
   have hgl:=z4w b_5 (by omega:k≤n1+5) w_blo
   simp (maxDischargeDepth:=60) only[hj,w_len,w_33,w_6,w_9,w_32,w_bc1,w_bc2,w_b_2c,↓LA,LB,simprocAttr]
   refine z4h b_5 ?_ (z0c fun a=>z62) z03 ?_ ?_ ?_ ?_ ?_ fun chc0 hc0=> ?_
   ·intro j h1 h2;simp (disch:=omega) only[z00]
   ·rfl
   ·omega
   ·simp;omega
   ·simp;omega
   ·simp only[List.all_cons,List.all_nil,ze9,w_b_2c,Bool.and_self]
   simp (maxDischargeDepth:=60) only[z07 hi ω,w_len,w_6,w_21,w_bc1,w_bN,w_b_5V,↓LA,LB,simprocAttr]
   have hn2: (ns++ [(⟨nm,qs⟩:NodeT)]).map NodeT.d=ns.map NodeT.d++ [.agg [.str nm,.sl (qs.map (D.int .i64))]]:=by rw[List.map_append];rfl
   exact z09 (by refine⟨_,ω,i+1,_,_,_,.arr (nxj+5) 2 true 0 ((ns.map NodeT.d).length+1),ns++ [⟨nm,qs⟩],rfl,ω,b_1.frame (by simp (disch:=omega) only[z00,z01,z04 (b_5.away (j:=k) ω)]) ω,(by rw[hn2];exact z4j hc0 (by intro j h1 h2 h3;simp (disch:=omega) only[z00,z01,z04 h3]) ω ω ω z03 rfl ⟨CV.str,CV.lo ω (CV.hi ((b_2.frame (by intro j h1 h2;simp (disch:=omega) only[z00,z01,z04 (b_5.away (j:=j) ω)])).cv ω (z0c fun a=>z63)) ω),trivial⟩),(by simp[a_3]),(fun x hx=> (List.mem_append.1 hx).elim (a_4 x) (fun hx=>by rw[List.mem_singleton] at hx;subst hx;exact⟨hnm1,hnm2,by show qs.length≤2;omega,b_4⟩)),(by intro q g1 g2;simp (disch:=omega) only[z00,z01,z04 (b_5.away (j:=q) ω)];exact b_6 q g1 g2),?_,?_,ω,(by first|exact Nat.zero_le _|omega|exact z02 ω ω|exact z02 (z02 ω ω) ω|exact z02 (z02 (z02 ω ω) ω) ω),?_,?_,?_,?_,?_,?_,?_,?_,rfl⟩<;>simp (maxDischargeDepth:=60) only[w_len,w_0,w_4,w_5,w_6,w_7,w_20,w_bc0,w_bc1,w_bN,w_b_5V,w_z4,LB,simprocAttr])
 ·have hie:i=n:=ω
  simp (maxDischargeDepth:=60) only[hi,w_len,w_21,w_4,w_6,w_20,w_ac0,w_ac1,w_aS,w_a_2c,↓LA,LB,simprocAttr]
  refine⟨by show nx≤nxi+3;omega,fun q g1 g2=> (z01 ω).trans (a_5 q g1 g2),a_1.frame (z01 ω) ω,fun m g1 g2=>by repeat' (first|omega|refine z02 ?_ ?_),⟨ns,(r:Int)⟩,xv,rfl,?_,by show 0<ns.length;omega,by show ns.length≤most;omega,?_,by show (0:Int)≤r;omega,by show (r:Int)< (ns.length:Nat);omega⟩
  ·exact GP.mono (fun q hq=>⟨by have:=hq.1;omega,by have:=hq.2;show q<nxi+3;omega⟩) (a_2.frame (fun q g1 g2=>z01 ω))
  ·show ∀x∈ns,Nok ns.length x
   rw[a_3,hie];exact a_4
theorem y0j:∀{l:List RelT} {j:Nat} (h:j<l.length),j*3+3≤(((l.map RelT.d).flatMap cellsD).map V.d).length∧((((l.map RelT.d).flatMap cellsD).map V.d).drop (j*3)).take 3= [.d (.str l[j].name),.d (.int .i64 l[j].arity),.d (.int .i64 l[j].rank)]
 |t::l,0,_=>⟨by simp[RelT.d,cellsD],rfl⟩
 |t::l,j+1,h=>by
  have h' :j<l.length:=by simp at h;omega
  obtain⟨h1,h2⟩:=y0j h'
  have e: (j+1)*3=j*3+1+1+1:=ω
  have e2: (((t::l).map RelT.d).flatMap cellsD).map V.d=V.d (.str t.name)::V.d (.int .i64 t.arity)::V.d (.int .i64 t.rank):: (((l.map RelT.d).flatMap cellsD).map V.d):=rfl
  rw[e2,e]
  refine⟨by simp only[List.length_cons];omega,?_⟩
  rw[List.drop_succ_cons,List.drop_succ_cons,List.drop_succ_cons,h2]
  rfl
theorem zzg {s:Sto} {lv:Bool} {S:Nat→Prop} :∀{cs:List V} {ds:List D},CVs (CQ s lv S 0) cs ds→cs=ds.map V.d
 | [],[],_=>rfl
 | [],_::_,h=>h.elim
 |_::_,[],h=>h.elim
 |v::cs,d::ds,h=>by
  obtain⟨h1,h2⟩:=h
  rw[zzg h2]
  obtain⟨rfl,_⟩:=h1
  rfl
def y5v  {lv:Bool} {S:Nat→Prop} {v:V} {l:List RelT} (h:GP s lv S 0 3 true v (l.map RelT.d)) (h0:0<l.length):
  ∃k cs,v= .arr k 3 true 0 l.length∧S k∧sget s k=some (.cells cs)∧∀j (hj:j<l.length),z08 3 v (j:Int)=some (.ptr k (j*3))∧
   (j*3+3≤cs.length)=True∧(cs.drop (j*3)).take 3= [.d (.str l[j].name),.d (.int .i64 l[j].arity),.d (.int .i64 l[j].rank)]:=by
 rcases h with⟨_,e⟩|⟨k,cs,rfl,h1,h2,h3⟩
 ·cases l with
  |nil=>simp at h0
  |cons x l=>simp at e
 ·have e:=zzg h3
  subst e
  refine⟨k,_,by simp,h1,h2,fun j hj=> ?_⟩
  obtain⟨k1,k2⟩:=y0j hj
  refine⟨?_,eq_true k1,k2⟩
  rw[List.length_map]
  simp only[z08]
  rw[if_pos ⟨ω,ω,trivial⟩]
  simp
def Tok (most:Nat) (t:TreeT):Prop:=0<t.nodes.length∧t.nodes.length≤most∧(∀x∈t.nodes,Nok t.nodes.length x)∧0≤t.root∧t.root<t.nodes.length
def y8g (lb:Bool) (s0:Sto) (nx k:Nat) (bs:List Int) (c lw most:Nat) (rels:List RelT) (v:V) (st:St):Prop:=
 nx≤st.next∧(∀q,q<nx→q≠k→sget st.s q=sget s0 q)∧Sk st.s k bs (c+1+3* (3+4*most))∧(∀m,m≤lw→m≤k→m≤st.low)∧
  ∃(x:RelT) (ts:List TreeT) (a:V),x∈rels∧v=mkAgg [.d (.str x.name),a]∧GP st.s lb (Iv nx st.next) 2 2 true a (ts.map TreeT.d)∧(ts.length:Int)=x.arity∧∀t∈ts,Tok most t
def zzv {lb:Bool}  (hb:LOk bs) {c:Nat} (hmo:most≤60) (h0:0<most) (hc:c≤100000) {rels:List RelT} (hr0:0<rels.length) (hr1:rels.length≤1000) (har:∀x∈rels,0≤x.arity∧x.arity≤3)
  {ra ca:V} {lv:Bool} {S:Nat→Prop}  {lw:Nat} (hk:k<nx) (h:Sk s k bs c) (hS:∀q,S q→q<nx∧q≠k) (hra:GP s lv S 0 3 true ra (rels.map RelT.d)) (hc1:ca.isCell=true) (hc2:cellsV ca= [ca]) (hc3:V.beq ca ca=true):
  PostV (z06 G (.fn 6 [] []) [.ptr k 0,mkAgg [ra,ca],.d (.int .i64 (most:Nat))] {s:=s,next:=nx,low:=lw}) (y8g lb s nx k bs c lw most rels):=by
 obtain⟨kr,cs,rfl,hkS,hkr,hat⟩:=y5v hra hr0
 obtain⟨q1,q2⟩:=hS _ hkS
 have hbx:∀key st,boxV key (mkAgg [V.arr kr 3 true 0 rels.length,ca]) st=some (.ptr key 0,St.ins st key (.cells [V.arr kr 3 true 0 rels.length,ca])):=fun key st=>by
  simp only[boxV,z6o,List.all_cons,List.all_nil,hc1,y11];rfl
 refine z1b (first:= []) (args:= [.ptr k 0,mkAgg [V.arr kr 3 true 0 rels.length,ca],.d (.int .i64 (most:Nat))]) (cap:= []) T1.g6 rfl rfl rfl (fun e w_len harg=> ?_)
 have w_len:e.length=35:=w_len
 have w_0:e.getD 0 .undef= .ptr k 0:=harg 0 ψ
 have w_1:e.getD 1 .undef=mkAgg [V.arr kr 3 true 0 rels.length,ca]:=harg 1 ψ
 have w_2:e.getD 2 .undef= .d (.int .i64 (most:Nat)):=harg 2 ψ
 clear harg
 simp (maxDischargeDepth:=60) only[T1.i6,hbx,w_len,w_0,w_1,↓LA,LB,simprocAttr]
 refine z0d (z1u (n:=rels.length) hb ω ω ω ω (h.frame (by rw[z00 ω,z00 ω]) (Nat.le_refl _))) fun v1 st1 hR1=> ?_
 obtain⟨⟨r,hr,rfl⟩,hn1,hf1,hS1,hl1⟩:=hR1
 obtain⟨s1,n1,l1⟩:=st1
 have hn1:nx+13≤n1:=hn1
 have hf1:∀q,q<nx+13→q≠k→sget s1 q=sget ((nx+1,Obj.cells [V.d (.str []),V.nilS]):: (nx,Obj.cells [V.arr kr 3 true 0 rels.length,ca])::s) q:=hf1
 have k1:k≤l1:=hl1 k (by repeat' (first|omega|refine z02 ?_ ?_)) (Nat.le_refl _)
 have w_a0:sget s1 nx=some (.cells [V.arr kr 3 true 0 rels.length,ca]):= (hf1 _ ω ω).trans ((z00 ω).trans z03)
 have w_a1:sget s1 (nx+1)=some (.cells [V.d (.str []),V.nilS]):= (hf1 _ ω ω).trans z03
 have w_a2:sget s1 kr=some (.cells cs):=by rw[hf1 _ ω q2,z00 ω,z00 ω];exact hkr
 obtain⟨g1,g2,g3⟩:=hat r hr
 obtain⟨x,hx⟩:∃x,x=rels[r]:=⟨_,rfl⟩
 have hxm:x∈rels:=by rw[hx];exact List.getElem_mem hr
 rw[←hx] at g3
 obtain⟨x1,x2⟩:=har x hxm
 obtain⟨ar,har'⟩:∃ar:Nat,x.arity=ar:=⟨x.arity.toNat,ω⟩
 rw[har'] at g3
 have w_z: (nx+11=kr)=False∧(n1=nx+8)=False∧(nx+8=n1)=False∧(n1+3=nx+1)=False∧(n1+2=nx)=False∧(nx+1=n1+3)=False∧(nx=n1+2)=False:=⟨by simp;omega,by simp;omega,by simp;omega,by simp;omega,by simp;omega,by simp;omega,by simp;omega⟩
 simp (maxDischargeDepth:=60) only[hc3,g1,g2,g3,w_len,w_a0,w_a2,w_z,↓LA,LB,simprocAttr]
 refine z0b (fun e0 s0 m env st=>∃(i nxi lwi:Nat) (si:Sto) (xa:V) (ts:Lt),m=ar-i∧(i≤ar)∧(Sk si k bs (c+1+i* (3+4*most)))∧(Gr si lb (n1+4) 2 nxi 2 true xa (ts.map TreeT.d))∧(ts.length=i)∧((∀t∈ts,Tok most t))∧(∀q,q<nx→q≠k→sget si q=sget s q)∧sget si (nx+1)=some (.cells [.d (.str []),.nilS])∧sget si (n1+3)=some (.cells [.d (.str x.name),xa])∧n1+5≤nxi∧k≤lwi∧env.length=35∧env.getD 23 .undef= .d (.int .i64 i)∧env.getD 0 .undef= .ptr k 0∧env.getD 2 .undef= .d (.int .i64 (most:Nat))∧env.getD 6 .undef= .ptr (nx+1) 0∧env.getD 8 .undef= .ptr (n1+3) 0∧env.getD 22 .undef= .d (.int .i64 (ar:Nat))∧st= {s:=si,next:=nxi,low:=lwi}) ?_ (ar) (by refine⟨0,_,_,_,.nilS,[],rfl,ω,hS1.frame (by rw[z00 ω,z00 ω]) ω,Gr.nil,rfl,(fun x hx=>by simp at hx),(fun q g1 g2=>by rw[z00 ω,z00 ω,hf1 q ω g2,z00 ω,z00 ω]),?_,?_,ω,(by first|exact Nat.zero_le _|omega|exact z02 ω ω|exact z02 (z02 ω ω) ω|exact z02 (z02 (z02 ω ω) ω) ω),?_,?_,?_,?_,?_,?_,?_,rfl⟩<;>simp (maxDischargeDepth:=60) only[w_len,w_0,w_2,w_a1,w_z,LB,simprocAttr])
 rintro m env st ⟨i,nxi,lwi,si,xa,ts,hm,a_0,a_1,a_2,a_3,a_4,a_5,w_ac0,w_ac1,w_ab,w_alo,w_len,w_23,w_0,w_2,w_6,w_8,w_22,rfl⟩
 have w_aN:=aI (cf1 (x:=nxi) (a:=nx+1) ω) (cf1 (x:=nxi) (a:=n1+3) ω)
 have w_aS:=aI (cf2 (x:=nxi) ω w_ac0) (cf2 (x:=nxi) ω w_ac1)
 have w_aZ:=zf (x:=nxi) (b:=n1) (n:=5) ω ω
 have w_a_2V:=aI (a_2.away (j:=nx+1) ω) (a_2.away (j:=n1+3) ω)
 have w_a_2c:=a_2.cell.1
 have w_a_2d:=a_2.cell.2
 have w_a_2e:=a_2.beq
 have hib:i* (3+4*most)≤3*243:=Nat.mul_le_mul ω ω
 by_cases hi:i<ar
 ·simp (maxDischargeDepth:=60) only[hi,w_len,w_23,w_0,w_2,w_8,w_22,w_ac1,↓LA,LB,simprocAttr]
  refine z0d (y21 (lv:=lb) hb hmo h0 ω ω a_1) fun v2 st2 hR2=> ?_
  obtain⟨hn2,hf2,hS2,hl2,t,ta,rfl,ht1,ht2⟩:=hR2
  obtain⟨s2,n2,l2⟩:=st2
  have hn2:nxi+10≤n2:=hn2
  have hf2:∀q,q<nxi+10→q≠k→sget s2 q=sget si q:=hf2
  have ht1:GP s2 lb (Iv (nxi+10) n2) 1 2 true ta (t.nodes.map NodeT.d):=ht1
  have k2:k≤l2:=hl2 k ω (Nat.le_refl _)
  have ha2:Gr s2 lb (n1+4) 2 nxi 2 true xa (ts.map TreeT.d):=a_2.frame fun q h1 h2=>hf2 q ω ω
  have w_b0:= (hf2 (nx+1) ω ω).trans w_ac0
  have w_b1:= (hf2 (n1+3) ω ω).trans w_ac1
  have hta:=ht1.cell
  have w_ta:=hta.1
  have hgl:=z4w ha2 (by omega:k≤n1+4) k2
  simp (maxDischargeDepth:=60) only[w_len,w_ac1,w_aN,w_a_2e,w_b1,w_ta,↓LA,LB,simprocAttr]
  refine z4h ha2 ?_ (z0c fun a=>z1t) z03 ?_ ?_ ?_ ?_ ?_ fun chc0 hc0=> ?_
  ·intro j h1 h2;simp (disch:=omega) only[z00]
  ·rfl
  ·omega
  ·simp;omega
  ·simp;omega
  ·simp only[List.all_cons,List.all_nil,zi4,w_ta,Bool.and_self]
  simp (maxDischargeDepth:=60) only[z07 hi ω,w_len,w_23,w_8,w_aN,w_a_2V,w_b1,↓LA,LB,simprocAttr]
  have hn3: (ts++ [t]).map TreeT.d=ts.map TreeT.d++ [t.d]:=by rw[List.map_append];rfl
  have hgr:∀s',(∀q,q≠n1+3→q≠nxi+7→q≠nxi+6→Go.Lift.away xa q→sget s' q=sget s2 q)→sget s' (nxi+7)=some (.cells (chc0++ [ta,.d (.int .i64 t.root)]))→Gr s' lb (n1+4) 2 (n2+2) 2 true (.arr (nxi+7) 2 true 0 ((ts.map TreeT.d).length+1)) ((ts++ [t]).map TreeT.d):=fun s' hs ho=>by
   rw[hn3]
   refine z57 hc0 (fun q hq ha=>hs q (by have:=hq.1;omega) (by have:=hq.2;omega) (by have:=hq.2;omega) ha) (fun q hq=>⟨hq.1,by have:=hq.2;omega⟩) ⟨ω,ω⟩ (fun e=>by have:=e.2;omega) ho rfl ⟨?_,CQ.int,trivial⟩
   have hfr:GP s' lb (Iv (nxi+10) n2) 1 2 true ta (t.nodes.map NodeT.d):=ht1.frame fun q hq=>hs q (by have:=hq.1;omega) (by have:=hq.1;omega) (by have:=hq.1;omega) (ha2.away (.inr (by have:=hq.1;omega)))
   exact CQ.mono (fun q hq=>⟨⟨by have:=hq.1;omega,by have:=hq.2;omega⟩,by have:=hq.1;omega⟩) (hfr.cv ω (z0c fun a=>z62))
  have hmul: (i+1)* (3+4*most)=i* (3+4*most)+ (3+4*most):=Nat.succ_mul i _
  exact z09 (by refine⟨_,ω,i+1,_,_,_,.arr (nxi+7) 2 true 0 ((ts.map TreeT.d).length+1),ts++ [t],rfl,ω,hS2.frame (by simp (disch:=omega) only[z00,z01,z04 (ha2.away (j:=k) ω)]) ω,hgr _ (fun q g1 g2 g3 g4=>by simp (disch:=omega) only[z00,z01,z04 g4]) z03,(by simp[a_3]),(fun u hu=> (List.mem_append.1 hu).elim (a_4 u) (fun hu=>by rw[List.mem_singleton] at hu;subst hu;exact ht2)),(by intro q g1 g2;simp (disch:=omega) only[z00,z01,z04 (ha2.away (j:=q) ω)];exact (hf2 q ω g2).trans (a_5 q g1 g2)),?_,?_,ω,(by first|exact Nat.zero_le _|omega|exact z02 ω ω|exact z02 (z02 ω ω) ω|exact z02 (z02 (z02 ω ω) ω) ω),?_,?_,?_,?_,?_,?_,?_,rfl⟩<;>simp (maxDischargeDepth:=60) only[w_len,w_0,w_2,w_6,w_8,w_22,w_aN,w_a_2V,w_z,w_b0,w_b1,LB,simprocAttr])
 ·have hie:i=ar:=ω
  simp (maxDischargeDepth:=60) only[hi,w_len,w_23,w_6,w_8,w_22,w_ac0,w_ac1,w_aS,w_a_2c,↓LA,LB,simprocAttr]
  refine⟨by show nx≤nxi+3;omega,fun q g1 g2=> (z01 ω).trans (a_5 q g1 g2),a_1.frame (z01 ω) ?_,fun m g1 g2=>by repeat' (first|omega|refine z02 ?_ ?_),x,ts,xa,hxm,rfl,?_,by rw[har',←hie,←a_3],a_4⟩
  ·have:i* (3+4*most)≤3* (3+4*most):=Nat.mul_le_mul_right _ ω
   omega
  ·exact GP.mono (fun q hq=>⟨by have:=hq.1;omega,by have:=hq.2;show q<nxi+3;omega⟩) (a_2.frame (fun q g1 g2=>z01 ω))
def relN (i:Nat):List Nat:= [114,97+i]
def RelM (i:Nat) (x:RelT):Prop:=x.name=relN i∧(1≤x.arity∧x.arity≤2)∧0≤x.rank∧x.rank≤3
def VarM (v:List Nat):Prop:=∃j,j<4∧v= [118,97+j]
def PatM (p:PatT):Prop:= ((p.name= []∧p.vars.length=1)∨(z0z p.name=true∧p.vars.length≤2))∧p.name.length≤8∧(∀c∈p.name,c<256)∧∀v∈p.vars,VarM v
def y5a (rs:List RelT) (head:List PatT) (a:PatT):Prop:= (∃y∈rs,a.name=y.name∧(a.vars.length:Int)=y.arity)∧∀v∈a.vars,∃p∈head,v∈p.vars
def zgu (rs:List RelT) (c:ClauseT):Prop:= (∃x∈rs,c.rel=x.name∧(c.head.length:Int)=x.arity)∧(∀p∈c.head,PatM p)∧c.body.length≤2∧∀a∈c.body,y5a rs c.head a
structure RulesM (r:RulesT):Prop where
 one:1≤r.rels.length
 most:r.rels.length≤3
 rel:∀i (h:i<r.rels.length),RelM i r.rels[i]
 few:r.clauses.length≤8
 cl:∀c∈r.clauses,zgu r.rels c
def zlo {j:Nat} (h:relN i=relN j):i=j:=by
 unfold relN at h
 simp at h
 exact h
def zro  (h:i<3):z0z (relN i)=true:=by
 have:i=0∨i=1∨i=2:=ω
 rcases this with rfl|rfl|rfl<;>decide
def zb4 {v:Ln} (h:VarM v):z0z v=true∧SOk v:=by
 obtain⟨j,hj,rfl⟩:=h
 have hs:∀x∈ [[118,97],[118,98],[118,99],[118,100]],z0z x=true∧(∀c∈x,c<256)∧x.length≤9223372036854775807:=by decide
 refine hs _ ?_
 have:j=0∨j=1∨j=2∨j=3:=ω
 rcases this with rfl|rfl|rfl|rfl<;>simp
def zbk  (h:RulesM r) {x:RelT} (hx:x∈r.rels):r.rels.find? (isR x.name)=some x:=by
 obtain⟨i,hi,rfl⟩:=List.mem_iff_getElem.1 hx
 rw[List.find?_eq_some_iff_getElem]
 refine⟨by simp[isR],i,hi,rfl,fun j hj=> ?_⟩
 have h1:= (h.rel i hi).1
 have h2:= (h.rel j ω).1
 have:¬r.rels[j].name=r.rels[i].name:=fun e=>by
  rw[h1,h2] at e
  have:=zlo e
  omega
 simpa [isR] using this
def z9t  (h:RulesM r):z0l r=0:=by
 have h1:=h.one
 have h3:=h.most
 have h8:=h.few
 unfold z0l
 rw[if_neg ω]
 have hf:z4x (fun i=>z18 r i (r.rels.getD i ⟨[],0,0⟩)) r.rels.length=0:=z7x fun i hi=>by
  have e:r.rels.getD i ⟨[],0,0⟩=r.rels[i]:=by simp[hi]
  obtain⟨e1,e2,e3⟩:=h.rel i hi
  show z18 r i _=0
  rw[e]
  have hn:z2i r.rels r.rels[i].name=i:=by
   refine zca hi (fun x hx=> ?_) (by simp[isR])
   obtain⟨j,hj,rfl⟩:=List.mem_iff_getElem.1 hx
   rw[List.length_take] at hj
   rw[List.getElem_take]
   have h2:= (h.rel j ω).1
   have:¬r.rels[j].name=r.rels[i].name:=fun e=>by
    rw[e1,h2] at e
    have:=zlo e
    omega
   simpa [isR] using this
  unfold z18
  rw[hn,e1,zro ω,if_neg ψ,if_neg ω,if_neg ω,if_neg ω]
 rw[hf,if_neg ψ]
 refine z17 fun c hc=> ?_
 obtain⟨⟨x,hx,e1,e2⟩,e3,e4,e5⟩:=h.cl c hc
 unfold z0y
 rw[e1,zbk h hx]
 simp only
 have hfew:c.head.all few=true:=List.all_eq_true.2 fun p hp=>by
  obtain⟨q,_⟩:=e3 p hp
  unfold Go.Lift.K.few
  rcases q with⟨q1,q2⟩|⟨q1,q2⟩
  ·simp[q1,q2]
  ·have:¬p.name= []:=fun e=>by rw[e] at q1;exact absurd q1 (by decide)
   simp[this];omega
 have hnmd:c.head.all nmd=true:=List.all_eq_true.2 fun p hp=>by
  obtain⟨q,_,_,q4⟩:=e3 p hp
  unfold nmd
  have hv:p.vars.all z0z=true:=List.all_eq_true.2 fun v hv=> (zb4 (q4 v hv)).1
  rcases q with⟨q1,q2⟩|⟨q1,q2⟩
  ·simp[q1,hv]
  ·simp[q1,hv]
 rw[if_neg (by rw[hfew];simp;omega),if_neg (by rw[hnmd];simp)]
 refine z17 fun a ha=> ?_
 obtain⟨⟨y,hy,f1,f2⟩,f3⟩:=e5 a ha
 unfold z2r
 rw[f1,zbk h hy]
 simp only
 have hth:a.vars.all (z5a c.head)=true:=List.all_eq_true.2 fun v hv=>by
  obtain⟨p,hp,hvp⟩:=f3 v hv
  exact List.any_eq_true.2 ⟨p,hp,List.any_eq_true.2 ⟨v,hvp,by simp⟩⟩
 rw[if_neg ω,if_neg (by rw[hth];simp)]
def zh2 {x:Ln} (h:∀c∈x,c<256) (hl:x.length≤8):SOk x:=⟨h,ω⟩
def y2e  (hi:i<3) {x:RelT} (h:RelM i x):x.ok:=by
 obtain⟨e1,e2,e3⟩:=h
 refine⟨?_,by unfold IOk;omega,by unfold IOk;omega⟩
 rw[e1]
 refine zh2 (fun c hc=> ?_) (by simp[relN])
 simp[relN] at hc
 omega
def zbh  (h:RulesM r):r.ok:=by
 have h3:=h.most
 have h8:=h.few
 have hrel:∀x∈r.rels,x.ok:=fun x hx=>by
  obtain⟨i,hi,rfl⟩:=List.mem_iff_getElem.1 hx
  exact y2e ω (h.rel i hi)
 refine⟨⟨by unfold LOk;omega,hrel⟩,by unfold LOk;omega,fun c hc=> ?_⟩
 obtain⟨⟨x,hx,e1,e2⟩,e3,e4,e5⟩:=h.cl c hc
 obtain⟨i,hi,rfl⟩:=List.mem_iff_getElem.1 hx
 have ha:= (h.rel i hi).2.1
 refine⟨by rw[e1];exact (hrel _ hx).1,⟨by unfold LOk;omega,fun p hp=> ?_⟩,⟨by unfold LOk;omega,fun a ha' => ?_⟩⟩
 ·obtain⟨q,q2,q3,q4⟩:=e3 p hp
  refine⟨zh2 q3 q2,?_,fun v hv=> (zb4 (q4 v hv)).2⟩
  unfold LOk
  rcases q with⟨_,q⟩|⟨_,q⟩<;>omega
 ·obtain⟨⟨y,hy,f1,f2⟩,f3⟩:=e5 a ha'
  obtain⟨j,hj,rfl⟩:=List.mem_iff_getElem.1 hy
  have hb:= (h.rel j hj).2.1
  refine⟨by rw[f1];exact (hrel _ hy).1,by unfold LOk;omega,fun v hv=> ?_⟩
  obtain⟨p,hp,hvp⟩:=f3 v hv
  exact (zb4 ((e3 p hp).2.2.2 v hvp)).2
def zqn  (hm:most≤60) {t:TreeT} (h:Tok most t):t.ok∧Ok t:=by
 obtain⟨h1,h2,h3,h4,h5⟩:=h
 have hk:∀x∈t.nodes,x.ok:=fun x hx=>by
  obtain⟨a,b,c,d⟩:=h3 x hx
  exact⟨b,by unfold LOk;omega,fun q hq=>by have:=d q hq;unfold IOk;omega⟩
 refine⟨⟨⟨by unfold LOk;omega,hk⟩,by unfold IOk;omega⟩,?_⟩
 refine z7l (z6w.2 ⟨⟨ω,ω⟩,fun x hx=>by have:= (h3 x hx).2.2.1;omega,fun x hx=> (h3 x hx).1,⟨h4,h5⟩,fun x hx q hq=> (h3 x hx).2.2.2 q hq⟩)
theorem zl0 {a b:Nat} :binV .add (.d (.str [a])) (.d (.str [b]))=some (.d (.str [a,b])):=rfl
def y8f (s0:Sto) (nx k:Nat) (bs:List Int) (c lw mr:Nat) (v:V) (st:St):Prop:=
 nx≤st.next∧(∀q,q<nx→q≠k→sget st.s q=sget s0 q)∧Sk st.s k bs (c+1000)∧(∀m,m≤lw→m≤k→m≤st.low)∧
  ∃(r:RulesT) (a b:V),v=mkAgg [a,b]∧(RulesM r∧∀x∈r.rels,x.rank<mr)∧GP st.s false (Iv nx st.next) 0 3 true a (r.rels.map RelT.d)∧GP st.s false (Iv nx st.next) 2 3 true b (r.clauses.map ClauseT.d)
def zgt (bs:List Int) (k mr:Nat):Prop:=∀(e:List V) (s s0:Sto) (nx lw lw0 z c:Nat) (xr:V) (rs:List RelT),e.length=171→e.getD 0 .undef= .ptr k 0→e.getD 6 .undef= .ptr z 0→e.getD 7 .undef= .ptr (z+1) 0→
 sget s z=some (.cells [.nilS,.nilS])→sget s (z+1)=some (.cells [xr,.nilS])→k<z→z+2≤nx→Gr s false (z+2) 0 nx 3 true xr (rs.map RelT.d)→1≤rs.length→rs.length≤3→(∀j (h:j<rs.length),RelM j rs[j])→(∀x∈rs,x.rank<mr)→Sk s k bs (c+7)→c≤100000→k≤lw→(∀q,q<z→q≠k→sget s q=sget s0 q)→
 PC (z0j (z06 G) z0g none T1.q4_41 e {s:=s,next:=nx,low:=lw}) (RS [.cell 6 2 true] (y8f s0 z k bs c lw0 mr) .mk lw0) .mk
def y6t {mr:Nat} (hm0:0<mr) (hm4:mr≤4)  (hb:LOk bs) {c:Nat} (hrest:zgt bs k mr) (hc:c≤100000)  {lw:Nat} (hk:k<nx) (h:Sk s k bs c):
  PostV (z06 G (.fn 4 [] []) [.ptr k 0,.d (.int .i64 3),.d (.int .i64 (mr:Nat))] {s:=s,next:=nx,low:=lw}) (y8f s nx k bs c lw mr):=by
 obtain⟨R,hR⟩:∃R:IC,R=T1.q4_41:=⟨_,rfl⟩
 refine z1b (first:= []) (args:= [.ptr k 0,.d (.int .i64 3),.d (.int .i64 (mr:Nat))]) (cap:= []) T1.g4 rfl rfl rfl (fun e w_len harg=> ?_)
 have w_len:e.length=171:=w_len
 have w_0:e.getD 0 .undef= .ptr k 0:=harg 0 ψ
 have w_1:e.getD 1 .undef= .d (.int .i64 3):=harg 1 ψ
 have w_2:e.getD 2 .undef= .d (.int .i64 (mr:Nat)):=harg 2 ψ
 clear harg
 unfold T1.i4
 rw[←hR]
 simp (maxDischargeDepth:=60) only[w_len,w_0,w_1,↓LA,LB,simprocAttr]
 refine z0d (z75 (lo:=1) (hi:=3) hb ω ω ω ω (h.frame (by rw[z00 ω,z00 ω]) (Nat.le_refl _))) fun v1 st1 hR1=> ?_
 obtain⟨⟨n,hna,hnb,rfl⟩,hn1,hf1,hS1,hl1⟩:=hR1
 obtain⟨s1,n1,l1⟩:=st1
 have hn1:nx+6≤n1:=hn1
 have hf1:∀q,q<nx+6→q≠k→sget s1 q=sget ((nx+1,Obj.cells [V.nilS,V.nilS]):: (nx,Obj.cells [V.nilS,V.nilS])::s) q:=hf1
 have k1:k≤l1:=hl1 k (by repeat' (first|omega|refine z02 ?_ ?_)) (Nat.le_refl _)
 have w_a0:sget s1 nx=some (.cells [.nilS,.nilS]):= (hf1 _ ω ω).trans ((z00 ω).trans z03)
 have w_a1:sget s1 (nx+1)=some (.cells [.nilS,.nilS]):= (hf1 _ ω ω).trans z03
 simp (maxDischargeDepth:=60) only[↓LA,LB,simprocAttr]
 refine z0b (fun e0 s0 m env st=>∃(i nxi lwi:Nat) (si:Sto) (xr:V) (rs:List RelT),m=n-i∧(i≤n)∧(Sk si k bs (c+1+2*i))∧(Gr si false (nx+2) 0 nxi 3 true xr (rs.map RelT.d))∧(rs.length=i)∧((∀j (h:j<rs.length),RelM j rs[j]))∧((∀x∈rs,x.rank<mr))∧(∀q,q<nx→q≠k→sget si q=sget s q)∧sget si (nx)=some (.cells [.nilS,.nilS])∧sget si (nx+1)=some (.cells [xr,.nilS])∧nx+6≤nxi∧k≤lwi∧env.length=171∧env.getD 21 .undef= .d (.int .i64 i)∧env.getD 0 .undef= .ptr k 0∧env.getD 2 .undef= .d (.int .i64 (mr:Nat))∧env.getD 6 .undef= .ptr nx 0∧env.getD 7 .undef= .ptr (nx+1) 0∧env.getD 20 .undef= .d (.int .i64 (n:Nat))∧st= {s:=si,next:=nxi,low:=lwi}) ?_ (n) (by refine⟨0,_,_,_,.nilS,[],rfl,ω,hS1,Gr.nil,rfl,(fun j h=>by simp at h),(fun x h=>by simp at h),(fun q g1 g2=>by rw[hf1 q ω g2,z00 ω,z00 ω]),?_,?_,ω,(by first|exact Nat.zero_le _|omega|exact z02 ω ω|exact z02 (z02 ω ω) ω|exact z02 (z02 (z02 ω ω) ω) ω),?_,?_,?_,?_,?_,?_,?_,rfl⟩<;>simp (maxDischargeDepth:=60) only[w_len,w_0,w_2,w_a0,w_a1,LB,simprocAttr])
 rintro m env st ⟨i,nxi,lwi,si,xr,rs,hm,a_0,a_1,a_2,a_3,a_4,a_5,a_6,w_ac0,w_ac1,w_ab,w_alo,w_len,w_21,w_0,w_2,w_6,w_7,w_20,rfl⟩
 have w_aN:=aI (cf1 (x:=nxi) (a:=nx) ω) (cf1 (x:=nxi) (a:=nx+1) ω)
 have w_aS:=aI (cf2 (x:=nxi) ω w_ac0) (cf2 (x:=nxi) ω w_ac1)
 have w_aZ:=zf (x:=nxi) (b:=nx) (n:=6) ω ω
 have w_a_2V:=aI (a_2.away (j:=nx) ω) (a_2.away (j:=nx+1) ω)
 have w_a_2c:=a_2.cell.1
 have w_a_2d:=a_2.cell.2
 have w_a_2e:=a_2.beq
 by_cases hi:i<n
 ·have hw1:IntKind.i64.wrap (97+ (i:Int))= ((97+i:Nat):Int):=by rw[z23 ω ω];omega
  have hw2:IntKind.i32.wrap ((97+i:Nat):Int)= ((97+i:Nat):Int):=zgx ω ω
  have hcv:=fun (st:St)=>zeg (k:= .i32) (n:=97+i) (st:=st) ω
  simp (maxDischargeDepth:=60) only[hi,hw1,hw2,hcv,zl0,w_len,w_21,w_0,w_2,w_7,w_20,w_ac1,↓LA,LB,simprocAttr]
  refine z0d (z75 (lo:=1) (hi:=2) hb ω ω ω ω a_1) fun v2 st2 hR2=> ?_
  obtain⟨⟨ar,har1,har2,rfl⟩,hn2,hf2,hS2,hl2⟩:=hR2
  obtain⟨s2,n2,l2⟩:=st2
  have hn2:nxi+20≤n2:=hn2
  have hf2:∀q,q<nxi+20→q≠k→sget s2 q=sget si q:=hf2
  have k2:k≤l2:=hl2 k ω (Nat.le_refl _)
  have w_b0:= (hf2 nx ω ω).trans w_ac0
  have w_b1:= (hf2 (nx+1) ω ω).trans w_ac1
  simp (maxDischargeDepth:=60) only[w_len,w_ac1,w_a_2e,w_b1,↓LA,LB,simprocAttr]
  refine z0d (z1u (n:=mr) hb ω ω ω ω hS2) fun v3 st3 hR3=> ?_
  obtain⟨⟨rk,hrk,rfl⟩,hn3,hf3,hS3,hl3⟩:=hR3
  obtain⟨s3,n3,l3⟩:=st3
  have hn3:n2≤n3:=hn3
  have hf3:∀q,q<n2→q≠k→sget s3 q=sget s2 q:=hf3
  have k3:k≤l3:=hl3 k k2 (Nat.le_refl _)
  have hf23:∀q,q<nxi→q≠k→sget s3 q=sget si q:=fun q g1 g2=> (hf3 q ω g2).trans (hf2 q ω g2)
  have ha3:Gr s3 false (nx+2) 0 nxi 3 true xr (rs.map RelT.d):=a_2.frame fun q h1 h2=>hf23 q ω ω
  have w_c0:= (hf3 nx ω ω).trans w_b0
  have w_c1:= (hf3 (nx+1) ω ω).trans w_b1
  have hgl:=z4w ha3 (by omega:k≤nx+2) k3
  simp (maxDischargeDepth:=60) only[w_len,w_aN,w_a_2e,w_b1,w_c1,↓LA,LB,simprocAttr]
  refine z4h ha3 ?_ (z0c fun a=>z61) z03 ?_ ?_ ?_ ?_ ?_ fun chc0 hc0=> ?_
  ·intro j h1 h2;simp (disch:=omega) only[z00]
  ·rfl
  ·omega
  ·simp;omega
  ·simp;omega
  ·exact rfl
  simp (maxDischargeDepth:=60) only[z07 hi ω,w_len,w_21,w_7,w_aN,w_a_2V,w_c1,↓LA,LB,simprocAttr]
  have hn4: (rs++ [(⟨relN i,ar,rk⟩:RelT)]).map RelT.d=rs.map RelT.d++ [.agg [.str [114,97+i],.int .i64 (ar:Nat),.int .i64 (rk:Nat)]]:=by rw[List.map_append];rfl
  have hrm:∀j (h:j< (rs++ [(⟨relN i,ar,rk⟩:RelT)]).length),RelM j (rs++ [(⟨relN i,ar,rk⟩:RelT)])[j]:=fun j hj=>by
   by_cases e:j<rs.length
   ·rw[List.getElem_append_left e];exact a_4 j e
   ·have hj' :j=i:=by rw[List.length_append,List.length_singleton] at hj;omega
    subst hj'
    rw[List.getElem_append_right ω]
    simp only[a_3,Nat.sub_self,List.getElem_cons_zero]
    exact⟨rfl,⟨by show (1:Int)≤(ar:Nat);omega,by show ((ar:Nat):Int)≤2;omega⟩,by show (0:Int)≤(rk:Nat);omega,by show ((rk:Nat):Int)≤3;omega⟩
  exact z09 (by refine⟨_,ω,i+1,_,_,_,.arr (nxi+17) 3 true 0 ((rs.map RelT.d).length+1),rs++ [⟨relN i,ar,rk⟩],rfl,ω,hS3.frame (by simp (disch:=omega) only[z00,z01,z04 (ha3.away (j:=k) ω)]) ω,(by rw[hn4];exact z4j hc0 (by intro j h1 h2 h3;simp (disch:=omega) only[z00,z01,z04 h3]) ω ω ω z03 rfl ⟨CV.str,CV.int,CV.int,trivial⟩),(by simp[a_3]),hrm,(fun x hx=> (List.mem_append.1 hx).elim (a_5 x) fun hx=>by rw[List.mem_singleton] at hx;subst hx;exact Int.ofNat_lt.2 hrk),(by intro q g1 g2;simp (disch:=omega) only[z00,z01,z04 (ha3.away (j:=q) ω)];exact (hf23 q ω g2).trans (a_6 q g1 g2)),?_,?_,ω,(by first|exact Nat.zero_le _|omega|exact z02 ω ω|exact z02 (z02 ω ω) ω|exact z02 (z02 (z02 ω ω) ω) ω),?_,?_,?_,?_,?_,?_,?_,rfl⟩<;>simp (maxDischargeDepth:=60) only[w_len,w_0,w_2,w_6,w_7,w_20,w_aN,w_a_2V,w_c0,w_c1,LB,simprocAttr])
 have hie:i=n:=ω
 simp (maxDischargeDepth:=60) only[hi,w_len,w_21,w_20,↓LA,LB,simprocAttr]
 rw[hR]
 refine hrest _ _ _ _ _ _ _ _ xr rs (by simp (maxDischargeDepth:=60) only[w_len,LB,simprocAttr]) (by simp (maxDischargeDepth:=60) only[w_0,LB,simprocAttr]) (by simp (maxDischargeDepth:=60) only[w_6,LB,simprocAttr]) (by simp (maxDischargeDepth:=60) only[w_7,LB,simprocAttr]) w_ac0 w_ac1 hk ω (a_2.hi ω) ω ω a_4 a_5 (a_1.frame rfl ω) hc w_alo a_6
def y3e  (hb:LOk bs) {c:Nat} (hrest:zgt bs k 4) (hc:c≤100000)  {lw:Nat} (hk:k<nx) (h:Sk s k bs c):
  PostV (z06 G (.fn 4 [] []) [.ptr k 0,.d (.int .i64 3),.d (.int .i64 4)] {s:=s,next:=nx,low:=lw}) (fun v st=>nx≤st.next∧(∀q,q<nx→q≠k→sget st.s q=sget s q)∧Sk st.s k bs (c+1000)∧(∀m,m≤lw→m≤k→m≤st.low)∧
  ∃(r:RulesT) (a b:V),v=mkAgg [a,b]∧RulesM r∧GP st.s false (Iv nx st.next) 0 3 true a (r.rels.map RelT.d)∧GP st.s false (Iv nx st.next) 2 3 true b (r.clauses.map ClauseT.d)):=
 PostV.mono (y6t (mr:=4) ω ω hb hrest hc hk h) fun v st hR=>by
  obtain⟨a1,a2,a3,a4,r,a,b,e,⟨h1,_⟩,h2,h3⟩:=hR
  exact⟨a1,a2,a3,a4,r,a,b,e,h1,h2,h3⟩
end Go.Lift.K
