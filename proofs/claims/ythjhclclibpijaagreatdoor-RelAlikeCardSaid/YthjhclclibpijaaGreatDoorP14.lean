/- Part P14 of the proof. -/
import Derived.Test.YthjhclclibpijaaGreatDoorP13
set_option linter.all false
set_option maxHeartbeats 4000000
set_option maxRecDepth 100000
namespace Go.Lift.K
open Go Go.Lift Classical
variable{t:TreeT}{n k kt ko nB c i nx kg kw:Nat}{o:Ln}{x:NodeT}{b tv v gt a xa:V}{bs:Li}{S:Nat→Prop}{s:Sto}{E:Lv}{Q:Ex→List V→St→Prop}{ts:Lt}{r:RulesT}{g w:GoalT}{L:Lh}
def DbK (t:TreeT) (n:Nat) (o:List Nat) (x:NodeT) (qs:List Int):Prop:=∀q (hq:q<qs.length),∃b:Nat,b<2∧qs[q]= ((o.getD ((x.kids.getD q 0).toNat+n*b) 0:Nat):Int)
def zzd     {qs:Li} (h:DbK t n o x qs) {b:Nat} (hb:b<2):DbK t n o x (qs++ [((o.getD ((x.kids.getD qs.length 0).toNat+n*b) 0:Nat):Int)]):=fun q hq=>by
 by_cases e:q<qs.length
 ·obtain⟨b',h1,h2⟩:=h q e
  exact⟨b',h1,by rw[List.getElem_append_left e];exact h2⟩
 ·have:q=qs.length:=by simp at hq;omega
  subst this
  exact⟨b,hb,by simp⟩
def zz9  (hb:LOk bs)  {rv:V}   {ys:Lk} {kN kO kx hN lw:Nat}   
  (h5:t.nodes.length≤30) (hNk:∀x∈t.nodes,Nok t.nodes.length x) (hc:c≤900000) (hks:k<nB∧nB≤kt∧kt<ko∧ko<kN∧kN<kO∧kO<hN∧hN≤kx∧kx<nx) (hi:i<2*t.nodes.length)
  (hk:Sk s k bs c) (hS:∀q,S q→q<nB∧q≠k) (hT:GP s false S 1 2 true tv (t.nodes.map NodeT.d)) (w_t:sget s kt=some (.cells [tv,.d (.int .i64 t.root)])) (w_o:sget s ko=some (.cells (nq o))) (hsh:Shp o (2*t.nodes.length) (2*t.nodes.length))
  (w_O:sget s kO=some (.cells [.arr kN 2 true 0 (2*t.nodes.length),rv])) (hNA:NA s kN (Iv (kO+1) hN) ys) (hyl:ys.length=2*t.nodes.length)  (hx:x=t.nodes.getD (i%t.nodes.length) ⟨[],[]⟩) (w_x:sget s kx=some (.cells [.d (.str x.name),.nilS]))
  (w_len:E.length=90) (w_0:E.getD 0 .undef= .ptr k 0) (w_3:E.getD 3 .undef= .ptr kt 0) (w_5:E.getD 5 .undef= .d (.int .i64 (t.nodes.length:Nat))) (w_6:E.getD 6 .undef= .arr ko 1 false 0 (2*t.nodes.length)) (w_7:E.getD 7 .undef= .ptr kO 0) (w_8:E.getD 8 .undef= .d (.int .i64 (i:Nat))) (w_9:E.getD 9 .undef= .ptr kx 0)
  (hQ:∀e st qs,e.length=90→(∀l,(l<11∨(11<l∧l<52))→e.getD l .undef=E.getD l .undef)→nx≤st.next→(∀q,q<hN→q≠k→q≠kN→sget st.s q=sget s q)→Sk st.s k bs (c+2)→NA st.s kN (Iv (kO+1) st.next) (ys.set (o.getD i 0) ⟨x.name,qs⟩)→qs.length=x.kids.length→DbK t t.nodes.length o x qs→Q .nrm e st):
  PC (z0j (z06 G) z0g none T1.q7_52 E {s:=s,next:=nx,low:=lw}) Q .mk:=by
 have hn0:0<t.nodes.length:=ω
 have him:i%t.nodes.length<t.nodes.length:=Nat.mod_lt _ hn0
 have hxe:x=t.nodes[i%t.nodes.length]:=by rw[hx];simp[him]
 have hX:Nok t.nodes.length x:=by rw[hxe];exact hNk _ (List.getElem_mem him)
 obtain⟨kn,cs,kv,_,hkn,hkc,hia,hcl,hct,hrd⟩:=GP.nodeAt hT him (by rw[←hxe];exact fun q hq=> (hX.2.2.2 q hq).1)
 rw[←hxe] at hct hrd
 obtain⟨g1,g2⟩:=hS _ hkn
 have hbr:=z92 (k:= .i64) (a:=i) hn0
 have hkm: (kidN x).length=x.kids.length:=by simp[kidN]
 have hc1: (i%t.nodes.length*2+1+1≤cs.length)=True:=eq_true ω
 have hc2: (cs.drop (i%t.nodes.length*2+1)).take 1= [kv]:=by
  have:=congrArg (List.drop 1) hct
  rw[List.drop_take,List.drop_drop] at this
  exact this
 have w_kc:=hkc
 have w_kv:=hrd.cell
 have w_kb:=hrd.beq
 have w_tc:=hT.cell
 have w_tb:=hT.beq
 have hkl:=hrd.len
 rw[hkm] at hkl
 have w_zz: (kx=kt)=False∧(kx=ko)=False∧(kx=kO)=False∧(kN=kt)=False∧(kN=ko)=False∧(kN=kO)=False∧(kN=kx)=False:=⟨by simp;omega,by simp;omega,by simp;omega,by simp;omega,by simp;omega,by simp;omega,by simp;omega⟩
 unfold T1.q7_52
 simp only[hbr,hia,hc1,hc2,hkl,w_len,w_3,w_5,w_8,w_t,w_kc,↓LA,LB,simprocAttr]
 refine z0b (fun e0 s0 m env st=>∃(j nxj lwj:Nat) (sj:Sto) (yv:V) (qs:Li),m=x.kids.length-j∧(j≤x.kids.length)∧(Sk sj k bs (c+j))∧(Gr sj false (kx+1) 0 nxj 1 false yv (qs.map (D.int .i64)))∧(qs.length=j)∧(DbK t t.nodes.length o x qs)∧((∀q,q<hN→q≠k→sget sj q=sget s q))∧((∀l,(l<11∨(11<l∧l<52))→env.getD l .undef=E.getD l .undef))∧sget sj (kt)=some (.cells [tv,.d (.int .i64 t.root)])∧sget sj (ko)=some (.cells (nq o))∧sget sj (kO)=some (.cells [.arr kN 2 true 0 (2*t.nodes.length),rv])∧sget sj (kx)=some (.cells [.d (.str x.name),yv])∧nx≤nxj∧0≤lwj∧env.length=90∧env.getD 61 .undef= .d (.int .i64 j)∧env.getD 0 .undef= .ptr k 0∧env.getD 3 .undef= .ptr kt 0∧env.getD 5 .undef= .d (.int .i64 (t.nodes.length:Nat))∧env.getD 6 .undef= .arr ko 1 false 0 (2*t.nodes.length)∧env.getD 7 .undef= .ptr kO 0∧env.getD 8 .undef= .d (.int .i64 (i:Nat))∧env.getD 9 .undef= .ptr kx 0∧env.getD 59 .undef=kv∧env.getD 60 .undef= .d (.int .i64 (x.kids.length:Nat))∧st= {s:=sj,next:=nxj,low:=lwj}) ?_ (x.kids.length) (by refine⟨0,_,_,_,.nilS,[],rfl,ω,hk,Gr.nil,rfl,(fun q h=>absurd h ψ),(fun q _ _=>rfl),(by intro l hl;simp (disch:=omega) only[z0h]),?_,?_,?_,?_,ω,Nat.zero_le _,?_,?_,?_,?_,?_,?_,?_,?_,?_,?_,?_,rfl⟩<;>simp (maxDischargeDepth:=60) only[w_len,w_0,w_3,w_5,w_6,w_7,w_8,w_9,w_t,w_o,w_O,w_x,LB,simprocAttr])
 rintro m env st ⟨j,nxj,lwj,sj,yv,qs,hm,j_0,j_1,j_2,j_3,j_4,j_5,j_6,w_jc0,w_jc1,w_jc2,w_jc3,w_jb,w_jlo,w_len,w_61,w_0,w_3,w_5,w_6,w_7,w_8,w_9,w_59,w_60,rfl⟩
 have w_jN:=aI (cf1 (x:=nxj) (a:=kt) ω) (aI (cf1 (x:=nxj) (a:=ko) ω) (aI (cf1 (x:=nxj) (a:=kO) ω) (cf1 (x:=nxj) (a:=kx) ω)))
 have w_jS:=aI (cf2 (x:=nxj) ω w_jc0) (aI (cf2 (x:=nxj) ω w_jc1) (aI (cf2 (x:=nxj) ω w_jc2) (cf2 (x:=nxj) ω w_jc3)))
 have w_j_2V:=aI (j_2.away (j:=kt) ω) (aI (j_2.away (j:=ko) ω) (aI (j_2.away (j:=kO) ω) (j_2.away (j:=kx) ω)))
 have w_j_2c:=j_2.cell.1
 have w_j_2d:=j_2.cell.2
 have w_j_2e:=j_2.beq
 by_cases hj:j<x.kids.length
 ·obtain⟨p,hp1,hp2⟩:=hrd.rd j (by rw[hkm];exact hj)
  have hld:=fun nx lw=>hp2 sj nx lw fun q hq=>j_5 q (by have:= (hS q hq).1;omega) (hS q hq).2
  obtain⟨kq,hkq⟩:∃kq,kq= (kidN x)[j]'(by rw[hkm];exact hj):=⟨_,rfl⟩
  rw[←hkq] at hld
  have hkqe:kq= (x.kids.getD j 0).toNat:=by rw[hkq];simp[kidN,hj]
  have hkql:kq<t.nodes.length:=by
   have e:x.kids.getD j 0=x.kids[j]:=by simp[hj]
   rw[hkqe,e]
   have:=hX.2.2.2 _ (List.getElem_mem hj)
   omega
  have hj2:=hX.2.2.1
  simp only[hj,hp1,hld,w_len,w_61,w_0,w_5,w_6,w_9,w_59,w_60,w_jc3,↓LA,LB,simprocAttr]
  refine z0d (z1u (n:=2) hb (c:=c+j) ω ω ω ω j_1) fun v st hR=> ?_
  obtain⟨⟨b,hb2,rfl⟩,hn6,hf6,hS6,_⟩:=hR
  obtain⟨s6,n6,l6⟩:=st
  have hn6:nxj+19≤n6:=hn6
  have hf6:∀q,q<nxj+19→q≠k→sget s6 q=sget sj q:=hf6
  have hS6:Sk s6 k bs (c+j+1):=hS6
  have hg6:Gr s6 false (kx+1) 0 nxj 1 false yv (qs.map (D.int .i64)):=j_2.frame fun q h1 h2=>hf6 q ω ω
  have w_c0:= (hf6 kt ω ω).trans w_jc0
  have w_c1:= (hf6 ko ω ω).trans w_jc1
  have w_c2:= (hf6 kO ω ω).trans w_jc2
  have w_c3:= (hf6 kx ω ω).trans w_jc3
  have hlt:=zdj hkql hb2
  have hmu:=z93 (a:=t.nodes.length) (b:=b) ω
  have had:=zny (a:=kq) (b:=t.nodes.length*b) ω
  have hdk:=zzd j_4 hb2
  rw[j_3,←hkqe] at hdk
  obtain⟨z,hz⟩:∃z,z=kq+t.nodes.length*b:=⟨_,rfl⟩
  rw[←hz] at hlt had hdk
  have hib:z08 1 (.arr ko 1 false 0 (2*t.nodes.length)) (z:Int)=some (.ptr ko z):=z2f hlt
  obtain⟨r1,r2⟩:=zxi (l:=o) (n:=z) (by rw[hsh.len];exact hlt)
  simp only[hmu,had,hib,r1,r2,w_len,w_jc3,w_jN,w_j_2e,w_c1,w_c3,↓LA,LB,simprocAttr]
  refine z4h hg6 ?_ (z0c fun a=>z63) z03 ?_ ?_ ?_ ?_ ?_ fun chc0 hc0=> ?_
  ·intro j h1 h2;simp (disch:=omega) only[z00]
  ·rfl
  ·omega
  ·simp;omega
  ·simp;omega
  ·exact rfl
  simp only[z07 hj ω,w_len,w_61,w_9,w_jN,w_j_2V,w_c3,↓LA,LB,simprocAttr]
  have hq3: (qs++ [((o.getD z 0:Nat):Int)]).map (D.int .i64)=qs.map (D.int .i64)++ [D.int .i64 (o.getD z 0:Nat)]:=by rw[List.map_append];rfl
  exact z09 (by refine⟨_,ω,j+1,_,_,_,.arr (nxj+16) 1 false 0 ((qs.map (D.int .i64)).length+1),qs++ [((o.getD z 0:Nat):Int)],rfl,ω,hS6.frame (by simp (disch:=omega) only[z00,z01,z04 (hg6.away (j:=k) ω)]) ω,(by rw[hq3];exact z4j hc0 (by intro j h1 h2 h3;simp (disch:=omega) only[z00,z01,z04 h3]) ω ω ω z03 rfl ⟨CV.int,trivial⟩),(by simp[j_3]),hdk,(by intro q g1 g2;simp (disch:=omega) only[z00,z01,z04 (hg6.away (j:=q) ω)];exact (hf6 q ω g2).trans (j_5 q g1 g2)),(by intro l hl;simp (disch:=omega) only[z0h];exact j_6 l hl),?_,?_,?_,?_,ω,Nat.zero_le _,?_,?_,?_,?_,?_,?_,?_,?_,?_,?_,?_,rfl⟩<;>simp only[w_len,w_0,w_3,w_5,w_6,w_7,w_8,w_9,w_59,w_60,w_jN,w_j_2V,w_zz,w_c0,w_c1,w_c2,w_c3,LB,simprocAttr])
 ·have hje:j=x.kids.length:=ω
  rw[hje] at j_1
  have hjj:o.getD i 0<2*t.nodes.length:=hsh.lt i hi
  have hNj:NA sj kN (Iv (kO+1) hN) ys:=hNA.frame (j_5 kN ω ω) fun q hq=>⟨j_5 q hq.2 (by have:=hq.1;omega),hq⟩
  obtain⟨cN,w_kN,hcN,hput⟩:=hNj.put (j:=o.getD i 0) ω
  have hia2:z08 1 (.arr ko 1 false 0 (2*t.nodes.length)) (i:Int)=some (.ptr ko i):=z2f hi
  have hia3:z08 2 (.arr kN 2 true 0 (2*t.nodes.length)) ((o.getD i 0:Nat):Int)=some (.ptr kN (o.getD i 0*2)):=by
   simp only[z08]
   rw[if_pos ⟨ω,ω,trivial⟩]
   simp
  obtain⟨r1,r2⟩:=zxi (l:=o) (n:=i) (by rw[hsh.len];exact hi)
  have w_kN2:∀o',sget (sset sj kN o') kN=some o' :=fun o' =>z05 w_kN
  have hX2:=hX.2.2.1
  simp only[hj,hia2,hia3,r1,r2,hcN,w_len,w_61,w_6,w_7,w_8,w_9,w_60,w_jc1,w_jc2,w_jc3,w_j_2c,w_kN,↓LA,LB,simprocAttr]
  have hcv:=j_2.cv ω (z0c fun a=>z63)
  exact hQ _ _ qs (by simp only[w_len,LB,simprocAttr]) (by intro l hl;simp (disch:=omega) only[z0h];exact j_6 l hl) (by show nx≤nxj+_;omega) (fun q g1 g2 g3=> (z01 (Ne.symm g3)).trans (j_5 q g1 g2)) (j_1.frame (z01 ω) ω)
   (hput (x:=⟨x.name,qs⟩) (fun q hq=>⟨z01 (by have:=hq.1;omega),hq.1,by have:=hq.2;show q<nxj+_;omega⟩) ((CQ.frame (fun q hq=>z01 (by have:=hq.1;omega)) hcv).mono fun q hq=>⟨by have:=hq.1;omega,by have:=hq.2;show q<nxj+_;omega⟩) (w_kN2 _)) (j_3.trans hje) j_4
def zu2 {l:Lk} {q:Nat} {d:NodeT} (hi:i<l.length): (l.set i x).getD q d=if q=i then x else l.getD q d:=by
 simp only[List.getD_eq_getElem?_getD]
 by_cases h:q=i
 ·subst h;simp[hi]
 ·simp[h,List.getElem?_set_ne (fun e=>h e.symm)]
def zza  (hb:LOk bs)   {rz:Int}   {kr kN kO lw:Nat}   
  (h0:0<t.nodes.length) (h5:t.nodes.length≤30) (hNk:∀x∈t.nodes,Nok t.nodes.length x) (hc:c≤800000) (hks:k<nB∧nB≤kt∧kt<kr∧kr<ko∧ko<kN∧kN<kO∧kO<nx)
  (hk:Sk s k bs c) (hS:∀q,S q→q<nB∧q≠k) (hT:GP s false S 1 2 true tv (t.nodes.map NodeT.d)) (w_t:sget s kt=some (.cells [tv,.d (.int .i64 t.root)])) (w_o:sget s ko=some (.cells (nq o))) (hsh:Shp o (2*t.nodes.length) (2*t.nodes.length))
  (w_r:sget s kr=some (.cells [.nilS,.d (.int .i64 0)])) (w_O:sget s kO=some (.cells [.arr kN 2 true 0 (2*t.nodes.length),.d (.int .i64 rz)])) (hNA:NA s kN (Iv (kO+1) nx) (List.replicate (2*t.nodes.length) ⟨[],[]⟩))
  (w_len:E.length=90) (w_0:E.getD 0 .undef= .ptr k 0) (w_3:E.getD 3 .undef= .ptr kt 0) (w_4:E.getD 4 .undef= .ptr kr 0) (w_5:E.getD 5 .undef= .d (.int .i64 (t.nodes.length:Nat))) (w_6:E.getD 6 .undef= .arr ko 1 false 0 (2*t.nodes.length)) (w_7:E.getD 7 .undef= .ptr kO 0)
  (hQ:∀e st ys,e.length=90→(∀l,l<8→e.getD l .undef=E.getD l .undef)→nx≤st.next→(∀q,q<nB→q≠k→sget st.s q=sget s q)→Sk st.s k bs (c+120)→NA st.s kN (Iv (kO+1) st.next) ys→ys.length=2*t.nodes.length→(∀i,i<2*t.nodes.length→DbN t t.nodes.length o i (ys.getD (o.getD i 0) ⟨[],[]⟩))→sget st.s kr=some (.cells [.arr kN 2 true 0 (2*t.nodes.length),.d (.int .i64 rz)])→Q .ret e st):
  PC (z0j (z06 G) z0g none T1.q7_38 E {s:=s,next:=nx,low:=lw}) Q .mk:=by
 obtain⟨R,hR⟩:∃R:IC,R=T1.q7_52:=⟨_,rfl⟩
 have hw2:=z93 (a:=2) (b:=t.nodes.length) ω
 rewrite [nat2] at hw2
 unfold T1.q7_38 T1.q7_43
 rw[←hR]
 simp only[hw2,w_len,w_5,↓LA,LB,simprocAttr]
 refine z0b (fun e0 s0 m env st=>∃(i nxi lwi:Nat) (si:Sto) (ys:Lk),m=2*t.nodes.length-i∧(i≤2*t.nodes.length)∧(Sk si k bs (c+2*i))∧(NA si kN (Iv (kO+1) nxi) ys)∧(ys.length=2*t.nodes.length)∧((∀q,q<i→DbN t t.nodes.length o q (ys.getD (o.getD q 0) ⟨[],[]⟩)))∧((∀q,q<nx→q≠k→q≠kN→sget si q=sget s q))∧((∀l,l<8→env.getD l .undef=E.getD l .undef))∧sget si (kt)=some (.cells [tv,.d (.int .i64 t.root)])∧sget si (kr)=some (.cells [.nilS,.d (.int .i64 0)])∧sget si (ko)=some (.cells (nq o))∧sget si (kO)=some (.cells [.arr kN 2 true 0 (2*t.nodes.length),.d (.int .i64 rz)])∧nx+3≤nxi∧0≤lwi∧env.length=90∧env.getD 40 .undef= .d (.int .i64 i)∧env.getD 0 .undef= .ptr k 0∧env.getD 3 .undef= .ptr kt 0∧env.getD 4 .undef= .ptr kr 0∧env.getD 5 .undef= .d (.int .i64 (t.nodes.length:Nat))∧env.getD 6 .undef= .arr ko 1 false 0 (2*t.nodes.length)∧env.getD 7 .undef= .ptr kO 0∧env.getD 39 .undef= .d (.int .i64 (2*t.nodes.length:Nat))∧st= {s:=si,next:=nxi,low:=lwi}) ?_ (2*t.nodes.length) (by refine⟨0,_,_,_,List.replicate (2*t.nodes.length) ⟨[],[]⟩,rfl,ω,hk,(hNA.frame rfl fun q hq=>⟨rfl,hq.1,by have:=hq.2;omega⟩),ψ,(fun q h=>absurd h ω),(fun q _ _ _=>rfl),(by intro l hl;simp (disch:=omega) only[z0h]),?_,?_,?_,?_,ω,Nat.zero_le _,?_,?_,?_,?_,?_,?_,?_,?_,?_,rfl⟩<;>simp only[w_len,w_0,w_3,w_4,w_5,w_6,w_7,w_t,w_o,w_O,w_r,LB,simprocAttr])
 rintro m env st ⟨i,nxi,lwi,si,ys,hm,i_0,i_1,i_2,i_3,i_4,i_5,i_6,w_ic0,w_ic1,w_ic2,w_ic3,w_ib,w_ilo,w_len,w_40,w_0,w_3,w_4,w_5,w_6,w_7,w_39,rfl⟩
 have w_iN:=aI (cf1 (x:=nxi) (a:=kt) ω) (aI (cf1 (x:=nxi) (a:=kr) ω) (aI (cf1 (x:=nxi) (a:=ko) ω) (cf1 (x:=nxi) (a:=kO) ω)))
 have w_iS:=aI (cf2 (x:=nxi) ω w_ic0) (aI (cf2 (x:=nxi) ω w_ic1) (aI (cf2 (x:=nxi) ω w_ic2) (cf2 (x:=nxi) ω w_ic3)))
 have w_iZ:=zf (x:=nxi) (b:=nx) (n:=3) ω ω
 by_cases hi:i<2*t.nodes.length
 ·have him:i%t.nodes.length<t.nodes.length:=Nat.mod_lt _ h0
  obtain⟨x,hx⟩:∃x,x=t.nodes.getD (i%t.nodes.length) ⟨[],[]⟩:=⟨_,rfl⟩
  have hxe:x=t.nodes[i%t.nodes.length]:=by rw[hx];simp[him]
  have hX:Nok t.nodes.length x:=by rw[hxe];exact hNk _ (List.getElem_mem him)
  have hT1:GP si false S 1 2 true tv (t.nodes.map NodeT.d):=hT.frame fun q hq=>i_5 q (by have:= (hS q hq).1;omega) (hS q hq).2 (by have:= (hS q hq).1;omega)
  obtain⟨kn,cs,kv,_,hkn,w_kc,hia,hcl,hct,hrd⟩:=GP.nodeAt hT1 him (by rw[←hxe];exact fun q hq=> (hX.2.2.2 q hq).1)
  rw[←hxe] at hct
  obtain⟨g1,g2⟩:=hS _ hkn
  have hbr:=z92 (k:= .i64) (a:=i) h0
  have hc1: (i%t.nodes.length*2+1≤cs.length)=True:=eq_true ω
  have hc2: (cs.drop (i%t.nodes.length*2)).take 1= [.d (.str x.name)]:=by
   have:=congrArg (List.take 1) hct
   rw[List.take_take] at this
   exact this
  have w_kz: (nxi=kt)=False∧(∀q,(nxi+q=kt)=False)∧(nxi=kn)=False∧(∀q,(nxi+q=kn)=False):=⟨by simp;omega,fun q=>by simp;omega,by simp;omega,fun q=>by simp;omega⟩
  have w_tc:=hT.cell
  have w_tb:=hT.beq
  simp only[hi,hbr,hia,hc1,hc2,w_len,w_40,w_3,w_5,w_39,w_ic0,w_kc,↓LA,LB,simprocAttr]
  rw[hR]
  refine zz9 (hN:=nxi) (kx:=nxi+12) (kO:=kO) (kN:=kN) (ko:=ko) (kt:=kt) (k:=k) (ys:=ys) (S:=S) (nB:=nB) (c:=c+2*i) (rv:= .d (.int .i64 rz)) hb h5 hNk ω ⟨ω,ω,ω,ω,ω,ω,ω,ω⟩ hi (i_1.frame (z00 ω) (Nat.le_refl _)) hS (hT1.frame fun q hq=>z00 (by have:= (hS q hq).1;omega)) ((z00 ω).trans w_ic0) ((z00 ω).trans w_ic2) hsh ((z00 ω).trans w_ic3) (i_2.frame (z00 ω) fun q hq=>⟨z00 (by have:=hq.2;omega),hq⟩) i_3 hx z03 (by simp only[w_len,LB,simprocAttr]) (by simp only[w_0,LB,simprocAttr]) (by simp only[w_3,LB,simprocAttr]) (by simp only[w_5,LB,simprocAttr]) (by simp only[w_6,LB,simprocAttr]) (by simp only[w_7,LB,simprocAttr]) (by simp only[w_len,LB,simprocAttr]) (by simp only[w_len,LB,simprocAttr]) ?_
  intro e st qs w_len hE hn2 hf2 hS2 hNA2 hql hdk
  obtain⟨s2,n2,lw2⟩:=st
  have hn2:nxi+14≤n2:=hn2
  have hf2:∀q,q<nxi→q≠k→q≠kN→sget s2 q=sget ((nxi+12,Obj.cells [V.d (D.str x.name),V.nilS])::si) q:=hf2
  have hf3:∀q,q<nxi→q≠k→q≠kN→sget s2 q=sget si q:=fun q g1 g2 g3=> (hf2 q g1 g2 g3).trans (z00 ω)
  have w_40:e.getD 40 .undef= .d (.int .i64 (i:Nat)):= (hE 40 (.inr ω)).trans (by simp only[w_40,LB,simprocAttr])
  have w_0:e.getD 0 .undef= .ptr k 0:= (hE 0 (.inl ω)).trans (by simp only[w_0,LB,simprocAttr])
  have w_3:e.getD 3 .undef= .ptr kt 0:= (hE 3 (.inl ω)).trans (by simp only[w_3,LB,simprocAttr])
  have w_5:e.getD 5 .undef= .d (.int .i64 (t.nodes.length:Nat)):= (hE 5 (.inl ω)).trans (by simp only[w_5,LB,simprocAttr])
  have w_6:e.getD 6 .undef= .arr ko 1 false 0 (2*t.nodes.length):= (hE 6 (.inl ω)).trans (by simp only[w_6,LB,simprocAttr])
  have w_7:e.getD 7 .undef= .ptr kO 0:= (hE 7 (.inl ω)).trans (by simp only[w_7,LB,simprocAttr])
  have w_39:e.getD 39 .undef= .d (.int .i64 (2*t.nodes.length:Nat)):= (hE 39 (.inr ω)).trans (by simp only[w_39,LB,simprocAttr])
  have w_d0:= (hf3 kt ω ω ω).trans w_ic0
  have w_d1:= (hf3 kr ω ω ω).trans w_ic1
  have w_d2:= (hf3 ko ω ω ω).trans w_ic2
  have w_d3:= (hf3 kO ω ω ω).trans w_ic3
  have w_4:e.getD 4 .undef= .ptr kr 0:= (hE 4 (.inl ω)).trans (by simp only[w_4,LB,simprocAttr])
  simp only[z07 hi ω,w_len,w_40,↓LA,LB,simprocAttr]
  have hdn:∀q,q<i+1→DbN t t.nodes.length o q ((ys.set (o.getD i 0) ⟨x.name,qs⟩).getD (o.getD q 0) ⟨[],[]⟩):=fun q hq=>by
   rw[zu2 (by rw[i_3];exact hsh.lt i hi)]
   by_cases hqi:o.getD q 0=o.getD i 0
   ·have:q=i:=hsh.inj q i ω hi hqi
    subst this
    rw[if_pos rfl]
    refine⟨by rw[←hx],by rw[←hx];exact hql,fun p hp=> ?_⟩
    obtain⟨b,h1,h2⟩:=hdk p hp
    exact⟨b,h1,by rw[←hx];exact h2⟩
   ·rw[if_neg hqi]
    have:q≠i:=fun e=>hqi (by rw[e])
    exact i_4 q ω
  exact z09 (by refine⟨_,ω,i+1,_,_,_,ys.set (o.getD i 0) ⟨x.name,qs⟩,rfl,ω,hS2.frame rfl ω,(hNA2.frame rfl fun q hq=>⟨rfl,hq.1,by have h2:q<n2:=hq.2;omega⟩),(by rw[List.length_set];exact i_3),hdn,(fun q g1 g2 g3=> (hf3 q ω g2 g3).trans (i_5 q g1 g2 g3)),(by intro l hl;simp (disch:=omega) only[z0h];rw[hE l (.inl ω)];simp (disch:=omega) only[z0h];exact i_6 l hl),?_,?_,?_,?_,ω,Nat.zero_le _,?_,?_,?_,?_,?_,?_,?_,?_,?_,rfl⟩<;>simp only[w_len,w_0,w_3,w_4,w_5,w_6,w_7,w_39,w_d0,w_d1,w_d2,w_d3,LB,simprocAttr])
 ·have hie:i=2*t.nodes.length:=ω
  simp only[hi,w_len,w_40,w_4,w_7,w_39,w_ic1,w_ic3,↓LA,LB,simprocAttr]
  refine hQ _ _ ys ?_ ?_ ?_ (fun q g1 g2=> (z01 ω).trans (i_5 q ω g2 ω)) (i_1.frame (z01 ω) ω) (i_2.frame (z01 ω) fun q hq=>⟨z01 (by have:=hq.1;omega),hq.1,by have:=hq.2;show q<nxi+_;omega⟩) i_3 (by rw[hie] at i_4;exact i_4) (z05 w_ic1)
  ·simp only[w_len,LB,simprocAttr]
  ·intro l hl;simp (disch:=omega) only[z0h];exact i_6 l hl
  ·show nx≤nxi+_;omega
theorem y8s {key:Nat} {st:St} (h:n≤1000):z4v key 2 true 40 [.d (.str []),.nilS] (.d (.int .i64 (n:Nat))) (.d (.int .i64 (n:Nat))) st=some (.arr key 2 true 0 n,st.ins key (.cells (List.replicate n [.d (.str []),.nilS]).flatten)):=z8d ω ω rfl rfl
def zzc:IC:= (sq 16 [om 24 5,oo 25 (.bin .mul (ci 2) (.t 24)),om 27 6,oo 28 (kf 1 3),oo 29 (kl 1 28),om 30 5,om 31 0,ok 32 (ka 16 [.t 31,ci 2]) [28],oo 33 (kb .mul 30 32),oo 34 (kb .add 29 33),oo 35 (ki 1 27 34),oo 36 (kl 1 35),oo 26 (.mkslice 12 2 true 40 [(.d (.str [])),.nilS] (.t 25) (.t 25)),oo 37 (.build [.nilS,(.d (.int .i64 0))] [(0,1,(.t 26)),(1,1,(.t 36))]),oo 7 (.alloc 14 [.nilS,(.d (.int .i64 0))]),os (ks 2 7 37)]
 T1.q7_38)
def zzb  (hb:LOk bs)     {kr lw:Nat}   
  (h0:0<t.nodes.length) (h5:t.nodes.length≤30) (hNk:∀x∈t.nodes,Nok t.nodes.length x) (hr:0≤t.root∧t.root<t.nodes.length) (hc:c≤700000) (hks:k<nB∧nB≤kt∧kt<kr∧kr<ko∧ko<nx)
  (hk:Sk s k bs c) (hS:∀q,S q→q<nB∧q≠k) (hT:GP s false S 1 2 true tv (t.nodes.map NodeT.d)) (w_t:sget s kt=some (.cells [tv,.d (.int .i64 t.root)])) (w_o:sget s ko=some (.cells (nq o))) (hsh:Shp o (2*t.nodes.length) (2*t.nodes.length))
  (w_r:sget s kr=some (.cells [.nilS,.d (.int .i64 0)]))
  (w_len:E.length=90) (w_0:E.getD 0 .undef= .ptr k 0) (w_3:E.getD 3 .undef= .ptr kt 0) (w_4:E.getD 4 .undef= .ptr kr 0) (w_5:E.getD 5 .undef= .d (.int .i64 (t.nodes.length:Nat))) (w_6:E.getD 6 .undef= .arr ko 1 false 0 (2*t.nodes.length))
  (hQ:∀e st kN u,e.length=90→e.getD 4 .undef= .ptr kr 0→nx≤st.next→(∀q,q<nB→q≠k→sget st.s q=sget s q)→Sk st.s k bs (c+121)→GP st.s false (Iv nx st.next) 1 2 true (.arr kN 2 true 0 (2*t.nodes.length)) (u.nodes.map NodeT.d)→Dbl t u o→sget st.s kr=some (.cells [.arr kN 2 true 0 (2*t.nodes.length),.d (.int .i64 u.root)])→Q .ret e st):
  PC (z0j (z06 G) z0g none zzc E {s:=s,next:=nx,low:=lw}) Q .mk:=by
 obtain⟨R,hR⟩:∃R:IC,R=T1.q7_38:=⟨_,rfl⟩
 have hw2:=z93 (a:=2) (b:=t.nodes.length) ω
 rewrite [nat2] at hw2
 obtain⟨rt,hrt⟩:=Int.eq_ofNat_of_zero_le hr.1
 have w_tc:=hT.cell
 have w_tb:=hT.beq
 unfold zzc
 rw[←hR]
 simp (maxDischargeDepth:=60) only[hw2,w_len,w_0,w_3,w_5,w_6,w_t,↓LA,LB,simprocAttr]
 refine z0d (z1u (n:=2) hb (c:=c) ω ω ω ω hk) fun v st hQ' => ?_
 obtain⟨⟨b,hb2,rfl⟩,hn2,hf2,hS2,_⟩:=hQ'
 obtain⟨s2,n2,lw2⟩:=st
 have hn2:nx+16≤n2:=hn2
 have hf2:∀q,q<nx+16→q≠k→sget s2 q=sget s q:=hf2
 have hS2:Sk s2 k bs (c+1):=hS2
 have hlt:=zdj (k:=rt) (n:=t.nodes.length) ω hb2
 have hmu:=z93 (a:=t.nodes.length) (b:=b) ω
 have had:=zny (a:=rt) (b:=t.nodes.length*b) ω
 obtain⟨z,hz⟩:∃z,z=rt+t.nodes.length*b:=⟨_,rfl⟩
 rw[←hz] at hlt had
 have hrt' : ((rt:Nat):Int)=t.root:=hrt.symm
 rewrite [hrt'] at had
 have hib:z08 1 (.arr ko 1 false 0 (2*t.nodes.length)) (z:Int)=some (.ptr ko z):=z2f hlt
 obtain⟨r1,r2⟩:=zxi (l:=o) (n:=z) (by rw[hsh.len];exact hlt)
 have hmk:=fun key st=>y8s (key:=key) (n:=2*t.nodes.length) (st:=st) ω
 have w_42:= (hf2 kt ω ω).trans w_t
 have w_43:= (hf2 kr ω ω).trans w_r
 have w_44:= (hf2 ko ω ω).trans w_o
 simp (maxDischargeDepth:=60) only[hmu,had,hib,r1,r2,hmk,w_len,w_t,w_tb,w_42,w_44,↓LA,LB,simprocAttr]
 rw[hR]
 have hrl:t.root.toNat=rt:=ω
 have hf3:∀q,q<nx+12→q≠k→sget ((nx+14,Obj.cells [V.arr (nx+12) 2 true 0 (2*t.nodes.length),V.d (D.int IntKind.i64 (o.getD z 0:Nat))]):: (nx+12,Obj.cells (List.replicate (2*t.nodes.length) [V.d (D.str []),V.nilS]).flatten)::s2) q=sget s q:=fun q g1 g2=>by
  rw[z00 ω,z00 ω];exact hf2 q ω g2
 refine zza (kO:=nx+14) (kN:=nx+12) (ko:=ko) (kr:=kr) (kt:=kt) (k:=k) (nB:=nB) (S:=S) (c:=c+1) (rz:= (o.getD z 0:Nat)) hb h0 h5 hNk ω ⟨ω,ω,ω,ω,ω,ω,ω⟩ (hS2.frame (by rw[z00 ω,z00 ω]) (Nat.le_refl _)) hS (hT.frame fun q hq=>hf3 q (by have:= (hS q hq).1;omega) (hS q hq).2) ((hf3 kt ω ω).trans w_t) ((hf3 ko ω ω).trans w_o) hsh ((hf3 kr ω ω).trans w_r) z03 (y8t ((z00 ω).trans z03)) (by simp (maxDischargeDepth:=60) only[w_len,LB,simprocAttr]) (by simp (maxDischargeDepth:=60) only[w_0,LB,simprocAttr]) (by simp (maxDischargeDepth:=60) only[w_3,LB,simprocAttr]) (by simp (maxDischargeDepth:=60) only[w_4,LB,simprocAttr]) (by simp (maxDischargeDepth:=60) only[w_5,LB,simprocAttr]) (by simp (maxDischargeDepth:=60) only[w_6,LB,simprocAttr]) (by simp (maxDischargeDepth:=60) only[w_len,LB,simprocAttr]) ?_
 intro e st ys w_len hE hn4 hf4 hS4 hNA4 hyl hdn hr4
 obtain⟨s4,n4,lw4⟩:=st
 have hn4:n2≤n4:=hn4
 have w_4:e.getD 4 .undef= .ptr kr 0:= (hE 4 ω).trans (by simp (maxDischargeDepth:=60) only[w_4,LB,simprocAttr])
 refine hQ e _ (nx+12) ⟨ys,(o.getD z 0:Nat)⟩ w_len w_4 (by show nx≤n4;omega) (fun q g1 g2=> (hf4 q g1 g2).trans (hf3 q ω g2)) hS4 (hNA4.gp hyl (fun q hq=>⟨⟨by have:=hq.1;omega,hq.2⟩,by have:=hq.1;omega⟩) ⟨ω,by show nx+12<n4;omega⟩) ⟨hsh,hyl,⟨b,hb2,by rw[hrl,←hz]⟩,hdn⟩ hr4
def zpl  (hb:LOk bs)  (hc:c≤90000)    (h0:0<t.nodes.length) (h5:t.nodes.length≤30) (hN:∀x∈t.nodes,Nok t.nodes.length x) (hr:0≤t.root∧t.root<t.nodes.length)  {lw:Nat} (hk:k<nx) (h:Sk s k bs c) (hS:∀q,S q→q<nx∧q≠k) (hT:GP s false S 1 2 true tv (t.nodes.map NodeT.d)):
  PostV (z06 G (.fn 7 [] []) [.ptr k 0,mkAgg [tv,.d (.int .i64 t.root)]] {s:=s,next:=nx,low:=lw}) (DblR s nx k bs c t):=by
 obtain⟨R,hR⟩:∃R:IC,R=zzc:=⟨_,rfl⟩
 have hR' :=hR
 unfold zzc at hR'
 have hc1:=hT.cell
 have hl1:opLen false tv=some t.nodes.length:=by rw[GP.len hT,List.length_map]
 have w_t:=hc1
 have w_tb:=GP.beq hT
 have hbx:∀key st,boxV key (mkAgg [tv,.d (.int .i64 t.root)]) st=some (.ptr key 0,St.ins st key (.cells [tv,.d (.int .i64 t.root)])):=fun key st=>by
  simp only[boxV,z6o]
  rw[if_pos (by simp only[List.all_cons,List.all_nil,hc1.1,Bool.true_and];rfl)]
 have hw2:=z93 (a:=2) (b:=t.nodes.length) ω
 rewrite [nat2] at hw2
 have hg60: ((60:Int)< ((2*t.nodes.length:Nat):Int))=False:=eq_false ω
 refine z1b (first:= []) (args:= [.ptr k 0,mkAgg [tv,.d (.int .i64 t.root)]]) (cap:= []) T1.g7 rfl rfl rfl (fun e w_len harg=> ?_)
 have w_len:e.length=90:=w_len
 have w_0:e.getD 0 .undef= .ptr k 0:=harg 0 ψ
 have w_1:e.getD 1 .undef=mkAgg [tv,.d (.int .i64 t.root)]:=harg 1 ψ
 clear harg
 unfold T1.i7
 rw[←hR']
 simp (maxDischargeDepth:=60) only[hl1,hbx,hw2,hg60,w_len,w_0,w_1,↓LA,LB,simprocAttr]
 refine z0d (zof (n:=2*t.nodes.length) hb (c:=c) ω ω ω (h.frame ((z00 ω).trans (z00 ω)) (Nat.le_refl _))) fun v st hQ=> ?_
 obtain⟨hn1,hf1,hS1,ko,o,hko1,hko2,rfl,hko,hsh⟩:=hQ
 obtain⟨s1,n1,lw1⟩:=st
 have hn1:nx+14≤n1:=hn1
 have hf1:∀q,q<nx+14→q≠k→sget s1 q=sget ((nx+1,Obj.cells [V.nilS,V.d (D.int .i64 0)]):: (nx,Obj.cells [tv,V.d (D.int .i64 t.root)])::s) q:=hf1
 have hko2:ko<n1:=hko2
 have hko:sget s1 ko=some (.cells (nq o)):=hko
 have hS1:Sk s1 k bs (c+2*t.nodes.length):=hS1
 have hfs:∀q,q<nx→q≠k→sget s1 q=sget s q:=fun q g1 g2=>by
  rw[hf1 q ω g2,z00 ω,z00 ω]
 simp (maxDischargeDepth:=60) only[w_len,↓LA,LB,simprocAttr]
 rw[hR]
 refine zzb (ko:=ko) (kr:=nx+1) (kt:=nx) (k:=k) (nB:=nx) (S:=S) (c:=c+2*t.nodes.length) hb h0 h5 hN hr ω ⟨ω,ω,ω,ω,ω⟩ hS1 hS (hT.frame fun q hq=>hfs q (hS q hq).1 (hS q hq).2) ((hf1 nx ω ω).trans ((z00 ω).trans z03)) hko hsh ((hf1 (nx+1) ω ω).trans z03) (by simp (maxDischargeDepth:=60) only[w_len,LB,simprocAttr]) (by simp (maxDischargeDepth:=60) only[w_0,LB,simprocAttr]) (by simp (maxDischargeDepth:=60) only[w_len,LB,simprocAttr]) (by simp (maxDischargeDepth:=60) only[w_len,LB,simprocAttr]) (by simp (maxDischargeDepth:=60) only[w_len,LB,simprocAttr]) (by simp (maxDischargeDepth:=60) only[w_len,LB,simprocAttr]) ?_
 intro e st kN u w_len w_4 hn4 hf4 hS4 hgp hdb w_r4
 obtain⟨s4,n4,lw4⟩:=st
 have hn4:n1≤n4:=hn4
 simp (maxDischargeDepth:=60) only[w_4,w_r4,↓LA,LB,simprocAttr]
 refine⟨by show nx≤n4;omega,fun q g1 g2=> (hf4 q g1 g2).trans (hfs q g1 g2),hS4.frame rfl ω,u,.arr kN 2 true 0 (2*t.nodes.length),o,rfl,hgp.mono fun q hq=>⟨by have:=hq.1;omega,hq.2⟩,hdb⟩
def zg6 {s:Sto} {S:Nat→Prop} :∀{n:Nat} {v:V} {d:D},CQ s true S n v d→CQ s false S n v d
 |0,_,_,h=>⟨h.1,h.2.1,fun e=>by cases e⟩
 |n+1,v,d,h=>by
  rcases h with h|h|⟨k,es,ag,cs,ds,e1,e2,e3,e4,e5,e6,e7⟩
  ·exact .inl ⟨h.1,h.2.1,fun e=>by cases e⟩
  ·exact .inr (.inl h)
  ·exact .inr (.inr ⟨k,es,ag,cs,ds,e1,e2,e3,e4,e5,e6,e7.imp fun v d hv=>zg6 hv⟩)
def y95    {ns:Lk} (h:CQ s true S 2 v (.sl (ns.map NodeT.d))) (h0:0<ns.length):GP s false S 1 2 true v (ns.map NodeT.d):=by
 have hw:=zg6 h
 rcases h with⟨_,_,hf⟩|⟨_,e⟩|⟨k,es,ag,cs,ds,rfl,e,h1,h2,h3,h4,h5⟩
 ·have:=hf rfl
  cases ns with
  |nil=>simp at h0
  |cons x l=>simp[D.flatC] at this
 ·injection e with e
  have h1:=congrArg List.length e
  rw[List.length_map] at h1
  have h1:ns.length=0:=h1
  omega
 ·injection e with e
  subst e
  have he:=h4 (ns[0].d) (List.mem_map_of_mem (List.getElem_mem h0))
  obtain⟨rfl,rfl⟩:es=2∧ag=true:=by
   rcases he with h|h
   ·obtain⟨a,l,b,c⟩:=h
    injection b with b
    rw[←b] at c
    exact⟨c.1.symm,a⟩
   ·have:=h.2.2
    cases this
  exact .inr ⟨k,cs,rfl,h1,h2,zna h2 (h5.imp fun v d hv=>zg6 hv) ⟨_,_,_,_,hw⟩⟩
def zwf  : ((ts.map TreeT.d).flatMap cellsD)=ts.flatMap fun x=> [D.sl (x.nodes.map NodeT.d),D.int .i64 x.root]:=by
 rw[List.flatMap_map];rfl
def GP.treeAt     (h:GP s true S 2 2 true v (ts.map TreeT.d))  (hi:i<ts.length) (h0:0<ts[i].nodes.length):
  ∃k cs kv,v= .arr k 2 true 0 ts.length∧S k∧sget s k=some (.cells cs)∧z08 2 v (i:Int)=some (.ptr k (i*2))∧i*2+2≤cs.length∧
   (cs.drop (i*2)).take 2= [kv,.d (.int .i64 ts[i].root)]∧GP s false S 1 2 true kv (ts[i].nodes.map NodeT.d):=by
 rcases h with⟨_,e⟩|⟨k,cs,rfl,h1,h2,h3⟩
 ·cases ts with
  |nil=>simp at hi
  |cons x l=>simp at e
 ·have hl:=h3.length
  rw[(z15 (z0c fun a=>z1t)).2,List.length_map] at hl
  rw[zwf] at h3
  have hc:∃kv,(cs.drop (i*2)).take 2= [kv,.d (.int .i64 ts[i].root)]∧CQ s true (fun j=>S j∧j≠k) 2 kv (.sl (ts[i].nodes.map NodeT.d)):=by
   clear h2 hl h0
   induction ts generalizing cs i with
   |nil=>simp at hi
   |cons x l ih=>
    match cs,h3 with
    | [],h=>exact h.elim
    | [_],h=>exact h.2.elim
    |a::b::cs,h=>
     cases i with
     |zero=>
      have e1:b= .d (.int .i64 x.root):=by
       rcases h.2.1 with⟨e,_⟩|⟨_,e⟩|⟨_,_,_,_,_,_,e,_⟩
       ·exact e
       ·cases e
       ·cases e
      subst e1
      exact⟨a,rfl,h.1⟩
     |succ i=>
      have:=ih (cs:=cs) (i:=i) (by simpa using hi) h.2.2
      rw[show (i+1)*2=i*2+2 by omega]
      exact this
  obtain⟨kv,hc1,hc2⟩:=hc
  refine⟨k,cs,kv,by simp,h1,h2,?_,ω,hc1,(y95 hc2 h0).mono fun j hj=>hj.1⟩
  simp only[z08]
  rw[if_pos ⟨ω,by simp;omega,trivial⟩]
  simp
def GP.weak   {es:Nat} {ag:Bool}  {ds:Ld} (h:GP s true S n es ag v ds):GP s false S n es ag v ds:=
 h.imp id fun⟨k,cs,a,b,c,d⟩=>⟨k,cs,a,b,c,d.imp fun v d hv=>zg6 hv⟩
def y54  (hb:LOk bs) {nm:Ln}    {lw:Nat}   
  (h3:ts.length≤3) (hts:∀t∈ts,Tok 5 t) (hks:k<kw∧kg<kw∧k≠kg∧kw<nx)
  (hk:Sk s k bs 0) (hS:∀q,S q→q<kw∧q≠k) (hT:GP s true S 2 2 true gt (ts.map TreeT.d)) (w_g:sget s kg=some (.cells [.d (.str nm),gt])) (w_w:sget s kw=some (.cells [.d (.str nm),.nilS]))
  (w_len:E.length=147) (w_8:E.getD 8 .undef= .ptr k 0) (w_9:E.getD 9 .undef= .ptr kg 0) (w_10:E.getD 10 .undef= .ptr kw 0)
  (hQ:∀(e:Lv) (st:St) (us:Lt) (xa:V),e.length=147→(∀l,l<12→e.getD l .undef=E.getD l .undef)→nx≤st.next→(∀q,q<kw→q≠k→sget st.s q=sget s q)→sget st.s kg=some (.cells [.d (.str nm),gt])→sget st.s kw=some (.cells [.d (.str nm),xa])→Gr st.s false (kw+1) 2 st.next 2 true xa (us.map TreeT.d)→us.length=ts.length→(∀q (h:q<us.length) (h' :q<ts.length),∃o,Dbl ts[q] us[q] o)→PC (z0j (z06 G) z0g none T1.q3_52 e st) Q .mk):
  PC (z0j (z06 G) z0g none T1.q3_35 E {s:=s,next:=nx,low:=lw}) Q .mk:=by
 obtain⟨R,hR⟩:∃R:IC,R=T1.q3_52:=⟨_,rfl⟩
 have hgl:opLen false gt=some ts.length:=by rw[hT.len,List.length_map]
 have w_tc:=hT.cell
 have w_tb:=hT.beq
 have w_gz: (kw=kg)=False:=by simp;omega
 rw[←hR] at hQ
 unfold T1.q3_35
 rw[←hR]
 simp only[hgl,w_len,w_9,w_g,↓LA,LB,simprocAttr]
 refine z0b (fun e0 s0 m env st=>∃(i nxi lwi:Nat) (si:Sto) (xa:V) (us:Lt),m=ts.length-i∧(i≤ts.length)∧(Sk si k bs (200*i))∧(Gr si false (kw+1) 2 nxi 2 true xa (us.map TreeT.d))∧(us.length=i)∧((∀q (h:q<us.length) (h' :q<ts.length),∃o,Dbl ts[q] us[q] o))∧((∀q,q<kw→q≠k→sget si q=sget s q))∧((∀l,l<12→env.getD l .undef=E.getD l .undef))∧sget si (kg)=some (.cells [.d (.str nm),gt])∧sget si (kw)=some (.cells [.d (.str nm),xa])∧nx+4≤nxi∧0≤lwi∧env.length=147∧env.getD 38 .undef= .d (.int .i64 i)∧env.getD 8 .undef= .ptr k 0∧env.getD 9 .undef= .ptr kg 0∧env.getD 10 .undef= .ptr kw 0∧env.getD 36 .undef=gt∧env.getD 37 .undef= .d (.int .i64 (ts.length:Nat))∧st= {s:=si,next:=nxi,low:=lwi}) ?_ (ts.length) (by refine⟨0,_,_,_,.nilS,[],rfl,ω,hk,Gr.nil,rfl,(fun q h=>absurd h ψ),(fun q _ _=>rfl),(by intro l hl;simp (disch:=omega) only[z0h]),?_,?_,ω,Nat.zero_le _,?_,?_,?_,?_,?_,?_,?_,rfl⟩<;>simp (maxDischargeDepth:=60) only[w_len,w_8,w_9,w_10,w_g,w_w,LB,simprocAttr])
 rintro m env st ⟨i,nxi,lwi,si,xa,us,hm,i_0,i_1,i_2,i_3,i_4,i_5,i_6,w_ic0,w_ic1,w_ib,w_ilo,w_len,w_38,w_8,w_9,w_10,w_36,w_37,rfl⟩
 have w_iN:=aI (cf1 (x:=nxi) (a:=kg) ω) (cf1 (x:=nxi) (a:=kw) ω)
 have w_iS:=aI (cf2 (x:=nxi) ω w_ic0) (cf2 (x:=nxi) ω w_ic1)
 have w_iZ:=zf (x:=nxi) (b:=nx) (n:=4) ω ω
 have w_i_2V:=aI (i_2.away (j:=kg) ω) (i_2.away (j:=kw) ω)
 have w_i_2c:=i_2.cell.1
 have w_i_2d:=i_2.cell.2
 have w_i_2e:=i_2.beq
 by_cases hi:i<ts.length
 ·have hti:=hts _ (List.getElem_mem hi)
  obtain⟨t1,t2,t3,t4,t5⟩:=hti
  have hT1:GP si true S 2 2 true gt (ts.map TreeT.d):=hT.frame fun q hq=>i_5 q (hS q hq).1 (hS q hq).2
  obtain⟨kn,cs,tv,_,hkn,w_kc,hia,hcl,hct,htv⟩:=GP.treeAt hT1 hi t1
  obtain⟨t,ht⟩:∃t,t=ts[i]:=⟨_,rfl⟩
  rw[←ht] at hct htv t1 t2 t3 t4 t5
  obtain⟨g1,g2⟩:=hS _ hkn
  have hcl' : (i*2+2≤cs.length)=True:=eq_true hcl
  have w_vc:=htv.cell
  have w_vb:=htv.beq
  have w_kz: (nxi=kn)=False∧(∀q,(nxi+q=kn)=False):=⟨by simp;omega,fun q=>by simp;omega⟩
  simp only[hi,hia,hcl',hct,w_len,w_38,w_8,w_10,w_36,w_37,w_ic1,w_iN,w_kc,w_vc,↓LA,LB,simprocAttr]
  refine z0d (zpl (t:=t) (S:=S) hb (c:=200*i) ω t1 ω t3 ⟨t4,t5⟩ ω (i_1.frame (z00 ω) (Nat.le_refl _)) (fun q hq=>⟨by have:= (hS q hq).1;omega,(hS q hq).2⟩) (htv.frame fun q hq=>z00 (by have:= (hS q hq).1;omega))) fun v st hR' => ?_
  obtain⟨hn1,hf1,hS1,u,a,o,rfl,hu,hd⟩:=hR'
  obtain⟨s1,n1,l1⟩:=st
  have hn1:nxi+14≤n1:=hn1
  have hf1:∀q,q<nxi+14→q≠k→sget s1 q=sget ((nxi+3,Obj.cells [tv,V.d (D.int .i64 t.root)])::si) q:=hf1
  have hu:GP s1 false (Iv (nxi+14) n1) 1 2 true a (u.nodes.map NodeT.d):=hu
  have hf2:∀q,q<nxi→q≠k→sget s1 q=sget si q:=fun q g1 g2=> (hf1 q ω g2).trans (z00 ω)
  have hg1:Gr s1 false (kw+1) 2 nxi 2 true xa (us.map TreeT.d):=i_2.frame fun q h1 h2=>hf2 q ω ω
  have w_b0:= (hf2 kg ω ω).trans w_ic0
  have w_b1:= (hf2 kw ω ω).trans w_ic1
  have hua:=hu.cell
  have w_ua:=hua.1
  simp only[w_len,w_ic1,w_iN,w_i_2e,w_b1,w_ua,↓LA,LB,simprocAttr]
  refine z4h hg1 ?_ (z0c fun a=>z1t) z03 ?_ ?_ ?_ ?_ ?_ fun chc0 hc0=> ?_
  ·intro j h1 h2;simp (disch:=omega) only[z00]
  ·rfl
  ·omega
  ·simp;omega
  ·simp;omega
  ·simp only[List.all_cons,List.all_nil,zi4,w_ua,Bool.and_self]
  simp only[z07 hi ω,w_len,w_38,w_10,w_iN,w_i_2V,w_b1,↓LA,LB,simprocAttr]
  have hn3: (us++ [u]).map TreeT.d=us.map TreeT.d++ [u.d]:=by rw[List.map_append];rfl
  have hgr:∀s',(∀q,q≠kw→q≠nxi+11→q≠nxi+10→Go.Lift.away xa q→sget s' q=sget s1 q)→sget s' (nxi+11)=some (.cells (chc0++ [a,.d (.int .i64 u.root)]))→Gr s' false (kw+1) 2 (n1+2) 2 true (.arr (nxi+11) 2 true 0 ((us.map TreeT.d).length+1)) ((us++ [u]).map TreeT.d):=fun s' hs ho=>by
   rw[hn3]
   refine z57 hc0 (fun q hq ha=>hs q (by have:=hq.1;omega) (by have:=hq.2;omega) (by have:=hq.2;omega) ha) (fun q hq=>⟨hq.1,by have:=hq.2;omega⟩) ⟨ω,ω⟩ (fun e=>by have:=e.2;omega) ho rfl ⟨?_,CQ.int,trivial⟩
   have hfr:GP s' false (Iv (nxi+14) n1) 1 2 true a (u.nodes.map NodeT.d):=hu.frame fun q hq=>hs q (by have:=hq.1;omega) (by have:=hq.1;omega) (by have:=hq.1;omega) (hg1.away (.inr (by have:=hq.1;omega)))
   exact CQ.mono (fun q hq=>⟨⟨by have:=hq.1;omega,by have:=hq.2;omega⟩,by have:=hq.1;omega⟩) (hfr.cv ω (z0c fun a=>z62))
  have hdd:∀q (h:q< (us++ [u]).length) (h' :q<ts.length),∃o,Dbl ts[q] (us++ [u])[q] o:=fun q h h' =>by
   by_cases e:q<us.length
   ·rw[List.getElem_append_left e];exact i_4 q e h'
   ·have:q=i:=by simp at h;omega
    subst this
    refine⟨o,?_⟩
    have e2: (us++ [u])[q]=u:=by rw[List.getElem_append_right ω];simp[i_3]
    rw[e2,←ht];exact hd
  exact z09 (by refine⟨_,ω,i+1,_,_,_,.arr (nxi+11) 2 true 0 ((us.map TreeT.d).length+1),us++ [u],rfl,ω,hS1.frame (by simp (disch:=omega) only[z00,z01,z04 (hg1.away (j:=k) ω)]) ω,hgr _ (fun q g1 g2 g3 g4=>by simp (disch:=omega) only[z00,z01,z04 g4]) z03,(by simp[i_3]),hdd,(by intro q g1 g2;simp (disch:=omega) only[z00,z01,z04 (hg1.away (j:=q) ω)];exact (hf2 q ω g2).trans (i_5 q g1 g2)),(by intro l hl;simp (disch:=omega) only[z0h];exact i_6 l hl),?_,?_,ω,Nat.zero_le _,?_,?_,?_,?_,?_,?_,?_,rfl⟩<;>simp only[w_len,w_8,w_9,w_10,w_36,w_37,w_iN,w_i_2V,w_gz,w_b0,w_b1,LB,simprocAttr])
 ·have hie:i=ts.length:=ω
  simp only[hi,w_len,w_38,w_37,↓LA,LB,simprocAttr]
  refine hQ _ _ us xa ?_ ?_ ?_ i_5 w_ic0 w_ic1 (i_2.hi (by show nxi≤nxi+_;omega)) ω i_4
  ·simp only[w_len,LB,simprocAttr]
  ·intro l hl;simp (disch:=omega) only[z0h];exact i_6 l hl
  ·show nx≤nxi+_;omega
def zy2 (st:St):z06 T1.G (.fn 13 [] []) [.d (.int .i64 1)] st=some (.d (z3f 1).d,st):=by
 obtain⟨F,h1,h2,h3,h4⟩:=z5x (G:=T1.G) (m:=1000) (n:=100) (T:= []) all_nil (ds:= [.int .i64 1]) (rs:= [(z3f 1).d]) T1.g13 rfl rfl (by kernel_rfl)
 exact zak (ds:= [_]) (rs:= [_]) h1 h2 h3 h4
def zc2: (z3f 1).ok∧z43 (z3f 1):=by
 simp[RulesT.ok,y1y,LOk,RelT.ok,SOk,IOk,ClauseT.ok,zo4,PatT.ok,SsOk,z3f,z43,zbp,zly]
def z6c  (h:RulesM r):z43 r:=by
 have h3:=h.most
 have h8:=h.few
 refine⟨ω,ω,fun c hc=> ?_⟩
 obtain⟨⟨x,hx,e1,e2⟩,e3,e4,e5⟩:=h.cl c hc
 obtain⟨i,hi,rfl⟩:=List.mem_iff_getElem.1 hx
 have ha:= (h.rel i hi).2.1
 refine⟨⟨ω,fun p hp=> ?_⟩,⟨ω,fun a ha' => ?_⟩⟩
 ·obtain⟨q,q2,_,_⟩:=e3 p hp
  show p.vars.length≤1000000
  rcases q with⟨_,q⟩|⟨_,q⟩<;>omega
 ·obtain⟨⟨y,hy,f1,f2⟩,_⟩:=e5 a ha'
  obtain⟨j,hj,rfl⟩:=List.mem_iff_getElem.1 hy
  have hb:= (h.rel j hj).2.1
  show a.vars.length≤1000000
  omega
def zyd {q:RulesT} (hr:r.ok) (hq:q.ok) (h1:r.rels.length+q.rels.length≤8) (h2:r.clauses.length+q.clauses.length≤24): (z2d r q).ok:=by
 refine⟨⟨by unfold LOk;show (r.rels++q.rels).length≤_;rw[List.length_append];omega,fun x hx=> ?_⟩,by unfold LOk;show (r.clauses++q.clauses).length≤_;rw[List.length_append];omega,fun c hc=> ?_⟩
 ·rcases List.mem_append.1 hx with h|h
  ·exact hr.1.2 x h
  ·exact hq.1.2 x h
 ·rcases List.mem_append.1 hc with h|h
  ·exact hr.2.2 c h
  ·exact hq.2.2 c h
def z8x {s s' :Sto} :∀{n:Nat} {S:Nat→Prop} {v:V} {d:D},(∀q,S q→sget s' q=sget s q)→CZ s S n v d→CZ s' S n v d
 |0,_,_,_,_,h=>h
 |n+1,S,v,d,hs,h=>by
  refine h.imp id fun h=>h.imp id ?_
  rintro⟨k,es,ag,ds,e1,e2,e3,e4,e5,e6⟩
  refine⟨k,es,ag,ds,e1,e2,e3,e4,e5,?_⟩
  rw[hs k e3]
  exact e6.imp (fun⟨cs,f1,f2⟩=>⟨cs,f1,f2.imp fun v d h=>z8x (fun q hq=>hs q hq.1) h⟩) id
def Sq3 (kg kw nB:Nat) (q:Nat):Prop:=q<nB∧q≠6∧q≠kg∧q≠kw
structure Alw (r:RulesT) (g w:GoalT) (a b gt xa:V) (kg kw nB:Nat) (s:Sto):Prop where
 c6:sget s 6=some (.cells [a,b])
 cg:sget s kg=some (.cells [.d (.str g.rel),gt])
 cw:sget s kw=some (.cells [.d (.str w.rel),xa])
 a:CZ s (Sq3 kg kw nB) 9 a (.sl (r.rels.map RelT.d))
 b:CZ s (Sq3 kg kw nB) 9 b (.sl (r.clauses.map ClauseT.d))
 g:CZ s (Sq3 kg kw nB) 9 gt (.sl (g.args.map TreeT.d))
 w:CZ s (Sq3 kg kw nB) 9 xa (.sl (w.args.map TreeT.d))
theorem Alw.step     {s':Sto} (h:Alw r g w a b gt xa kg kw nB s) (hs:Fz1 (Sq3 kg kw nB) s s'):Alw r g w a b gt xa kg kw nB s' :=⟨(hs.2 _ (fun e=>e.2.1 rfl)).trans h.c6,(hs.2 _ (fun e=>e.2.2.1 rfl)).trans h.cg,(hs.2 _ (fun e=>e.2.2.2 rfl)).trans h.cw,hs.1 _ _ _ _ h.a,hs.1 _ _ _ _ h.b,hs.1 _ _ _ _ h.g,hs.1 _ _ _ _ h.w⟩
def Alw.frame     {s':Sto} (h:Alw r g w a b gt xa kg kw nB s) (hk:6<nB∧kg<nB∧kw<nB) (hs:∀q,q<nB→sget s' q=sget s q):Alw r g w a b gt xa kg kw nB s' :=⟨(hs _ hk.1).trans h.c6,(hs _ hk.2.1).trans h.cg,(hs _ hk.2.2).trans h.cw,z8x (fun q hq=>hs q hq.1) h.a,z8x (fun q hq=>hs q hq.1) h.b,z8x (fun q hq=>hs q hq.1) h.g,z8x (fun q hq=>hs q hq.1) h.w⟩
theorem Alw.ar      (h:Alw r g w a b gt xa kg kw nB s):AZ s (Sq3 kg kw nB) (mkAgg [a,b]) r.d:=
 .inr ⟨[a,b],[.sl (r.rels.map RelT.d),.sl (r.clauses.map ClauseT.d)],rfl,rfl,⟨h.a,h.b,trivial⟩,rfl⟩
theorem Alw.ag      (h:Alw r g w a b gt xa kg kw nB s):AZ s (Sq3 kg kw nB) (mkAgg [.d (.str g.rel),gt]) g.d:=
 .inr ⟨[.d (.str g.rel),gt],[.str g.rel,.sl (g.args.map TreeT.d)],rfl,rfl,⟨CZ.ofD,h.g,trivial⟩,rfl⟩
theorem Alw.aw      (h:Alw r g w a b gt xa kg kw nB s):AZ s (Sq3 kg kw nB) (mkAgg [.d (.str w.rel),xa]) w.d:=
 .inr ⟨[.d (.str w.rel),xa],[.str w.rel,.sl (w.args.map TreeT.d)],rfl,rfl,⟨CZ.ofD,h.w,trivial⟩,rfl⟩
def y04  (hrm:RulesM r)  (hgk:g.ok) (hsp:z0q r g=0)  (hG:Goals r (z1c g) L) (hAw:∀st,z06 G (.fn 14 [] []) [] st=some (.d (.bool true),st))
   {lw:Nat}   (hks:6<kg∧kg<kw∧kw<nB∧nB≤nx) (hA:Alw r g w a b gt xa kg kw nB s) (w_ab:V.beq a a=true∧V.beq b b=true)
  (w_len:E.length=147) (w_7:E.getD 7 .undef= .ptr 6 0) (w_9:E.getD 9 .undef= .ptr kg 0) (w_13:E.getD 13 .undef= .d (.bool (z6k r L))):
  PC (z0j (z06 G) z0g none T1.q3_112 E {s:=s,next:=nx,low:=lw}) (RP [.t 6] [.bool true]) .mk:=by
 have hrk:=zbh hrm
 have hB:=zvk hrm
 have hrg:=z84 hgk hsp
 have hx0:∀a b:V,[a,b][0]?=some a:=fun _ _=>rfl
 have hx1:∀a b:V,[a,b][1]?=some b:=fun _ _=>rfl
 obtain⟨f1,f2⟩:=hB.few
 have hjk:=zyd hrk zc2.1 f1 f2
 have hL1:=fun st=>zy2 st
 have hJ1:=fun st=>zlu hrk zc2.1 (z6c hrm) zc2.2 hB.r0 hB.q0 (fun _=>hB.few) st
 rw[hB.join] at hJ1
 have hJ2:=fun st=>zlu hrk hrk (z6c hrm) (z6c hrm) hB.r0 hB.r0 (fun e=>by rw[zed hrm] at e;cases e) st
 rw[ztk hrm] at hJ2
 obtain⟨rs,hP,hD⟩:=zcu hjk hgk
 have hrs:=z9j hP (hB.goal hsp) (hB.goals hrg hG)
 rw[hB.holds hrg hG] at hrs
 subst hrs
 have w_6:=hA.c6
 have w_g:=hA.cg
 have w_z: (nx+6=6)=False∧(nx+6=kg)=False∧(6=nx+6)=False∧(kg=nx+6)=False:=⟨by simp;omega,by simp;omega,by simp;omega,by simp;omega⟩
 obtain⟨R,hR⟩:∃R:IC,R=T1.q3_118:=⟨_,rfl⟩
 unfold T1.q3_112
 rw[←hR]
 simp only[hL1,w_len,w_7,w_6,w_ab,↓LA,LB,simprocAttr]
 refine z0d (z2u (nx:=nx+9) T1.g12 rfl rfl (vs:= [mkAgg [a,b],.d (z3f 1).d]) (ds:= [r.d,(z3f 1).d]) (rs:= [(z2d r (z3f 1)).d,.int .i64 0]) (S:=Sq3 kg kw nB) (s:=s) ⟨hA.ar,AZ.ofD,trivial⟩ (hJ1 _)) fun v st hR1=> ?_
 obtain⟨rfl,hn1,hz1⟩:=hR1
 obtain⟨s1,n1,lw1⟩:=st
 have hn1:n1=nx+9:=hn1
 subst hn1
 have hz1:Fz1 (Sq3 kg kw nB) s s1:=hz1
 have hA1:=hA.step hz1
 have w_16:=hA1.c6
 have w_1g:=hA1.cg
 simp only[List.map_cons,List.map_nil,tupV,hx0,hx1,RulesT.d,w_len,↓LA,LB,simprocAttr]
 obtain⟨s2,hs2⟩:∃s2,s2= (nx+6,Obj.cells [V.d (.sl ((z2d r (z3f 1)).rels.map RelT.d)),V.d (.sl ((z2d r (z3f 1)).clauses.map ClauseT.d))])::s1:=⟨_,rfl⟩
 have hA2:Alw r g w a b gt xa kg kw nB s2:=hA1.frame ⟨ω,ω,ω⟩ fun q hq=>by rw[hs2];exact z00 ω
 have w_2j:sget s2 (nx+6)=some (.cells [V.d (.sl ((z2d r (z3f 1)).rels.map RelT.d)),V.d (.sl ((z2d r (z3f 1)).clauses.map ClauseT.d))]):=by rw[hs2];exact z03
 have w_26:=hA2.c6
 have w_2g:=hA2.cg
 rw[←hs2,hR]
 obtain⟨R',hR'⟩:∃R:IC,R=T1.q3_124:=⟨_,rfl⟩
 unfold T1.q3_118
 rw[←hR']
 simp only[w_len,w_9,w_2j,w_2g,↓LA,LB,simprocAttr]
 refine z0d (z2u (nx:=nx+17) T1.g8 rfl rfl (vs:= [.d (z2d r (z3f 1)).d,mkAgg [.d (.str g.rel),gt]]) (ds:= [(z2d r (z3f 1)).d,g.d]) (S:=Sq3 kg kw nB) (s:=s2) ⟨AZ.ofD,hA2.ag,trivial⟩ (hD _)) fun v st hR1=> ?_
 obtain⟨rfl,hn3,hz3⟩:=hR1
 obtain⟨s3,n3,lw3⟩:=st
 have hn3:n3=nx+17:=hn3
 subst hn3
 have hz3:Fz1 (Sq3 kg kw nB) s2 s3:=hz3
 have hA3:=hA2.step hz3
 have w_36:=hA3.c6
 simp only[List.map_cons,List.map_nil,tupV,hx0,hx1,w_len,↓LA,LB,simprocAttr]
 rw[hR']
 obtain⟨R3,hR3⟩:∃R:IC,R=T1.q3_129:=⟨_,rfl⟩
 unfold T1.q3_124
 rw[←hR3]
 simp only[w_len,w_7,w_36,↓LA,LB,simprocAttr]
 refine z0d (z2u (nx:=nx+24) T1.g12 rfl rfl (vs:= [mkAgg [a,b],mkAgg [a,b]]) (ds:= [r.d,r.d]) (rs:= [noRules.d,.int .i64 5]) (S:=Sq3 kg kw nB) (s:=s3) ⟨hA3.ar,hA3.ar,trivial⟩ (hJ2 _)) fun v st hR1=> ?_
 obtain⟨rfl,hn4,hz4⟩:=hR1
 obtain⟨s4,n4,lw4⟩:=st
 have hn4:n4=nx+24:=hn4
 subst hn4
 simp only[List.map_cons,List.map_nil,tupV,hx0,hx1,w_len,↓LA,LB,simprocAttr]
 rw[hR3]
 have heq:∀x:Bool,V.beq (V.d (.bool x)) (V.d (.bool x))=true:=fun x=>by simp[V.beq,D.beq]
 unfold T1.q3_129
 have hbb: (z6k r L==z6k r L)=true:=beq_self_eq_true _
 simp only[hAw,hbb,w_len,w_13,↓LA,LB,simprocAttr]
 exact rq1 (by rfl)
def z9z   {rs:Ld} (h:zj6 r g rs) (h0:z0q r g=0)  (hL:Goals r (z1c g) L):rs= [.sl (L.map GoalT.d),.int .i64 0]:=by
 rcases h with⟨h1,_⟩|⟨_,h1,_⟩|⟨_,M,h1,h2⟩
 ·exact absurd h0 h1
 ·exact absurd h1 (zce hL)
 ·rw[zeb hL h1];exact h2
def zyp   {rs:Ld} (h:zj6 r g rs) (h0:z0q r g=0) (h1:¬zj5 r (z1c g)):∃L,Goals r (z1c g) L:=by
 rcases h with⟨h2,_⟩|⟨_,h2,_⟩|⟨_,M,h2,_⟩
 ·exact absurd h0 h2
 ·exact absurd h2 h1
 ·exact⟨M,h2⟩
def zd5  :D.beqL (L.map GoalT.d) (L.map GoalT.d)=true:=by
 exact D.beqL_refl _
def y53  (hrm:RulesM r)  (hgk:g.ok) (hsp:z0q r g=0) (hwk:w.ok) (hwp:z0q r w=0) (hgw:z1c w=z1c g) (hng:¬zj5 r (z1c g)) (hAw:∀st,z06 G (.fn 14 [] []) [] st=some (.d (.bool true),st))
   {lw:Nat}   (hks:6<kg∧kg<kw∧kw<nB∧nB≤nx) (hA:Alw r g w a b gt xa kg kw nB s) (w_ab:V.beq a a=true∧V.beq b b=true)
  (w_len:E.length=147) (w_7:E.getD 7 .undef= .ptr 6 0) (w_9:E.getD 9 .undef= .ptr kg 0) (w_10:E.getD 10 .undef= .ptr kw 0):
  PC (z0j (z06 G) z0g none T1.q3_52 E {s:=s,next:=nx,low:=lw}) (RP [.t 6] [.bool true]) .mk:=by
 have hrk:=zbh hrm
 have hrg:=z84 hgk hsp
 have hx0:∀a b:V,[a,b][0]?=some a:=fun _ _=>rfl
 have hx1:∀a b:V,[a,b][1]?=some b:=fun _ _=>rfl
 obtain⟨rl,hPl,hGl⟩:=zha hrk hgk
 obtain⟨L,hG⟩:=zyp hPl hsp hng
 have hrl:=z9z hPl hsp hG
 subst hrl
 obtain⟨rk,hPk,hGk⟩:=zha hrk hwk
 have hrk2:=z9z hPk hwp (by rw[hgw];exact hG)
 subst hrk2
 obtain⟨ra,hPa,hDa⟩:=zcu hrk hgk
 have hra:=z9j hPa hsp hG
 subst hra
 obtain⟨rb,hPb,hDb⟩:=zcu hrk hwk
 have hrb:=z9j hPb hwp (by rw[hgw];exact hG)
 subst hrb
 obtain⟨hL0,hLf⟩:=hG.first
 have hm300:=hG.most
 have hLk:∀x∈L,x.ok:=fun x hx=> (hG.rg hrg x hx).ok hrk
 have hsame:zoh g w=true:=by
  obtain⟨_,_,_,_,e1⟩:=z1y hsp
  obtain⟨_,_,_,_,e2⟩:=z1y hwp
  simp[zoh,e1,e2,hgw]
 have hSG:=fun st=>zh5 (y:=L) (show LOk L by unfold LOk;omega) hLk st
 rw[zd5] at hSG
 have heq:∀x:Bool,V.beq (V.d (.bool x)) (V.d (.bool x))=true:=fun x=>by simp[V.beq,D.beq]
 have hbb: (z6k r L==z6k r L)=true:=beq_self_eq_true _
 have hl0: ((L.length:Int)=0)=False:=eq_false ω
 have w_6:=hA.c6
 have w_g:=hA.cg
 have w_w:=hA.cw
 obtain⟨R1,hR1⟩:∃R:IC,R=T1.q3_58:=⟨_,rfl⟩
 unfold T1.q3_52
 rw[←hR1]
 simp (maxDischargeDepth:=60) only[w_len,w_7,w_9,w_6,w_g,↓LA,LB,simprocAttr]
 refine z0d (z2u (nx:=nx+8) T1.g8 rfl rfl (vs:= [mkAgg [a,b],mkAgg [.d (.str g.rel),gt]]) (ds:= [r.d,g.d]) (S:=Sq3 kg kw nB) (s:=s) ⟨hA.ar,hA.ag,trivial⟩ (hDa _)) fun v st hR' => ?_
 obtain⟨rfl,hn1,hz1⟩:=hR'
 obtain⟨s1,n1,lw1⟩:=st
 have hn1:n1=nx+8:=hn1
 subst hn1
 have hz1:Fz1 (Sq3 kg kw nB) s s1:=hz1
 have hA1:=hA.step hz1
 have w_16:=hA1.c6
 have w_1w:=hA1.cw
 simp (maxDischargeDepth:=60) only[List.map_cons,List.map_nil,tupV,hx0,hx1,w_len,↓LA,LB,simprocAttr]
 rw[hR1]
 obtain⟨R2,hR2⟩:∃R:IC,R=T1.q3_64:=⟨_,rfl⟩
 unfold T1.q3_58
 rw[←hR2]
 simp (maxDischargeDepth:=60) only[w_len,w_7,w_10,w_16,w_1w,↓LA,LB,simprocAttr]
 refine z0d (z2u (nx:=nx+16) T1.g8 rfl rfl (vs:= [mkAgg [a,b],mkAgg [.d (.str w.rel),xa]]) (ds:= [r.d,w.d]) (S:=Sq3 kg kw nB) (s:=s1) ⟨hA1.ar,hA1.aw,trivial⟩ (hDb _)) fun v st hR' => ?_
 obtain⟨rfl,hn2,hz2⟩:=hR'
 obtain⟨s2,n2,lw2⟩:=st
 have hn2:n2=nx+16:=hn2
 subst hn2
 have hz2:Fz1 (Sq3 kg kw nB) s1 s2:=hz2
 have hA2:=hA1.step hz2
 have w_26:=hA2.c6
 have w_2g:=hA2.cg
 simp (maxDischargeDepth:=60) only[List.map_cons,List.map_nil,tupV,hx0,hx1,w_len,↓LA,LB,simprocAttr]
 rw[hR2]
 obtain⟨R3,hR3⟩:∃R:IC,R=T1.q3_70:=⟨_,rfl⟩
 unfold T1.q3_64
 rw[←hR3]
 simp (maxDischargeDepth:=60) only[w_len,w_7,w_9,w_26,w_2g,↓LA,LB,simprocAttr]
 refine z0d (z2u (nx:=nx+24) T1.g9 rfl rfl (vs:= [mkAgg [a,b],mkAgg [.d (.str g.rel),gt]]) (ds:= [r.d,g.d]) (S:=Sq3 kg kw nB) (s:=s2) ⟨hA2.ar,hA2.ag,trivial⟩ (hGl _)) fun v st hR' => ?_
 obtain⟨rfl,hn3,hz3⟩:=hR'
 obtain⟨s3,n3,lw3⟩:=st
 have hn3:n3=nx+24:=hn3
 subst hn3
 have hz3:Fz1 (Sq3 kg kw nB) s2 s3:=hz3
 have hA3:=hA2.step hz3
 have w_36:=hA3.c6
 have w_3w:=hA3.cw
 simp (maxDischargeDepth:=60) only[List.map_cons,List.map_nil,tupV,hx0,hx1,w_len,↓LA,LB,simprocAttr]
 rw[hR3]
 obtain⟨R4,hR4⟩:∃R:IC,R=T1.q3_75:=⟨_,rfl⟩
 unfold T1.q3_70
 rw[←hR4]
 simp (maxDischargeDepth:=60) only[w_len,w_7,w_10,w_36,w_3w,↓LA,LB,simprocAttr]
 refine z0d (z2u (nx:=nx+32) T1.g9 rfl rfl (vs:= [mkAgg [a,b],mkAgg [.d (.str w.rel),xa]]) (ds:= [r.d,w.d]) (S:=Sq3 kg kw nB) (s:=s3) ⟨hA3.ar,hA3.aw,trivial⟩ (hGk _)) fun v st hR' => ?_
 obtain⟨rfl,hn4,hz4⟩:=hR'
 obtain⟨s4,n4,lw4⟩:=st
 have hn4:n4=nx+32:=hn4
 subst hn4
 have hz4:Fz1 (Sq3 kg kw nB) s3 s4:=hz4
 have hA4:=hA3.step hz4
 have w_4g:=hA4.cg
 have w_4w:=hA4.cw
 simp (maxDischargeDepth:=60) only[List.map_cons,List.map_nil,tupV,hx0,hx1,w_len,↓LA,LB,simprocAttr]
 rw[hR4]
 obtain⟨R5,hR5⟩:∃R:IC,R=T1.q3_112:=⟨_,rfl⟩
 unfold T1.q3_75
 rw[←hR5]
 simp (maxDischargeDepth:=60) only[hbb,w_len,w_9,w_10,w_4g,w_4w,↓LA,LB,simprocAttr]
 have hpz:=z2u (nx:=nx+68) (lw:=lw4) T1.g10 rfl rfl (vs:= [mkAgg [.d (.str g.rel),gt],mkAgg [.d (.str w.rel),xa]]) (ds:= [g.d,w.d]) (rs:= [.bool (zoh g w)]) (S:=Sq3 kg kw nB) (s:=s4) ⟨hA4.ag,hA4.aw,trivial⟩ (zx8 hgk hwk _)
 rw[hsame] at hpz
 refine z0d hpz fun v st hR' => ?_
 obtain⟨rfl,hn5,hz5⟩:=hR'
 obtain⟨s5,n5,lw5⟩:=st
 have hn5:n5=nx+68:=hn5
 subst hn5
 have hz5:Fz1 (Sq3 kg kw nB) s4 s5:=hz5
 have hA5:=hA4.step hz5
 simp (maxDischargeDepth:=60) only[List.map_cons,List.map_nil,tupV,hSG,hl0,List.length_map,w_len,↓LA,LB,simprocAttr]
 rw[hR5]
 exact y04 hrm hgk hsp hG hAw (kg:=kg) (kw:=kw) (nB:=nB) (w:=w) ⟨ω,ω,ω,ω⟩ hA5 w_ab (by simp (maxDischargeDepth:=60) only[w_len,LB,simprocAttr]) (by simp (maxDischargeDepth:=60) only[w_7,LB,simprocAttr]) (by simp (maxDischargeDepth:=60) only[w_9,LB,simprocAttr]) (by simp (maxDischargeDepth:=60) only[w_len,LB,simprocAttr])
end Go.Lift.K
namespace Go.Lift.K
open Go Go.Lift
variable{k pc c nx lw i:Nat}{bs:Li}{s sO:Sto}{rel:Ln}{xw xv:V}{ps:List PatT}{vs:List (List Nat)}{E:Lv}{Q:Ex→List V→St→Prop}
def hdsC:List V:= [.d (.str [97]),.d (.str [110,105,108]),.d (.str [115]),.d (.str [117]),.d (.str [99,111,110,115]),.d (.str [112])]
def y78 {kk r:Nat} (hk:kk<3) (hr:r<2):∃nm,(hdsC.drop (kk*2+r)).take 1= [.d (.str nm)]∧z0z nm=true∧nm.length≤8∧(∀c∈nm,c<256):=by
 have h1:kk=0∨kk=1∨kk=2:=ω
 have h2:r=0∨r=1:=ω
 rcases h1 with rfl|rfl|rfl<;>rcases h2 with rfl|rfl
 ·exact⟨[97],rfl,by decide,by decide,by decide⟩
 ·exact⟨[110,105,108],rfl,by decide,by decide,by decide⟩
 ·exact⟨[115],rfl,by decide,by decide,by decide⟩
 ·exact⟨[117],rfl,by decide,by decide,by decide⟩
 ·exact⟨[99,111,110,115],rfl,by decide,by decide,by decide⟩
 ·exact⟨[112],rfl,by decide,by decide,by decide⟩
def y91 {h kk:Nat} (hk:kk<3):z1i 3 2 (.ptr h 0) (kk:Int)=some (.ptr h (kk*2)):=by
 simp only[z1i]
 rw[if_pos ⟨ω,ω⟩]
 simp
def y92 {h o r:Nat} (hr:r<2):z1i 2 1 (.ptr h o) (r:Int)=some (.ptr h (o+r)):=by
 simp only[z1i]
 rw[if_pos ⟨ω,ω⟩]
 simp
def HeadS.toVar {pp c' nx' lw':Nat}  {s':Sto} {nm:Ln}    (h:HeadS k pc bs sO c rel xw xv ps vs s nx lw) (hkp:k<pc)
  (hs:∀q,q<nx→q≠k→sget s' q=sget s q) (hsk:Sk s' k bs c') (hpp:nx≤pp) (hp:sget s' pp=some (.cells [.d (.str nm),.nilS])) (hn:pp<nx') (hl:k≤lw'):VarS k pc pp bs sO c' rel nm xw .nilS xv ps [] vs s' nx' lw' :=by
 obtain⟨h1,h2,h3,h4,h5,h6,h7⟩:=h
 refine⟨hsk,(hs pc ω ω).trans h2,hp,GP.nil,(h4.frame fun q hq=>hs q hq.2.1 ω).mono fun q hq=>⟨hq.1,ω,by have:=hq.2.1;show ¬_=_;omega,hq.2.2⟩,(h3.frame fun q hq=>hs q hq.2.1 ω).mono fun q hq=>⟨hq.1,ω,hq.2.2⟩,fun q g1 g2=> (hs q ω g2).trans (h5 q g1 g2),hl,hn⟩
def y67  (hb:LOk bs) {hh ar:Nat}        (hkp:k<pc) (hhp:hh<pc) (hhk:hh≠k) (hhd:sget sO hh=some (.cells hdsC)) (hc:c≤300000) (hvl:vs.length+2≤4) (hvm:∀v∈vs,VarM v) (hpl:ps.length≤9) (hi:i<ar) (har:ar≤1000)
  (w_len:E.length=171) (w_0:E.getD 0 .undef= .ptr k 0) (w_9:E.getD 9 .undef= .ptr hh 0) (w_11:E.getD 11 .undef= .ptr pc 0) (w_12:E.getD 12 .undef=xv) (w_62:E.getD 62 .undef= .d (.int .i64 (ar:Nat))) (w_63:E.getD 63 .undef= .d (.int .i64 (i:Nat)))
  (h:HeadS k pc bs sO c rel xw xv ps vs s nx lw)
  (hQ:∀e st xw' xv' p,e.length=171→(∀l,(l<12∨16≤l)→l<63→e.getD l .undef=E.getD l .undef)→e.getD 12 .undef=xv' →e.getD 63 .undef= .d (.int .i64 ((i+1:Nat):Int))→PatM p→HeadS k pc bs sO (c+5) rel xw' xv' (ps++ [p]) (vs++p.vars) st.s st.next st.low→nx≤st.next→Q .nrm e st):
  PC (z0j (z06 G) z0g none T1.q4_64 E {s:=s,next:=nx,low:=lw}) Q .mk:=by
 have hlw0:=h.lw
 have hnx0:=h.nx
 have hhd2:sget s hh=some (.cells hdsC):= (h.fr hh hhp hhk).trans hhd
 obtain⟨R,hR⟩:∃R:IC,R=T1.q4_77:=⟨_,rfl⟩
 unfold T1.q4_64
 rw[←hR]
 simp only[hi,w_len,w_0,w_62,w_63,↓LA,LB,simprocAttr]
 refine z0d (z1u hb (n:=4) ω ω ω ω h.sk) fun v st hD=> ?_
 obtain⟨⟨kk,hkk,rfl⟩,hn1,hf1,hS1,hl1⟩:=hD
 obtain⟨s1,n1,l1⟩:=st
 have hn1:nx+_≤n1:=hn1
 have hf1:∀q,q<nx→q≠k→sget s1 q=sget s q:=fun q g1 g2=>hf1 q (Nat.lt_of_lt_of_le g1 (Nat.le_add_right _ _)) g2
 have k1:k≤l1:=hl1 k hlw0 (Nat.le_refl _)
 by_cases h3:kk<3
 ·have hlt: ((kk:Int)<3)=True:=eq_true ω
  simp only[hlt,y91 h3,w_len,w_0,w_9,↓LA,LB,simprocAttr]
  refine z0d (z1u hb (n:=2) ω ω ω ω (hS1.frame (z00 ω) (Nat.le_refl _))) fun v st hD=> ?_
  obtain⟨⟨r,hr,rfl⟩,hn2,hf2,hS2,hl2⟩:=hD
  obtain⟨s2,n2,l2⟩:=st
  have hn2:n1+13≤n2:=hn2
  have hf2:∀q,q<n1+13→q≠k→sget s2 q=sget ((n1+1,Obj.cells [V.d (.str []),V.nilS])::s1) q:=hf2
  have k2:k≤l2:=hl2 k (by repeat' (first|omega|refine z02 ?_ ?_)) (Nat.le_refl _)
  obtain⟨nm,ha1,ha2,ha3,ha4⟩:=y78 h3 hr
  have w_pp:sget s2 (n1+1)=some (.cells [.d (.str []),.nilS]):= (hf2 _ ω ω).trans z03
  have w_hh:sget s2 hh=some (.cells hdsC):= (hf2 _ ω hhk).trans ((z00 ω).trans ((hf1 _ ω hhk).trans hhd2))
  have hle: (kk*2+ (r+1)≤hdsC.length)=True:=eq_true (by show _≤6;omega)
  simp only[y92 hr,hle,ha1,w_len,w_pp,w_hh,↓LA,LB,simprocAttr]
  rw[hR]
  have hfr:∀q,q<nx→q≠k→sget (sset s2 (n1+1) (.cells [.d (.str nm),.nilS])) q=sget s q:=fun q g1 g2=>by rw[z01 ω,hf2 q ω g2,z00 ω];exact hf1 q g1 g2
  refine zqd hb hkp (pp:=n1+1) ω (c:=c+2) ω (K:=kk) ω hvm ω (nm:=nm) (by simp only[w_len,LB,simprocAttr]) (by simp only[w_0,LB,simprocAttr]) (by simp only[w_11,LB,simprocAttr]) (by simp only[w_12,LB,simprocAttr]) (by simp only[w_len,LB,simprocAttr]) (by simp only[w_len,LB,simprocAttr]) (h.toVar hkp hfr (hS2.frame (z01 ω) (Nat.le_refl _)) ω (z05 w_pp) ω (by repeat' (first|omega|refine z02 ?_ ?_))) ?_
  intro e st xw' xv' us w_len hE w_12 hul huv hH hn3
  obtain⟨s3,n3,l3⟩:=st
  have hn3:n2≤n3:=by first|exact hn3|exact Nat.le_trans (Nat.le_add_right _ _) hn3
  have w_63:e.getD 63 .undef= .d (.int .i64 i):= (hE 63 ω ω ω).trans (by simp only[w_63,LB,simprocAttr])
  simp only[z07 hi ω,w_len,w_63,↓LA,LB,simprocAttr]
  refine hQ _ _ xw' xv' ⟨nm,us⟩ (by simp only[w_len,LB,simprocAttr]) (by intro l g1 g2;simp (disch:=omega) only[z0h];rw[hE l ω ω ω];simp (disch:=omega) only[z0h]) (by simp only[w_12,LB,simprocAttr]) (by simp only[w_len,LB,simprocAttr];try rfl) ⟨.inr ⟨ha2,by show us.length≤2;omega⟩,ha3,ha4,huv⟩ ?_ (by show nx≤n3+_;omega)
  exact⟨hH.sk.frame rfl ω,hH.pcl,hH.w.mono fun q g=>⟨g.1,by have:q<n3:=g.2.1;show q<n3+_;omega,g.2.2⟩,hH.v.mono fun q g=>⟨g.1,by have:q<n3:=g.2.1;show q<n3+_;omega,g.2.2⟩,hH.fr,hH.lw,by have:pc<n3:=hH.nx;show pc<n3+_;omega⟩
 ·have hlt: ((kk:Int)<3)=False:=eq_false ω
  simp only[hlt,w_len,↓LA,LB,simprocAttr]
  rw[hR]
  have hfr:∀q,q<nx→q≠k→sget ((n1+1,Obj.cells [V.d (D.str []),V.nilS])::s1) q=sget s q:=fun q g1 g2=>by rw[z00 ω];exact hf1 q g1 g2
  refine zqd hb hkp (pp:=n1+1) ω (c:=c+2) ω (K:=1) ω hvm ω (nm:= []) (by simp only[w_len,LB,simprocAttr]) (by simp only[w_0,LB,simprocAttr]) (by simp only[w_11,LB,simprocAttr]) (by simp only[w_12,LB,simprocAttr]) (by simp only[w_len,LB,simprocAttr];try rfl) (by simp only[w_len,LB,simprocAttr]) (h.toVar hkp hfr (hS1.frame (z00 ω) ω) ω z03 ω (by repeat' (first|omega|refine z02 ?_ ?_))) ?_
  intro e st xw' xv' us w_len hE w_12 hul huv hH hn3
  obtain⟨s3,n3,l3⟩:=st
  have hn3:n1≤n3:=by first|exact hn3|exact Nat.le_trans (Nat.le_add_right _ _) hn3
  have w_63:e.getD 63 .undef= .d (.int .i64 i):= (hE 63 ω ω ω).trans (by simp only[w_63,LB,simprocAttr])
  simp only[z07 hi ω,w_len,w_63,↓LA,LB,simprocAttr]
  refine hQ _ _ xw' xv' ⟨[],us⟩ (by simp only[w_len,LB,simprocAttr]) (by intro l g1 g2;simp (disch:=omega) only[z0h];rw[hE l ω ω ω];simp (disch:=omega) only[z0h]) (by simp only[w_12,LB,simprocAttr]) (by simp only[w_len,LB,simprocAttr];try rfl) ⟨.inl ⟨rfl,by show us.length=1;omega⟩,by simp,by simp,huv⟩ ?_ (by show nx≤n3+_;omega)
  exact⟨hH.sk.frame rfl ω,hH.pcl,hH.w.mono fun q g=>⟨g.1,by have:q<n3:=g.2.1;show q<n3+_;omega,g.2.2⟩,hH.v.mono fun q g=>⟨g.1,by have:q<n3:=g.2.1;show q<n3+_;omega,g.2.2⟩,hH.fr,hH.lw,by have:pc<n3:=hH.nx;show pc<n3+_;omega⟩
structure BodyS (k pc n0:Nat) (bs:List Int) (sO:Sto) (c:Nat) (rel:List Nat) (xw xv xb:V) (ps:List PatT) (vs:List (List Nat)) (as:List PatT) (s:Sto) (nx lw:Nat):Prop where
 sk:Sk s k bs c
 pcl:sget s pc=some (.cells [.d (.str rel),xw,xb])
 w:GP s false (fun q=>pc+1≤q∧q<n0∧away xv q) 1 2 true xw (ps.map PatT.d)
 v:GP s false (fun q=>pc+1≤q∧q<n0∧¬away xv q) 0 1 false xv (vs.map D.str)
 b:Gr s false n0 1 nx 2 true xb (as.map PatT.d)
 fr:∀q,q<pc→q≠k→sget s q=sget sO q
 lw:k≤lw
 nx:pc<n0∧n0≤nx
def BodyS.step {n0 c' nx' lw':Nat}  {s':Sto}  {xb:V} {as:List PatT}  (h:BodyS k pc n0 bs sO c rel xw xv xb ps vs as s nx lw) (hkp:k<pc)
  (hs:∀q,q<nx→q≠k→sget s' q=sget s q) (hsk:Sk s' k bs c') (hn:nx≤nx') (hl:k≤lw'):BodyS k pc n0 bs sO c' rel xw xv xb ps vs as s' nx' lw' :=by
 obtain⟨h1,h2,h3,h4,h5,h6,h7,h8,h9⟩:=h
 exact⟨hsk,(hs pc ω ω).trans h2,h3.frame fun q hq=>hs q ω ω,h4.frame fun q hq=>hs q ω ω,(h5.frame fun q g1 g2=>hs q g2 ω).hi hn,fun q g1 g2=> (hs q ω g2).trans (h6 q g1 g2),hl,h8,ω⟩
def HeadS.toBody        (h:HeadS k pc bs sO c rel xw xv ps vs s nx lw):BodyS k pc nx bs sO c rel xw xv .nilS ps vs [] s nx lw:=⟨h.sk,h.pcl,h.w,h.v,Gr.nil,h.fr,h.lw,h.nx,Nat.le_refl _⟩
def y4w  (hb:LOk bs) {z kr n0 nb:Nat}    {xc xb:V} {as:List PatT}  {cs:Lv} {rs:List RelT} 
  (hkp:k<pc) (hzk:k<z∧z+1<pc∧kr<pc∧kr≠k∧kr≠z+1) (hz1:sget sO (z+1)=some (.cells [.arr kr 3 true 0 rs.length,xc])) (hkr:sget sO kr=some (.cells cs)) (hxc:V.beq xc xc=true)
  (hat:∀j (hj:j<rs.length),z08 3 (.arr kr 3 true 0 rs.length) (j:Int)=some (.ptr kr (j*3))∧(j*3+3≤cs.length)=True∧(cs.drop (j*3)).take 3= [.d (.str rs[j].name),.d (.int .i64 rs[j].arity),.d (.int .i64 rs[j].rank)])
  (hr0:0<rs.length) (hr1:rs.length≤3) (hrm:∀j (h:j<rs.length),RelM j rs[j]) (hvs:∀v∈vs,∃p∈ps,v∈p.vars) (hvl:vs.length≤4) (hal:as.length≤9) (hi:i<nb) (hnb:nb≤1000) (hc:c≤300000)
  (w_len:E.length=171) (w_0:E.getD 0 .undef= .ptr k 0) (w_7:E.getD 7 .undef= .ptr (z+1) 0) (w_11:E.getD 11 .undef= .ptr pc 0) (w_12:E.getD 12 .undef=xv) (w_115:E.getD 115 .undef= .d (.int .i64 (nb:Nat))) (w_116:E.getD 116 .undef= .d (.int .i64 (i:Nat)))
  (h:BodyS k pc n0 bs sO c rel xw xv xb ps vs as s nx lw)
  (hQ:∀e st xb' as',e.length=171→(∀l,(l<16∨18≤l)→l<116→e.getD l .undef=E.getD l .undef)→e.getD 116 .undef= .d (.int .i64 ((i+1:Nat):Int))→(∀a∈as',a∈as∨y5a rs ps a)→as'.length≤as.length+1→BodyS k pc n0 bs sO (c+4) rel xw xv xb' ps vs as' st.s st.next st.low→nx≤st.next→Q .nrm e st):
  PC (z0j (z06 G) z0g none T1.q4_117 E {s:=s,next:=nx,low:=lw}) Q .mk:=by
 have hlw0:=h.lw
 have hnx0:=h.nx.1
 have hnx1:=h.nx.2
 have w_z1:sget s (z+1)=some (.cells [.arr kr 3 true 0 rs.length,xc]):= (h.fr _ ω ω).trans hz1
 unfold T1.q4_117
 simp only[hi,w_len,w_0,w_7,w_115,w_116,w_z1,↓LA,LB,simprocAttr]
 refine z0d (z1u hb (n:=rs.length) ω ω ω ω h.sk) fun v st hD=> ?_
 obtain⟨⟨r,hr,rfl⟩,hn1,hf1,hS1,hl1⟩:=hD
 obtain⟨s1,n1,l1⟩:=st
 have hn1:nx+12≤n1:=hn1
 have hf1:∀q,q<nx+12→q≠k→sget s1 q=sget s q:=hf1
 have k1:k≤l1:=hl1 k ω (Nat.le_refl _)
 have h1:=h.step hkp (fun q g1 g2=>hf1 q ω g2) hS1 (show nx≤n1 by omega) k1
 have w_y1:sget s1 (z+1)=some (.cells [.arr kr 3 true 0 rs.length,xc]):= (hf1 _ ω ω).trans w_z1
 have w_y2:sget s1 kr=some (.cells cs):= (h1.fr _ ω ω).trans hkr
 obtain⟨g1,g2,g3⟩:=hat r hr
 obtain⟨y,hy⟩:∃y,y=rs[r]:=⟨_,rfl⟩
 have hym:y∈rs:=by rw[hy];exact List.getElem_mem hr
 have hyr:RelM r y:=by rw[hy];exact hrm r hr
 rw[←hy] at g3
 obtain⟨ar,har⟩:∃ar:Nat,y.arity=ar:=⟨y.arity.toNat,by have:=hyr.2.1;omega⟩
 have har2:ar≤2:=by have:=hyr.2.1;omega
 rw[har] at g3
 have hsl:V.beq (.arr kr 3 true 0 rs.length) (.arr kr 3 true 0 rs.length)=true:=z4o
 have w_zz: (n1=nx+7)=False∧(nx+10=n1+3)=False∧(n1+3=nx+10)=False:=⟨by simp;omega,by simp;omega,by simp;omega⟩
 simp only[g1,g2,g3,hxc,hsl,w_len,w_z1,w_y1,w_y2,w_zz,↓LA,LB,simprocAttr]
 obtain⟨N,hN⟩:∃N,N=vs.length:=⟨_,rfl⟩
 have hlen:opLen false xv=some N:=by rw[h1.v.len,List.length_map,hN]
 have h2:∀lw',k≤lw' →BodyS k pc n0 bs sO (c+1) rel xw xv xb ps vs as ((n1+3,Obj.cells [V.d (D.str y.name),V.nilS]):: (nx+10,Obj.cells [V.d (D.str y.name),V.d (D.int IntKind.i64 ar),V.d (D.int IntKind.i64 y.rank)])::s1) nx lw' :=fun lw' hl' =>
  h.step hkp (fun q g1 g2=>by rw[z00 ω,z00 ω];exact hf1 q ω g2) (hS1.frame (by rw[z00 ω,z00 ω]) (Nat.le_refl _)) (Nat.le_refl _) hl'
 have h2lw:k≤(l1.min (nx+10)).min (n1+3):=by repeat' (first|omega|refine z02 ?_ ?_)
 refine z0b (fun e0 s0 m env st=>∃(j nxj lwj:Nat) (sj:Sto) (xa:V) (us:List (List Nat)),m=ar-j∧(j≤ar)∧(BodyS k pc n0 bs sO (c+1+j) rel xw xv xb ps vs as sj nx lwj)∧(Gr sj false (n1+4) 0 nxj 1 false xa (us.map D.str))∧(us.length≤j)∧((∀v∈us,v∈vs))∧((∀l,(l<16∨18≤l)→l<116→env.getD l .undef=E.getD l .undef))∧sget sj (nx+10)=some (.cells [.d (.str y.name),.d (.int .i64 (ar:Nat)),.d (.int .i64 y.rank)])∧sget sj (n1+3)=some (.cells [.d (.str y.name),xa])∧n1+4≤nxj∧k≤lwj∧env.length=171∧env.getD 132 .undef= .d (.int .i64 j)∧env.getD 0 .undef= .ptr k 0∧env.getD 11 .undef= .ptr pc 0∧env.getD 12 .undef=xv∧env.getD 16 .undef= .ptr (nx+10) 0∧env.getD 17 .undef= .ptr (n1+3) 0∧env.getD 115 .undef= .d (.int .i64 (nb:Nat))∧env.getD 116 .undef= .d (.int .i64 (i:Nat))∧env.getD 131 .undef= .d (.int .i64 (ar:Nat))∧st= {s:=sj,next:=nxj,low:=lwj}) ?_ (ar) (by refine⟨0,_,_,_,.nilS,[],rfl,ω,h2 _ h2lw,Gr.nil,Nat.le_refl _,(fun v h=>by simp at h),(by intro l g1 g2;simp (disch:=omega) only[z0h]),?_,?_,ω,(by first|exact Nat.zero_le _|omega|exact z02 ω ω|exact z02 (z02 ω ω) ω|exact z02 (z02 (z02 ω ω) ω) ω),?_,?_,?_,?_,?_,?_,?_,?_,?_,?_,rfl⟩<;>simp only[w_len,w_0,w_11,w_12,w_115,w_116,w_zz,LB,simprocAttr])
 rintro m env st ⟨j,nxj,lwj,sj,xa,us,hm,j_0,j_1,j_2,j_3,j_4,j_5,w_jc0,w_jc1,w_jb,w_jlo,w_len,w_132,w_0,w_11,w_12,w_16,w_17,w_115,w_116,w_131,rfl⟩
 have w_jN:=aI (cf1 (x:=nxj) (a:=nx+10) ω) (cf1 (x:=nxj) (a:=n1+3) ω)
 have w_jS:=aI (cf2 (x:=nxj) ω w_jc0) (cf2 (x:=nxj) ω w_jc1)
 have w_jZ:=zf (x:=nxj) (b:=n1) (n:=4) ω ω
 have w_j_2V:=aI (j_2.away (j:=k) ω) (aI (j_2.away (j:=nx+10) ω) (j_2.away (j:=n1+3) ω))
 have w_j_2c:=j_2.cell.1
 have w_j_2d:=j_2.cell.2
 have w_j_2e:=j_2.beq
 by_cases hj:j<ar
 ·by_cases h0:0<N
  ·have hgt: ((0:Int)< (N:Nat))=True:=eq_true ω
   simp only[hj,hlen,hgt,w_len,w_132,w_0,w_12,w_17,w_131,w_jc1,↓LA,LB,simprocAttr]
   refine z0d (z1u hb (n:=N) ω ω ω ω j_1.sk) fun v st hD=> ?_
   obtain⟨⟨t,ht,rfl⟩,hn2,hf2,hS2,hl2⟩:=hD
   obtain⟨s2,n2,l2⟩:=st
   have hn2:nxj+17≤n2:=hn2
   have hf2:∀q,q<nxj+17→q≠k→sget s2 q=sget sj q:=hf2
   have hlwj:=j_1.lw
   have k2:k≤l2:=hl2 k hlwj (Nat.le_refl _)
   obtain⟨kv,cv,hxv,hkv1,hkv2,hatv⟩:=y5o j_1.v ω
   obtain⟨e1,e2,e3⟩:=hatv t ω
   have w_kv:sget s2 kv=some (.cells cv):= (hf2 kv (by have:=hkv1.2.1;omega) (by have:=hkv1.1;omega)).trans hkv2
   have w_b0:sget s2 (nx+10)=_:= (hf2 _ ω ω).trans w_jc0
   have w_b1:sget s2 (n1+3)=_:= (hf2 _ ω ω).trans w_jc1
   have hb2:BodyS k pc n0 bs sO (c+1+j+1) rel xw xv xb ps vs as s2 nx l2:=j_1.step hkp (fun q g1 g2=>hf2 q ω g2) hS2 (Nat.le_refl _) k2
   have hxa:Gr s2 false (n1+4) 0 nxj 1 false xa (us.map D.str):=j_2.frame fun q g1 g2=>hf2 q ω ω
   have hgl:=z4w hxa (by omega:k≤n1+4) k2
   obtain⟨x,hx⟩:∃x,x=vs[t]'ω:=⟨_,rfl⟩
   have hxm:x∈vs:=by rw[hx];exact List.getElem_mem _
   rw[←hx] at e3
   simp only[e1,e2,e3,w_len,w_jc1,w_jN,w_j_2e,w_kv,w_b1,↓LA,LB,simprocAttr]
   refine z4h hxa ?_ (z0c z8t) z03 ?_ ?_ ?_ ?_ ?_ fun chc0 hc0=> ?_
   ·intro j h1 h2;simp (disch:=omega) only[z00]
   ·rfl
   ·omega
   ·simp;omega
   ·simp;omega
   ·exact rfl
   simp only[z07 hj ω,w_len,w_132,w_17,w_jN,w_j_2V,w_b1,↓LA,LB,simprocAttr]
   have hn3: (us++ [x]).map D.str=us.map D.str++ [.str x]:=by rw[List.map_append];rfl
   exact z09 (by refine⟨_,ω,j+1,_,_,_,.arr (nxj+14) 1 false 0 ((us.map D.str).length+1),us++ [x],rfl,ω,hb2.step hkp (fun q g1 g2=>by simp (disch:=omega) only[z00,z01,z04 (hxa.away (j:=q) ω)]) (hb2.sk.frame (by simp (disch:=omega) only[z00,z01,z04 (hxa.away (j:=k) ω)]) ω) (Nat.le_refl _) (z02 hgl ω),(by rw[hn3];exact z4j hc0 (by intro j h1 h2 h3;simp (disch:=omega) only[z00,z01,z04 h3]) ω ω ω z03 rfl ⟨CV.str,trivial⟩),(by simp;omega),(fun v hv=> (List.mem_append.1 hv).elim (j_4 v) fun hv=>by rw[List.mem_singleton] at hv;subst hv;exact hxm),(by intro l g1 g2;simp (disch:=omega) only[z0h];exact j_5 l g1 g2),?_,?_,ω,(by first|exact Nat.zero_le _|omega|exact z02 ω ω|exact z02 (z02 ω ω) ω|exact z02 (z02 (z02 ω ω) ω) ω),?_,?_,?_,?_,?_,?_,?_,?_,?_,?_,rfl⟩<;>simp only[w_len,w_0,w_11,w_12,w_16,w_17,w_115,w_116,w_131,w_jN,w_j_2V,w_zz,w_b0,w_b1,LB,simprocAttr])
  ·have hgt: ((0:Int)< (N:Nat))=False:=eq_false ω
   simp only[hj,hlen,hgt,z07 hj ω,w_len,w_132,w_12,w_131,↓LA,LB,simprocAttr]
   exact z09 (by refine⟨_,ω,j+1,_,_,_,xa,us,rfl,ω,j_1.step hkp (fun _ _ _=>rfl) (j_1.sk.frame rfl ω) (Nat.le_refl _) j_1.lw,j_2.hi ω,ω,j_4,(by intro l g1 g2;simp (disch:=omega) only[z0h];exact j_5 l g1 g2),?_,?_,ω,(by first|exact Nat.zero_le _|omega|exact z02 ω ω|exact z02 (z02 ω ω) ω|exact z02 (z02 (z02 ω ω) ω) ω),?_,?_,?_,?_,?_,?_,?_,?_,?_,?_,rfl⟩<;>simp only[w_len,w_0,w_11,w_12,w_16,w_17,w_115,w_116,w_131,w_jc0,w_jc1,LB,simprocAttr])
 ·have hlwj:=j_1.lw
  have hxal:opLen false xa=some us.length:=by rw[j_2.len,List.length_map]
  have w_pc:=j_1.pcl
  have hgb:=j_1.b
  have w_ae:=j_2.beq
  have w_np: (nxj=pc)=False∧(∀q,(nxj+q=pc)=False)∧(∀o,sget (sset sj pc o) pc=some o):=⟨by simp;omega,fun q=>by simp;omega,fun o=>z05 w_pc⟩
  by_cases he:us.length=ar
  ·have hee: ((us.length:Int)= (ar:Nat))=True:=eq_true ω
   simp only[hj,hxal,hee,w_len,w_132,w_11,w_16,w_17,w_131,w_jc0,w_jc1,w_j_2c,w_pc,↓LA,LB,simprocAttr]
   refine z4h hgb ?_ (z0c zav) z03 ?_ ?_ ?_ ?_ ?_ fun chcb hcb=> ?_
   ·intro j h1 h2;simp (disch:=omega) only[z00]
   ·rfl
   ·omega
   ·simp;omega
   ·simp;omega
   ·simp only[List.all_cons,List.all_nil,ze9,j_2.cell.1,Bool.and_self]
   have w_bv:=hgb.away (j:=pc) (.inl hnx0)
   have w_bw:=hgb.cell.1
   have w_bx:=hgb.cell.2
   have w_wc:=j_1.w.cell
   simp only[z07 hi ω,w_len,w_11,w_116,w_pc,w_np,w_bv,↓LA,LB,simprocAttr]
   have en: (as++ [(⟨y.name,us⟩:PatT)]).map PatT.d=as.map PatT.d++ [.agg [.str y.name,.sl (us.map D.str)]]:=by rw[List.map_append];rfl
   have gl:k≤zaa xb lwj:=z4w hgb ω hlwj
   have hfin:∀Z:Sto,(∀q,q≠pc→q≠nxj+10→q≠nxj+11→Go.Lift.away xb q→sget Z q=sget sj q)→sget Z pc=some (.cells [.d (.str rel),xw,.arr (nxj+11) 2 true 0 ((as.map PatT.d).length+1)])→sget Z (nxj+11)=some (.cells (chcb++ [.d (.str y.name),xa]))→∀nx' lw',nxj+14≤nx' →k≤lw' →
     BodyS k pc n0 bs sO (c+4) rel xw xv (.arr (nxj+11) 2 true 0 ((as.map PatT.d).length+1)) ps vs (as++ [⟨y.name,us⟩]) Z nx' lw' :=fun Z hz z1 z2 nx' lw' hn' hl' =>by
    have hz' :∀q,q<n0→q≠pc→sget Z q=sget sj q:=fun q h1 h2=>hz q h2 ω ω (hgb.away (.inl h1))
    refine⟨j_1.sk.frame (hz' k ω ω) ω,z1,j_1.w.frame fun q g=>hz' q g.2.1 (by have:=g.1;omega),j_1.v.frame fun q g=>hz' q g.2.1 (by have:=g.1;omega),?_,fun q g1 g2=> (hz' q ω ω).trans (j_1.fr q g1 g2),hl',hnx0,ω⟩
    rw[en]
    refine z57 hcb (fun q g1 g2=>hz q (by have:=g1.1;omega) (by have:=g1.2;omega) (by have:=g1.2;omega) g2) (fun q g=>⟨g.1,by have:=g.2;omega⟩) ⟨ω,ω⟩ (fun g=>by have:=g.2;omega) z2 rfl ⟨CQ.str,?_,trivial⟩
    exact CQ.mono (fun q g=>⟨⟨by have:=g.1;omega,by have:=g.2;omega⟩,by have:=g.2;omega⟩) (CQ.frame (fun q g=>hz q (by have:=g.1;omega) (by have:=g.2;omega) (by have:=g.2;omega) (hgb.away (.inr (by have:=g.1;omega)))) (j_2.cv ω (z0c z8t)))
   refine hQ _ _ _ (as++ [⟨y.name,us⟩]) (by simp only[w_len,LB,simprocAttr]) (by intro l g1 g2;simp (disch:=omega) only[z0h];exact j_5 l g1 g2) (by simp only[w_len,LB,simprocAttr]) (fun a ha=> (List.mem_append.1 ha).imp id fun ha=>by rw[List.mem_singleton] at ha;subst ha;exact⟨⟨y,hym,rfl,by show (us.length:Int)=y.arity;omega⟩,fun v hv=>hvs v (j_4 v hv)⟩) ψ (hfin _ (fun q g1 g2 g3 g4=>by simp (disch:=omega) only[z00,z01,z04 g4]) ?_ ?_ _ _ (by show nxj+14≤nxj+_;omega) (by repeat' (first|omega|refine z02 ?_ ?_))) (by show nx≤nxj+_;omega)
   ·simp only[w_pc,w_np,w_bv,LB,simprocAttr]
   ·simp (disch:=omega) only[z03]
  ·have hee: ((us.length:Int)= (ar:Nat))=False:=eq_false ω
   simp only[hj,hxal,hee,z07 hi ω,w_len,w_132,w_16,w_17,w_116,w_131,w_jc0,w_jc1,↓LA,LB,simprocAttr]
   exact hQ _ _ xb as (by simp only[w_len,LB,simprocAttr]) (by intro l g1 g2;simp (disch:=omega) only[z0h];exact j_5 l g1 g2) (by simp only[w_len,LB,simprocAttr]) (fun a ha=> .inl ha) ω (j_1.step hkp (fun _ _ _=>rfl) (j_1.sk.frame rfl ω) (by show nx≤nxj+_;omega) hlwj) (by show nx≤nxj+_;omega)
theorem HeadS.c5        (h:HeadS k pc bs sO (c+1+5*i+5) rel xw xv ps vs s nx lw):HeadS k pc bs sO (c+1+5* (i+1)) rel xw xv ps vs s nx lw:=⟨h.sk.frame rfl ω,h.pcl,h.w,h.v,h.fr,h.lw,h.nx⟩
def zki:∀a:ClauseT,Elt 3 true a.d:=fun a=>z72
def zv8  (hb:LOk bs) {z hh m0:Nat}   {xr xc:V} {S:Nat→Prop} {rs:List RelT} {cls:List ClauseT} 
  (hkz:k<z) (hzm:z+2≤m0) (hhm:z+2≤hh∧hh<m0) (hmn:m0≤nx) (hc:c≤200000) (hlw:k≤lw) (hSk:Sk s k bs c) (hz1:sget s (z+1)=some (.cells [xr,xc])) (hhd:sget s hh=some (.cells hdsC))
  (hxr:GP s false S 0 3 true xr (rs.map RelT.d)) (hS:∀q,S q→z+2≤q∧q<m0) (hxc:Gr s false m0 2 nx 3 true xc (cls.map ClauseT.d)) (hcl:cls.length≤10)
  (hr0:0<rs.length) (hr1:rs.length≤3) (hrm:∀j (h:j<rs.length),RelM j rs[j])
  (w_len:E.length=171) (w_0:E.getD 0 .undef= .ptr k 0) (w_7:E.getD 7 .undef= .ptr (z+1) 0) (w_9:E.getD 9 .undef= .ptr hh 0)
  (hQ:∀e st xc' cl,e.length=171→(∀l,(l<10∨41≤l)→l<49→e.getD l .undef=E.getD l .undef)→zgu rs cl→sget st.s (z+1)=some (.cells [xr,xc'])→Gr st.s false m0 2 st.next 3 true xc' ((cls++ [cl]).map ClauseT.d)→(∀q,q<m0→q≠k→q≠z+1→sget st.s q=sget s q)→Sk st.s k bs (c+60)→nx≤st.next→k≤st.low→Q .nrm e st):
  PC (z0j (z06 G) z0g none T1.q4_49 E {s:=s,next:=nx,low:=lw}) Q .mk:=by
 obtain⟨kr,cs,rfl,hkS,hkr,hat⟩:=y5v hxr hr0
 obtain⟨q1,q2⟩:=hS _ hkS
 obtain⟨R,hR⟩:∃R:IC,R=T1.q4_64:=⟨_,rfl⟩
 obtain⟨R',hR'⟩:∃R:IC,R=T1.q4_117:=⟨_,rfl⟩
 have w_z1:=hz1
 have hxcb:=hxc.beq
 have hsl:V.beq (.arr kr 3 true 0 rs.length) (.arr kr 3 true 0 rs.length)=true:=z4o
 unfold T1.q4_49
 rw[←hR,←hR']
 simp (maxDischargeDepth:=60) only[w_len,w_0,w_7,w_z1,↓LA,LB,simprocAttr]
 refine z0d (z1u hb (n:=rs.length) ω ω ω ω hSk) fun v st hD=> ?_
 obtain⟨⟨r,hr,rfl⟩,hn1,hf1,hS1,hl1⟩:=hD
 obtain⟨s1,n1,l1⟩:=st
 have hn1:nx+11≤n1:=hn1
 have hf1:∀q,q<nx+11→q≠k→sget s1 q=sget s q:=hf1
 have k1:k≤l1:=hl1 k ω (Nat.le_refl _)
 have w_y1:sget s1 (z+1)=some (.cells [.arr kr 3 true 0 rs.length,xc]):= (hf1 _ ω ω).trans w_z1
 have w_y2:sget s1 kr=some (.cells cs):= (hf1 _ ω ω).trans hkr
 obtain⟨g1,g2,g3⟩:=hat r hr
 obtain⟨y,hy⟩:∃y,y=rs[r]:=⟨_,rfl⟩
 have hym:y∈rs:=by rw[hy];exact List.getElem_mem hr
 have hyr:RelM r y:=by rw[hy];exact hrm r hr
 rw[←hy] at g3
 obtain⟨ar,har⟩:∃ar:Nat,y.arity=ar:=⟨y.arity.toNat,by have:=hyr.2.1;omega⟩
 have har2:ar≤2:=by have:=hyr.2.1;omega
 rw[har] at g3
 have w_zz: (n1=nx+6)=False∧(nx+9=n1+3)=False∧(n1+3=nx+9)=False:=⟨by simp;omega,by simp;omega,by simp;omega⟩
 simp (maxDischargeDepth:=60) only[g1,g2,g3,hxcb,hsl,w_len,w_z1,w_y1,w_y2,w_zz,↓LA,LB,simprocAttr]
 obtain⟨sO,hsO⟩:∃sO,sO= (n1+3,Obj.cells [V.d (D.str y.name),V.nilS,V.nilS]):: (nx+9,Obj.cells [V.d (D.str y.name),V.d (D.int IntKind.i64 ar),V.d (D.int IntKind.i64 y.rank)])::s1:=⟨_,rfl⟩
 have o1:∀q,q<nx→q≠k→sget sO q=sget s q:=fun q g1 g2=>by rw[hsO,z00 ω,z00 ω];exact hf1 q ω g2
 have o2:sget sO (n1+3)=some (.cells [.d (.str y.name),.nilS,.nilS]):=by rw[hsO];exact z03
 have h2lw:k≤(l1.min (nx+9)).min (n1+3):=by repeat' (first|omega|refine z02 ?_ ?_)
 rw[←hsO]
 refine z0b (fun e0 s0 m env st=>∃(i nxi lwi:Nat) (si:Sto) (xw xv:V) (ps:List PatT) (vs:List (List Nat)),m=ar-i∧(i≤ar)∧(HeadS k (n1+3) bs sO (c+1+5*i) y.name xw xv ps vs si nxi lwi)∧(ps.length=i)∧(vs.length≤2*i)∧((∀p∈ps,PatM p))∧((∀v∈vs,∃p∈ps,v∈p.vars))∧((∀l,(l<10∨41≤l)→l<49→env.getD l .undef=E.getD l .undef))∧n1+4≤nxi∧k≤lwi∧env.length=171∧env.getD 63 .undef= .d (.int .i64 i)∧env.getD 0 .undef= .ptr k 0∧env.getD 7 .undef= .ptr (z+1) 0∧env.getD 9 .undef= .ptr hh 0∧env.getD 11 .undef= .ptr (n1+3) 0∧env.getD 12 .undef=xv∧env.getD 62 .undef= .d (.int .i64 (ar:Nat))∧st= {s:=si,next:=nxi,low:=lwi}) ?_ (ar) (by refine⟨0,_,_,_,.nilS,.nilS,[],[],rfl,ω,⟨hS1.frame (by rw[hsO,z00 ω,z00 ω]) (Nat.le_refl _),o2,GP.nil,GP.nil,fun _ _ _=>rfl,h2lw,by show n1+3<n1+_;omega⟩,rfl,Nat.zero_le _,(fun p h=>by simp at h),(fun p h=>by simp at h),(by intro l g1 g2;simp (disch:=omega) only[z0h]),ω,(by first|exact Nat.zero_le _|omega|exact z02 ω ω|exact z02 (z02 ω ω) ω|exact z02 (z02 (z02 ω ω) ω) ω),?_,?_,?_,?_,?_,?_,?_,?_,rfl⟩<;>simp (maxDischargeDepth:=60) only[w_len,w_0,w_7,w_9,LB,simprocAttr])
 rintro m env st ⟨i,nxi,lwi,si,xw,xv,ps,vs,hm,i_0,i_1,i_2,i_3,i_4,i_5,i_6,w_ib,w_ilo,w_len,w_63,w_0,w_7,w_9,w_11,w_12,w_62,rfl⟩
 have w_iZ:=zf (x:=nxi) (b:=n1) (n:=4) ω ω
 have hlwi:=i_1.lw
 have hni:=i_1.nx
 have hvm:∀v∈vs,VarM v:=fun v hv=>by obtain⟨p,hp,hvp⟩:=i_5 v hv;exact (i_4 p hp).2.2.2 v hvp
 by_cases hi:i<ar
 ·rw[hR]
  refine y67 hb (hh:=hh) ω ω ω (by rw[o1 _ ω ω];exact hhd) ω ω hvm ω hi ω w_len w_0 w_9 w_11 w_12 w_62 w_63 i_1 ?_
  intro e st xw' xv' p w_len hE w_12 w_63 hp hH hn2
  obtain⟨s2,n2,l2⟩:=st
  have hn2:nxi≤n2:=hn2
  have hH:HeadS k (n1+3) bs sO (c+1+5*i+5) y.name xw' xv' (ps++ [p]) (vs++p.vars) s2 n2 l2:=hH
  have hl2:=hH.lw
  have hpl:p.vars.length≤2:=by
   rcases hp.1 with⟨_,h⟩|⟨_,h⟩<;>omega
  have w_0:e.getD 0 .undef=_:= (hE 0 (.inl ω) ω).trans w_0
  have w_7:e.getD 7 .undef=_:= (hE 7 (.inl ω) ω).trans w_7
  have w_9:e.getD 9 .undef=_:= (hE 9 (.inl ω) ω).trans w_9
  have w_11:e.getD 11 .undef=_:= (hE 11 (.inl ω) ω).trans w_11
  have w_62:e.getD 62 .undef=_:= (hE 62 (.inr ω) ω).trans w_62
  simp (maxDischargeDepth:=60) only[↓LA,simprocAttr]
  exact z09 (by refine⟨_,ω,i+1,_,_,_,xw',xv',ps++ [p],vs++p.vars,rfl,ω,hH.c5,by simp[i_2],(by rw[List.length_append];omega),(fun q hq=> (List.mem_append.1 hq).elim (i_4 q) fun hq=>by rw[List.mem_singleton] at hq;subst hq;exact hp),(fun v hv=> (List.mem_append.1 hv).elim (fun hv=>by obtain⟨q,a,b⟩:=i_5 v hv;exact⟨q,List.mem_append_left _ a,b⟩) fun hv=>⟨p,by simp,hv⟩),(by intro l g1 g2;rw[hE l ω ω];exact i_6 l g1 g2),ω,(by first|exact Nat.zero_le _|omega|exact z02 ω ω|exact z02 (z02 ω ω) ω|exact z02 (z02 (z02 ω ω) ω) ω),?_,?_,?_,?_,?_,?_,?_,?_,rfl⟩<;>simp (maxDischargeDepth:=60) only[w_len,w_63,w_0,w_7,w_9,w_11,w_12,w_62,simprocAttr])
 ·have hia:i=ar:=ω
  rw[hR]
  simp (maxDischargeDepth:=60) only[hi,w_len,w_63,w_0,w_62,↓LA,LB,simprocAttr]
  refine z0d (z1u hb (n:=3) ω ω ω ω i_1.sk) fun v st hD=> ?_
  obtain⟨⟨nb,hnb,rfl⟩,hn3,hf3,hS3,hl3⟩:=hD
  obtain⟨s3,n3,l3⟩:=st
  have hn3:nxi+4≤n3:=hn3
  have hf3:∀q,q<nxi+4→q≠k→sget s3 q=sget si q:=hf3
  have k3:k≤l3:=hl3 k hlwi (Nat.le_refl _)
  have hB0:BodyS k (n1+3) nxi bs sO (c+20) y.name xw xv .nilS ps vs [] s3 n3 l3:=i_1.toBody.step ω (fun q g1 g2=>hf3 q ω g2) (hS3.frame rfl ω) ω k3
  simp (maxDischargeDepth:=60) only[↓LA,LB,simprocAttr]
  refine z0b (fun e0 s0 m env st=>∃(j nxj lwj:Nat) (sj:Sto) (xb:V) (as:List PatT),m=nb-j∧(j≤nb)∧(BodyS k (n1+3) nxi bs sO (c+20+4*j) y.name xw xv xb ps vs as sj nxj lwj)∧(as.length≤j)∧((∀a∈as,y5a rs ps a))∧((∀l,(l<10∨41≤l)→l<49→env.getD l .undef=E.getD l .undef))∧n3≤nxj∧k≤lwj∧env.length=171∧env.getD 116 .undef= .d (.int .i64 j)∧env.getD 0 .undef= .ptr k 0∧env.getD 7 .undef= .ptr (z+1) 0∧env.getD 11 .undef= .ptr (n1+3) 0∧env.getD 12 .undef=xv∧env.getD 115 .undef= .d (.int .i64 (nb:Nat))∧st= {s:=sj,next:=nxj,low:=lwj}) ?_ (nb) (by refine⟨0,_,_,_,.nilS,[],rfl,ω,hB0,Nat.le_refl _,(fun p h=>by simp at h),(by intro l g1 g2;simp (disch:=omega) only[z0h];exact i_6 l g1 g2),ω,(by first|exact Nat.zero_le _|omega|exact z02 ω ω|exact z02 (z02 ω ω) ω|exact z02 (z02 (z02 ω ω) ω) ω),?_,?_,?_,?_,?_,?_,?_,rfl⟩<;>simp (maxDischargeDepth:=60) only[w_len,w_0,w_7,w_11,w_12,LB,simprocAttr])
  rintro m env st ⟨j,nxj,lwj,sj,xb,as,hm,j_0,j_1,j_2,j_3,j_4,w_jb,w_jlo,w_len,w_116,w_0,w_7,w_11,w_12,w_115,rfl⟩
  have hlwj:=j_1.lw
  have hnj:=j_1.nx.2
  by_cases hj:j<nb
  ·rw[hR']
   refine y4w hb (z:=z) (kr:=kr) (xc:=xc) ω ω (by rw[o1 _ ω ω];exact hz1) (by rw[o1 _ ω ω];exact hkr) hxcb hat hr0 hr1 hrm i_5 ω ω hj ω ω w_len w_0 w_7 w_11 w_12 w_115 w_116 j_1 ?_
   intro e st xb' as' w_len hE w_116 has hasl hB hn4
   obtain⟨s4,n4,l4⟩:=st
   have hn4:nxj≤n4:=hn4
   have hB:BodyS k (n1+3) nxi bs sO (c+20+4*j+4) y.name xw xv xb' ps vs as' s4 n4 l4:=hB
   have hl4:=hB.lw
   have w_0:e.getD 0 .undef=_:= (hE 0 (.inl ω) ω).trans w_0
   have w_7:e.getD 7 .undef=_:= (hE 7 (.inl ω) ω).trans w_7
   have w_11:e.getD 11 .undef=_:= (hE 11 (.inl ω) ω).trans w_11
   have w_12:e.getD 12 .undef=_:= (hE 12 (.inl ω) ω).trans w_12
   have w_115:e.getD 115 .undef=_:= (hE 115 (.inr ω) ω).trans w_115
   simp (maxDischargeDepth:=60) only[↓LA,simprocAttr]
   exact z09 (by refine⟨_,ω,j+1,_,_,_,xb',as',rfl,ω,hB.step ω (fun _ _ _=>rfl) (hB.sk.frame rfl ω) (Nat.le_refl _) hl4,ω,(fun a ha=> (has a ha).elim (j_3 a) id),(by intro l g1 g2;rw[hE l ω ω];exact j_4 l g1 g2),ω,(by first|exact Nat.zero_le _|omega|exact z02 ω ω|exact z02 (z02 ω ω) ω|exact z02 (z02 (z02 ω ω) ω) ω),?_,?_,?_,?_,?_,?_,?_,rfl⟩<;>simp (maxDischargeDepth:=60) only[w_len,w_116,w_0,w_7,w_11,w_12,w_115,simprocAttr])
  ·obtain⟨hsk,w_pc,hw,hv,hbb,hfr,_,_⟩:=j_1
   have hb2:=hbb
   have w_x1:sget sj (z+1)=some (.cells [.arr kr 3 true 0 rs.length,xc]):=by rw[hfr _ ω ω,o1 _ ω ω];exact hz1
   have hxj:Gr sj false m0 2 nx 3 true xc (cls.map ClauseT.d):=hxc.frame fun q g1 g2=>by rw[hfr _ ω ω,o1 _ g2 ω]
   have w_hxjV:=aI (hxj.away (j:=k) ω) (aI (hxj.away (j:=z+1) ω) (hxj.away (j:=n1+3) ω))
   have w_hxjc:=hxj.cell.1
   have w_hxjd:=hxj.cell.2
   have w_hxje:=hxj.beq
   have w_c1:=hw.cell
   have w_c2:=hbb.cell
   have w_c3:=hw.beq
   have w_c4:=hbb.beq
   have w_np: (nxj=n1+3)=False∧(∀q,(nxj+q=n1+3)=False)∧(nxj=z+1)=False∧(∀q,(nxj+q=z+1)=False)∧(∀o,sget (sset sj (z+1) o) (z+1)=some o):=⟨by simp;omega,fun q=>by simp;omega,by simp;omega,fun q=>by simp;omega,fun o=>z05 w_x1⟩
   rw[hR']
   simp (maxDischargeDepth:=60) only[hj,w_len,w_116,w_7,w_11,w_115,w_pc,w_x1,w_c1,w_c2,↓LA,LB,simprocAttr]
   refine z4h hxj ?_ (z0c zki) z03 ?_ ?_ ?_ ?_ ?_ fun chcx hcx=> ?_
   ·intro j h1 h2;simp (disch:=omega) only[z00]
   ·rfl
   ·omega
   ·simp;omega
   ·simp;omega
   ·simp only[List.all_cons,List.all_nil,ze9,w_c1,w_c2,Bool.and_self]
   simp (maxDischargeDepth:=60) only[w_len,w_7,w_hxjV,w_x1,w_np,↓LA,LB,simprocAttr]
   have en: (cls++ [(⟨y.name,ps,as⟩:ClauseT)]).map ClauseT.d=cls.map ClauseT.d++ [.agg [.str y.name,.sl (ps.map PatT.d),.sl (as.map PatT.d)]]:=by rw[List.map_append];rfl
   have gl:k≤zaa xc lwj:=z4w hxj ω hlwj
   have hfin:∀Z:Sto,(∀q,q≠z+1→q≠nxj+4→q≠nxj+5→Go.Lift.away xc q→sget Z q=sget sj q)→sget Z (nxj+5)=some (.cells (chcx++ [.d (.str y.name),xw,xb]))→∀nx',nxj+8≤nx' →
     Gr Z false m0 2 nx' 3 true (.arr (nxj+5) 3 true 0 ((cls.map ClauseT.d).length+1)) ((cls++ [(⟨y.name,ps,as⟩:ClauseT)]).map ClauseT.d):=fun Z hz z2 nx' hn' =>by
    rw[en]
    show GP Z false (Iv m0 nx') 2 3 true _ _
    refine z57 hcx (fun q g1 g2=>hz q (by have:=g1.1;omega) (by have:=g1.2;omega) (by have:=g1.2;omega) g2) (fun q g=>⟨g.1,by have:=g.2;omega⟩) ⟨ω,ω⟩ (fun g=>by have:=g.2;omega) z2 rfl ⟨CQ.str,?_,?_,trivial⟩
    ·exact CQ.mono (fun q g=>⟨⟨by have:=g.1;omega,by have:=g.2.1;omega⟩,by have:=g.2.1;omega⟩) (CQ.frame (fun q g=>hz q (by have:=g.1;omega) (by have:=g.2.1;omega) (by have:=g.2.1;omega) (hxj.away (.inr (by have:=g.1;omega)))) (hw.cv ω (z0c zav)))
    ·exact CQ.mono (fun q g=>⟨⟨by have:=g.1;omega,by have:=g.2;omega⟩,by have:=g.2;omega⟩) (CQ.frame (fun q g=>hz q (by have:=g.1;omega) (by have:=g.2;omega) (by have:=g.2;omega) (hxj.away (.inr (by have:=g.1;omega)))) (hb2.cv ω (z0c zav)))
   have hcm:zgu rs ⟨y.name,ps,as⟩:=⟨⟨y,hym,rfl,by show (ps.length:Int)=y.arity;omega⟩,i_4,by show as.length≤2;omega,j_3⟩
   refine hQ _ _ _ _ (by simp (maxDischargeDepth:=60) only[w_len,LB,simprocAttr]) (by intro l g1 g2;simp (disch:=omega) only[z0h];exact j_4 l g1 g2) hcm ?_ (hfin _ (fun q g1 g2 g3 g4=>by simp (disch:=omega) only[z00,z01,z04 g4]) ?_ _ (by show nxj+8≤nxj+_;omega)) (fun q g1 g2 g3=> ?_) (hsk.frame ?_ ω) (by show nx≤nxj+_;omega) (by repeat' (first|omega|refine z02 ?_ ?_))
   ·simp (maxDischargeDepth:=60) only[w_hxjV,w_x1,w_np,LB,simprocAttr]
   ·simp (disch:=omega) only[z03]
   ·simp (disch:=omega) only[z00,z01,z04 (hxj.away (j:=q) ω)]
    rw[hfr _ ω g2,o1 _ ω g2]
   ·simp (disch:=omega) only[z00,z01,z04 (hxj.away (j:=k) ω)]
def zsw  (hb:LOk bs) {mr:Nat} :zgt bs k mr:=by
 intro E s s0 nx lw lw0 z c xr rs w_len w_0 w_6 w_7 w_z w_z1 hkz hzn hxr hr0 hr1 hrm hrr hSk hc hlw hfr
 obtain⟨R,hR⟩:∃R:IC,R=T1.q4_49:=⟨_,rfl⟩
 unfold T1.q4_41
 rw[←hR]
 simp (maxDischargeDepth:=60) only[w_len,w_0,↓LA,LB,simprocAttr]
 refine z0d (z75 (lo:=1) (hi:=8) hb ω ω ω ω (hSk.frame (by rw[z00 ω]) (Nat.le_refl _))) fun v1 st1 hR1=> ?_
 obtain⟨⟨n,hna,hnb,rfl⟩,hn1,hf1,hS1,hl1⟩:=hR1
 obtain⟨s1,n1,l1⟩:=st1
 have hn1:nx+9≤n1:=hn1
 have o0:∀q,q<nx+4→q≠k→sget s1 q=sget s q:=fun q g1 g2=> (hf1 q ω g2).trans (z00 ω)
 have ohh:sget s1 (nx+4)=some (.cells hdsC):= (hf1 _ ω ω).trans z03
 have k1:k≤l1:=hl1 k (z02 hlw ω) (Nat.le_refl _)
 have w_a0:= (o0 z ω ω).trans w_z
 have w_a1:= (o0 (z+1) ω ω).trans w_z1
 have hS1:Sk s1 k bs (c+8):=hS1
 simp (maxDischargeDepth:=60) only[↓LA,LB,simprocAttr]
 refine z0b (fun e0 s0 m env st=>∃(i nxi lwi:Nat) (si:Sto) (xc:V) (cls:List ClauseT),m=n-i∧(i≤n)∧(Sk si k bs (c+8+60*i))∧(Gr si false n1 2 nxi 3 true xc (cls.map ClauseT.d))∧(cls.length=i)∧((∀x∈cls,zgu rs x))∧((∀q,q<n1→q≠k→q≠z+1→sget si q=sget s1 q))∧sget si (z)=some (.cells [.nilS,.nilS])∧sget si (z+1)=some (.cells [xr,xc])∧n1≤nxi∧k≤lwi∧env.length=171∧env.getD 47 .undef= .d (.int .i64 i)∧env.getD 0 .undef= .ptr k 0∧env.getD 6 .undef= .ptr z 0∧env.getD 7 .undef= .ptr (z+1) 0∧env.getD 9 .undef= .ptr (nx+4) 0∧env.getD 46 .undef= .d (.int .i64 (n:Nat))∧st= {s:=si,next:=nxi,low:=lwi}) ?_ (n) (by refine⟨0,_,_,_,.nilS,[],rfl,ω,hS1,Gr.nil,rfl,(fun p h=>by simp at h),(fun q g1 g2 g3=>rfl),?_,?_,ω,(by first|exact Nat.zero_le _|omega|exact z02 ω ω|exact z02 (z02 ω ω) ω|exact z02 (z02 (z02 ω ω) ω) ω),?_,?_,?_,?_,?_,?_,?_,rfl⟩<;>simp (maxDischargeDepth:=60) only[w_len,w_0,w_6,w_7,w_a0,w_a1,LB,simprocAttr])
 rintro m env st ⟨i,nxi,lwi,si,xc,cls,hm,i_0,i_1,i_2,i_3,i_4,i_5,w_ic0,w_ic1,w_ib,w_ilo,w_len,w_47,w_0,w_6,w_7,w_9,w_46,rfl⟩
 have w_iN:=aI (cf1 (x:=nxi) (a:=z) ω) (cf1 (x:=nxi) (a:=z+1) ω)
 have w_iS:=aI (cf2 (x:=nxi) ω w_ic0) (cf2 (x:=nxi) ω w_ic1)
 by_cases hi:i<n
 ·simp (maxDischargeDepth:=60) only[hi,w_len,w_47,w_46,↓LA,LB,simprocAttr]
  rw[hR]
  refine zv8 hb (hh:=nx+4) (m0:=n1) (S:=Iv (z+2) nx) (rs:=rs) (cls:=cls) (xr:=xr) (xc:=xc) hkz ω ω ω ω w_ilo i_1 w_ic1 ((i_5 _ ω ω ω).trans ohh) (GP.frame (fun q g=> (i_5 q (by have:=g.2;omega) (by have:=g.1;omega) (by have:=g.1;omega)).trans (o0 q (by have:=g.2;omega) (by have:=g.1;omega))) hxr) (fun q g=>⟨g.1,by have:=g.2;omega⟩) (Gr.hi i_2 (Nat.le_add_right _ _)) ω ω hr1 hrm (by simp (maxDischargeDepth:=60) only[w_len,LB,simprocAttr]) (by simp (maxDischargeDepth:=60) only[w_0,LB,simprocAttr]) (by simp (maxDischargeDepth:=60) only[w_7,LB,simprocAttr]) (by simp (maxDischargeDepth:=60) only[w_9,LB,simprocAttr]) ?_
  intro e st xc' cl w_len hE hcl h1 h2 h3 h4 h5 h6
  obtain⟨s2,n2,l2⟩:=st
  have h5:nxi≤n2:=by first|exact h5|exact Nat.le_trans (Nat.le_add_right _ _) h5
  have h6:k≤l2:=h6
  have w_47:e.getD 47 .undef= .d (.int .i64 i):= (hE 47 (.inr ω) ω).trans (by simp (maxDischargeDepth:=60) only[w_47,LB,simprocAttr])
  have w_0:e.getD 0 .undef= .ptr k 0:= (hE 0 (.inl ω) ω).trans (by simp (maxDischargeDepth:=60) only[w_0,LB,simprocAttr])
  have w_6:e.getD 6 .undef= .ptr z 0:= (hE 6 (.inl ω) ω).trans (by simp (maxDischargeDepth:=60) only[w_6,LB,simprocAttr])
  have w_7:e.getD 7 .undef= .ptr (z+1) 0:= (hE 7 (.inl ω) ω).trans (by simp (maxDischargeDepth:=60) only[w_7,LB,simprocAttr])
  have w_9:e.getD 9 .undef= .ptr (nx+4) 0:= (hE 9 (.inl ω) ω).trans (by simp (maxDischargeDepth:=60) only[w_9,LB,simprocAttr])
  have w_46:e.getD 46 .undef= .d (.int .i64 (n:Nat)):= (hE 46 (.inr ω) ω).trans (by simp (maxDischargeDepth:=60) only[w_46,LB,simprocAttr])
  have w_p0:sget s2 z=some (.cells [.nilS,.nilS]):= (h3 z ω ω ω).trans w_ic0
  have w_p1:sget s2 (z+1)=some (.cells [xr,xc']):=h1
  simp (maxDischargeDepth:=60) only[z07 hi ω,w_len,w_47,↓LA,LB,simprocAttr]
  exact z09 (by refine⟨_,ω,i+1,_,_,_,xc',cls++ [cl],rfl,ω,h4.frame rfl ω,Gr.hi h2 (Nat.le_add_right _ _),by simp[i_3],(fun x hx=> (List.mem_append.1 hx).elim (i_4 x) fun hx=>by rw[List.mem_singleton] at hx;subst hx;exact hcl),(fun q g1 g2 g3=> (h3 q g1 g2 g3).trans (i_5 q g1 g2 g3)),?_,?_,ω,(by first|exact Nat.zero_le _|omega|exact z02 ω ω|exact z02 (z02 ω ω) ω|exact z02 (z02 (z02 ω ω) ω) ω),?_,?_,?_,?_,?_,?_,?_,rfl⟩<;>simp (maxDischargeDepth:=60) only[w_len,w_0,w_6,w_7,w_9,w_46,w_p0,w_p1,LB,simprocAttr])
 ·have hxr2:GP si false (Iv (z+2) nx) 0 3 true xr (rs.map RelT.d):=GP.frame (fun q g=> (i_5 q (by have:=g.2;omega) (by have:=g.1;omega) (by have:=g.1;omega)).trans (o0 q (by have:=g.2;omega) (by have:=g.1;omega))) hxr
  have w_c1:=hxr2.cell
  have w_c2:=i_2.cell
  have w_zs:∀o,sget (sset si z o) z=some o:=fun o=>z05 w_ic0
  simp (maxDischargeDepth:=60) only[hi,w_len,w_47,w_6,w_7,w_46,w_ic0,w_ic1,w_iS,w_c1,w_c2,↓LA,LB,simprocAttr]
  refine⟨by show z≤nxi+_;omega,fun q g1 g2=> ?_,i_1.frame (z01 ω) ω,fun m g1 g2=>by repeat' (first|omega|refine z02 ?_ ?_),⟨rs,cls⟩,xr,xc,rfl,⟨⟨hr0,hr1,hrm,by show cls.length≤8;omega,i_4⟩,hrr⟩,?_,?_⟩
  ·show sget (sset si z _) q=_
   rw[z01 ω,i_5 q ω g2 ω,o0 q ω g2]
   exact hfr q g1 g2
  ·exact (hxr2.frame fun q g=>z01 (by have:=g.1;omega)).mono fun q g=>⟨by have:=g.1;omega,by have:=g.2;show q<nxi+_;omega⟩
  ·exact GP.mono (fun q g=>⟨by have:=g.1;omega,by have:=g.2;show q<nxi+_;omega⟩) (GP.frame (fun q g=>z01 (by have:=g.1;omega)) i_2)
end Go.Lift.K
namespace Go.Lift.K
open Go Go.Lift T1
abbrev mA:=D.agg
abbrev mS:=D.str
abbrev mL:=D.sl
abbrev mB:=D.bool
abbrev mI:=D.int .i64
theorem gr {T:List Ent} (hT:∀e∈T,Good G e) {f:Nat} {ds rs:Ld} {F:IFun} (h1:G f=some F) (h2:F.pure=true:=by rfl) (h3:F.nil2=false:=by rfl)
  (h:zde G (zsr T) 1000 100 (.fn f [] []) (ds.map V.d) St.nul=some (tupV (rs.map V.d),St.nul):=by kernel_rfl):Good G (f,ds,rs):=z5x hT h1 h2 h3 h
def e1:Ent:= (90,[mS [101],mS [97,98,99,100,101,102,103,104,105,106,107,108,109,110,111,112,113,114,115,116,117,118,119,120,121,122]],[mS []])
def m1:Good G e1:=gr all_nil g90
def e2:Ent:= (90,[mS [102,105,110],mS [97,98,99,100,101,102,103,104,105,106,107,108,109,110,111,112,113,114,115,116,117,118,119,120,121,122]],[mS []])
def m2:Good G e2:=gr all_nil g90
def e3:Ent:= (90,[mS [102],mS [97,98,99,100,101,102,103,104,105,106,107,108,109,110,111,112,113,114,115,116,117,118,119,120,121,122]],[mS []])
def m3:Good G e3:=gr all_nil g90
def e4:Ent:= (90,[mS [104],mS [97,98,99,100,101,102,103,104,105,106,107,108,109,110,111,112,113,114,115,116,117,118,119,120,121,122]],[mS []])
def m4:Good G e4:=gr all_nil g90
def e5:Ent:= (90,[mS [110,105,108],mS [97,98,99,100,101,102,103,104,105,106,107,108,109,110,111,112,113,114,115,116,117,118,119,120,121,122]],[mS []])
def m5:Good G e5:=gr all_nil g90
def e6:Ent:= (90,[mS [115,97,109,101],mS [97,98,99,100,101,102,103,104,105,106,107,108,109,110,111,112,113,114,115,116,117,118,119,120,121,122]],[mS []])
def m6:Good G e6:=gr all_nil g90
def e7:Ent:= (90,[mS [116],mS [97,98,99,100,101,102,103,104,105,106,107,108,109,110,111,112,113,114,115,116,117,118,119,120,121,122]],[mS []])
def m7:Good G e7:=gr all_nil g90
def e8:Ent:= (90,[mS [97],mS [97,98,99,100,101,102,103,104,105,106,107,108,109,110,111,112,113,114,115,116,117,118,119,120,121,122]],[mS []])
def m8:Good G e8:=gr all_nil g90
def e9:Ent:= (90,[mS [98],mS [97,98,99,100,101,102,103,104,105,106,107,108,109,110,111,112,113,114,115,116,117,118,119,120,121,122]],[mS []])
def m9:Good G e9:=gr all_nil g90
def e10:Ent:= (90,[mS [99,111,110,115],mS [97,98,99,100,101,102,103,104,105,106,107,108,109,110,111,112,113,114,115,116,117,118,119,120,121,122]],[mS []])
def m10:Good G e10:=gr all_nil g90
def e11:Ent:= (127,[mI 0],[mS [48]])
def m11:Good G e11:=gr all_nil g127
def e12:Ent:= (127,[mI 1],[mS [49]])
def m12:Good G e12:=gr all_nil g127
def tA:List Ent:=e1::e2::e3::e4::e5::e6::e7::e8::e9::e10::e11::e12:: []
def allA:∀e∈tA,Good G e:=all_cons m1 (all_cons m2 (all_cons m3 (all_cons m4 (all_cons m5 (all_cons m6 (all_cons m7 (all_cons m8 (all_cons m9 (all_cons m10 (all_cons m11 (all_cons m12 (all_nil))))))))))))
def e13:Ent:= (62,[mS [101]],[mB true])
def m13:Good G e13:=gr allA g62
def e14:Ent:= (62,[mS [102,105,110]],[mB true])
def m14:Good G e14:=gr allA g62
def e15:Ent:= (62,[mS [102]],[mB true])
def m15:Good G e15:=gr allA g62
def e16:Ent:= (62,[mS [104]],[mB true])
def m16:Good G e16:=gr allA g62
def e17:Ent:= (62,[mS [110,105,108]],[mB true])
def m17:Good G e17:=gr allA g62
def e18:Ent:= (62,[mS [115,97,109,101]],[mB true])
def m18:Good G e18:=gr allA g62
def e19:Ent:= (62,[mS [116]],[mB true])
def m19:Good G e19:=gr allA g62
def e20:Ent:= (62,[mS [97]],[mB true])
def m20:Good G e20:=gr allA g62
def e21:Ent:= (62,[mS [98]],[mB true])
def m21:Good G e21:=gr allA g62
def e22:Ent:= (62,[mS [99,111,110,115]],[mB true])
def m22:Good G e22:=gr allA g62
def e23:Ent:= (124,[mS [97]],[mB true])
def m23:Good G e23:=gr allA g124
def e24:Ent:= (124,[mS [99,111,110,115]],[mB true])
def m24:Good G e24:=gr allA g124
def e25:Ent:= (96,[mA [mL [mA [mS [97],mL []]],mI 0]],[mS [97,59]])
def m25:Good G e25:=gr allA g96
def e26:Ent:= (96,[mA [mL [mA [mS [99,111,110,115],mL [mI 1,mI 0]],mA [mS [97],mL []]],mI 0]],[mS [99,111,110,115,44,49,44,48,59,97,59]])
def m26:Good G e26:=gr allA g96
def tB:List Ent:=e13::e14::e15::e16::e17::e18::e19::e20::e21::e22::e23::e24::e25::e26::tA
def allB:∀e∈tB,Good G e:=all_cons m13 (all_cons m14 (all_cons m15 (all_cons m16 (all_cons m17 (all_cons m18 (all_cons m19 (all_cons m20 (all_cons m21 (all_cons m22 (all_cons m23 (all_cons m24 (all_cons m25 (all_cons m26 (allA))))))))))))))
def e27:Ent:= (95,[mA [mL [mA [mS [97],mL []]],mI 0]],[mI 0])
def m27:Good G e27:=gr allB g95
def e28:Ent:= (95,[mA [mL [mA [mS [99,111,110,115],mL [mI 1,mI 0]],mA [mS [97],mL []]],mI 0]],[mI 0])
def m28:Good G e28:=gr allB g95
def e29:Ent:= (95,[mA [mL [mA [mS [99,111,110,115],mL [mI 1,mI 0]],mA [mS [97],mL []]],mI 1]],[mI 0])
def m29:Good G e29:=gr allB g95
def e30:Ent:= (95,[mA [mL [mA [mS [99,111,110,115],mL [mI 1,mI 2]],mA [mS [97],mL []],mA [mS [99,111,110,115],mL [mI 1,mI 0]]],mI 0]],[mI 0])
def m30:Good G e30:=gr allB g95
def tC:List Ent:=e27::e28::e29::e30::tB
def allC:∀e∈tC,Good G e:=all_cons m27 (all_cons m28 (all_cons m29 (all_cons m30 (allB))))
def e31:Ent:= (97,[mA [mL [mA [mS [97],mL []]],mI 0]],[mA [mL [mA [mS [97],mL []]],mI 0],mI 0])
def m31:Good G e31:=gr allC g97
def e32:Ent:= (97,[mA [mL [mA [mS [99,111,110,115],mL [mI 1,mI 0]],mA [mS [97],mL []]],mI 0]],[mA [mL [mA [mS [99,111,110,115],mL [mI 1,mI 0]],mA [mS [97],mL []]],mI 0],mI 0])
def m32:Good G e32:=gr allC g97
def e33:Ent:= (97,[mA [mL [mA [mS [99,111,110,115],mL [mI 1,mI 0]],mA [mS [97],mL []]],mI 1]],[mA [mL [mA [mS [97],mL []]],mI 0],mI 0])
def m33:Good G e33:=gr allC g97
def e34:Ent:= (97,[mA [mL [mA [mS [99,111,110,115],mL [mI 1,mI 2]],mA [mS [97],mL []],mA [mS [99,111,110,115],mL [mI 1,mI 0]]],mI 0]],[mA [mL [mA [mS [99,111,110,115],mL [mI 1,mI 0]],mA [mS [97],mL []]],mI 0],mI 0])
def m34:Good G e34:=gr allC g97
def tE:List Ent:=e31::e32::e33::e34::tC
def allE:∀e∈tE,Good G e:=all_cons m31 (all_cons m32 (all_cons m33 (all_cons m34 (allC))))
def e35:Ent:= (8,[mA [mL [mA [mS [102,105,110],mI 1,mI 0]],mL [mA [mS [102,105,110],mL [mA [mS [110,105,108],mL []]],mL []],mA [mS [102,105,110],mL [mA [mS [99,111,110,115],mL [mS [104],mS [116]]]],mL [mA [mS [102,105,110],mL [mS [116]]]]]]],mA [mS [102,105,110],mL [mA [mL [mA [mS [99,111,110,115],mL [mI 1,mI 0]],mA [mS [97],mL []]],mI 0]]]],[mB false,mI 0])
def m35:Good G e35:=gr allE g8
def e36:Ent:= (8,[mA [mL [mA [mS [102,105,110],mI 1,mI 1]],mL [mA [mS [102,105,110],mL [mA [mS [110,105,108],mL []]],mL []],mA [mS [102,105,110],mL [mA [mS [99,111,110,115],mL [mS [104],mS [116]]]],mL [mA [mS [102,105,110],mL [mS [116]]]]]]],mA [mS [102,105,110],mL [mA [mL [mA [mS [99,111,110,115],mL [mI 1,mI 0]],mA [mS [97],mL []]],mI 0]]]],[mB true,mI 0])
def m36:Good G e36:=gr allE g8
def e37:Ent:= (8,[mA [mL [mA [mS [115,97,109,101],mI 2,mI 1]],mL [mA [mS [115,97,109,101],mL [mA [mS [99,111,110,115],mL [mS [97],mS [98]]],mA [mS [99,111,110,115],mL [mS [101],mS [102]]]],mL [mA [mS [115,97,109,101],mL [mS [97],mS [101]]],mA [mS [115,97,109,101],mL [mS [98],mS [102]]]]],mA [mS [115,97,109,101],mL [mA [mS [97],mL []],mA [mS [97],mL []]],mL []]]],mA [mS [115,97,109,101],mL [mA [mL [mA [mS [99,111,110,115],mL [mI 1,mI 0]],mA [mS [97],mL []]],mI 0],mA [mL [mA [mS [99,111,110,115],mL [mI 1,mI 2]],mA [mS [97],mL []],mA [mS [99,111,110,115],mL [mI 1,mI 0]]],mI 0]]]],[mB true,mI 0])
def m37:Good G e37:=gr allE g8
def e38:Ent:= (9,[mA [mL [mA [mS [115,97,109,101],mI 2,mI 1]],mL [mA [mS [115,97,109,101],mL [mA [mS [99,111,110,115],mL [mS [97],mS [98]]],mA [mS [99,111,110,115],mL [mS [101],mS [102]]]],mL [mA [mS [115,97,109,101],mL [mS [97],mS [101]]],mA [mS [115,97,109,101],mL [mS [98],mS [102]]]]],mA [mS [115,97,109,101],mL [mA [mS [97],mL []],mA [mS [97],mL []]],mL []]]],mA [mS [115,97,109,101],mL [mA [mL [mA [mS [99,111,110,115],mL [mI 1,mI 0]],mA [mS [97],mL []]],mI 0],mA [mL [mA [mS [99,111,110,115],mL [mI 1,mI 2]],mA [mS [97],mL []],mA [mS [99,111,110,115],mL [mI 1,mI 0]]],mI 0]]]],[mL [mA [mS [115,97,109,101],mL [mA [mL [mA [mS [99,111,110,115],mL [mI 1,mI 0]],mA [mS [97],mL []]],mI 0],mA [mL [mA [mS [99,111,110,115],mL [mI 1,mI 0]],mA [mS [97],mL []]],mI 0]]],mA [mS [115,97,109,101],mL [mA [mL [mA [mS [97],mL []]],mI 0],mA [mL [mA [mS [97],mL []]],mI 0]]]],mI 0])
def m38:Good G e38:=gr allE g9
def e39:Ent:= (39,[mA [mL [mA [mS [102,105,110],mI 1,mI 1]],mL [mA [mS [102,105,110],mL [mA [mS [110,105,108],mL []]],mL []],mA [mS [102,105,110],mL [mA [mS [99,111,110,115],mL [mS [104],mS [116]]]],mL [mA [mS [102,105,110],mL [mS [116]]]]]]],mA [mS [102,105,110],mL [mA [mL [mA [mS [99,111,110,115],mL [mI 1,mI 0]],mA [mS [97],mL []]],mI 0]]]],[mA [mL [mA [mS [102,105,110],mL [mA [mL [mA [mS [99,111,110,115],mL [mI 1,mI 0]],mA [mS [97],mL []]],mI 0]]]],mL [mI 1]],mI 0])
def m39:Good G e39:=gr allE g39
def e40:Ent:= (40,[mA [mL [mA [mS [102,105,110],mI 1,mI 0]],mL [mA [mS [102,105,110],mL [mA [mS [110,105,108],mL []]],mL []],mA [mS [102,105,110],mL [mA [mS [99,111,110,115],mL [mS [104],mS [116]]]],mL [mA [mS [102,105,110],mL [mS [116]]]]]]],mA [mS [102,105,110],mL [mA [mL [mA [mS [99,111,110,115],mL [mI 1,mI 0]],mA [mS [97],mL []]],mI 0]]]],[mA [mL [mA [mS [102,105,110],mL [mA [mL [mA [mS [99,111,110,115],mL [mI 1,mI 0]],mA [mS [97],mL []]],mI 0]]]],mL [mL [mI (-1),mI 0]]],mI 0])
def m40:Good G e40:=gr allE g40
def tH:List Ent:=e35::e36::e37::e38::e39::e40::tE
def allH:∀e∈tH,Good G e:=all_cons m35 (all_cons m36 (all_cons m37 (all_cons m38 (all_cons m39 (all_cons m40 (allE))))))
theorem zpy:Good T1.G (14,[],[.bool true]):=z5x (T:=tH) allH (m:=1000) (n:=100) T1.g14 rfl rfl (by kernel_rfl)
def zzu (st:St):z06 T1.G (.fn 14 [] []) [] st=some (.d (.bool true),st):=by
 obtain⟨F,h1,h2,h3,h4⟩:=zpy
 exact zak (ds:= []) (rs:= [.bool true]) h1 h2 h3 h4
end Go.Lift.K
namespace Go.Lift.K
open Go Go.Lift Classical
def zob {ts us:Lt} (hl:us.length=ts.length) (htk:∀t∈ts,Tok 5 t) (hd:∀q (h:q<us.length) (h' :q<ts.length),∃o,Dbl ts[q] us[q] o): (∀u∈us,u.ok∧Ok u)∧us.map z1o=ts.map z1o:=by
 refine⟨fun u hu=> ?_,zst hl fun i h h' => ?_⟩
 ·obtain⟨i,hi,rfl⟩:=List.mem_iff_getElem.1 hu
  obtain⟨o,ho⟩:=hd i hi ω
  obtain⟨a,b,_⟩:=zil ω (htk _ (List.getElem_mem ω)) ho
  exact⟨a,b⟩
 ·obtain⟨o,ho⟩:=hd i h h'
  exact (zil ω (htk _ (List.getElem_mem h')) ho).2.2
def zqz {r:RulesT} (hrm:RulesM r) {x:RelT} (hx:x∈r.rels) {ts:Lt} (hl: (ts.length:Int)=x.arity) (ht:∀t∈ts,Ok t):z0q r ⟨x.name,ts⟩=0:=by
 unfold z0q
 rw[if_neg (by rw[z9t hrm];simp)]
 show (match r.rels.find? (isR x.name) with|none=>1|some y=>if (ts.length:Int)≠y.arity then 2 else z0r z0f ts)=0
 rw[zbk hrm hx]
 simp only
 rw[if_neg ω]
 exact z17 fun t ht' => (ht t ht').spec
def zf9 {bs cs es:Li} (hb:LOk bs) (hc:LOk cs) (ho:LOk es) (st:St):z06 G (.fn 3 [] []) [.d (.sl (bs.map (D.int .u8))),.d (.sl (cs.map (D.int .u8))),.d (.sl (es.map (D.int .u8)))] st=some (.d (.bool true),st):=by
 obtain⟨R,hR⟩:∃R:IC,R=T1.q3_35:=⟨_,rfl⟩
 refine z19 (ds:= [.sl (bs.map (D.int .u8)),.sl (cs.map (D.int .u8)),.sl (es.map (D.int .u8))]) (rs:= [.bool true]) T1.g3 rfl rfl (fun e w_len harg=> ?_) st
 have w_len:e.length=147:=w_len
 have w_0:=harg 0 ψ
 have w_1:=harg 1 ψ
 have w_2:=harg 2 ψ
 clear harg
 simp only[List.map_cons,List.map_nil,List.getD_cons_zero,List.getD_cons_succ] at w_0 w_1 w_2
 unfold T1.i3
 rw[←hR]
 simp (maxDischargeDepth:=60) only[w_len,w_0,↓LA,LB,simprocAttr]
 refine z0d (z7y hb) fun v st hR1=> ?_
 obtain⟨k1,rfl,ha1,ha2,_,hS1,_⟩:=hR1
 obtain⟨s1,n1,lw1⟩:=st
 have ha1:9≤k1:=ha1
 have ha2:k1<n1:=ha2
 simp (maxDischargeDepth:=60) only[w_len,↓LA,LB,simprocAttr]
 refine z0d (y3e hb (zsw hb) (c:=0) ω ha2 hS1) fun v st hR1=> ?_
 obtain⟨hn2,hf2,hS2,_,r,a,b,rfl,hrm,hga,hgb⟩:=hR1
 obtain⟨s2,n2,lw2⟩:=st
 have hn2:n1≤n2:=hn2
 have hga:GP s2 false (Iv n1 n2) 0 3 true a (r.rels.map RelT.d):=hga
 have hgb:GP s2 false (Iv n1 n2) 2 3 true b (r.clauses.map ClauseT.d):=hgb
 have w_a:=hga.cell
 have w_b:=hgb.cell
 have w_ae:=hga.beq
 have w_be:=hgb.beq
 simp (maxDischargeDepth:=60) only[w_len,w_2,↓LA,LB,simprocAttr]
 refine z0d (z7y ho) fun v st hR1=> ?_
 obtain⟨k3,rfl,hb1,hb2,hf3,hS3,_⟩:=hR1
 obtain⟨s3,n3,lw3⟩:=st
 have hb1:n2≤k3:=hb1
 have hb2:k3<n3:=hb2
 have hf3:∀q,q<n2→sget s3 q=sget s2 q:=hf3
 have hS3:Sk s3 k3 es 0:=hS3
 have w_n0: (∀q,(n3+q=6)=False)∧(n3=6)=False:=⟨fun q=>by simp;omega,by simp;omega⟩
 simp (maxDischargeDepth:=60) only[w_len,w_1,w_a,w_b,↓LA,LB,simprocAttr]
 refine z0d (z7y hc) fun v st hR1=> ?_
 obtain⟨k2,rfl,hc1,hc2,hf4,hS4,_⟩:=hR1
 obtain⟨s4,n4,lw4⟩:=st
 have hc1:n3+6≤k2:=hc1
 have hc2:k2<n4:=hc2
 have hf4:∀q,q<n3+6→sget s4 q=sget ((6,Obj.cells [a,b])::s3) q:=hf4
 have hS4:Sk s4 k2 cs 0:=hS4
 have w_46:sget s4 6=some (.cells [a,b]):= (hf4 6 ω).trans z03
 have hf4' :∀q,q<n2→9≤q→sget s4 q=sget s2 q:=fun q g1 g2=> (hf4 q ω).trans ((z00 ω).trans (hf3 q g1))
 have hga4:GP s4 false (Iv n1 n2) 0 3 true a (r.rels.map RelT.d):=hga.frame fun q hq=>hf4' q hq.2 (by have:=hq.1;omega)
 have hgb4:GP s4 false (Iv n1 n2) 2 3 true b (r.clauses.map ClauseT.d):=hgb.frame fun q hq=>hf4' q hq.2 (by have:=hq.1;omega)
 have hS34:Sk s4 k3 es 0:=hS3.frame ((hf4 k3 ω).trans (z00 ω)) (Nat.le_refl _)
 simp (maxDischargeDepth:=60) only[w_len,w_ae,w_be,w_46,↓LA,LB,simprocAttr]
 have hr1:=hrm.one
 have hr3:=hrm.most
 refine z0d (zzv (lb:=true) hc (most:=5) ω ω (c:=0) ω (rels:=r.rels) ω ω (fun x hx=>by obtain⟨i,hi,rfl⟩:=List.mem_iff_getElem.1 hx;have:= (hrm.rel i hi).2.1;omega) (k:=k2) (S:=Iv n1 n2) hc2 hS4 (fun q hq=>⟨by have:=hq.2;omega,by have:=hq.2;omega⟩) hga4 w_b.1 w_b.2 w_be) fun v st hR1=> ?_
 obtain⟨hn5,hf5,_,_,x,ts,gt,hxm,rfl,hgt,htl,htk⟩:=hR1
 obtain⟨s5,n5,lw5⟩:=st
 have hn5:n4≤n5:=hn5
 have hf5:∀q,q<n4→q≠k2→sget s5 q=sget s4 q:=hf5
 have hgt:GP s5 true (Iv n4 n5) 2 2 true gt (ts.map TreeT.d):=hgt
 have w_t:=hgt.cell
 have w_56:sget s5 6=some (.cells [a,b]):= (hf5 6 ω ω).trans w_46
 simp (maxDischargeDepth:=60) only[w_len,w_t,↓LA,LB,simprocAttr]
 rw[hR]
 obtain⟨s6,hs6⟩:∃s6,s6= (n5+3,Obj.cells [V.d (D.str x.name),V.nilS]):: (n3+4,Obj.cells [V.d (D.str x.name),gt])::s5:=⟨_,rfl⟩
 have hf6:∀q,q≠n3+4→q<n5+3→sget s6 q=sget s5 q:=fun q g1 g2=>by rw[hs6,z00 ω,z00 (fun e=>g1 e.symm)]
 have hfa:∀q,n1≤q→q<n2→sget s6 q=sget s4 q:=fun q g1 g2=> (hf6 q ω ω).trans (hf5 q ω ω)
 have w_66:sget s6 6=some (.cells [a,b]):= (hf6 6 ω ω).trans w_56
 have hgt6:GP s6 true (Iv n4 n5) 2 2 true gt (ts.map TreeT.d):=hgt.frame fun q hq=>hf6 q (by have:=hq.1;omega) (by have:=hq.2;omega)
 have hS6:Sk s6 k3 es 0:=hS34.frame ((hf6 k3 ω ω).trans (hf5 k3 ω ω)) (Nat.le_refl _)
 obtain⟨xi,hxi,hxe⟩:=List.mem_iff_getElem.1 hxm
 have hxr:=hrm.rel xi hxi
 rw[hxe] at hxr
 have hrk:=zbh hrm
 rw[←hs6]
 refine y54 (nm:=x.name) (ts:=ts) (gt:=gt) (S:=Iv n4 n5) (k:=k3) (kg:=n3+4) (kw:=n5+3) ho (by have:=hxr.2.1;omega) htk ⟨ω,ω,ω,ω⟩ hS6 (fun q hq=>⟨by have:=hq.2;omega,by have:=hq.1;omega⟩) hgt6 (by rw[hs6];exact (z00 ω).trans z03) (by rw[hs6];exact z03) (by simp (maxDischargeDepth:=60) only[w_len,LB,simprocAttr]) (by simp (maxDischargeDepth:=60) only[w_len,LB,simprocAttr]) (by simp (maxDischargeDepth:=60) only[w_len,LB,simprocAttr]) (by simp (maxDischargeDepth:=60) only[w_len,LB,simprocAttr]) ?_
 intro e7 st7 us xa w_len7 hE7 hn7 hf7 hcg hcw hgx hul hdb
 obtain⟨s7,n7,lw7⟩:=st7
 have hn7:n5+5≤n7:=hn7
 have hf7:∀q,q<n5+3→q≠k3→sget s7 q=sget s6 q:=hf7
 have hcg:sget s7 (n3+4)=some (.cells [.d (.str x.name),gt]):=hcg
 have hcw:sget s7 (n5+3)=some (.cells [.d (.str x.name),xa]):=hcw
 have hgx:GP s7 false (Iv (n5+3+1) n7) 2 2 true xa (us.map TreeT.d):=hgx
 obtain⟨hur,hum⟩:=zob hul htk hdb
 have hgk: (⟨x.name,ts⟩:GoalT).ok:=⟨(hrk.1.2 x hxm).1,by unfold LOk;show ts.length≤_;have:=hxr.2.1;omega,fun t ht=> (zqn ω (htk t ht)).1⟩
 have hwk: (⟨x.name,us⟩:GoalT).ok:=⟨(hrk.1.2 x hxm).1,by unfold LOk;show us.length≤_;have:=hxr.2.1;omega,fun t ht=> (hur t ht).1⟩
 have hsp:=zqz hrm hxm htl fun t ht=> (zqn ω (htk t ht)).2
 have hwp:=zqz hrm hxm (ts:=us) ω fun t ht=> (hur t ht).2
 have hng:¬zj5 r (z1c ⟨x.name,ts⟩):=zsf hrm hgk hsp (fun t ht=> (htk t ht).2.1)
 have hfb:∀q,n1≤q→q<n2→sget s7 q=sget s4 q:=fun q g1 g2=> (hf7 q ω ω).trans (hfa q g1 g2)
 have hA:Alw r ⟨x.name,ts⟩ ⟨x.name,us⟩ a b gt xa (n3+4) (n5+3) n7 s7:=by
  refine⟨(hf7 6 ω ω).trans w_66,hcg,hcw,?_,?_,?_,?_⟩
  ·exact CZ.mono ω (fun q hq=>⟨by have:=hq.2;omega,by have:=hq.1;omega,by have:=hq.2;omega,by have:=hq.2;omega⟩) (zuy ((hga4.frame fun q hq=>hfb q hq.1 hq.2).cv ω (z0c fun a=>z61)))
  ·exact CZ.mono ω (fun q hq=>⟨by have:=hq.2;omega,by have:=hq.1;omega,by have:=hq.2;omega,by have:=hq.2;omega⟩) (zuy ((hgb4.frame fun q hq=>hfb q hq.1 hq.2).cv ω (z0c fun a=>z72)))
  ·exact CZ.mono ω (fun q hq=>⟨by have:=hq.2;omega,by have:=hq.1;omega,by have:=hq.1;omega,by have:=hq.2;omega⟩) (zuy (((GP.weak hgt6).frame fun q hq=>hf7 q (by have:=hq.2;omega) (by have:=hq.1;omega)).cv ω (z0c fun a=>z1t)))
  ·exact CZ.mono ω (fun q hq=>⟨hq.2,by have:=hq.1;omega,by have:=hq.1;omega,by have:=hq.1;omega⟩) (zuy (hgx.cv ω (z0c fun a=>z1t)))
 exact y53 hrm hgk hsp hwk hwp (show (⟨x.name,us.map z1o⟩:GoalT)=⟨x.name,ts.map z1o⟩ by rw[hum]) hng zzu (kg:=n3+4) (kw:=n5+3) (nB:=n7) ⟨ω,ω,ω,Nat.le_refl _⟩ hA ⟨w_ae,w_be⟩ w_len7 ((hE7 7 ω).trans (by simp (maxDischargeDepth:=60) only[w_len,LB,simprocAttr])) ((hE7 9 ω).trans (by simp (maxDischargeDepth:=60) only[w_len,LB,simprocAttr])) ((hE7 10 ω).trans (by simp (maxDischargeDepth:=60) only[w_len,LB,simprocAttr]))
end Go.Lift.K
namespace Go.Lift
open Go
def isS:Code→Bool
 | .seq _ _=>true
 |_=>false
def y9f {P:Program} {f:Func} {F:IFun} (h: (f.ntmps,cRes P f.results.toList,f.body.map (z0i F.nf P))= (F.nt,some F.res,some F.body)):Comp P f F:=
 ⟨congrArg (·.1) h,congrArg (·.2.1) h,congrArg (·.2.2) h⟩
end Go.Lift
