/- Part P13 of the proof. -/
import Derived.Test.YthjhclclibpijaaGreatDoorP12
set_option linter.all false
set_option maxHeartbeats 4000000
set_option maxRecDepth 100000
namespace Go.Lift.K
open Go Go.Lift Classical
variable{kv nx p n i b k ka j nx1 k9 m kN:Nat}{gv sv:V}{sp:Lq}{S S':Nat→Prop}{s sO:Sto}{c o:Ln}{inn:Lb}{f:Nat→Bool}{l:List RelT}{g:GoalT}{E:Lv}{Q:Ex→List V→St→Prop}{t:TreeT}{x:RelT}{L:Lh}{W:List (List SpotT)}{rk:Nat→Int}{ys:Lk}
def DrwR (s0:Sto) (nx kv n:Nat) (w:DS) (v:V) (st:St):Prop:=
 nx≤st.next∧(∀q,q<nx→q≠kv→sget st.s q=sget s0 q)∧sget st.s kv=some (.cells (nq w.2))∧∃k,nx≤k∧k<st.next∧v= .arr k 1 false 0 n∧sget st.s k=some (.cells (bq w.1))
def z8q {r:RulesT} {gp:Nat}    {lw:Nat}  (hG:GmA r gp kv gv sv sp S nx s)  (hc:sget s kv=some (.cells (nq c))) (hcl:c.length=sp.length) {ki kt:Nat} {to:Lb}
  (hki:ki<nx∧ki≠kv) (hkt:kt<nx) (hi:sget s ki=some (.cells (bq inn))) (ht:sget s kt=some (.cells (bq to))) (hil:inn.length=sp.length) (htl:to.length=sp.length):
  PostV (z06 G (.fn 47 [] []) [.ptr gp 0,.arr ki 1 false 0 sp.length,.arr kt 1 false 0 sp.length,.d (.int .i64 (p:Nat))] {s:=s,next:=nx,low:=lw}) (DrwR s nx kv sp.length (drawS sp inn p (to,c))):=by
 have hf1:=hG.few.1
 have hl1:=hG.lt.1
 have hl2:=hG.lt.2.1
 have hmk:=fun key st=>zpu (key:=key) (n:=sp.length) (st:=st) ω
 have hcp:∀z nx' lw' q,sget z q=some (.cells (bq (z4q sp.length)))→sget z kt=some (.cells (bq to))→z5d {s:=z,next:=nx',low:=lw' } 1 (.arr q 1 false 0 sp.length) (.arr kt 1 false 0 sp.length)=_:=fun z nx' lw' q h1 h2=>zvg h1 h2 z31 htl
 refine z1b (first:= []) (args:= [.ptr gp 0,.arr ki 1 false 0 sp.length,.arr kt 1 false 0 sp.length,.d (.int .i64 (p:Nat))]) (cap:= []) T1.g47 rfl rfl rfl (fun e w_len harg=> ?_)
 have w_len:e.length=102:=w_len
 have w_0:e.getD 0 .undef= .ptr gp 0:=harg 0 ψ
 have w_1:e.getD 1 .undef= .arr ki 1 false 0 sp.length:=harg 1 ψ
 have w_2:e.getD 2 .undef= .arr kt 1 false 0 sp.length:=harg 2 ψ
 have w_3:e.getD 3 .undef= .d (.int .i64 (p:Nat)):=harg 3 ψ
 clear harg
 have w_kz: (∀q,(nx+q=kt)=False)∧(nx=kt)=False:=⟨fun q=>by simp;omega,by simp;omega⟩
 have w_kv: (∀q,(nx+q=kv)=False)∧(nx=kv)=False:=⟨fun q=>by simp;omega,by simp;omega⟩
 have w_c:=hc
 simp only[T1.i47,hmk,hcp,ht,w_len,w_2,w_kz,↓LA,LB,simprocAttr]
 refine z0b (fun e0 s0 m env st=>∃(u nxu lwu:Nat) (su:Sto) (o:DS) (b:Bool),m=sp.length+1-u∧(u≤sp.length+1)∧((∀q,q<nx→q≠kv→sget su q=sget s q))∧((o.1.length=sp.length∧o.2.length=sp.length))∧(((b=true∧u≤cnt o.1∧drawS sp inn p o=drawS sp inn p (to,c))∨(b=false∧o=drawS sp inn p (to,c))))∧sget su (nx+3)=some (.cells (bq o.1))∧sget su (kv)=some (.cells (nq o.2))∧nx+9≤nxu∧0≤lwu∧env.length=102∧env.getD 10 .undef= .d (.bool b)∧env.getD 0 .undef= .ptr gp 0∧env.getD 1 .undef= .arr ki 1 false 0 sp.length∧env.getD 3 .undef= .d (.int .i64 (p:Nat))∧env.getD 9 .undef= .arr (nx+3) 1 false 0 sp.length∧st= {s:=su,next:=nxu,low:=lwu}) ?_ (sp.length+1) (by refine⟨0,_,_,_,(to,c),true,rfl,ω,(fun q h1 h2=>z00 ω),⟨htl,hcl⟩,(.inl ⟨rfl,Nat.zero_le _,rfl⟩),?_,?_,ω,Nat.zero_le _,?_,?_,?_,?_,?_,?_,rfl⟩<;>simp (maxDischargeDepth:=60) only[w_len,w_0,w_1,w_3,w_kv,w_c,LB,simprocAttr])
 rintro m env st ⟨u,nxu,lwu,su,o,b,hm,u_0,u_1,u_2,u_3,w_uc0,w_uc1,w_ub,w_ulo,w_len,w_10,w_0,w_1,w_3,w_9,rfl⟩
 have w_uN:=aI (cf1 (x:=nxu) (a:=nx+3) ω) (cf1 (x:=nxu) (a:=kv) ω)
 have w_uS:=aI (cf2 (x:=nxu) ω w_uc0) (cf2 (x:=nxu) ω w_uc1)
 have w_uZ:=zf (x:=nxu) (b:=nx) (n:=9) ω ω
 obtain⟨ho1,ho2⟩:=u_2
 rcases u_3 with⟨rfl,hm3,hd⟩|⟨rfl,hd⟩
 ·have hGm:GmC r gp kv gv sv sp S su:=hG.gc.frame fun q hq=>by
   rcases hq with hq|rfl
   ·exact u_1 q (hG.lt.2.2 q hq) fun e=>hG.gc.ks (e▸hq)
   ·exact u_1 _ hl1 hG.gc.ne.symm
  have w_at:sget su gp=some (.cells [_,_,_,_,_,_]):=hGm.at_
  have hsl:opLen false sv=some sp.length:=by rw[GP.len hG.gc.sp,List.length_map]
  have w_sv:=GP.cell hG.gc.sp
  have w_s0:z16 sp inn p o 0=o:=rfl
  have w_s1:decide (cnt o.1<cnt o.1)=false:=by simp
  simp only[hsl,w_len,w_10,w_0,w_at,↓LA,LB,simprocAttr]
  refine z0b (fun e0 s0 m env st=>∃(i nxi lwi:Nat) (si:Sto),m=sp.length-i∧(i≤sp.length)∧((∀q,q<nx→q≠kv→sget si q=sget s q))∧sget si (nx+3)=some (.cells (bq (z16 sp inn p o i).1))∧sget si (kv)=some (.cells (nq (z16 sp inn p o i).2))∧nx+9≤nxi∧0≤lwi∧env.length=102∧env.getD 29 .undef= .d (.int .i64 i)∧env.getD 0 .undef= .ptr gp 0∧env.getD 1 .undef= .arr ki 1 false 0 sp.length∧env.getD 3 .undef= .d (.int .i64 (p:Nat))∧env.getD 9 .undef= .arr (nx+3) 1 false 0 sp.length∧env.getD 10 .undef= .d (.bool (decide (cnt o.1<cnt (z16 sp inn p o i).1)))∧env.getD 27 .undef=sv∧env.getD 28 .undef= .d (.int .i64 sp.length)∧st= {s:=si,next:=nxi,low:=lwi}) ?_ (sp.length) (by refine⟨0,_,_,_,rfl,ω,u_1,?_,?_,ω,Nat.zero_le _,?_,?_,?_,?_,?_,?_,?_,?_,?_,rfl⟩<;>simp only[w_len,w_0,w_1,w_3,w_9,w_uc0,w_uc1,w_s0,w_s1,LB,simprocAttr])
  rintro m env st ⟨i,nxi,lwi,si,hm,i_0,i_1,w_ic0,w_ic1,w_ib,w_ilo,w_len,w_29,w_0,w_1,w_3,w_9,w_10,w_27,w_28,rfl⟩
  have w_iN:=aI (cf1 (x:=nxi) (a:=nx+3) ω) (cf1 (x:=nxi) (a:=kv) ω)
  have w_iS:=aI (cf2 (x:=nxi) ω w_ic0) (cf2 (x:=nxi) ω w_ic1)
  have w_iZ:=zf (x:=nxi) (b:=nx) (n:=9) ω ω
  have hGi:GmC r gp kv gv sv sp S si:=hG.gc.frame fun q hq=>by
   rcases hq with hq|rfl
   ·exact i_1 q (hG.lt.2.2 q hq) fun e=>hG.gc.ks (e▸hq)
   ·exact i_1 _ hl1 hG.gc.ne.symm
  have hlO:=z1w (sp:=sp) (inn:=inn) (p:=p) (o:=o) (m:=i)
  obtain⟨O,hO⟩:∃O,O=z16 sp inn p o i:=⟨_,rfl⟩
  rw[←hO] at hlO w_ic0 w_ic1 w_10
  by_cases hi' :i<sp.length
  ·obtain⟨k,cs,nv,_,hk1,hk2,hk3,hk4,hk5,hrd⟩:=GP.spotAt hGi.sp hi'
   have hiO:i<O.1.length:=by rw[hlO.1,ho1];exact hi'
   have hiC:i<O.2.length:=by rw[hlO.2,ho2];exact hi'
   have hia:∀k,z08 1 (.arr k 1 false 0 sp.length) (i:Int)=some (.ptr k i):=fun k=>z2f hi'
   obtain⟨a1,a2,_⟩:=z6a (l:=inn) (n:=i) ω
   obtain⟨b1,b2,b3⟩:=z6a (l:=O.1) (n:=i) hiO
   obtain⟨c1,c2⟩:=zxj (l:=O.2) (n:=i) hiC
   have w_nv:=hrd.cell
   have w_nb:=hrd.beq
   have w_ki:sget si ki=some (.cells (bq inn)):= (i_1 ki hki.1 hki.2).trans hi
   have w_kz2: (∀q,(nxi+q=ki)=False)∧(nxi=ki)=False:=⟨fun q=>by simp;omega,by simp;omega⟩
   have w_gz: (∀q,(nxi+q=gp)=False)∧(nxi=gp)=False:=⟨fun q=>by simp;omega,by simp;omega⟩
   have w_at:sget si gp=some (.cells [_,_,_,_,_,_]):=hGi.at_
   have hke: (nxi+3=k)=False:=by have:=hG.lt.2.2 k hk1;simp;omega
   cases hbi:bg inn i with
   |false=>
    have hd1:z2l sp inn p i O=O:=by unfold z2l;rw[if_pos (.inl hbi)]
    have w_sw:z16 sp inn p o (i+1)=O:=by rw[hO] at hd1⊢;exact hd1
    have w_O:z16 sp inn p o i=O:=hO.symm
    simp only[hi',hk3,hk2,hk4,hk5,hia,a1,a2,hbi,z07 hi' ω,w_len,w_29,w_1,w_27,w_28,w_nv,w_ki,w_kz2,↓LA,LB,simprocAttr]
    exact z09 (by refine⟨_,ω,i+1,_,_,_,rfl,ω,fun q h1 h2=> (z00 ω).trans (i_1 q h1 h2),?_,?_,ω,Nat.zero_le _,?_,?_,?_,?_,?_,?_,?_,?_,?_,rfl⟩<;>simp only[w_len,w_0,w_1,w_3,w_9,w_10,w_27,w_28,w_ic0,w_ic1,w_iN,w_sw,LB,simprocAttr])
   |true=>
    have w_O:z16 sp inn p o i=O:=hO.symm
    cases hbo:bg O.1 i with
    |true=>
     have hd1:z2l sp inn p i O=O:=by unfold z2l;rw[if_pos (.inr hbo)]
     have w_sw:z16 sp inn p o (i+1)=O:=by rw[hO] at hd1⊢;exact hd1
     simp only[hi',hk3,hk2,hk4,hk5,hia,a1,a2,hbi,b1,b2,hbo,z07 hi' ω,w_len,w_29,w_1,w_9,w_27,w_28,w_ic0,w_iN,w_nv,w_ki,w_kz2,↓LA,LB,simprocAttr]
     exact z09 (by refine⟨_,ω,i+1,_,_,_,rfl,ω,fun q h1 h2=> (z00 ω).trans (i_1 q h1 h2),?_,?_,ω,Nat.zero_le _,?_,?_,?_,?_,?_,?_,?_,?_,?_,rfl⟩<;>simp only[w_len,w_0,w_1,w_3,w_9,w_10,w_27,w_28,w_ic0,w_ic1,w_iN,w_sw,LB,simprocAttr])
    |false=>
     have hOw:=fun X nx' lw' =>zs3 (s:= (nxi+4,X)::si) (nx:=nx') (lw:=lw') (p:=p) (hGi.frame fun q hq=>z00 (by
      rcases hq with hq|rfl
      ·have:=hG.lt.2.2 q hq;omega
      ·omega)) hi'
     have hln:=hG.few.2 i hi'
     have hlt:=hG.so.lt i hi'
     have hdA:z2l sp inn p i O=if (spA sp i).owner=p then (match hit inn O.1 (spA sp i).next with|some k=> (O.1.set i true,O.2.set i k)|none=>O) else if left inn O.1 (spA sp i).next=true then O else (O.1.set i true,O.2):=by
      unfold z2l
      rw[if_neg (by simp[hbi,hbo])]
      rfl
     have hstep:z16 sp inn p o (i+1)=z2l sp inn p i O:=by rw[hO];rfl
     have hcn:=zkq hiO hbo
     have hcO:cnt o.1≤cnt O.1:=by rw[hO];exact (z6v ω).1
     have w_ct:decide (cnt o.1<cnt (O.1.set i true))=true:=by simp;omega
     obtain⟨l,hl⟩:∃l,l= (spA sp i).next:=⟨_,rfl⟩
     rw[←hl] at hrd hln hlt hdA
     obtain⟨mi,hmi⟩:∃mi,mi=decide ((spA sp i).owner=p):=⟨_,rfl⟩
     rw[←hmi] at hOw
     have hnl:=hrd.len
     have w_l0:left inn O.1 []=false:=rfl
     simp only[hi',hk3,hk2,hk4,hk5,hia,a1,a2,hbi,b1,b2,hbo,hOw,hnl,w_len,w_29,w_0,w_1,w_3,w_9,w_27,w_28,w_ic0,w_iN,w_nv,w_ki,w_kz2,w_gz,w_at,↓LA,LB,simprocAttr]
     refine z0b (fun e0 s0 m env st=>∃(j nxj lwj:Nat) (sj:Sto),m=l.length-j∧(j≤l.length)∧((∀q,q<nx→q≠kv→sget sj q=sget s q))∧((∀q (hq:q<l.length),q<j→mi=true→(bg inn l[q]&&bg O.1 l[q])=false))∧sget sj (nx+3)=some (.cells (bq O.1))∧sget sj (kv)=some (.cells (nq O.2))∧nxi+5≤nxj∧0≤lwj∧env.length=102∧env.getD 55 .undef= .d (.int .i64 j)∧env.getD 0 .undef= .ptr gp 0∧env.getD 1 .undef= .arr ki 1 false 0 sp.length∧env.getD 3 .undef= .d (.int .i64 (p:Nat))∧env.getD 9 .undef= .arr (nx+3) 1 false 0 sp.length∧env.getD 10 .undef= .d (.bool (decide (cnt o.1<cnt O.1)))∧env.getD 11 .undef= .d (.int .i64 (i:Nat))∧env.getD 12 .undef= .ptr (nxi+4) 0∧env.getD 13 .undef= .d (.bool mi)∧env.getD 14 .undef= .d (.bool (left inn O.1 (l.take j)))∧env.getD 27 .undef=sv∧env.getD 28 .undef= .d (.int .i64 sp.length)∧env.getD 29 .undef= .d (.int .i64 (i:Nat))∧env.getD 53 .undef=nv∧env.getD 54 .undef= .d (.int .i64 l.length)∧st= {s:=sj,next:=nxj,low:=lwj}) ?_ (l.length) (by refine⟨0,_,_,_,rfl,ω,(fun q h1 h2=> (z00 ω).trans (i_1 q h1 h2)),(fun q _ h=>absurd h ω),?_,?_,ω,Nat.zero_le _,?_,?_,?_,?_,?_,?_,?_,?_,?_,?_,?_,?_,?_,?_,?_,?_,rfl⟩<;>simp only[w_len,w_29,w_0,w_1,w_3,w_9,w_10,w_27,w_28,w_ic0,w_ic1,w_iN,w_l0,LB,simprocAttr])
     rintro m env st ⟨j,nxj,lwj,sj,hm,j_0,j_1,j_2,w_jc0,w_jc1,w_jb,w_jlo,w_len,w_55,w_0,w_1,w_3,w_9,w_10,w_11,w_12,w_13,w_14,w_27,w_28,w_29,w_53,w_54,rfl⟩
     have w_jN:=aI (cf1 (x:=nxj) (a:=nx+3) ω) (cf1 (x:=nxj) (a:=kv) ω)
     have w_jS:=aI (cf2 (x:=nxj) ω w_jc0) (cf2 (x:=nxj) ω w_jc1)
     have w_jZ:=zf (x:=nxj) (b:=nxi) (n:=5) ω ω
     by_cases hj:j<l.length
     ·obtain⟨pp,hp1,hp2⟩:=hrd.rd j hj
      have hp3:=fun nx' lw' =>hp2 sj nx' lw' fun q hq=> (j_1 q (hG.lt.2.2 q hq) fun e=>hG.gc.ks (e▸hq)).trans (i_1 q (hG.lt.2.2 q hq) fun e=>hG.gc.ks (e▸hq)).symm
      have hn:=hlt _ (List.getElem_mem hj)
      have hin:∀k,z08 1 (.arr k 1 false 0 sp.length) (l[j]:Int)=some (.ptr k l[j]):=fun k=>z2f hn
      obtain⟨d1,d2,_⟩:=z6a (l:=inn) (n:=l[j]) ω
      obtain⟨e1,e2,_⟩:=z6a (l:=O.1) (n:=l[j]) ω
      have w_ki:sget sj ki=some (.cells (bq inn)):= (j_1 ki hki.1 hki.2).trans hi
      have w_at:sget sj gp=some (.cells [_,_,_,_,_,_]):= (j_1 gp hl1 hG.gc.ne.symm).trans hG.gc.at_
      have hls:=zt9 (inn:=inn) (out:=O.1) hj
      cases hni:bg inn l[j] with
      |false=>
       rw[hni,Bool.false_and,Bool.or_false] at hls
       have w_ls:=hls
       simp only[hj,hp1,hp3,hin,d1,d2,hni,z07 hj ω,w_len,w_55,w_1,w_53,w_54,w_ki,↓LA,LB,simprocAttr]
       have hno:∀q (hq:q<l.length),q<j+1→mi=true→(bg inn l[q]&&bg O.1 l[q])=false:=fun q hq h1 h2=>by
        by_cases e:q=j
        ·subst e;rw[hni];rfl
        ·exact j_2 q hq ω h2
       exact z09 (by refine⟨_,ω,j+1,_,_,_,rfl,ω,j_1,hno,?_,?_,ω,Nat.zero_le _,?_,?_,?_,?_,?_,?_,?_,?_,?_,?_,?_,?_,?_,?_,?_,?_,rfl⟩<;>simp only[w_len,w_0,w_1,w_3,w_9,w_10,w_11,w_12,w_13,w_14,w_27,w_28,w_29,w_53,w_54,w_jc0,w_jc1,w_ls,LB,simprocAttr])
      |true=>
       rw[hni,Bool.true_and] at hls
       cases hmi' :mi with
       |false=>
        have hno:∀q (hq:q<l.length),q<j+1→false=true→(bg inn l[q]&&bg O.1 l[q])=false:=fun q hq h1 h2=>by cases h2
        rw[hmi'] at w_13
        cases hlf:left inn O.1 (l.take j) with
        |true=>
         rw[hlf] at w_14
         have w_ls:left inn O.1 (l.take (j+1))=true:=by rw[hls,hlf];rfl
         simp only[hj,hp1,hp3,hin,d1,d2,hni,z07 hj ω,w_len,w_55,w_1,w_13,w_14,w_53,w_54,w_ki,↓LA,LB,simprocAttr]
         exact z09 (by refine⟨_,ω,j+1,_,_,_,rfl,ω,j_1,hno,?_,?_,ω,Nat.zero_le _,?_,?_,?_,?_,?_,?_,?_,?_,?_,?_,?_,?_,?_,?_,?_,?_,rfl⟩<;>simp only[w_len,w_0,w_1,w_3,w_9,w_10,w_11,w_12,w_13,w_27,w_28,w_29,w_53,w_54,w_jc0,w_jc1,w_ls,LB,simprocAttr])
        |false=>
         rw[hlf] at w_14
         cases hno' :bg O.1 l[j] with
         |true=>
          have w_ls:left inn O.1 (l.take (j+1))=false:=by rw[hls,hlf,hno'];rfl
          rw[hno'] at e2
          simp only[hj,hp1,hp3,hin,d1,d2,hni,e1,e2,z07 hj ω,w_len,w_55,w_1,w_9,w_13,w_14,w_53,w_54,w_jc0,w_ki,↓LA,LB,simprocAttr]
          exact z09 (by refine⟨_,ω,j+1,_,_,_,rfl,ω,j_1,hno,?_,?_,ω,Nat.zero_le _,?_,?_,?_,?_,?_,?_,?_,?_,?_,?_,?_,?_,?_,?_,?_,?_,rfl⟩<;>simp only[w_len,w_0,w_1,w_3,w_9,w_10,w_11,w_12,w_13,w_27,w_28,w_29,w_53,w_54,w_jc0,w_jc1,w_ls,LB,simprocAttr])
         |false=>
          have w_ls:left inn O.1 (l.take (j+1))=true:=by rw[hls,hlf,hno'];rfl
          rw[hno'] at e2
          simp only[hj,hp1,hp3,hin,d1,d2,hni,e1,e2,z07 hj ω,w_len,w_55,w_1,w_9,w_13,w_14,w_53,w_54,w_jc0,w_ki,↓LA,LB,simprocAttr]
          exact z09 (by refine⟨_,ω,j+1,_,_,_,rfl,ω,j_1,hno,?_,?_,ω,Nat.zero_le _,?_,?_,?_,?_,?_,?_,?_,?_,?_,?_,?_,?_,?_,?_,?_,?_,rfl⟩<;>simp only[w_len,w_0,w_1,w_3,w_9,w_10,w_11,w_12,w_13,w_27,w_28,w_29,w_53,w_54,w_jc0,w_jc1,w_ls,LB,simprocAttr])
       |true=>
        rw[hmi'] at w_13
        have how: (spA sp i).owner=p:=by rw[hmi'] at hmi;exact of_decide_eq_true hmi.symm
        cases hno' :bg O.1 l[j] with
        |false=>
         rw[hno'] at e2
         have w_ls:left inn O.1 (l.take (j+1))=true:=by rw[hls,hno'];cases left inn O.1 (l.take j)<;>rfl
         have hno:∀q (hq:q<l.length),q<j+1→true=true→(bg inn l[q]&&bg O.1 l[q])=false:=fun q hq h1 h2=>by
          by_cases e:q=j
          ·subst e;rw[hno',Bool.and_false]
          ·exact j_2 q hq ω hmi'
         cases hlf:left inn O.1 (l.take j)<;>rw[hlf] at w_14<;>simp only[hj,hp1,hp3,hin,d1,d2,hni,e1,e2,z07 hj ω,w_len,w_55,w_1,w_9,w_13,w_14,w_53,w_54,w_jc0,w_ki,↓LA,LB,simprocAttr]<;>exact z09 (by refine⟨_,ω,j+1,_,_,_,rfl,ω,j_1,hno,?_,?_,ω,Nat.zero_le _,?_,?_,?_,?_,?_,?_,?_,?_,?_,?_,?_,?_,?_,?_,?_,?_,rfl⟩<;>simp only[w_len,w_0,w_1,w_3,w_9,w_10,w_11,w_12,w_13,w_27,w_28,w_29,w_53,w_54,w_jc0,w_jc1,w_ls,LB,simprocAttr])
        |true=>
         rw[hno'] at e2
         have hh:=zym (inn:=inn) (out:=O.1) hj (by rw[hni,hno'];rfl) fun q hq=>j_2 q ω hq hmi'
         rw[hh,if_pos how] at hdA
         have w_sw:z16 sp inn p o (i+1)= (O.1.set i true,O.2.set i j):=hstep.trans hdA
         have c3:=c2 j
         have b4:=b3 true
         have w_kn: (kv=nx+3)=False∧(nx+3=kv)=False:=⟨by simp;omega,by simp;omega⟩
         have w_iu:∀o',sget (sset (sset sj kv o') (nx+3) o') kv=some o' :=fun o' => (z01 ω).trans (z05 w_jc1)
         simp only[hj,hp1,hp3,hin,hia,d1,d2,hni,e1,e2,b1,b4,c1,c3,z07 hi' ω,w_len,w_55,w_0,w_1,w_9,w_11,w_13,w_29,w_53,w_54,w_jc0,w_jc1,w_ki,w_at,w_kn,↓LA,LB,simprocAttr]
         exact z09 (by refine⟨_,ω,i+1,_,_,_,rfl,ω,fun q h1 h2=> (z01 ω).trans ((z01 (Ne.symm h2)).trans (j_1 q h1 h2)),?_,?_,ω,Nat.zero_le _,?_,?_,?_,?_,?_,?_,?_,?_,?_,rfl⟩<;>simp only[w_len,w_0,w_1,w_3,w_9,w_27,w_28,w_jc0,w_jS,w_sw,w_kn,w_ct,LB,simprocAttr])
     ·have hje:j=l.length:=ω
      rw[hje,List.take_length] at w_14
      have w_at:sget sj gp=some (.cells [_,_,_,_,_,_]):= (j_1 gp hl1 hG.gc.ne.symm).trans hG.gc.at_
      cases hmi' :mi with
      |true=>
       rw[hmi'] at w_13
       have how: (spA sp i).owner=p:=by rw[hmi'] at hmi;exact of_decide_eq_true hmi.symm
       rw[zyn (fun q hq=>j_2 q hq ω hmi'),if_pos how] at hdA
       have w_sw:z16 sp inn p o (i+1)=O:=hstep.trans hdA
       simp only[hj,z07 hi' ω,w_len,w_55,w_13,w_29,w_54,↓LA,LB,simprocAttr]
       exact z09 (by refine⟨_,ω,i+1,_,_,_,rfl,ω,j_1,?_,?_,ω,Nat.zero_le _,?_,?_,?_,?_,?_,?_,?_,?_,?_,rfl⟩<;>simp only[w_len,w_0,w_1,w_3,w_9,w_10,w_27,w_28,w_jc0,w_jc1,w_sw,LB,simprocAttr])
      |false=>
       rw[hmi'] at w_13
       have how:¬(spA sp i).owner=p:=by rw[hmi'] at hmi;exact of_decide_eq_false hmi.symm
       rw[if_neg how] at hdA
       cases hlf:left inn O.1 l with
       |true=>
        rw[hlf] at w_14
        rw[if_pos hlf] at hdA
        have w_sw:z16 sp inn p o (i+1)=O:=hstep.trans hdA
        simp only[hj,z07 hi' ω,w_len,w_55,w_13,w_14,w_29,w_54,↓LA,LB,simprocAttr]
        exact z09 (by refine⟨_,ω,i+1,_,_,_,rfl,ω,j_1,?_,?_,ω,Nat.zero_le _,?_,?_,?_,?_,?_,?_,?_,?_,?_,rfl⟩<;>simp only[w_len,w_0,w_1,w_3,w_9,w_10,w_27,w_28,w_jc0,w_jc1,w_sw,LB,simprocAttr])
       |false=>
        rw[hlf] at w_14
        rw[if_neg (by rw[hlf];decide)] at hdA
        have w_sw:z16 sp inn p o (i+1)= (O.1.set i true,O.2):=hstep.trans hdA
        have b4:=b3 true
        have w_kn: (kv=nx+3)=False∧(nx+3=kv)=False:=⟨by simp;omega,by simp;omega⟩
        simp only[hj,hia,b1,b4,z07 hi' ω,w_len,w_55,w_9,w_11,w_13,w_14,w_29,w_54,w_jc0,↓LA,LB,simprocAttr]
        exact z09 (by refine⟨_,ω,i+1,_,_,_,rfl,ω,fun q h1 h2=> (z01 ω).trans (j_1 q h1 h2),?_,?_,ω,Nat.zero_le _,?_,?_,?_,?_,?_,?_,?_,?_,?_,rfl⟩<;>simp only[w_len,w_0,w_1,w_3,w_9,w_27,w_28,w_jc1,w_jS,w_sw,w_kn,w_ct,LB,simprocAttr])
  ·have hie:i=sp.length:=ω
   rw[hie] at hO
   have hcle:=znh (l:=o.1)
   rw[ho1] at hcle
   have hst:=zph (sp:=sp) (inn:=inn) (p:=p) (o:=o) ho1
   rw[←hO] at hst
   rcases hst with⟨h1,h2,h3⟩|⟨h1,h3⟩
   ·rw[decide_eq_true h1] at w_10
    simp only[hi',w_len,w_29,w_28,↓LA,LB,simprocAttr]
    exact z09 (by refine⟨_,ω,u+1,_,_,_,O,true,rfl,ω,i_1,⟨hlO.1.trans ho1,hlO.2.trans ho2⟩,.inl ⟨rfl,ω,h3.trans hd⟩,?_,?_,ω,Nat.zero_le _,?_,?_,?_,?_,?_,?_,rfl⟩<;>simp only[w_len,w_0,w_1,w_3,w_9,w_10,w_ic0,w_ic1,LB,simprocAttr])
   ·rw[decide_eq_false h1] at w_10
    simp only[hi',w_len,w_29,w_28,↓LA,LB,simprocAttr]
    exact z09 (by refine⟨_,ω,u+1,_,_,_,O,false,rfl,ω,i_1,⟨hlO.1.trans ho1,hlO.2.trans ho2⟩,.inr ⟨rfl,h3.trans hd⟩,?_,?_,ω,Nat.zero_le _,?_,?_,?_,?_,?_,?_,rfl⟩<;>simp only[w_len,w_0,w_1,w_3,w_9,w_10,w_ic0,w_ic1,LB,simprocAttr])
 ·simp only[w_len,w_10,w_9,↓LA,LB,simprocAttr]
  exact⟨Nat.le_trans (show nx≤nxu by omega) (Nat.le_add_right _ _),u_1,by rw[←hd];exact w_uc1,nx+3,ω,Nat.lt_of_lt_of_le (show nx+3<nxu by omega) (Nat.le_add_right _ _),rfl,by rw[←hd];exact w_uc0⟩
def mp (n:Nat) (f:Nat→Bool):List Bool:= (List.range n).map f
theorem z8c   : (mp n f).length=n:=by simp[mp]
theorem y37   (h:i<n):bg (mp n f) i=f i:=by simp[mp,bg,h]
def z9x {l:Lb}   (hl:l.length=n) (h:∀i,i<n→bg l i=f i):l=mp n f:=by
 apply List.ext_getElem (by rw[z8c];exact hl)
 intro i h1 h2
 have:=h i ω
 simp[bg,h1] at this
 simp[mp,this]
def zm5  {g:Nat→Bool} {b:Bool} (hi:i<n) (h1:g i=b) (h2:∀q,q<n→q≠i→g q=f q): (mp n f).set i b=mp n g:=by
 refine z9x (by rw[List.length_set,z8c]) fun q hq=> ?_
 rw[zep (by rw[z8c];exact hi)]
 split
 ·rename_i e;rw[e,h1]
 ·rename_i e;rw[y37 hq,h2 q hq e]
def y2a {l:Lb} (hl:l.length≤100000) (st:St):z06 G (.fn 76 [] []) [.d (.sl (l.map D.bool))] st=some (.d (.bool (decide (cnt l≠0))),st):=by
 obtain⟨b,hb⟩:∃b,b=decide (cnt l≠0):=⟨_,rfl⟩
 rw[←hb]
 refine z19 (ds:= [.sl (l.map D.bool)]) (rs:= [.bool b]) T1.g76 rfl rfl (fun e w_len harg=> ?_) st
 have w_len:e.length=13:=w_len
 have w_0:=harg 0 ψ
 clear harg
 simp only[List.map_cons,List.map_nil,List.getD_cons_zero] at w_0
 simp only[T1.i76,w_len,w_0,↓LA,LB,simprocAttr]
 refine z0b (fun e0 s0 m env st=>∃(i nxi:Nat),m=l.length-i∧(i≤l.length)∧((∀q,q<i→bg l q=false))∧env.length=13∧env.getD 7 .undef= .d (.int .i64 i)∧env.getD 5 .undef= .d (.sl (l.map D.bool))∧env.getD 6 .undef= .d (.int .i64 l.length)∧st= {s:=s0.s,next:=nxi,low:=s0.low}) ?_ (l.length) (by refine⟨0,_,rfl,ω,fun q h=>absurd h ω,?_,?_,?_,?_,rfl⟩<;>simp (maxDischargeDepth:=60) only[w_len,LB,simprocAttr])
 rintro m env st ⟨i,nxi,hm,i_0,i_1,w_len,w_7,w_5,w_6,rfl⟩
 by_cases hi:i<l.length
 ·have hx:z08 1 (.d (.sl (l.map D.bool))) (i:Int)=some (.dptr [.bool l[i]]):=z1p hi rfl
  have hbi:bg l i=l[i]:=by simp[bg,hi]
  cases hv:l[i] with
  |false=>
   rw[hv] at hx hbi
   simp only[hi,hx,z07 hi ω,w_len,w_7,w_5,w_6,↓LA,LB,simprocAttr]
   have hnf:∀q,q<i+1→bg l q=false:=fun q hq=>by
    by_cases e:q=i
    ·subst e;exact hbi
    ·exact i_1 q ω
   exact z09 (by refine⟨_,ω,i+1,_,rfl,ω,hnf,?_,?_,?_,?_,rfl⟩<;>simp only[w_len,w_5,w_6,LB,simprocAttr])
  |true=>
   rw[hv] at hx hbi
   have:b=true:=by
    rw[hb];apply decide_eq_true
    intro h0
    rw[znf.1 h0 i] at hbi;cases hbi
   subst this
   simp only[hi,hx,w_len,w_7,w_5,w_6,↓LA,LB,simprocAttr]
   exact rq1 (by rfl)
 ·have:b=false:=by
   rw[hb];apply decide_eq_false
   intro h0
   obtain⟨q,hq⟩:=zcx h0
   have:=zgl hq
   rw[i_1 q ω] at hq;cases hq
  subst this
  simp only[hi,w_len,w_7,w_6,↓LA,LB,simprocAttr]
  exact rq1 (by rfl)
def zbc {l:Lb} (hl:l.length≤100000)  {nx lw:Nat} (hn:l.length=n) (hk:sget s k=some (.cells (bq l))):z06 G (.fn 76 [] []) [.arr k 1 false 0 n] {s:=s,next:=nx,low:=lw} =some (.d (.bool (decide (cnt l≠0))),{s:=s,next:=nx,low:=lw}):=by
 have hsn:snap s 0 z0e (.arr k 1 false 0 n)=some (.sl (l.map D.bool)):=by
  have:=zf4 (s:=s) (k:=k) (ds:=l.map D.bool) hk (by rw[List.all_map];exact List.all_eq_true.2 fun x _=>rfl)
  rwa [List.length_map,hn] at this
 exact z5h (rs:= [.bool (decide (cnt l≠0))]) T1.g76 rfl rfl (ds:= [.sl (l.map D.bool)]) (by simp only[z0p,hsn];rfl) rfl (y2a hl _)
def SetR (s0:Sto) (nx n:Nat) (l:List Bool) (v:V) (st:St):Prop:=
 nx≤st.next∧(∀q,q<nx→sget st.s q=sget s0 q)∧∃k,nx≤k∧k<st.next∧v= .arr k 1 false 0 n∧sget st.s k=some (.cells (bq l))
def z59 {a b:Lb} {kb lw:Nat}  (hn:n≤100000) (hal:a.length=n) (hbl:b.length=n) (hka:ka<nx) (hkb:kb<nx) (ha:sget s ka=some (.cells (bq a))) (hb:sget s kb=some (.cells (bq b))):
  PostV (z06 G (.fn 48 [] []) [.arr ka 1 false 0 n,.arr kb 1 false 0 n] {s:=s,next:=nx,low:=lw}) (SetR s nx n (outS a b)):=by
 have hmk:=fun key st=>zpu (key:=key) (n:=n) (st:=st) ω
 have hn0:z4q n=mp n fun q=>decide (q<0)&& (bg a q&& !bg b q):=z9x z31 fun i _=>by rw[z68];simp
 rw[hn0] at hmk
 refine z1b (first:= []) (args:= [.arr ka 1 false 0 n,.arr kb 1 false 0 n]) (cap:= []) T1.g48 rfl rfl rfl (fun e w_len harg=> ?_)
 have w_len:e.length=31:=w_len
 have w_0:e.getD 0 .undef= .arr ka 1 false 0 n:=harg 0 ψ
 have w_1:e.getD 1 .undef= .arr kb 1 false 0 n:=harg 1 ψ
 clear harg
 simp only[T1.i48,hmk,w_len,w_0,↓LA,LB,simprocAttr]
 refine z0b (fun e0 s0 m env st=>∃(i nxi lwi:Nat) (si:Sto),m=n-i∧(i≤n)∧((∀q,q<nx→sget si q=sget s q))∧sget si (nx+3)=some (.cells (bq (mp n fun q=>decide (q<i)&& (bg a q&& !bg b q))))∧nx+5≤nxi∧0≤lwi∧env.length=31∧env.getD 12 .undef= .d (.int .i64 i)∧env.getD 0 .undef= .arr ka 1 false 0 n∧env.getD 1 .undef= .arr kb 1 false 0 n∧env.getD 5 .undef= .arr (nx+3) 1 false 0 n∧env.getD 11 .undef= .d (.int .i64 n)∧st= {s:=si,next:=nxi,low:=lwi}) ?_ (n) (by refine⟨0,_,_,_,rfl,ω,(fun q h1=>z00 ω),?_,ω,Nat.zero_le _,?_,?_,?_,?_,?_,?_,rfl⟩<;>simp (maxDischargeDepth:=60) only[w_len,w_0,w_1,LB,simprocAttr])
 rintro m env st ⟨i,nxi,lwi,si,hm,i_0,i_1,w_ic0,w_ib,w_ilo,w_len,w_12,w_0,w_1,w_5,w_11,rfl⟩
 have w_iN:=cf1 (x:=nxi) (a:=nx+3) ω
 have w_iS:=cf2 (x:=nxi) ω w_ic0
 have w_iZ:=zf (x:=nxi) (b:=nx) (n:=5) ω ω
 by_cases hi:i<n
 ·have hia:∀k,z08 1 (.arr k 1 false 0 n) (i:Int)=some (.ptr k i):=fun k=>z2f hi
  obtain⟨a1,a2,_⟩:=z6a (l:=a) (n:=i) ω
  obtain⟨b1,b2,_⟩:=z6a (l:=b) (n:=i) ω
  obtain⟨c1,_,c3⟩:=z6a (l:=mp n fun q=>decide (q<i)&& (bg a q&& !bg b q)) (n:=i) (by rw[z8c];exact hi)
  have hst: (mp n fun q=>decide (q<i)&& (bg a q&& !bg b q)).set i (bg a i&& !bg b i)=mp n fun q=>decide (q<i+1)&& (bg a q&& !bg b q):=zm5 hi ψ fun q _ e=>by
   rw[show decide (q<i+1)=decide (q<i) from by congr 1;exact propext ⟨fun h=>ω,fun h=>ω⟩]
  have w_a:= (i_1 ka hka).trans ha
  have w_b:= (i_1 kb hkb).trans hb
  have c4:=c3 (bg a i&& !bg b i)
  rw[hst] at c4
  have c4' :∀x,x= (bg a i&& !bg b i)→(bq (mp n fun q=>decide (q<i)&& (bg a q&& !bg b q))).take i++ [.d (.bool x)]++ (bq (mp n fun q=>decide (q<i)&& (bg a q&& !bg b q))).drop (i+1)=bq (mp n fun q=>decide (q<i+1)&& (bg a q&& !bg b q)):=fun x e=>by rw[e];exact c4
  cases hva:bg a i<;>cases hvb:bg b i<;>rw[hva] at a2<;>rw[hvb] at b2<;>have c5:=c4' _ (by rw[hva,hvb])<;>simp only[Bool.not_true,Bool.not_false,Bool.and_true,Bool.and_false] at c5<;>simp only[hi,hia,a1,a2,b1,b2,c1,c5,z07 hi ω,w_len,w_12,w_0,w_1,w_5,w_11,w_ic0,w_a,w_b,↓LA,LB,simprocAttr]<;>exact z09 (by refine⟨_,ω,i+1,_,_,_,rfl,ω,fun q h1=> (z01 ω).trans (i_1 q h1),?_,ω,Nat.zero_le _,?_,?_,?_,?_,?_,?_,rfl⟩<;>simp only[w_len,w_0,w_1,w_5,w_11,w_iS,LB,simprocAttr])
 ·have hie:i=n:=ω
  have he: (mp n fun q=>decide (q<i)&& (bg a q&& !bg b q))=outS a b:=by
   rw[hie]
   unfold mp outS
   rw[hal]
   exact List.map_congr_left fun q hq=>by simp[List.mem_range.1 hq]
  simp only[hi,w_len,w_12,w_5,w_11,↓LA,LB,simprocAttr]
  exact⟨Nat.le_trans (show nx≤nxi by omega) (Nat.le_add_right _ _),i_1,nx+3,ω,Nat.lt_of_lt_of_le (show nx+3<nxi by omega) (Nat.le_add_right _ _),rfl,by rw[←he];exact w_ic0⟩
def zky {a b:Lb} {kb kl lw:Nat}  (hn:n≤100000) (hal:a.length=n) (hbl:b.length=n) (hka:ka<nx) (hkb:kb<nx) (hkl:kl<nx) (ha:sget s ka=some (.cells (bq a))) (hb:sget s kb=some (.cells (bq b))) (hl:sget s kl=some (.cells [.arr kb 1 false 0 n])):
  PostV (z06 G (.fn 49 [] []) [.arr ka 1 false 0 n,.arr kl 1 false 0 1] {s:=s,next:=nx,low:=lw}) (SetR s nx n (zdf a b)):=by
 have hmk:=fun key st=>zpu (key:=key) (n:=n) (st:=st) ω
 have hcp:∀z nx' lw' q,sget z q=some (.cells (bq (z4q n)))→sget z ka=some (.cells (bq a))→z5d {s:=z,next:=nx',low:=lw' } 1 (.arr q 1 false 0 n) (.arr ka 1 false 0 n)=_:=fun z nx' lw' q h1 h2=>zvg h1 h2 z31 hal
 have hia0:z08 1 (.arr kl 1 false 0 1) 0=some (.ptr kl 0):=y77
 refine z1b (first:= []) (args:= [.arr ka 1 false 0 n,.arr kl 1 false 0 1]) (cap:= []) T1.g49 rfl rfl rfl (fun e w_len harg=> ?_)
 have w_len:e.length=42:=w_len
 have w_0:e.getD 0 .undef= .arr ka 1 false 0 n:=harg 0 ψ
 have w_1:e.getD 1 .undef= .arr kl 1 false 0 1:=harg 1 ψ
 clear harg
 have w_kz: (∀q,(nx+q=ka)=False)∧(nx=ka)=False:=⟨fun q=>by simp;omega,by simp;omega⟩
 have w_kv: (∀q,(nx+q=kl)=False)∧(nx=kl)=False:=⟨fun q=>by simp;omega,by simp;omega⟩
 have w_hl:=hl
 simp only[T1.i49,hmk,hcp,ha,w_len,w_0,w_1,w_kz,↓LA,LB,simprocAttr]
 refine zfm ?_
 simp only[hia0,w_len,w_kv,w_hl,↓LA,LB,simprocAttr]
 have w_a0:bq (mp n fun q=>bg a q|| (decide (q<0)&&bg b q))=bq a:=congrArg bq (z9x (f:=fun q=>bg a q|| (decide (q<0)&&bg b q)) hal fun i _=>by simp).symm
 refine z0b (fun e0 s0 m env st=>∃(j nxj lwj:Nat) (sj:Sto),m=n-j∧(j≤n)∧((∀q,q<nx→sget sj q=sget s q))∧sget sj (nx+3)=some (.cells (bq (mp n fun q=>bg a q|| (decide (q<j)&&bg b q))))∧nx+8≤nxj∧0≤lwj∧env.length=42∧env.getD 23 .undef= .d (.int .i64 j)∧env.getD 5 .undef= .arr (nx+3) 1 false 0 n∧env.getD 7 .undef= .arr kb 1 false 0 n∧env.getD 15 .undef= .arr kl 1 false 0 1∧env.getD 16 .undef= .d (.int .i64 1)∧env.getD 17 .undef= .d (.int .i64 0)∧env.getD 22 .undef= .d (.int .i64 n)∧st= {s:=sj,next:=nxj,low:=lwj}) ?_ (n) (by refine⟨0,_,_,_,rfl,ω,(fun q h1=>z00 ω),?_,ω,Nat.zero_le _,?_,?_,?_,?_,?_,?_,?_,?_,rfl⟩<;>simp only[w_len,w_a0,LB,simprocAttr])
 rintro m env st ⟨j,nxj,lwj,sj,hm,j_0,j_1,w_jc0,w_jb,w_jlo,w_len,w_23,w_5,w_7,w_15,w_16,w_17,w_22,rfl⟩
 have w_jN:=cf1 (x:=nxj) (a:=nx+3) ω
 have w_jS:=cf2 (x:=nxj) ω w_jc0
 have w_jZ:=zf (x:=nxj) (b:=nx) (n:=8) ω ω
 by_cases hj:j<n
 ·have hia:∀k,z08 1 (.arr k 1 false 0 n) (j:Int)=some (.ptr k j):=fun k=>z2f hj
  obtain⟨b1,b2,_⟩:=z6a (l:=b) (n:=j) ω
  obtain⟨c1,c2,c3⟩:=z6a (l:=mp n fun q=>bg a q|| (decide (q<j)&&bg b q)) (n:=j) (by rw[z8c];exact hj)
  have hcj:bg (mp n fun q=>bg a q|| (decide (q<j)&&bg b q)) j=bg a j:=by rw[y37 hj];simp
  rw[hcj] at c2
  have hst: (mp n fun q=>bg a q|| (decide (q<j)&&bg b q)).set j (bg a j||bg b j)=mp n fun q=>bg a q|| (decide (q<j+1)&&bg b q):=zm5 hj ψ fun q _ e=>by
   rw[show decide (q<j+1)=decide (q<j) from by congr 1;exact propext ⟨fun h=>ω,fun h=>ω⟩]
  have w_b:= (j_1 kb hkb).trans hb
  have c4:=c3 (bg a j||bg b j)
  rw[hst] at c4
  have c4' :∀x,x= (bg a j||bg b j)→(bq (mp n fun q=>bg a q|| (decide (q<j)&&bg b q))).take j++ [.d (.bool x)]++ (bq (mp n fun q=>bg a q|| (decide (q<j)&&bg b q))).drop (j+1)=bq (mp n fun q=>bg a q|| (decide (q<j+1)&&bg b q)):=fun x e=>by rw[e];exact c4
  cases hva:bg a j<;>cases hvb:bg b j<;>rw[hva] at c2<;>rw[hvb] at b2<;>have c5:=c4' _ (by rw[hva,hvb])<;>simp only[Bool.or_true,Bool.or_false] at c5<;>simp only[hj,hia,b1,b2,c1,c2,c5,z07 hj ω,w_len,w_23,w_5,w_7,w_22,w_jc0,w_b,↓LA,LB,simprocAttr]<;>exact z09 (by refine⟨_,ω,j+1,_,_,_,rfl,ω,fun q h1=> (z01 ω).trans (j_1 q h1),?_,ω,Nat.zero_le _,?_,?_,?_,?_,?_,?_,?_,?_,rfl⟩<;>simp only[w_len,w_5,w_7,w_15,w_16,w_17,w_22,w_jS,LB,simprocAttr])
 ·have hje:j=n:=ω
  have he: (mp n fun q=>bg a q|| (decide (q<j)&&bg b q))=zdf a b:=by
   rw[hje]
   unfold mp zdf
   rw[hal]
   exact List.map_congr_left fun q hq=>by simp[List.mem_range.1 hq]
  simp only[hj,w_len,w_23,w_17,w_22,↓LA,LB,simprocAttr]
  refine zfm ?_
  have hw1:IntKind.i64.wrap 1=1:=by decide
  have h11:decide ((1:Int)<1)=false:=by decide
  simp only[hw1,w_len,w_5,w_16,↓LA,LB,simprocAttr]
  exact⟨Nat.le_trans (show nx≤nxj by omega) (Nat.le_add_right _ _),j_1,nx+3,ω,Nat.lt_of_lt_of_le (show nx+3<nxj by omega) (Nat.le_add_right _ _),rfl,by rw[←he];exact w_jc0⟩
def zp8  {l:Ln}   (hj:j<l.length) (h:bg inn l[j]=false):z8k inn l c i (j+1)=z8k inn l c i j:=by
 have e:l.getD j 0=l[j]:=by simp[hj]
 show (if bg inn (l.getD j 0)=true then _ else _)=_
 rw[e,h,if_neg (by decide)]
def ztc  {l:Ln}   (hj:j<l.length) (h:bg inn l[j]=true):z8k inn l c i (j+1)= (z8k inn l c i j).set i j:=by
 have e:l.getD j 0=l[j]:=by simp[hj]
 show (if bg inn (l.getD j 0)=true then _ else _)=_
 rw[e,h,if_pos rfl]
def Kp (l:List Nat) (E e:List V):Prop:=e.length=E.length∧∀t∈l,e.getD t .undef=E.getD t .undef
def zwi {r:RulesT} {gp:Nat}    {lw:Nat}  (hG:GmA r gp kv gv sv sp S nx sO)   {o:Lb}  
  (hka:ka<nx∧ka≠kv) (hn:nx≤k9∧k9<nx1) (hfr:∀q,q<nx→q≠kv→sget s q=sget sO q) (ha:sget s ka=some (.cells (bq inn))) (hil:inn.length=sp.length) (hc:sget s kv=some (.cells (nq c))) (hcl:c.length=sp.length) (h9:sget s k9=some (.cells (bq o))) (hol:o.length=sp.length) (hi:i<sp.length)
  (w_len:E.length=181) (w_0:E.getD 0 .undef= .ptr gp 0) (w_1:E.getD 1 .undef= .arr ka 1 false 0 sp.length) (w_8:E.getD 8 .undef= .d (.int .i64 (p:Nat))) (w_9:E.getD 9 .undef= .arr k9 1 false 0 sp.length) (w_10:E.getD 10 .undef= .d (.int .i64 (i:Nat)))
  (hQ:∀e s' nx' lw',Kp [0,1,4,5,6,8,9,54,55] E e→(∀q,q<nx→q≠kv→sget s' q=sget sO q)→sget s' k9=some (.cells (bq o))→sget s' kv=some (.cells (nq (if bg o i=true∧(spA sp i).owner=p then z8k inn (spA sp i).next c i (spA sp i).next.length else c)))→nx1≤nx' →Q .nrm e {s:=s',next:=nx',low:=lw' }):
  PC (z0j (z06 G) z0g none T1.q50_92 E {s:=s,next:=nx1,low:=lw}) Q .mk:=by
 have hEl:=w_len
 have hE0:=w_0
 have hE1:=w_1
 have hE8:=w_8
 have hE9:=w_9
 have hf1:=hG.few.1
 have hl1:=hG.lt.1
 have hl2:=hG.lt.2.1
 have hGs:GmC r gp kv gv sv sp S s:=hG.gc.frame fun q hq=>by
  rcases hq with hq|rfl
  ·exact hfr q (hG.lt.2.2 q hq) fun e=>hG.gc.ks (e▸hq)
  ·exact hfr _ hl1 hG.gc.ne.symm
 have hia:∀k,z08 1 (.arr k 1 false 0 sp.length) (i:Int)=some (.ptr k i):=fun k=>z2f hi
 obtain⟨b1,b2,_⟩:=z6a (l:=o) (n:=i) ω
 have w_at:sget s gp=some (.cells [_,_,_,_,_,_]):=hGs.at_
 have w_h9:=h9
 have w_hc:=hc
 have hOw:=fun nx' lw' =>zs3 (nx:=nx') (lw:=lw') (p:=p) hGs hi
 obtain⟨k,cs,nv,_,hk1,hk2,hk3,hk4,hk5,hrd⟩:=GP.spotAt hGs.sp hi
 have hln:=hG.few.2 i hi
 have hlt:=hG.so.lt i hi
 obtain⟨l,hl⟩:∃l,l= (spA sp i).next:=⟨_,rfl⟩
 rw[←hl] at hrd hln hlt hQ
 have w_nv:=hrd.cell
 have w_nb:=hrd.beq
 have hnl:=hrd.len
 unfold T1.q50_92
 have hend:∀e s' nx' lw',Kp [0,1,4,5,6,8,9,54,55] E e→s' =s→nx1≤nx' →(bg o i=true∧(spA sp i).owner=p→False)→Q .nrm e {s:=s',next:=nx',low:=lw' } :=fun e s' nx' lw' h1 h2 h3 h4=>by
  subst h2
  refine hQ e _ nx' lw' h1 hfr h9 ?_ h3
  rw[if_neg h4];exact hc
 cases hb:bg o i with
 |false=>
  rw[hb] at b2
  simp only[hia,b1,b2,w_len,w_9,w_10,w_h9,↓LA,LB,simprocAttr]
  refine hend _ _ _ _ ⟨?_,?_⟩ rfl (Nat.le_add_right _ _) fun h=>by rw[hb] at h;cases h.1
  ·simp only[w_len,LB,simprocAttr]
  ·intro t ht
   simp only[List.mem_cons,List.not_mem_nil,or_false] at ht
   rcases ht with rfl|rfl|rfl|rfl|rfl|rfl|rfl|rfl|rfl<;>simp only[w_0,w_1,w_8,w_9,LB,simprocAttr]
 |true=>
  rw[hb] at b2
  by_cases hp: (spA sp i).owner=p
  ·rw[decide_eq_true hp] at hOw
   have hd2: (cs.drop (i*4+2)).take 1= [nv]:=by
    have e1: (cs.drop (i*4)).take 4=_:=hk5
    have:=congrArg (fun z:List V=> (z.drop 2).take 1) e1
    simp only[List.drop_take,List.drop_drop,List.take_take] at this
    exact this
   have hc2:i*4+2+1≤cs.length:=ω
   simp only[hia,b1,b2,hOw,hk3,hk2,hd2,hc2,hnl,w_len,w_0,w_8,w_9,w_10,w_at,w_h9,↓LA,LB,simprocAttr]
   have w_l0:z8k inn l c i 0=c:=rfl
   refine z0b (fun e0 s0 m env st=>∃(j nxj lwj:Nat) (sj:Sto),m=l.length-j∧(j≤l.length)∧((∀q,q<nx→q≠kv→sget sj q=sget sO q))∧sget sj (k9)=some (.cells (bq o))∧sget sj (kv)=some (.cells (nq (z8k inn l c i j)))∧nx1≤nxj∧0≤lwj∧env.length=181∧env.getD 114 .undef= .d (.int .i64 j)∧env.getD 0 .undef= .ptr gp 0∧env.getD 1 .undef= .arr ka 1 false 0 sp.length∧env.getD 4 .undef=E.getD 4 .undef∧env.getD 5 .undef=E.getD 5 .undef∧env.getD 6 .undef=E.getD 6 .undef∧env.getD 8 .undef= .d (.int .i64 (p:Nat))∧env.getD 9 .undef= .arr k9 1 false 0 sp.length∧env.getD 10 .undef= .d (.int .i64 (i:Nat))∧env.getD 54 .undef=E.getD 54 .undef∧env.getD 55 .undef=E.getD 55 .undef∧env.getD 112 .undef=nv∧env.getD 113 .undef= .d (.int .i64 l.length)∧st= {s:=sj,next:=nxj,low:=lwj}) ?_ (l.length) (by refine⟨0,_,_,_,rfl,ω,hfr,?_,?_,ω,Nat.zero_le _,?_,?_,?_,?_,?_,?_,?_,?_,?_,?_,?_,?_,?_,?_,rfl⟩<;>simp (maxDischargeDepth:=60) only[w_len,w_0,w_1,w_8,w_9,w_10,w_h9,w_hc,w_l0,LB,simprocAttr])
   rintro m env st ⟨j,nxj,lwj,sj,hm,j_0,j_1,w_jc0,w_jc1,w_jb,w_jlo,w_len,w_114,w_0,w_1,w_4,w_5,w_6,w_8,w_9,w_10,w_54,w_55,w_112,w_113,rfl⟩
   have w_jN:=aI (cf1 (x:=nxj) (a:=k9) ω) (cf1 (x:=nxj) (a:=kv) ω)
   have w_jS:=aI (cf2 (x:=nxj) ω w_jc0) (cf2 (x:=nxj) ω w_jc1)
   by_cases hj:j<l.length
   ·obtain⟨pp,hp1,hp2⟩:=hrd.rd j hj
    have hp3:=fun nx' lw' =>hp2 sj nx' lw' fun q hq=> (j_1 q (hG.lt.2.2 q hq) fun e=>hG.gc.ks (e▸hq)).trans (hfr q (hG.lt.2.2 q hq) fun e=>hG.gc.ks (e▸hq)).symm
    have hnn:=hlt _ (List.getElem_mem hj)
    have hin:∀k,z08 1 (.arr k 1 false 0 sp.length) (l[j]:Int)=some (.ptr k l[j]):=fun k=>z2f hnn
    obtain⟨d1,d2,_⟩:=z6a (l:=inn) (n:=l[j]) ω
    obtain⟨c1,c2⟩:=zxj (l:=z8k inn l c i j) (n:=i) (by rw[zc4];omega)
    have c3:=c2 j
    have w_ki:sget sj ka=some (.cells (bq inn)):= (j_1 ka hka.1 hka.2).trans ((hfr ka hka.1 hka.2).symm.trans ha)
    have w_at:sget sj gp=some (.cells [_,_,_,_,_,_]):= (j_1 gp hl1 hG.gc.ne.symm).trans hG.gc.at_
    have w_kn: (kv=k9)=False∧(k9=kv)=False:=⟨by simp;omega,by simp;omega⟩
    cases hni:bg inn l[j] with
    |false=>
     rw[hni] at d2
     have w_ls:=zp8 (c:=c) (i:=i) hj hni
     simp only[hj,hp1,hp3,hin,d1,d2,z07 hj ω,w_len,w_114,w_1,w_112,w_113,w_ki,↓LA,LB,simprocAttr]
     exact z09 (by refine⟨_,ω,j+1,_,_,_,rfl,ω,j_1,?_,?_,ω,Nat.zero_le _,?_,?_,?_,?_,?_,?_,?_,?_,?_,?_,?_,?_,?_,?_,rfl⟩<;>simp only[w_len,w_0,w_1,w_4,w_5,w_6,w_8,w_9,w_10,w_54,w_55,w_112,w_113,w_jc0,w_jc1,w_ls,LB,simprocAttr])
    |true=>
     rw[hni] at d2
     have w_ls:=ztc (c:=c) (i:=i) hj hni
     simp only[hj,hp1,hp3,hin,hia,d1,d2,c1,c3,z07 hj ω,w_len,w_114,w_0,w_1,w_10,w_112,w_113,w_jc1,w_ki,w_at,↓LA,LB,simprocAttr]
     exact z09 (by refine⟨_,ω,j+1,_,_,_,rfl,ω,fun q h1 h2=> (z01 (Ne.symm h2)).trans (j_1 q h1 h2),?_,?_,ω,Nat.zero_le _,?_,?_,?_,?_,?_,?_,?_,?_,?_,?_,?_,?_,?_,?_,rfl⟩<;>simp only[w_len,w_0,w_1,w_4,w_5,w_6,w_8,w_9,w_10,w_54,w_55,w_112,w_113,w_jc0,w_jS,w_kn,w_ls,LB,simprocAttr])
   ·have hje:j=l.length:=ω
    simp only[hj,w_len,w_114,w_113,↓LA,LB,simprocAttr]
    refine hQ _ _ _ _ ⟨?_,?_⟩ j_1 w_jc0 ?_ (Nat.le_trans w_jb (Nat.le_add_right _ _))
    ·simp only[hEl,w_len,LB,simprocAttr]
    ·intro t ht
     simp only[List.mem_cons,List.not_mem_nil,or_false] at ht
     rcases ht with rfl|rfl|rfl|rfl|rfl|rfl|rfl|rfl|rfl<;>simp only[hE0,hE1,hE8,hE9,w_0,w_1,w_4,w_5,w_6,w_8,w_9,w_54,w_55,LB,simprocAttr]
    ·rw[if_pos ⟨hb,hp⟩,←hje];exact w_jc1
  ·rw[decide_eq_false hp] at hOw
   simp only[hia,b1,b2,hOw,w_len,w_0,w_8,w_9,w_10,w_at,w_h9,↓LA,LB,simprocAttr]
   refine hend _ _ _ _ ⟨?_,?_⟩ rfl (Nat.le_add_right _ _) fun h=>hp h.2
   ·simp only[w_len,LB,simprocAttr]
   ·intro t ht
    simp only[List.mem_cons,List.not_mem_nil,or_false] at ht
    rcases ht with rfl|rfl|rfl|rfl|rfl|rfl|rfl|rfl|rfl<;>simp only[w_0,w_1,w_8,w_9,LB,simprocAttr]
def zwj {r:RulesT} {gp:Nat}    {lw:Nat}  (hG:GmA r gp kv gv sv sp S nx sO)   {kk:Int} {o:Lb}  
  (hka:ka<nx∧ka≠kv) (hn:nx≤k9∧k9<nx1) (hfr:∀q,q<nx→q≠kv→sget s q=sget sO q) (ha:sget s ka=some (.cells (bq inn))) (hil:inn.length=sp.length) (hc:sget s kv=some (.cells (nq c))) (hcl:c.length=sp.length) (h9:sget s k9=some (.cells (bq o))) (hol:o.length=sp.length) (hi:i<sp.length)
  (w_len:E.length=181) (w_0:E.getD 0 .undef= .ptr gp 0) (w_1:E.getD 1 .undef= .arr ka 1 false 0 sp.length) (w_6:E.getD 6 .undef= .d (.int .i64 kk)) (w_8:E.getD 8 .undef= .d (.int .i64 (p:Nat))) (w_9:E.getD 9 .undef= .arr k9 1 false 0 sp.length) (w_10:E.getD 10 .undef= .d (.int .i64 (i:Nat)))
  (hQ:∀e s' nx' lw',Kp [0,1,4,5,6,8,9,54,55] E e→(∀q,q<nx→q≠kv→sget s' q=sget sO q)→sget s' k9=some (.cells (bq (o.set i (topB sp inn kk i))))→sget s' kv=some (.cells (nq (if topB sp inn kk i=true∧(spA sp i).owner=p then z8k inn (spA sp i).next c i (spA sp i).next.length else c)))→nx1≤nx' →Q .nrm e {s:=s',next:=nx',low:=lw' }):
  PC (z0j (z06 G) z0g none T1.q50_58 E {s:=s,next:=nx1,low:=lw}) Q .mk:=by
 have hEl:=w_len
 have hE0:=w_0
 have hE1:=w_1
 have hE6:=w_6
 have hE8:=w_8
 have hE9:=w_9
 have hf1:=hG.few.1
 have hl1:=hG.lt.1
 have hl2:=hG.lt.2.1
 have hGs:GmC r gp kv gv sv sp S s:=hG.gc.frame fun q hq=>by
  rcases hq with hq|rfl
  ·exact hfr q (hG.lt.2.2 q hq) fun e=>hG.gc.ks (e▸hq)
  ·exact hfr _ hl1 hG.gc.ne.symm
 have hia:∀k,z08 1 (.arr k 1 false 0 sp.length) (i:Int)=some (.ptr k i):=fun k=>z2f hi
 obtain⟨a1,a2,_⟩:=z6a (l:=inn) (n:=i) ω
 obtain⟨b1,_,b3⟩:=z6a (l:=o) (n:=i) ω
 have b4:=b3 (topB sp inn kk i)
 have w_at:sget s gp=some (.cells [_,_,_,_,_,_]):=hGs.at_
 have w_h9:=h9
 have w_ha:=ha
 obtain⟨k,cs,nv,_,hk1,hk2,hk3,hk4,hk5,_⟩:=GP.spotAt hGs.sp hi
 have hd0: (cs.drop (i*4)).take 1= [.d (.int .i64 ((spA sp i).owner:Nat))]:=by
  have:=congrArg (List.take 1) hk5
  rwa [List.take_take] at this
 have hc0:i*4+1≤cs.length:=ω
 have hd1: (cs.drop (i*4+1)).take 1= [.d (.int .i64 (spA sp i).rank)]:=by
  have:=congrArg (fun z:List V=> (z.drop 1).take 1) hk5
  simp only[List.drop_take,List.drop_drop,List.take_take] at this
  exact this
 have hc1:i*4+1+1≤cs.length:=ω
 obtain⟨R,hR⟩:∃R:IC,R=T1.q50_92:=⟨_,rfl⟩
 have hbi:bg (o.set i (topB sp inn kk i)) i=topB sp inn kk i:=by rw[zep ω,if_pos rfl]
 have fin:∀E' nx' lw',nx1≤nx' →E'.length=181→(∀t∈ [0,1,4,5,6,8,9,54,55],E'.getD t .undef=E.getD t .undef)→E'.getD 10 .undef= .d (.int .i64 (i:Nat))→PC (z0j (z06 G) z0g none R E' {s:=sset s k9 (.cells (bq (o.set i (topB sp inn kk i)))),next:=nx',low:=lw' }) Q .mk:=by
  intro E' nx' lw' g1 g2 g3 g4
  rw[hR]
  have hne:∀q,q≠k9→sget (sset s k9 (.cells (bq (o.set i (topB sp inn kk i))))) q=sget s q:=fun q h=>z01 (Ne.symm h)
  refine zwi (p:=p) hG hka ⟨hn.1,ω⟩ (fun q h1 h2=> (hne q ω).trans (hfr q h1 h2)) ((hne ka ω).trans ha) hil ((hne kv ω).trans hc) hcl (z05 h9) (by rw[List.length_set];exact hol) hi g2 ((g3 0 ψ).trans hE0) ((g3 1 ψ).trans hE1) ((g3 8 ψ).trans hE8) ((g3 9 ψ).trans hE9) g4 ?_
  intro e s' nx2 lw2 h1 h2 h3 h4 h5
  rw[hbi] at h4
  exact hQ e s' nx2 lw2 ⟨h1.1.trans (g2.trans hEl.symm),fun t ht=> (h1.2 t ht).trans (g3 t ht)⟩ h2 h3 h4 ω
 unfold T1.q50_58
 rw[←hR]
 cases hv:bg inn i with
 |false=>
  have ht:topB sp inn kk i=false:=by unfold topB;rw[hv];rfl
  rw[hv] at a2
  rw[ht] at b4 fin
  simp only[hia,a1,a2,b1,b4,w_len,w_1,w_9,w_10,w_h9,w_ha,↓LA,LB,simprocAttr]
  refine fin _ _ _ (Nat.le_add_right _ _) ?_ ?_ ?_
  ·simp only[w_len,LB]
  ·intro t ht
   simp only[List.mem_cons,List.not_mem_nil,or_false] at ht
   rcases ht with rfl|rfl|rfl|rfl|rfl|rfl|rfl|rfl|rfl<;>simp only[hE0,hE1,hE6,hE8,hE9,LB,simprocAttr]
  ·simp only[w_10,LB,simprocAttr]
 |true=>
  rw[hv] at a2
  by_cases hr: (spA sp i).rank=kk
  ·by_cases h0:0<kk
   ·have ht:topB sp inn kk i=true:=by unfold topB;simp[hv,hr,h0]
    rw[ht] at b4 fin
    simp only[hia,a1,a2,b1,b4,hk3,hk2,hd1,hc1,hr,h0,w_len,w_0,w_1,w_6,w_9,w_10,w_at,w_h9,w_ha,↓LA,LB,simprocAttr]
    refine fin _ _ _ (Nat.le_add_right _ _) ?_ ?_ ?_
    ·simp only[w_len,LB]
    ·intro t ht
     simp only[List.mem_cons,List.not_mem_nil,or_false] at ht
     rcases ht with rfl|rfl|rfl|rfl|rfl|rfl|rfl|rfl|rfl<;>simp only[hE0,hE1,hE6,hE8,hE9,LB,simprocAttr]
    ·simp only[w_10,LB,simprocAttr]
   ·by_cases ho: (spA sp i).owner=0
    ·have ht:topB sp inn kk i=true:=by unfold topB;simp[hv,hr,ho]
     rw[ht] at b4 fin
     have ho' : (((spA sp i).owner:Int)=0)=True:=by simp[ho]
     simp only[hia,a1,a2,b1,b4,hk3,hk2,hd0,hc0,hd1,hc1,hr,h0,ho',w_len,w_0,w_1,w_6,w_9,w_10,w_at,w_h9,w_ha,↓LA,LB,simprocAttr]
     refine fin _ _ _ (Nat.le_add_right _ _) ?_ ?_ ?_
     ·simp only[w_len,LB]
     ·intro t ht
      simp only[List.mem_cons,List.not_mem_nil,or_false] at ht
      rcases ht with rfl|rfl|rfl|rfl|rfl|rfl|rfl|rfl|rfl<;>simp only[hE0,hE1,hE6,hE8,hE9,LB,simprocAttr]
     ·simp only[w_10,LB,simprocAttr]
    ·have ht:topB sp inn kk i=false:=by unfold topB;simp[hr,h0,ho]
     rw[ht] at b4 fin
     have ho' : (((spA sp i).owner:Int)=0)=False:=by simp[ho]
     simp only[hia,a1,a2,b1,b4,hk3,hk2,hd0,hc0,hd1,hc1,hr,h0,ho',w_len,w_0,w_1,w_6,w_9,w_10,w_at,w_h9,w_ha,↓LA,LB,simprocAttr]
     refine fin _ _ _ (Nat.le_add_right _ _) ?_ ?_ ?_
     ·simp only[w_len,LB]
     ·intro t ht
      simp only[List.mem_cons,List.not_mem_nil,or_false] at ht
      rcases ht with rfl|rfl|rfl|rfl|rfl|rfl|rfl|rfl|rfl<;>simp only[hE0,hE1,hE6,hE8,hE9,LB,simprocAttr]
     ·simp only[w_10,LB,simprocAttr]
  ·have ht:topB sp inn kk i=false:=by unfold topB;simp[hr]
   rw[ht] at b4 fin
   have hr' : ((spA sp i).rank=kk)=False:=by simp[hr]
   simp only[hia,a1,a2,b1,b4,hk3,hk2,hd1,hc1,hr',w_len,w_0,w_1,w_6,w_9,w_10,w_at,w_h9,w_ha,↓LA,LB,simprocAttr]
   refine fin _ _ _ (Nat.le_add_right _ _) ?_ ?_ ?_
   ·simp only[w_len,LB]
   ·intro t ht
    simp only[List.mem_cons,List.not_mem_nil,or_false] at ht
    rcases ht with rfl|rfl|rfl|rfl|rfl|rfl|rfl|rfl|rfl<;>simp only[hE0,hE1,hE6,hE8,hE9,LB,simprocAttr]
   ·simp only[w_10,LB,simprocAttr]
def zwk {r:RulesT} {gp:Nat}    {lw:Nat}  (hG:GmA r gp kv gv sv sp S nx sO)   {kk:Int}   
  (hka:ka<nx∧ka≠kv) (hn:nx≤nx1) (hfr:∀q,q<nx→q≠kv→sget s q=sget sO q) (ha:sget s ka=some (.cells (bq inn))) (hil:inn.length=sp.length) (hc:sget s kv=some (.cells (nq c))) (hcl:c.length=sp.length)
  (w_len:E.length=181) (w_0:E.getD 0 .undef= .ptr gp 0) (w_1:E.getD 1 .undef= .arr ka 1 false 0 sp.length) (w_6:E.getD 6 .undef= .d (.int .i64 kk)) (w_8:E.getD 8 .undef= .d (.int .i64 (p:Nat)))
  (hQ:∀e s' k9 nx' lw',Kp [0,1,4,5,6,8] E e→(∀q,q<nx→q≠kv→sget s' q=sget sO q)→nx≤k9→k9<nx' →e.getD 9 .undef= .arr k9 1 false 0 sp.length→sget s' k9=some (.cells (bq (topN sp inn kk p c sp.length).1))→sget s' kv=some (.cells (nq (topN sp inn kk p c sp.length).2))→nx1≤nx' →PC (z0j (z06 G) z0g none T1.q50_132 e {s:=s',next:=nx',low:=lw' }) Q .mk):
  PC (z0j (z06 G) z0g none T1.q50_50 E {s:=s,next:=nx1,low:=lw}) Q .mk:=by
 have hEl:=w_len
 have hE0:=w_0
 have hE1:=w_1
 have hE6:=w_6
 have hE8:=w_8
 have hf1:=hG.few.1
 have hl1:=hG.lt.1
 have hl2:=hG.lt.2.1
 have hmk:=fun key st=>zpu (key:=key) (n:=sp.length) (st:=st) ω
 obtain⟨R,hR⟩:∃R:IC,R=T1.q50_58:=⟨_,rfl⟩
 obtain⟨R',hR'⟩:∃R:IC,R=T1.q50_132:=⟨_,rfl⟩
 have w_t0:topN sp inn kk p c 0= (z4q sp.length,c):=rfl
 have w_kz: (∀q,(nx1+q=kv)=False)∧(nx1=kv)=False:=⟨fun q=>by simp;omega,by simp;omega⟩
 have w_hc:=hc
 unfold T1.q50_50
 rw[←hR,←hR']
 simp only[hmk,w_len,w_1,↓LA,LB,simprocAttr]
 refine z0b (fun e0 s0 m env st=>∃(i nxi lwi:Nat) (si:Sto),m=sp.length-i∧(i≤sp.length)∧((∀q,q<nx→q≠kv→sget si q=sget sO q))∧sget si (nx1+2)=some (.cells (bq (topN sp inn kk p c i).1))∧sget si (kv)=some (.cells (nq (topN sp inn kk p c i).2))∧nx1+4≤nxi∧0≤lwi∧env.length=181∧env.getD 55 .undef= .d (.int .i64 i)∧env.getD 0 .undef= .ptr gp 0∧env.getD 1 .undef= .arr ka 1 false 0 sp.length∧env.getD 4 .undef=E.getD 4 .undef∧env.getD 5 .undef=E.getD 5 .undef∧env.getD 6 .undef= .d (.int .i64 kk)∧env.getD 8 .undef= .d (.int .i64 (p:Nat))∧env.getD 9 .undef= .arr (nx1+2) 1 false 0 sp.length∧env.getD 54 .undef= .d (.int .i64 sp.length)∧st= {s:=si,next:=nxi,low:=lwi}) ?_ (sp.length) (by refine⟨0,_,_,_,rfl,ω,(fun q h1 h2=> (z00 ω).trans (hfr q h1 h2)),?_,?_,ω,Nat.zero_le _,?_,?_,?_,?_,?_,?_,?_,?_,?_,?_,rfl⟩<;>simp (maxDischargeDepth:=60) only[w_len,w_0,w_1,w_6,w_8,w_t0,w_kz,w_hc,LB,simprocAttr])
 rintro m env st ⟨i,nxi,lwi,si,hm,i_0,i_1,w_ic0,w_ic1,w_ib,w_ilo,w_len,w_55,w_0,w_1,w_4,w_5,w_6,w_8,w_9,w_54,rfl⟩
 have w_iN:=aI (cf1 (x:=nxi) (a:=nx1+2) ω) (cf1 (x:=nxi) (a:=kv) ω)
 have w_iS:=aI (cf2 (x:=nxi) ω w_ic0) (cf2 (x:=nxi) ω w_ic1)
 have w_iZ:=zf (x:=nxi) (b:=nx1) (n:=4) ω ω
 have hlT:=z4s (sp:=sp) (inn:=inn) (k:=kk) (p:=p) (c:=c) (m:=i)
 by_cases hi:i<sp.length
 ·simp only[hi,w_len,w_55,w_54,↓LA,LB,simprocAttr]
  rw[hR]
  refine zwj (p:=p) (kk:=kk) (k9:=nx1+2) hG hka ⟨ω,ω⟩ i_1 ((i_1 ka hka.1 hka.2).trans ((hfr ka hka.1 hka.2).symm.trans ha)) hil w_ic1 (hlT.2.trans hcl) w_ic0 hlT.1 hi (by simp only[w_len,LB,simprocAttr]) (by simp only[w_0,LB,simprocAttr]) (by simp only[w_1,LB,simprocAttr]) (by simp only[w_6,LB,simprocAttr]) (by simp only[w_8,LB,simprocAttr]) (by simp only[w_9,LB,simprocAttr]) (by simp only[w_len,LB,simprocAttr]) ?_
  intro e s' nx' lw' h1 h2 h3 h4 h5
  obtain⟨h6,h7⟩:=h1
  have w_len:e.length=181:=h6.trans (by simp only[w_len,LB,simprocAttr])
  have w_0:e.getD 0 .undef= .ptr gp 0:= (h7 0 ψ).trans (by simp only[w_0,LB,simprocAttr])
  have w_1:e.getD 1 .undef= .arr ka 1 false 0 sp.length:= (h7 1 ψ).trans (by simp only[w_1,LB,simprocAttr])
  have w_4:e.getD 4 .undef=E.getD 4 .undef:= (h7 4 ψ).trans (by simp only[w_4,LB,simprocAttr])
  have w_5:e.getD 5 .undef=E.getD 5 .undef:= (h7 5 ψ).trans (by simp only[w_5,LB,simprocAttr])
  have w_6:e.getD 6 .undef= .d (.int .i64 kk):= (h7 6 ψ).trans (by simp only[w_6,LB,simprocAttr])
  have w_8:e.getD 8 .undef= .d (.int .i64 (p:Nat)):= (h7 8 ψ).trans (by simp only[w_8,LB,simprocAttr])
  have w_9:e.getD 9 .undef= .arr (nx1+2) 1 false 0 sp.length:= (h7 9 ψ).trans (by simp only[w_9,LB,simprocAttr])
  have w_54:e.getD 54 .undef= .d (.int .i64 sp.length):= (h7 54 ψ).trans (by simp only[w_54,LB,simprocAttr])
  have w_55:e.getD 55 .undef= .d (.int .i64 (i:Nat)):= (h7 55 ψ).trans (by simp only[w_55,LB,simprocAttr])
  have w_s2:sget s' (nx1+2)=some (.cells (bq (topN sp inn kk p c (i+1)).1)):=h3
  have w_s3:sget s' kv=some (.cells (nq (topN sp inn kk p c (i+1)).2)):=h4
  simp only[z07 hi ω,w_len,w_55,↓LA,LB,simprocAttr]
  exact z09 (by refine⟨_,ω,i+1,_,_,_,rfl,ω,h2,?_,?_,ω,Nat.zero_le _,?_,?_,?_,?_,?_,?_,?_,?_,?_,?_,rfl⟩<;>simp only[w_len,w_0,w_1,w_6,w_8,w_4,w_5,w_9,w_54,w_s2,w_s3,LB,simprocAttr])
 ·have hie:i=sp.length:=ω
  subst hie
  simp only[hi,w_len,w_55,w_54,↓LA,LB,simprocAttr]
  rw[hR']
  refine hQ _ _ (nx1+2) _ _ ⟨?_,?_⟩ i_1 ω ?_ ?_ w_ic0 w_ic1 ?_
  ·simp only[hEl,w_len,LB,simprocAttr]
  ·intro t ht
   simp only[List.mem_cons,List.not_mem_nil,or_false] at ht
   rcases ht with rfl|rfl|rfl|rfl|rfl|rfl<;>simp only[hE0,hE1,hE6,hE8,w_0,w_1,w_4,w_5,w_6,w_8,LB,simprocAttr]
  ·omega
  ·simp only[w_9,LB,simprocAttr]
  ·omega
def SolR (sO:Sto) (nx kv ka n:Nat) (w:WS) (v:V) (st:St):Prop:=
 nx≤st.next∧(∀q,q<nx→q≠kv→sget st.s q=sget sO q)∧sget st.s kv=some (.cells (nq w.c))∧
  ∃k1 k2,(k1<st.next∧(nx≤k1∨k1=ka))∧(k2<st.next∧(nx≤k2∨k2=ka))∧v=mkAgg [.arr k1 1 false 0 n,.arr k2 1 false 0 n]∧sget st.s k1=some (.cells (bq w.a))∧sget st.s k2=some (.cells (bq w.b))
def SolI (r:RulesT) (gp kv:Nat) (gv sv:V) (sp:List SpotT) (S:Nat→Prop) (m:Nat):Prop:=
 ∀(inn:List Bool) (c:List Nat) (ka:Nat) (s:Sto) (nx lw:Nat),cnt inn<m→GmA r gp kv gv sv sp S nx s→sget s kv=some (.cells (nq c))→c.length=sp.length→ka<nx→ka≠kv→sget s ka=some (.cells (bq inn))→inn.length=sp.length→Tot sp inn→
  PostV (z06 G (.fn 50 [] []) [.ptr gp 0,.arr ka 1 false 0 sp.length] {s:=s,next:=nx,low:=lw}) (SolR s nx kv ka sp.length (z2x sp inn c))
theorem nat0: ((0:Nat):Int)=0:=rfl
theorem iA0 {h:Nat} :z1i 2 1 (.ptr h 0) 0=some (.ptr h 0):=rfl
theorem iA1 {h:Nat} :z1i 2 1 (.ptr h 0) 1=some (.ptr h 1):=rfl
def zr1    (h0:cnt inn≠0)  (hp:p=z6f (z1q sp inn sp.length)) {near:DS} {won:WS} (hn:near=zbs sp inn c) (hl:cnt (outS inn near.1)<cnt inn) (hw:won=z2x sp (outS inn near.1) near.2):
  (cnt (won.of (1-p))=0→z2x sp inn c=WS.mk2 p inn (z4q inn.length) won.c)∧
  (cnt (won.of (1-p))≠0→∀lost again,lost=drawS sp inn (1-p) (won.of (1-p),won.c)→cnt (outS inn lost.1)<cnt inn→again=z2x sp (outS inn lost.1) lost.2→z2x sp inn c=WS.mk2 p (again.of p) (zdf (again.of (1-p)) lost.1) again.c):=by
 subst hp hn hw
 constructor
 ·intro h
  rw[z2x,if_neg h0,if_pos hl]
  simp only
  rw[if_pos h]
 ·intro h lost again h1 h2 h3
  subst h1 h3
  rw[z2x,if_neg h0,if_pos hl]
  simp only
  rw[if_neg h,if_pos h2]
def y34 {r:RulesT} {gp:Nat}    {lw lw0:Nat}  (hG:GmA r gp kv gv sv sp S nx sO)  {k4 k5:Nat}  (hI:SolI r gp kv gv sv sp S (cnt inn)) 
  (hka:ka<nx∧ka≠kv) (hn:nx≤nx1) (hfr:∀q,q<nx→q≠kv→sget s q=sget sO q) (ha:sget s ka=some (.cells (bq inn))) (hil:inn.length=sp.length) (ht:Tot sp inn) (h0:cnt inn≠0) {o:DS} (hc:sget s kv=some (.cells (nq o.2))) (hcl:c.length=sp.length)
  (hp:p=z6f (z1q sp inn sp.length)) (ho:o=topN sp inn (z1q sp inn sp.length) p c sp.length) (h9:sget s k9=some (.cells (bq o.1))) (hk9:nx≤k9∧k9<nx1) (hk4:nx≤k4∧k4<nx1) (h4:sget s k4=some (.cells [.nilS,.nilS])) (hk5:nx≤k5∧k5<nx1) (h5:sget s k5=some (.cells (bq (z4q sp.length)))) (h45:k4≠k5)
  (w_len:E.length=181) (w_0:E.getD 0 .undef= .ptr gp 0) (w_1:E.getD 1 .undef= .arr ka 1 false 0 sp.length) (w_4:E.getD 4 .undef= .ptr k4 0) (w_5:E.getD 5 .undef= .arr k5 1 false 0 sp.length) (w_8:E.getD 8 .undef= .d (.int .i64 (p:Nat))) (w_9:E.getD 9 .undef= .arr k9 1 false 0 sp.length):
  PC (z0j (z06 G) z0g none T1.q50_132 E {s:=s,next:=nx1,low:=lw}) (RS [.cell 4 2 true] (SolR sO nx kv ka sp.length (z2x sp inn c)) .mk lw0) .mk:=by
 have hf1:=hG.few.1
 have hl1:=hG.lt.1
 have hl2:=hG.lt.2.1
 have hs:=hG.so
 have hol:o.1.length=sp.length∧o.2.length=sp.length:=by rw[ho];exact⟨z4s.1,z4s.2.trans hcl⟩
 have hnear:zbs sp inn c=drawS sp inn p o:=by rw[ho,hp];rfl
 have hD:Drawn sp inn p o (drawS sp inn p o):=drawn hol.1
 have hless:=zhq (c:=c) hs hil ht h0
 rw[hnear] at hless
 have htn:=hD.tot hs hol.1 hil ht
 have hG1:GmA r gp kv gv sv sp S nx1 s:=hG.frame hn hfr
 have hwn:=z82 hs _ (c:= (drawS sp inn p o).2) (Nat.le_refl _) (outS_len.trans hil) htn
 have hS:=zr1 h0 hp hnear.symm hless rfl
 have hp01:p=0∨p=1:=by rw[hp];unfold z6f;split<;>simp
 unfold T1.q50_132
 simp (maxDischargeDepth:=60) only[w_len,w_0,w_1,w_8,w_9,↓LA,LB,simprocAttr]
 refine z0d (z8q (nx:=nx1+6) (p:=p) (hG.frame ω hfr) hc hol.2 ⟨ω,hka.2⟩ ω ha h9 hil hol.1) fun v st hR=> ?_
 obtain⟨hn2,hf2,hc2,kn,hkn1,hkn2,rfl,hkn⟩:=hR
 obtain⟨s2,n2,lw2⟩:=st
 have hn2:nx1+6≤n2:=hn2
 have hf2:∀q,q<nx1+6→q≠kv→sget s2 q=sget s q:=hf2
 have hkn2:kn<n2:=hkn2
 have hkn:sget s2 kn=_:=hkn
 have hc2:sget s2 kv=_:=hc2
 obtain⟨near,hne⟩:∃near,near=drawS sp inn p o:=⟨_,rfl⟩
 rw[show (o.1,o.2)=o from rfl,←hne] at hc2 hkn
 rw[←hne] at hS hD hless htn hwn
 have ha2:sget s2 ka=some (.cells (bq inn)):= (hf2 ka ω hka.2).trans ha
 simp (maxDischargeDepth:=60) only[w_len,w_0,w_1,↓LA,LB,simprocAttr]
 refine z0d (z59 (nx:=n2+7) ω hil (hD.len.1.trans hol.1) ω ω ha2 hkn) fun v st hR=> ?_
 obtain⟨hn3,hf3,kw,hkw1,hkw2,rfl,hkw⟩:=hR
 obtain⟨s3,n3,lw3⟩:=st
 have hn3:n2+7≤n3:=hn3
 have hf3:∀q,q<n2+7→sget s3 q=sget s2 q:=hf3
 have hkw2:kw<n3:=hkw2
 have hkw:sget s3 kw=_:=hkw
 have hfr3:∀q,q<nx→q≠kv→sget s3 q=sget sO q:=fun q h1 h2=> (hf3 q ω).trans ((hf2 q ω h2).trans (hfr q h1 h2))
 simp (maxDischargeDepth:=60) only[w_len,↓LA,LB,simprocAttr]
 refine z0d (hI _ near.2 kw s3 _ _ hless (hG.frame ω hfr3) ((hf3 kv ω).trans hc2) (hD.len.2.trans hol.2) ω ω hkw (outS_len.trans hil) htn) fun v st hR=> ?_
 obtain⟨hn4,hf4,hc4,x1,x2,hx1,hx2,rfl,hw1,hw2⟩:=hR
 obtain⟨s4,n4,lw4⟩:=st
 have hn4:n3≤n4:=hn4
 have hf4:∀q,q<n3→q≠kv→sget s4 q=sget s3 q:=hf4
 have hx1:x1<n4∧(n3≤x1∨x1=kw):=hx1
 have hx2:x2<n4∧(n3≤x2∨x2=kw):=hx2
 obtain⟨won,hwe⟩:∃won,won=z2x sp (outS inn near.1) near.2:=⟨_,rfl⟩
 rw[←hwe] at hw1 hw2 hc4 hS hwn
 have hw1:sget s4 x1=_:=hw1
 have hw2:sget s4 x2=_:=hw2
 have hc4:sget s4 kv=_:=hc4
 simp (maxDischargeDepth:=60) only[w_len,w_8,↓LA,LB,simprocAttr]
 have hwz:IntKind.i64.wrap 1=1∧IntKind.i64.wrap 0=0:=⟨by decide,by decide⟩
 have hfr4:∀q,q<nx→q≠kv→sget s4 q=sget sO q:=fun q h1 h2=> (hf4 q ω h2).trans (hfr3 q h1 h2)
 have h44:sget s4 k4=some (.cells [.nilS,.nilS]):= (hf4 k4 ω ω).trans ((hf3 k4 ω).trans ((hf2 k4 ω ω).trans h4))
 have h54:sget s4 k5=some (.cells (bq (z4q sp.length))):= (hf4 k5 ω ω).trans ((hf3 k5 ω).trans ((hf2 k5 ω ω).trans h5))
 have ha4:sget s4 ka=some (.cells (bq inn)):= (hfr4 ka hka.1 hka.2).trans ((hfr ka hka.1 hka.2).symm.trans ha)
 rcases hp01 with rfl|rfl
 ·rw[show won.of (1-0)=won.b from rfl] at hS
  have hQl:won.b.length=sp.length:=hwn.lb.trans (outS_len.trans hil)
  have hsm:=fun nx' lw' =>zbc (s:= (n2+5,Obj.cells [V.arr x1 1 false 0 sp.length,V.arr x2 1 false 0 sp.length])::s4) (k:=x2) (n:=sp.length) (nx:=nx') (lw:=lw') (l:=won.b) ω hQl ((z00 ω).trans hw2)
  by_cases hz:cnt won.b=0
  ·rw[show decide (cnt won.b≠0)=false by simp[hz]] at hsm
   have w_k4: (∀q,(n4+q=k4)=False)∧(n2+5=k4)=False∧(n4=k4)=False:=⟨fun q=>by simp;omega,by simp;omega,by simp;omega⟩
   have w_h4:=h44
   simp (maxDischargeDepth:=60) only[hwz.1,iA0,iA1,hsm,nat0,w_len,w_1,w_4,w_5,w_8,w_k4,w_h4,↓LA,LB,simprocAttr]
   rw[hS.1 hz,hil]
   have hlk:∀a b d q,q≠n4+6→q≠n2+5→q≠k4→sget ((n4+6,a):: (n2+5,b)::sset s4 k4 d) q=sget s4 q:=fun a b d q g1 g2 g3=> (z00 (Ne.symm g1)).trans ((z00 (Ne.symm g2)).trans (z01 (Ne.symm g3)))
   have hA:= (hlk (Obj.cells [V.arr ka 1 false 0 sp.length,V.arr k5 1 false 0 sp.length]) (Obj.cells [V.arr x1 1 false 0 sp.length,V.arr x2 1 false 0 sp.length]) (Obj.cells [V.arr ka 1 false 0 sp.length,V.arr k5 1 false 0 sp.length]) ka ω ω ω).trans ha4
   have hB:= (hlk (Obj.cells [V.arr ka 1 false 0 sp.length,V.arr k5 1 false 0 sp.length]) (Obj.cells [V.arr x1 1 false 0 sp.length,V.arr x2 1 false 0 sp.length]) (Obj.cells [V.arr ka 1 false 0 sp.length,V.arr k5 1 false 0 sp.length]) k5 ω ω ω).trans h54
   exact⟨by show nx≤n4+18;omega,fun q g1 g2=> (hlk _ _ _ q ω ω ω).trans (hfr4 q g1 g2),(hlk _ _ _ kv ω ω ω).trans hc4,⟨ka,k5,⟨by show ka<n4+18;omega,.inr rfl⟩,⟨by show k5<n4+18;omega,.inl ω⟩,rfl,hA,hB⟩⟩
  ·rw[show decide (cnt won.b≠0)=true by simp[hz]] at hsm
   simp (maxDischargeDepth:=60) only[hwz.1,iA1,hsm,nat0,w_len,w_0,w_1,w_8,↓LA,LB,simprocAttr]
   have hlt:won.c.length=sp.length:=hwn.lc.trans (hD.len.2.trans hol.2)
   have hwof:= (hwn.of 1).2
   obtain⟨s5,hs5⟩:∃s5,s5= (n2+5,Obj.cells [V.arr x1 1 false 0 sp.length,V.arr x2 1 false 0 sp.length])::s4:=⟨_,rfl⟩
   have hlk:∀q,q≠n2+5→sget s5 q=sget s4 q:=fun q h=>by rw[hs5];exact z00 (Ne.symm h)
   have hD2:Drawn sp inn 1 (won.b,won.c) (drawS sp inn 1 (won.b,won.c)):=drawn hQl
   rw[←hs5]
   refine z0d (z8q (p:=1) (to:=won.b) (c:=won.c) (hG.frame ω fun q h1 h2=> (hlk q ω).trans (hfr4 q h1 h2)) ((hlk kv ω).trans hc4) hlt ⟨ω,hka.2⟩ ω ((hlk ka ω).trans ha4) ((hlk x2 ω).trans hw2) hil hQl) fun v st hR=> ?_
   obtain⟨hn6,hf6,hc6,kl,hkl1,hkl2,rfl,hkl⟩:=hR
   obtain⟨s6,n6,lw6⟩:=st
   have hn6:n4+16≤n6:=hn6
   have hf6:∀q,q<n4+16→q≠kv→sget s6 q=sget s5 q:=hf6
   have hkl2:kl<n6:=hkl2
   have hkl:sget s6 kl=_:=hkl
   have hc6:sget s6 kv=_:=hc6
   have hfr6:∀q,q<nx→q≠kv→sget s6 q=sget sO q:=fun q h1 h2=> (hf6 q ω h2).trans ((hlk q ω).trans (hfr4 q h1 h2))
   have ha6:sget s6 ka=some (.cells (bq inn)):= (hf6 ka ω hka.2).trans ((hlk ka ω).trans ha4)
   have h46:sget s6 k4=some (.cells [.nilS,.nilS]):= (hf6 k4 ω ω).trans ((hlk k4 ω).trans h44)
   have hls:cnt (outS inn (drawS sp inn 1 (won.b,won.c)).1)<cnt inn:=by
    obtain⟨i,hi⟩:=zcx hz
    exact zgb (z51.1 (hwof i hi)).1 (hD2.mono i hi)
   have htn2:=hD2.tot hs hQl hil ht
   have hagw:=z82 hs _ (c:= (drawS sp inn 1 (won.b,won.c)).2) (Nat.le_refl _) (outS_len.trans hil) htn2
   have hSS:=hS.2 hz _ _ rfl hls rfl
   have hlol:=hD2.len.1.trans hQl
   obtain⟨lost,hle⟩:∃lost,lost=drawS sp inn 1 (won.b,won.c):=⟨_,rfl⟩
   rw[←hle] at hkl hc6 hls htn2 hagw hlol hD2
   rw[show drawS sp inn (1-0) (won.b,won.c)=lost from hle.symm] at hSS
   simp (maxDischargeDepth:=60) only[w_len,w_0,w_1,↓LA,LB,simprocAttr]
   refine z0d (z59 (nx:=n6+7) ω hil hlol ω ω ha6 hkl) fun v st hR=> ?_
   obtain⟨hn7,hf7,kw2,hkw3,hkw4,rfl,hkw5⟩:=hR
   obtain⟨s7,n7,lw7⟩:=st
   have hn7:n6+7≤n7:=hn7
   have hf7:∀q,q<n6+7→sget s7 q=sget s6 q:=hf7
   have hkw4:kw2<n7:=hkw4
   have hkw5:sget s7 kw2=_:=hkw5
   simp (maxDischargeDepth:=60) only[w_len,↓LA,LB,simprocAttr]
   refine z0d (hI _ lost.2 kw2 s7 _ _ hls (hG.frame ω fun q h1 h2=> (hf7 q ω).trans (hfr6 q h1 h2)) ((hf7 kv ω).trans hc6) (hD2.len.2.trans hlt) ω ω hkw5 (outS_len.trans hil) htn2) fun v st hR=> ?_
   obtain⟨hn8,hf8,hc8,y1,y2,hy1,hy2,rfl,hv1,hv2⟩:=hR
   obtain⟨s8,n8,lw8⟩:=st
   have hn8:n7≤n8:=hn8
   have hf8:∀q,q<n7→q≠kv→sget s8 q=sget s7 q:=hf8
   have hy1:y1<n8∧(n7≤y1∨y1=kw2):=hy1
   have hy2:y2<n8∧(n7≤y2∨y2=kw2):=hy2
   obtain⟨ag,hag⟩:∃ag,ag=z2x sp (outS inn lost.1) lost.2:=⟨_,rfl⟩
   rw[←hag] at hv1 hv2 hc8 hagw hSS
   have hv1:sget s8 y1=_:=hv1
   have hv2:sget s8 y2=_:=hv2
   have hc8:sget s8 kv=_:=hc8
   simp (maxDischargeDepth:=60) only[hwz.1,iA1,nat0,w_len,w_8,↓LA,LB,simprocAttr]
   obtain⟨s9,hs9⟩:∃s9,s9= (n8+7,Obj.cells [V.arr kl 1 false 0 sp.length]):: (n6+5,Obj.cells [V.arr y1 1 false 0 sp.length,V.arr y2 1 false 0 sp.length])::s8:=⟨_,rfl⟩
   have hl9:∀q,q≠n8+7→q≠n6+5→sget s9 q=sget s8 q:=fun q g1 g2=>by rw[hs9];exact (z00 (Ne.symm g1)).trans (z00 (Ne.symm g2))
   have h9a:sget s9 (n8+7)=some (.cells [V.arr kl 1 false 0 sp.length]):=by rw[hs9];exact z03
   have h9b:sget s9 (n6+5)=some (.cells [V.arr y1 1 false 0 sp.length,V.arr y2 1 false 0 sp.length]):=by rw[hs9];exact (z00 ω).trans z03
   have hf9:∀q,q<n6+5→q≠kv→sget s9 q=sget s6 q:=fun q g1 g2=> (hl9 q ω ω).trans ((hf8 q ω g2).trans (hf7 q ω))
   rw[←hs9]
   refine z0d (zky (nx:=n8+11) (a:=ag.b) (b:=lost.1) ω (hagw.lb.trans (outS_len.trans hil)) hlol ω ω ω ((hl9 y2 ω ω).trans hv2) ((hf9 kl ω ω).trans hkl) h9a) fun v st hR=> ?_
   obtain⟨hn10,hf10,kb,hkb1,hkb2,rfl,hkb⟩:=hR
   obtain⟨s10,n10,lw10⟩:=st
   have hn10:n8+11≤n10:=hn10
   have hf10:∀q,q<n8+11→sget s10 q=sget s9 q:=hf10
   have hkb2:kb<n10:=hkb2
   have hkb:sget s10 kb=_:=hkb
   have w_tb:= (hf10 (n6+5) ω).trans h9b
   have w_t4:= (hf10 k4 ω).trans ((hf9 k4 ω ω).trans h46)
   have w_k4: (n6+5=k4)=False∧(k4=n6+5)=False:=⟨by simp;omega,by simp;omega⟩
   simp (maxDischargeDepth:=60) only[hwz.1,iA1,w_len,w_4,w_tb,w_t4,w_k4,↓LA,LB,simprocAttr]
   have hlT:∀a b q,q≠n6+5→q≠k4→sget (sset (sset s10 (n6+5) a) k4 b) q=sget s10 q:=fun a b q g1 g2=> (z01 (Ne.symm g2)).trans (z01 (Ne.symm g1))
   have hY:=fun a b=> (hlT a b y1 ω ω).trans ((hf10 y1 ω).trans ((hl9 y1 ω ω).trans hv1))
   have hB:=fun a b=> (hlT a b kb ω ω).trans hkb
   rw[hSS]
   exact⟨by show nx≤n10+2;omega,fun q g1 g2=> (hlT _ _ q ω ω).trans ((hf10 q ω).trans ((hf9 q ω g2).trans (hfr6 q g1 g2))),(hlT _ _ kv ω ω).trans ((hf10 kv ω).trans ((hl9 kv ω ω).trans hc8)),y1,kb,⟨by show y1<n10+2;omega,.inl ω⟩,⟨by show kb<n10+2;omega,.inl ω⟩,rfl,hY _ _,hB _ _⟩
 ·rw[show won.of (1-1)=won.a from rfl] at hS
  have hQl:won.a.length=sp.length:=hwn.la.trans (outS_len.trans hil)
  have hsm:=fun nx' lw' =>zbc (s:= (n2+5,Obj.cells [V.arr x1 1 false 0 sp.length,V.arr x2 1 false 0 sp.length])::s4) (k:=x1) (n:=sp.length) (nx:=nx') (lw:=lw') (l:=won.a) ω hQl ((z00 ω).trans hw1)
  by_cases hz:cnt won.a=0
  ·rw[show decide (cnt won.a≠0)=false by simp[hz]] at hsm
   have w_k4: (∀q,(n4+q=k4)=False)∧(n2+5=k4)=False∧(n4=k4)=False:=⟨fun q=>by simp;omega,by simp;omega,by simp;omega⟩
   have w_h4:=h44
   simp (maxDischargeDepth:=60) only[hwz.2,iA0,iA1,hsm,nat1,w_len,w_1,w_4,w_5,w_8,w_k4,w_h4,↓LA,LB,simprocAttr]
   rw[hS.1 hz,hil]
   have hlk:∀a b d q,q≠n4+6→q≠n2+5→q≠k4→sget ((n4+6,a):: (n2+5,b)::sset s4 k4 d) q=sget s4 q:=fun a b d q g1 g2 g3=> (z00 (Ne.symm g1)).trans ((z00 (Ne.symm g2)).trans (z01 (Ne.symm g3)))
   have hA:= (hlk (Obj.cells [V.arr k5 1 false 0 sp.length,V.arr ka 1 false 0 sp.length]) (Obj.cells [V.arr x1 1 false 0 sp.length,V.arr x2 1 false 0 sp.length]) (Obj.cells [V.arr k5 1 false 0 sp.length,V.arr ka 1 false 0 sp.length]) ka ω ω ω).trans ha4
   have hB:= (hlk (Obj.cells [V.arr k5 1 false 0 sp.length,V.arr ka 1 false 0 sp.length]) (Obj.cells [V.arr x1 1 false 0 sp.length,V.arr x2 1 false 0 sp.length]) (Obj.cells [V.arr k5 1 false 0 sp.length,V.arr ka 1 false 0 sp.length]) k5 ω ω ω).trans h54
   exact⟨by show nx≤n4+18;omega,fun q g1 g2=> (hlk _ _ _ q ω ω ω).trans (hfr4 q g1 g2),(hlk _ _ _ kv ω ω ω).trans hc4,⟨k5,ka,⟨by show k5<n4+18;omega,.inl ω⟩,⟨by show ka<n4+18;omega,.inr rfl⟩,rfl,hB,hA⟩⟩
  ·rw[show decide (cnt won.a≠0)=true by simp[hz]] at hsm
   simp (maxDischargeDepth:=60) only[hwz.2,iA0,hsm,nat1,w_len,w_0,w_1,w_8,↓LA,LB,simprocAttr]
   have hlt:won.c.length=sp.length:=hwn.lc.trans (hD.len.2.trans hol.2)
   have hwof:= (hwn.of 0).2
   obtain⟨s5,hs5⟩:∃s5,s5= (n2+5,Obj.cells [V.arr x1 1 false 0 sp.length,V.arr x2 1 false 0 sp.length])::s4:=⟨_,rfl⟩
   have hlk:∀q,q≠n2+5→sget s5 q=sget s4 q:=fun q h=>by rw[hs5];exact z00 (Ne.symm h)
   have hD2:Drawn sp inn 0 (won.a,won.c) (drawS sp inn 0 (won.a,won.c)):=drawn hQl
   rw[←hs5]
   refine z0d (z8q (p:=0) (to:=won.a) (c:=won.c) (hG.frame ω fun q h1 h2=> (hlk q ω).trans (hfr4 q h1 h2)) ((hlk kv ω).trans hc4) hlt ⟨ω,hka.2⟩ ω ((hlk ka ω).trans ha4) ((hlk x1 ω).trans hw1) hil hQl) fun v st hR=> ?_
   obtain⟨hn6,hf6,hc6,kl,hkl1,hkl2,rfl,hkl⟩:=hR
   obtain⟨s6,n6,lw6⟩:=st
   have hn6:n4+16≤n6:=hn6
   have hf6:∀q,q<n4+16→q≠kv→sget s6 q=sget s5 q:=hf6
   have hkl2:kl<n6:=hkl2
   have hkl:sget s6 kl=_:=hkl
   have hc6:sget s6 kv=_:=hc6
   have hfr6:∀q,q<nx→q≠kv→sget s6 q=sget sO q:=fun q h1 h2=> (hf6 q ω h2).trans ((hlk q ω).trans (hfr4 q h1 h2))
   have ha6:sget s6 ka=some (.cells (bq inn)):= (hf6 ka ω hka.2).trans ((hlk ka ω).trans ha4)
   have h46:sget s6 k4=some (.cells [.nilS,.nilS]):= (hf6 k4 ω ω).trans ((hlk k4 ω).trans h44)
   have hls:cnt (outS inn (drawS sp inn 0 (won.a,won.c)).1)<cnt inn:=by
    obtain⟨i,hi⟩:=zcx hz
    exact zgb (z51.1 (hwof i hi)).1 (hD2.mono i hi)
   have htn2:=hD2.tot hs hQl hil ht
   have hagw:=z82 hs _ (c:= (drawS sp inn 0 (won.a,won.c)).2) (Nat.le_refl _) (outS_len.trans hil) htn2
   have hSS:=hS.2 hz _ _ rfl hls rfl
   have hlol:=hD2.len.1.trans hQl
   obtain⟨lost,hle⟩:∃lost,lost=drawS sp inn 0 (won.a,won.c):=⟨_,rfl⟩
   rw[←hle] at hkl hc6 hls htn2 hagw hlol hD2
   rw[show drawS sp inn (1-1) (won.a,won.c)=lost from hle.symm] at hSS
   simp (maxDischargeDepth:=60) only[w_len,w_0,w_1,↓LA,LB,simprocAttr]
   refine z0d (z59 (nx:=n6+7) ω hil hlol ω ω ha6 hkl) fun v st hR=> ?_
   obtain⟨hn7,hf7,kw2,hkw3,hkw4,rfl,hkw5⟩:=hR
   obtain⟨s7,n7,lw7⟩:=st
   have hn7:n6+7≤n7:=hn7
   have hf7:∀q,q<n6+7→sget s7 q=sget s6 q:=hf7
   have hkw4:kw2<n7:=hkw4
   have hkw5:sget s7 kw2=_:=hkw5
   simp (maxDischargeDepth:=60) only[w_len,↓LA,LB,simprocAttr]
   refine z0d (hI _ lost.2 kw2 s7 _ _ hls (hG.frame ω fun q h1 h2=> (hf7 q ω).trans (hfr6 q h1 h2)) ((hf7 kv ω).trans hc6) (hD2.len.2.trans hlt) ω ω hkw5 (outS_len.trans hil) htn2) fun v st hR=> ?_
   obtain⟨hn8,hf8,hc8,y1,y2,hy1,hy2,rfl,hv1,hv2⟩:=hR
   obtain⟨s8,n8,lw8⟩:=st
   have hn8:n7≤n8:=hn8
   have hf8:∀q,q<n7→q≠kv→sget s8 q=sget s7 q:=hf8
   have hy1:y1<n8∧(n7≤y1∨y1=kw2):=hy1
   have hy2:y2<n8∧(n7≤y2∨y2=kw2):=hy2
   obtain⟨ag,hag⟩:∃ag,ag=z2x sp (outS inn lost.1) lost.2:=⟨_,rfl⟩
   rw[←hag] at hv1 hv2 hc8 hagw hSS
   have hv1:sget s8 y1=_:=hv1
   have hv2:sget s8 y2=_:=hv2
   have hc8:sget s8 kv=_:=hc8
   simp (maxDischargeDepth:=60) only[hwz.2,iA0,nat1,w_len,w_8,↓LA,LB,simprocAttr]
   obtain⟨s9,hs9⟩:∃s9,s9= (n8+7,Obj.cells [V.arr kl 1 false 0 sp.length]):: (n6+5,Obj.cells [V.arr y1 1 false 0 sp.length,V.arr y2 1 false 0 sp.length])::s8:=⟨_,rfl⟩
   have hl9:∀q,q≠n8+7→q≠n6+5→sget s9 q=sget s8 q:=fun q g1 g2=>by rw[hs9];exact (z00 (Ne.symm g1)).trans (z00 (Ne.symm g2))
   have h9a:sget s9 (n8+7)=some (.cells [V.arr kl 1 false 0 sp.length]):=by rw[hs9];exact z03
   have h9b:sget s9 (n6+5)=some (.cells [V.arr y1 1 false 0 sp.length,V.arr y2 1 false 0 sp.length]):=by rw[hs9];exact (z00 ω).trans z03
   have hf9:∀q,q<n6+5→q≠kv→sget s9 q=sget s6 q:=fun q g1 g2=> (hl9 q ω ω).trans ((hf8 q ω g2).trans (hf7 q ω))
   rw[←hs9]
   refine z0d (zky (nx:=n8+11) (a:=ag.a) (b:=lost.1) ω (hagw.la.trans (outS_len.trans hil)) hlol ω ω ω ((hl9 y1 ω ω).trans hv1) ((hf9 kl ω ω).trans hkl) h9a) fun v st hR=> ?_
   obtain⟨hn10,hf10,kb,hkb1,hkb2,rfl,hkb⟩:=hR
   obtain⟨s10,n10,lw10⟩:=st
   have hn10:n8+11≤n10:=hn10
   have hf10:∀q,q<n8+11→sget s10 q=sget s9 q:=hf10
   have hkb2:kb<n10:=hkb2
   have hkb:sget s10 kb=_:=hkb
   have w_tb:= (hf10 (n6+5) ω).trans h9b
   have w_t4:= (hf10 k4 ω).trans ((hf9 k4 ω ω).trans h46)
   have w_k4: (n6+5=k4)=False∧(k4=n6+5)=False:=⟨by simp;omega,by simp;omega⟩
   simp (maxDischargeDepth:=60) only[hwz.2,iA0,w_len,w_4,w_tb,w_t4,w_k4,↓LA,LB,simprocAttr]
   have hlT:∀a b q,q≠n6+5→q≠k4→sget (sset (sset s10 (n6+5) a) k4 b) q=sget s10 q:=fun a b q g1 g2=> (z01 (Ne.symm g2)).trans (z01 (Ne.symm g1))
   have hY:=fun a b=> (hlT a b y2 ω ω).trans ((hf10 y2 ω).trans ((hl9 y2 ω ω).trans hv2))
   have hB:=fun a b=> (hlT a b kb ω ω).trans hkb
   rw[hSS]
   exact⟨by show nx≤n10+2;omega,fun q g1 g2=> (hlT _ _ q ω ω).trans ((hf10 q ω).trans ((hf9 q ω g2).trans (hfr6 q g1 g2))),(hlT _ _ kv ω ω).trans ((hf10 kv ω).trans ((hl9 kv ω ω).trans hc8)),kb,y2,⟨by show kb<n10+2;omega,.inl ω⟩,⟨by show y2<n10+2;omega,.inl ω⟩,rfl,hB _ _,hY _ _⟩
def zsn {a b:Int} :z3a true [.d (.int .i64 a),.d (.int .i64 b)]=some (.d (.int .i64 (max a b))):=by
 rw[z3a,if_pos rfl,z3a,if_pos rfl]
 have h: (if b>a then b else a)=max a b:=by split<;>omega
 simp only[h]
def zwu {r:RulesT} {gp:Nat}     (hIm:SolI r gp kv gv sv sp S m):SolI r gp kv gv sv sp S (m+1):=by
 intro inn c ka s nx lw hm hG hc hcl hka1 hka2 ha hil ht
 have hI:SolI r gp kv gv sv sp S (cnt inn):=fun a b d e f g h=>hIm a b d e f g ω
 have hf1:=hG.few.1
 have hl1:=hG.lt.1
 have hl2:=hG.lt.2.1
 have hmk:=fun key st=>zpu (key:=key) (n:=sp.length) (st:=st) ω
 have hsm:=fun nx' lw' =>zbc (s:= (nx+3,Obj.cells (bq (z4q sp.length))):: (nx,Obj.cells [V.nilS,V.nilS])::s) (k:=ka) (n:=sp.length) (nx:=nx') (lw:=lw') (l:=inn) ω hil ((z00 ω).trans ((z00 ω).trans ha))
 obtain⟨R,hR⟩:∃R:IC,R=T1.q50_50:=⟨_,rfl⟩
 refine z1b (first:= []) (args:= [.ptr gp 0,.arr ka 1 false 0 sp.length]) (cap:= []) T1.g50 rfl rfl rfl (fun e w_len harg=> ?_)
 have w_len:e.length=181:=w_len
 have w_0:e.getD 0 .undef= .ptr gp 0:=harg 0 ψ
 have w_1:e.getD 1 .undef= .arr ka 1 false 0 sp.length:=harg 1 ψ
 clear harg
 unfold T1.i50
 rw[←hR]
 by_cases h0:cnt inn=0
 ·rw[show decide (cnt inn≠0)=false by simp[h0]] at hsm
  simp only[hmk,hsm,w_len,w_1,↓LA,LB,simprocAttr]
  have hl:∀a b q,q≠nx+3→q≠nx→sget ((nx+3,a):: (nx,b)::s) q=sget s q:=fun a b q g1 g2=> (z00 (Ne.symm g1)).trans (z00 (Ne.symm g2))
  rw[z2x,if_pos h0,hil]
  exact⟨by show nx≤nx+12;omega,fun q g1 _=>hl _ _ q ω ω,(hl _ _ kv ω ω).trans hc,nx+3,nx+3,⟨by show nx+3<nx+12;omega,.inl ω⟩,⟨by show nx+3<nx+12;omega,.inl ω⟩,rfl,z03,z03⟩
 ·rw[show decide (cnt inn≠0)=true by simp[h0]] at hsm
  simp only[hmk,hsm,w_len,w_1,↓LA,LB,simprocAttr]
  have w_r0:z1q sp inn 0=0:=rfl
  refine z0b (fun e0 s0 m env st=>∃(i nxi lwi:Nat) (si:Sto),m=sp.length-i∧(i≤sp.length)∧((∀q,q<nx→sget si q=sget s q))∧sget si (nx)=some (.cells [.nilS,.nilS])∧sget si (nx+3)=some (.cells (bq (z4q sp.length)))∧nx+12≤nxi∧0≤lwi∧env.length=181∧env.getD 29 .undef= .d (.int .i64 i)∧env.getD 0 .undef= .ptr gp 0∧env.getD 1 .undef= .arr ka 1 false 0 sp.length∧env.getD 4 .undef= .ptr nx 0∧env.getD 5 .undef= .arr (nx+3) 1 false 0 sp.length∧env.getD 6 .undef= .d (.int .i64 (z1q sp inn i))∧env.getD 28 .undef= .d (.int .i64 sp.length)∧st= {s:=si,next:=nxi,low:=lwi}) ?_ (sp.length) (by refine⟨0,_,_,_,rfl,ω,(fun q h1=> (z00 ω).trans (z00 ω)),?_,?_,ω,Nat.zero_le _,?_,?_,?_,?_,?_,?_,?_,?_,rfl⟩<;>simp (maxDischargeDepth:=60) only[w_len,w_0,w_1,w_r0,LB,simprocAttr])
  rintro m env st ⟨i,nxi,lwi,si,hm,i_0,i_1,w_ic0,w_ic1,w_ib,w_ilo,w_len,w_29,w_0,w_1,w_4,w_5,w_6,w_28,rfl⟩
  have w_iN:=aI (cf1 (x:=nxi) (a:=nx) ω) (cf1 (x:=nxi) (a:=nx+3) ω)
  have w_iS:=aI (cf2 (x:=nxi) ω w_ic0) (cf2 (x:=nxi) ω w_ic1)
  have w_iZ:=zf (x:=nxi) (b:=nx) (n:=12) ω ω
  have hGi:GmC r gp kv gv sv sp S si:=hG.gc.frame fun q hq=>by
   rcases hq with hq|rfl
   ·exact i_1 q (hG.lt.2.2 q hq)
   ·exact i_1 _ hl1
  have w_at:sget si gp=some (.cells [_,_,_,_,_,_]):=hGi.at_
  have w_ha:sget si ka=some (.cells (bq inn)):= (i_1 ka hka1).trans ha
  by_cases hi:i<sp.length
  ·have hia:∀k,z08 1 (.arr k 1 false 0 sp.length) (i:Int)=some (.ptr k i):=fun k=>z2f hi
   obtain⟨a1,a2,_⟩:=z6a (l:=inn) (n:=i) ω
   obtain⟨k,cs,nv,_,hk1,hk2,hk3,hk4,hk5,_⟩:=GP.spotAt hGi.sp hi
   have hd1: (cs.drop (i*4+1)).take 1= [.d (.int .i64 (spA sp i).rank)]:=by
    have:=congrArg (fun z:List V=> (z.drop 1).take 1) hk5
    simp only[List.drop_take,List.drop_drop,List.take_take] at this
    exact this
   have hc1:i*4+1+1≤cs.length:=ω
   have hmx:z3a true [.d (.int .i64 (z1q sp inn i)),.d (.int .i64 (spA sp i).rank)]=some (.d (.int .i64 (max (z1q sp inn i) (spA sp i).rank))):=zsn
   cases hv:bg inn i with
   |false=>
    rw[hv] at a2
    have w_rk:z1q sp inn (i+1)=z1q sp inn i:=by show (if bg inn i=true then _ else _)=_;rw[hv,if_neg (by decide)]
    simp only[hi,hia,a1,a2,z07 hi ω,w_len,w_29,w_1,w_28,w_ha,↓LA,LB,simprocAttr]
    exact z09 (by refine⟨_,ω,i+1,_,_,_,rfl,ω,i_1,?_,?_,ω,Nat.zero_le _,?_,?_,?_,?_,?_,?_,?_,?_,rfl⟩<;>simp only[w_len,w_0,w_1,w_4,w_5,w_6,w_28,w_ic0,w_ic1,w_rk,LB,simprocAttr])
   |true=>
    rw[hv] at a2
    have w_rk:z1q sp inn (i+1)=max (z1q sp inn i) (spA sp i).rank:=by show (if bg inn i=true then _ else _)=_;rw[hv,if_pos rfl]
    simp only[hi,hia,a1,a2,hk3,hk2,hd1,hc1,↓zyz,mmV,List.map_cons,List.map_nil,hmx,z07 hi ω,w_len,w_29,w_0,w_1,w_6,w_28,w_at,w_ha,↓LA,LB,simprocAttr]
    exact z09 (by refine⟨_,ω,i+1,_,_,_,rfl,ω,i_1,?_,?_,ω,Nat.zero_le _,?_,?_,?_,?_,?_,?_,?_,?_,rfl⟩<;>simp only[w_len,w_0,w_1,w_4,w_5,w_28,w_ic0,w_ic1,w_rk,LB,simprocAttr])
  ·have hie:i=sp.length:=ω
   subst hie
   obtain⟨kn,hkn⟩:=Int.eq_ofNat_of_zero_le (zfb (sp:=sp) (inn:=inn) (m:=sp.length))
   have hrem:binV .rem (.d (.int .i64 (z1q sp inn sp.length))) (.d (.int .i64 2))=some (.d (.int .i64 ((kn%2:Nat):Int))):=by rw[hkn];exact z92 (b:=2) ω
   have fin:∀(E:Lv) (nx1 lw1:Nat),nx+12≤nx1→E.length=181→E.getD 0 .undef= .ptr gp 0→E.getD 1 .undef= .arr ka 1 false 0 sp.length→E.getD 4 .undef= .ptr nx 0→E.getD 5 .undef= .arr (nx+3) 1 false 0 sp.length→E.getD 6 .undef= .d (.int .i64 (z1q sp inn sp.length))→E.getD 8 .undef= .d (.int .i64 (z6f (z1q sp inn sp.length):Nat))→
     PC (z0j (z06 G) z0g none R E {s:=si,next:=nx1,low:=lw1}) (RS [.cell 4 2 true] (SolR s nx kv ka sp.length (z2x sp inn c)) .mk lw) .mk:=by
    intro E nx1 lw1 g0 g1 g2 g3 g4 g5 g6 g7
    rw[hR]
    refine zwk (p:=z6f (z1q sp inn sp.length)) (kk:=z1q sp inn sp.length) (c:=c) (hG.frame (nx' :=nx1) ω fun q h1 _=>i_1 q h1) ⟨ω,hka2⟩ (Nat.le_refl _) (fun _ _ _=>rfl) w_ha hil ((i_1 kv hl2).trans hc) hcl g1 g2 g3 g6 g7 ?_
    intro e s' k9 nx' lw' h1 h2 h3 h4 h5 h6 h7 h8
    refine y34 (k4:=nx) (k5:=nx+3) (k9:=k9) (p:=z6f (z1q sp inn sp.length)) hG hI ⟨hka1,hka2⟩ ω (fun q y1 y2=> (h2 q ω y2).trans (i_1 q y1)) ((h2 ka ω hka2).trans w_ha) hil ht h0 (o:=topN sp inn (z1q sp inn sp.length) (z6f (z1q sp inn sp.length)) c sp.length) h7 hcl rfl rfl h6 ⟨ω,h4⟩ ⟨Nat.le_refl _,ω⟩ ((h2 nx ω ω).trans w_ic0) ⟨ω,ω⟩ ((h2 (nx+3) ω ω).trans w_ic1) ω (h1.1.trans g1) ((h1.2 0 ψ).trans g2) ((h1.2 1 ψ).trans g3) ((h1.2 4 ψ).trans g4) ((h1.2 5 ψ).trans g5) ((h1.2 8 ψ).trans g7) h5
   by_cases ho:kn%2=1
   ·have hp:z6f (z1q sp inn sp.length)=0:=by unfold z6f;rw[hkn,if_pos ω]
    have ho' : (((kn%2:Nat):Int)=1)=True:=by simp[ho]
    rw[hp] at fin
    simp only[hi,hrem,ho',w_len,w_29,w_6,w_28,↓LA,LB,simprocAttr]
    refine fin _ _ _ ?_ ?_ ?_ ?_ ?_ ?_ ?_ ?_
    ·omega
    all_goals simp only[nat0,w_len,w_0,w_1,w_4,w_5,w_6,LB,simprocAttr]
   ·have hp:z6f (z1q sp inn sp.length)=1:=by unfold z6f;rw[hkn,if_neg ω]
    have ho' : (((kn%2:Nat):Int)=1)=False:=by simp;omega
    rw[hp] at fin
    simp only[hi,hrem,ho',w_len,w_29,w_6,w_28,↓LA,LB,simprocAttr]
    refine fin _ _ _ ?_ ?_ ?_ ?_ ?_ ?_ ?_ ?_
    ·omega
    all_goals simp only[nat1,w_len,w_0,w_1,w_4,w_5,w_6,LB,simprocAttr]
def zr2 {r:RulesT} {gp kv:Nat} {gv sv:V} {sp:List SpotT} {S:Nat→Prop} :∀m,SolI r gp kv gv sv sp S m
 |0=>fun inn c ka s nx lw h=>ω
 |m+1=>zwu (zr2 m)
def ztz {r:RulesT} {gp:Nat}      {lw:Nat}  (hG:GmA r gp kv gv sv sp S nx s) (hc:sget s kv=some (.cells (nq c))) (hcl:c.length=sp.length) (h1:ka<nx) (h2:ka≠kv) (ha:sget s ka=some (.cells (bq inn))) (hil:inn.length=sp.length) (ht:Tot sp inn):
  PostV (z06 G (.fn 50 [] []) [.ptr gp 0,.arr ka 1 false 0 sp.length] {s:=s,next:=nx,low:=lw}) (SolR s nx kv ka sp.length (z2x sp inn c)):=
 zr2 (cnt inn+1) inn c ka s nx lw ω hG hc hcl h1 h2 ha hil ht
def WonR (sO:Sto) (nx kv n:Nat) (w:DS) (v:V) (st:St):Prop:=
 nx≤st.next∧(∀q,q<nx→q≠kv→sget st.s q=sget sO q)∧sget st.s kv=some (.cells (nq w.2))∧∃k,nx≤k∧k<st.next∧v= .arr k 1 false 0 n∧sget st.s k=some (.cells (bq w.1))
def zw9 {r:RulesT} {gp:Nat}    {lw lw0:Nat}  (hG:GmA r gp kv gv sv sp S nx sO)  {k3 k4 ke0 ke1:Nat} 
  (hn:nx≤nx1) (hfr:∀q,q<nx→q≠kv→sget s q=sget sO q) (hc:sget s kv=some (.cells (nq c))) (hcl:c.length=sp.length) (h3:sget s k3=some (.cells (bq (allS sp)))) (hk3:nx≤k3∧k3<nx1) (h4:sget s k4=some (.cells [.arr ke0 1 false 0 sp.length,.arr ke1 1 false 0 sp.length])) (hk4:nx≤k4∧k4<nx1)
  (he0:sget s ke0=some (.cells (bq (endS sp 0)))) (hke0:nx≤ke0∧ke0<nx1) (he1:sget s ke1=some (.cells (bq (endS sp 1)))) (hke1:nx≤ke1∧ke1<nx1)
  (w_len:E.length=75) (w_0:E.getD 0 .undef= .ptr gp 0) (w_3:E.getD 3 .undef= .arr k3 1 false 0 sp.length) (w_4:E.getD 4 .undef= .ptr k4 0):
  PC (z0j (z06 G) z0g none T1.q23_53 E {s:=s,next:=nx1,low:=lw}) (RS [.t 2] (WonR sO nx kv sp.length (wonS sp c)) .mk lw0) .mk:=by
 have hf1:=hG.few.1
 have hl1:=hG.lt.1
 have hl2:=hG.lt.2.1
 have hs:=hG.so
 have w_h4:=h4
 have hwz:IntKind.i64.wrap 1=1∧IntKind.i64.wrap 0=0:=⟨by decide,by decide⟩
 simp (maxDischargeDepth:=60) only[iA1,w_len,w_0,w_3,w_4,w_h4,↓LA,LB,simprocAttr]
 refine z0d (z8q (p:=1) (inn:=allS sp) (to:=endS sp 1) (hG.frame ω hfr) hc hcl ⟨ω,ω⟩ ω h3 he1 z9o z60) fun v st hR=> ?_
 obtain⟨hn2,hf2,hc2,kl,hkl1,hkl2,rfl,hkl⟩:=hR
 obtain⟨s2,n2,lw2⟩:=st
 have hn2:nx1+6≤n2:=hn2
 have hf2:∀q,q<nx1+6→q≠kv→sget s2 q=sget s q:=hf2
 have hkl2:kl<n2:=hkl2
 have hkl:sget s2 kl=some (.cells (bq (z9c sp c).1)):=hkl
 have hc2:sget s2 kv=some (.cells (nq (z9c sp c).2)):=hc2
 simp (maxDischargeDepth:=60) only[w_len,w_3,↓LA,LB,simprocAttr]
 refine z0d (z59 (nx:=n2+4) ω z9o ((lost_drawn (c:=c)).len.1.trans z60) ω ω ((hf2 k3 ω ω).trans h3) hkl) fun v st hR=> ?_
 obtain⟨hn3,hf3,ka,hka1,hka2,rfl,hka⟩:=hR
 obtain⟨s3,n3,lw3⟩:=st
 have hn3:n2+4≤n3:=hn3
 have hf3:∀q,q<n2+4→sget s3 q=sget s2 q:=hf3
 have hka2:ka<n3:=hka2
 have hka:sget s3 ka=_:=hka
 have hfr3:∀q,q<nx1→q≠kv→sget s3 q=sget s q:=fun q h1 h2=> (hf3 q ω).trans (hf2 q ω h2)
 have w_h43:= (hfr3 k4 ω ω).trans h4
 simp (maxDischargeDepth:=60) only[iA0,w_len,w_0,w_4,w_h43,↓LA,LB,simprocAttr]
 refine z0d (z8q (p:=0) (inn:=outS (allS sp) (z9c sp c).1) (to:=endS sp 0) (hG.frame ω fun q h1 h2=> (hfr3 q ω h2).trans (hfr q h1 h2)) ((hf3 kv ω).trans hc2) ((lost_drawn (c:=c)).len.2.trans hcl) ⟨ω,ω⟩ ω hka ((hfr3 ke0 ω ω).trans he0) (outS_len.trans z9o) z60) fun v st hR=> ?_
 obtain⟨hn4,hf4,hc4,kw,hkw1,hkw2,rfl,hkw⟩:=hR
 obtain⟨s4,n4,lw4⟩:=st
 have hn4:n3+6≤n4:=hn4
 have hf4:∀q,q<n3+6→q≠kv→sget s4 q=sget s3 q:=hf4
 have hkw2:kw<n4:=hkw2
 have hkw:sget s4 kw=some (.cells (bq (wonA sp c).1)):=hkw
 have hc4:sget s4 kv=some (.cells (nq (wonA sp c).2)):=hc4
 simp (maxDischargeDepth:=60) only[w_len,w_0,↓LA,LB,simprocAttr]
 have hfr4:∀q,q<n3→q≠kv→sget s4 q=sget s3 q:=fun q h1 h2=>hf4 q ω h2
 refine z0d (z59 (nx:=n4+10) ω (outS_len.trans z9o) zaf.1 ω ω ((hfr4 ka ω ω).trans hka) hkw) fun v st hR=> ?_
 obtain⟨hn5,hf5,kr,hkr1,hkr2,rfl,hkr⟩:=hR
 obtain⟨s5,n5,lw5⟩:=st
 have hn5:n4+10≤n5:=hn5
 have hf5:∀q,q<n4+10→sget s5 q=sget s4 q:=hf5
 have hkr2:kr<n5:=hkr2
 have hkr:sget s5 kr=_:=hkr
 have hfr5:∀q,q<nx→q≠kv→sget s5 q=sget sO q:=fun q h1 h2=> (hf5 q ω).trans ((hfr4 q ω h2).trans ((hfr3 q ω h2).trans (hfr q h1 h2)))
 simp (maxDischargeDepth:=60) only[w_len,↓LA,LB,simprocAttr]
 refine z0d (ztz (inn:=outS (outS (allS sp) (z9c sp c).1) (wonA sp c).1) (hG.frame ω hfr5) ((hf5 kv ω).trans hc4) (zaf.2.trans hcl) ω ω hkr zf6 (zln hs)) fun v st hR=> ?_
 obtain⟨hn6,hf6,hc6,y1,y2,hy1,hy2,rfl,hv1,hv2⟩:=hR
 obtain⟨s6,n6,lw6⟩:=st
 have hn6:n5≤n6:=hn6
 have hf6:∀q,q<n5→q≠kv→sget s6 q=sget s5 q:=hf6
 have hy1:y1<n6∧(n5≤y1∨y1=kr):=hy1
 have hv1:sget s6 y1=some (.cells (bq (zol sp c).a)):=hv1
 have hc6:sget s6 kv=some (.cells (nq (zol sp c).c)):=hc6
 have hix:∀st,zyk 2 1 false (mkAgg [.arr y1 1 false 0 sp.length,.arr y2 1 false 0 sp.length]) (.d (.int .i64 0)) st=some (.arr y1 1 false 0 sp.length,st):=fun st=>rfl
 simp (maxDischargeDepth:=60) only[↓zie,hix,w_len,↓LA,LB,simprocAttr]
 have hrw:=zx1 hs (c:=c)
 obtain⟨s7,hs7⟩:∃s7,s7= (n4+7,Obj.cells [V.arr y1 1 false 0 sp.length])::s6:=⟨_,rfl⟩
 have hl7:∀q,q≠n4+7→sget s7 q=sget s6 q:=fun q g=>by rw[hs7];exact z00 (Ne.symm g)
 have h7:sget s7 (n4+7)=some (.cells [V.arr y1 1 false 0 sp.length]):=by rw[hs7];exact z03
 rw[←hs7]
 refine z0d (zky (nx:=n6) (a:= (wonA sp c).1) (b:= (zol sp c).a) ω zaf.1 (hrw.la.trans zf6) ω ω ω ((hl7 kw ω).trans ((hf6 kw ω ω).trans ((hf5 kw ω).trans hkw))) ((hl7 y1 ω).trans hv1) h7) fun v st hR=> ?_
 obtain⟨hn8,hf8,kb,hkb1,hkb2,rfl,hkb⟩:=hR
 obtain⟨s8,n8,lw8⟩:=st
 have hn8:n6≤n8:=hn8
 have hf8:∀q,q<n6→sget s8 q=sget s7 q:=hf8
 have hkb2:kb<n8:=hkb2
 have hkb:sget s8 kb=_:=hkb
 simp (maxDischargeDepth:=60) only[w_len,↓LA,LB,simprocAttr]
 exact⟨by show nx≤n8;omega,fun q h1 h2=> (hf8 q ω).trans ((hl7 q ω).trans ((hf6 q ω h2).trans (hfr5 q h1 h2))),(hf8 kv ω).trans ((hl7 kv ω).trans hc6),kb,ω,hkb2,rfl,hkb⟩
def alW (n i:Nat):List Bool:=mp n fun q=>decide (q<i)
def enW (sp:List SpotT) (p i:Nat):List Bool:=mp sp.length fun q=>decide (q<i)&&bg (endS sp p) q
def y9j  :alW n 0=z4q n:= (z9x (f:=fun q=>decide (q<0)) z31 fun i _=>by rw[z68];simp).symm
def y7k   :enW sp p 0=z4q sp.length:= (z9x (f:=fun q=>decide (q<0)&&bg (endS sp p) q) z31 fun i _=>by rw[z68];simp).symm
theorem z9b {q:Nat} (h:q≠i):decide (q<i+1)=decide (q<i):=by congr 1;exact propext ⟨fun h=>ω,fun h=>ω⟩
theorem y52  (hi:i<n): (alW n i).set i true=alW n (i+1):=zm5 hi ψ fun q _ e=>z9b e
theorem zus   (hi:i<sp.length) (h:bg (endS sp p) i=true): (enW sp p i).set i true=enW sp p (i+1):=zm5 hi (by simp[h]) fun q _ e=>by rw[z9b e]
def zat   (h:bg (endS sp p) i=false):enW sp p (i+1)=enW sp p i:=by
 refine (z9x (by exact z8c) fun q hq=> ?_).symm
 show bg (mp _ _) q=_
 rw[y37 hq]
 by_cases e:q=i
 ·subst e;rw[h];simp
 ·rw[z9b e]
theorem y9i  :alW sp.length sp.length=allS sp:= (z9x z9o fun i hi=>by rw[zvw.2 hi];simp[hi]).symm
theorem y9b   :enW sp p sp.length=endS sp p:= (z9x z60 fun i hi=>by simp[hi]).symm
def y43 {r:RulesT} {gp:Nat}    {lw:Nat}  (hG:GmA r gp kv gv sv sp S nx s)  (hc:sget s kv=some (.cells (nq c))) (hcl:c.length=sp.length):
  PostV (z06 G (.fn 23 [] []) [.ptr gp 0] {s:=s,next:=nx,low:=lw}) (WonR s nx kv sp.length (wonS sp c)):=by
 have hf1:=hG.few.1
 have hl1:=hG.lt.1
 have hl2:=hG.lt.2.1
 have hmk:=fun key st=>zpu (key:=key) (n:=sp.length) (st:=st) ω
 have hsl:opLen false sv=some sp.length:=by rw[GP.len hG.gc.sp,List.length_map]
 have w_sv:=GP.cell hG.gc.sp
 have w_at:sget s gp=some (.cells [_,_,_,_,_,_]):=hG.gc.at_
 have hwz:IntKind.i64.wrap 1=1∧IntKind.i64.wrap 0=0:=⟨by decide,by decide⟩
 obtain⟨R,hR⟩:∃R:IC,R=T1.q23_53:=⟨_,rfl⟩
 refine z1b (first:= []) (args:= [.ptr gp 0]) (cap:= []) T1.g23 rfl rfl rfl (fun e w_len harg=> ?_)
 have w_len:e.length=75:=w_len
 have w_0:e.getD 0 .undef= .ptr gp 0:=harg 0 ψ
 clear harg
 have w_gz: (∀q,(nx+q=gp)=False)∧(nx=gp)=False:=⟨fun q=>by simp;omega,by simp;omega⟩
 unfold T1.i23
 rw[←hR]
 simp only[hmk,hsl,w_len,w_0,w_at,w_gz,↓LA,LB,simprocAttr]
 have w_a0:=y9j (n:=sp.length)
 have w_e0:=y7k (sp:=sp) (p:=0)
 have w_e1:=y7k (sp:=sp) (p:=1)
 refine z0b (fun e0 s0 m env st=>∃(i nxi lwi:Nat) (si:Sto),m=sp.length-i∧(i≤sp.length)∧((∀q,q<nx→sget si q=sget s q))∧sget si (nx+16)=some (.cells (bq (alW sp.length i)))∧sget si (nx+17)=some (.cells (bq (enW sp 0 i)))∧sget si (nx+18)=some (.cells (bq (enW sp 1 i)))∧sget si (nx+20)=some (.cells [.arr (nx+17) 1 false 0 sp.length,.arr (nx+18) 1 false 0 sp.length])∧nx+29≤nxi∧0≤lwi∧env.length=75∧env.getD 33 .undef= .d (.int .i64 i)∧env.getD 0 .undef= .ptr gp 0∧env.getD 3 .undef= .arr (nx+16) 1 false 0 sp.length∧env.getD 4 .undef= .ptr (nx+20) 0∧env.getD 31 .undef=sv∧env.getD 32 .undef= .d (.int .i64 sp.length)∧st= {s:=si,next:=nxi,low:=lwi}) ?_ (sp.length) (by refine⟨0,_,_,_,rfl,ω,(fun q h1=> (z00 ω).trans ((z00 ω).trans ((z00 ω).trans (z00 ω)))),?_,?_,?_,?_,ω,Nat.zero_le _,?_,?_,?_,?_,?_,?_,?_,rfl⟩<;>simp (maxDischargeDepth:=60) only[w_len,w_0,w_a0,w_e0,w_e1,LB,simprocAttr])
 rintro m env st ⟨i,nxi,lwi,si,hm,i_0,i_1,w_ic0,w_ic1,w_ic2,w_ic3,w_ib,w_ilo,w_len,w_33,w_0,w_3,w_4,w_31,w_32,rfl⟩
 have w_iN:=aI (cf1 (x:=nxi) (a:=nx+16) ω) (aI (cf1 (x:=nxi) (a:=nx+17) ω) (aI (cf1 (x:=nxi) (a:=nx+18) ω) (cf1 (x:=nxi) (a:=nx+20) ω)))
 have w_iS:=aI (cf2 (x:=nxi) ω w_ic0) (aI (cf2 (x:=nxi) ω w_ic1) (aI (cf2 (x:=nxi) ω w_ic2) (cf2 (x:=nxi) ω w_ic3)))
 have w_iZ:=zf (x:=nxi) (b:=nx) (n:=29) ω ω
 have hGi:GmC r gp kv gv sv sp S si:=hG.gc.frame fun q hq=>by
  rcases hq with hq|rfl
  ·exact i_1 q (hG.lt.2.2 q hq)
  ·exact i_1 _ hl1
 by_cases hi:i<sp.length
 ·obtain⟨k,cs,nv,_,hk1,hk2,hk3,hk4,hk5,hrd⟩:=GP.spotAt hGi.sp hi
  have hia:∀k,z08 1 (.arr k 1 false 0 sp.length) (i:Int)=some (.ptr k i):=fun k=>z2f hi
  obtain⟨a1,_,a3⟩:=z6a (l:=alW sp.length i) (n:=i) (by rw[alW,z8c];exact hi)
  have a4:=a3 true
  rw[y52 hi] at a4
  have w_nv:=hrd.cell
  have w_nb:=hrd.beq
  have hnl:=hrd.len
  by_cases hnx: (spA sp i).next= []
  ·have hnx' : ((((spA sp i).next.length:Nat):Int)=0)=True:=by simp[hnx]
   rcases hG.so.own i hi with ho|ho
   ·have hb0:bg (endS sp 0) i=false:=by rw[za3 hi];simp[ho]
    have hb1:bg (endS sp 1) i=true:=by rw[za3 hi];simp[ho,hnx]
    have w_k0:=zat hb0
    obtain⟨b1,_,b3⟩:=z6a (l:=enW sp 1 i) (n:=i) (by rw[enW,z8c];exact hi)
    have b4:=b3 true
    rw[zus hi hb1] at b4
    rw[ho] at hk5
    simp only[hi,hk3,hk2,hk4,hk5,hia,a1,a4,b1,b4,hnl,hnx',hwz.1,nat0,iA1,z07 hi ω,w_len,w_33,w_3,w_4,w_31,w_32,w_ic0,w_ic2,w_ic3,w_iN,w_nv,↓LA,LB,simprocAttr]
    exact z09 (by refine⟨_,ω,i+1,_,_,_,rfl,ω,fun q h1=> (z00 ω).trans ((z01 ω).trans ((z01 ω).trans (i_1 q h1))),?_,?_,?_,?_,ω,Nat.zero_le _,?_,?_,?_,?_,?_,?_,?_,rfl⟩<;>simp only[w_len,w_0,w_3,w_4,w_31,w_32,w_ic1,w_ic2,w_ic3,w_iN,w_iS,w_k0,LB,simprocAttr])
   ·have hb1:bg (endS sp 1) i=false:=by rw[za3 hi];simp[ho]
    have hb0:bg (endS sp 0) i=true:=by rw[za3 hi];simp[ho,hnx]
    have w_k1:=zat hb1
    obtain⟨b1,_,b3⟩:=z6a (l:=enW sp 0 i) (n:=i) (by rw[enW,z8c];exact hi)
    have b4:=b3 true
    rw[zus hi hb0] at b4
    rw[ho] at hk5
    simp only[hi,hk3,hk2,hk4,hk5,hia,a1,a4,b1,b4,hnl,hnx',hwz.2,nat1,iA0,z07 hi ω,w_len,w_33,w_3,w_4,w_31,w_32,w_ic0,w_ic1,w_ic3,w_iN,w_nv,↓LA,LB,simprocAttr]
    exact z09 (by refine⟨_,ω,i+1,_,_,_,rfl,ω,fun q h1=> (z00 ω).trans ((z01 ω).trans ((z01 ω).trans (i_1 q h1))),?_,?_,?_,?_,ω,Nat.zero_le _,?_,?_,?_,?_,?_,?_,?_,rfl⟩<;>simp only[w_len,w_0,w_3,w_4,w_31,w_32,w_ic1,w_ic2,w_ic3,w_iN,w_iS,w_k1,LB,simprocAttr])
  ·have hnx' : ((((spA sp i).next.length:Nat):Int)=0)=False:=by simp[hnx]
   have w_k0:=zat (p:=0) (show bg (endS sp 0) i=false by rw[za3 hi];simp[hnx])
   have w_k1:=zat (p:=1) (show bg (endS sp 1) i=false by rw[za3 hi];simp[hnx])
   simp only[hi,hk3,hk2,hk4,hk5,hia,a1,a4,hnl,hnx',z07 hi ω,w_len,w_33,w_3,w_31,w_32,w_ic0,w_iN,w_nv,↓LA,LB,simprocAttr]
   exact z09 (by refine⟨_,ω,i+1,_,_,_,rfl,ω,fun q h1=> (z00 ω).trans ((z01 ω).trans (i_1 q h1)),?_,?_,?_,?_,ω,Nat.zero_le _,?_,?_,?_,?_,?_,?_,?_,rfl⟩<;>simp only[w_len,w_0,w_3,w_4,w_31,w_32,w_ic1,w_ic2,w_ic3,w_iN,w_iS,w_k0,w_k1,LB,simprocAttr])
 ·have hie:i=sp.length:=ω
  subst hie
  simp only[hi,w_len,w_33,w_32,↓LA,LB,simprocAttr]
  rw[hR]
  rw[y9i] at w_ic0
  rw[y9b] at w_ic1 w_ic2
  exact zw9 (k3:=nx+16) (k4:=nx+20) (ke0:=nx+17) (ke1:=nx+18) hG ω (fun q h1 _=>i_1 q h1) ((i_1 kv hl2).trans hc) hcl w_ic0 ⟨ω,ω⟩ w_ic3 ⟨ω,ω⟩ w_ic1 ⟨ω,ω⟩ w_ic2 ⟨ω,ω⟩ (by simp only[w_len,LB,simprocAttr]) (by simp only[w_0,LB,simprocAttr]) (by simp only[w_3,LB,simprocAttr]) (by simp only[w_4,LB,simprocAttr])
def zj6 (r:RulesT) (g:GoalT) (rs:List D):Prop:= (z0q r g≠0∧rs= [.sl [],.int .i64 (z0q r g)])∨(z0q r g=0∧zj5 r (z1c g)∧rs= [.sl [],.int .i64 9])∨
 (z0q r g=0∧∃L,Goals r (z1c g) L∧rs= [.sl (L.map GoalT.d),.int .i64 0])
def y9m (r:RulesT) (g:GoalT) (v:V) (st:St):Prop:=∃a b rs,v= .tup [a,b]∧z0p st.s 0 [a,b]=some rs∧zj6 r g rs
def y22 {r:RulesT} (hr:r.ok)  (hg:g.ok)  {nx lw:Nat} :PostV (z06 G (.fn 24 [] []) [.d r.d,.d g.d,.fn 25 [] []] {s:=s,next:=nx,low:=lw}) (y9m r g):=by
 have hx0:∀a b:V,[a,b][0]?=some a:=fun _ _=>rfl
 have hx1:∀a b:V,[a,b][1]?=some b:=fun _ _=>rfl
 refine z1b (first:= []) (args:= [.d r.d,.d g.d,.fn 25 [] []]) (cap:= []) T1.g24 rfl rfl rfl (fun e w_len harg=> ?_)
 have w_len:e.length=26:=w_len
 have w_0:e.getD 0 .undef= .d r.d:=harg 0 ψ
 have w_1:e.getD 1 .undef= .d g.d:=harg 1 ψ
 have w_2:e.getD 2 .undef= .fn 25 [] []:=harg 2 ψ
 clear harg
 simp (maxDischargeDepth:=60) only[T1.i24,RulesT.d,GoalT.d,w_len,w_0,w_1,↓LA,LB,simprocAttr]
 refine z0d (zdu hr hg) fun v st hR=> ?_
 obtain⟨hn,hf,⟨he,rfl⟩|⟨he,hgr,rfl⟩|⟨he,N,L,n0,hG,rfl,h1,h2,hGa⟩⟩:=hR
 ·obtain⟨s1,n1,lw1⟩:=st
  simp (maxDischargeDepth:=60) only[hx0,hx1,he,w_len,↓LA,LB,simprocAttr]
  exact⟨_,_,[.sl [],.int .i64 (z0q r g)],rfl,by simp[z0p,snap,z0e],.inl ⟨he,rfl⟩⟩
 ·obtain⟨s1,n1,lw1⟩:=st
  simp (maxDischargeDepth:=60) only[hx0,hx1,w_len,↓LA,LB,simprocAttr]
  exact⟨_,_,[.sl [],.int .i64 9],rfl,by simp[z0p,snap,z0e],.inr (.inl ⟨he,hgr,rfl⟩)⟩
 ·obtain⟨s1,n1,lw1⟩:=st
  simp (maxDischargeDepth:=60) only[hx0,hx1,w_len,w_2,↓LA,LB,simprocAttr]
  obtain⟨gv,sv,kv,k1,k2,_⟩:=hGa.ex
  refine z0d (zu1 k1) fun v st hR=> ?_
  obtain⟨rfl,hs⟩:=hR
  obtain⟨s2,n2,lw2⟩:=st
  have hs:s2=s1:=hs
  subst hs
  simp (maxDischargeDepth:=60) only[hx0,hx1,w_len,↓LA,LB,simprocAttr]
  refine⟨_,_,[.sl (L.map GoalT.d),.int .i64 0],rfl,?_,.inr (.inr ⟨he,L,hG,rfl⟩)⟩
  have:=zkb (b:=0) (fun _ _=>Nat.zero_le _) k2 ω (z0c fun a=>z8v) (by decide)
  simp only[z0p,this]
  rfl
def zha {r:RulesT} (hr:r.ok)  (hg:g.ok):∃rs,zj6 r g rs∧∀st,z06 G (.fn 9 [] []) [.d r.d,.d g.d] st=some (tupV (rs.map V.d),st):=by
 have hx0:∀a b:V,[a,b][0]?=some a:=fun _ _=>rfl
 have hx1:∀a b:V,[a,b][1]?=some b:=fun _ _=>rfl
 refine zlq (ds:= [r.d,g.d]) (P:=zj6 r g) T1.g9 rfl rfl (fun e w_len harg=> ?_)
 have w_len:e.length=11:=w_len
 have w_0:=harg 0 ψ
 have w_1:=harg 1 ψ
 clear harg
 simp only[List.map_cons,List.map_nil,List.getD_cons_zero,List.getD_cons_succ] at w_0 w_1
 simp (maxDischargeDepth:=60) only[T1.i9,RulesT.d,GoalT.d,w_len,w_0,w_1,↓LA,LB,simprocAttr]
 refine z0d (y22 hr hg) fun v st hR=> ?_
 obtain⟨a,b,rs,rfl,h1,h2⟩:=hR
 obtain⟨s1,n1,lw1⟩:=st
 simp (maxDischargeDepth:=60) only[hx0,hx1,w_len,↓LA,LB,simprocAttr]
 exact⟨_,rfl,rs,h1,h2⟩
def zho {α:Type} :∀{l u:List α},l.Nodup→(∀x∈l,x∈u)→l.length≤u.length
 | [],_,_,_=>Nat.zero_le _
 |x::l,u,hn,h=>by
  have hx:=h x (List.mem_cons_self ..)
  rw[List.nodup_cons] at hn
  have:l.length≤(u.erase x).length:=zho hn.2 fun y hy=> (List.mem_erase_of_ne (by intro e;subst e;exact hn.1 hy)).2 (h y (List.mem_cons_of_mem _ hy))
  rw[List.length_erase_of_mem hx] at this
  have:=List.length_pos_of_mem hx
  simp only[List.length_cons]
  omega
noncomputable def subs (t:TreeT):List TreeT:= (List.range t.nodes.length).map (subT t)
def sub_self  (h:Lst t):t∈subs t:=by
 refine List.mem_map.2 ⟨0,by simpa using h.pos,?_⟩
 have h1:=h.same
 have h2:=h.root
 unfold subT
 rw[h1]
 cases t
 simp at h2
 rw[h2]
def y25  (h:Lst t)  (hk:k<t.nodes.length) (hj:j< (subT t k).nodes.length):∃m,m<t.nodes.length∧subT (subT t k) j=subT t m:=by
 have hn:=h.gdt.gd.rt
 have hj' :j< (z28 t.nodes k).length:=by
  have: (subT t k).nodes.length= (z28 t.nodes k).length:=by simp[subT,z0t]
  omega
 have hm:=z4i hn hk (List.getElem_mem hj')
 refine⟨(z28 t.nodes k)[j],hm.2,?_⟩
 unfold subT
 rw[zfq (zfp hn hk) hn (by simpa [z0t] using hj') hm.2 (z8j hn hk hj')]
def InT (T:List TreeT) (g:GoalT):Prop:=∀t∈g.args,t∈T
def y3z  (h:Lg g):InT (g.args.flatMap subs) g:=fun t ht=>List.mem_flatMap.2 ⟨t,ht,sub_self (h t ht)⟩
def zyh {g0:GoalT} (h0:Lg g0) {r:RulesT}  (hg:Rg r g) (h:InT (g0.args.flatMap subs) g) {c:ClauseT} (hc:c∈r.clauses) (hf:fitS c g) {x:GoalT} (hx:x∈z4m c g):InT (g0.args.flatMap subs) x:=by
 have hcf:=zcz hg.1 hc
 have hlen:=hcf.len hf.1
 obtain⟨a,ha,rfl⟩:=List.mem_map.1 hx
 intro t ht
 obtain⟨v,hv,rfl⟩:=List.mem_map.1 ht
 obtain⟨y,hy,hyv⟩:=hcf.th g a ha v hv
 have hlk:∃y∈bndN c g c.head.length,look (bndN c g c.head.length) v=y.2:=by
  unfold look
  cases hq: (bndN c g c.head.length).find? (fun x=>decide (x.1=v)) with
  |none=>
   rw[List.find?_eq_none] at hq
   exact absurd (hq y hy) (by simp[hyv])
  |some z=>exact⟨z,List.mem_of_find?_eq_some hq,rfl⟩
 obtain⟨z,hz,e⟩:=hlk
 show look (bndN c g c.head.length) v∈_
 rw[e]
 obtain⟨i,hi,k,hk,rfl⟩:=z66.1 hz
 have hil:i<g.args.length:=ω
 have har:ar g i=g.args[i]:=y4y hil
 have hT:=h _ (List.getElem_mem hil)
 obtain⟨t0,ht0,hts⟩:=List.mem_flatMap.1 hT
 obtain⟨m,hm,hme⟩:=List.mem_map.1 hts
 have hm:m<t0.nodes.length:=by simpa using hm
 have hL:=hg.2 _ (List.getElem_mem hil)
 show subP (hd c i) (ar g i) k∈_
 unfold subP
 by_cases hn: (hd c i).name= []
 ·rw[if_pos hn,har];exact hT
 ·rw[if_neg hn,har]
  have hfp:=hf.2.1 i hi
  rcases hfp with hfp|⟨_,hfp⟩
  ·exact absurd hfp hn
  rw[har] at hfp
  have hkid:kid g.args[i].nodes 0 k<g.args[i].nodes.length:= (hL.gdt.gd.at_ hL.pos (by rw[←z2j hL.pos,hfp];exact hk)).2
  rw[←hme] at hkid⊢
  obtain⟨m',hm',e'⟩:=y25 (h0 t0 ht0) hm hkid
  rw[e']
  exact List.mem_flatMap.2 ⟨t0,ht0,List.mem_map.2 ⟨m',by simpa using hm',rfl⟩⟩
def zft {r:RulesT} {g:GoalT} (h:Rg r g):∀{i:Nat},(∀j,j<i→j< (goalsL r g j).length)→∀x∈goalsL r g i,InT (g.args.flatMap subs) x
 |0,_,x,hx=>by
  simp[goalsL] at hx
  subst hx
  exact y3z h.2
 |i+1,hi,x,hx=>by
  rcases z77.1 hx with hx|hx
  ·exact zft h (fun j hj=>hi j ω) x hx
  ·obtain⟨p,hp,hxp⟩:=List.mem_flatMap.1 hx
   obtain⟨h1,h2,h3⟩:=zck.1 hp
   rw[h3] at hxp
   have hil:=hi i ω
   have e: (goalsL r g i).getD i ⟨[],[]⟩= (goalsL r g i)[i]:=by simp[hil]
   rw[e] at h2 hxp
   have hc:clA r p.1∈r.clauses:=by
    have:clA r p.1=r.clauses[p.1]:=by simp[clA,h1]
    rw[this];exact List.getElem_mem h1
   have hm:=List.getElem_mem hil
   exact zyh h.2 (z5l h (fun j hj=>hi j ω) _ hm) (zft h (fun j hj=>hi j ω) _ hm) hc h2 hxp
def univ (T:List TreeT) (rs:List RelT):List GoalT:=rs.flatMap fun y=>if y.arity=1 then T.map fun t=>⟨y.name,[t]⟩ else T.flatMap fun t=>T.map fun u=>⟨y.name,[t,u]⟩
def zwb {T:Lt} {rs:List RelT}  (h:InT T g) {y:RelT} (hy:y∈rs) (hr:g.rel=y.name) (ha: (g.args.length:Int)=y.arity) (h1:1≤y.arity∧y.arity≤2):g∈univ T rs:=by
 refine List.mem_flatMap.2 ⟨y,hy,?_⟩
 obtain⟨n,as⟩:=g
 have hr:n=y.name:=hr
 subst hr
 by_cases e:y.arity=1
 ·rw[if_pos e]
  match as,ha,h with
  | [],ha,_=>simp at ha;omega
  | [t],_,h=>exact List.mem_map.2 ⟨t,h t ψ,rfl⟩
  |_::_::_,ha,_=>simp at ha;omega
 ·rw[if_neg e]
  match as,ha,h with
  | [],ha,_=>simp at ha;omega
  | [_],ha,_=>simp at ha;omega
  | [t,u],_,h=>exact List.mem_flatMap.2 ⟨t,h t ψ,List.mem_map.2 ⟨u,h u ψ,rfl⟩⟩
  |_::_::_::_,ha,_=>simp at ha;omega
def zfz {α β:Type} {f:α→List β} {m:Nat} :∀{l:List α},(∀x∈l,(f x).length≤m)→(l.flatMap f).length≤l.length*m
 | [],_=>by simp
 |x::l,h=>by
  rw[List.flatMap_cons,List.length_append,List.length_cons,Nat.succ_mul]
  have h1:=h x (List.mem_cons_self ..)
  have h2:=zfz (l:=l) fun y hy=>h y (List.mem_cons_of_mem _ hy)
  omega
def zwc {T:Lt} (hT:T.length≤10) {rs:List RelT} (hr:rs.length≤3): (univ T rs).length≤300:=by
 have h: (univ T rs).length≤rs.length*100:=zfz fun y _=>by
  by_cases e:y.arity=1
  ·rw[if_pos e,List.length_map];omega
  ·rw[if_neg e]
   have: (T.flatMap fun t=>T.map fun u=> (⟨y.name,[t,u]⟩:GoalT)).length≤T.length*10:=zfz fun t _=>by rw[List.length_map];exact hT
   omega
 omega
def zsf {r:RulesT} (hr:RulesM r)  (hg:g.ok) (he:z0q r g=0) (h5:∀t∈g.args,t.nodes.length≤5):¬zj5 r (z1c g):=by
 rintro⟨i,hl,hgt⟩
 have hrg:=z84 hg he
 have hog:=zkc hg he
 have hl' :∀j,j<i+1→j< (goalsL r (z1c g) j).length:=fun j hj=>hl j ω
 have hT: ((z1c g).args.flatMap subs).length≤10:=by
  obtain⟨y,hy,_,ha,_⟩:=hrg.rel
  obtain⟨k,hk,rfl⟩:=List.mem_iff_getElem.1 hy
  have har:= (hr.rel k hk).2.1
  have: ((z1c g).args.flatMap subs).length≤(z1c g).args.length*5:=zfz fun t ht=>by
   obtain⟨u,hu,rfl⟩:=List.mem_map.1 ht
   have ho:= (hog u hu).1
   have:=z8i (ns:=u.nodes) ho.gd.rt (r:=u.root.toNat) (by have h1:=ho.rl;have h2:=ho.rh;omega)
   have h6:=h5 u hu
   simp only[subs,List.length_map,List.length_range]
   show (z0t u.nodes u.root.toNat).length≤5
   omega
  omega
 have hle: (goalsL r (z1c g) (i+1)).length≤(univ ((z1c g).args.flatMap subs) r.rels).length:=zho za0 fun x hx=>by
  obtain⟨y,hy,e1,e2,_⟩:= (z5l hrg hl' x hx).rel
  obtain⟨k,hk,rfl⟩:=List.mem_iff_getElem.1 hy
  exact zwb (zft hrg hl' x hx) hy e1 e2 (hr.rel k hk).2.1
 have:=zwc hT hr.most
 omega
def Goals.rg {r:RulesT}   (h:Goals r g L) (hg:Rg r g):∀x∈L,Rg r x:=by
 intro x hx
 rw[h.eq] at hx
 exact z5l hg h.lt x hx
def Goals.first {r:RulesT}   (h:Goals r g L):∃h0:0<L.length,L[0]=g:=by
 obtain⟨M,e⟩:=h.pre (Nat.zero_le _)
 have e' :L=g::M:=by rw[e];rfl
 subst e'
 exact⟨by simp,rfl⟩
def y4j    {v:V} {d d' :D} (h:CQ s false S n v d) (h' :CQ s false S' m v d'):d=d' :=by
 have a:=CQ.snap (b:=0) (fun _ _=>Nat.zero_le _) (m:=n+m+1) ω h
 have b:=CQ.snap (b:=0) (fun _ _=>Nat.zero_le _) (m:=n+m+1) ω h'
 rw[a] at b
 exact Option.some.inj b
theorem zze    :∀{vs:Lv} {ds ds' :Ld},CVs (CQ s false S n) vs ds→CVs (CQ s false S' m) vs ds' →ds=ds' :=fun a b=>CVs.fun_ (R:=CQ s false S n) (R' :=CQ s false S' m) (fun _ _ _ h h' =>y4j h h') a b
theorem znb {s:Sto} {k:Nat} :∀{n:Nat} {S:Nat→Prop} {v:V} {d:D},(∀m,m≤n→∀es ag len d,¬CQ s false S m (.arr k es ag 0 len) d)→CQ s false S n v d→CQ s false (fun q=>S q∧q≠k) n v d
 |0,_,_,_,_,h=>h
 |n+1,S,v,d,hk,h=>by
  have h0:=h
  rcases h with h|h|⟨k',es,ag,cs,ds,rfl,rfl,h3,h5,h6,h7,h8⟩
  ·exact .inl h
  ·exact .inr (.inl h)
  ·have hne:k' ≠k:=fun e=>by
    subst e
    exact hk (n+1) (Nat.le_refl _) _ _ _ _ h0
   exact .inr (.inr ⟨k',es,ag,cs,ds,rfl,rfl,⟨h3,hne⟩,h5,h6,h7,h8.imp fun v d hv=>znb (fun m hm=>hk m ω) hv⟩)
def zna    {cs:Lv} (hc:sget s k=some (.cells cs)):∀{n:Nat} {ds:Ld},CVs (CQ s false S n) cs ds→(∃es ag len d,CQ s false S (n+1) (.arr k es ag 0 len) d)→CVs (CQ s false (fun q=>S q∧q≠k) n) cs ds:=by
 intro n
 induction n with
 |zero=>exact fun h _=>h.imp fun v d hv=>hv
 |succ n ih=>
  intro ds h hr
  by_cases hex:∃es ag len d,CQ s false S (n+1) (.arr k es ag 0 len) d
  ·have hex' :=hex
   obtain⟨es,ag,len,d,hq⟩:=hex
   rcases hq with⟨e,_⟩|⟨e|e,_⟩|⟨k',es',ag',cs',ds',e,rfl,h3,h5,h6,h7,h8⟩
   ·cases e
   ·cases e
   ·cases e
   ·injection e with e1 e2 e3 e4 e5
    subst e1
    rw[hc] at h5
    injection h5 with h5
    injection h5 with h5
    subst h5
    have:=ih h8 hex'
    rw[zze h8 h] at this
    exact this.imp fun v d hv=>CQ.dep (Nat.le_succ n) hv
  ·refine h.imp fun v d hv=>znb (fun m hm es ag len d hq=>hex ⟨es,ag,len,d,CQ.dep hm hq⟩) hv
theorem zuy {s:Sto} :∀{n:Nat} {S:Nat→Prop} {v:V} {d:D},CQ s false S n v d→CZ s S n v d
 |0,_,_,_,h=>h.1
 |n+1,S,v,d,h=>by
  have h0:=h
  rcases h with⟨rfl,_⟩|h|⟨k,es,ag,cs,ds,rfl,rfl,h3,h5,h6,h7,h8⟩
  ·exact .inl rfl
  ·exact .inr (.inl h)
  ·refine .inr (.inr ⟨k,es,ag,ds,rfl,rfl,h3,h6,h7,.inl ⟨cs,h5,?_⟩⟩)
   exact (zna h5 h8 ⟨_,_,_,_,h0⟩).imp fun v d hv=>zuy hv
def y6c    (hi:i<W.length):offW n W i+ (W.getD i []).length≤n+W.flatten.length:=by
 unfold offW
 have e:W=W.take i++W[i]::W.drop (i+1):=by rw[←List.drop_eq_getElem_cons hi,List.take_append_drop]
 have hg:W.getD i []=W[i]:=by simp[hi]
 have hl:W.flatten.length= (W.take i).flatten.length+ (W[i].length+ (W.drop (i+1)).flatten.length):=by
  have:=congrArg (fun z:List (List SpotT)=>z.flatten.length) e
  simpa only[List.flatten_append,List.flatten_cons,List.length_append] using this
 rw[hg];omega
def y5q     (hi:i<n):spA (z3o rk n W) i=gSp rk n W i:=by
 have h1:i< ((List.range n).map (gSp rk n W)).length:=by simpa using hi
 unfold spA z3o
 rw[List.getD_eq_getElem?_getD,List.getElem?_append_left h1]
 simp[hi]
def y28     (hi:n≤i) (h:i<n+W.flatten.length):∃w∈W,spA (z3o rk n W) i∈w:=by
 have h1: ((List.range n).map (gSp rk n W)).length≤i:=by simpa using hi
 have h2:i-n<W.flatten.length:=ω
 have e:spA (z3o rk n W) i=W.flatten[i-n]:=by
  unfold spA z3o
  rw[List.getD_eq_getElem?_getD,List.getElem?_append_right h1]
  simp only[List.length_map,List.length_range]
  rw[List.getElem?_eq_getElem h2];rfl
 rw[e]
 exact List.mem_flatten.1 (List.getElem_mem h2)
def zr0    : (z3o rk n W).length=n+W.flatten.length:=by simp[z3o]
def y2i {r:RulesT}  (h:z0l r=0):0≤z9v r g:=by
 unfold z9v
 split
 ·rename_i x hx
  exact (z6n h (List.mem_of_find?_eq_some hx)).2.2.2.1
 ·exact Int.le_refl _
def zqx {r:RulesT}   (hrg:Rg r g) (hG:Goals r g L):SpOk (z1n r L)∧(z1n r L).length≤100000∧∀i,i< (z1n r L).length→(spA (z1n r L) i).next.length≤100000:=by
 obtain⟨hch,_⟩:=z1y hrg.1
 have h24:r.clauses.length≤24:=by
  unfold z0l at hch
  by_cases e1: ((r.rels.length:Int)<1∨(8:Int)<r.rels.length)∨(24:Int)<r.clauses.length
  ·rw[if_pos e1] at hch;simp at hch
  ·omega
 have hm:=hG.most
 have hfl:=zja h24 (L:=L) (i:=L.length)
 have hWl: (wL r L L.length).length=L.length:=wL_len
 have hlen: (z1n r L).length=L.length+ (wL r L L.length).flatten.length:=zr0
 have hlow:∀i,i<L.length→(spA (z1n r L) i).owner=0∧(spA (z1n r L) i).rank=rkL r L i∧(∀n∈(spA (z1n r L) i).next,n< (z1n r L).length)∧(spA (z1n r L) i).next.length≤100000:=by
  intro i hi
  have e:spA (z1n r L) i=_:=y5q hi
  rw[e]
  have ho:=y6c (n:=L.length) (W:=wL r L L.length) (i:=i) ω
  refine⟨rfl,rfl,fun n hn=> ?_,?_⟩
  ·have hn:n∈List.range' (offW L.length (wL r L L.length) i) ((wL r L L.length).getD i []).length:=hn
   have:= (List.mem_range'_1.1 hn).2
   omega
  ·show (List.range' _ _).length≤_
   rw[List.length_range']
   omega
 have hhigh:∀i,L.length≤i→i< (z1n r L).length→(spA (z1n r L) i).owner=1∧(spA (z1n r L) i).rank=0∧(∀n∈(spA (z1n r L) i).next,n<L.length)∧(spA (z1n r L) i).next.length≤100000:=by
  intro i h1 h2
  obtain⟨w,hw,hx⟩:=y28 (rk:=rkL r L) (W:=wL r L L.length) h1 ω
  have hx:spA (z1n r L) i∈w:=hx
  obtain⟨j,hj,rfl⟩:=List.mem_map.1 hw
  obtain⟨p,hp,e⟩:=List.mem_map.1 hx
  have hj:j<L.length:=by simpa using hj
  have eL:L.getD j ⟨[],[]⟩=L[j]:=by simp[hj]
  rw[eL] at hp
  rw[←e]
  refine⟨rfl,rfl,fun n hn=> ?_,?_⟩
  ·obtain⟨x,hx,rfl⟩:=List.mem_map.1 (show n∈p.2.map (ix L) from hn)
   exact (y8y (hG.closed hj hp hx)).1
  ·show (p.2.map (ix L)).length≤_
   obtain⟨a,b,c⟩:=zck.1 hp
   have hc:clA r p.1∈r.clauses:=by
    have:clA r p.1=r.clauses[p.1]:=by simp[clA,a]
    rw[this];exact List.getElem_mem a
   have:= (zni hch hc).2.1
   rw[List.length_map,c,z4m,List.length_map]
   omega
 refine⟨⟨fun i hi=> ?_,fun i hi=> ?_,fun i hi ho=> ?_,fun i hi=> ?_⟩,ω,fun i hi=> ?_⟩
 ·rcases Nat.lt_or_ge i L.length with h|h
  ·exact .inl (hlow i h).1
  ·exact .inr (hhigh i h hi).1
 ·rcases Nat.lt_or_ge i L.length with h|h
  ·rw[(hlow i h).2.1];exact y2i hch
  ·rw[(hhigh i h hi).2.1];exact Int.le_refl _
 ·rcases Nat.lt_or_ge i L.length with h|h
  ·rw[(hlow i h).1] at ho;cases ho
  ·exact⟨fun n hn=> (hlow n ((hhigh i h hi).2.2.1 n hn)).1,(hhigh i h hi).2.1⟩
 ·rcases Nat.lt_or_ge i L.length with h|h
  ·exact (hlow i h).2.2.1
  ·exact fun n hn=>by have:= (hhigh i h hi).2.2.1 n hn;omega
 ·rcases Nat.lt_or_ge i L.length with h|h
  ·exact (hlow i h).2.2.2
  ·exact (hhigh i h hi).2.2.2
def y45 {r:RulesT}  {N:Nm}   {n0:Nat} (hrg:Rg r g) (hG:Goals r g L) (h:Game r N L (z1n r L) s n0 nx) (hN:N.g<nx):
  ∃kv gv sv S,GmA r N.g kv gv sv (z1n r L) S nx s∧sget s kv=some (.cells (nq (List.replicate (z1n r L).length 0)))∧GP s false S 0 2 true gv (L.map GoalT.d):=by
 obtain⟨gv,sv,kv,h1,h2,h3,h4,h5,h6⟩:=h.ex
 obtain⟨a,b,c⟩:=zqx hrg hG
 refine⟨kv,gv,sv,_,⟨⟨h1,h3,fun e=>e.2.1 rfl,fun e=>e.2.2 rfl,h5⟩,⟨hN,h6,fun q hq=>hq.1⟩,a,b,c⟩,?_,h2⟩
 rw[h4];unfold nq;rw[List.map_replicate]
noncomputable def z6k (r:RulesT) (L:List GoalT):Bool:=bg (wonS (z1n r L) (List.replicate (z1n r L).length 0)).1 0
def DecP (r:RulesT) (g:GoalT) (rs:List D):Prop:= (z0q r g≠0∧rs= [.bool false,.int .i64 (z0q r g)])∨(z0q r g=0∧zj5 r (z1c g)∧rs= [.bool false,.int .i64 9])∨
 (z0q r g=0∧∃L,Goals r (z1c g) L∧rs= [.bool (z6k r L),.int .i64 0])
def y4g {r:RulesT} {gp:Nat}    {lw:Nat}  (hG:GmA r gp kv gv sv sp S nx s)  (hc:sget s kv=some (.cells (nq c))) (hcl:c.length=sp.length) (h0:0<sp.length):
  PostV (z06 G (.fn 22 [] []) [.ptr gp 0] {s:=s,next:=nx,low:=lw}) (fun v _=>v= .tup [.d (.bool (bg (wonS sp c).1 0)),.d (.int .i64 0)]):=by
 have hl1:=hG.lt.1
 refine z1b (first:= []) (args:= [.ptr gp 0]) (cap:= []) T1.g22 rfl rfl rfl (fun e w_len harg=> ?_)
 have w_len:e.length=8:=w_len
 have w_0:e.getD 0 .undef= .ptr gp 0:=harg 0 ψ
 clear harg
 simp (maxDischargeDepth:=60) only[T1.i22,w_len,w_0,↓LA,LB,simprocAttr]
 refine z0d (y43 (hG.frame ω fun _ _ _=>rfl) hc hcl) fun v st hR=> ?_
 obtain⟨hn,hf,hc2,k,h1,h2,rfl,hk⟩:=hR
 obtain⟨s1,n1,lw1⟩:=st
 have hk:sget s1 k=some (.cells (bq (wonS sp c).1)):=hk
 have hwl: (wonS sp c).1.length=sp.length:=bothS_len.trans zaf.1
 obtain⟨a1,a2,_⟩:=z6a (l:= (wonS sp c).1) (n:=0) ω
 have hia:z08 1 (.arr k 1 false 0 sp.length) 0=some (.ptr k 0):=z2f (i:=0) h0
 have w_k:=hk
 rw[List.drop_zero] at a2
 simp (maxDischargeDepth:=60) only[hia,a1,a2,w_len,w_k,↓LA,LB,simprocAttr]
def zwl {r:RulesT} (hr:r.ok)  (hg:g.ok)  {nx lw:Nat} :PostV (z06 G (.fn 21 [] []) [.d r.d,.d g.d,.fn 22 [] []] {s:=s,next:=nx,low:=lw}) (fun v _=>∃rs,v=tupV (rs.map V.d)∧DecP r g rs):=by
 have hx0:∀a b:V,[a,b][0]?=some a:=fun _ _=>rfl
 have hx1:∀a b:V,[a,b][1]?=some b:=fun _ _=>rfl
 refine z1b (first:= []) (args:= [.d r.d,.d g.d,.fn 22 [] []]) (cap:= []) T1.g21 rfl rfl rfl (fun e w_len harg=> ?_)
 have w_len:e.length=26:=w_len
 have w_0:e.getD 0 .undef= .d r.d:=harg 0 ψ
 have w_1:e.getD 1 .undef= .d g.d:=harg 1 ψ
 have w_2:e.getD 2 .undef= .fn 22 [] []:=harg 2 ψ
 clear harg
 simp (maxDischargeDepth:=60) only[T1.i21,RulesT.d,GoalT.d,w_len,w_0,w_1,↓LA,LB,simprocAttr]
 refine z0d (zdu hr hg) fun v st hR=> ?_
 obtain⟨hn,hf,⟨he,rfl⟩|⟨he,hgr,rfl⟩|⟨he,N,L,n0,hG,rfl,h1,h2,hGa⟩⟩:=hR
 ·obtain⟨s1,n1,lw1⟩:=st
  simp (maxDischargeDepth:=60) only[hx0,hx1,he,w_len,↓LA,LB,simprocAttr]
  exact⟨[.bool false,.int .i64 (z0q r g)],rfl,.inl ⟨he,rfl⟩⟩
 ·obtain⟨s1,n1,lw1⟩:=st
  simp (maxDischargeDepth:=60) only[hx0,hx1,w_len,↓LA,LB,simprocAttr]
  exact⟨[.bool false,.int .i64 9],rfl,.inr (.inl ⟨he,hgr,rfl⟩)⟩
 ·obtain⟨s1,n1,lw1⟩:=st
  simp (maxDischargeDepth:=60) only[hx0,hx1,w_len,w_2,↓LA,LB,simprocAttr]
  have hrg:=z84 hg he
  have h2:N.g<n1:=h2
  have hGa:Game r N L (z1n r L) s1 n0 n1:=hGa
  obtain⟨kv,gv,sv,S,hgm,hcv,_⟩:=y45 hrg hG hGa h2
  obtain⟨hL0,_⟩:=hG.first
  have hsl:0< (z1n r L).length:=by
   have: (z1n r L).length=L.length+ (wL r L L.length).flatten.length:=zr0
   omega
  refine z0d (y4g (hgm.frame ω fun _ _ _=>rfl) hcv ψ hsl) fun v st hR=> ?_
  subst hR
  obtain⟨s2,n2,lw2⟩:=st
  simp (maxDischargeDepth:=60) only[hx0,hx1,w_len,↓LA,LB,simprocAttr]
  exact⟨[.bool (z6k r L),.int .i64 0],rfl,.inr (.inr ⟨he,L,hG,rfl⟩)⟩
def zcu {r:RulesT} (hr:r.ok)  (hg:g.ok):∃rs,DecP r g rs∧∀st,z06 G (.fn 8 [] []) [.d r.d,.d g.d] st=some (tupV (rs.map V.d),st):=by
 have hx0:∀a b:V,[a,b][0]?=some a:=fun _ _=>rfl
 have hx1:∀a b:V,[a,b][1]?=some b:=fun _ _=>rfl
 refine zlq (ds:= [r.d,g.d]) (P:=DecP r g) T1.g8 rfl rfl (fun e w_len harg=> ?_)
 have w_len:e.length=11:=w_len
 have w_0:=harg 0 ψ
 have w_1:=harg 1 ψ
 clear harg
 simp only[List.map_cons,List.map_nil,List.getD_cons_zero,List.getD_cons_succ] at w_0 w_1
 simp (maxDischargeDepth:=60) only[T1.i8,RulesT.d,GoalT.d,w_len,w_0,w_1,↓LA,LB,simprocAttr]
 refine z0d (zwl hr hg) fun v st hR=> ?_
 obtain⟨rs,rfl,h2⟩:=hR
 obtain⟨s1,n1,lw1⟩:=st
 obtain⟨a,b,rfl⟩:∃a b,rs= [a,b]:=by
  rcases h2 with⟨_,h⟩|⟨_,_,h⟩|⟨_,L,_,h⟩<;>exact⟨_,_,h⟩
 simp (maxDischargeDepth:=60) only[List.map_cons,List.map_nil,tupV,hx0,hx1,w_len,↓LA,LB,simprocAttr]
 exact⟨_,rfl,[a,b],rfl,h2⟩
structure Shp (l:List Nat) (i n:Nat):Prop where
 len:l.length=n
 lt:∀q,q<i→l.getD q 0<i
 inj:∀q p,q<i→p<i→l.getD q 0=l.getD p 0→q=p
def z8o {l:Ln} {q x:Nat} (hi:i<l.length): (l.set i x).getD q 0=if q=i then x else l.getD q 0:=by
 by_cases h:q=i
 ·subst h;simp[hi]
 ·simp[h,show ¬i=q from fun e=>h e.symm]
def Shp.step {l:Ln}  (h:Shp l i n) (hi:i<n) (hj:j≤i):Shp ((l.set i (l.getD j 0)).set j i) (i+1) n:=by
 obtain⟨h1,h2,h3⟩:=h
 have e:∀q,((l.set i (l.getD j 0)).set j i).getD q 0=if q=j then i else if q=i then l.getD j 0 else l.getD q 0:=fun q=>by
  rw[z8o (by rw[List.length_set];omega),z8o ω]
 refine⟨by simp[h1],fun q hq=> ?_,fun q p hq hp he=> ?_⟩
 ·rw[e]
  split
  ·omega
  ·split
   ·have:=h2 j ω;omega
   ·have:=h2 q ω;omega
 ·rw[e,e] at he
  by_cases q1:q=j
  ·by_cases p1:p=j
   ·omega
   ·rw[if_pos q1,if_neg p1] at he
    split at he
    ·have:=h2 j ω;omega
    ·have:=h2 p ω;omega
  ·by_cases p1:p=j
   ·rw[if_pos p1,if_neg q1] at he
    split at he
    ·have:=h2 j ω;omega
    ·have:=h2 q ω;omega
   ·rw[if_neg q1,if_neg p1] at he
    by_cases q2:q=i
    ·by_cases p2:p=i
     ·omega
     ·rw[if_pos q2,if_neg p2] at he
      have:=h3 j p ω ω he
      omega
    ·by_cases p2:p=i
     ·rw[if_neg q2,if_pos p2] at he
      have:=h3 q j ω ω he
      omega
     ·rw[if_neg q2,if_neg p2] at he
      exact h3 q p ω ω he
def y8r {key:Nat} {st:St} (hn:n≤1000000):z4v key 1 false 8 [.d (.int .i64 0)] (.d (.int .i64 (n:Nat))) (.d (.int .i64 (n:Nat))) st=some (.arr key 1 false 0 n,st.ins key (.cells (nq (List.replicate n 0)))):=by
 have:nq (List.replicate n 0)=scs (List.replicate n (D.int .i64 0)):=by unfold nq;rw[List.map_replicate];rfl
 rw[this];exact zdq rfl ω ω
def zxi {l:Ln}  (h:n<l.length): (n+1≤(nq l).length)=True∧((nq l).drop n).take 1= [.d (.int .i64 (l.getD n 0:Nat))]:=by
 have h' :n< (l.map intD).length:=by simpa using h
 obtain⟨a1,a2⟩:=z9r h'
 refine⟨a1,?_⟩
 unfold nq
 rw[a2]
 simp[h,intD]
def ShR (s0:Sto) (nx k:Nat) (bs:List Int) (c n:Nat) (v:V) (st:St):Prop:=
 nx≤st.next∧(∀q,q<nx→q≠k→sget st.s q=sget s0 q)∧Sk st.s k bs (c+n)∧∃key l,nx≤key∧key<st.next∧v= .arr key 1 false 0 n∧sget st.s key=some (.cells (nq l))∧Shp l n n
def zof {bs:Li} (hb:LOk bs) {c:Nat} (hn:n≤1000) (hc:c≤100000)  {lw:Nat} (hk:k<nx) (h:Sk s k bs c):
  PostV (z06 G (.fn 20 [] []) [.ptr k 0,.d (.int .i64 (n:Nat))] {s:=s,next:=nx,low:=lw}) (ShR s nx k bs c n):=by
 have hmx:z3a true [.d (.int .i64 0),.d (.int .i64 (n:Nat))]=some (.d (.int .i64 (n:Nat))):=by rw[zsn,Int.max_eq_right ω]
 have hmk:=fun key st=>y8r (key:=key) (n:=n) (st:=st) ω
 refine z1b (first:= []) (args:= [.ptr k 0,.d (.int .i64 (n:Nat))]) (cap:= []) T1.g20 rfl rfl rfl (fun e w_len harg=> ?_)
 have w_len:e.length=33:=w_len
 have w_0:e.getD 0 .undef= .ptr k 0:=harg 0 ψ
 have w_1:e.getD 1 .undef= .d (.int .i64 (n:Nat)):=harg 1 ψ
 clear harg
 simp only[T1.i20,↓zyz,mmV,List.map_cons,List.map_nil,hmx,hmk,w_len,w_1,↓LA,LB,simprocAttr]
 refine z0b (fun e0 s0 m env st=>∃(i nxi lwi:Nat) (si:Sto) (l:Ln),m=n-i∧(i≤n)∧((∀q,q<nx→q≠k→sget si q=sget s q))∧(Sk si k bs (c+i))∧(Shp l i n)∧sget si (nx+3)=some (.cells (nq l))∧nx+5≤nxi∧0≤lwi∧env.length=33∧env.getD 13 .undef= .d (.int .i64 i)∧env.getD 0 .undef= .ptr k 0∧env.getD 5 .undef= .arr (nx+3) 1 false 0 n∧env.getD 12 .undef= .d (.int .i64 n)∧st= {s:=si,next:=nxi,low:=lwi}) ?_ (n) (by refine⟨0,_,_,_,List.replicate n 0,rfl,ω,(fun q h1 _=>z00 ω),(h.frame (z00 ω) (Nat.le_refl _)),⟨by simp,fun q h=>absurd h ω,fun q p h=>absurd h ω⟩,?_,ω,Nat.zero_le _,?_,?_,?_,?_,?_,rfl⟩<;>simp (maxDischargeDepth:=60) only[w_len,w_0,LB,simprocAttr])
 rintro m env st ⟨i,nxi,lwi,si,l,hm,i_0,i_1,i_2,i_3,w_ic0,w_ib,w_ilo,w_len,w_13,w_0,w_5,w_12,rfl⟩
 have w_iN:=cf1 (x:=nxi) (a:=nx+3) ω
 have w_iS:=cf2 (x:=nxi) ω w_ic0
 have w_iZ:=zf (x:=nxi) (b:=nx) (n:=5) ω ω
 by_cases hi:i<n
 ·have hia:z08 1 (.arr (nx+3) 1 false 0 n) (i:Int)=some (.ptr (nx+3) i):=z2f hi
  have hw:=z07 (show i<n from hi) ω
  simp only[hi,hw,w_len,w_13,w_0,w_12,↓LA,LB,simprocAttr]
  refine z0d (z1u (n:=i+1) hb (c:=c+i) ω ω ω ω i_2) fun v st hR=> ?_
  obtain⟨⟨j,hj,rfl⟩,hn1,hf1,hS1,_⟩:=hR
  obtain⟨s1,n1,lw1⟩:=st
  have hn1:nxi≤n1:=Nat.le_trans (Nat.le_add_right _ _) hn1
  have hf1:∀q,q<nxi→q≠k→sget s1 q=sget si q:=fun q h1 h2=>hf1 q (Nat.lt_of_lt_of_le h1 (Nat.le_add_right _ _)) h2
  have hS1:Sk s1 k bs (c+i+1):=hS1
  have hja:z08 1 (.arr (nx+3) 1 false 0 n) (j:Int)=some (.ptr (nx+3) j):=z2f ω
  obtain⟨a1,a2⟩:=zxi (l:=l) (n:=j) (by rw[i_3.len];omega)
  obtain⟨b1,b2⟩:=zxj (l:=l) (n:=i) (by rw[i_3.len];omega)
  obtain⟨c1,c2⟩:=zxj (l:=l.set i (l.getD j 0)) (n:=j) (by rw[List.length_set,i_3.len];omega)
  have b3:=b2 (l.getD j 0)
  have c3:=c2 i
  have w_s1:= (hf1 (nx+3) ω ω).trans w_ic0
  have w_nz: (∀o,sget (sset s1 (nx+3) o) (nx+3)=some o):=fun o=>z05 w_s1
  simp only[hia,hja,a1,a2,b1,b3,c1,c3,hw,w_len,w_13,w_5,w_s1,w_nz,↓LA,LB,simprocAttr]
  exact z09 (by refine⟨_,ω,i+1,_,_,_,(l.set i (l.getD j 0)).set j i,rfl,ω,fun q h1 h2=> (z01 ω).trans ((z01 ω).trans ((hf1 q ω h2).trans (i_1 q h1 h2))),hS1.frame ((z01 ω).trans (z01 ω)) ω,i_3.step hi ω,?_,ω,Nat.zero_le _,?_,?_,?_,?_,?_,rfl⟩<;>simp only[w_len,w_0,w_5,w_12,w_nz,LB,simprocAttr])
 ·have hie:i=n:=ω
  rw[hie] at i_2 i_3
  simp only[hi,w_len,w_13,w_5,w_12,↓LA,LB,simprocAttr]
  exact⟨by show nx≤nxi+_;omega,i_1,i_2,nx+3,l,ω,by show nx+3<nxi+_;omega,rfl,w_ic0,i_3⟩
def DbN (t:TreeT) (n:Nat) (o:List Nat) (i:Nat) (x:NodeT):Prop:=
 x.name= (t.nodes.getD (i%n) ⟨[],[]⟩).name∧x.kids.length= (t.nodes.getD (i%n) ⟨[],[]⟩).kids.length∧∀q (hq:q<x.kids.length),∃b:Nat,b<2∧x.kids[q]= ((o.getD (((t.nodes.getD (i%n) ⟨[],[]⟩).kids.getD q 0).toNat+n*b) 0:Nat):Int)
structure Dbl (t u:TreeT) (o:List Nat):Prop where
 sh:Shp o (2*t.nodes.length) (2*t.nodes.length)
 len:u.nodes.length=2*t.nodes.length
 root:∃b:Nat,b<2∧u.root= ((o.getD (t.root.toNat+t.nodes.length*b) 0:Nat):Int)
 node:∀i,i<2*t.nodes.length→DbN t t.nodes.length o i (u.nodes.getD (o.getD i 0) ⟨[],[]⟩)
def DblR (s0:Sto) (nx k:Nat) (bs:List Int) (c:Nat) (t:TreeT) (v:V) (st:St):Prop:=
 nx≤st.next∧(∀q,q<nx→q≠k→sget st.s q=sget s0 q)∧Sk st.s k bs (c+200)∧
  ∃(u:TreeT) (a:V) (o:List Nat),v=mkAgg [a,.d (.int .i64 u.root)]∧GP st.s false (Iv nx st.next) 1 2 true a (u.nodes.map NodeT.d)∧Dbl t u o
def z93 {a:Nat} (h:a*b≤1000000):binV .mul (.d (.int .i64 (a:Nat))) (.d (.int .i64 (b:Nat)))=some (.d (.int .i64 ((a*b:Nat):Int))):=by
 have hw:IntKind.i64.wrap ((a:Int)* (b:Int))= ((a*b:Nat):Int):=by rw[←Int.natCast_mul,z23 ω ω]
 simp only[binV,z1r,binI,Bool.false_eq_true,if_false,if_true,Option.map_some,hw]
def zny {a:Nat} (h:a+b≤1000000):binV .add (.d (.int .i64 (a:Nat))) (.d (.int .i64 (b:Nat)))=some (.d (.int .i64 ((a+b:Nat):Int))):=by
 have hw:IntKind.i64.wrap ((a:Int)+ (b:Int))= ((a+b:Nat):Int):=by rw[←Int.natCast_add,z23 ω ω]
 simp only[binV,z1r,binI,Bool.false_eq_true,if_false,if_true,Option.map_some,hw]
def zdj  (hk:k<n) (hb:b<2):k+n*b<2*n:=by
 have:b=0∨b=1:=ω
 rcases this with rfl|rfl<;>omega
def kidN (x:NodeT):List Nat:=x.kids.map Int.toNat
def zy7 {x:NodeT} (h:∀q∈x.kids,0≤q): (kidN x).map intD=x.kids.map (D.int .i64):=by
 unfold kidN
 rw[List.map_map]
 refine List.map_congr_left fun q hq=> ?_
 show D.int .i64 ((q.toNat:Nat):Int)=_
 rw[Int.toNat_of_nonneg (h q hq)]
def zm4 {ns:Lk} : ((ns.map NodeT.d).flatMap cellsD)=ns.flatMap fun x=> [D.str x.name,D.sl (x.kids.map (D.int .i64))]:=by
 rw[List.flatMap_map];rfl
def GP.nodeAt   {v:V} {ns:Lk} (h:GP s false S 1 2 true v (ns.map NodeT.d))  (hi:i<ns.length) (hk:∀q∈ns[i].kids,0≤q):
  ∃k cs kv,v= .arr k 2 true 0 ns.length∧S k∧sget s k=some (.cells cs)∧z08 2 v (i:Int)=some (.ptr k (i*2))∧i*2+2≤cs.length∧
   (cs.drop (i*2)).take 2= [.d (.str ns[i].name),kv]∧RdN s S kv (kidN ns[i]):=by
 rcases h with⟨_,e⟩|⟨k,cs,rfl,h1,h2,h3⟩
 ·cases ns with
  |nil=>simp at hi
  |cons x l=>simp at e
 ·have hl:=h3.length
  rw[(z15 (z0c fun a=>z62)).2,List.length_map] at hl
  rw[zm4] at h3
  have hc:∃kv,(cs.drop (i*2)).take 2= [.d (.str ns[i].name),kv]∧CQ s false (fun j=>S j∧j≠k) 1 kv (.sl (ns[i].kids.map (D.int .i64))):=by
   clear h2 hl hk
   induction ns generalizing cs i with
   |nil=>simp at hi
   |cons x l ih=>
    match cs,h3 with
    | [],h=>exact h.elim
    | [_],h=>exact h.2.elim
    |a::b::cs,h=>
     cases i with
     |zero=>
      have e1:a= .d (.str x.name):=by
       rcases h.1 with⟨e,_⟩|⟨_,e⟩|⟨_,_,_,_,_,_,e,_⟩
       ·exact e
       ·cases e
       ·cases e
      subst e1
      exact⟨b,rfl,h.2.1⟩
     |succ i=>
      have:=ih (cs:=cs) (i:=i) (by simpa using hi) h.2.2
      rw[show (i+1)*2=i*2+2 by omega]
      exact this
  obtain⟨kv,hc1,hc2⟩:=hc
  refine⟨k,cs,kv,by simp,h1,h2,?_,ω,hc1,?_⟩
  ·simp only[z08]
   rw[if_pos ⟨ω,by simp;omega,trivial⟩]
   simp
  ·rw[←zy7 hk] at hc2
   exact rdN (hc2.mono fun j hj=>hj.1)
def NA (s:Sto) (kN:Nat) (S:Nat→Prop) (ys:List NodeT):Prop:=∃cs,sget s kN=some (.cells cs)∧CVs (CQ s false S 1) cs (ys.flatMap fun x=> [D.str x.name,D.sl (x.kids.map (D.int .i64))])
def NA.frame {s':Sto}    (h:NA s kN S ys) (hk:sget s' kN=sget s kN) (hs:∀q,S q→sget s' q=sget s q∧S' q):NA s' kN S' ys:=by
 obtain⟨cs,h1,h2⟩:=h
 exact⟨cs,hk.trans h1,h2.imp fun v d hv=> (hv.frame fun q hq=> (hs q hq).1).mono fun q hq=> (hs q hq).2⟩
def y8t    (h:sget s kN=some (.cells (List.replicate n [V.d (.str []),V.nilS]).flatten)):NA s kN S (List.replicate n ⟨[],[]⟩):=by
 refine⟨_,h,?_⟩
 clear h
 induction n with
 |zero=>exact trivial
 |succ n ih=>exact⟨CQ.str,CQ.nil,ih⟩
def zg4 {R:V→D→Prop} :∀{ys:List NodeT} {cs:List V} {j:Nat},CVs R cs (ys.flatMap fun x=> [D.str x.name,D.sl (x.kids.map (D.int .i64))])→j<ys.length→j*2+2≤cs.length∧∀{a b:V} {x:NodeT},R a (.str x.name)→R b (.sl (x.kids.map (D.int .i64)))→
  CVs R (cs.take (j*2)++ [a,b]++cs.drop (j*2+2)) ((ys.set j x).flatMap fun x=> [D.str x.name,D.sl (x.kids.map (D.int .i64))])
 | [],_,_,_,h=>by simp at h
 |_::_,[],_,h,_=>h.elim
 |_::_,[_],_,h,_=>h.2.elim
 |y::ys,c::d::cs,0,h,_=>⟨by simp,fun h1 h2=>⟨h1,h2,h.2.2⟩⟩
 |y::ys,c::d::cs,j+1,h,hj=>by
  obtain⟨h1,h2⟩:=zg4 (ys:=ys) (cs:=cs) (j:=j) h.2.2 (by simpa using hj)
  refine⟨by simp only[List.length_cons];omega,fun ha hb=> ?_⟩
  rw[show (j+1)*2=j*2+1+1 by omega]
  exact⟨h.1,h.2.1,h2 ha hb⟩
def NA.put     (h:NA s kN S ys) (hj:j<ys.length):∃cs,sget s kN=some (.cells cs)∧(j*2+2≤cs.length)=True∧
  ∀{s' :Sto} {S' :Nat→Prop} {x:NodeT} {kv:V},(∀q,S q→sget s' q=sget s q∧S' q)→CQ s' false S' 1 kv (.sl (x.kids.map (D.int .i64)))→sget s' kN=some (.cells (cs.take (j*2)++ [.d (.str x.name),kv]++cs.drop (j*2+2)))→NA s' kN S' (ys.set j x):=by
 obtain⟨cs,h1,h2⟩:=h
 refine⟨cs,h1,eq_true (zg4 h2 hj).1,fun {s' S' x kv} hs hv hk=>⟨_,hk,(zg4 (h2.imp fun v d hv=> (hv.frame fun q hq=> (hs q hq).1).mono fun q hq=> (hs q hq).2) hj).2 CQ.str hv⟩⟩
def NA.gp     (h:NA s kN S ys) (hl:ys.length=n) (hS:∀q,S q→S' q∧q≠kN) (hk:S' kN):GP s false S' 1 2 true (.arr kN 2 true 0 n) (ys.map NodeT.d):=by
 obtain⟨cs,h1,h2⟩:=h
 refine .inr ⟨kN,cs,by rw[List.length_map,hl],hk,h1,?_⟩
 rw[zm4]
 exact h2.imp fun v d hv=>hv.mono hS
def Shp.onto   (h:Shp o m m)  (hj:j<m):∃i,i<m∧o.getD i 0=j:=by
 apply Classical.byContradiction
 intro hn
 have h1: (j:: (List.range m).map (fun i=>o.getD i 0)).Nodup:=by
  rw[List.nodup_cons]
  refine⟨fun hm=> ?_,?_⟩
  ·obtain⟨i,hi,e⟩:=List.mem_map.1 hm
   exact hn ⟨i,by simpa using hi,e⟩
  ·unfold List.Nodup
   rw[List.pairwise_map]
   exact List.Pairwise.imp_of_mem (fun ha hb hne he=>hne (h.inj _ _ (by simpa using ha) (by simpa using hb) he)) (List.nodup_range (n:=m))
 have h2:=z4u h1 (n:=m) (fun x hx=>by
  rcases List.mem_cons.1 hx with rfl|hx
  ·exact hj
  ·obtain⟨i,hi,rfl⟩:=List.mem_map.1 hx
   exact h.lt i (by simpa using hi))
 simp at h2
 omega
def Dbl.at_ {u:TreeT}  (h:Dbl t u o)  (hj:j<u.nodes.length):∃i,i<2*t.nodes.length∧o.getD i 0=j∧DbN t t.nodes.length o i (nd u.nodes j):=by
 obtain⟨i,hi,e⟩:=h.sh.onto (by rw[←h.len];exact hj)
 exact⟨i,hi,e,e▸h.node i hi⟩
def zmo {x:NodeT} {q:Nat} (h:Nok n x) (hq:q<x.kids.length):0≤x.kids.getD q 0∧(x.kids.getD q 0).toNat<n:=by
 have e:x.kids.getD q 0=x.kids[q]:=by simp[hq]
 rw[e]
 have:=h.2.2.2 _ (List.getElem_mem hq)
 omega
def zil  (hm:m≤30) {u:TreeT}  (ht:Tok m t) (h:Dbl t u o):u.ok∧Ok u∧z1o u=z1o t:=by
 obtain⟨t1,t2,t3,t4,t5⟩:=ht
 obtain⟨_,hOt⟩:=zqn ω ⟨t1,t2,t3,t4,t5⟩
 obtain⟨n,hn⟩:∃n,n=t.nodes.length:=⟨_,rfl⟩
 have hul:=h.len
 have hx:∀i,Nok t.nodes.length (nd t.nodes (i%t.nodes.length)):=fun i=>by
  have hi:i%t.nodes.length<t.nodes.length:=Nat.mod_lt _ t1
  rw[z2j hi];exact t3 _ (List.getElem_mem hi)
 have hnode:∀x∈u.nodes,z0z x.name=true∧SOk x.name∧x.kids.length≤2∧∀k∈x.kids,0≤k∧k<u.nodes.length:=fun x hxu=>by
  obtain⟨j,hj,rfl⟩:=List.mem_iff_getElem.1 hxu
  obtain⟨i,hi,e,d1,d2,d3⟩:=h.at_ hj
  have hX:=hx i
  rw[z2j hj] at d1 d2 d3
  have d2:u.nodes[j].kids.length= (nd t.nodes (i%t.nodes.length)).kids.length:=d2
  have d1:u.nodes[j].name= (nd t.nodes (i%t.nodes.length)).name:=d1
  refine⟨by rw[d1];exact hX.1,by rw[d1];exact hX.2.1,by rw[d2];exact hX.2.2.1,fun k hk=> ?_⟩
  obtain⟨q,hq,rfl⟩:=List.mem_iff_getElem.1 hk
  obtain⟨b,hb,e2⟩:=d3 q hq
  rw[e2]
  have hk2:= (zmo hX (q:=q) (by rw[←d2];exact hq)).2
  have:=h.sh.lt _ (zdj hk2 hb)
  rw[hul]
  refine⟨ω,?_⟩
  exact Int.ofNat_lt.2 this
 obtain⟨b,hb,hroot⟩:=h.root
 have hrl:=h.sh.lt _ (zdj (show t.root.toNat<t.nodes.length by omega) hb)
 have hOu:Ok u:=by
  refine⟨⟨ω,fun i hi=> ?_,fun i hi=> ?_⟩,by rw[hroot];omega,by rw[hroot,hul];exact Int.ofNat_lt.2 hrl,fun x hx=> (hnode x hx).1⟩
  ·rw[z2j hi];have:= (hnode _ (List.getElem_mem hi)).2.2.1;omega
  ·rw[z2j hi];exact (hnode _ (List.getElem_mem hi)).2.2.2
 refine⟨⟨⟨by unfold LOk;omega,fun x hx=> ?_⟩,?_⟩,hOu,?_⟩
 ·obtain⟨a1,a2,a3,a4⟩:=hnode x hx
  exact⟨a2,by unfold LOk;omega,fun k hk=>by have:=a4 k hk;unfold IOk;omega⟩
 ·rw[hroot];unfold IOk;omega
 ·have hb1:bis u.nodes t.nodes u.root.toNat t.root.toNat:=znt (R:=fun y x=>∃i,i<2*t.nodes.length∧x=i%t.nodes.length∧y=o.getD i 0) (fun y x=>by
   rintro⟨i,hi,rfl,rfl⟩
   obtain⟨d1,d2,d3⟩:=h.node i hi
   have hX:=hx i
   refine⟨d1,d2,fun q hq=> ?_⟩
   have hq1:q< (u.nodes.getD (o.getD i 0) ⟨[],[]⟩).kids.length:=hq
   have hq2:q< (nd t.nodes (i%t.nodes.length)).kids.length:=Nat.lt_of_lt_of_eq hq1 d2
   obtain⟨b,hb,e⟩:=d3 q hq1
   have hk2:= (zmo hX hq2).2
   refine⟨_,zdj hk2 hb,?_,?_⟩
   ·rw[Nat.add_mul_mod_self_left,Nat.mod_eq_of_lt hk2]
    unfold kid kds
    simp[hq2]
   ·unfold kid kds
    have: (nd u.nodes (o.getD i 0)).kids[q]'hq1=_:=e
    have e3: ((nd u.nodes (o.getD i 0)).kids.map Int.toNat).getD q 0= ((nd u.nodes (o.getD i 0)).kids[q]'hq1).toNat:=by
     rw[List.getD_eq_getElem?_getD,List.getElem?_map,List.getElem?_eq_getElem (show q< (nd u.nodes (o.getD i 0)).kids.length from hq1)];rfl
    rw[e3,this]
    rfl) (x:=u.root.toNat) (y:=t.root.toNat) ⟨_,zdj (show t.root.toNat<t.nodes.length by omega) hb,by rw[Nat.add_mul_mod_self_left,Nat.mod_eq_of_lt (show t.root.toNat<t.nodes.length by omega)],by rw[hroot];rfl⟩
  have:= (zhv hOu.gd.rt hOt.gd.rt (by have h1:=hOu.rl;have h2:=hOu.rh;omega) ω).2 hb1
  unfold z1o
  rw[this]
theorem zst {α β:Type} {f g:α→β} :∀{l m:List α},l.length=m.length→(∀i (h:i<l.length) (h' :i<m.length),f l[i]=g m[i])→l.map f=m.map g
 | [],[],_,_=>rfl
 | [],_::_,h,_=>by simp at h
 |_::_,[],h,_=>by simp at h
 |a::l,b::m,h,k=>by
  rw[List.map_cons,List.map_cons,zst (l:=l) (m:=m) (by simpa using h) (fun i h h' =>k (i+1) (by simp;omega) (by simp;omega))]
  rw[show f a=g b from k 0 ψ ψ]
def zeb {r:RulesT}  {M:Lh} (h:Goals r g L) (k:Goals r g M):L=M:=by
 have e:L.length=M.length:=by
  rcases Nat.lt_trichotomy L.length M.length with hl|hl|hl
  ·have:=k.lt _ hl
   rw[←h.eq] at this
   omega
  ·exact hl
  ·have:=h.lt _ hl
   rw[←k.eq] at this
   omega
 rw[h.eq,k.eq,e]
def zce {r:RulesT}   (h:Goals r g L):¬zj5 r g:=by
 rintro⟨i,h1,h2⟩
 rcases Nat.lt_or_ge i L.length with hl|hl
 ·obtain⟨M,e⟩:=h.pre (i:=i+1) ω
  have:=congrArg List.length e
  rw[List.length_append] at this
  have:=h.most
  omega
 ·have:=h1 L.length hl
  rw[←h.eq] at this
  omega
def z3f (k:Int):RulesT:=⟨[⟨[102,105,110],1,k⟩],[⟨[102,105,110],[⟨[110,105,108],[]⟩],[]⟩,⟨[102,105,110],[⟨[99,111,110,115],[[104],[116]]⟩],[⟨[102,105,110],[[116]]⟩]⟩]⟩
def zk4:z0l (z3f 1)=0:=by decide
def z2d (r q:RulesT):RulesT:=⟨r.rels++q.rels,r.clauses++q.clauses⟩
structure Bes (r q:RulesT):Prop where
 r0:z0l r=0
 q0:z0l q=0
 new:∀x∈q.rels,∀y∈r.rels,y.name≠x.name
 few:r.rels.length+q.rels.length≤8∧r.clauses.length+q.clauses.length≤24
section
variable {r q:RulesT}
def zuf {m:List RelT} {n:Ln}  (h:l.find? (isR n)=some x): (l++m).find? (isR n)=some x:=by
 rw[List.find?_append,h];rfl
def y7a {m:List RelT} {n:Ln} (h:∀y∈l,y.name≠n): (l++m).find? (isR n)=m.find? (isR n):=by
 have:l.find? (isR n)=none:=by
  rw[List.find?_eq_none]
  intro y hy
  simpa [isR] using h y hy
 rw[List.find?_append,this];rfl
def zx2  {n:Ln}  (h:∀y∈l.take i,y.name≠n):z2i l n= -1∨(i:Int)≤z2i l n:=by
 unfold z2i idxL
 cases hc:l.findIdx? (isR n) with
 |none=>exact .inl rfl
 |some j=>
  refine .inr ?_
  obtain⟨hj,h1,_⟩:=List.findIdx?_eq_some_iff_getElem.1 hc
  apply Classical.byContradiction
  intro hlt
  have hlt:j<i:=by simp only at hlt;omega
  refine h l[j] ?_ (by simpa [isR] using h1)
  rw[List.mem_take_iff_getElem]
  exact⟨j,ω,rfl⟩
def z86   (hi:i<l.length):0≤z2i l l[i].name∧z2i l l[i].name≤i:=by
 unfold z2i idxL
 cases hc:l.findIdx? (isR l[i].name) with
 |none=>
  rw[List.findIdx?_eq_none_iff] at hc
  have:=hc l[i] (List.getElem_mem hi)
  simp[isR] at this
 |some j=>
  obtain⟨hj,_,h2⟩:=List.findIdx?_eq_some_iff_getElem.1 hc
  refine⟨by simp,?_⟩
  rcases Nat.lt_or_ge i j with h|h
  ·have:=h2 i h
   simp[isR] at this
  ·exact Int.ofNat_le.2 h
def zrn   (hi:i<l.length) (hj:j<i) (h:¬z2i l l[i].name<i):l[j].name≠l[i].name:=by
 intro e
 apply h
 have:= (z86 (l:=l) (i:=j) ω).2
 rw[e] at this
 omega
def znj {r:RulesT} (h:z0l r=0)  (hi:i<r.rels.length):z18 r i r.rels[i]=0:=by
 unfold z0l at h
 by_cases e1: ((r.rels.length:Int)<1∨(8:Int)<r.rels.length)∨(24:Int)<r.clauses.length
 ·rw[if_pos e1] at h;simp at h
 rw[if_neg e1] at h
 by_cases e2:z4x (fun i=>z18 r i (r.rels.getD i ⟨[],0,0⟩)) r.rels.length≠0
 ·rw[if_pos e2] at h;exact absurd h e2
 have:=zcm (Classical.byContradiction e2) i hi
 simpa [hi] using this
def zv9 {r:RulesT} {c:ClauseT} (h:z0y r c=0):∃x,r.rels.find? (isR c.rel)=some x:=by
 unfold z0y at h
 cases hf:r.rels.find? (isR c.rel) with
 |none=>rw[hf] at h;simp at h
 |some x=>exact⟨x,rfl⟩
def zeq {r r' :RulesT} {c:ClauseT} (h:z0y r c=0) (hs:∀n x,r.rels.find? (isR n)=some x→r'.rels.find? (isR n)=some x):z0y r' c=0:=by
 obtain⟨x,hx⟩:=zv9 h
 unfold z0y at h⊢
 rw[hx] at h
 rw[hs _ _ hx]
 simp only at h⊢
 by_cases e1: (c.head.length:Int)≠x.arity∨(4:Int)<c.body.length∨c.head.all few=false
 ·rw[if_pos e1] at h;simp at h
 by_cases e2:c.head.all nmd=false
 ·rw[if_neg e1,if_pos e2] at h;simp at h
 rw[if_neg e1,if_neg e2] at h⊢
 refine z17 fun a ha=> ?_
 have:=zco h a ha
 unfold z2r at this⊢
 cases hf:r.rels.find? (isR a.name) with
 |none=>rw[hf] at this;simp at this
 |some y=>rw[hf] at this;rw[hs _ _ hf];exact this
def zsm  {n:Ln}  (h:l.find? (isR n)=some x):x∈l∧x.name=n:=⟨List.mem_of_find?_eq_some h,by simpa [isR] using List.find?_some h⟩
def Bes.find_q (h:Bes r q) {n:Ln}  (hx:q.rels.find? (isR n)=some x): (z2d r q).rels.find? (isR n)=some x:=by
 obtain⟨h1,h2⟩:=zsm hx
 show (r.rels++q.rels).find? _=_
 rw[y7a fun y hy=>by rw[←h2];exact h.new x h1 y hy]
 exact hx
def zvl (h:Bes r q):z0l (z2d r q)=0:=by
 obtain⟨_,_,hcr⟩:=z50 h.r0
 obtain⟨_,_,hcq⟩:=z50 h.q0
 have hr1:= (z7m h.r0).1
 obtain⟨f1,f2⟩:=h.few
 have hl: (z2d r q).rels.length=r.rels.length+q.rels.length:=List.length_append
 have hl2: (z2d r q).clauses.length=r.clauses.length+q.clauses.length:=List.length_append
 unfold z0l
 rw[if_neg ω]
 have hf:z4x (fun i=>z18 (z2d r q) i ((z2d r q).rels.getD i ⟨[],0,0⟩)) (z2d r q).rels.length=0:=z7x fun i hi=>by
  show z18 (z2d r q) i ((r.rels++q.rels).getD i ⟨[],0,0⟩)=0
  rcases Nat.lt_or_ge i r.rels.length with h1|h1
  ·have e: (r.rels++q.rels).getD i ⟨[],0,0⟩=r.rels[i]:=by rw[List.getD_eq_getElem?_getD,List.getElem?_append_left h1,List.getElem?_eq_getElem h1];rfl
   have h0:=znj h.r0 h1
   rw[e]
   unfold z18 at h0⊢
   have:z2i (z2d r q).rels r.rels[i].name=z2i r.rels r.rels[i].name:=by
    obtain⟨a,b⟩:=z86 h1
    unfold z2i idxL at a⊢
    show (match (r.rels++q.rels).findIdx? _ with|some i=> (i:Int)|none=> -1)=_
    rw[List.findIdx?_append]
    cases hc:r.rels.findIdx? (isR r.rels[i].name) with
    |none=>rw[hc] at a;simp at a
    |some j=>rfl
   rw[this];exact h0
  ·have h2:i-r.rels.length<q.rels.length:=ω
   have e: (r.rels++q.rels).getD i ⟨[],0,0⟩=q.rels[i-r.rels.length]:=by
    rw[List.getD_eq_getElem?_getD,List.getElem?_append_right h1,List.getElem?_eq_getElem h2];rfl
   have h0:=znj h.q0 h2
   rw[e]
   obtain⟨x,hx⟩:∃x,x=q.rels[i-r.rels.length]:=⟨_,rfl⟩
   have hxm:x∈q.rels:=by rw[hx];exact List.getElem_mem h2
   have hfst:∀j,j<i-r.rels.length→∀hj:j<q.rels.length,q.rels[j].name≠q.rels[i-r.rels.length].name:=fun j hj hj' =>by
    refine zrn h2 hj ?_
    unfold z18 at h0
    repeat' split at h0
    all_goals first| (rename_i h;exact h)| (simp at h0)
   have hn:¬z2i (z2d r q).rels q.rels[i-r.rels.length].name<i:=by
    have hi' :i< (r.rels++q.rels).length:=by rw[List.length_append];omega
    have hge:=zx2 (l:=r.rels++q.rels) (n:=q.rels[i-r.rels.length].name) (i:=i) fun y hy=>by
     rw[List.mem_take_iff_getElem] at hy
     obtain⟨j,hj,rfl⟩:=hy
     rw[List.getElem_append]
     split
     ·exact h.new _ (List.getElem_mem h2) _ (List.getElem_mem _)
     ·exact hfst _ ω _
    have hown:= (z86 hi').1
    have e3: (r.rels++q.rels)[i]=q.rels[i-r.rels.length]:=List.getElem_append_right h1
    rw[e3] at hown
    show ¬z2i (r.rels++q.rels) _<_
    omega
   unfold z18 at h0⊢
   rw[if_neg hn]
   repeat' split at h0
   all_goals first|rfl| (simp at h0)|skip
   all_goals (rename_i a1 a2 a3 a4;rw[if_neg a1,if_neg a2,if_neg a3])
 rw[hf,if_neg ψ]
 refine z17 fun c hc=> ?_
 rcases List.mem_append.1 (show c∈r.clauses++q.clauses from hc) with hc|hc
 ·exact zeq (hcr c hc) fun n x hx=>zuf hx
 ·exact zeq (hcq c hc) fun n x hx=>h.find_q hx
def Bes.goal (h:Bes r q)  (hg:z0q r g=0):z0q (z2d r q) g=0:=by
 obtain⟨_,x,h1,h2,h3⟩:=z1y hg
 unfold z0q
 rw[if_neg (by rw[zvl h];simp)]
 rw[show (z2d r q).rels.find? (isR g.rel)=some x from zuf h1]
 simp only
 rw[if_neg (by simpa using h2)]
 exact h3
def Bes.fresh (h:Bes r q):fresh r q=true:=List.all_eq_true.2 fun x hx=>by
 have:z2i r.rels x.name= -1:=zts fun y hy=>by simpa [isR] using h.new x hx y hy
 simp[this]
def Bes.join (h:Bes r q):zi0 r q= (z2d r q,0):=if_neg (by rw[h.fresh];simp)
def Bes.fits (h:Bes r q)  (hg:Rg r g):z2q (z2d r q) g (z2d r q).clauses.length=z2q r g r.clauses.length:=by
 have e: (z2d r q).clauses.length=r.clauses.length+q.clauses.length:=List.length_append
 rw[e]
 unfold z2q
 rw[List.range_add,List.flatMap_append]
 have e1: (List.range r.clauses.length).flatMap (z7d (z2d r q) g)= (List.range r.clauses.length).flatMap (z7d r g):=by
  rw[List.flatMap_def,List.flatMap_def]
  congr 1
  refine List.map_congr_left fun c hc=> ?_
  have hc:c<r.clauses.length:=by simpa using hc
  have:clA (z2d r q) c=clA r c:=by
   unfold clA z2d
   simp only[List.getD_eq_getElem?_getD]
   rw[List.getElem?_append_left hc]
  unfold z7d
  rw[this]
 have e2: ((List.range q.clauses.length).map (r.clauses.length+ ·)).flatMap (z7d (z2d r q) g)= []:=by
  rw[List.flatMap_eq_nil_iff]
  intro c hc
  obtain⟨d,hd,rfl⟩:=List.mem_map.1 hc
  have hd:d<q.clauses.length:=by simpa using hd
  have:clA (z2d r q) (r.clauses.length+d)=q.clauses[d]:=by simp[clA,z2d,hd]
  unfold z7d
  rw[this,if_neg]
  intro hf
  obtain⟨x,hx,e,_⟩:=hg.rel
  obtain⟨y,hy⟩:=zv9 ((z50 h.q0).2.2 _ (List.getElem_mem hd))
  obtain⟨hy1,hy2⟩:=zsm hy
  exact h.new y hy1 x hx (by rw[hy2,←e];exact hf.1.symm)
 rw[e1,e2,List.append_nil]
theorem Bes.goalsL (h:Bes r q)   (hg:Rg r g) (hL:Goals r g L):∀{i:Nat},i≤L.length→goalsL (z2d r q) g i=Go.Lift.K.goalsL r g i
 |0,_=>rfl
 |i+1,hi=>by
  have ih:=h.goalsL hg hL (i:=i) ω
  show addL (Go.Lift.K.goalsL (z2d r q) g i) _=addL _ _
  rw[ih]
  have e:=hL.at_ (i:=i) ω
  rw[e,h.fits (hL.rg hg _ (List.getElem_mem _))]
def Bes.goals (h:Bes r q)   (hg:Rg r g) (hL:Goals r g L):Goals (z2d r q) g L:=⟨by rw[h.goalsL hg hL (Nat.le_refl _)];exact hL.eq,fun i hi=>by rw[h.goalsL hg hL ω];exact hL.lt i hi,hL.most⟩
def Bes.rank (h:Bes r q)  (hg:Rg r g):z9v (z2d r q) g=z9v r g:=by
 obtain⟨_,x,h1,_,_⟩:=z1y hg.1
 unfold z9v
 rw[h1,show (z2d r q).rels.find? (isR g.rel)=some x from zuf h1]
def Bes.spots (h:Bes r q)   (hg:Rg r g) (hL:Goals r g L):z1n (z2d r q) L=z1n r L:=by
 have hat:∀j,j<L.length→Rg r (L.getD j ⟨[],[]⟩):=fun j hj=>by
  have:L.getD j ⟨[],[]⟩=L[j]:=by simp[hj]
  rw[this];exact hL.rg hg _ (List.getElem_mem hj)
 have e1:wL (z2d r q) L L.length=wL r L L.length:=by
  unfold wL
  refine List.map_congr_left fun j hj=> ?_
  rw[h.fits (hat j (by simpa using hj))]
 unfold z1n z3o
 rw[e1]
 congr 1
 refine List.map_congr_left fun j hj=> ?_
 unfold gSp rkL
 rw[h.rank (hat j (by simpa using hj))]
def Bes.holds (h:Bes r q)   (hg:Rg r g) (hL:Goals r g L):z6k (z2d r q) L=z6k r L:=by
 unfold z6k
 rw[h.spots hg hL]
end
def z9j {r:RulesT}  {rs:Ld} (h:DecP r g rs) (h0:z0q r g=0)  (hL:Goals r (z1c g) L):rs= [.bool (z6k r L),.int .i64 0]:=by
 rcases h with⟨h1,_⟩|⟨_,h1,_⟩|⟨_,M,h1,h2⟩
 ·exact absurd h0 h1
 ·exact absurd h1 (zce hL)
 ·rw[zeb hL h1];exact h2
def zvk {r:RulesT} (h:RulesM r):Bes r (z3f 1):=by
 refine⟨z9t h,zk4,fun x hx y hy=> ?_,?_⟩
 ·obtain⟨i,hi,rfl⟩:=List.mem_iff_getElem.1 hy
  rw[(h.rel i hi).1]
  have:x.name= [102,105,110]:=by
   simp[z3f] at hx
   rw[hx]
  rw[this]
  simp[relN]
 ·have h1:=h.most
  have h2:=h.few
  simp[z3f]
  omega
def zed {r:RulesT} (h:RulesM r):fresh r r=false:=by
 have h1:=h.one
 unfold fresh
 rw[Bool.eq_false_iff]
 intro hf
 have h2:=List.all_eq_true.1 hf r.rels[0] (List.getElem_mem _)
 have h3:= (z86 (l:=r.rels) (i:=0) h1).1
 have h4:z2i r.rels r.rels[0].name<0:=by simpa using h2
 omega
theorem ztk {r:RulesT} (h:RulesM r):zi0 r r= (noRules,5):=if_pos (zed h)
end Go.Lift.K
