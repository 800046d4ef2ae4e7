/- Part P12 of the proof. -/
import Derived.Test.YthjhclclibpijaaGreatDoorP11
set_option linter.all false
set_option maxHeartbeats 4000000
set_option maxRecDepth 100000
namespace Go.Lift.K
open Go Go.Lift
variable{s sO:Sto}{nx k pc pp c lw:Nat}{v xw xv:V}{bs:Li}{rel nm:Ln}{ps:List PatT}{vs:List (List Nat)}
def zfu  {lv:Bool} {S:Nat→Prop} {n es l:Nat} {ag:Bool}  {ds:Ld} (h:GP s lv S n es ag v ds) (h1:∀q,S q→nx≤q) (h2:nx≤l):nx≤zaa v l:=by
 rcases h with⟨rfl,_⟩|⟨k,cs,rfl,hS,_⟩
 ·exact h2
 ·exact z02 h2 (h1 _ hS)
def y5o  {lv:Bool} {S:Nat→Prop}  {l:List (List Nat)} (h:GP s lv S 0 1 false v (l.map D.str)) (h0:0<l.length):
  ∃k cs,v= .arr k 1 false 0 l.length∧S k∧sget s k=some (.cells cs)∧∀j (hj:j<l.length),z08 1 v (j:Int)=some (.ptr k j)∧
   (j+1≤cs.length)=True∧(cs.drop j).take 1= [.d (.str l[j])]:=by
 rcases h with⟨_,e⟩|⟨k,cs,rfl,h1,h2,h3⟩
 ·cases l with
  |nil=>simp at h0
  |cons x l=>simp at e
 ·have e:=zzg h3
  subst e
  have hcs: ((l.map D.str).flatMap cellsD).map V.d=l.map fun x=>V.d (.str x):=by
   clear h3 h2 h0
   induction l with
   |nil=>rfl
   |cons x l ih=>simp only[List.map_cons,List.flatMap_cons,List.map_append,ih];rfl
  rw[hcs] at h2
  refine⟨k,_,by simp,h1,h2,fun j hj=>⟨?_,eq_true (by simp;omega),?_⟩⟩
  ·rw[List.length_map]
   simp only[z08]
   rw[if_pos ⟨ω,ω,trivial⟩]
   simp
  ·rw[List.drop_eq_getElem_cons (by simpa using hj)]
   simp
theorem z0h {e:Lv} {j:Nat} {u:V} (h:k≠j): (e.set k v).getD j u=e.getD j u:=z7w (eq_false h)
theorem zeo {b:Nat} :binV .add (.d (.str [118])) (.d (.str [b]))=some (.d (.str [118,b])):=rfl
structure HeadS (k pc:Nat) (bs:List Int) (sO:Sto) (c:Nat) (rel:List Nat) (xw xv:V) (ps:List PatT) (vs:List (List Nat)) (s:Sto) (nx lw:Nat):Prop where
 sk:Sk s k bs c
 pcl:sget s pc=some (.cells [.d (.str rel),xw,.nilS])
 w:GP s false (fun q=>pc+1≤q∧q<nx∧away xv q) 1 2 true xw (ps.map PatT.d)
 v:GP s false (fun q=>pc+1≤q∧q<nx∧¬away xv q) 0 1 false xv (vs.map D.str)
 fr:∀q,q<pc→q≠k→sget s q=sget sO q
 lw:k≤lw
 nx:pc<nx
structure VarS (k pc pp:Nat) (bs:List Int) (sO:Sto) (c:Nat) (rel nm:List Nat) (xw xu xv:V) (ps:List PatT) (us vs:List (List Nat)) (s:Sto) (nx lw:Nat):Prop where
 sk:Sk s k bs c
 pcl:sget s pc=some (.cells [.d (.str rel),xw,.nilS])
 ppl:sget s pp=some (.cells [.d (.str nm),xu])
 u:GP s false (fun q=>pp+1≤q∧q<nx∧away xv q) 0 1 false xu (us.map D.str)
 v:GP s false (fun q=>pc+1≤q∧q<nx∧q≠pp∧¬away xv q) 0 1 false xv (vs.map D.str)
 w:GP s false (fun q=>pc+1≤q∧q<pp∧away xv q) 1 2 true xw (ps.map PatT.d)
 fr:∀q,q<pc→q≠k→sget s q=sget sO q
 lw:k≤lw
 nx:pp<nx
def z8t:∀a:List Nat,Elt 1 false (D.str a):=fun a=>zkh
def zl8    {E:Lv} {x:Ln} {xu:V}  {us:List (List Nat)} {Q:Ex→List V→St→Prop} (hkp:k<pc) (hpp:pc<pp) (hul:us.length≤10) (hvl:vs.length≤10)
  (w_len:E.length=171) (w_12:E.getD 12 .undef=xv) (w_14:E.getD 14 .undef= .ptr pp 0) (w_15:E.getD 15 .undef= .d (.str x)) (h:VarS k pc pp bs sO c rel nm xw xu xv ps us vs s nx lw)
  (hQ:∀e st xu' xv',e.length=171→(∀l,l≠12→l<96→e.getD l .undef=E.getD l .undef)→e.getD 12 .undef=xv' →VarS k pc pp bs sO c rel nm xw xu' xv' ps (us++ [x]) (vs++ [x]) st.s st.next st.low→nx≤st.next→Q .nrm e st):
  PC (z0j (z06 G) z0g none T1.q4_96 E {s:=s,next:=nx,low:=lw}) Q .mk:=by
 obtain⟨hsk,w_pc,w_pp,hu,hv,hw,hfr,hlw,hnx⟩:=h
 have w_z:= (zf (x:=nx) (b:=pp) (n:=1) ω ω)
 have w_z2:= (zf (x:=nx) (b:=pc) (n:=1) ω ω)
 have w_pN:=aI (cf1 (x:=nx) (a:=pc) ω) (cf1 (x:=nx) (a:=pp) ω)
 have w_pS:=aI (cf2 (x:=nx) ω w_pc) (cf2 (x:=nx) ω w_pp)
 have w_huV:=aI (hu.away (j:=k) ω) (aI (hu.away (j:=pc) ω) (aI (hu.away (j:=pp) ω) (aI (hu.away (j:=nx+3) ω) (hu.away (j:=nx+7) ω))))
 have w_huc:=hu.cell.1
 have w_hud:=hu.cell.2
 have w_hue:=hu.beq
 have w_hvV:=aI (hv.away (j:=k) ω) (aI (hv.away (j:=pc) ω) (aI (hv.away (j:=pp) ω) (aI (hv.away (j:=nx+3) ω) (aI (hv.away (j:=nx+7) ω) (hv.away (j:=nx+4) ω)))))
 have w_hvc:=hv.cell.1
 have w_hvd:=hv.cell.2
 have w_hve:=hv.beq
 simp only[w_len,w_14,w_15,w_pp,↓LA,LB,simprocAttr]
 refine z4g hu ?_ (z0c z8t) z03 ?_ ?_ ?_ ?_ ?_ fun chcu hcu=> ?_
 ·intro q hq;obtain⟨h1,h2,h3⟩:=hq;simp (disch:=omega) only[z00]
 ·rfl
 ·omega
 ·simp;omega
 ·simp;omega
 ·rfl
 simp only[w_len,w_12,w_15,↓LA,LB,simprocAttr]
 refine z4g hv ?_ (z0c z8t) z03 ?_ ?_ ?_ ?_ ?_ fun chcv hcv=> ?_
 ·intro q hq;obtain⟨h1,h2,h3,h4⟩:=hq;simp (disch:=omega) only[z00,z04 (hu.away (j:=q) (by intro h;exact h4 h.2.2))]
 ·rfl
 ·omega
 ·simp;omega
 ·simp;omega
 ·rfl
 simp only[w_len,w_14,w_pp,w_z,w_huV,w_hvV,↓LA,LB,simprocAttr]
 have g1:k≤zaa xu lw:=zfu hu (fun q hq=>by have:=hq.1;omega) hlw
 have g2:=zfu hv (nx:=k) (fun q hq=>by have:=hq.1;omega) g1
 have hfin:∀z:Sto,(∀q,q≠pp→q≠nx+3→q≠nx+4→q≠nx+7→q≠nx+8→Go.Lift.away xu q→Go.Lift.away xv q→sget z q=sget s q)→sget z pp=some (.cells [.d (.str nm),.arr (nx+4) 1 false 0 ((us.map D.str).length+1)])→sget z (nx+4)=some (.cells (chcu++ [.d (.str x)]))→sget z (nx+8)=some (.cells (chcv++ [.d (.str x)]))→∀nx' lw',nx+12≤nx' →k≤lw' →
   VarS k pc pp bs sO c rel nm xw (.arr (nx+4) 1 false 0 ((us.map D.str).length+1)) (.arr (nx+8) 1 false 0 ((vs.map D.str).length+1)) ps (us++ [x]) (vs++ [x]) z nx' lw' :=fun z hz z1 z2 z3 nx' lw' hn' hl' =>by
  have ev: (vs++ [x]).map D.str=vs.map D.str++ [.str x]:=by simp
  have eu: (us++ [x]).map D.str=us.map D.str++ [.str x]:=by simp
  have av:∀q,q<pp→(q<pc∨q=pc∨Go.Lift.away xv q)→Go.Lift.away xv q:=fun q h1 h2=>hv.away (fun h=>h2.elim (fun e=>by have:=h.1;omega) fun h2=>h2.elim (fun e=>by have:=h.1;omega) fun e=>h.2.2.2 e)
  have hz' :∀q,q<pp→Go.Lift.away xv q→sget z q=sget s q:=fun q h1 h2=>hz q ω ω ω ω ω (hu.away (by intro h;have:=h.1;omega)) h2
  refine⟨hsk.frame (hz' k ω (av k ω (.inl hkp))) (Nat.le_refl _),(hz' pc ω (av pc ω (.inr (.inl rfl)))).trans w_pc,z1,?_,?_,?_,fun q h1 h2=> (hz' q ω (av q ω (.inl h1))).trans (hfr q h1 h2),hl',ω⟩
  ·rw[eu]
   exact z57 hcu (fun q h1 h2=>hz q (by have:=h1.1;omega) (by have:=h1.2.1;omega) (by have:=h1.2.1;omega) (by have:=h1.2.1;omega) (by have:=h1.2.1;omega) h2 h1.2.2) (fun q h1=>⟨h1.1,by have:=h1.2.1;omega,by show ¬_=_;have:=h1.2.1;omega⟩) ⟨ω,ω,by show ¬_=_;omega⟩ (fun h=>by have:=h.2.1;omega) z2 rfl ⟨CQ.str,trivial⟩
  ·rw[ev]
   exact zar [.str x] hcv ⟨ω,ω,ω,fun h=>h rfl⟩ z3 ψ rfl ⟨CQ.str,trivial⟩
  ·exact (hw.frame fun q h=>hz' q h.2.1 h.2.2).mono fun q h=>⟨h.1,h.2.1,by show ¬_=_;have:=h.2.1;omega⟩
 refine hQ _ _ (.arr (nx+4) 1 false 0 ((us.map D.str).length+1)) (.arr (nx+8) 1 false 0 ((vs.map D.str).length+1)) (by simp only[w_len,LB,simprocAttr]) (by intro l h1 h2;simp (disch:=omega) only[z0h]) (by simp only[w_len,LB,simprocAttr]) (hfin _ (fun q h1 h2 h3 h4 h5 h6 h7=>by simp (disch:=omega) only[z00,z01,z04 h6,z04 h7]) ?_ ?_ ?_ _ _ (by show nx+12≤nx+_;omega) (by repeat' (first|omega|refine z02 ?_ ?_))) (by show nx≤nx+_;omega)
 ·simp only[w_pp,w_z,w_huV,w_hvV,LB,simprocAttr]
 ·simp (disch:=omega) only[z00,z01,z04 (hv.away (j:=nx+4) (by intro h;have:=h.2.1;omega)),z03]
 ·simp (disch:=omega) only[z03]
def VarS.step {c' nx' lw':Nat}  {s':Sto}  {xu:V}  {us:List (List Nat)} (h:VarS k pc pp bs sO c rel nm xw xu xv ps us vs s nx lw) (hkp:k<pc) (hpp:pc<pp)
  (hs:∀q,q<nx→q≠k→sget s' q=sget s q) (hsk:Sk s' k bs c') (hn:nx≤nx') (hl:k≤lw'):VarS k pc pp bs sO c' rel nm xw xu xv ps us vs s' nx' lw' :=by
 obtain⟨h1,h2,h3,h4,h5,h6,h7,h8,h9⟩:=h
 refine⟨hsk,(hs pc ω ω).trans h2,(hs pp h9 ω).trans h3,(h4.frame fun q hq=>hs q hq.2.1 ω).mono fun q hq=>⟨hq.1,ω,hq.2.2⟩,(h5.frame fun q hq=>hs q hq.2.1 ω).mono fun q hq=>⟨hq.1,ω,hq.2.2⟩,h6.frame fun q hq=>hs q ω ω,fun q g1 g2=> (hs q ω g2).trans (h7 q g1 g2),hl,ω⟩
def zav:∀a:PatT,Elt 2 true a.d:=fun a=>z6l
def zqd  (hb:LOk bs) {K:Nat}  {E:Lv}     {Q:Ex→List V→St→Prop} (hkp:k<pc) (hpp:pc<pp) (hc:c≤400000) (hK:vs.length+K≤4) (hvm:∀v∈vs,VarM v) (hpl:ps.length≤10)
  (w_len:E.length=171) (w_0:E.getD 0 .undef= .ptr k 0) (w_11:E.getD 11 .undef= .ptr pc 0) (w_12:E.getD 12 .undef=xv) (w_13:E.getD 13 .undef= .d (.int .i64 (K:Nat))) (w_14:E.getD 14 .undef= .ptr pp 0)
  (h:VarS k pc pp bs sO c rel nm xw .nilS xv ps [] vs s nx lw)
  (hQ:∀e st xw' xv' us,e.length=171→(∀l,l≠12→l≠15→l<77→e.getD l .undef=E.getD l .undef)→e.getD 12 .undef=xv' →us.length=K→(∀v∈us,VarM v)→HeadS k pc bs sO (c+K) rel xw' xv' (ps++ [⟨nm,us⟩]) (vs++us) st.s st.next st.low→nx≤st.next→Q .nrm e st):
  PC (z0j (z06 G) z0g none T1.q4_77 E {s:=s,next:=nx,low:=lw}) Q .mk:=by
 have hlw0:=h.lw
 have hnx0:=h.nx
 obtain⟨R,hR⟩:∃R:IC,R=T1.q4_96:=⟨_,rfl⟩
 unfold T1.q4_77
 rw[←hR]
 simp (maxDischargeDepth:=60) only[w_13,↓LA,LB,simprocAttr]
 refine z0b (fun e0 s0 m env st=>∃(j nxj lwj:Nat) (sj:Sto) (xv xu:V) (us:List (List Nat)),m=K-j∧(j≤K)∧(VarS k pc pp bs sO (c+j) rel nm xw xu xv ps us (vs++us) sj nxj lwj)∧(us.length=j)∧((∀v∈us,VarM v))∧((∀l,l≠12→l≠15→l<77→env.getD l .undef=E.getD l .undef))∧nx≤nxj∧k≤lwj∧env.length=171∧env.getD 78 .undef= .d (.int .i64 j)∧env.getD 0 .undef= .ptr k 0∧env.getD 11 .undef= .ptr pc 0∧env.getD 12 .undef=xv∧env.getD 14 .undef= .ptr pp 0∧env.getD 77 .undef= .d (.int .i64 (K:Nat))∧st= {s:=sj,next:=nxj,low:=lwj}) ?_ (K) (by refine⟨0,_,_,_,xv,.nilS,[],rfl,ω,(by rw[List.append_nil];exact⟨h.sk,h.pcl,h.ppl,GP.nil,h.v.mono fun q h=>⟨h.1,by have:=h.2.1;omega,h.2.2⟩,h.w,h.fr,h.lw,Nat.lt_of_lt_of_le h.nx (Nat.le_add_right _ _)⟩),rfl,(fun v h=>by simp at h),(by intro l h1 h2 h3;simp (disch:=omega) only[z0h]),ω,(by first|exact Nat.zero_le _|omega|exact z02 ω ω|exact z02 (z02 ω ω) ω|exact z02 (z02 (z02 ω ω) ω) ω),?_,?_,?_,?_,?_,?_,?_,rfl⟩<;>simp (maxDischargeDepth:=60) only[w_len,w_0,w_11,w_12,w_14,LB,simprocAttr])
 rintro m env st ⟨j,nxj,lwj,sj,xv,xu,us,hm,j_0,j_1,j_2,j_3,j_4,w_jb,w_jlo,w_len,w_78,w_0,w_11,w_12,w_14,w_77,rfl⟩
 obtain⟨N,hN⟩:∃N,N= (vs++us).length:=⟨_,rfl⟩
 have hN' :=hN
 rw[List.length_append,j_2] at hN'
 have hlen:opLen false xv=some N:=by rw[j_1.v.len,List.length_map,hN]
 have hnx:=j_1.nx
 have hlwj:=j_1.lw
 by_cases hj:j<K
 ·have hw1:IntKind.i64.wrap (97+ (N:Int))= ((97+N:Nat):Int):=by rw[z23 ω ω];omega
  have hw2:IntKind.i32.wrap ((97+N:Nat):Int)= ((97+N:Nat):Int):=zgx ω ω
  have hcv:=fun (st:St)=>zeg (k:= .i32) (n:=97+N) (st:=st) ω
  have hvm2:∀v∈vs++us,VarM v:=fun v hv=> (List.mem_append.1 hv).elim (hvm v) (j_3 v)
  have hnew:VarM [118,97+N]:=⟨N,ω,rfl⟩
  by_cases h0:0<N
  ·have hgt: ((0:Int)< (N:Nat))=True:=eq_true ω
   simp (maxDischargeDepth:=60) only[hj,hlen,hw1,hw2,hcv,zeo,hgt,w_len,w_78,w_0,w_12,w_77,↓LA,LB,simprocAttr]
   refine z0d (y2h hb (n:=8) ω ω ω ω j_1.sk) fun v st hD=> ?_
   obtain⟨⟨b,rfl⟩,hn1,hf1,hS1,hl1⟩:=hD
   obtain⟨s1,n1,l1⟩:=st
   have hn1:nxj+15≤n1:=hn1
   have hf1:∀q,q<nxj+15→q≠k→sget s1 q=sget sj q:=hf1
   have k1:k≤l1:=hl1 k hlwj (Nat.le_refl _)
   have h1:=j_1.step hkp hpp (fun q g1 g2=>hf1 q ω g2) hS1 (show nxj≤n1 by omega) k1
   cases b with
   |false=>
    simp (maxDischargeDepth:=60) only[w_len,↓LA,LB,simprocAttr]
    rw[hR]
    refine zl8 hkp hpp (show us.length≤10 by omega) (show (vs++us).length≤10 by omega) (x:= [118,97+N]) (by simp (maxDischargeDepth:=60) only[w_len,LB,simprocAttr]) (by simp (maxDischargeDepth:=60) only[w_12,LB,simprocAttr]) (by simp (maxDischargeDepth:=60) only[w_14,LB,simprocAttr]) (by simp (maxDischargeDepth:=60) only[w_len,LB,simprocAttr]) (h1.step hkp hpp (fun _ _ _=>rfl) h1.sk (by first|exact Nat.le_refl _|exact Nat.le_add_right _ _) h1.lw) ?_
    intro e st xu' xv' w_len hE w_12 hV hn2
    obtain⟨s2,n2,l2⟩:=st
    have hn2:n1≤n2:=by first|exact hn2|exact Nat.le_trans (Nat.le_add_right _ _) hn2
    have hV:VarS k pc pp bs sO (c+j+1) rel nm xw xu' xv' ps (us++ [[118,97+N]]) (vs++us++ [[118,97+N]]) s2 n2 l2:=hV
    have hl2:=hV.lw
    have w_78:e.getD 78 .undef= .d (.int .i64 j):= (hE 78 ω ω).trans (by simp (maxDischargeDepth:=60) only[w_78,LB,simprocAttr])
    have w_0:e.getD 0 .undef= .ptr k 0:= (hE 0 ω ω).trans (by simp (maxDischargeDepth:=60) only[w_0,LB,simprocAttr])
    have w_11:e.getD 11 .undef= .ptr pc 0:= (hE 11 ω ω).trans (by simp (maxDischargeDepth:=60) only[w_11,LB,simprocAttr])
    have w_14:e.getD 14 .undef= .ptr pp 0:= (hE 14 ω ω).trans (by simp (maxDischargeDepth:=60) only[w_14,LB,simprocAttr])
    have w_77:e.getD 77 .undef= .d (.int .i64 (K:Nat)):= (hE 77 ω ω).trans (by simp (maxDischargeDepth:=60) only[w_77,LB,simprocAttr])
    have hE2:∀l,l≠12→l≠15→l<77→e.getD l .undef=E.getD l .undef:=fun l g1 g2 g3=> (hE l g1 ω).trans (by simp (disch:=omega) only[z0h];exact j_4 l g1 g2 g3)
    simp (maxDischargeDepth:=60) only[z07 hj ω,w_len,w_78,↓LA,LB,simprocAttr]
    exact z09 (by refine⟨_,ω,j+1,_,_,_,xv',xu',us++ [[118,97+N]],rfl,ω,(by rw[←List.append_assoc];exact hV.step hkp hpp (fun _ _ _=>rfl) hV.sk (Nat.le_add_right _ _) hV.lw),(by rw[List.length_append,j_2];rfl),(fun v hv=> (List.mem_append.1 hv).elim (j_3 v) fun hv=>by rw[List.mem_singleton] at hv;subst hv;exact hnew),(by intro l h1 h2 h3;simp (disch:=omega) only[z0h];exact hE2 l h1 h2 h3),ω,(by first|exact Nat.zero_le _|omega|exact z02 ω ω|exact z02 (z02 ω ω) ω|exact z02 (z02 (z02 ω ω) ω) ω),?_,?_,?_,?_,?_,?_,?_,rfl⟩<;>simp (maxDischargeDepth:=60) only[w_len,w_0,w_11,w_12,w_14,w_77,LB,simprocAttr])
   |true=>
    obtain⟨kv,cv,hxv,hkv1,hkv2,hat⟩:=y5o j_1.v ω
    have hia:z08 1 xv 0=some (.ptr kv 0):= (hat 0 ω).1
    obtain⟨_,hl1',hcv1⟩:=hat 0 ω
    rw[List.drop_zero] at hcv1
    have w_kv:sget s1 kv=some (.cells cv):= (hf1 kv (by have:=hkv1.2.1;omega) (by have:=hkv1.1;omega)).trans hkv2
    obtain⟨x,hx⟩:∃x,x= (vs++us)[0]'ω:=⟨_,rfl⟩
    have hxm:VarM x:=hvm2 x (by rw[hx];exact List.getElem_mem _)
    rw[←hx] at hcv1
    simp (maxDischargeDepth:=60) only[hia,hl1',hcv1,w_len,w_12,w_kv,↓LA,LB,simprocAttr]
    rw[hR]
    refine zl8 hkp hpp (show us.length≤10 by omega) (show (vs++us).length≤10 by omega) (x:=x) (by simp (maxDischargeDepth:=60) only[w_len,LB,simprocAttr]) (by simp (maxDischargeDepth:=60) only[w_12,LB,simprocAttr]) (by simp (maxDischargeDepth:=60) only[w_14,LB,simprocAttr]) (by simp (maxDischargeDepth:=60) only[w_len,LB,simprocAttr]) (h1.step hkp hpp (fun _ _ _=>rfl) h1.sk (by first|exact Nat.le_refl _|exact Nat.le_add_right _ _) h1.lw) ?_
    intro e st xu' xv' w_len hE w_12 hV hn2
    obtain⟨s2,n2,l2⟩:=st
    have hn2:n1≤n2:=by first|exact hn2|exact Nat.le_trans (Nat.le_add_right _ _) hn2
    have hV:VarS k pc pp bs sO (c+j+1) rel nm xw xu' xv' ps (us++ [x]) (vs++us++ [x]) s2 n2 l2:=hV
    have hl2:=hV.lw
    have w_78:e.getD 78 .undef= .d (.int .i64 j):= (hE 78 ω ω).trans (by simp (maxDischargeDepth:=60) only[w_78,LB,simprocAttr])
    have w_0:e.getD 0 .undef= .ptr k 0:= (hE 0 ω ω).trans (by simp (maxDischargeDepth:=60) only[w_0,LB,simprocAttr])
    have w_11:e.getD 11 .undef= .ptr pc 0:= (hE 11 ω ω).trans (by simp (maxDischargeDepth:=60) only[w_11,LB,simprocAttr])
    have w_14:e.getD 14 .undef= .ptr pp 0:= (hE 14 ω ω).trans (by simp (maxDischargeDepth:=60) only[w_14,LB,simprocAttr])
    have w_77:e.getD 77 .undef= .d (.int .i64 (K:Nat)):= (hE 77 ω ω).trans (by simp (maxDischargeDepth:=60) only[w_77,LB,simprocAttr])
    have hE2:∀l,l≠12→l≠15→l<77→e.getD l .undef=E.getD l .undef:=fun l g1 g2 g3=> (hE l g1 ω).trans (by simp (disch:=omega) only[z0h];exact j_4 l g1 g2 g3)
    simp (maxDischargeDepth:=60) only[z07 hj ω,w_len,w_78,↓LA,LB,simprocAttr]
    exact z09 (by refine⟨_,ω,j+1,_,_,_,xv',xu',us++ [x],rfl,ω,(by rw[←List.append_assoc];exact hV.step hkp hpp (fun _ _ _=>rfl) hV.sk (Nat.le_add_right _ _) hV.lw),(by rw[List.length_append,j_2];rfl),(fun v hv=> (List.mem_append.1 hv).elim (j_3 v) fun hv=>by rw[List.mem_singleton] at hv;subst hv;exact hxm),(by intro l h1 h2 h3;simp (disch:=omega) only[z0h];exact hE2 l h1 h2 h3),ω,(by first|exact Nat.zero_le _|omega|exact z02 ω ω|exact z02 (z02 ω ω) ω|exact z02 (z02 (z02 ω ω) ω) ω),?_,?_,?_,?_,?_,?_,?_,rfl⟩<;>simp (maxDischargeDepth:=60) only[w_len,w_0,w_11,w_12,w_14,w_77,LB,simprocAttr])
  ·have hgt: ((0:Int)< (N:Nat))=False:=eq_false ω
   simp (maxDischargeDepth:=60) only[hj,hlen,hw1,hw2,hcv,zeo,hgt,w_len,w_78,w_12,w_77,↓LA,LB,simprocAttr]
   rw[hR]
   refine zl8 hkp hpp (show us.length≤10 by omega) (show (vs++us).length≤10 by omega) (x:= [118,97+N]) (by simp (maxDischargeDepth:=60) only[w_len,LB,simprocAttr]) (by simp (maxDischargeDepth:=60) only[w_12,LB,simprocAttr]) (by simp (maxDischargeDepth:=60) only[w_14,LB,simprocAttr]) (by simp (maxDischargeDepth:=60) only[w_len,LB,simprocAttr]) (j_1.step hkp hpp (fun _ _ _=>rfl) (j_1.sk.frame rfl (Nat.le_succ _)) (Nat.le_add_right _ _) j_1.lw) ?_
   intro e st xu' xv' w_len hE w_12 hV hn2
   obtain⟨s2,n2,l2⟩:=st
   have hn2:nxj+_≤n2:=hn2
   have hV:VarS k pc pp bs sO (c+j+1) rel nm xw xu' xv' ps (us++ [[118,97+N]]) (vs++us++ [[118,97+N]]) s2 n2 l2:=hV
   have hl2:=hV.lw
   have w_78:e.getD 78 .undef= .d (.int .i64 j):= (hE 78 ω ω).trans (by simp (maxDischargeDepth:=60) only[w_78,LB,simprocAttr])
   have w_0:e.getD 0 .undef= .ptr k 0:= (hE 0 ω ω).trans (by simp (maxDischargeDepth:=60) only[w_0,LB,simprocAttr])
   have w_11:e.getD 11 .undef= .ptr pc 0:= (hE 11 ω ω).trans (by simp (maxDischargeDepth:=60) only[w_11,LB,simprocAttr])
   have w_14:e.getD 14 .undef= .ptr pp 0:= (hE 14 ω ω).trans (by simp (maxDischargeDepth:=60) only[w_14,LB,simprocAttr])
   have w_77:e.getD 77 .undef= .d (.int .i64 (K:Nat)):= (hE 77 ω ω).trans (by simp (maxDischargeDepth:=60) only[w_77,LB,simprocAttr])
   have hE2:∀l,l≠12→l≠15→l<77→e.getD l .undef=E.getD l .undef:=fun l g1 g2 g3=> (hE l g1 ω).trans (by simp (disch:=omega) only[z0h];exact j_4 l g1 g2 g3)
   simp (maxDischargeDepth:=60) only[z07 hj ω,w_len,w_78,↓LA,LB,simprocAttr]
   exact z09 (by refine⟨_,ω,j+1,_,_,_,xv',xu',us++ [[118,97+N]],rfl,ω,(by rw[←List.append_assoc];exact hV.step hkp hpp (fun _ _ _=>rfl) hV.sk (Nat.le_add_right _ _) hV.lw),(by rw[List.length_append,j_2];rfl),(fun v hv=> (List.mem_append.1 hv).elim (j_3 v) fun hv=>by rw[List.mem_singleton] at hv;subst hv;exact hnew),(by intro l h1 h2 h3;simp (disch:=omega) only[z0h];exact hE2 l h1 h2 h3),ω,(by first|exact Nat.zero_le _|omega|exact z02 ω ω|exact z02 (z02 ω ω) ω|exact z02 (z02 (z02 ω ω) ω) ω),?_,?_,?_,?_,?_,?_,?_,rfl⟩<;>simp (maxDischargeDepth:=60) only[w_len,w_0,w_11,w_12,w_14,w_77,LB,simprocAttr])
 ·have hjK:us.length=K:=ω
  obtain⟨hsk,w_pc,w_pp,hu,hv,hw,hfr,hlw,_⟩:=j_1
  have w_z:= (zf (x:=nxj) (b:=pp) (n:=1) ω ω)
  have w_z2:= (zf (x:=nxj) (b:=pc) (n:=1) ω ω)
  have w_pN:=aI (cf1 (x:=nxj) (a:=pc) ω) (cf1 (x:=nxj) (a:=pp) ω)
  have w_pS:=aI (cf2 (x:=nxj) ω w_pc) (cf2 (x:=nxj) ω w_pp)
  have w_hwV:=aI (hw.away (j:=k) ω) (aI (hw.away (j:=pc) ω) (aI (hw.away (j:=pp) ω) (hw.away (j:=nxj+4) ω)))
  have w_hwc:=hw.cell.1
  have w_hwd:=hw.cell.2
  have w_hwe:=hw.beq
  have w_uc:=hu.cell.1
  have w_ud:=hu.cell.2
  have w_ue:=hu.beq
  simp (maxDischargeDepth:=60) only[hj,w_len,w_78,w_11,w_14,w_77,w_pc,w_pp,w_uc,↓LA,LB,simprocAttr]
  have hlen2:ps.length≤10:=hpl
  refine z4g hw ?_ (z0c zav) z03 ?_ ?_ ?_ ?_ ?_ fun chcw hcw=> ?_
  ·intro q hq;obtain⟨h1,h2,h3⟩:=hq;simp (disch:=omega) only[z00]
  ·rfl
  ·omega
  ·simp;omega
  ·simp;omega
  ·simp only[List.all_cons,List.all_nil,ze9,w_uc,Bool.and_self]
  simp (maxDischargeDepth:=60) only[w_len,w_11,w_pc,w_z2,w_hwV,↓LA,LB,simprocAttr]
  have ep: (ps++ [(⟨nm,us⟩:PatT)]).map PatT.d=ps.map PatT.d++ [.agg [.str nm,.sl (us.map D.str)]]:=by rw[List.map_append];rfl
  have g1:k≤zaa xw lwj:=zfu hw (fun q hq=>by have:=hq.1;omega) hlw
  have hfin:∀z:Sto,(∀q,q≠pc→q≠nxj+4→q≠nxj+5→Go.Lift.away xw q→sget z q=sget sj q)→sget z pc=some (.cells [.d (.str rel),.arr (nxj+5) 2 true 0 ((ps.map PatT.d).length+1),.nilS])→sget z (nxj+5)=some (.cells (chcw++ [.d (.str nm),xu]))→∀nx' lw',nxj+8≤nx' →k≤lw' →
    HeadS k pc bs sO (c+K) rel (.arr (nxj+5) 2 true 0 ((ps.map PatT.d).length+1)) xv (ps++ [⟨nm,us⟩]) (vs++us) z nx' lw' :=fun z hz z1 z2 nx' lw' hn' hl' =>by
   have aw:∀q,(q<pc∨q=pc∨pp≤q∨¬Go.Lift.away xv q)→Go.Lift.away xw q:=fun q h=>hw.away (fun a=>by
    rcases h with h|h|h|h
    ·have:=a.1;omega
    ·have:=a.1;omega
    ·have:=a.2.1;omega
    ·exact h a.2.2)
   have hz' :∀q,q<nxj→q≠pc→(q<pc∨q=pc∨pp≤q∨¬Go.Lift.away xv q)→sget z q=sget sj q:=fun q h1 h2 h3=>hz q h2 ω ω (aw q h3)
   refine⟨hsk.frame (hz' k ω ω (.inl hkp)) ω,z1,?_,?_,fun q h1 h2=> (hz' q ω ω (.inl h1)).trans (hfr q h1 h2),hl',ω⟩
   ·rw[ep]
    refine z57 hcw (fun q h1 h2=>hz q (by have:=h1.1;omega) (by have:=h1.2.1;omega) (by have:=h1.2.1;omega) h2) (fun q h1=>⟨h1.1,by have:=h1.2.1;omega,h1.2.2⟩) ⟨ω,ω,hv.away fun h=>by have:=h.2.1;omega⟩ (fun h=>by have:=h.2.1;omega) z2 rfl ⟨CQ.str,?_,trivial⟩
    refine CQ.mono (fun q hq=>⟨⟨by have:=hq.1;omega,by have:=hq.2.1;omega,hq.2.2⟩,by have:=hq.2.1;omega⟩) (CQ.frame (fun q hq=>hz' q hq.2.1 (by have:=hq.1;omega) (.inr (.inr (.inl (by have:=hq.1;omega))))) (hu.cv ω (z0c z8t)))
   ·exact (hv.frame fun q h=>hz' q h.2.1 (by have:=h.1;omega) (.inr (.inr (.inr h.2.2.2)))).mono fun q h=>⟨h.1,by have:=h.2.1;omega,h.2.2.2⟩
  refine hQ _ _ _ xv us (by simp (maxDischargeDepth:=60) only[w_len,LB,simprocAttr]) (by intro l h1 h2 h3;simp (disch:=omega) only[z0h];exact j_4 l h1 h2 h3) (by simp (maxDischargeDepth:=60) only[w_12,LB,simprocAttr]) hjK j_3 (hfin _ (fun q h1 h2 h3 h4=>by simp (disch:=omega) only[z00,z01,z04 h4]) ?_ ?_ _ _ (by show nxj+8≤nxj+_;omega) (by repeat' (first|omega|refine z02 ?_ ?_))) (by show nx≤nxj+_;omega)
  ·simp (maxDischargeDepth:=60) only[w_pc,w_z2,w_hwV,LB,simprocAttr]
  ·simp (disch:=omega) only[z03]
end Go.Lift.K
namespace Go.Lift.K
open Go Go.Lift Classical
variable{r:RulesT}{n0 ib i kc nw nx nx' k:Nat}{ws:Lv}{W:List (List SpotT)}{wi gv:V}{w:Lq}{L l:Lh}{es:List (D×V)}{s s':Sto}
structure Op (r:RulesT) (N:Nm) (n0 ib i kc:Nat) (ws:List V) (W:List (List SpotT)) (wi gv:V) (w:List SpotT) (L:List GoalT) (es:List (D×V)) (s:Sto) (nw nx:Nat):Prop where
 o:Og1 r N gv L es s nx
 cv:sget s N.c=some (.cells [.arr kc 1 false 0 (i+1)])
 iv:sget s ib=some (.cells [.d (.int .i64 (i:Nat))])
 kv:sget s kc=some (.cells (ws++ [wi]))
 wl:ws.length=i
 hws:CVs (CQ s false (fun q=>n0≤q∧q<nw∧away gv q∧q≠kc∧away wi q) 2) ws (W.map fun w=>D.sl (w.map SpotT.d))
 hwi:GP s false (fun q=>n0≤q∧q<nw∧away gv q∧q≠kc) 1 4 true wi (w.map SpotT.d)
 ga:away gv ib∧away gv kc
 lt:n0≤kc∧kc<nw∧nw≤nx∧n0≤ib∧ib<nw∧ib≠kc∧away wi ib
def Op.step  {N:Nm}    {gv':V}  {L':Lh} {es':List (D×V)}   (h:Op r N n0 ib i kc ws W wi gv w L es s nw nx) (hN:N.ok n0)
  (hs:∀q,q<nw→q≠N.m→q≠N.g→away gv q→sget s' q=sget s q) (ho:Og1 r N gv' L' es' s' nx') (hg:∀q,q<nw→away gv q→away gv' q) (hn:nx≤nx'):Op r N n0 ib i kc ws W wi gv' w L' es' s' nw nx' :=by
 obtain⟨h1,h2,h3,h4,h5,h6,h7,⟨h8,h9⟩,b1,b2,b3,b4,b5,b6,b7⟩:=h
 obtain⟨l1,l2,l3,l4,l5,l6⟩:=hN.lt
 have a1:=hN.g
 have a4:=hN.m
 exact⟨ho,(hs _ ω (fun e=>a4.2 e.symm) (fun e=>a1.2.2.2.2 e.symm) h1.ga.2.2.2.2.2).trans h2,(hs _ b5 ω ω h8).trans h3,(hs _ b2 ω ω h9).trans h4,h5,h6.imp fun v d hv=> (hv.frame fun q hq=>hs q hq.2.1 ω ω hq.2.2.1).mono fun q hq=>⟨hq.1,hq.2.1,hg q hq.2.1 hq.2.2.1,hq.2.2.2⟩,
  (h7.frame fun q hq=>hs q hq.2.1 ω ω hq.2.2.1).mono fun q hq=>⟨hq.1,hq.2.1,hg q hq.2.1 hq.2.2.1,hq.2.2.2⟩,⟨hg _ b5 h8,hg _ b2 h9⟩,b1,b2,ω,b4,b5,b6,b7⟩
def zn9 {s:Sto} {lv:Bool} {k:Nat} (hk:∀cs,sget s k≠some (.cells cs)):∀{n:Nat} {S:Nat→Prop} {v:V} {d:D},CQ s lv S n v d→CQ s lv (fun q=>S q∧q≠k) n v d
 |0,_,_,_,h=>h
 |n+1,S,v,d,h=>by
  rcases h with h|h|⟨k',es,ag,cs,ds,h1,h2,h3,h5,h6,h7,h8⟩
  ·exact .inl h
  ·exact .inr (.inl h)
  ·exact .inr (.inr ⟨k',es,ag,cs,ds,h1,h2,⟨h3,fun e=>hk cs (e▸h5)⟩,h5,h6,h7,h8.imp fun v d=>zn9 hk⟩)
def y14  {lv:Bool}  (hk:∀cs,sget s k≠some (.cells cs)) {n es:Nat} {ag:Bool} {S:Nat→Prop} {v:V} {ds:Ld} (h:GP s lv S n es ag v ds):GP s lv (fun q=>S q∧q≠k) n es ag v ds:=by
 rcases h with h|⟨k',cs,h1,h2,h4,h5⟩
 ·exact .inl h
 ·exact .inr ⟨k',cs,h1,⟨h2,fun e=>hk cs (e▸h4)⟩,h4,h5.imp fun v d hv=> (zn9 hk hv).mono fun q hq=>⟨⟨hq.1.1,hq.2⟩,hq.1.2⟩⟩
def Op.loop  {N:Nm}          (h:Op r N n0 ib i kc ws W wi gv w L es s nw nx) (hN:N.ok n0)
  (hk:∀cs,sget s k≠some (.cells cs)) (hkn:n0≤k) (hkg:away gv k) (hs:∀q,q≠k→sget s' q=sget s q) (hn:nx≤nx'):Op r N n0 ib i kc ws W wi gv w L es s' nw nx' :=by
 obtain⟨h1,h2,h3,h4,h5,h6,h7,h8,b1,b2,b3,b4,b5,b6,b7⟩:=h
 obtain⟨l1,l2,l3,l4,l5,l6⟩:=hN.lt
 have hne:∀{q cs},sget s q=some (.cells cs)→q≠k:=fun hq e=>hk _ (e▸hq)
 exact⟨h1.step hN (fun q hq _=>hs q (fun e=>hq.elim ω fun h=>h (e▸hkg))) hn,(hs _ (hne h2)).trans h2,(hs _ (hne h3)).trans h3,(hs _ (hne h4)).trans h4,h5,h6.imp fun v d hv=> ((zn9 hk hv).frame fun q hq=>hs q hq.2).mono fun q hq=>hq.1,
  ((y14 hk h7).frame fun q hq=>hs q hq.2).mono fun q hq=>hq.1,h8,b1,b2,ω,b4,b5,b6,b7⟩
def Op.frame  {N:Nm}          (h:Op r N n0 ib i kc ws W wi gv w L es s nw nx) (hN:N.ok n0)
  (hs:∀q,q<nx→sget s' q=sget s q) (hn:nx≤nx'):Op r N n0 ib i kc ws W wi gv w L es s' nw nx' :=by
 obtain⟨b1,b2,b3,b4,b5,b6,b7⟩:=h.lt
 exact h.step hN (fun q hq _ _ _=>hs q ω) (h.o.step hN (fun q hq _=>hs q (hq.elim ω fun hq=>Classical.byContradiction fun e=>hq (h.o.gn q ω))) hn) (fun _ _ h=>h) hn
theorem zpc   (hi:i<l.length):z08 2 (.d (.sl (l.map GoalT.d))) (i:Int)=some (.dptr [.str l[i].rel,.sl (l[i].args.map TreeT.d)]):=z1p hi rfl
def zj2  {j:Nat} (hj:j<l.length):addL L (l.take (j+1))=addG (addL L (l.take j)) l[j]:=by
 rw[List.take_add_one,List.getElem?_eq_getElem hj]
 exact zw0
def zse  {j:Nat} (hj:j<l.length): (l.take (j+1)).map (ix (addL L (l.take (j+1))))= (l.take j).map (ix (addL L (l.take j)))++ [ix (addG (addL L (l.take j)) l[j]) l[j]]:=by
 rw[zj2 hj,List.take_add_one,List.getElem?_eq_getElem hj]
 simp only[Option.toList_some,List.map_append,List.map_cons,List.map_nil]
 congr 1
 refine List.map_congr_left fun x hx=> ?_
 obtain⟨M,e,_⟩:=zo3 (addL L (l.take j)) l[j]
 rw[e]
 exact y0x (z77.2 (.inr hx))
def oAsg:IC:= (sq 1 [om 12 64] (.reg 1 [om 13 65]))
structure Oe (N:Nm) (ib:Nat) (env:List V):Prop where
 len:env.length=187
 a9:env.getD 9 .undef= .ptr N.f 0
 a10:env.getD 10 .undef= .ptr N.c 0
 a11:env.getD 11 .undef= .ptr ib 0
def y1x (r:RulesT) (N:Nm) (n0 ib i kc:Nat) (ws:List V) (W:List (List SpotT)) (wi gv:V) (w:List SpotT) (L:List GoalT) (c:Nat) (l:List GoalT) (s:Sto) (nx:Nat) (v:V) (st:St):Prop:=
 v= .d (.bool true)∧nx≤st.next∧(∀q,q<nx→q≠N.g→q≠N.m→q≠kc→away gv q→away wi q→sget st.s q=sget s q)∧
  ∃gv' wi' es',Op r N n0 ib i kc ws W wi' gv' (w++ [⟨1,0,l.map (ix (addL L l)),c⟩]) (addL L l) es' st.s st.next st.next∧(∀q,q<nx→away gv q→away gv' q)∧∀q,q<nx→away wi q→away wi' q
def zf5  {N:Nm} {c:Nat}        {lw:Nat} {E:Lv} (hE:Oe N ib E) (hN:N.ok n0) (h:Op r N n0 ib i kc ws W wi gv w L es s nx nx)
  (hk:sget s k=some (.loop E [64,65] oAsg (.block 3 T1.q46_66) .ready none)) (hkn:n0≤k∧k<nx∧k≠kc∧k≠ib) (hkg:away gv k) (hkw:away wi k) (hl:∀x∈l,Rg r x) (hL:L.length+l.length≤100000) (hwl:w.length≤100000) (hi:i≤100000):
  PostV (z06 T1.G (.yld k) [.d (.int .i64 (c:Nat)),.d (.sl (l.map GoalT.d))] {s:=s,next:=nx,low:=lw}) (y1x r N n0 ib i kc ws W wi gv w L c l s nx):=by
 obtain⟨w_len,w_9,w_10,w_11⟩:=hE
 refine zq9 (A:=fun env2 st2=>∃nx' lw',st2= {s:=s,next:=nx',low:=lw' }∧nx≤nx' ∧env2.length=187∧env2.getD 9 .undef= .ptr N.f 0∧env2.getD 10 .undef= .ptr N.c 0∧env2.getD 11 .undef= .ptr ib 0∧env2.getD 12 .undef= .d (.int .i64 (c:Nat))∧env2.getD 13 .undef= .d (.sl (l.map GoalT.d))) hk rfl ?_ ?_
 ·have w_x:=hi
  simp only[oAsg,w_len,w_9,w_10,w_11,↓LA,LB,simprocAttr]
  exact⟨_,_,rfl,ω⟩
 rintro env2 st2 ⟨nx',lw',rfl,hn,w_len,w_9,w_10,w_11,w_12,w_13⟩
 refine⟨hk,?_⟩
 obtain⟨l1,l2,l3,l4,l5,l6⟩:=hN.lt
 obtain⟨b1,b2,b3,b4,b5,b6,b7⟩:=h.lt
 obtain⟨O,hO⟩:∃O,O=Obj.loop E [64,65] oAsg (.block 3 T1.q46_66) .busy none:=⟨_,rfl⟩
 rw[←hO]
 show PC (z0j (z06 T1.G) z0g (some k) (.block 3 T1.q46_66) env2 {s:=sset s k O,next:=nx',low:=Nat.min lw' k}) _ .mk
 have w_k:=z05 (o:=O) hk
 have h1:Op r N n0 ib i kc ws W wi gv w L es (sset s k O) nx nx' :=h.loop hN (fun cs=>by rw[hk];simp) hkn.1 hkg (fun q hq=>z01 (fun e=>hq e.symm)) hn
 have hfr1:∀q,q≠k→sget (sset s k O) q=sget s q:=fun q hq=>z01 (fun e=>hq e.symm)
 generalize sset s k O=s1 at h1 w_k hfr1⊢
 simp only[w_len,w_12,w_13,↓LA,LB,simprocAttr]
 have w_kz: (nx' +2=k)=False∧(k=nx' +2)=False:=⟨by simp;omega,by simp;omega⟩
 refine z0b (fun e0 s0 m env st=>∃(j nxj lwj:Nat) (sj:Sto) (xa gw:V) (fs:List (D×V)),m=l.length-j∧(j≤l.length)∧(Op r N n0 ib i kc ws W wi gw w (addL L (l.take j)) fs sj nx nxj)∧(GP sj false (fun q=>nx' +3≤q∧q<nxj∧away gw q) 0 1 false xa (((l.take j).map (ix (addL L (l.take j)))).map intD))∧((∀q,q<nx→q≠k→q≠N.g→q≠N.m→away gv q→sget sj q=sget s q))∧((∀q,q<nx→away gv q→away gw q))∧((∀q,q<nx' +3→away gv q→away gw q))∧sget sj (nx' +2)=some (.cells [.d (.int .i64 1),.d (.int .i64 0),xa,.d (.int .i64 (c:Nat))])∧sget sj (k)=some (O)∧nx' +3≤nxj∧0≤lwj∧env.length=187∧env.getD 70 .undef= .d (.int .i64 j)∧env.getD 9 .undef= .ptr N.f 0∧env.getD 10 .undef= .ptr N.c 0∧env.getD 11 .undef= .ptr ib 0∧env.getD 14 .undef= .ptr (nx' +2) 0∧env.getD 68 .undef= .d (.sl (l.map GoalT.d))∧env.getD 69 .undef= .d (.int .i64 l.length)∧st= {s:=sj,next:=nxj,low:=lwj}) ?_ (l.length) (by refine⟨0,_,_,_,.nilS,gv,es,rfl,ω,(h1.frame hN (fun q hq=>z00 ω) ω),GP.nil,(fun q g1 g2 _ _ _=> (z00 ω).trans (hfr1 q g2)),(fun q _ h=>h),(fun q _ h=>h),?_,?_,ω,Nat.zero_le _,?_,?_,?_,?_,?_,?_,?_,?_,rfl⟩<;>simp (maxDischargeDepth:=60) only[w_len,w_9,w_10,w_11,w_k,w_kz,LB,simprocAttr])
 rintro m env st ⟨j,nxj,lwj,sj,xa,gw,fs,hm,j_0,j_1,j_2,j_3,j_4,j_5,w_jc0,w_jc1,w_jb,w_jlo,w_len,w_70,w_9,w_10,w_11,w_14,w_68,w_69,rfl⟩
 have w_jN:=aI (cf1 (x:=nxj) (a:=nx' +2) ω) (cf1 (x:=nxj) (a:=k) ω)
 have w_jS:=aI (cf2 (x:=nxj) ω w_jc0) (cf2 (x:=nxj) ω w_jc1)
 obtain⟨M,hM,hMl⟩:=zb0 (l.take j) L
 have hLl: (addL L (l.take j)).length≤100000:=by rw[hM,List.length_append];rw[List.length_take] at hMl;omega
 have w_f:=j_1.o.f
 have w_nf: (nxj=N.f)=False∧∀q,(nxj+q=N.f)=False:=⟨by simp;omega,fun q=>by simp;omega⟩
 have w_j_2V:=aI (j_2.away (j:=k) ω) (aI (j_2.away (j:=nx' +2) ω) (j_2.away (j:=N.f) ω))
 have w_j_2c:=j_2.cell.1
 have w_j_2d:=j_2.cell.2
 have w_j_2e:=j_2.beq
 by_cases hj:j<l.length
 ·simp only[hj,zpc hj,w_len,w_70,w_9,w_14,w_68,w_69,w_jc0,w_jN,w_f,w_nf,↓LA,LB,simprocAttr]
  have h2:=j_1.frame hN (s' := (nxj+3,Obj.cells [V.d (D.str l[j].rel),V.d (D.sl (List.map TreeT.d l[j].args))])::sj) (nx' :=nxj+14) (fun q hq=>z00 ω) ω
  refine z0d (y0u h2.o hN ω (hl _ (List.getElem_mem hj)) ω) fun v st hR=> ?_
  obtain⟨rfl,hn2,hf2,gw',fs',ho,haw⟩:=hR
  obtain⟨s2,n2,l2⟩:=st
  have hn2:nxj+14≤n2:=hn2
  have hf2:∀q,q<nxj+3→q≠N.m→q≠N.g→away gw q→sget s2 q=sget sj q:=fun q g1 g2 g3 g4=> (hf2 q ω g2 g3 g4).trans (z00 ω)
  have h3:Op r N n0 ib i kc ws W wi gw' w (addG (addL L (l.take j)) l[j]) fs' s2 nx n2:=h2.step hN (fun q g1 g2 g3 g4=> (hf2 q ω g2 g3 g4).trans (z00 ω).symm) ho (fun q g1 h=>haw q ω h) hn2
  have agk:away gw k:=j_4 k ω hkg
  have ag2:away gw (nx' +2):=j_5 _ ω (h.o.gn _ ω)
  have w_b1:sget s2 (nx' +2)=_:= (hf2 _ ω ω ω ag2).trans w_jc0
  have w_bk:sget s2 k=some O:= (hf2 _ ω ω ω agk).trans w_jc1
  have hxa:GP s2 false (fun q=>nx' +3≤q∧q<nxj∧away gw q) 0 1 false xa (((l.take j).map (ix (addL L (l.take j)))).map intD):=j_2.frame fun q hq=>hf2 q (by have:=hq.2.1;omega) (by have:=hq.1;omega) (by have:=hq.1;omega) hq.2.2
  have w_bz: (nxj=nx' +2)=False∧(∀o,sget (sset s2 (nx' +2) o) (nx' +2)=some o):=⟨by simp;omega,fun o=>z05 w_b1⟩
  simp only[w_len,w_jc0,w_jN,w_j_2e,w_b1,↓LA,LB,simprocAttr]
  have hxl: (((l.take j).map (ix (addL L (l.take j)))).map intD).length≤100000:=by simp;omega
  refine z4g hxa ?_ (z0c z8u) z03 ?_ ?_ ?_ ?_ ?_ fun chc hc=> ?_
  ·intro q hq;obtain⟨g1,g2,g3⟩:=hq;simp (disch:=omega) only[z00]
  ·rfl
  ·omega
  ·omega
  ·omega
  ·rfl
  simp only[z07 hj ω,w_len,w_70,w_14,w_jN,w_j_2V,w_b1,↓LA,LB,simprocAttr]
  have hg2:away gw' (nx' +2):=haw _ ω ag2
  have hg10:away gw' (nxj+10):=haw _ ω (j_1.o.gn _ ω)
  have hg11:away gw' (nxj+11):=haw _ ω (j_1.o.gn _ ω)
  have hne:∀{q a:Nat},¬away gw' q→away gw' a→a≠q:=fun h1 h2 e=>h1 (e▸h2)
  have hfin:∀Z:Sto,(∀q,q≠nx' +2→q≠nxj+10→q≠nxj+11→away xa q→sget Z q=sget s2 q)→∀n',n2≤n' →Op r N n0 ib i kc ws W wi gw' w (addL L (l.take (j+1))) fs' Z nx n' :=fun Z hZ n' hn' =>by
   rw[zj2 hj]
   have hx0:∀q,q<nx' +3→away xa q:=fun q hq=>hxa.away (fun h=>by have:=h.1;omega)
   have hx1:∀q,¬away gw' q→away xa q:=fun q hq=>hxa.away (fun h=>hq (haw q (by have:=h.2.1;omega) h.2.2))
   refine h3.step hN (fun q g1 g2 g3 g4=>hZ q ω ω ω (hx0 q ω)) (h3.o.step hN (fun q g1 g2=>hZ q ?_ ?_ ?_ ?_) hn') (fun _ _ h=>h) hn'
   ·exact g1.elim (fun _=>ω) fun h=>fun e=>hne h hg2 e.symm
   ·exact g1.elim (fun _=>ω) fun h=>fun e=>hne h hg10 e.symm
   ·exact g1.elim (fun _=>ω) fun h=>fun e=>hne h hg11 e.symm
   ·exact g1.elim (fun _=>hx0 q ω) fun h=>hx1 q h
  have hfin2:∀Z:Sto,sget Z (nxj+11)=some (.cells (chc++ [V.d (intD (ix (addG (addL L (l.take j)) l[j]) l[j]))]))→∀n',n2≤n' →GP Z false (fun q=>nx' +3≤q∧q<n' ∧away gw' q) 0 1 false (.arr (nxj+11) 1 false 0 ((l.take j).length+1)) (((l.take (j+1)).map (ix (addL L (l.take (j+1))))).map intD):=fun Z hZ n' hn' =>by
   rw[zse hj]
   exact zar [intD (ix (addG (addL L (l.take j)) l[j]) l[j])] hc ⟨ω,ω,hg11⟩ hZ ψ ψ ⟨CQ.int,trivial⟩
  exact z09 (by refine⟨_,ω,j+1,_,_,_,.arr (nxj+11) 1 false 0 ((l.take j).length+1),gw',fs',rfl,ω,(hfin _ (fun q g1 g2 g3 g4=>by simp (disch:=omega) only[z00,z01,z04 g4]) _ (Nat.le_add_right _ _)),(hfin2 _ z03 _ (Nat.le_add_right _ _)),(by intro q g1 g2 g3 g4 g5;simp (disch:=omega) only[z00,z01,z04 (hxa.away (j:=q) (fun h=>by have:=h.1;omega))];exact (hf2 q ω g4 g3 (j_4 q g1 g5)).trans (j_3 q g1 g2 g3 g4 g5)),(fun q g1 g2=>haw q ω (j_4 q g1 g2)),(fun q g1 g2=>haw q ω (j_5 q g1 g2)),?_,?_,ω,Nat.zero_le _,?_,?_,?_,?_,?_,?_,?_,?_,rfl⟩<;>simp only[w_len,w_9,w_10,w_11,w_14,w_68,w_69,w_jN,w_j_2V,w_kz,w_b1,w_bk,LB,simprocAttr])
 ·have hjl:l.take j=l:=List.take_of_length_le ω
  rw[hjl] at j_1 j_2 hLl
  have w_c:=j_1.cv
  have w_i:=j_1.iv
  have w_kv:=j_1.kv
  have hwl2:=j_1.wl
  obtain⟨aib,akc⟩:=j_1.ga
  have w_wi:=j_1.hwi.cell
  have w_wb:=j_1.hwi.beq
  have hbk:V.beqL (ws++ [wi]) (ws++ [wi])=true:=by
   have a:=CVs.beq j_1.hws
   clear j_1 w_kv h h1 hwl2
   induction ws with
   |nil=>simp[V.beqL,w_wb]
   |cons x ws ih=>
    simp only[List.cons_append,z4p,Bool.and_eq_true] at a⊢
    exact⟨a.1,ih a.2⟩
  have hia:z08 1 (.arr kc 1 false 0 (i+1)) (i:Int)=some (.ptr kc i):=by
   simp only[z08]
   rw[if_pos ⟨ω,ω,trivial⟩]
   simp
  have hcl: (i+1≤(ws++ [wi]).length)=True:=eq_true (by simp;omega)
  have hct: ((ws++ [wi]).drop i).take 1= [wi]:=by rw[←hwl2,List.drop_left];rfl
  have hsp:∀x:V,(ws++ [wi]).take i++ [x]++ (ws++ [wi]).drop (i+1)=ws++ [x]:=fun x=>by
   rw[←hwl2,List.take_left,List.drop_of_length_le ψ,List.append_nil]
  have w_nz: (∀q,(nxj+q=N.c)=False)∧(∀q,(nxj+q=ib)=False)∧(∀q,(nxj+q=kc)=False)∧(nxj=N.c)=False∧(nxj=ib)=False∧(nxj=kc)=False:=⟨fun q=>by simp;omega,fun q=>by simp;omega,fun q=>by simp;omega,by simp;omega,by simp;omega,by simp;omega⟩
  have hkc:∀cs,sget sj k≠some (.cells cs):=fun cs=>by rw[w_jc1,hO];simp
  have hwo:=y14 hkc j_1.hwi
  have hws:=j_1.hws
  have w_aw:away wi ib∧away wi N.c∧away wi kc:=⟨b7,hwo.away (fun h=>by have:=h.1.1;omega),hwo.away (fun h=>h.1.2.2.2 rfl)⟩
  simp only[hj,hia,hcl,hct,hbk,w_len,w_70,w_10,w_11,w_14,w_69,w_jc0,w_j_2c,w_c,w_i,w_kv,w_nz,↓LA,LB,simprocAttr]
  have hwl3: (w.map SpotT.d).length≤100000:=by simpa using hwl
  refine z4g hwo ?_ (z0c zau) z03 ?_ ?_ ?_ ?_ ?_ fun chw hw=> ?_
  ·intro q hq;obtain⟨⟨g1,g2,g3⟩,_⟩:=hq;simp (disch:=omega) only[z00]
  ·rfl
  ·omega
  ·omega
  ·omega
  ·simp only[List.all_cons,List.all_nil,zi4,j_2.cell.1,Bool.and_self]
  simp only[hia,hcl,hsp,w_len,w_10,w_11,w_c,w_i,w_kv,w_nz,w_aw,↓LA,LB,simprocAttr]
  obtain⟨Z,hZ⟩:∃Z,Z= (nxj+9,Obj.cells (chw++ [V.d (D.int IntKind.i64 1),V.d (D.int IntKind.i64 0),xa,V.d (D.int IntKind.i64 (c:Nat))]))::sset (grow wi ((nxj+8,Obj.cells [V.d (D.int IntKind.i64 1),V.d (D.int IntKind.i64 0),xa,V.d (D.int IntKind.i64 (c:Nat))])::sj)) kc (Obj.cells (ws++ [V.arr (nxj+9) 4 true 0 (w.length+1)])):=⟨_,rfl⟩
  have z0:∀q,q<nxj→q≠kc→away wi q→sget Z q=sget sj q:=fun q g1 g2 g3=>by rw[hZ];simp (disch:=omega) only[z00,z01,z04 g3]
  have z1:sget Z kc=some (.cells (ws++ [V.arr (nxj+9) 4 true 0 (w.length+1)])):=by
   rw[hZ,z00 ω]
   refine z05 (x:= .cells (ws++ [wi])) ?_
   simp (disch:=omega) only[z04 w_aw.2.2,z00]
   exact w_kv
  have z2:sget Z (nxj+9)=some (.cells (chw++ [V.d (D.int IntKind.i64 1),V.d (D.int IntKind.i64 0),xa,V.d (D.int IntKind.i64 (c:Nat))])):=by rw[hZ];exact z03
  rw[←hZ]
  have awk:∀q,q<n0→away wi q:=fun q hq=>hwo.away (fun h=>by have:=h.1.1;omega)
  have awg:∀q,¬away gw q→away wi q:=fun q hq=>hwo.away (fun h=>hq h.1.2.2.1)
  have awn:∀q,nx≤q→away wi q:=fun q hq=>hwo.away (fun h=>by have:=h.1.2.1;omega)
  have agk:away gw k:=j_4 k ω hkg
  have hzk:sget Z k=some O:= (z0 k ω ω hkw).trans w_jc1
  refine⟨E,[64,65],oAsg,.block 3 T1.q46_66,hzk.trans (by rw[hO]),?_⟩
  show y1x r N n0 ib i kc ws W wi gv w L c l s nx (.d (.bool true)) _
  obtain⟨Y,hY⟩:∃Y,Y=sset Z k (.loop E [64,65] oAsg (.block 3 T1.q46_66) .ready none):=⟨_,rfl⟩
  have y0:∀q,q≠k→sget Y q=sget Z q:=fun q hq=>by rw[hY];exact z01 (fun e=>hq e.symm)
  have y1:sget Y k=sget s k:=by rw[hY,hk];exact z05 hzk
  have y2:∀q,q<nxj→q≠k→q≠kc→away wi q→sget Y q=sget sj q:=fun q g1 g2 g3 g4=> (y0 q g2).trans (z0 q g1 g3 g4)
  have hOp:∀n',nxj+12≤n' →Op r N n0 ib i kc ws W (V.arr (nxj+9) 4 true 0 (w.length+1)) gw (w++ [⟨1,0,l.map (ix (addL L l)),c⟩]) (addL L l) fs Y n' n' :=fun n' hn' =>by
   refine⟨j_1.o.step hN (fun q hq _=>y2 q ?_ ?_ ?_ (hq.elim (awk q) (awg q))) ω,(y2 _ ω ω ω w_aw.2.1).trans w_c,(y2 _ ω ω ω b7).trans w_i,(y0 _ ω).trans z1,hwl2,?_,?_,⟨aib,akc⟩,b1,ω,Nat.le_refl _,b4,ω,b6,by show ¬_=_;omega⟩
   ·exact hq.elim ω fun hq=>Classical.byContradiction fun e=>hq (j_1.o.gn q ω)
   ·exact fun e=>hq.elim ω fun hq=>hq (e▸agk)
   ·exact fun e=>hq.elim ω fun hq=>hq (e▸akc)
   ·exact hws.imp fun v d hv=> ((zn9 hkc hv).frame fun q hq=>y2 q (by have:=hq.1.2.1;omega) hq.2 hq.1.2.2.2.1 hq.1.2.2.2.2).mono fun q hq=>⟨hq.1.1,by have:=hq.1.2.1;omega,hq.1.2.2.1,hq.1.2.2.2.1,by show ¬_=_;have:=hq.1.2.1;omega⟩
   ·have en: (w++ [(⟨1,0,l.map (ix (addL L l)),c⟩:SpotT)]).map SpotT.d=w.map SpotT.d++ [.agg [.int .i64 1,.int .i64 0,.sl ((l.map (ix (addL L l))).map intD),.int .i64 (c:Nat)]]:=by rw[List.map_append];rfl
    have el:w.length= (w.map SpotT.d).length:=by rw[List.length_map]
    rw[en,el]
    refine z57 (ys:= [V.d (D.int IntKind.i64 1),V.d (D.int IntKind.i64 0),xa,V.d (D.int IntKind.i64 (c:Nat))]) hw (fun q h1 h2=>y2 q (by have:=h1.1.2.1;omega) h1.2 h1.1.2.2.2 h2) (fun q h1=>⟨h1.1.1,by have:=h1.1.2.1;omega,h1.1.2.2.1,h1.1.2.2.2⟩) ⟨ω,ω,j_1.o.gn _ ω,ω⟩ (fun h=>by have:=h.1.2.1;omega) ((y0 _ ω).trans z2) rfl ⟨CQ.int,CQ.int,?_,CQ.int,trivial⟩
    exact CQ.mono (fun q hq=>⟨⟨by have:=hq.1;omega,by have:=hq.2.1;omega,hq.2.2,by have:=hq.1;omega⟩,by have:=hq.2.1;omega⟩) (CQ.frame (fun q hq=>y2 q hq.2.1 (by have:=hq.1;omega) (by have:=hq.1;omega) (awn q (by have:=hq.1;omega))) (j_2.cv ω (z0c z8u)))
  refine⟨rfl,by show nx≤nxj+_;omega,fun q g1 g2 g3 g4 g5 g6=> ?_,gw,V.arr (nxj+9) 4 true 0 (w.length+1),fs,?_,j_4,fun q g1 _=>by show ¬_=_;omega⟩
  ·show sget (sset Z k _) q=_
   rw[←hY]
   by_cases e:q=k
   ·rw[e];exact y1
   ·exact (y2 q ω e g4 g6).trans (j_3 q g1 e g2 g3 g5)
  ·show Op r N n0 ib i kc ws W _ gw _ _ fs (sset Z k _) _ _
   rw[←hY]
   exact hOp _ (Nat.le_refl _)
end Go.Lift.K
namespace Go.Lift.K
open Go Go.Lift
def zwd {g:GoalT} {kg:Nat} {s:Sto} {nx lw:Nat} :PostV (z06 G (.fn 75 [] []) [.ptr kg 0,.d g.d] {s:=s,next:=nx,low:=lw}) (fun v st=>v= .fn 98 [] [.ptr nx 0,.ptr (nx+1) 0]∧∃lw',st= {s:= (nx+1,.cells [.d (.str g.rel),.d (.sl (g.args.map TreeT.d))]):: (nx,.cells [.ptr kg 0])::s,next:=nx+5,low:=lw' }∧∀m,m≤lw→m≤nx→m≤lw'):=by
 refine z1b (first:= []) (args:= [.ptr kg 0,.d g.d]) (cap:= []) T1.g75 rfl rfl rfl (fun e w_len harg=> ?_)
 have w_len:e.length=6:=w_len
 have w_0:e.getD 0 .undef= .ptr kg 0:=harg 0 ψ
 have w_1:e.getD 1 .undef= .d g.d:=harg 1 ψ
 clear harg
 simp only[T1.i75,GoalT.d,w_len,w_0,w_1,↓LA,LB,simprocAttr]
 exact⟨_,rfl,fun m h1 h2=>by repeat' (first|omega|refine z02 ?_ ?_)⟩
def zu1 {kg:Nat} {c0 c1 gv c3 c4 c5:V} {s:Sto} {nx lw:Nat} (h:sget s kg=some (.cells [c0,c1,gv,c3,c4,c5])):
  PostV (z06 G (.fn 25 [] []) [.ptr kg 0] {s:=s,next:=nx,low:=lw}) (fun v st=>v= .tup [gv,.d (.int .i64 0)]∧st.s=s):=by
 have w_h:=h
 refine z1b (first:= []) (args:= [.ptr kg 0]) (cap:= []) T1.g25 rfl rfl rfl (fun e w_len harg=> ?_)
 have w_len:e.length=8:=w_len
 have w_0:e.getD 0 .undef= .ptr kg 0:=harg 0 ψ
 clear harg
 simp (maxDischargeDepth:=60) only[T1.i25,w_len,w_0,w_h,↓LA,LB,simprocAttr]
end Go.Lift.K
namespace Go.Lift.K
open Go Go.Lift Classical
variable{L M:Lh}{l:Ln}{r:RulesT}{c n0 ib i nx n1 ks n j nx' lo hi gp kv:Nat}{g:GoalT}{W:List (List SpotT)}{gv v cv sv:V}{w sp:Lq}{es:List (D×V)}{s sO:Sto}{E A C cs:Lv}{Q:Ex→List V→St→Prop}{S:Nat→Prop}{rk:Nat→Int}{inn out:Lb}
noncomputable def z37 (L:List GoalT) (p:Nat×List GoalT):SpotT:=⟨1,0,p.2.map (ix L),p.1⟩
def zoe  {p:Nat×List GoalT} (h:∀x∈p.2,x∈L):z37 (L++M) p=z37 L p:=by
 unfold z37
 rw[List.map_congr_left fun x hx=>y0x (h x hx)]
theorem zcg {l m:List (Nat×List GoalT)} :z2k (l++m)=z2k l++z2k m:=by simp[z2k]
def zh1  {l:List (Nat×List GoalT)} (h:∀x∈z2k l,x∈L):l.map (z37 (L++M))=l.map (z37 L):=
 List.map_congr_left fun p hp=>zoe fun x hx=>h x (List.mem_flatMap.2 ⟨p,hp,hx⟩)
def zni  (h:z0l r=0) {c:ClauseT} (hc:c∈r.clauses):c.head.length≤3∧c.body.length≤4∧∀p∈c.body,p.vars.length≤3:=by
 have hcl:= (z50 h).2.2 c hc
 unfold z0y at hcl
 cases hq:r.rels.find? (isR c.rel) with
 |none=>rw[hq] at hcl;simp at hcl
 |some x=>
  rw[hq] at hcl
  simp only at hcl
  have hx:=z6n h (List.mem_of_find?_eq_some hq)
  by_cases e1: (c.head.length:Int)≠x.arity∨(4:Int)<c.body.length∨c.head.all few=false
  ·rw[if_pos e1] at hcl;simp at hcl
  rw[if_neg e1] at hcl
  by_cases e2:c.head.all nmd=false
  ·rw[if_pos e2] at hcl;simp at hcl
  rw[if_neg e2] at hcl
  refine⟨ω,ω,fun p hp=> ?_⟩
  have hat:=zco hcl p hp
  unfold z2r at hat
  cases hq2:r.rels.find? (isR p.name) with
  |none=>rw[hq2] at hat;simp at hat
  |some y=>
   rw[hq2] at hat
   simp only at hat
   have hy:=z6n h (List.mem_of_find?_eq_some hq2)
   by_cases e1: (p.vars.length:Int)≠y.arity
   ·rw[if_pos e1] at hat;simp at hat
   ·omega
noncomputable def lAt (r:RulesT) (g:GoalT) (L:List GoalT) (c:Nat):List GoalT:=addL L (z2k (z2q r g c))
def zte     (h:fitS (clA r c) g):lAt r g L (c+1)=addL (lAt r g L c) (z4m (clA r c) g):=by
 unfold lAt
 rw[z47,zcg,y05,z7d,if_pos h]
 simp[z2k]
def ztd     (h:¬fitS (clA r c) g):lAt r g L (c+1)=lAt r g L c:=by
 unfold lAt
 rw[z47,z7d,if_neg h,List.append_nil]
def y3m     :∀x∈z2k (z2q r g c),x∈lAt r g L c:=fun x hx=>z77.2 (.inr hx)
def y5r     (h:fitS (clA r c) g): (z2q r g (c+1)).map (z37 (lAt r g L (c+1)))= (z2q r g c).map (z37 (lAt r g L c))++ [⟨1,0,(z4m (clA r c) g).map (ix (addL (lAt r g L c) (z4m (clA r c) g))),c⟩]:=by
 rw[zte h,z47,List.map_append]
 obtain⟨M,e,_⟩:=zb0 (z4m (clA r c) g) (lAt r g L c)
 congr 1
 ·rw[e]
  exact zh1 y3m
 ·rw[z7d,if_pos h]
  rfl
def y5p     (h:¬fitS (clA r c) g): (z2q r g (c+1)).map (z37 (lAt r g L (c+1)))= (z2q r g c).map (z37 (lAt r g L c)):=by
 rw[ztd h,z47,z7d,if_neg h,List.append_nil]
def zcf {r:RulesT} (hr:z0l r=0) {g:GoalT} :∀{c:Nat},c≤r.clauses.length→(z2k (z2q r g c)).length≤4*c
 |0,_=>by simp[z2q,z2k]
 |c+1,h=>by
  rw[z47,zcg,List.length_append]
  have h1:=zcf hr (g:=g) (c:=c) ω
  have h2: (z2k (z7d r g c)).length≤4:=by
   unfold z7d
   by_cases hf:fitS (clA r c) g
   ·rw[if_pos hf]
    have hc:clA r c∈r.clauses:=by
     have:clA r c=r.clauses[c]:=by simp[clA,show c<r.clauses.length by omega]
     rw[this];exact List.getElem_mem _
    have:=zix hr hc (g:=g)
    simpa [z2k] using this
   ·rw[if_neg hf];simp[z2k]
  omega
def y3n  (hr:z0l r=0)    (h:c≤r.clauses.length): (lAt r g L c).length≤L.length+4*c:=by
 obtain⟨M,e,hl⟩:=zb0 (z2k (z2q r g c)) L
 have:=zcf hr (g:=g) h
 unfold lAt
 rw[e,List.length_append]
 omega
def Op.up  {N:Nm} {kc:Nat} {ws:Lv}  {wi:V}     {nw nw':Nat} (h:Op r N n0 ib i kc ws W wi gv w L es s nw nx) (h1:nw≤nw') (h2:nw' ≤nx):Op r N n0 ib i kc ws W wi gv w L es s nw' nx:=by
 obtain⟨k1,k2,k3,k4,k5,k6,k7,k8,b1,b2,b3,b4,b5,b6,b7⟩:=h
 exact⟨k1,k2,k3,k4,k5,k6.imp fun v d hv=>hv.mono fun q hq=>⟨hq.1,ω,hq.2.2⟩,k7.mono fun q hq=>⟨hq.1,ω,hq.2.2⟩,k8,b1,ω,h2,b4,ω,b6,b7⟩
def zj4 (r:RulesT) (N:Nm) (n0 ib i kc:Nat) (ws:List V) (W:List (List SpotT)) (wi gv:V) (w:List SpotT) (L:List GoalT) (g:GoalT) (c:Nat) (s:Sto) (nx:Nat) (st:St):Prop:=
 nx≤st.next∧(∀q,q<nx→q≠N.g→q≠N.m→q≠kc→away gv q→away wi q→sget st.s q=sget s q)∧
  ∃gv' wi' es',Op r N n0 ib i kc ws W wi' gv' (w++ (z2q r g c).map (z37 (lAt r g L c))) (lAt r g L c) es' st.s st.next st.next∧(∀q,q<nx→away gv q→away gv' q)∧∀q,q<nx→away wi q→away wi' q
def zqe  {N:Nm} {kc k u1 u2:Nat} {ws:Lv}  {wi:V}      {lw:Nat}  (hE:Oe N ib E) (hN:N.ok n0) (h:Op r N n0 ib i kc ws W wi gv w L es s nx nx)
  (hk:sget s k=some (.loop E [64,65] oAsg (.block 3 T1.q46_66) .ready none)) (hkn:n0≤k∧k<nx∧k≠kc∧k≠ib) (hkg:away gv k) (hkw:away wi k) (hg:Rg r g) (hL:L.length≤50000) (hwl:w.length≤50000) (hi:i≤100000)
  (hu1:sget s u1=some (.cells [.ptr N.g 0])) (hu2:sget s u2=some (.cells [.d (.str g.rel),.d (.sl (g.args.map TreeT.d))])) (hun: (n0≤u1∧u1<nx∧u1≠kc)∧(n0≤u2∧u2<nx∧u2≠kc)) (hug:away gv u1∧away gv u2) (huw:away wi u1∧away wi u2):
  PostV (z06 G (.fn 98 [] [.ptr u1 0,.ptr u2 0]) [.yld k] {s:=s,next:=nx,low:=lw}) (fun _ st=>zj4 r N n0 ib i kc ws W wi gv w L g r.clauses.length s nx st):=by
 obtain⟨l1,l2,l3,l4,l5,l6⟩:=hN.lt
 obtain⟨b1,b2,b3,b4,b5,b6,b7⟩:=h.lt
 obtain⟨hch,_⟩:=z1y hg.1
 obtain⟨hcl,hrl,_⟩:=z50 hch
 obtain⟨_,_,_,_,x5,x6,x7,_⟩:=hg.rel
 have w_g:sget s N.g=some (.cells [.d (.sl (r.rels.map RelT.d)),.d (.sl (r.clauses.map ClauseT.d)),gv,.nilS,.nilS,.fn 71 [.ptr N.g 0] []]):=h.o.g
 have w_u1:=hu1
 have w_u2:=hu2
 have hx0:∀a b:V,[a,b][0]?=some a:=fun _ _=>rfl
 have hx1:∀a b:V,[a,b][1]?=some b:=fun _ _=>rfl
 refine z1b (first:= []) (args:= [.yld k]) (cap:= [.ptr u1 0,.ptr u2 0]) T1.g98 rfl rfl rfl (fun e w_len harg=> ?_)
 have w_len:e.length=38:=w_len
 have w_0:e.getD 0 .undef= .yld k:=harg 0 ψ
 have w_1:e.getD 1 .undef= .ptr u1 0:=harg 1 ψ
 have w_2:e.getD 2 .undef= .ptr u2 0:=harg 2 ψ
 clear harg
 simp only[T1.i98,List.length_map,w_len,w_1,w_g,w_u1,↓LA,LB,simprocAttr]
 have h0:∀n',nx≤n' →∀lw',zj4 r N n0 ib i kc ws W wi gv w L g 0 s nx {s:=s,next:=n',low:=lw' } :=fun n' hn' lw' =>by
  refine⟨hn',fun _ _ _ _ _ _ _=>rfl,gv,wi,es,?_,fun _ _ h=>h,fun _ _ h=>h⟩
  have e: (z2q r g 0).map (z37 (lAt r g L 0))= []:=by simp[z2q]
  rw[e,List.append_nil]
  exact (h.frame hN (fun _ _=>rfl) hn').up hn' (Nat.le_refl _)
 refine z0b (fun e0 s0 m env st=>∃(c nxc lwc:Nat) (sc:Sto),m=r.clauses.length-c∧(c≤r.clauses.length)∧(zj4 r N n0 ib i kc ws W wi gv w L g c s nx {s:=sc,next:=nxc,low:=lwc})∧nx+7≤nxc∧0≤lwc∧env.length=38∧env.getD 13 .undef= .d (.int .i64 c)∧env.getD 0 .undef= .yld k∧env.getD 1 .undef= .ptr u1 0∧env.getD 2 .undef= .ptr u2 0∧env.getD 12 .undef= .d (.int .i64 r.clauses.length)∧st= {s:=sc,next:=nxc,low:=lwc}) ?_ (r.clauses.length) (by refine⟨0,_,_,_,rfl,ω,h0 _ ω _,ω,Nat.zero_le _,?_,?_,?_,?_,?_,?_,rfl⟩<;>simp (maxDischargeDepth:=60) only[w_len,w_0,w_1,w_2,LB,simprocAttr])
 rintro m env st ⟨c,nxc,lwc,sc,hm,c_0,c_1,w_cb,w_clo,w_len,w_13,w_0,w_1,w_2,w_12,rfl⟩
 have w_cZ:=zf (x:=nxc) (b:=nx) (n:=7) ω ω
 obtain⟨d1,d2,gw,wj,fs,hO,d3,d4⟩:=c_1
 have hO:Op r N n0 ib i kc ws W wj gw (w++ (z2q r g c).map (z37 (lAt r g L c))) (lAt r g L c) fs sc nxc nxc:=hO
 have d2:∀q,q<nx→q≠N.g→q≠N.m→q≠kc→away gv q→away wi q→sget sc q=sget s q:=d2
 obtain⟨c1,c2,c3,c4,c5,c6,c7⟩:=hO.lt
 have w_g:sget sc N.g=some (.cells [.d (.sl (r.rels.map RelT.d)),.d (.sl (r.clauses.map ClauseT.d)),gw,.nilS,.nilS,.fn 71 [.ptr N.g 0] []]):=hO.o.g
 have w_u1:sget sc u1=_:= (d2 u1 ω ω ω ω hug.1 huw.1).trans hu1
 have w_u2:sget sc u2=_:= (d2 u2 ω ω ω ω hug.2 huw.2).trans hu2
 have hkk:sget sc k=_:= (d2 k ω ω ω ω hkg hkw).trans hk
 by_cases hc:c<r.clauses.length
 ·obtain⟨cl,hcd⟩:∃cl,cl=r.clauses[c]:=⟨_,rfl⟩
  have hcm:cl∈r.clauses:=by rw[hcd];exact List.getElem_mem hc
  have hca:clA r c=cl:=by rw[hcd];simp[clA,hc]
  have hcf:=zcz hg.1 hcm
  have hia:=z6j hc
  rw[←hcd] at hia
  obtain⟨y1,y2,y3⟩:=zni hch hcm
  have hB:=fun st=>zs1 (c:=cl) (g:=g) hg.2 ω ω hcf.len hcf.hd ω (fun p hp=>by have:=y3 p hp;omega) (hcf.th g) st
  simp only[ClauseT.d,GoalT.d] at hB
  by_cases hf:fitS cl g
  ·have hbd:za8 cl g= [.sl ((z4m cl g).map GoalT.d),.bool true]:=if_pos hf
   rw[hbd] at hB
   simp only[List.map_cons,List.map_nil,tupV] at hB
   simp only[hc,hia,hB,hx0,hx1,w_len,w_13,w_0,w_1,w_2,w_12,w_g,w_u1,w_u2,↓LA,LB,simprocAttr]
   have hLc:=y3n hch (g:=g) (L:=L) (c:=c) ω
   have hfl:=zcl (r:=r) (g:=g) (n:=c)
   have hbl:=zix hch hcm (g:=g)
   refine z0d (zf5 (c:=c) (l:=z4m cl g) (k:=k) hE hN ((hO.frame hN (s' :=sc) (nx' :=nxc+26) (fun _ _=>rfl) ω).up ω (Nat.le_refl _)) hkk ⟨hkn.1,ω,hkn.2.2.1,hkn.2.2.2⟩ (d3 k hkn.2.1 hkg) (d4 k hkn.2.1 hkw) (fun x hx=>zlm hg hcm hf hx) ω (by rw[List.length_append,List.length_map];omega) hi) fun v st hR=> ?_
   obtain⟨rfl,f1,f2,gw',wj',fs',hO',f3,f4⟩:=hR
   obtain⟨s2,n2,lw2⟩:=st
   have f1:nxc+26≤n2:=f1
   simp only[z07 hc ω,w_len,w_13,↓LA,LB,simprocAttr]
   have hU:∀n' lw',n2≤n' →zj4 r N n0 ib i kc ws W wi gv w L g (c+1) s nx {s:=s2,next:=n',low:=lw' } :=fun n' lw' hn' =>by
    refine⟨by show nx≤n';omega,fun q g1 g2 g3 g4 g5 g6=> (f2 q ω g2 g3 g4 (d3 q g1 g5) (d4 q g1 g6)).trans (d2 q g1 g2 g3 g4 g5 g6),gw',wj',fs',?_,fun q g1 g2=>f3 q ω (d3 q g1 g2),fun q g1 g2=>f4 q ω (d4 q g1 g2)⟩
    rw[y5r (by rw[hca];exact hf),zte (by rw[hca];exact hf),hca,←List.append_assoc]
    exact (hO'.frame hN (fun _ _=>rfl) hn').up hn' (Nat.le_refl _)
   exact z09 (by refine⟨_,ω,c+1,_,_,_,rfl,ω,hU _ _ ω,ω,Nat.zero_le _,?_,?_,?_,?_,?_,?_,rfl⟩<;>simp only[w_len,w_0,w_1,w_2,w_12,LB,simprocAttr])
  ·have hbd:za8 cl g= [.sl [],.bool false]:=if_neg hf
   rw[hbd] at hB
   simp only[List.map_cons,List.map_nil,tupV] at hB
   simp only[hc,hia,hB,hx0,hx1,z07 hc ω,w_len,w_13,w_1,w_2,w_12,w_g,w_u1,w_u2,↓LA,LB,simprocAttr]
   have hU:∀n' lw',nxc≤n' →zj4 r N n0 ib i kc ws W wi gv w L g (c+1) s nx {s:=sc,next:=n',low:=lw' } :=fun n' lw' hn' =>by
    refine⟨by show nx≤n';omega,d2,gw,wj,fs,?_,d3,d4⟩
    rw[y5p (by rw[hca];exact hf),ztd (by rw[hca];exact hf)]
    exact (hO.frame hN (fun _ _=>rfl) hn').up hn' (Nat.le_refl _)
   exact z09 (by refine⟨_,ω,c+1,_,_,_,rfl,ω,hU _ _ ω,ω,Nat.zero_le _,?_,?_,?_,?_,?_,?_,rfl⟩<;>simp only[w_len,w_0,w_1,w_2,w_12,LB,simprocAttr])
 ·have hce:c=r.clauses.length:=ω
  simp only[hc,w_len,w_13,w_12,↓LA,LB,simprocAttr]
  subst hce
  exact⟨by show nx≤nxc+_;omega,d2,gw,wj,fs,(hO.frame hN (fun _ _=>rfl) (by show nxc≤nxc+_;omega)).up (by show nxc≤nxc+_;omega) (Nat.le_refl _),d3,d4⟩
def zzs {a b:Lv} (ha:V.beqL a a=true) (hb:V.beqL b b=true):V.beqL (a++b) (a++b)=true:=by
 induction a with
 |nil=>exact hb
 |cons x a ih=>
  simp only[List.cons_append,z4p,Bool.and_eq_true] at ha⊢
  exact⟨ha.1,ih ha.2⟩
def cI (n:Int):V:= .d (.int .i64 n)
def gC3 (r:RulesT) (N:Nm) (gv sv cv:V):List V:= [.d (.sl (r.rels.map RelT.d)),.d (.sl (r.clauses.map ClauseT.d)),gv,sv,cv,.fn 71 [.ptr N.g 0] []]
structure P4 (r:RulesT) (N:Nm) (gv:V) (n0 n1 i:Nat) (rank:Int) (ks tot:Nat) (A B:List V) (SA SB:List D) (xu:V) (u:List Nat) (sO s:Sto) (nx:Nat):Prop where
 g:sget s N.g=some (.cells (gC3 r N gv (.arr ks 4 true 0 tot) .nilS))
 kv:sget s ks=some (.cells (A++ (.d (.int .i64 0):: .d (.int .i64 rank)::xu:: .d (.int .i64 0)::B)))
 al:A.length=i*4
 tl:A.length+4+B.length=tot*4
 a:CVs (CQ s false (fun q=>n1≤q∧q<nx∧q≠ks∧away xu q) 1) A SA
 b:CVs (CQ s false (fun q=>n0≤q∧q<n1) 1) B SB
 u:GP s false (fun q=>n1≤q∧q<nx∧q≠ks) 0 1 false xu (u.map intD)
 fr:∀q,q<n1→q≠N.g→sget s q=sget sO q
 lt:N.g<n0∧N.p<n0∧n0≤n1∧n1≤ks∧ks<nx∧N.g≠N.p
def y27  {N:Nm} {lv nv xu p:V} {idx len tot lw:Nat} {rank:Int} {B:Lv} {SA SB:Ld} {u nums:Ln}   
  (hidx:idx<len) (hlen:len≤200000) (htot:tot≤1000000) (hul:u.length≤200000) (hnp:sget sO N.p=some (.cells [.ptr N.g 0])) (hgv:gv.isCell=true∧cellsV gv= [gv]∧V.beq gv gv=true)
  (hia:z08 4 lv (idx:Int)=some p) (hld:∀nx lw,z1s {s:=s,next:=nx,low:=lw} 4 true p=some (mkAgg [cI 1,cI 0,nv,cI c])) (hnv:CQ s false (fun q=>n0≤q∧q<n1) 1 nv (.sl (nums.map intD)))
  (w_len:E.length=187) (w_7:E.getD 7 .undef= .ptr N.p 0) (w_19:E.getD 19 .undef= .d (.int .i64 (i:Nat))) (w_137:E.getD 137 .undef=lv) (w_138:E.getD 138 .undef= .d (.int .i64 (len:Nat))) (w_139:E.getD 139 .undef= .d (.int .i64 (idx:Nat)))
  (h:P4 r N gv n0 n1 i rank ks tot A B SA SB xu u sO s nx)
  (hQ:∀e st ks' xu',e.length=187→(∀l,l≠22→l<139→e.getD l .undef=E.getD l .undef)→e.getD 139 .undef= .d (.int .i64 ((idx+1:Nat):Int))→P4 r N gv n0 n1 i rank ks' (tot+1) A (B++ [cI 1,cI 0,nv,cI c]) SA (SB++ [.int .i64 1,.int .i64 0,.sl (nums.map intD),.int .i64 (c:Nat)]) xu' (u++ [tot]) sO st.s st.next→nx≤st.next→Q .nrm e st):
  PC (z0j (z06 G) z0g none T1.q46_140 E {s:=s,next:=nx,low:=lw}) Q .mk:=by
 obtain⟨w_g,w_kv,hal,htl,hA,hB,hu,hfr,l1,l2,l3,l4,l5,l6⟩:=h
 have w_p:sget s N.p=some (.cells [.ptr N.g 0]):= (hfr _ ω ω).trans hnp
 simp only[gC3] at w_g
 have w_nv:=hnv.cell
 have w_nb:=hnv.beq
 have w_gv:=hgv
 have w_ub:=hu.cell
 have w_ue:=hu.beq
 obtain⟨cs,hcs⟩:∃cs,cs=A++ (.d (.int .i64 0):: .d (.int .i64 rank)::xu:: .d (.int .i64 0)::B):=⟨_,rfl⟩
 have hcl:cs.length=tot*4:=by rw[hcs];simp;omega
 have hit:i<tot:=ω
 have hsi:z08 4 (.arr ks 4 true 0 tot) (i:Int)=some (.ptr ks (i*4)):=by
  simp only[z08]
  rw[if_pos ⟨ω,ω,trivial⟩]
  simp
 have hc1: (i*4+ (2+1)≤cs.length)=True:=eq_true ω
 have hc2: (cs.drop (i*4+2)).take 1= [xu]:=by
  rw[hcs,←hal,←List.drop_drop,List.drop_left]
  rfl
 have hsp:∀x:V,cs.take (i*4+2)++ [x]++cs.drop (i*4+ (2+1))=A++ (.d (.int .i64 0):: .d (.int .i64 rank)::x:: .d (.int .i64 0)::B):=fun x=>by
  have e1:cs.take (i*4+2)=A++ [.d (.int .i64 0),.d (.int .i64 rank)]:=by
   rw[hcs,←hal,List.take_append,List.take_of_length_le ω,Nat.add_sub_cancel_left]
   rfl
  have e2:cs.drop (i*4+ (2+1))= .d (.int .i64 0)::B:=by
   rw[hcs,←hal,←List.drop_drop,List.drop_left]
   rfl
  rw[e1,e2]
  simp
 have hcb:V.beqL cs cs=true:=by
  rw[hcs]
  refine zzs (CVs.beq hA) ?_
  simp[z4p,zgr,D.beq_refl,w_ue,CVs.beq hB]
 have hfb:V.beq (.fn 71 [.ptr N.g 0] []) (.fn 71 [.ptr N.g 0] [])=true:=by simp[V.beq,V.beqL]
 rw[←hcs] at w_kv
 have w_n: (∀q,(nx+q=N.g)=False)∧(∀q,(nx+q=N.p)=False)∧(∀q,(nx+q=ks)=False)∧(nx=N.g)=False∧(nx=N.p)=False∧(nx=ks)=False∧(ks=N.g)=False∧(ks=N.p)=False∧(N.g=N.p)=False∧(N.g=ks)=False∧(∀q,(ks=nx+q)=False):=by
  refine⟨fun q=>by simp;omega,fun q=>by simp;omega,fun q=>by simp;omega,by simp;omega,by simp;omega,by simp;omega,by simp;omega,by simp;omega,by simp;omega,by simp;omega,fun q=>by simp;omega⟩
 unfold cI at hld
 simp only[hidx,hia,hld,hsi,hc1,hc2,hcb,hfb,w_len,w_7,w_19,w_137,w_138,w_139,w_g,w_kv,w_p,w_nv,w_gv,w_n,↓LA,LB,simprocAttr]
 refine z4g hu ?_ (z0c z8u) z03 ?_ ?_ ?_ ?_ ?_ fun chx hx=> ?_
 ·intro q hq;obtain⟨g1,g2,g3⟩:=hq;simp (disch:=omega) only[z00]
 ·rfl
 ·omega
 ·simp;omega
 ·simp;omega
 ·rfl
 have w_xw:away xu N.g∧away xu N.p∧away xu ks∧away xu (nx+3):=⟨hu.away (fun h=>by have:=h.1;omega),hu.away (fun h=>by have:=h.1;omega),hu.away (fun h=>h.2.2 rfl),hu.away (fun h=>by have:=h.2.1;omega)⟩
 have w_ks:∀o,sget (sset s ks o) ks=some o:=fun o=>z05 w_kv
 simp only[hsi,hc1,hfb,hsp,w_len,w_7,w_g,w_kv,w_p,w_nv,w_gv,w_n,w_xw,↓LA,LB,simprocAttr]
 have hx24:∀z:Sto,sget ((nx+24,Obj.cells (chx++ [V.d (D.int IntKind.i64 (tot:Nat))]))::z) (nx+24)=some (.cells (chx++ [V.d (D.int IntKind.i64 (tot:Nat))])):=fun z=>z03
 generalize hX: ((nx+34,Obj.cells [V.d (D.int IntKind.i64 1),V.d (D.int IntKind.i64 0),nv,V.d (D.int IntKind.i64 (c:Nat))]):: (nx+24,Obj.cells (chx++ [V.d (D.int IntKind.i64 (tot:Nat))]))::sset (grow xu ((nx+23,Obj.cells [V.d (D.int IntKind.i64 (tot:Nat))]):: (nx+3,Obj.cells [V.d (D.int IntKind.i64 1),V.d (D.int IntKind.i64 0),nv,V.d (D.int IntKind.i64 (c:Nat))])::s)) ks (Obj.cells (A++V.d (D.int IntKind.i64 0)::V.d (D.int IntKind.i64 rank)::V.arr (nx+24) 1 false 0 (u.length+1)::V.d (D.int IntKind.i64 0)::B)))=X
 have x0:∀q,q<nx→q≠ks→away xu q→sget X q=sget s q:=fun q g1 g2 g3=>by rw[←hX];simp (disch:=omega) only[z00,z01,z04 g3]
 have x1:sget X ks=some (.cells (A++V.d (D.int IntKind.i64 0)::V.d (D.int IntKind.i64 rank)::V.arr (nx+24) 1 false 0 (u.length+1)::V.d (D.int IntKind.i64 0)::B)):=by
  rw[←hX,z00 ω,z00 ω]
  refine z05 (x:= .cells cs) ?_
  rw[z04 w_xw.2.2.1,z00 ω,z00 ω]
  exact w_kv
 have x2:sget X (nx+34)=some (.cells [V.d (D.int IntKind.i64 1),V.d (D.int IntKind.i64 0),nv,V.d (D.int IntKind.i64 (c:Nat))]):=by rw[←hX];exact z03
 have x5:sget X (nx+24)=some (.cells (chx++ [V.d (D.int IntKind.i64 (tot:Nat))])):=by rw[←hX,z00 ω];exact z03
 have w_x3:= (x0 N.g ω ω w_xw.1).trans w_g
 have w_x4:= (x0 N.p ω ω w_xw.2.1).trans w_p
 clear hX
 rw[zio (n:=tot) (m:=1) x1 x2 (by simp;omega) rfl (by simp only[List.all_cons,List.all_nil,zi4,w_nv.1,Bool.and_self]) ω ω]
 have w_sd:∀z j,(ks=j)=False→sget (sdel z ks) j=sget z j:=fun z j h=>zje h
 simp only[z07 hidx ω,w_len,w_7,w_139,w_n,w_x3,w_x4,w_sd,↓LA,LB,simprocAttr]
 have hP:∀(Y:Sto),(∀q,q≠nx+35→q≠N.g→q≠ks→sget Y q=sget X q)→sget Y N.g=some (.cells (gC3 r N gv (.arr (nx+35) 4 true 0 (tot+1)) .nilS))→sget Y (nx+35)=some (.cells (A++V.d (D.int IntKind.i64 0)::V.d (D.int IntKind.i64 rank)::V.arr (nx+24) 1 false 0 (u.length+1)::V.d (D.int IntKind.i64 0)::B++ [V.d (D.int IntKind.i64 1),V.d (D.int IntKind.i64 0),nv,V.d (D.int IntKind.i64 (c:Nat))]))→∀n',nx+39≤n' →
   P4 r N gv n0 n1 i rank (nx+35) (tot+1) A (B++ [cI 1,cI 0,nv,cI c]) SA (SB++ [.int .i64 1,.int .i64 0,.sl (nums.map intD),.int .i64 (c:Nat)]) (.arr (nx+24) 1 false 0 (u.length+1)) (u++ [tot]) sO Y n' :=fun Y hY hYg hYk n' hn' =>by
  have aw1:∀q,q<n1→away xu q:=fun q hq=>hu.away (fun h=>by have:=h.1;omega)
  have y0:∀q,q<nx→q≠N.g→q≠ks→away xu q→sget Y q=sget s q:=fun q g1 g2 g3 g4=> (hY q ω g2 g3).trans (x0 q g1 g3 g4)
  have y1:∀q,q<n1→q≠N.g→sget Y q=sget s q:=fun q g1 g2=>y0 q ω g2 ω (aw1 q g1)
  refine⟨hYg,by rw[hYk];simp[cI],hal,by simp;omega,?_,CVs.append ?_ ⟨CQ.int,CQ.int,hnv.frame fun q hq=>y1 q hq.2 (by have:=hq.1;omega),CQ.int,trivial⟩,?_,fun q g1 g2=> (y1 q g1 g2).trans (hfr q g1 g2),l1,l2,l3,ω,ω,l6⟩
  ·exact hA.imp fun v d hv=> (hv.frame fun q hq=>y0 q hq.2.1 (by have:=hq.1;omega) hq.2.2.1 hq.2.2.2).mono fun q hq=>⟨hq.1,by have:=hq.2.1;omega,by have:=hq.2.1;omega,by show ¬_=_;have:=hq.2.1;omega⟩
  ·exact hB.imp fun v d hv=>hv.frame fun q hq=>y1 q hq.2 (by have:=hq.1;omega)
  ·exact zar [intD tot] hx ⟨ω,ω,ω⟩ ((hY _ ω ω ω).trans x5) ψ ψ ⟨CQ.int,trivial⟩
 refine hQ _ _ _ _ (by simp only[w_len,LB,simprocAttr]) (by intro l g1 g2;simp (disch:=omega) only[z0h]) (by simp only[w_len,LB,simprocAttr]) (hP _ ?_ ?_ z03 _ (by show nx+39≤nx+_;omega)) (by show nx≤nx+_;omega)
 ·intro q g1 g2 g3
  rw[z00 ω,z01 ω,z10 ω]
 ·rw[z00 ω]
  exact z05 (by rw[z10 ω];exact w_x3)
def zg5 {R:V→D→Prop} :∀{n:Nat} {cs:List V} {ds:List D},CVs R cs ds→CVs R (cs.drop n) (ds.drop n)
 |0,_,_,h=>h
 |_+1,[],[],_=>trivial
 |_+1,[],_::_,h=>h.elim
 |_+1,_::_,[],h=>h.elim
 |n+1,_::_,_::_,h=>zg5 (n:=n) h.2
def zn8 {R:V→D→Prop} :∀{n:Nat} {cs:List V} {ds:List D},CVs R cs ds→CVs R (cs.take n) (ds.take n)
 |0,_,_,_=>trivial
 |_+1,[],[],_=>trivial
 |_+1,[],_::_,h=>h.elim
 |_+1,_::_,[],h=>h.elim
 |n+1,_::_,_::_,h=>⟨h.1,zn8 (n:=n) h.2⟩
def za4  {lv:Bool}    {k:IntKind} {x:Int} (h:CQ s lv S n v (.int k x)):v= .d (.int k x):=by
 cases n with
 |zero=>exact h.1
 |succ n=>rcases h with h|⟨_,h⟩|⟨_,_,_,_,_,_,h,_⟩<;>first|exact h.1|cases h
theorem zqy:∀{l:List SpotT} {j:Nat} (h:j<l.length),(((l.map SpotT.d).flatMap cellsD).drop (j*4)).take 4= [.int .i64 (l[j].owner:Nat),.int .i64 l[j].rank,.sl (l[j].next.map intD),.int .i64 (l[j].clause:Nat)]
 |t::l,0,_=>rfl
 |t::l,j+1,h=>by
  have h' :j<l.length:=by simp at h;omega
  have h2:=zqy h'
  have e: (j+1)*4=j*4+1+1+1+1:=ω
  have e2: (((t::l).map SpotT.d).flatMap cellsD)= .int .i64 (t.owner:Nat):: .int .i64 t.rank:: .sl (t.next.map intD):: .int .i64 (t.clause:Nat):: ((l.map SpotT.d).flatMap cellsD):=rfl
  rw[e2,e,List.drop_succ_cons,List.drop_succ_cons,List.drop_succ_cons,List.drop_succ_cons,h2]
  rfl
def zwt {l:Lq} : ((l.map SpotT.d).flatMap cellsD).length=l.length*4:=by
 have:= (z15 (ds:=l.map SpotT.d) (z0c zau)).2
 simpa using this
def y5f   {wv:V}  (h:CQ s false S 2 wv (.sl (w.map SpotT.d))):opLen false wv=some w.length:=by
 rcases h with⟨rfl,_⟩|⟨rfl|rfl,e⟩|⟨k,es,ag,cs,ds,rfl,e,_⟩
 ·rw[zmc,List.length_map]
 ·cases w with
  |nil=>rfl
  |cons x w=>simp at e
 ·cases w with
  |nil=>rfl
  |cons x w=>simp at e
 ·injection e with e
  rw[zk6,←e,List.length_map]
def spotAt   {wv:V}  (h:CQ s false S 2 wv (.sl (w.map SpotT.d)))  (hj:j<w.length):
  ∃p nv,z08 4 wv (j:Int)=some p∧(∀nx lw,z1s {s:=s,next:=nx,low:=lw} 4 true p=some (mkAgg [cI (w[j].owner:Nat),cI w[j].rank,nv,cI (w[j].clause:Nat)]))∧CQ s false S 1 nv (.sl (w[j].next.map intD)):=by
 rcases h with⟨rfl,_⟩|⟨_,e⟩|⟨k,es,ag,cs,ds,rfl,e,h3,h4,h5,h6,h7⟩
 ·refine⟨.dptr [.int .i64 (w[j].owner:Nat),.int .i64 w[j].rank,.sl (w[j].next.map intD),.int .i64 (w[j].clause:Nat)],.d (.sl (w[j].next.map intD)),z1p hj rfl,fun _ _=>rfl,CQ.data⟩
 ·cases w with
  |nil=>simp at hj
  |cons x w=>simp at e
 ·injection e with e
  subst e
  have he:es=4:=by
   have:=h6 w[j].d (List.mem_map.2 ⟨_,List.getElem_mem hj,rfl⟩)
   rcases this with⟨_,c,e1,e2,_⟩|⟨_,_,e1⟩
   ·unfold SpotT.d at e1
    injection e1 with e1
    rw[←e2,←e1]
    rfl
   ·simp[SpotT.d,D.isCell] at e1
  subst he
  have hl:=CVs.length h7
  rw[zwt] at hl
  have hc:=zn8 (n:=4) (zg5 (n:=j*4) h7)
  rw[zqy hj] at hc
  obtain⟨a,b,c,d,hcs,k1,k2,k3,k4⟩:∃a b c d,(cs.drop (j*4)).take 4= [a,b,c,d]∧CQ s false S 1 a (.int .i64 (w[j].owner:Nat))∧CQ s false S 1 b (.int .i64 w[j].rank)∧CQ s false S 1 c (.sl (w[j].next.map intD))∧CQ s false S 1 d (.int .i64 (w[j].clause:Nat)):=by
   cases hq: (cs.drop (j*4)).take 4 with
   |nil=>rw[hq] at hc;exact hc.elim
   |cons a l=>
    cases l with
    |nil=>rw[hq] at hc;exact hc.2.elim
    |cons b l=>
     cases l with
     |nil=>rw[hq] at hc;exact hc.2.2.elim
     |cons c l=>
      cases l with
      |nil=>rw[hq] at hc;exact hc.2.2.2.elim
      |cons d l=>
       cases l with
       |cons _ _=>rw[hq] at hc;exact hc.2.2.2.2.elim
       |nil=>rw[hq] at hc;exact⟨a,b,c,d,rfl,hc.1,hc.2.1,hc.2.2.1,hc.2.2.2.1⟩
  have q1:=za4 k1
  have q2:=za4 k2
  have q4:=za4 k4
  subst q1 q2 q4
  refine⟨.ptr k (j*4),c,?_,fun nx lw=> ?_,k3⟩
  ·rw[List.length_map]
   simp only[z08]
   rw[if_pos ⟨ω,ω,trivial⟩]
   simp
  ·have h4' : ({s:=s,next:=nx,low:=lw} :St).cells? k=some cs:=by simp[St.cells?,scells,h4]
   simp only[z1s,h4',hcs]
   rw[if_pos ω]
   rfl
def y6x     (h:GP s false S 2 1 false cv (W.map fun w=>D.sl (w.map SpotT.d)))  (hi:i<W.length):
  ∃kc cs wv,S kc∧sget s kc=some (.cells cs)∧z08 1 cv (i:Int)=some (.ptr kc i)∧(i+1≤cs.length)=True∧(cs.drop i).take 1= [wv]∧CQ s false S 2 wv (.sl (W[i].map SpotT.d)):=by
 rcases h with⟨_,e⟩|⟨k,cs,rfl,h1,h2,h3⟩
 ·cases W with
  |nil=>simp at hi
  |cons x W=>simp at e
 ·have hfm: (W.map fun w=>D.sl (w.map SpotT.d)).flatMap cellsD=W.map fun w=>D.sl (w.map SpotT.d):=by
   clear h3 hi
   induction W with
   |nil=>rfl
   |cons x W ih=>rw[List.map_cons,List.flatMap_cons,ih];rfl
  rw[hfm] at h3
  have hl:=CVs.length h3
  rw[List.length_map] at hl
  have hc:=zg5 (n:=i) h3
  have hcs:cs.drop i=cs[i]::cs.drop (i+1):=List.drop_eq_getElem_cons ω
  have hds: (W.map fun w=>D.sl (w.map SpotT.d)).drop i= .sl (W[i].map SpotT.d):: (W.map fun w=>D.sl (w.map SpotT.d)).drop (i+1):=by
   rw[List.drop_eq_getElem_cons (by simpa using hi)]
   simp
  rw[hcs,hds] at hc
  refine⟨k,cs,cs[i],h1,h2,?_,eq_true ω,by rw[hcs];rfl,hc.1.mono fun q hq=>hq.1⟩
  rw[List.length_map]
  simp only[z08]
  rw[if_pos ⟨ω,ω,trivial⟩]
  simp
def zc (rk:Nat→Int) (n i:Nat):List V:= (List.range' i (n-i)).flatMap fun j=> [cI 0,cI (rk j),.nilS,cI 0]
def zd (rk:Nat→Int) (n i:Nat):List D:= (List.range' i (n-i)).flatMap fun j=> [.int .i64 0,.int .i64 (rk j),.sl [],.int .i64 0]
def zq8   (h:i<n):zc rk n i=cI 0::cI (rk i):: .nilS::cI 0::zc rk n (i+1):=by
 unfold zc
 rw[show n-i= (n-(i+1))+1 by omega,List.range'_succ,List.flatMap_cons]
 rfl
def zq7   (h:i<n):zd rk n i= .int .i64 0:: .int .i64 (rk i):: .sl []:: .int .i64 0::zd rk n (i+1):=by
 unfold zd
 rw[show n-i= (n-(i+1))+1 by omega,List.range'_succ,List.flatMap_cons]
 rfl
def y09   :zc rk n n= []∧zd rk n n= []:=by simp[zc,zd]
def offW (n:Nat) (W:List (List SpotT)) (i:Nat):Nat:=n+ (W.take i).flatten.length
def gSp (rk:Nat→Int) (n:Nat) (W:List (List SpotT)) (i:Nat):SpotT:=⟨0,rk i,List.range' (offW n W i) (W.getD i []).length,0⟩
def zbq    (h:i<W.length):offW n W (i+1)=offW n W i+W[i].length:=by
 unfold offW
 rw[List.take_add_one,List.getElem?_eq_getElem h]
 simp only[Option.toList_some,List.flatten_append,List.length_append,List.flatten_cons,List.flatten_nil,List.append_nil]
 omega
def spD (l:List SpotT):List D:= (l.map SpotT.d).flatMap cellsD
theorem zjd {l m:Lq} :spD (l++m)=spD l++spD m:=by simp[spD]
theorem y29 {x:SpotT} :spD [x]= [.int .i64 (x.owner:Nat),.int .i64 x.rank,.sl (x.next.map intD),.int .i64 (x.clause:Nat)]:=rfl
structure P3 (r:RulesT) (N:Nm) (gv:V) (n0 n1 i:Nat) (rk:Nat→Int) (n:Nat) (W:List (List SpotT)) (ks:Nat) (A C:List V) (sO s:Sto) (nx:Nat):Prop where
 g:sget s N.g=some (.cells (gC3 r N gv (.arr ks 4 true 0 (offW n W i)) .nilS))
 kv:sget s ks=some (.cells (A++ (zc rk n i++C)))
 al:A.length=i*4
 tl:A.length+ (zc rk n i++C).length=offW n W i*4
 a:CVs (CQ s false (fun q=>n1≤q∧q<nx∧q≠ks) 1) A (spD ((List.range i).map (gSp rk n W)))
 b:CVs (CQ s false (fun q=>n0≤q∧q<n1) 1) (zc rk n i++C) (zd rk n i++spD (W.take i).flatten)
 fr:∀q,q<n1→q≠N.g→sget s q=sget sO q
 lt:N.g<n0∧N.p<n0∧n0≤n1∧n1≤ks∧ks<nx∧N.g≠N.p
def P3.up  {N:Nm}        (h:P3 r N gv n0 n1 i rk n W ks A C sO s nx) (hn:nx≤nx'):P3 r N gv n0 n1 i rk n W ks A C sO s nx' :=by
 obtain⟨h1,h2,h3,h4,h5,h6,h7,l1,l2,l3,l4,l5,l6⟩:=h
 exact⟨h1,h2,h3,h4,h5.imp fun v d hv=>hv.mono fun q hq=>⟨hq.1,ω,hq.2.2⟩,h6,h7,l1,l2,l3,l4,ω,l6⟩
def P3.toP4  {N:Nm}        (h:P3 r N gv n0 n1 i rk n W ks A C sO s nx) (hi:i<n) (hn:nx≤nx'):
  P4 r N gv n0 n1 i (rk i) ks (offW n W i) A (zc rk n (i+1)++C) (spD ((List.range i).map (gSp rk n W))) (zd rk n (i+1)++spD (W.take i).flatten) .nilS [] sO s nx' :=by
 obtain⟨h1,h2,h3,h4,h5,h6,h7,l1,l2,l3,l4,l5,l6⟩:=h.up hn
 rw[zq8 hi] at h2 h4 h6
 rw[zq7 hi] at h6
 exact⟨h1,h2,h3,by simp only[List.cons_append,List.length_cons] at h4;omega,h5.imp fun v d hv=>hv.mono fun q hq=>⟨hq.1,hq.2.1,hq.2.2,trivial⟩,h6.2.2.2.2,GP.nil,h7,l1,l2,l3,l4,l5,l6⟩
def P4.toP3  {N:Nm} {xu:V}       (hi:i<W.length) (hn:nx≤nx')
  (h:P4 r N gv n0 n1 i (rk i) ks (offW n W i+W[i].length) A (zc rk n (i+1)++C) (spD ((List.range i).map (gSp rk n W))) (zd rk n (i+1)++spD ((W.take i).flatten++W[i])) xu (List.range' (offW n W i) W[i].length) sO s nx):
  P3 r N gv n0 n1 (i+1) rk n W ks (A++ [cI 0,cI (rk i),xu,cI 0]) C sO s nx' :=by
 obtain⟨h1,h2,h3,h4,h5,h6,h7,h8,l1,l2,l3,l4,l5,l6⟩:=h
 have hf: (W.take (i+1)).flatten= (W.take i).flatten++W[i]:=by
  rw[List.take_add_one,List.getElem?_eq_getElem hi]
  simp only[Option.toList_some,List.flatten_append,List.flatten_cons,List.flatten_nil,List.append_nil]
 have hsp:spD ((List.range (i+1)).map (gSp rk n W))=spD ((List.range i).map (gSp rk n W))++ [.int .i64 0,.int .i64 (rk i),.sl ((List.range' (offW n W i) W[i].length).map intD),.int .i64 0]:=by
  rw[List.range_succ,List.map_append,zjd]
  congr 1
  simp[spD,gSp,SpotT.d,cellsD,hi]
 refine⟨by rw[zbq hi];exact h1,by rw[h2];simp[cI],by simp;omega,?_,?_,?_,h8,l1,l2,l3,l4,ω,l6⟩
 ·rw[zbq hi]
  simp only[List.length_append,List.length_cons,List.length_nil] at h4⊢
  omega
 ·rw[hsp]
  refine CVs.append (h5.imp fun v d hv=>hv.mono fun q hq=>⟨hq.1,ω,hq.2.2.1⟩) ⟨CQ.int,CQ.int,?_,CQ.int,trivial⟩
  exact (h7.cv ω (z0c z8u)).mono fun q hq=>⟨hq.1,ω,hq.2.2⟩
 ·rw[hf];exact h6
def z3o (rk:Nat→Int) (n:Nat) (W:List (List SpotT)):List SpotT:= (List.range n).map (gSp rk n W)++W.flatten
structure Game (r:RulesT) (N:Nm) (L:List GoalT) (sp:List SpotT) (s:Sto) (n0 nx:Nat):Prop where
 ex:∃(gv sv:V) (kv:Nat),sget s N.g=some (.cells (gC3 r N gv sv (.arr kv 1 false 0 sp.length)))∧GP s false (fun q=>q<nx∧q≠N.g∧q≠kv) 0 2 true gv (L.map GoalT.d)∧
  GP s false (fun q=>q<nx∧q≠N.g∧q≠kv) 1 4 true sv (sp.map SpotT.d)∧sget s kv=some (.cells (scs (List.replicate sp.length (intD 0))))∧kv≠N.g∧kv<nx
def y68  {N:Nm}  {lw:Nat}       
  (hn:W.length=n) (hn1:n≤1000) (hWl:W.flatten.length≤100000) (hW1:∀w∈W,∀x∈w,x.owner=1∧x.rank=0) (hnp:sget sO N.p=some (.cells [.ptr N.g 0])) (hnc:sget sO N.c=some (.cells [cv])) (hNc:N.c<n0∧N.c≠N.g)
  (hgv:GP sO false (fun q=>q<n1∧q≠N.g) 0 2 true gv (L.map GoalT.d)) (hcv:GP sO false (fun q=>n0≤q∧q<n1) 2 1 false cv (W.map fun w=>D.sl (w.map SpotT.d)))
  (w_len:E.length=187) (w_7:E.getD 7 .undef= .ptr N.p 0) (w_10:E.getD 10 .undef= .ptr N.c 0)
  (h:P3 r N gv n0 n1 0 rk n W ks [] C sO s nx)
  (hQ:∀e st,e.getD 4 .undef= .ptr N.g 0→e.getD 5 .undef= .d (.int .i64 0)→Game r N L (z3o rk n W) st.s n0 st.next→(∀q,q<n1→q≠N.g→sget st.s q=sget sO q)→nx≤st.next→Q .ret e st):
  PC (z0j (z06 G) z0g none T1.q46_130 E {s:=s,next:=nx,low:=lw}) Q .mk:=by
 obtain⟨R,hR⟩:∃R:IC,R=T1.q46_177:=⟨_,rfl⟩
 obtain⟨l1,l2,l3,l4,l5,l6⟩:=h.lt
 have w_c:sget s N.c=some (.cells [cv]):= (h.fr _ ω hNc.2).trans hnc
 have hcl:opLen false cv=some W.length:=by rw[hcv.len,List.length_map]
 unfold T1.q46_130
 rw[←hR]
 simp only[hcl,w_len,w_10,w_c,↓LA,LB,simprocAttr]
 refine z0b (fun e0 s0 m env st=>∃(i nxi lwi:Nat) (si:Sto) (ksi:Nat) (A Ci:Lv),m=W.length-i∧(i≤W.length)∧(P3 r N gv n0 n1 i rk n W ksi A Ci sO si nxi)∧nx≤nxi∧0≤lwi∧env.length=187∧env.getD 132 .undef= .d (.int .i64 i)∧env.getD 7 .undef= .ptr N.p 0∧env.getD 130 .undef=cv∧env.getD 131 .undef= .d (.int .i64 W.length)∧st= {s:=si,next:=nxi,low:=lwi}) ?_ (W.length) (by refine⟨0,_,_,_,ks,[],C,rfl,ω,(h.up ω),ω,Nat.zero_le _,?_,?_,?_,?_,?_,rfl⟩<;>simp (maxDischargeDepth:=60) only[w_len,w_7,LB,simprocAttr])
 rintro m env st ⟨i,nxi,lwi,si,ksi,A,Ci,hm,i_0,i_1,w_ib,w_ilo,w_len,w_132,w_7,w_130,w_131,rfl⟩
 by_cases hi:i<W.length
 ·obtain⟨kc,cs,wv,hS,hkc,hia,hle,hta,hwv⟩:=y6x hcv hi
  have hwl:=y5f hwv
  have w_kc:sget si kc=some (.cells cs):= (i_1.fr _ hS.2 (by have:=hS.1;omega)).trans hkc
  have hin:i<n:=ω
  have hofl:offW n W i+W[i].length≤110000:=by
   have h1: (W.take (i+1)).flatten.length≤W.flatten.length:=by
    conv=>rhs;rw[←List.take_append_drop (i+1) W,List.flatten_append,List.length_append]
    omega
   rw[←zbq hi]
   unfold offW
   omega
  simp only[hi,hia,hle,hta,hwl,w_len,w_132,w_130,w_131,w_kc,↓LA,LB,simprocAttr]
  refine z0b (fun e0 s0 m env st=>∃(j nxj lwj:Nat) (sj:Sto) (ksj:Nat) (xu:V) (Cj:Lv),m=W[i].length-j∧(j≤W[i].length)∧(P4 r N gv n0 n1 i (rk i) ksj (offW n W i+j) A (zc rk n (i+1)++Cj) (spD ((List.range i).map (gSp rk n W))) (zd rk n (i+1)++spD ((W.take i).flatten++W[i].take j)) xu (List.range' (offW n W i) j) sO sj nxj)∧nxi≤nxj∧0≤lwj∧env.length=187∧env.getD 139 .undef= .d (.int .i64 j)∧env.getD 7 .undef= .ptr N.p 0∧env.getD 19 .undef= .d (.int .i64 (i:Nat))∧env.getD 130 .undef=cv∧env.getD 131 .undef= .d (.int .i64 W.length)∧env.getD 132 .undef= .d (.int .i64 (i:Nat))∧env.getD 137 .undef=wv∧env.getD 138 .undef= .d (.int .i64 W[i].length)∧st= {s:=sj,next:=nxj,low:=lwj}) ?_ (W[i].length) (by refine⟨0,_,_,_,ksi,.nilS,Ci,rfl,ω,(by rw[List.take_zero,List.append_nil];exact i_1.toP4 hin ω),ω,Nat.zero_le _,?_,?_,?_,?_,?_,?_,?_,?_,?_,rfl⟩<;>simp only[w_len,w_132,w_7,w_130,w_131,LB,simprocAttr])
  rintro m env st ⟨j,nxj,lwj,sj,ksj,xu,Cj,hm,j_0,j_1,w_jb,w_jlo,w_len,w_139,w_7,w_19,w_130,w_131,w_132,w_137,w_138,rfl⟩
  by_cases hj:j<W[i].length
  ·obtain⟨p,nv,hpa,hpl,hnv⟩:=spotAt (hwv.frame (s' :=sj) fun q hq=>j_1.fr q hq.2 (by have:=hq.1;omega)) hj
   obtain⟨e1,e2⟩:=hW1 _ (List.getElem_mem hi) _ (List.getElem_mem hj)
   rw[e1,e2] at hpl
   refine y27 hj ω ω (by rw[List.length_range'];omega) hnp ⟨hgv.cell.1,hgv.cell.2,hgv.beq⟩ hpa hpl hnv w_len w_7 w_19 w_137 w_138 w_139 j_1 ?_
   intro e st ks' xu' w_len hE w_139 hP hn2
   obtain⟨s2,n2,lw2⟩:=st
   have hn2:nxj≤n2:=hn2
   have w_7:e.getD 7 .undef=_:= (hE 7 ω ω).trans w_7
   have w_19:e.getD 19 .undef=_:= (hE 19 ω ω).trans w_19
   have w_130:e.getD 130 .undef=_:= (hE 130 ω ω).trans w_130
   have w_131:e.getD 131 .undef=_:= (hE 131 ω ω).trans w_131
   have w_132:e.getD 132 .undef=_:= (hE 132 ω ω).trans w_132
   have w_137:e.getD 137 .undef=_:= (hE 137 ω ω).trans w_137
   have w_138:e.getD 138 .undef=_:= (hE 138 ω ω).trans w_138
   simp only[↓LA,simprocAttr]
   have hfin:P4 r N gv n0 n1 i (rk i) ks' (offW n W i+ (j+1)) A (zc rk n (i+1)++ (Cj++ [cI 1,cI 0,nv,cI (W[i][j].clause:Nat)])) (spD ((List.range i).map (gSp rk n W))) (zd rk n (i+1)++spD ((W.take i).flatten++W[i].take (j+1))) xu' (List.range' (offW n W i) (j+1)) sO s2 n2:=by
    have q1:List.range' (offW n W i) (j+1)=List.range' (offW n W i) j++ [offW n W i+j]:=List.range'_1_concat
    have q2:zd rk n (i+1)++spD ((W.take i).flatten++W[i].take (j+1))=zd rk n (i+1)++spD ((W.take i).flatten++W[i].take j)++ [.int .i64 1,.int .i64 0,.sl (W[i][j].next.map intD),.int .i64 (W[i][j].clause:Nat)]:=by
     rw[List.take_add_one,List.getElem?_eq_getElem hj]
     simp only[Option.toList_some,zjd,y29,e1,e2,List.append_assoc]
     rfl
    rw[q1,q2,←List.append_assoc]
    exact hP
   exact z09 (by refine⟨_,ω,j+1,_,_,_,ks',xu',Cj++ [cI 1,cI 0,nv,cI (W[i][j].clause:Nat)],rfl,ω,hfin,ω,Nat.zero_le _,?_,?_,?_,?_,?_,?_,?_,?_,?_,rfl⟩<;>simp only[w_len,w_139,w_7,w_19,w_130,w_131,w_132,w_137,w_138,simprocAttr])
  ·have hje:j=W[i].length:=ω
   simp only[hj,z07 hi ω,w_len,w_139,w_132,w_138,↓LA,LB,simprocAttr]
   have hfin:∀n',nxj≤n' →P3 r N gv n0 n1 (i+1) rk n W ksj (A++ [cI 0,cI (rk i),xu,cI 0]) Cj sO sj n' :=fun n' hn' =>by
    have j_1' :=j_1
    rw[hje,List.take_length] at j_1'
    exact P4.toP3 hi hn' j_1'
   exact z09 (by refine⟨_,ω,i+1,_,_,_,ksj,A++ [cI 0,cI (rk i),xu,cI 0],Cj,rfl,ω,hfin _ ω,ω,Nat.zero_le _,?_,?_,?_,?_,?_,rfl⟩<;>simp only[w_len,w_7,w_130,w_131,LB,simprocAttr])
 ·have hie:i=n:=ω
  have i_2:=i_1
  rw[hie] at i_2
  obtain⟨h1,h2,h3,h4,h5,h6,h7,_,_,_,k4,k5,_⟩:=i_2
  rw[y09.1,List.nil_append] at h2 h4 h6
  rw[y09.2,List.nil_append] at h6
  obtain⟨tot,htot⟩:∃tot,tot=offW n W n:=⟨_,rfl⟩
  have htl:tot=n+W.flatten.length:=by rw[htot,offW,←hn,List.take_length]
  rw[←htot] at h1 h4
  have w_g:=h1
  simp only[gC3] at w_g
  have w_p:sget si N.p=some (.cells [.ptr N.g 0]):= (h7 _ ω ω).trans hnp
  have w_gv:gv.isCell=true∧cellsV gv= [gv]:=hgv.cell
  have w_n: (∀q,(nxi+q=N.g)=False)∧(∀q,(nxi+q=N.p)=False)∧(nxi=N.g)=False∧(nxi=N.p)=False∧(∀o,sget (sset si N.g o) N.g=some o)∧(N.g=N.p)=False∧(N.p=N.g)=False:=⟨fun q=>by simp;omega,fun q=>by simp;omega,by simp;omega,by simp;omega,fun o=>z05 h1,by simp;omega,by simp;omega⟩
  have hmk:∀key st,z4v key 1 false 8 [.d (.int .i64 0)] (.d (.int .i64 (tot:Nat))) (.d (.int .i64 (tot:Nat))) st=some (.arr key 1 false 0 tot,st.ins key (.cells (scs (List.replicate tot (.int .i64 0))))):=fun key st=>zdq rfl ω ω
  rw[hR]
  simp only[hi,hmk,T1.q46_177,w_len,w_132,w_7,w_131,w_g,w_p,w_n,↓LA,LB,simprocAttr]
  have hG:∀Y:Sto,(∀q,q<nxi→q≠N.g→sget Y q=sget si q)→sget Y N.g=some (.cells (gC3 r N gv (.arr ksi 4 true 0 tot) (.arr (nxi+7) 1 false 0 tot)))→sget Y (nxi+7)=some (.cells (scs (List.replicate tot (.int .i64 0))))→∀n',nxi+11≤n' →Game r N L (z3o rk n W) Y n0 n' :=fun Y hY hYg hYk n' hn' =>by
   have hsl: (z3o rk n W).length=tot:=by rw[htl];simp[z3o]
   refine⟨gv,.arr ksi 4 true 0 tot,nxi+7,by rw[hsl];exact hYg,?_,?_,by rw[hsl];exact hYk,ω,ω⟩
   ·exact (hgv.frame fun q hq=> (hY q ω hq.2).trans (h7 q hq.1 hq.2)).mono fun q hq=>⟨by have:=hq.1;omega,hq.2,by have:=hq.1;omega⟩
   ·refine .inr ⟨ksi,A++Ci,by rw[List.length_map,hsl],⟨ω,ω,ω⟩,(hY _ k5 ω).trans h2,?_⟩
    show CVs _ _ (spD (z3o rk n W))
    unfold z3o
    rw[zjd]
    refine CVs.append (h5.imp fun v d hv=> (hv.frame fun q hq=>hY q hq.2.1 (by have:=hq.1;omega)).mono fun q hq=>⟨⟨by have:=hq.2.1;omega,by have:=hq.1;omega,by have:=hq.2.1;omega⟩,hq.2.2⟩) ?_
    rw[←hn,List.take_length] at h6
    exact h6.imp fun v d hv=> (hv.frame fun q hq=>hY q (by have:=hq.2;omega) (by have:=hq.1;omega)).mono fun q hq=>⟨⟨by have:=hq.2;omega,by have:=hq.1;omega,by have:=hq.2;omega⟩,by have:=hq.2;omega⟩
  refine hQ _ _ (by simp only[w_len,LB,simprocAttr]) (by simp only[w_len,LB,simprocAttr]) (hG _ (fun q g1 g2=> ?_) ?_ z03 _ (by show nxi+11≤nxi+_;omega)) (fun q g1 g2=> ?_) (by show nx≤nxi+_;omega)
  ·rw[z00 ω,z01 ω]
  ·rw[z00 ω]
   exact z05 h1
  ·show sget ((nxi+7,_)::sset si N.g _) q=_
   rw[z00 ω,z01 ω]
   exact h7 q g1 g2
def z9v (r:RulesT) (g:GoalT):Int:=match r.rels.find? (isR g.rel) with
 |some x=>x.rank
 |none=>0
def rkL (r:RulesT) (L:List GoalT) (j:Nat):Int:=z9v r (L.getD j ⟨[],[]⟩)
def y5u   (h:Rg r g):∃i,∃hi:i<r.rels.length,z2i r.rels g.rel=i∧r.rels[i].rank=z9v r g:=by
 obtain⟨hc,x,hf,ha,_⟩:=z1y h.1
 obtain⟨i,hi,hi2,hi3⟩:=List.find?_eq_some_iff_getElem.1 hf|>.2
 have e:x.name=g.rel:=by simpa [isR] using List.find?_some hf
 refine⟨i,hi,zca hi (fun y hy=>by
  obtain⟨j,hj,rfl⟩:=List.mem_iff_getElem.1 hy
  rw[List.length_take] at hj
  rw[List.getElem_take]
  have:=hi3 j ω
  simpa using this) (by rw[hi2];simpa [isR] using e),?_⟩
 unfold z9v
 rw[hf,hi2]
theorem y16:∀{l:List GoalT} {j:Nat} (h:j<l.length),j*2+2≤(((l.map GoalT.d).flatMap cellsD).map V.d).length∧((((l.map GoalT.d).flatMap cellsD).map V.d).drop (j*2)).take 2= [.d (.str l[j].rel),.d (.sl (l[j].args.map TreeT.d))]
 |t::l,0,_=>⟨by simp[GoalT.d,cellsD],rfl⟩
 |t::l,j+1,h=>by
  have h' :j<l.length:=by simp at h;omega
  obtain⟨h1,h2⟩:=y16 h'
  have e: (j+1)*2=j*2+1+1:=ω
  have e2: (((t::l).map GoalT.d).flatMap cellsD).map V.d=V.d (.str t.rel)::V.d (.sl (t.args.map TreeT.d)):: (((l.map GoalT.d).flatMap cellsD).map V.d):=rfl
  rw[e2,e]
  refine⟨by simp only[List.length_cons];omega,?_⟩
  rw[List.drop_succ_cons,List.drop_succ_cons,h2]
  rfl
def y15  {lv:Bool}   {l:Lh} (h:GP s lv S 0 2 true v (l.map GoalT.d))  (hj:j<l.length):
  ∃k cs,S k∧v= .arr k 2 true 0 l.length∧sget s k=some (.cells cs)∧z08 2 v (j:Int)=some (.ptr k (j*2))∧(j*2+2≤cs.length)=True∧(cs.drop (j*2)).take 2= [.d (.str l[j].rel),.d (.sl (l[j].args.map TreeT.d))]:=by
 rcases h with⟨_,e⟩|⟨k,cs,rfl,h1,h2,h3⟩
 ·cases l with
  |nil=>simp at hj
  |cons x l=>simp at e
 ·have e:=zzg h3
  subst e
  obtain⟨k1,k2⟩:=y16 hj
  refine⟨k,_,h1,by simp,h2,?_,eq_true k1,k2⟩
  rw[List.length_map]
  simp only[z08]
  rw[if_pos ⟨ω,ω,trivial⟩]
  simp
def SvC (s:Sto) (lo hi:Nat) (v:V) (cs:List V) (i:Nat):Prop:= (v= .nilS∧cs= []∧i=0)∨∃k,v= .arr k 4 true 0 i∧lo≤k∧k<hi∧sget s k=some (.cells cs)
def SvC.away     (h:SvC s lo hi v cs i) {q:Nat} (hq:q<lo∨hi≤q):Go.Lift.away v q:=by
 rcases h with⟨rfl,_⟩|⟨k,rfl,h1,h2,_⟩
 ·trivial
 ·show ¬k=q
  omega
def SvC.cell     (h:SvC s lo hi v cs i):v.isCell=true∧cellsV v= [v]∧V.beq v v=true:=by
 rcases h with⟨rfl,_⟩|⟨k,rfl,_⟩
 ·exact⟨rfl,rfl,z5q⟩
 ·exact⟨rfl,rfl,z4o⟩
def SvC.app {z:Sto} {nx lw key k1:Nat}  {ys:Lv} (h:SvC s lo hi v cs i) (hs:∀q,lo≤q→q<hi→sget z q=sget s q) (hl:cs.length=i*4) (h1:sget z k1=some (.cells ys)) (hy:ys.length=4) (hc:ys.all V.isCell=true) (hi:i≤100000):
  z0v {s:=z,next:=nx,low:=lw} key 4 true 48 v (.arr k1 4 true 0 1)=some (.arr key 4 true 0 (i+1),{s:= (key,.cells (cs++ys))::grow v z,next:=nx,low:=zaa v lw}):=by
 rcases h with⟨rfl,rfl,rfl⟩|⟨k,rfl,h2,h3,h4⟩
 ·have hr:=zgd (nx:=nx) (lw:=lw) (ag:=true) (n:=1) (es:=4) h1 ω
  simp only[z0v,hr]
  rw[if_neg ω,if_pos ⟨ω,ω,hc⟩]
  rfl
 ·rw[zio (n:=i) (m:=1) ((hs k h2 h3).trans h4) h1 hl ω hc ω ω]
  rfl
def zr (rk:Nat→Int) (i:Nat):List V:= (List.range i).flatMap fun j=> [cI 0,cI (rk j),.nilS,cI 0]
theorem zq4   :zr rk (i+1)=zr rk i++ [cI 0,cI (rk i),.nilS,cI 0]:=by simp[zr,List.range_succ]
theorem zq5 {rk:Nat→Int} :∀{i:Nat},(zr rk i).length=i*4
 |0=>rfl
 |i+1=>by rw[zq4,List.length_append,zq5];simp;omega
theorem y5b   :zr rk n=zc rk n 0:=by unfold zr zc;rw[List.range_eq_range',Nat.sub_zero]
def y5c {s:Sto} {S:Nat→Prop} {rk:Nat→Int} {n:Nat} :∀{m i:Nat},n-i=m→CVs (CQ s false S 1) (zc rk n i) (zd rk n i)
 |0,i,h=>by simp[zc,zd,h,CVs]
 |m+1,i,h=>by
  rw[zq8 ω,zq7 ω]
  exact⟨CQ.int,CQ.int,CQ.nil,CQ.int,y5c (m:=m) ω⟩
def y69  (hr:r.ok) {N:Nm}  {lw b2:Nat}      
  (hN:N.ok n0) (hn0:n0≤nx) (hb2:b2<n0∧b2≠N.g) (hsb:sget s b2=some (.cells [.d (.sl (r.rels.map RelT.d)),.d (.sl (r.clauses.map ClauseT.d))])) (h:Og1 r N gv L es s nx) (hL:∀x∈L,Rg r x) (hL0:0<L.length) (hL1:L.length≤1000)
  (hn:W.length=L.length) (hWl:W.flatten.length≤100000) (hW1:∀w∈W,∀x∈w,x.owner=1∧x.rank=0) (hnc:sget s N.c=some (.cells [cv])) (hcv:GP s false (fun q=>n0≤q∧q<nx) 2 1 false cv (W.map fun w=>D.sl (w.map SpotT.d)))
  (w_len:E.length=187) (w_2:E.getD 2 .undef= .ptr b2 0) (w_7:E.getD 7 .undef= .ptr N.p 0) (w_10:E.getD 10 .undef= .ptr N.c 0)
  (hQ:∀e st,e.getD 4 .undef= .ptr N.g 0→e.getD 5 .undef= .d (.int .i64 0)→Game r N L (z3o (rkL r L) L.length W) st.s n0 st.next→(∀q,q<nx→q≠N.g→sget st.s q=sget s q)→nx≤st.next→Q .ret e st):
  PC (z0j (z06 G) z0g none T1.q46_100 E {s:=s,next:=nx,low:=lw}) Q .mk:=by
 obtain⟨R,hR⟩:∃R:IC,R=T1.q46_130:=⟨_,rfl⟩
 obtain⟨l1,l2,l3,l4,l5,l6⟩:=hN.lt
 have a1:=hN.g
 have w_p:=h.p
 have w_g:sget s N.g=some (.cells [.d (.sl (r.rels.map RelT.d)),.d (.sl (r.clauses.map ClauseT.d)),gv,.nilS,.nilS,.fn 71 [.ptr N.g 0] []]):=h.g
 have w_b:=hsb
 have hgl:opLen false gv=some L.length:=by rw[h.hg.len,List.length_map]
 have hgvS:GP s false (fun q=>q<nx∧q≠N.g) 0 2 true gv (L.map GoalT.d):=h.hg.mono fun q hq=>⟨Classical.byContradiction fun e=>hq (h.gn q ω),fun e=>hq (e▸h.ga.1)⟩
 have w_gv:=hgvS.cell
 have w_gb:=hgvS.beq
 have hfb:V.beq (.fn 71 [.ptr N.g 0] []) (.fn 71 [.ptr N.g 0] [])=true:=by simp[V.beq,V.beqL]
 have hNo:=fun st name=>z6g hr.1.1 (name:=name) st
 simp only[RulesT.d] at hNo
 unfold T1.q46_100
 rw[←hR]
 simp only[hgl,w_len,w_7,w_p,w_g,↓LA,LB,simprocAttr]
 refine z0b (fun e0 s0 m env st=>∃(i nxi lwi:Nat) (si:Sto) (sv:V),m=L.length-i∧(i≤L.length)∧(SvC si nx nxi sv (zr (rkL r L) i) i)∧((∀q,q<nx→q≠N.g→sget si q=sget s q))∧sget si (N.g)=some (.cells [.d (.sl (r.rels.map RelT.d)),.d (.sl (r.clauses.map ClauseT.d)),gv,sv,.nilS,.fn 71 [.ptr N.g 0] []])∧nx≤nxi∧0≤lwi∧env.length=187∧env.getD 105 .undef= .d (.int .i64 i)∧env.getD 2 .undef= .ptr b2 0∧env.getD 7 .undef= .ptr N.p 0∧env.getD 10 .undef= .ptr N.c 0∧env.getD 103 .undef=gv∧env.getD 104 .undef= .d (.int .i64 L.length)∧st= {s:=si,next:=nxi,low:=lwi}) ?_ (L.length) (by refine⟨0,_,_,_,.nilS,rfl,ω,.inl ⟨rfl,rfl,rfl⟩,(fun q _ _=>rfl),?_,ω,Nat.zero_le _,?_,?_,?_,?_,?_,?_,?_,rfl⟩<;>simp (maxDischargeDepth:=60) only[w_len,w_2,w_7,w_10,w_g,LB,simprocAttr])
 rintro m env st ⟨i,nxi,lwi,si,sv,hm,i_0,i_1,i_2,w_ic0,w_ib,w_ilo,w_len,w_105,w_2,w_7,w_10,w_103,w_104,rfl⟩
 have w_iN:=cf1 (x:=nxi) (a:=N.g) ω
 have w_iS:=cf2 (x:=nxi) ω w_ic0
 have w_b2:= (i_2 b2 ω hb2.2).trans hsb
 have w_p2:= (i_2 N.p ω (fun e=>a1.1 e.symm)).trans w_p
 have w_sv:=i_1.cell
 have w_nn: (∀q,(nxi+q=N.g)=False)∧(∀q,(nxi+q=N.p)=False)∧(∀q,(nxi+q=b2)=False)∧(nxi=N.g)=False∧(nxi=N.p)=False∧(nxi=b2)=False∧(N.g=N.p)=False∧(N.p=N.g)=False:=⟨fun q=>by simp;omega,fun q=>by simp;omega,fun q=>by simp;omega,by simp;omega,by simp;omega,by simp;omega,by simp;omega,by simp;omega⟩
 by_cases hi:i<L.length
 ·obtain⟨kg,cs,hkS,hkv,hkc,hia,hle,hta⟩:=y15 hgvS hi
  have hrg:=hL _ (List.getElem_mem hi)
  obtain⟨z,hz,hz1,hz2⟩:=y5u hrg
  have hrk:rkL r L i=r.rels[z].rank:=by rw[hz2];simp[rkL,hi]
  have hir:=z2e hz
  have w_kg:sget si kg=some (.cells cs):= (i_2 kg hkS.1 hkS.2).trans hkc
  simp only[hi,hia,hle,hta,hNo,hz1,hir,hfb,w_len,w_105,w_2,w_7,w_103,w_104,w_ic0,w_iN,w_b2,w_p2,w_sv,w_nn,w_gb,w_kg,↓LA,LB,simprocAttr]
  rw[i_1.app (fun q g1 g2=>by rw[z00 ω,z00 ω]) zq5 z03 rfl rfl ω]
  have w_av:away sv N.g∧away sv N.p∧away sv b2:=⟨i_1.away (.inl ω),i_1.away (.inl ω),i_1.away (.inl ω)⟩
  simp only[z07 hi ω,w_len,w_105,w_7,w_ic0,w_iN,w_p2,w_nn,w_av,↓LA,LB,simprocAttr]
  exact z09 (by refine⟨_,ω,i+1,_,_,_,.arr (nxi+22) 4 true 0 (i+1),rfl,ω,.inr ⟨nxi+22,rfl,ω,ω,by rw[zq4,hrk];exact z03⟩,(by intro q g1 g2;simp (disch:=omega) only[z00,z01,z04 (i_1.away (.inl g1))];exact i_2 q g1 g2),?_,ω,Nat.zero_le _,?_,?_,?_,?_,?_,?_,?_,rfl⟩<;>simp only[w_len,w_2,w_7,w_10,w_103,w_104,w_ic0,w_iN,w_av,LB,simprocAttr])
 ·have hie:i=L.length:=ω
  simp only[hi,w_len,w_105,w_104,↓LA,LB,simprocAttr]
  rw[hR]
  rw[hie] at i_1
  rcases i_1 with⟨_,_,e⟩|⟨ks,rfl,k1,k2,k3⟩
  ·omega
  have hzl:=zq5 (rk:=rkL r L) (i:=L.length)
  have hnc2:= (i_2 N.c ω (fun e=>a1.2.2.2.2 e.symm)).trans hnc
  refine y68 (rk:=rkL r L) (n:=L.length) (n1:=nx) (n0:=n0) (ks:=ks) (C:= []) (sO:=si) (L:=L) (W:=W) (gv:=gv) (cv:=cv) (r:=r) (N:=N) hn hL1 hWl hW1 w_p2 hnc2 ⟨l6,fun e=>a1.2.2.2.2 e.symm⟩ (hgvS.frame fun q hq=>i_2 q hq.1 hq.2) (hcv.frame fun q hq=>i_2 q hq.2 (by have:=hq.1;omega)) (by simp only[w_len,LB,simprocAttr]) (by simp only[w_7,LB,simprocAttr]) (by simp only[w_10,LB,simprocAttr]) ?_ ?_
  ·have ho:offW L.length W 0=L.length:=by simp[offW]
   refine⟨by rw[ho];exact w_ic0,by rw[k3,y5b];simp,rfl,by rw[ho,←y5b];simp[hzl],by simp[spD,CVs],?_,fun _ _ _=>rfl,l1,l2,hn0,k1,by show ks<nxi+_;omega,a1.1⟩
   have:=y5c (s:=si) (S:=fun q=>n0≤q∧q<nx) (rk:=rkL r L) (n:=L.length) (i:=0) rfl
   simpa [spD] using this
  ·intro e st h4 h5 hG hf hn2
   exact hQ e st h4 h5 hG (fun q g1 g2=> (hf q g1 g2).trans (i_2 q g1 g2)) (Nat.le_trans (Nat.le_trans w_ib (Nat.le_add_right _ _)) hn2)
structure Ph (r:RulesT) (N:Nm) (n0 ib i:Nat) (gv cv:V) (W:List (List SpotT)) (L:List GoalT) (es:List (D×V)) (s:Sto) (nx:Nat):Prop where
 o:Og1 r N gv L es s nx
 cc:sget s N.c=some (.cells [cv])
 ii:sget s ib=some (.cells [.d (.int .i64 (i:Nat))])
 w:GP s false (fun q=>n0≤q∧q<nx∧away gv q) 2 1 false cv (W.map fun w=>D.sl (w.map SpotT.d))
 wl:W.length=i
 ga:away gv ib∧away cv ib
 lt:n0≤ib∧ib<nx∧n0≤nx
theorem zz6:∀w:List SpotT,Elt 1 false (D.sl (w.map SpotT.d)):=fun w=> .inr ⟨rfl,rfl,rfl⟩
def y8p  {N:Nm}  {lw:Nat}      
  (hN:N.ok n0) (h:Ph r N n0 ib i gv cv W L es s nx) (hL:∀x∈L,Rg r x) (hi:i<L.length) (hL1:L.length≤300)
  (w_len:E.length=187) (w_7:E.getD 7 .undef= .ptr N.p 0) (w_9:E.getD 9 .undef= .ptr N.f 0) (w_10:E.getD 10 .undef= .ptr N.c 0) (w_11:E.getD 11 .undef= .ptr ib 0)
  (hQ1: (lAt r L[i] L r.clauses.length).length≤300→∀e st ib' gv' cv' es',e.length=187→(∀l,l<11→e.getD l .undef=E.getD l .undef)→e.getD 11 .undef= .ptr ib' 0→Ph r N n0 ib' (i+1) gv' cv' (W++ [(z2q r L[i] r.clauses.length).map (z37 (lAt r L[i] L r.clauses.length))]) (lAt r L[i] L r.clauses.length) es' st.s st.next→(∀q,q<n0→q≠N.g→q≠N.m→q≠N.c→away gv q→sget st.s q=sget s q)→(∀q,q<nx→away gv q→away gv' q)→nx≤st.next→Q .nrm e st)
  (hQ2:300< (lAt r L[i] L r.clauses.length).length→∀e st,e.getD 4 .undef= .nilP→e.getD 5 .undef= .d (.int .i64 9)→(∀q,q<n0→q≠N.g→q≠N.m→q≠N.c→away gv q→sget st.s q=sget s q)→nx≤st.next→Q .ret e st):
  PC (z0j (z06 G) z0g none T1.q46_43 E {s:=s,next:=nx,low:=lw}) Q .mk:=by
 obtain⟨R,hR⟩:∃R:IC,R=T1.q46_93:=⟨_,rfl⟩
 obtain⟨l1,l2,l3,l4,l5,l6⟩:=hN.lt
 have a1:=hN.g
 have a2:=hN.p
 obtain⟨b1,b2,b3⟩:=h.lt
 have w_p:=h.o.p
 have w_g:sget s N.g=some (.cells [.d (.sl (r.rels.map RelT.d)),.d (.sl (r.clauses.map ClauseT.d)),gv,.nilS,.nilS,.fn 71 [.ptr N.g 0] []]):=h.o.g
 have w_c:=h.cc
 have w_i:=h.ii
 have hgl:opLen false gv=some L.length:=by rw[h.o.hg.len,List.length_map]
 have hli: ((i:Int)< (L.length:Nat))=True:=eq_true ω
 have w_cb:=h.w.cell
 have w_aw:away cv N.p∧away cv N.g∧away cv N.c∧away cv ib∧away cv (nx+9):=⟨h.w.away (fun h=>by have:=h.1;omega),h.w.away (fun h=>by have:=h.1;omega),h.w.away (fun h=>by have:=h.1;omega),h.ga.2,h.w.away (fun h=>by have:=h.2.1;omega)⟩
 have w_nn: (∀q,(nx+q=N.g)=False)∧(∀q,(nx+q=N.p)=False)∧(∀q,(nx+q=N.c)=False)∧(∀q,(nx+q=ib)=False)∧(nx=N.g)=False∧(nx=N.p)=False∧(nx=N.c)=False∧(nx=ib)=False∧(N.c=N.p)=False∧(N.c=N.g)=False∧(N.c=ib)=False∧(N.p=N.c)=False∧(N.g=N.c)=False∧(ib=N.c)=False∧(∀o,sget (sset s N.c o) N.c=some o):=by
  refine⟨fun q=>by simp;omega,fun q=>by simp;omega,fun q=>by simp;omega,fun q=>by simp;omega,by simp;omega,by simp;omega,by simp;omega,by simp;omega,by simp;omega,by simp;omega,by simp;omega,by simp;omega,by simp;omega,by simp;omega,fun o=>z05 h.cc⟩
 unfold T1.q46_43
 unfold T1.q46_52
 rw[←hR]
 simp only[hgl,hli,w_len,w_7,w_10,w_11,w_p,w_g,w_c,w_i,↓LA,LB,simprocAttr]
 have hWl: (W.map fun w=>D.sl (w.map SpotT.d)).length=i:=by rw[List.length_map,h.wl]
 refine z4g h.w ?_ (z0c zz6) z03 ?_ ?_ ?_ ?_ ?_ fun chc hc=> ?_
 ·intro q hq;obtain⟨g1,g2,g3⟩:=hq;simp (disch:=omega) only[z00]
 ·rfl
 ·omega
 ·omega
 ·omega
 ·rfl
 simp only[w_len,w_7,w_10,w_11,w_p,w_g,w_c,w_i,w_aw,w_nn,↓LA,LB,simprocAttr]
 generalize hZ: ((nx+9,Obj.cells (chc++ [V.nilS]))::sset (grow cv ((nx+8,Obj.cells [V.nilS])::s)) N.c (Obj.cells [V.arr (nx+9) 1 false 0 (W.length+1)]))=Z
 have z0:∀q,q<nx→q≠N.c→away cv q→sget Z q=sget s q:=fun q g1 g2 g3=>by rw[←hZ];simp (disch:=omega) only[z00,z01,z04 g3]
 have z1:sget Z N.c=some (.cells [.arr (nx+9) 1 false 0 (i+1)]):=by
  rw[←hZ,z00 ω,h.wl]
  refine z05 (x:= .cells [cv]) ?_
  rw[z04 w_aw.2.2.1,z00 ω]
  exact h.cc
 have z2:sget Z (nx+9)=some (.cells (chc++ [.nilS])):=by rw[←hZ];exact z03
 clear hZ
 have hwf: (W.map fun w=>D.sl (w.map SpotT.d)).flatMap cellsD=W.map fun w=>D.sl (w.map SpotT.d):=by
  generalize W=W
  induction W with
  |nil=>rfl
  |cons x W ih=>rw[List.map_cons,List.flatMap_cons,ih];rfl
 have hws:CVs (CQ Z false (fun q=>n0≤q∧q<nx∧away gv q∧q≠nx+9∧away .nilS q) 2) chc (W.map fun w=>D.sl (w.map SpotT.d)):=by
  rcases hc with⟨rfl,rfl,e⟩|⟨k,rfl,hS,hcv⟩
  ·rw[e];trivial
  ·rw[hwf] at hcv
   exact hcv.imp fun v d hv=> (hv.frame fun q hq=>z0 q hq.1.2.1 (by have:=hq.1.1;omega) (fun e=>hq.2 e.symm)).mono fun q hq=>⟨hq.1.1,hq.1.2.1,hq.1.2.2,by have:=hq.1.2.1;omega,trivial⟩
 have hcl:chc.length=i:=by rw[CVs.length hws,List.length_map,h.wl]
 have awg:∀q,¬away gv q→away cv q:=fun q hq=>h.w.away (fun h=>hq h.2.2)
 have aw0:∀q,q<n0→away cv q:=fun q hq=>h.w.away (fun h=>by have:=h.1;omega)
 have hOp:∀n',nx+11≤n' →Op r N n0 ib i (nx+9) chc W .nilS gv [] L es Z n' n' :=fun n' hn' =>
  ⟨h.o.step hN (fun q hq hc=>z0 q (hq.elim ω fun hq=>Classical.byContradiction fun e=>hq (h.o.gn q ω)) hc (hq.elim (aw0 q) (awg q))) ω,z1,(z0 ib b2 ω h.ga.2).trans h.ii,z2,hcl,hws.imp fun v d hv=>hv.mono fun q hq=>⟨hq.1,by have:=hq.2.1;omega,hq.2.2⟩,GP.nil,⟨h.ga.1,h.o.gn _ ω⟩,ω,ω,Nat.le_refl _,b1,ω,ω,trivial⟩
 obtain⟨kg,cs,hkS,hkv,hkc,hia,hle,hta⟩:=y15 h.o.hg hi
 have hkx:kg<nx:=Classical.byContradiction fun e=>hkS (h.o.gn kg ω)
 have w_kg:sget Z kg=some (.cells cs):= (z0 kg hkx (fun e=>hkS (e▸h.o.ga.2.2.2.2.2)) (awg kg hkS)).trans hkc
 simp only[hia,hle,hta,w_len,w_kg,↓LA,LB,simprocAttr]
 refine z0d (zwd (g:=L[i])) fun v st hR=> ?_
 obtain⟨rfl,lw',rfl,_⟩:=hR
 simp only[↓LA,LB,simprocAttr]
 refine y66 (fn:=98) (first:= []) (cap:= [.ptr (nx+20) 0,.ptr (nx+21) 0]) (by simp only[w_len,LB,simprocAttr]) ?_
 show PostV (z06 G _ [.yld (nx+25)] {s:= (nx+25,_)::_,next:=nx+26,low:=lw' }) (fun _ st' =>y8b (nx+25) _ _ st')
 refine PostV.mono (zqe (nx:=nx+26) (N:=N) (n0:=n0) (ib:=ib) (i:=i) (kc:=nx+9) (k:=nx+25) (u1:=nx+20) (u2:=nx+21) (ws:=chc) (W:=W) (wi:= .nilS) (gv:=gv) (w:= []) (L:=L) (g:=L[i]) (es:=es) ⟨by simp only[w_len,LB,simprocAttr],by simp only[w_9,LB,simprocAttr],by simp only[w_10,LB,simprocAttr],by simp only[w_11,LB,simprocAttr]⟩ hN (((hOp (nx+11) (Nat.le_refl _)).frame hN (fun q hq=>by rw[z00 ω,z00 ω,z00 ω]) ω).up ω (Nat.le_refl _)) z03 ⟨ω,ω,ω,ω⟩ (h.o.gn _ ω) trivial (hL _ (List.getElem_mem hi)) ω ψ ω (by rw[z00 ω,z00 ω];exact z03) (by rw[z00 ω];exact z03) ⟨⟨ω,ω,ω⟩,ω,ω,ω⟩ ⟨h.o.gn _ ω,h.o.gn _ ω⟩ ⟨trivial,trivial⟩) ?_
 rintro v ⟨s1,n1,lw1⟩ ⟨f1,f2,gv',wi',es',hO,f3,f4⟩
 have f1:nx+26≤n1:=f1
 have hk1:= (f2 (nx+25) ω ω ω ω (h.o.gn _ ω) trivial).trans z03
 refine⟨_,_,_,_,.ready,none,hk1,by simp,?_⟩
 obtain⟨L',hL'⟩:∃L',L' =lAt r L[i] L r.clauses.length:=⟨_,rfl⟩
 rw[List.nil_append] at hO
 rw[←hL'] at hO hQ1 hQ2
 have hO2:=hO.loop hN (s' :=sdel s1 (nx+25)) (fun cs=>by rw[hk1];simp) ω (f3 _ ω (h.o.gn _ ω)) (fun q hq=>z10 (fun e=>hq e.symm)) (Nat.le_refl _)
 have hO2:Op r N n0 ib i (nx+9) chc W wi' gv' ((z2q r L[i] r.clauses.length).map (z37 L')) L' es' (sdel s1 (nx+25)) n1 n1:=hO2
 have hfr:∀q,q<n0→q≠N.g→q≠N.m→q≠N.c→away gv q→sget (sdel s1 (nx+25)) q=sget s q:=fun q g1 g2 g3 g4 g5=>by
  rw[z10 ω,f2 q ω g2 g3 ω g5 trivial,z00 ω,z00 ω,z00 ω]
  exact z0 q ω g4 (aw0 q g1)
 show outB 2 _ _ _ (St.del _ _)
 simp only[St.del]
 generalize sdel s1 (nx+25)=s2 at hO2 hfr
 clear hk1 hO
 have w_p:=hO2.o.p
 have w_g:sget s2 N.g=some (.cells [.d (.sl (r.rels.map RelT.d)),.d (.sl (r.clauses.map ClauseT.d)),gv',.nilS,.nilS,.fn 71 [.ptr N.g 0] []]):=hO2.o.g
 have w_i:=hO2.iv
 have hgl' :opLen false gv' =some L'.length:=by rw[hO2.o.hg.len,List.length_map]
 have w_n1: (∀q,(n1+q=N.p)=False)∧(∀q,(n1+q=N.g)=False)∧(∀q,(n1+q=ib)=False)∧(n1=N.p)=False∧(n1=N.g)=False∧(n1=ib)=False:=⟨fun q=>by simp;omega,fun q=>by simp;omega,fun q=>by simp;omega,by simp;omega,by simp;omega,by simp;omega⟩
 rw[hR]
 by_cases hgr:300<L'.length
 ·have hg3: ((300:Int)< (L'.length:Nat))=True:=eq_true ω
  simp only[hgl',hg3,w_len,w_7,w_p,w_g,↓LA,LB,simprocAttr]
  exact hQ2 hgr _ _ (by simp only[w_len,LB,simprocAttr]) (by simp only[w_len,LB,simprocAttr]) hfr (by show nx≤n1+_;omega)
 ·have hg3: ((300:Int)< (L'.length:Nat))=False:=eq_false ω
  simp only[hgl',hg3,z07 (show i<300 by omega) ω,w_len,w_7,w_11,w_p,w_g,w_i,↓LA,LB,simprocAttr]
  have hPh:∀Y:Sto,(∀q,q<n1→sget Y q=sget s2 q)→sget Y (n1+7)=some (.cells [.d (.int .i64 ((i+1:Nat):Int))])→∀n',n1+8≤n' →Ph r N n0 (n1+7) (i+1) gv' (.arr (nx+9) 1 false 0 (i+1)) (W++ [(z2q r L[i] r.clauses.length).map (z37 L')]) L' es' Y n' :=fun Y hY hYi n' hn' =>by
   obtain⟨k1,k2,k3,k4,k5,k6,k7,k8,c1,c2,c3,c4,c5,c6,c7⟩:=hO2
   refine⟨k1.step hN (fun q hq _=>hY q (hq.elim ω fun hq=>Classical.byContradiction fun e=>hq (k1.gn q ω))) ω,(hY _ ω).trans k2,hYi,?_,by rw[List.length_append,h.wl];rfl,⟨k1.gn _ ω,by show ¬_=_;omega⟩,ω,ω,ω⟩
   refine .inr ⟨nx+9,chc++ [wi'],by simp[h.wl],⟨ω,ω,k8.2⟩,(hY _ ω).trans k4,?_⟩
   have e: ((W++ [(z2q r L[i] r.clauses.length).map (z37 L')]).map fun w=>D.sl (w.map SpotT.d)).flatMap cellsD= (W.map fun w=>D.sl (w.map SpotT.d))++ [.sl (((z2q r L[i] r.clauses.length).map (z37 L')).map SpotT.d)]:=by
    rw[List.map_append,List.flatMap_append,hwf];rfl
   rw[e]
   refine CVs.append (k6.imp fun v d hv=> (hv.frame fun q hq=>hY q hq.2.1).mono fun q hq=>⟨⟨hq.1,by have:=hq.2.1;omega,hq.2.2.1⟩,hq.2.2.2.1⟩) ⟨?_,trivial⟩
   exact ((k7.frame fun q hq=>hY q hq.2.1).cv ω (z0c zau)).mono fun q hq=>⟨⟨hq.1,by have:=hq.2.1;omega,hq.2.2.1⟩,hq.2.2.2⟩
  exact hQ1 ω _ _ (n1+7) gv' _ es' (by simp only[w_len,LB,simprocAttr]) (by intro l g1;simp (disch:=omega) only[z0h]) (by simp only[w_len,LB,simprocAttr]) (hPh _ (fun q g=>z00 ω) z03 _ (by show n1+8≤n1+_;omega)) (fun q g1 g2 g3 g4 g5=> (z00 ω).trans (hfr q g1 g2 g3 g4 g5)) (fun q g1 g2=>f3 q ω g2) (by show nx≤n1+_;omega)
noncomputable def wL (r:RulesT) (L:List GoalT) (i:Nat):List (List SpotT):= (List.range i).map fun j=> (z2q r (L.getD j ⟨[],[]⟩) r.clauses.length).map (z37 L)
def zfx   (h:j<L.length): (L++M).getD j ⟨[],[]⟩=L.getD j ⟨[],[]⟩:=by
 simp only[List.getD_eq_getElem?_getD]
 rw[List.getElem?_append_left h]
def zfv    (hj:j<i) (hl:∀k,k<i→k< (goalsL r g k).length):∀x∈z2k (z2q r ((goalsL r g i).getD j ⟨[],[]⟩) r.clauses.length),x∈goalsL r g i:=by
 intro x hx
 obtain⟨M1,e1⟩:=z3i (r:=r) (g:=g) (i:=j) (j:=i-j)
 rw[show j+ (i-j)=i by omega] at e1
 obtain⟨M2,e2⟩:=z3i (r:=r) (g:=g) (i:=j+1) (j:=i-(j+1))
 rw[show j+1+ (i-(j+1))=i by omega] at e2
 rw[e1,zfx (hl j hj)] at hx
 rw[e2]
 exact List.mem_append_left _ (z77.2 (.inr hx))
def y20    (hl:∀k,k<i→k< (goalsL r g k).length) (hi:i< (goalsL r g i).length):
  wL r (goalsL r g (i+1)) (i+1)=wL r (goalsL r g i) i++ [(z2q r (goalsL r g i)[i] r.clauses.length).map (z37 (goalsL r g (i+1)))]:=by
 obtain⟨M,e⟩:=z9h (r:=r) (g:=g) (i:=i)
 have hpl:∀k,k<i→k< (goalsL r g i).length:=fun k hk=>by
  obtain⟨M1,e1⟩:=z3i (r:=r) (g:=g) (i:=k) (j:=i-k)
  rw[show k+ (i-k)=i by omega] at e1
  have:=hl k hk
  rw[e1,List.length_append];omega
 unfold wL
 rw[List.range_succ,List.map_append]
 congr 1
 ·refine List.map_congr_left fun j hj=> ?_
  have hj:j<i:=by simpa using hj
  rw[e,zfx (hpl j hj)]
  exact zh1 (zfv hj hl)
 ·have: (goalsL r g (i+1)).getD i ⟨[],[]⟩= (goalsL r g i)[i]:=by rw[e,zfx hi];simp[hi]
  simp only[List.map_cons,List.map_nil]
  rw[this]
def zhw    (hi:i< (goalsL r g i).length):lAt r (goalsL r g i)[i] (goalsL r g i) r.clauses.length=goalsL r g (i+1):=by
 have: (goalsL r g i).getD i ⟨[],[]⟩= (goalsL r g i)[i]:=by simp[hi]
 show _=addL (goalsL r g i) (z2k (z2q r ((goalsL r g i).getD i ⟨[],[]⟩) r.clauses.length))
 rw[this]
 rfl
def wL_len    : (wL r L i).length=i:=by simp[wL]
def zja {r:RulesT} (hr:r.clauses.length≤24) {L:List GoalT} :∀{i:Nat},(wL r L i).flatten.length≤i*24
 |0=>by simp[wL]
 |i+1=>by
  have h:=zja hr (L:=L) (i:=i)
  have hf:=zcl (r:=r) (g:=L.getD i ⟨[],[]⟩) (n:=r.clauses.length)
  unfold wL at h⊢
  rw[List.range_succ,List.map_append,List.flatten_append,List.length_append]
  simp only[List.map_cons,List.map_nil,List.flatten_cons,List.flatten_nil,List.append_nil,List.length_map]
  omega
def y5j    :∀w∈wL r L i,∀x∈w,x.owner=1∧x.rank=0:=by
 intro w hw x hx
 obtain⟨j,_,rfl⟩:=List.mem_map.1 hw
 obtain⟨p,_,rfl⟩:=List.mem_map.1 hx
 exact⟨rfl,rfl⟩
noncomputable def z1n (r:RulesT) (L:List GoalT):List SpotT:=z3o (rkL r L) L.length (wL r L L.length)
def zj5 (r:RulesT) (g:GoalT):Prop:=∃i,(∀j,j≤i→j< (goalsL r g j).length)∧300< (goalsL r g (i+1)).length
def y8c (r:RulesT) (g:GoalT) (s0:Sto) (nx:Nat) (v:V) (st:St):Prop:=
 nx≤st.next∧(∀q,q<nx→sget st.s q=sget s0 q)∧((z0q r g≠0∧v= .tup [.nilP,.d (.int .i64 (z0q r g))])∨(z0q r g=0∧zj5 r (z1c g)∧v= .tup [.nilP,.d (.int .i64 9)])∨
  (z0q r g=0∧∃N L n0,Goals r (z1c g) L∧v= .tup [.ptr N.g 0,.d (.int .i64 0)]∧nx≤N.g∧N.g<st.next∧Game r N L (z1n r L) st.s n0 st.next))
def Og1.setc  {N:Nm}      (h:Og1 r N gv L es s nx) (hc:away gv c):Og1 r {N with c:=c} gv L es s nx:=by
 obtain⟨h1,h2,h3,h4,h5,h6,h7,⟨a,b,d,e,f,_⟩,h9⟩:=h
 exact⟨h1,h2,h3,h4,h5,h6,h7,⟨a,b,d,e,f,hc⟩,h9⟩
def zdu  (hr:r.ok)  (hg:g.ok)  {nx lw:Nat} :PostV (z06 G (.fn 46 [] []) [.d r.d,.d g.d] {s:=s,next:=nx,low:=lw}) (y8c r g s nx):=by
 have hC:=fun st=>zxb hr hg st
 simp only[RulesT.d,GoalT.d] at hC
 obtain⟨R,hR⟩:∃R:IC,R=T1.q46_43:=⟨_,rfl⟩
 obtain⟨R',hR'⟩:∃R:IC,R=T1.q46_100:=⟨_,rfl⟩
 refine z1b (first:= []) (args:= [.d r.d,.d g.d]) (cap:= []) T1.g46 rfl rfl rfl (fun e w_len harg=> ?_)
 have w_len:e.length=187:=w_len
 have w_0:e.getD 0 .undef= .d r.d:=harg 0 ψ
 have w_1:e.getD 1 .undef= .d g.d:=harg 1 ψ
 clear harg
 unfold T1.i46
 rw[←hR,←hR']
 by_cases he:z0q r g=0
 ·have hog:=zkc hg he
  obtain⟨hch,x,hx,hxa,_⟩:=z1y he
  have hxr:=z6n hch (List.mem_of_find?_eq_some hx)
  have hLs:=fun st=>zhm (g:=g) ω hog st
  have hbx:∀key st,boxV key (mkAgg [V.d (D.sl (List.map RelT.d r.rels)),V.d (D.sl (List.map ClauseT.d r.clauses)),V.nilS,V.nilS,V.nilS,V.nilF]) st=some (.ptr key 0,St.ins st key (.cells [V.d (D.sl (List.map RelT.d r.rels)),V.d (D.sl (List.map ClauseT.d r.clauses)),V.nilS,V.nilS,V.nilS,V.nilF])):=fun key st=>by
   simp only[boxV,z6o];rfl
  simp only[GoalT.d] at hLs
  have hcm:∀k,cellsV (.map k)= [.map k]:=fun _=>rfl
  have hcm2:∀k,(V.map k).isCell=true:=fun _=>rfl
  have hfb:∀a b:Nat,V.beq (.fn 72 [] [.ptr a 0,.ptr b 0]) (.fn 72 [] [.ptr a 0,.ptr b 0])=true:=fun a b=>by simp[V.beq,V.beqL]
  simp only[RulesT.d,GoalT.d,hC,he,hLs,hbx,hcm,hcm2,hfb,w_len,w_0,w_1,↓LA,LB,simprocAttr]
  obtain⟨g0,hg0⟩:∃g0,g0=z1c g:=⟨_,rfl⟩
  have hrg:=z84 hg he
  rw[←hg0] at hrg⊢
  obtain⟨N1,hN1⟩:∃N1:Nm,N1=⟨nx+12,nx+13,nx+22,nx+21,nx+25,nx+1⟩:=⟨_,rfl⟩
  have hN1k:N1.ok (nx+31):=by rw[hN1];constructor<;>simp<;>omega
  have hO1:Og1 r N1 .nilS [] [] ((nx+25,Obj.cells [V.fn 72 [] [V.ptr (nx+22) 0,V.ptr (nx+13) 0]]):: (nx+22,Obj.cells [V.map (nx+21)]):: (nx+21,Obj.map 153 []):: (nx+13,Obj.cells [V.ptr (nx+12) 0]):: (nx+12,Obj.cells [V.d (D.sl (List.map RelT.d r.rels)),V.d (D.sl (List.map ClauseT.d r.clauses)),V.nilS,V.nilS,V.nilS,V.fn 71 [V.ptr (nx+12) 0] []]):: (nx+1,Obj.cells [V.d (D.str g.rel),V.d (D.sl (List.map TreeT.d g.args))]):: (nx,Obj.cells [V.d (D.sl (List.map RelT.d r.rels)),V.d (D.sl (List.map ClauseT.d r.clauses))])::s) (nx+31):=by
   rw[hN1]
   refine⟨?_,?_,?_,?_,?_,y3q,GP.nil,⟨trivial,trivial,trivial,trivial,trivial,trivial⟩,fun _ _=>trivial⟩<;>simp (disch:=omega) only[z00,z03]<;>rfl
  have hpv:=y0u (lw:= (((nx.min (nx+13)).min (nx+12)).min (nx+22)).min (nx+25)) hO1 hN1k (Nat.le_refl _) hrg ψ
  rw[hN1] at hpv
  refine z0d hpv fun v st hR=> ?_
  rw[←hN1] at hR
  obtain⟨rfl,hn1,hf1,gv,es,hO2,haw⟩:=hR
  obtain⟨s1,n1,lw1⟩:=st
  have hn1:nx+31≤n1:=hn1
  have hL1:addG [] g0= [g0]:=by simp[addG]
  rw[hL1] at hO2⊢
  simp only[w_len,↓LA,LB,simprocAttr]
  obtain⟨N,hN⟩:∃N:Nm,N= {N1 with c:=n1} :=⟨_,rfl⟩
  have hNg:N.g=nx+12∧N.p=nx+13∧N.n=nx+22∧N.m=nx+21∧N.f=nx+25∧N.c=n1:=by rw[hN,hN1];exact⟨rfl,rfl,rfl,rfl,rfl,rfl⟩
  obtain⟨e1,e2,e3,e4,e5,e6⟩:=hNg
  have hNk:N.ok (n1+1):=by constructor<;>omega
  have hO3:Og1 r N gv [g0] es s1 n1:=by rw[hN];exact hO2.setc (hO2.gn n1 (Nat.le_refl _))
  have hz1:∀q,q<nx+31→q≠nx+21→q≠nx+12→sget s1 q=_:=fun q g1 g2 g3=>hf1 q g1 (by rw[hN1];exact g2) (by rw[hN1];exact g3) trivial
  have hzs:∀q,q<nx→sget s1 q=sget s q:=fun q g1=>by
   rw[hz1 q ω ω ω]
   simp (disch:=omega) only[z00]
  have hzb:sget s1 nx=some (.cells [V.d (D.sl (List.map RelT.d r.rels)),V.d (D.sl (List.map ClauseT.d r.clauses))]):=by
   rw[hz1 nx ω ω ω]
   simp (disch:=omega) only[z00,z03]
  obtain⟨S0,hS0⟩:∃S0,S0= (n1+1,Obj.cells [V.d (D.int IntKind.i64 0)]):: (n1,Obj.cells [V.nilS])::s1:=⟨_,rfl⟩
  have hPh:∀n',n1+2≤n' →Ph r N (n1+1) (n1+1) 0 gv .nilS (wL r (goalsL r g0 0) 0) (goalsL r g0 0) es S0 n' :=fun n' hn' =>
   ⟨hO3.step hNk (fun q hq hc=>by rw[hS0,z00 (fun e=>hq.elim ω fun hq=>hq (hO3.gn q ω)),z00 ω]) ω,by rw[e6,hS0,z00 ω];exact z03,by rw[hS0];exact z03,GP.nil,rfl,⟨hO3.gn _ ω,trivial⟩,ω,ω,ω⟩
  rw[←hS0]
  refine z0b (fun e0 s0 m env st=>∃(i nxi lwi:Nat) (si:Sto) (ib:Nat) (gw cw:V) (fs:List (D×V)),m=301-i∧(i≤301)∧(Ph r N (n1+1) ib i gw cw (wL r (goalsL r g0 i) i) (goalsL r g0 i) fs si nxi)∧((∀j,j<i→j< (goalsL r g0 j).length))∧(i≤(goalsL r g0 i).length)∧((goalsL r g0 i).length≤300)∧((∀q,q<nx+1→sget si q=sget s1 q))∧((∀q,q<nx+1→away gw q))∧n1+3≤nxi∧0≤lwi∧env.length=187∧env.getD 11 .undef= .ptr ib 0∧env.getD 2 .undef= .ptr nx 0∧env.getD 7 .undef= .ptr (nx+13) 0∧env.getD 9 .undef= .ptr (nx+25) 0∧env.getD 10 .undef= .ptr n1 0∧st= {s:=si,next:=nxi,low:=lwi}) ?_ (301) (by refine⟨0,_,_,_,n1+1,gv,.nilS,es,rfl,ω,hPh _ ω,(fun j h=>ω),Nat.zero_le _,(by simp[goalsL]),(fun q g1=>by rw[hS0,z00 ω,z00 ω]),(fun q g1=>haw q ω trivial),ω,Nat.zero_le _,?_,?_,?_,?_,?_,?_,rfl⟩<;>simp only[w_len,LB,simprocAttr])
  rintro m env st ⟨i,nxi,lwi,si,ib,gw,cw,fs,hm,i_0,i_1,i_2,i_3,i_4,i_5,i_6,w_ib,w_ilo,w_len,w_11,w_2,w_7,w_9,w_10,rfl⟩
  have w_iZ:=zf (x:=nxi) (b:=n1) (n:=3) ω ω
  have hLr:=z5l hrg i_2
  by_cases hi:i< (goalsL r g0 i).length
  ·rw[hR]
   refine y8p hNk i_1 hLr hi i_4 w_len (by rw[e2];exact w_7) (by rw[e5];exact w_9) (by rw[e6];exact w_10) w_11 ?_ ?_
   ·intro hle e st ib' gv' cv' es' w_len hE w_11 hP hf hg3 hn2
    obtain⟨s2,n2,lw2⟩:=st
    have hn2:nxi≤n2:=hn2
    rw[zhw hi] at hle hP
    rw[←y20 i_2 hi] at hP
    have w_2:e.getD 2 .undef=_:= (hE 2 ω).trans w_2
    have w_7:e.getD 7 .undef=_:= (hE 7 ω).trans w_7
    have w_9:e.getD 9 .undef=_:= (hE 9 ω).trans w_9
    have w_10:e.getD 10 .undef=_:= (hE 10 ω).trans w_10
    have hmono:i+1≤(goalsL r g0 (i+1)).length:=by
     obtain⟨M,eM⟩:=z9h (r:=r) (g:=g0) (i:=i)
     rw[eM,List.length_append];omega
    simp only[↓LA,simprocAttr]
    exact z09 (by refine⟨_,ω,i+1,_,_,_,ib',gv',cv',es',rfl,ω,hP,(fun j hj=>if h:j=i then h▸hi else i_2 j ω),hmono,hle,(fun q g1=> (hf q ω ω ω ω (i_6 q g1)).trans (i_5 q g1)),(fun q g1=>hg3 q ω (i_6 q g1)),ω,Nat.zero_le _,?_,?_,?_,?_,?_,?_,rfl⟩<;>simp only[w_len,w_11,w_2,w_7,w_9,w_10,simprocAttr])
   ·intro hgt e st h4 h5 hf hn2
    obtain⟨s2,n2,lw2⟩:=st
    have hn2:nxi≤n2:=hn2
    rw[zhw hi] at hgt
    simp only[h4,h5,↓LA,LB,simprocAttr]
    refine⟨by show nx≤n2;omega,fun q hq=> ((hf q ω ω ω ω (i_6 q ω)).trans (i_5 q ω)).trans (hzs q hq),.inr (.inl ⟨he,⟨i,fun j hj=>if h:j=i then h▸(by rw[←hg0];exact hi) else (by rw[←hg0];exact i_2 j ω),by rw[←hg0];exact hgt⟩,rfl⟩)⟩
  ·have hie:i= (goalsL r g0 i).length:=ω
   obtain⟨L,hL⟩:∃L,L=goalsL r g0 i:=⟨_,rfl⟩
   rw[←hL] at i_1 i_3 i_4 hi hie hLr
   have hGo:Goals r g0 L:=⟨by rw[←hie];exact hL,fun j hj=>i_2 j ω,i_4⟩
   have hL0:0<L.length:=by
    obtain⟨M,eM⟩:=z3i (r:=r) (g:=g0) (i:=0) (j:=i)
    rw[Nat.zero_add,←hL] at eM
    rw[eM];simp[goalsL]
   have w_p:sget si (nx+13)=some (.cells [.ptr (nx+12) 0]):=by have:=i_1.o.p;rwa [e1,e2] at this
   have w_g:sget si (nx+12)=some (.cells [.d (.sl (r.rels.map RelT.d)),.d (.sl (r.clauses.map ClauseT.d)),gw,.nilS,.nilS,.fn 71 [.ptr (nx+12) 0] []]):=by have:=i_1.o.g;rw[e1] at this;unfold gC at this;rwa [e1] at this
   have w_ib:=i_1.ii
   have hgl:opLen false gw=some L.length:=by rw[i_1.o.hg.len,List.length_map]
   have hli: ((i:Int)< (L.length:Nat))=False:=eq_false ω
   rw[hR]
   simp only[hgl,hli,w_len,w_11,w_7,w_p,w_g,w_ib,↓LA,LB,simprocAttr]
   rw[hR']
   have hcl24:= (z50 hch).1
   refine y69 hr (N:=N) (b2:=nx) (n0:=n1+1) (gv:=gw) (cv:=cw) (L:=L) (es:=fs) (W:=wL r L i) hNk ω ⟨ω,ω⟩ ((i_5 nx ω).trans hzb) (i_1.o.step hNk (fun _ _ _=>rfl) ω) hLr hL0 ω (wL_len.trans hie) (by have:=zja hcl24 (L:=L) (i:=i);omega) y5j i_1.cc (i_1.w.mono fun q hq=>⟨hq.1,by have:=hq.2.1;omega⟩) (by simp only[w_len,LB,simprocAttr]) (by simp only[w_2,LB,simprocAttr]) (by rw[e2];simp only[w_7,LB,simprocAttr]) (by rw[e6];simp only[w_10,LB,simprocAttr]) ?_
   intro e st h4 h5 hG hf hn2
   obtain⟨s2,n2,lw2⟩:=st
   have hn2:nxi≤n2:=Nat.le_trans (Nat.le_add_right _ _) hn2
   have hG:Game r N L (z3o (rkL r L) L.length (wL r L i)) s2 (n1+1) n2:=hG
   simp only[h4,h5,↓LA,LB,simprocAttr]
   refine⟨by show nx≤n2;omega,fun q hq=> ((hf q ω ω).trans (i_5 q ω)).trans (hzs q hq),.inr (.inr ⟨he,N,L,n1+1,by rw[←hg0];exact hGo,rfl,ω,by show N.g<n2;omega,?_⟩)⟩
   unfold z1n
   rw[←hie]
   rw[←hie] at hG
   exact hG
 ·simp only[RulesT.d,GoalT.d,hC,he,w_len,w_0,w_1,↓LA,LB,simprocAttr]
  exact⟨by show nx≤nx+_;omega,fun q hq=>by rw[z00 ω,z00 ω],.inl ⟨he,rfl⟩⟩
def bq (l:List Bool):List V:=scs (l.map D.bool)
def nq (l:List Nat):List V:=scs (l.map intD)
def z6a {l:Lb}  (h:n<l.length): (n+1≤(bq l).length)=True∧((bq l).drop n).take 1= [.d (.bool (bg l n))]∧∀b,(bq l).take n++ [.d (.bool b)]++ (bq l).drop (n+1)=bq (l.set n b):=by
 have h' :n< (l.map D.bool).length:=by simpa using h
 obtain⟨a1,a2⟩:=z9r h'
 refine⟨a1,?_,fun b=> ?_⟩
 ·unfold bq bg
  rw[a2]
  simp[h]
 ·have:= (z6b (x:= .bool b) h').2
  unfold bq
  rw[this,List.map_set]
def zxj   (h:n<l.length): (n+1≤(nq l).length)=True∧∀b:Nat,(nq l).take n++ [.d (.int .i64 b)]++ (nq l).drop (n+1)=nq (l.set n b):=by
 have h' :n< (l.map intD).length:=by simpa using h
 obtain⟨a1,a2⟩:=z9r h'
 refine⟨a1,fun b=> ?_⟩
 have:= (z6b (x:=intD b) h').2
 unfold nq
 rw[List.map_set,←this];rfl
theorem y80  :scs (List.replicate n (D.bool false))=bq (List.replicate n false):=by unfold bq;rw[List.map_replicate]
def y1q {l:Lb} : (bq l).length=l.length:=by simp[bq,scs]
def zpu {key:Nat} {st:St} (hn:n≤1000000):z4v key 1 false 1 [.d (.bool false)] (.d (.int .i64 (n:Nat))) (.d (.int .i64 (n:Nat))) st=some (.arr key 1 false 0 n,st.ins key (.cells (bq (z4q n)))):=by
 unfold z4q
 rw[←y80];exact zdq rfl ω ω
def zvg  {nx lw k k1:Nat} {a b:Lb} (h1:sget s k=some (.cells (bq a))) (h2:sget s k1=some (.cells (bq b))) (ha:a.length=n) (hb:b.length=n):
  z5d {s:=s,next:=nx,low:=lw} 1 (.arr k 1 false 0 n) (.arr k1 1 false 0 n)=some (.d (.int .i64 n),{s:=sset s k (.cells (bq b)),next:=nx,low:=Nat.min lw k}):=by
 have hr:=zlj (s:=s) (nx:=nx) (lw:=lw) (k:=k1) (ds:=b.map D.bool) h2
 rw[List.length_map,hb] at hr
 have hc: (scs (b.map D.bool)).all V.isCell=true:=by
  rw[List.all_eq_true];intro x hx
  obtain⟨d,hd,rfl⟩:=List.mem_map.1 hx
  obtain⟨c,_,rfl⟩:=List.mem_map.1 hd
  rfl
 have hm:Nat.min n n=n:=Nat.min_self n
 have hl:=y1q (l:=a)
 have hl2:=y1q (l:=b)
 simp only[z5d,hr,St.get,h1,hm,Nat.mul_one,Nat.zero_add]
 rw[if_pos ⟨trivial,ω,hc⟩]
 have e:splice (bq a) 0 ((scs (b.map D.bool)).take n)=bq b:=by
  have: (scs (b.map D.bool)).take n=bq b:=List.take_of_length_le (by show (bq b).length≤n;omega)
  rw[this]
  simp[splice,hl,hl2,ha,hb]
 rw[e];rfl
def gC4 (r:RulesT) (gp:Nat) (gv sv cv:V):List V:= [.d (.sl (r.rels.map RelT.d)),.d (.sl (r.clauses.map ClauseT.d)),gv,sv,cv,.fn 71 [.ptr gp 0] []]
structure GmC (r:RulesT) (gp kv:Nat) (gv sv:V) (sp:List SpotT) (S:Nat→Prop) (s:Sto):Prop where
 at_:sget s gp=some (.cells (gC4 r gp gv sv (.arr kv 1 false 0 sp.length)))
 sp:GP s false S 1 4 true sv (sp.map SpotT.d)
 gs:¬S gp
 ks:¬S kv
 ne:kv≠gp
theorem GmC.frame      {s':Sto} (h:GmC r gp kv gv sv sp S s) (hs:∀q,S q∨q=gp→sget s' q=sget s q):GmC r gp kv gv sv sp S s' :=⟨(hs _ (.inr rfl)).trans h.at_,h.sp.frame fun q hq=>hs q (.inl hq),h.gs,h.ks,h.ne⟩
structure RdN (s:Sto) (S:Nat→Prop) (v:V) (l:List Nat):Prop where
 cell:v.isCell=true∧cellsV v= [v]
 beq:V.beq v v=true
 len:opLen false v=some l.length
 rd:∀j (hj:j<l.length),∃p,z08 1 v (j:Int)=some p∧∀s' nx lw,(∀q,S q→sget s' q=sget s q)→z1s {s:=s',next:=nx,low:=lw} 1 false p=some (.d (.int .i64 (l[j]:Nat)))
theorem zim {s:Sto} {S:Nat→Prop} {n:Nat} :∀{l:List Nat} {cs:List V} {j:Nat} (hj:j<l.length),CVs (CQ s false S n) cs ((l.map intD).flatMap cellsD)→(cs.drop j).take 1= [.d (intD l[j])]
 | [],_,_,hj,_=>by simp at hj
 |_::_,[],_,_,h=>h.elim
 |x::l,c::cs,0,_,h=>by
  have:c= .d (intD x):=za4 h.1
  subst this;rfl
 |x::l,c::cs,j+1,hj,h=>by
  have:=zim (l:=l) (cs:=cs) (j:=j) (by simpa using hj) h.2
  simpa using this
def rdN     (h:CQ s false S 1 v (.sl (l.map intD))):RdN s S v l:=by
 refine⟨⟨h.cell.1,h.cell.2.1⟩,h.beq,?_,fun j hj=> ?_⟩
 ·rcases h with⟨rfl,_,_⟩|⟨rfl|rfl,e⟩|⟨k,es,ag,cs,ds,rfl,e,_⟩
  ·simp[opLen]
  ·injection e with e;simp at e;subst e;rfl
  ·injection e with e;simp at e;subst e;rfl
  ·injection e with e;subst e;simp[opLen]
 ·rcases h with⟨rfl,_,_⟩|⟨rfl|rfl,e⟩|⟨k,es,ag,cs,ds,rfl,e,h1,h2,h3,h4,h5⟩
  ·refine⟨_,z1p (enc:=intD) hj rfl,fun s' nx lw hs=> ?_⟩
   rfl
  ·injection e with e;simp at e;subst e;simp at hj
  ·injection e with e;simp at e;subst e;simp at hj
  ·injection e with e
   subst e
   have he:=h4 (intD l[j]) (List.mem_map_of_mem (List.getElem_mem hj))
   obtain⟨rfl,rfl⟩:es=1∧ag=false:=by
    rcases he with h|h
    ·obtain⟨_,_,h,_⟩:=h;cases h
    ·exact⟨h.2.1,h.1⟩
   refine⟨.ptr k j,by rw[List.length_map];exact z2f hj,fun s' nx lw hs=> ?_⟩
   have hl:=h5.length
   rw[(z15 (z0c z8u)).2,List.length_map,Nat.mul_one] at hl
   have hg: (cs.drop j).take 1= [.d (intD l[j])]:=zim hj h5
   have hc: ({s:=s',next:=nx,low:=lw} :St).cells? k=some cs:=by simp[St.cells?,scells,hs k h1,h2]
   simp only[z1s,hc]
   rw[if_pos ω,hg]
   rfl
def GP.spotAt     (h:GP s false S 1 4 true v (sp.map SpotT.d))  (hi:i<sp.length):
  ∃k cs nv,v= .arr k 4 true 0 sp.length∧S k∧sget s k=some (.cells cs)∧z08 4 v (i:Int)=some (.ptr k (i*4))∧i*4+4≤cs.length∧
   (cs.drop (i*4)).take 4= [.d (.int .i64 ((spA sp i).owner:Nat)),.d (.int .i64 (spA sp i).rank),nv,.d (.int .i64 ((spA sp i).clause:Nat))]∧RdN s S nv (spA sp i).next:=by
 rcases h with⟨_,e⟩|⟨k,cs,rfl,h1,h2,h3⟩
 ·cases sp with
  |nil=>simp at hi
  |cons x l=>simp at e
 ·have hl:=h3.length
  rw[(z15 (z0c zau)).2,List.length_map] at hl
  have hc:∃nv,(cs.drop (i*4)).take 4= [.d (.int .i64 ((spA sp i).owner:Nat)),.d (.int .i64 (spA sp i).rank),nv,.d (.int .i64 ((spA sp i).clause:Nat))]∧CQ s false (fun j=>S j∧j≠k) 1 nv (.sl ((spA sp i).next.map intD)):=by
   clear h2 hl
   induction sp generalizing cs i with
   |nil=>simp at hi
   |cons x l ih=>
    match cs,h3 with
    | [],h=>exact h.elim
    | [_],h=>exact h.2.elim
    | [_,_],h=>exact h.2.2.elim
    | [_,_,_],h=>exact h.2.2.2.elim
    |a::b::c::d::cs,h=>
     cases i with
     |zero=>
      have e1:a=_:=za4 h.1
      have e2:b=_:=za4 h.2.1
      have e3:d=_:=za4 h.2.2.2.1
      subst e1 e2 e3
      exact⟨c,rfl,h.2.2.1⟩
     |succ i=>
      have:=ih (cs:=cs) (i:=i) (by simpa using hi) h.2.2.2.2
      rw[show (i+1)*4=i*4+4 by omega]
      exact this
  obtain⟨nv,hc1,hc2⟩:=hc
  refine⟨k,cs,nv,by simp,h1,h2,?_,ω,hc1,?_⟩
  ·simp only[z08]
   rw[if_pos ⟨ω,by simp;omega,trivial⟩]
   simp
  ·exact rdN (hc2.mono fun j hj=>hj.1)
structure GmA (r:RulesT) (gp kv:Nat) (gv sv:V) (sp:List SpotT) (S:Nat→Prop) (nx:Nat) (s:Sto):Prop where
 gc:GmC r gp kv gv sv sp S s
 lt:gp<nx∧kv<nx∧∀q,S q→q<nx
 so:SpOk sp
 few:sp.length≤100000∧(∀i,i<sp.length→(spA sp i).next.length≤100000)
theorem GmA.frame       {s':Sto} (h:GmA r gp kv gv sv sp S nx s) (hn:nx≤nx') (hs:∀q,q<nx→q≠kv→sget s' q=sget s q):GmA r gp kv gv sv sp S nx' s' :=⟨h.gc.frame fun q hq=>by
  rcases hq with hq|rfl
  ·exact hs q (h.lt.2.2 q hq) fun e=>h.gc.ks (e▸hq)
  ·exact hs _ h.lt.1 h.gc.ne.symm,⟨by have:=h.lt.1;omega,by have:=h.lt.2.1;omega,fun q hq=>Nat.lt_of_lt_of_le (h.lt.2.2 q hq) hn⟩,h.so,h.few⟩
def zs3      {nx lw:Nat}  (hG:GmC r gp kv gv sv sp S s) {p:Nat} (hi:i<sp.length):
  z06 G (.fn 71 [.ptr gp 0] []) [.d (.int .i64 (i:Nat)),.d (.int .i64 (p:Nat))] {s:=s,next:=nx,low:=lw} =some (.d (.bool (decide ((spA sp i).owner=p))),{s:=s,next:=nx,low:=lw}):=by
 obtain⟨k,cs,nv,rfl,hk1,hk2,hk3,hk4,hk5,_⟩:=GP.spotAt hG.sp hi
 have w_at:sget s gp=some (.cells [_,_,_,_,_,_]):=hG.at_
 have hc0:i*4+1≤cs.length:=ω
 have hc1: (cs.drop (i*4)).take 1= [.d (.int .i64 ((spA sp i).owner:Nat))]:=by
  have:=congrArg (List.take 1) hk5
  rwa [List.take_take] at this
 have he: (((spA sp i).owner:Int)= (p:Int))= ((spA sp i).owner=p):=propext ⟨fun h=>ω,fun h=>ω⟩
 refine z5b (first:= [.ptr gp 0]) (args:= [.d (.int .i64 (i:Nat)),.d (.int .i64 (p:Nat))]) (cap:= []) (us:= [.d (.bool (decide ((spA sp i).owner=p)))]) T1.g71 rfl rfl rfl (fun e w_len harg=> ?_)
 have w_len:e.length=17:=w_len
 have w_0:e.getD 0 .undef= .ptr gp 0:=harg 0 ψ
 have w_1:e.getD 1 .undef= .d (.int .i64 (i:Nat)):=harg 1 ψ
 have w_2:e.getD 2 .undef= .d (.int .i64 (p:Nat)):=harg 2 ψ
 clear harg
 simp only[T1.i71,hk2,hk3,hc0,hc1,he,w_len,w_0,w_1,w_2,w_at,↓LA,LB,simprocAttr]
 exact ru1 (by first|exact Nat.le_refl _|exact z02 (Nat.le_refl _) ω|exact z02 (z02 (Nat.le_refl _) ω) ω) rfl
def zph   {p:Nat} {o:DS} (hl:o.1.length=sp.length):
  (cnt o.1<cnt (z16 sp inn p o sp.length).1∧cnt o.1+1≤sp.length∧drawS sp inn p (z16 sp inn p o sp.length)=drawS sp inn p o)∨(¬cnt o.1<cnt (z16 sp inn p o sp.length).1∧z16 sp inn p o sp.length=drawS sp inn p o):=by
 have h3:cnt (z16 sp inn p o sp.length).1≤sp.length:=by
  have:=znh (l:= (z16 sp inn p o sp.length).1)
  rw[z1w.1] at this;omega
 by_cases h:cnt o.1<cnt (z16 sp inn p o sp.length).1
 ·refine .inl ⟨h,ω,?_⟩
  rw[drawS.eq_def sp inn p o,if_pos ⟨h,h3⟩]
 ·refine .inr ⟨h,?_⟩
  rw[drawS,if_neg fun e=>h e.1]
def zt9    (hj:j<l.length):left inn out (l.take (j+1))= (left inn out (l.take j)|| (bg inn l[j]&& !bg out l[j])):=by
 unfold left
 rw[List.take_add_one,List.any_append,List.getElem?_eq_getElem hj]
 simp
def zyn   (h:∀j (hj:j<l.length),(bg inn l[j]&&bg out l[j])=false):hit inn out l=none:=by
 unfold hit
 rw[List.findIdx?_eq_none_iff]
 intro x hx
 obtain⟨j,hj,rfl⟩:=List.mem_iff_getElem.1 hx
 exact h j hj
def zym    (hj:j<l.length) (h1: (bg inn l[j]&&bg out l[j])=true) (h:∀i (hi:i<j),(bg inn (l[i]'ω)&&bg out (l[i]'ω))=false):hit inn out l=some j:=by
 unfold hit
 rw[List.findIdx?_eq_some_iff_getElem]
 exact⟨hj,h1,fun i hi=>by simpa using h i hi⟩
end Go.Lift.K
